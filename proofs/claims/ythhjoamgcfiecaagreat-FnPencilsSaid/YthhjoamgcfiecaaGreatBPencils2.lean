/- FnPencils: the law holds for every argument. Part 2 of 18 of the proof: Net, CmpB, Fmt, Find, IsQ, SS, Num, Symm, Symm2, Refl, FmtQ, LineOf, QvG, PrsQ, NmQ, NetK. No condition. -/
import Derived.Test.YthhjoamgcfiecaaGreatBPencils1
import Derived.Orders
import Derived.Lib.SlBytesRow
import Derived.Shelf.RegionOpenPlain
set_option linter.unusedVariables false
set_option linter.unusedSimpArgs false
namespace Go.Proofs.YthhjoamgcfiecaaGreat
open Go.RowKit
structure Gh where
 v : Nat → Value
 lo : Nat → Nat
 hi : Nat → Nat
inductive NS where
 | eq (u : Value)
 | rel (R : Gh → World → Prop)
def restr (i : Nat) (D : List Nat) (x : Gh) : Gh := ⟨fun j => if j = i ∨ j ∈ D then x.v j else undef, fun j => if j = i ∨ j ∈ D then x.lo j else 0, fun j => if j = i ∨ j ∈ D then x.hi j else 0⟩
def NS.holds (s : NS) (i : Nat) (D : List Nat) (x : Gh) (w : World) : Prop :=
 match s with
 | .eq u => x.v i = u
 | .rel R => R (restr i D x) w
def NS.stable (s : NS) : Prop :=
 match s with
 | .eq _ => True
 | .rel R => ∀ x w w', R x w → Below w.heap.size w w' → R x w'
theorem NS.holds_stable {s : NS} (h : s.stable) {i : Nat} {D : List Nat} {x : Gh} {w w' : World} (hh : s.holds i D x w) (hb : Below w.heap.size w w') : s.holds i D x w' := by
 cases s with
 | eq f => exact hh
 | rel R => exact h _ _ _ hh hb
theorem NS.holds_congr {s : NS} {i : Nat} {D : List Nat} {x y : Gh} {w : World} (hv : ∀ j, j = i ∨ j ∈ D → x.v j = y.v j ∧ x.lo j = y.lo j ∧ x.hi j = y.hi j) (hh : s.holds i D x w) : s.holds i D y w := by
 have e : restr i D x = restr i D y := by
  unfold restr
  congr 1 <;> funext j <;> split
  ·rename_i h; exact (hv j h).1
  ·rfl
  ·rename_i h; exact (hv j h).2.1
  ·rfl
  ·rename_i h; exact (hv j h).2.2
  ·rfl
 cases s with
 | eq u => exact (hv i (.inl rfl)).1.symm.trans hh
 | rel R =>
  show R _ w
  rw [← e]
  exact hh
def Gh.set (x : Gh) (i : Nat) (u : Value) (a b : Nat) : Gh := ⟨fun j => if j = i then u else x.v j, fun j => if j = i then a else x.lo j, fun j => if j = i then b else x.hi j⟩
section
variable {P : Program}
theorem act_eval_put {a : Act} {dst : Option Tmp} {v : Value} {t : Tmp} : (a.put dst v).eval (.tmp t) = if dst = some t ∧ t < a.tmps.size then v else a.eval (.tmp t) := by
 cases dst with
 | none => simp [Act.put]
 | some d =>
  by_cases e : d = t
  ·subst e
   by_cases hl : d < a.tmps.size
   ·simp [Act.put, Act.eval, Array.getD_eq_getD_getElem?, Array.getElem?_setIfInBounds, hl]
   ·simp [Act.put, Act.eval, Array.getD_eq_getD_getElem?, Array.getElem?_setIfInBounds, hl]
  ·simp [Act.put, Act.eval, Array.getD_eq_getD_getElem?, Array.getElem?_setIfInBounds, e]
theorem act_put_size {a : Act} {dst : Option Tmp} {v : Value} : (a.put dst v).tmps.size = a.tmps.size := by
 cases dst <;> simp [Act.put]
theorem act_put_defers {a : Act} {dst : Option Tmp} {v : Value} : (a.put dst v).defers = a.defers := by
 cases dst <;> rfl
theorem act_put_eq {a b : Act} {dst : Option Tmp} {v u : Value} (h : a.put dst v = a.put dst u) (hs : a.tmps.size = b.tmps.size) : b.put dst v = b.put dst u := by
 cases dst with
 | none => rfl
 | some d =>
  by_cases hl : d < a.tmps.size
  ·have h1 := congrArg (fun x : Act => x.eval (.tmp d)) h
   simp only [act_eval_put, hl, and_self, if_true] at h1
   rw [h1]
  ·have hb : b.tmps.size ≤ d := hs ▸ Nat.le_of_not_lt hl
   simp only [Act.put]
   rw [Array.setIfInBounds_eq_of_size_le hb, Array.setIfInBounds_eq_of_size_le hb]
theorem wp_transfer {o : Oper} {a b : Act} {w : World} {K : Value → World → Prop} {Q1 Q2 : Exit → Act → World → Prop} (he : execOp b.eval o = execOp a.eval o) (hs : a.tmps.size = b.tmps.size)
  (hp : ∀ c a w, ¬ Q1 (.panic c) a w) (hl : ¬ LetsOut Q1) (h : o.wp P a w (fun a' w' => ∃ u, a' = a.put o.dst u ∧ K u w') Q1) : o.wp P b w (fun b' w' => ∃ u, b' = b.put o.dst u ∧ K u w') Q2 := by
 unfold Oper.wp at *
 rw [he]
 generalize (execOp a.eval o).run P w = r at *
 cases r with
 | ok n w' =>
  cases n <;> simp only [Oper.upon] at h ⊢
  case value v =>
   obtain ⟨u, e, k⟩ := h
   exact ⟨u, act_put_eq e hs, k⟩
  case skip =>
   obtain ⟨u, e, k⟩ := h
   exact ⟨u, act_put_eq e hs, k⟩
  case defer d =>
   obtain ⟨u, e, k⟩ := h
   have := congrArg (fun x : Act => x.defers.length) e
   simp [act_put_defers] at this
  case enter f args =>
   refine Calls.mono h fun e w'' he => ?_
   cases e with
   | returned v =>
    obtain ⟨u, e, k⟩ := he
    exact ⟨u, act_put_eq e hs, k⟩
   | panicked c => exact absurd he (hp _ _ _)
   | outgrown => exact absurd he hl
  case row row args =>
   refine Rows.mono h fun v w'' he => ?_
   obtain ⟨u, e, k⟩ := he
   exact ⟨u, act_put_eq e hs, k⟩
 | halt x w' =>
  cases x <;> simp only [Oper.upon] at h ⊢
  case panic u => exact absurd h (hp _ _ _)
def dstAt (ops : Array Oper) (k : Nat) : Option Tmp := (ops[k]?).bind (·.dst)
def actP (ops : Array Oper) (a : Act) (v : Nat → Value) (p : Nat → Bool) : Nat → Act
 | 0 => a
 | k + 1 => if p k then (actP ops a v p k).put (dstAt ops k) (v k) else actP ops a v p k
def netAct (ops : Array Oper) (a : Act) (v : Nat → Value) : Nat → Act
 | 0 => a
 | k + 1 => (netAct ops a v k).put (dstAt ops k) (v k)
theorem netE : (∀ (ops : Array Oper) (a : Act) (v : Nat → Value), netAct ops a v 0 = a) ∧ (∀ (ops : Array Oper) (a : Act) (v : Nat → Value) (k : Nat), netAct ops a v (k + 1) = (netAct ops a v k).put (dstAt ops k) (v k)) ∧ (∀ (ops : Array Oper) (k : Nat), dstAt ops k = (ops[k]?).bind (·.dst)) ∧
  (∀ (l : List Oper) (i : Nat), l.toArray[i]? = l[i]?) ∧ (∀ (x : Oper) (l : List Oper), (x :: l)[0]? = some x) ∧ (∀ (x : Oper) (l : List Oper) (i : Nat), (x :: l)[i + 1]? = l[i]?) ∧ (∀ (x : Oper) (f : Oper → Option Tmp), (some x).bind f = f x) ∧
  (∀ (a : Act) (v : Value), a.put none v = a) ∧ (∀ (a : Act) (d : Tmp) (v : Value), a.put (some d) v = { a with tmps := a.tmps.setIfInBounds d v }) ∧ (∀ (l : List Value) (i : Nat) (x : Value), l.toArray.setIfInBounds i x = (l.set i x).toArray) ∧ (∀ (a b : Value) (l : List Value), (a :: l).set 0 b = b :: l) ∧ (∀ (a b : Value) (l : List Value) (i : Nat), (a :: l).set (i + 1) b = a :: l.set i b) :=
 ⟨fun _ _ _ => rfl, fun _ _ _ _ => rfl, fun _ _ => rfl, fun _ _ => by simp, fun _ _ => rfl, fun _ _ _ => rfl, fun _ _ => rfl, fun _ _ => rfl, fun _ _ _ => rfl, fun _ _ _ => by simp, fun _ _ _ => rfl, fun _ _ _ _ => rfl⟩
section
variable {ops : Array Oper} {a : Act} {v v' : Nat → Value} {p q : Nat → Bool}
theorem actP_size : ∀ k, (actP ops a v p k).tmps.size = a.tmps.size
 | 0 => rfl
 | k + 1 => by
  unfold actP
  split
  ·rw [act_put_size, actP_size k]
  ·exact actP_size k
theorem actP_congr : ∀ k, (∀ j, j < k → p j = q j ∧ (p j = true → v j = v' j)) → actP ops a v p k = actP ops a v' q k
 | 0, _ => rfl
 | k + 1, h => by
  have ih := actP_congr k (fun j hj => h j (by omega))
  have hk := h k (by omega)
  unfold actP
  rw [← hk.1, ih]
  split
  ·rename_i hp; rw [hk.2 hp]
  ·rfl
theorem actP_net : ∀ k, (∀ j, j < k → p j = true) → actP ops a v p k = netAct ops a v k
 | 0, _ => rfl
 | k + 1, h => by
  have ih := actP_net k (fun j hj => h j (by omega))
  unfold actP netAct
  rw [h k (by omega), if_pos rfl, ih]
theorem actP_none : ∀ k i, i ≤ k → (∀ j, i ≤ j → j < k → p j = false) → actP ops a v p k = actP ops a v p i
 | 0, i, hi, _ => by
  have e : i = 0 := by omega
  rw [e]
 | k + 1, i, hi, h => by
  by_cases e : i = k + 1
  ·rw [e]
  ·have ih := actP_none k i (by omega) (fun j h1 h2 => h j h1 (by omega))
   rw [← ih]
   conv => lhs; unfold actP
   rw [h k (by omega) (by omega)]
   rfl
theorem actP_eval (t : Tmp) : ∀ k, (∀ j, j < k → dstAt ops j = some t → p j = q j) → (actP ops a v p k).eval (.tmp t) = (actP ops a v q k).eval (.tmp t)
 | 0, _ => rfl
 | k + 1, h => by
  have ih := actP_eval t k (fun j hj => h j (by omega))
  unfold actP
  by_cases e : dstAt ops k = some t
  ·rw [← h k (by omega) e]
   split
   ·rw [act_eval_put, act_eval_put, actP_size, actP_size, ih]
   ·exact ih
  ·have h1 : ∀ (b : Act) (u : Value), (b.put (dstAt ops k) u).eval (.tmp t) = b.eval (.tmp t) := fun b u => by rw [act_eval_put, if_neg (by intro x; exact e x.1)]
   split <;> split <;> simp only [h1, ih]
theorem actP_evalC (x : Operand) (hx : ∀ t, x ≠ .tmp t) (b c : Act) : b.eval x = c.eval x := by
 cases x with
 | tmp t => exact absurd rfl (hx t)
 | _ => rfl
theorem actP_add {i : Nat} {u : Value} (hv : ∀ j, j ≠ i → p j = true → v' j = v j) (hvi : v' i = u) (hp : p i = false) (hq : ∀ j, q j = (p j || j == i)) (hd : ∀ j d, i < j → p j = true → dstAt ops j = some d → dstAt ops i ≠ some d) :
  ∀ k, i < k → (actP ops a v p k).put (dstAt ops i) u = actP ops a v' q k
 | 0, h => absurd h (by omega)
 | k + 1, h => by
  by_cases e : i = k
  ·subst e
   have h0 : actP ops a v p i = actP ops a v' q i := actP_congr i fun j hj => ⟨by rw [hq]; simp; omega, fun hj' => (hv j (by omega) hj').symm⟩
   conv => lhs; unfold actP
   conv => rhs; unfold actP
   rw [hp, hq, if_neg (by simp), if_pos (by simp), hvi, h0]
  ·have ih := actP_add hv hvi hp hq hd k (by omega)
   conv => lhs; unfold actP
   conv => rhs; unfold actP
   have hqk : q k = p k := by rw [hq]; simp; omega
   rw [hqk, ← ih]
   split
   ·rename_i hpk
    rw [hv k (by omega) hpk]
    rw [Act.put_comm _ (v k) u (fun d hdd => hd k d (by omega) hpk hdd)]
   ·rfl
end
def directOf (o : Oper) : List Nat := (o.after.toList.filter fun e => Region.binds .any e).map (·.on)
def netAt (ops : Array Oper) (D : List (List Nat)) (m i : Nat) (o : Oper) : Bool :=
 o.guard.isNone && (directOf o).all (· < i) && (D.getD i []).all (fun j => decide (j < i) && ((directOf o).contains j || (directOf o).any fun k => (D.getD k []).contains j)) &&
 (List.range ops.size).all (fun k => match dstAt ops k with
  | none => true
  | some d => (!(o.looksAt ops).contains d || (D.getD i []).contains k || (D.getD k []).contains i) && (k == i || dstAt ops i != some d || (D.getD i []).contains k || (D.getD k []).contains i)) &&
 (decide (i < m) || (List.range i).all fun j => (D.getD i []).contains j)
def netFrom (ops : Array Oper) (D : List (List Nat)) (m : Nat) : Nat → List Oper → Bool
 | _, [] => true
 | i, o :: l => netAt ops D m i o && netFrom ops D m (i + 1) l
def netB (ops : Array Oper) (D : List (List Nat)) (m : Nat) : Bool := decide (m ≤ ops.size) && Region.noSelect ops && netFrom ops D m 0 ops.toList
theorem netFrom_spec {ops : Array Oper} {D : List (List Nat)} {m : Nat} : ∀ (l : List Oper) (k : Nat), netFrom ops D m k l = true → ∀ j o, l[j]? = some o → netAt ops D m (k + j) o = true
 | [], _, _, _, _, h => by simp at h
 | x :: l, k, h, 0, o, hj => by
  simp only [netFrom, Bool.and_eq_true] at h
  simp at hj
  subst hj
  exact h.1
 | x :: l, k, h, j + 1, o, hj => by
  simp only [netFrom, Bool.and_eq_true] at h
  have := netFrom_spec l (k + 1) h.2 j o (by simpa using hj)
  rwa [show k + 1 + j = k + (j + 1) by omega] at this
structure NetOk (ops : Array Oper) (D : List (List Nat)) (m i : Nat) (o : Oper) : Prop where
 guard : o.guard = none
 direct : ∀ e ∈ o.after, Region.binds .any e = true → e.on < i
 dlt : ∀ j ∈ D.getD i [], j < i
 danc : ∀ (S : Nat → Prop), (∀ e ∈ o.after, Region.binds .any e = true → S e.on) → (∀ k, S k → ∀ j ∈ D.getD k [], S j) → ∀ j ∈ D.getD i [], S j
 looks : ∀ k d, dstAt ops k = some d → d ∈ o.looksAt ops → k ∈ D.getD i [] ∨ i ∈ D.getD k []
 dsts : ∀ k d, k ≠ i → dstAt ops k = some d → dstAt ops i = some d → k ∈ D.getD i [] ∨ i ∈ D.getD k []
 tail : m ≤ i → ∀ j, j < i → j ∈ D.getD i []
theorem netAt_spec {ops : Array Oper} {D : List (List Nat)} {m i : Nat} {o : Oper} (h : netAt ops D m i o = true) : NetOk ops D m i o := by
 simp only [netAt, Bool.and_eq_true, List.all_eq_true, Bool.or_eq_true, decide_eq_true_eq, List.mem_range] at h
 obtain ⟨⟨⟨⟨h1, h2⟩, h3⟩, h4⟩, h5⟩ := h
 have hdir : ∀ e ∈ o.after, Region.binds .any e = true → e.on ∈ directOf o := fun e he hb => by
  unfold directOf
  rw [List.mem_map]
  exact ⟨e, by rw [List.mem_filter]; exact ⟨by simpa using he, hb⟩, rfl⟩
 have hk : ∀ {k : Nat} {d : Tmp}, dstAt ops k = some d → k < ops.size := fun {k d} hd => by
  rcases Nat.lt_or_ge k ops.size with h | h
  ·exact h
  ·simp [dstAt, Array.getElem?_eq_none h] at hd
 refine ⟨by simpa using h1, fun e he hb => h2 _ (hdir e he hb), fun j hj => (h3 j hj).1, fun S hS hc j hj => ?_, fun k d hd hl => ?_, fun k d hne hd hdi => ?_, fun hm j hj => ?_⟩
 ·have hD : ∀ k ∈ directOf o, S k := fun k hk => by
   unfold directOf at hk
   rw [List.mem_map] at hk
   obtain ⟨e, he, rfl⟩ := hk
   rw [List.mem_filter] at he
   exact hS e (by simpa using he.1) he.2
  rcases (h3 j hj).2 with h | h
  ·exact hD j (by simpa using h)
  ·rw [List.any_eq_true] at h
   obtain ⟨k, hk, hkj⟩ := h
   exact hc k (hD k hk) j (by simpa using hkj)
 ·have := h4 k (hk hd)
  rw [hd] at this
  simp only [Bool.and_eq_true, Bool.or_eq_true, Bool.not_eq_true', List.contains_iff_mem, List.contains_eq_mem, decide_eq_true_eq, decide_eq_false_iff_not] at this
  rcases this.1 with (h | h) | h
  ·exact absurd hl h
  ·exact .inl h
  ·exact .inr h
 ·have := h4 k (hk hd)
  rw [hd] at this
  simp only [Bool.and_eq_true, Bool.or_eq_true, List.contains_eq_mem, decide_eq_true_eq, beq_iff_eq, bne_iff_ne] at this
  rcases this.2 with ((h | h) | h) | h
  ·exact absurd h hne
  ·exact absurd hdi h
  ·exact .inl h
  ·exact .inr h
 ·rcases h5 with h | h
  ·omega
  ·simpa using h j hj
section
variable {ops : Array Oper} {Q : Exit → Act → World → Prop} {sp : List NS} {D : List (List Nat)} {m : Nat} {a0 : Act} {w0 : World}
def known (sp : List NS) (D : List (List Nat)) (x : Gh) (i : Nat) (w : World) : Prop := (sp.getD i (.eq undef)).holds i (D.getD i []) x w
def netDo (P : Program) (ops : Array Oper) (sp : List NS) (D : List (List Nat)) (a0 : Act) (w0 : World) (i : Nat) (o : Oper) : Prop :=
 ∀ (x : Gh) (w : World), Below w0.heap.size w0 w → (∀ j ∈ D.getD i [], known sp D x j w ∧ x.hi j ≤ w.heap.size) → ∀ Q' : Exit → Act → World → Prop,
  (∀ u w', Below w.heap.size w w' → (sp.getD i (.eq undef)).holds i (D.getD i []) (x.set i u w.heap.size w'.heap.size) w' → Q' .normal ((netAct ops a0 x.v i).put o.dst u) w') → wpList P ops Q' [o] (netAct ops a0 x.v i) w
theorem net_tail (hok : ∀ i o, ops[i]? = some o → NetOk ops D m i o) : ∀ (fuel k : Nat) (listed : Array Bool) (a : Act) (w : World), fuel + k = ops.size → m ≤ k → listed.size = ops.size → (∀ j, listed.getD j false = decide (j < k)) →
  wpList P ops Q (ops.toList.drop k) a w → wpAny P .any ops Q fuel listed a w
 | fuel, k, listed, a, w, hf, hm, hls, hl, h => by
  have hld : ∀ j, j < ops.size → listed.getD j true = decide (j < k) := fun j hj => by
   rw [← hl j]
   simp [Array.getD_eq_getD_getElem?, Array.getElem?_eq_getElem (show j < listed.size by omega)]
  have hr : ∀ i ∈ Region.ready .any ops listed, i = k ∧ k < ops.size := fun i hi => by
   obtain ⟨h0, o, ho, hall⟩ := mem_ready.1 hi
   have hin := (Array.getElem?_eq_some_iff.1 ho).1
   rw [hld i hin] at h0
   have hik : k ≤ i := by simpa using h0
   refine ⟨?_, by omega⟩
   have hcl := (hok i o ho).danc (fun j => j < k) (fun e he hb => by have := hall e he hb; rw [hl] at this; simpa using this) (fun j hj x hx => by
    have hjs : j < ops.size := by omega
    have := (hok j _ (Array.getElem?_eq_getElem hjs)).dlt x hx
    omega)
   rcases Nat.lt_or_ge k i with hlt | hge
   ·have := hcl k ((hok i o ho).tail (by omega) k hlt)
    omega
   ·omega
  cases fuel with
  | zero =>
   refine ⟨?_, ?_⟩
   ·apply List.eq_nil_iff_forall_not_mem.2
    intro i hi
    have := hr i hi
    omega
   ·rw [List.drop_of_length_le (by simp; omega)] at h
    exact h
  | succ fuel =>
   have hks : k < ops.size := by omega
   have hke := Array.getElem?_eq_getElem hks
   have hdrop : ops.toList.drop k = ops[k] :: ops.toList.drop (k + 1) := by
    rw [List.drop_eq_getElem_cons (by simpa using hks)]
    simp
   rw [hdrop] at h
   have hready : k ∈ Region.ready .any ops listed := mem_ready.2 ⟨by rw [hld k hks]; simp, _, hke, fun e he hb => by rw [hl]; simpa using (hok k _ hke).direct e he hb⟩
   refine ⟨fun h0 => (by rw [h0] at hready; cases hready), fun i hi => ?_⟩
   obtain ⟨rfl, _⟩ := hr i hi
   unfold wpOp
   simp only [hke]
   have hw : Region.wanted ops[i] (yielded ops a.tmps) = true := by simp [Region.wanted, (hok i _ hke).guard]
   simp only [wpList, hw, if_true] at h ⊢
   have nxt : ∀ a w, wpList P ops Q (ops.toList.drop (i + 1)) a w → wpAny P .any ops Q fuel (listed.setIfInBounds i true) a w := fun a w h =>
    net_tail hok fuel (i + 1) _ a w (by omega) (by omega) (by simpa using hls) (fun j => by
     by_cases e : i = j
     ·subst e
      simp [Array.getD_eq_getD_getElem?, Array.getElem?_setIfInBounds, hls, hks]
     ·rw [getD_set_ne _ e, hl]
      congr 1
      rw [eq_iff_iff]
      omega) h
   rcases h with h | h
   ·exact .inl (Oper.wp_mono nxt h)
   ·exact .inr h
theorem net_any (hB : netB ops D m = true) (hst : ∀ s ∈ sp, s.stable) (hdo : ∀ i o, i < m → ops[i]? = some o → netDo P ops sp D a0 w0 i o)
  (hend : ∀ x w, Below w0.heap.size w0 w → (∀ i, i < m → known sp D x i w) → (∀ i, i < m → w0.heap.size ≤ x.lo i ∧ x.lo i ≤ x.hi i ∧ x.hi i ≤ w.heap.size) → (∀ i j, i < m → j < m → i ≠ j → x.hi i ≤ x.lo j ∨ x.hi j ≤ x.lo i) → wpList P ops Q (ops.toList.drop m) (netAct ops a0 x.v m) w) :
  ∀ (fuel : Nat) (listed : Array Bool) (x : Gh) (w : World), ((List.range ops.size).filter fun j => !listed.getD j false).length = fuel → listed.size = ops.size → (∀ j, m ≤ j → listed.getD j false = false) →
   (∀ i, listed.getD i false = true → ∀ j ∈ D.getD i [], listed.getD j false = true) → Below w0.heap.size w0 w → (∀ i, listed.getD i false = true → known sp D x i w) → (∀ i, listed.getD i false = true → w0.heap.size ≤ x.lo i ∧ x.lo i ≤ x.hi i ∧ x.hi i ≤ w.heap.size) →
   (∀ i j, listed.getD i false = true → listed.getD j false = true → i ≠ j → x.hi i ≤ x.lo j ∨ x.hi j ≤ x.lo i) →
   wpAny P .any ops Q fuel listed (actP ops a0 x.v (fun j => listed.getD j false) ops.size) w := by
 simp only [netB, Bool.and_eq_true, decide_eq_true_eq] at hB
 obtain ⟨⟨hm, hns⟩, hnf⟩ := hB
 have hok : ∀ i o, ops[i]? = some o → NetOk ops D m i o := fun i o ho => netAt_spec (by
  have := netFrom_spec ops.toList 0 hnf i o (by simpa using ho)
  simpa using this)
 have hst' : ∀ i, (sp.getD i (.eq undef)).stable := fun i => by
  rw [List.getD_eq_getElem?_getD]
  rcases h : sp[i]? with _ | s
  ·trivial
  ·exact hst s (List.mem_of_getElem? h)
 intro fuel
 induction fuel with
 | zero =>
  intro listed x w hc hls hlm hcl hb hkn hiv hdj
  have hall : ∀ j, j < ops.size → listed.getD j false = true := fun j hj => by
   rw [List.length_eq_zero_iff, List.filter_eq_nil_iff] at hc
   have := hc j (List.mem_range.2 hj)
   simpa using this
  have hms : m = ops.size := by
   rcases Nat.lt_or_ge m ops.size with h | h
   ·have := hall m h
    rw [hlm m (Nat.le_refl _)] at this
    cases this
   ·omega
  refine net_tail hok 0 ops.size listed _ w (by omega) (by omega) hls (fun j => ?_) ?_
  ·by_cases hj : j < ops.size
   ·rw [hall j hj]; simp [hj]
   ·rw [hlm j (by omega)]; simp [hj]
  ·have := hend x w hb (fun i hi => hkn i (hall i (by omega))) (fun i hi => hiv i (hall i (by omega))) (fun i j hi hj => hdj i j (hall i (by omega)) (hall j (by omega)))
   rw [← actP_net (p := fun j => listed.getD j false) m (fun j hj => hall j (by omega))] at this
   rwa [hms] at this
 | succ fuel ih =>
  intro listed x w hc hls hlm hcl hb hkn hiv hdj
  by_cases hfull : ∀ j, j < m → listed.getD j false = true
  · -- the tail
   have hl : ∀ j, listed.getD j false = decide (j < m) := fun j => by
    by_cases hj : j < m
    ·rw [hfull j hj]; simp [hj]
    ·rw [hlm j (by omega)]; simp [hj]
   have hcnt : fuel + 1 + m = ops.size := by
    rw [← hc]
    have e : (List.range ops.size).filter (fun j => !listed.getD j false) = (List.range' m (ops.size - m)) := by
     have e1 : (List.range ops.size) = List.range m ++ List.range' m (ops.size - m) := by
      have h := List.range'_append_1 (s := 0) (m := m) (n := ops.size - m)
      rw [Nat.zero_add] at h
      rw [List.range_eq_range', List.range_eq_range', h]
      congr 1
      omega
     rw [e1, List.filter_append]
     rw [List.filter_eq_nil_iff.2 (fun j hj => by rw [hl]; simp at hj ⊢; exact hj), List.nil_append]
     rw [List.filter_eq_self.2 (fun j hj => by rw [hl]; simp [List.mem_range'] at hj ⊢; omega)]
    rw [e, List.length_range']
    omega
   refine net_tail hok (fuel + 1) m listed _ w (by omega) (Nat.le_refl _) hls hl ?_
   have := hend x w hb (fun i hi => hkn i (hfull i hi)) (fun i hi => hiv i (hfull i hi)) (fun i j hi hj => hdj i j (hfull i hi) (hfull j hj))
   rw [← actP_net (p := fun j => listed.getD j false) m hfull] at this
   rwa [actP_none (p := fun j => listed.getD j false) ops.size m hm (fun j h1 _ => hlm j h1)]
  · -- one of the net
   have hne : Region.ready .any ops listed ≠ [] := by
    intro h0
    have : ∀ n, ∀ j, j < n → j < m → listed.getD j false = true := by
     intro n
     induction n with
     | zero => intro j hj; omega
     | succ n ihn =>
      intro j hj hjm
      by_cases e : j < n
      ·exact ihn j e hjm
      ·rcases hlj : listed.getD j false with _ | _
       ·exfalso
        have hjs : j < ops.size := by omega
        have hje := Array.getElem?_eq_getElem hjs
        have : j ∈ Region.ready .any ops listed := mem_ready.2 ⟨by
         rw [← hlj]
         simp [Array.getD_eq_getD_getElem?, Array.getElem?_eq_getElem (show j < listed.size by omega)], _, hje, fun e he hb => by
         have := (hok j _ hje).direct e he hb
         exact ihn e.on (by omega) (by omega)⟩
        rw [h0] at this
        cases this
       ·rfl
    exact hfull fun j hj => this (j + 1) j (by omega) hj
   refine ⟨fun h0 => absurd h0 hne, fun i hi => ?_⟩
   obtain ⟨h0, o, ho, hall⟩ := mem_ready.1 hi
   have his := (Array.getElem?_eq_some_iff.1 ho).1
   have hO := hok i o ho
   have hDl : ∀ j ∈ D.getD i [], listed.getD j false = true := hO.danc (fun j => listed.getD j false = true) hall (fun k hk j hj => hcl k hk j hj)
   have him : i < m := by
    rcases Nat.lt_or_ge i m with h | h
    ·exact h
    ·exact absurd (fun j hj => hDl j (hO.tail h j (by omega))) hfull
   have hli : listed.getD i false = false := by
    rw [← h0]
    simp [Array.getD_eq_getD_getElem?, Array.getElem?_eq_getElem (show i < listed.size by omega)]
   have hpre := hdo i o him ho x w hb (fun j hj => ⟨hkn j (hDl j hj), (hiv j (hDl j hj)).2.2⟩) (fun e b w' => e = .normal ∧ ∃ u, b = (netAct ops a0 x.v i).put o.dst u ∧ (Below w.heap.size w w' ∧ (sp.getD i (.eq undef)).holds i (D.getD i []) (x.set i u w.heap.size w'.heap.size) w'))
    (fun u w' h1 h2 => ⟨rfl, u, rfl, h1, h2⟩)
   have hwant : ∀ b : Act, Region.wanted o (yielded ops b.tmps) = true := fun b => by simp [Region.wanted, hO.guard]
   have hnl : ¬ LetsOut (fun (e : Exit) (b : Act) (w' : World) => e = .normal ∧ ∃ u, b = (netAct ops a0 x.v i).put o.dst u ∧ (Below w.heap.size w w' ∧ (sp.getD i (.eq undef)).holds i (D.getD i []) (x.set i u w.heap.size w'.heap.size) w')) := by
    rintro ⟨b, w', h, _⟩
    cases h
   simp only [wpList, hwant, if_true] at hpre
   rcases hpre with hpre | hpre
   case inr => exact absurd hpre.2 hnl
   simp only [true_and] at hpre
   have hexec : execOp (actP ops a0 x.v (fun j => listed.getD j false) ops.size).eval o = execOp (netAct ops a0 x.v i).eval o := by
    refine execOp_congr o (fun cs b => Region.noSelect_spec hns i o cs b ho) fun y hx => ?_
    by_cases hxt : ∃ t, y = .tmp t
    ·obtain ⟨t, rfl⟩ := hxt
     have hlook : t ∈ o.looksAt ops := List.mem_append_left _ (List.mem_filterMap.2 ⟨.tmp t, by simpa using hx, rfl⟩)
     have e1 : netAct ops a0 x.v i = actP ops a0 x.v (fun j => decide (j < i)) ops.size := by
      rw [actP_none (p := fun j => decide (j < i)) ops.size i (by omega) (fun j h1 _ => by simp; omega)]
      exact (actP_net (p := fun j => decide (j < i)) i (fun j hj => by simp [hj])).symm
     rw [e1]
     refine actP_eval t ops.size fun j hj hd => ?_
     rcases hO.looks j t hd hlook with h | h
     ·rw [hDl j h]; have := hO.dlt j h; simp [this]
     ·have hlt := (hok j _ (Array.getElem?_eq_getElem hj)).dlt i h
      have : listed.getD j false = false := by
       rcases hlj : listed.getD j false with _ | _
       ·rfl
       ·have := hcl j hlj i h
        rw [hli] at this
        cases this
      rw [this]; simp; omega
    ·exact actP_evalC y (fun t h => hxt ⟨t, h⟩) _ _
   have hsz : (netAct ops a0 x.v i).tmps.size = (actP ops a0 x.v (fun j => listed.getD j false) ops.size).tmps.size := by
    rw [actP_size, ← actP_net (p := fun _ => true) i (fun _ _ => rfl), actP_size]
   have hT := wp_transfer (Q2 := Q) hexec hsz (fun c b w' h => by cases h.1) hnl hpre
   unfold wpOp
   simp only [ho, hwant, if_true]
   refine .inl (Oper.wp_mono ?_ hT)
   rintro b w' ⟨u, rfl, hbw, hh⟩
   have hdst : o.dst = dstAt ops i := by simp [dstAt, ho]
   have hlq : ∀ j, (listed.setIfInBounds i true).getD j false = (listed.getD j false || j == i) := fun j => by
    by_cases e : i = j
    ·subst e
     simp [Array.getD_eq_getD_getElem?, Array.getElem?_setIfInBounds, hls, his]
    ·rw [getD_set_ne _ e]
     simp [Ne.symm e]
   rw [hdst, actP_add (v' := (x.set i u w.heap.size w'.heap.size).v) (q := fun j => (listed.setIfInBounds i true).getD j false) (fun j hj _ => by simp [Gh.set, hj]) (by simp [Gh.set]) hli hlq (fun j d hij hlj hdj hdi => by
    rcases hO.dsts j d (by omega) hdj hdi with h | h
    ·have := hO.dlt j h; omega
    ·have := hcl j hlj i h
     rw [hli] at this
     cases this) ops.size his]
   refine ih _ _ _ ?_ (by simpa using hls) (fun j hj => by rw [hlq, hlm j hj]; simp; omega) (fun k hk j hj => ?_) (hb.trans (hbw.mono hb.size)) (fun k hk => ?_) (fun k hk => ?_) (fun k j hk hj hkj => ?_)
   · -- the count
    have hmem : i ∈ (List.range ops.size).filter fun j => !listed.getD j false := by
     rw [List.mem_filter]; exact ⟨List.mem_range.2 his, by rw [hli]; rfl⟩
    have e : (List.range ops.size).filter (fun j => !(listed.setIfInBounds i true).getD j false) = ((List.range ops.size).filter fun j => !listed.getD j false).filter (fun j => j != i) := by
     rw [List.filter_filter]
     congr 1
     funext j
     rw [hlq]
     simp [Bool.not_or, Bool.and_comm, bne]
    have hnd : ((List.range ops.size).filter fun j => !listed.getD j false).Nodup := List.nodup_range.filter _
    rw [e]
    have := List.length_erase_of_mem hmem
    rw [hnd.erase_eq_filter, hc] at this
    simpa using this
   ·rw [hlq] at hk ⊢
    simp only [Bool.or_eq_true, beq_iff_eq] at hk ⊢
    rcases hk with hk | rfl
    ·exact .inl (hcl k hk j hj)
    ·exact .inl (hDl j hj)
   ·rw [hlq] at hk
    simp only [Bool.or_eq_true, beq_iff_eq] at hk
    unfold known
    by_cases e : k = i
    ·subst e
     exact hh
    ·rcases hk with hk | hk
     ·refine NS.holds_congr (x := x) (fun j hj => ?_) (NS.holds_stable (hst' k) (hkn k hk) hbw)
      have hji : j ≠ i := by
       rcases hj with rfl | hj
       ·exact e
       ·rintro rfl
        have := hcl k hk j hj
        rw [hli] at this
        cases this
      simp [Gh.set, hji]
     ·exact absurd hk e
   ·rw [hlq] at hk
    simp only [Bool.or_eq_true, beq_iff_eq] at hk
    by_cases e : k = i
    ·subst e
     simp only [Gh.set, if_true]
     exact ⟨hb.size, hbw.size, Nat.le_refl _⟩
    ·have := hiv k (hk.resolve_right e)
     have := hbw.size
     simp only [Gh.set, if_neg e]
     omega
   ·rw [hlq] at hk hj
    simp only [Bool.or_eq_true, beq_iff_eq] at hk hj
    by_cases e : k = i
    ·subst e
     have := hiv j (hj.resolve_right (Ne.symm hkj))
     simp only [Gh.set, if_true, if_neg (Ne.symm hkj)]
     exact .inr (by omega)
    ·by_cases e' : j = i
     ·subst e'
      have := hiv k (hk.resolve_right e)
      simp only [Gh.set, if_true, if_neg e]
      exact .inl (by omega)
     ·simp only [Gh.set, if_neg e, if_neg e']
      exact hdj k j (hk.resolve_right e) (hj.resolve_right e') hkj
theorem repl_getD (n j : Nat) : (Array.replicate n false).getD j false = false := by
 rw [Array.getD_eq_getD_getElem?, Array.getElem?_replicate]
 split <;> rfl
def stableAll : List NS → Prop
 | [] => True
 | s :: l => s.stable ∧ stableAll l
theorem stableAll_spec : ∀ {l : List NS}, stableAll l → ∀ s ∈ l, s.stable
 | [], _, s, hs => by simp at hs
 | a :: l, h, s, hs => by
  rcases List.mem_cons.1 hs with rfl | hs
  ·exact h.1
  ·exact stableAll_spec h.2 s hs
def netAll (P : Program) (ops : Array Oper) (sp : List NS) (D : List (List Nat)) (a0 : Act) (w0 : World) : Nat → List Oper → Prop
 | _, [] => True
 | i, o :: l => netDo P ops sp D a0 w0 i o ∧ netAll P ops sp D a0 w0 (i + 1) l
theorem netAll_spec {ops : Array Oper} {sp : List NS} {D : List (List Nat)} {a0 : Act} {w0 : World} : ∀ (l : List Oper) (k : Nat), netAll P ops sp D a0 w0 k l → ∀ j o, l[j]? = some o → netDo P ops sp D a0 w0 (k + j) o
 | [], _, _, _, _, h => by simp at h
 | x :: l, k, h, 0, o, hj => by
  simp at hj
  subst hj
  exact h.1
 | x :: l, k, h, j + 1, o, hj => by
  have := netAll_spec l (k + 1) h.2 j o (by simpa using hj)
  rwa [show k + 1 + j = k + (j + 1) by omega] at this
def rel (i : Nat) (R : Value → Nat → Nat → World → Prop) : NS := .rel fun x w => R (x.v i) (x.lo i) (x.hi i) w
theorem rel_stable {i : Nat} {R : Value → Nat → Nat → World → Prop} (h : ∀ u lo hi w w', R u lo hi w → Below w.heap.size w w' → R u lo hi w') : (rel i R).stable := fun v w w' hr hb => h _ _ _ _ _ hr hb
theorem wp_region_net {id : Nat} {l : List Oper} {w : World} (hmo : P.follows .mixedOrders = true) (sp : List NS) (D : List (List Nat)) (m : Nat) (hB : netB l.toArray D m = true) (hst : stableAll sp)
  (hdo : netAll P l.toArray sp D a0 w 0 (l.take m))
  (hend : ∀ x w', Below w.heap.size w w' → (∀ i, i < m → known sp D x i w') → (∀ i, i < m → w.heap.size ≤ x.lo i ∧ x.lo i ≤ x.hi i ∧ x.hi i ≤ w'.heap.size) → (∀ i j, i < m → j < m → i ≠ j → x.hi i ≤ x.lo j ∨ x.hi j ≤ x.lo i) → wpList P l.toArray Q (l.drop m) (netAct l.toArray a0 x.v m) w') : (Code.region id l.toArray true).wp P Q a0 w := by
 replace hst := stableAll_spec hst
 have hdo : ∀ i o, i < m → l[i]? = some o → netDo P l.toArray sp D a0 w.drew i o := fun i o hi ho => by
  have := netAll_spec (l.take m) 0 hdo i o (by rw [List.getElem?_take, if_pos hi]; exact ho)
  rw [Nat.zero_add] at this
  exact fun v w1 hb => this v w1 ⟨hb.os, hb.tape, hb.output, hb.size, hb.block⟩
 refine wp_region_any hmo ?_
 have h := net_any (w0 := w.drew) (a0 := a0) (Q := Q) (P := P) (sp := sp) hB hst (fun i o hi ho => hdo i o hi (by simpa using ho)) (fun x w' hb hk hiv hdj => by simpa using hend x w' (show Below w.heap.size w w' from ⟨hb.os, hb.tape, hb.output, hb.size, hb.block⟩) hk hiv hdj)
  l.toArray.size (Array.replicate l.toArray.size false) ⟨fun _ => undef, fun _ => 0, fun _ => 0⟩ w.drew
  (by rw [List.filter_eq_self.2 (fun j _ => by rw [repl_getD]; rfl), List.length_range])
  (by simp) (fun j _ => repl_getD _ _)
  (fun i hi => by rw [repl_getD] at hi; cases hi)
  (Below.refl _ _)
  (fun i hi => by rw [repl_getD] at hi; cases hi)
  (fun i hi => by rw [repl_getD] at hi; cases hi)
  (fun i j hi => by rw [repl_getD] at hi; cases hi)
 have e : actP l.toArray a0 (fun _ => undef) (fun j => (Array.replicate l.toArray.size false).getD j false) l.toArray.size = a0 :=
  actP_none l.toArray.size 0 (by omega) (fun j _ _ => repl_getD _ _)
 rw [e] at h
 exact h
end
end
def dgN (x : Int) : Int := if x < 0 then 0 else if 9 < x then 9 else x
def dgS (x : Int) : ByteArray := ⟨#[UInt8.ofNat (48 + (dgN x).toNat)]⟩
theorem dgN_r (x : Int) : 0 ≤ dgN x ∧ dgN x ≤ 9 := by unfold dgN; split; omega; split <;> omega
theorem dgN_of {n : Int} (h0 : 0 ≤ n) (h9 : n ≤ 9) : dgN n = n := by unfold dgN; rw [if_neg (by omega), if_neg (by omega)]
theorem bytes_nil (s : ByteArray) : s ++ (⟨#[]⟩ : ByteArray) = s := by
 apply ByteArray.ext
 simp
theorem dgS_size (x : Int) : (dgS x).size = 1 := rfl
theorem conv_one {x : Int} {k : Int} (hk : k = 48 + dgN x) (W : World) (g : Nat) (c : Nat) (hg : Blk W g 5 #[.int .u8 k]) :
  (convert 22 9 (.slice (some ⟨g, 0, none⟩) 1 c)).run Tryz.prog W = .ok (.string (dgS x)) W := by
 have h := Lib.run_convert_whole (P := Tryz.prog) W 22 5 9 Tryz.underlying22 Tryz.underlying5 Tryz.underlying9 g 0 (dgS x) (fun i hi => by
  have hi0 : i = 0 := by have := dgS_size x; omega
  subst hi0
  rw [hg.cell]
  have hr := dgN_r x
  have : ((dgS x)[0]'hi) = UInt8.ofNat (48 + (dgN x).toNat) := rfl
  rw [this, hk]
  have e : ((UInt8.ofNat (48 + (dgN x).toNat)).toNat : Int) = 48 + dgN x := by
   rw [UInt8.toNat_ofNat']
   omega
  rw [e]
  rfl) c
 rw [dgS_size] at h
 exact h
set_option maxHeartbeats 800000 in
theorem formatInt_any (n : Int) (w : World) (h0 : 0 ≤ n) (h9 : n ≤ 9) :
  Calls Tryz.prog 120 #[.int .i64 n] w fun e w' => e = .returned (.string (dgS n)) ∧ Below w.heap.size w w' := by
 by_cases hz : n = 0
 ·subst hz
  go_enter Tryz.func120, Tryz.ntmps120
  go_wp2
  go_ret
  exact ⟨rfl, Below.refl _ _⟩
 ·have hb : (n == 0) = false := by simpa using hz
  have hne : (n != 0) = true := by simpa using hz
  have hneg : ¬ n < 0 := by omega
  have hd : decide (n < 0) = false := by simp; omega
  have hc := fun W : World => conv_one (x := n) (k := 48 + n) (by rw [dgN_of h0 h9]) (W.alloc (.cells #[.int .u8 (48 + n)] 5)) W.heap.size 1 (Blk.new _ _ _)
  have hw8 : IntKind.u8.wrap (48 + n) = 48 + n := by
   have : n = 1 ∨ n = 2 ∨ n = 3 ∨ n = 4 ∨ n = 5 ∨ n = 6 ∨ n = 7 ∨ n = 8 ∨ n = 9 := by omega
   rcases this with rfl | rfl | rfl | rfl | rfl | rfl | rfl | rfl | rfl <;> decide
  have e1 : n % 10 = n := by omega
  have e2 : n / 10 = 0 := by omega
  have HN := bytes_nil (dgS n)
  have hsz : (dgS n).size ≤ 17592186044416 := by rw [dgS_size]; omega
  clear hz
  go_enter Tryz.func120, Tryz.ntmps120
  go_wp2
  refine wp_loop_rounds 2 ?_
  rw [rounds_succ]
  go_wp2
  rw [rounds_succ]
  go_wp2
  go_ret
  exact ⟨rfl, below_alloc _ _⟩
def fidx (p : Int → Bool) (l : List Int) : Int := if l.findIdx p < l.length then (l.findIdx p : Int) else -1
theorem fidx_none {p : Int → Bool} {l : List Int} (h : ∀ x ∈ l, p x = false) : fidx p l = -1 := by
 unfold fidx
 rw [if_neg]
 intro hlt
 have h1 := List.findIdx_getElem (w := hlt)
 have h2 := h _ (List.getElem_mem hlt)
 rw [h1] at h2
 cases h2
theorem fidx_some {p : Int → Bool} {l : List Int} {k : Nat} {x : Int} (hx : l[k]? = some x) (hp : p x = true) (hb : ∀ y ∈ l.take k, p y = false) : fidx p l = k := by
 have hk := lt_of_some hx
 have hxk : l[k] = x := by rw [List.getElem?_eq_getElem hk] at hx; injection hx
 have e : l.findIdx p = k := by
  rw [List.findIdx_eq hk]
  refine ⟨by rw [hxk]; exact hp, fun j hj => ?_⟩
  have := hb l[j] (by rw [List.mem_take_iff_getElem]; exact ⟨j, by omega, rfl⟩)
  simp [this]
 unfold fidx
 rw [e, if_pos hk]
theorem fidx_any (p : Int → Bool) (l : List Int) : decide (0 ≤ fidx p l) = l.any p := by
 unfold fidx
 by_cases h : l.findIdx p < l.length
 ·rw [if_pos h]
  have h1 := List.findIdx_getElem (w := h)
  have : l.any p = true := List.any_eq_true.2 ⟨_, List.getElem_mem h, h1⟩
  rw [this]
  simp
 ·rw [if_neg h]
  have : l.any p = false := by
   rw [List.any_eq_false]
   intro x hx hpx
   exact h (List.findIdx_lt_length_of_exists ⟨x, hx, hpx⟩)
  rw [this]
  simp
set_option maxHeartbeats 400000 in
theorem indexFunc_any (p1 p2 : Value) (p : Int → Bool) (u : Value) (xs : List Int) (w : World) (hu : SlI w w.heap.size u xs)
  (hF : ∀ (W : World) (x : Int), Below w.heap.size w W → Calls Tryz.prog 113 #[.int .i64 x, p1, p2] W fun e w' => e = .returned (.bool (p x)) ∧ Below W.heap.size W w') :
  Calls Tryz.prog 117 #[u, .func (Fn.func 113) #[] #[p1, p2]] w fun e w' => e = .returned (.int .i64 (fidx p xs)) ∧ Below w.heap.size w w' := by
 obtain ⟨A, c, rfl, _, _, hn, hx⟩ := hu.open_
 clear hu
 have HF := Lib.hid hF
 clear hF
 go_enter Tryz.func117, Tryz.ntmps117
 go_wp2
 go_loopw [8] (fun i wr => ∃ k : Nat, k ≤ xs.length ∧ i = .int .i64 k ∧ Below w.heap.size w wr ∧ Hid (∀ y ∈ xs.take k, p y = false)) (fun i _ => xs.length - (intOf i).toNat)
 case atStart => exact ⟨0, Nat.zero_le _, rfl, Below.refl _ _, by intro y hy; simp at hy⟩
 case round =>
  obtain ⟨k, hk, rfl, hbel, hno⟩ := hrel
  by_cases hlt : k < xs.length
  ·obtain ⟨b, o, x, rfl, hb, HX, c1, _⟩ := SlI.at_ hx hlt
   have d1 := bcell hbel hb c1
   clear hx c1
   have HC := HF.out wr x hbel
   obtain ⟨B, hB⟩ : ∃ B, p x = B := ⟨_, rfl⟩
   rw [hB] at HC
   have HC := Lib.hid HC
   have HB := Lib.hid hB
   clear hB
   cases B
   ·go_wp2_with fail
    refine (unhide HC).mono ?_; rintro e w1 ⟨rfl, hb1⟩
    go_wp2
    go_roundw
    case rel =>
     refine ⟨k + 1, by omega, by go_num, hbel.trans (hb1.mono hbel.size), fun y hy => ?_⟩
     rw [take_snoc HX.out, List.mem_append, List.mem_singleton] at hy
     rcases hy with hy | rfl
     ·exact hno.out y hy
     ·exact HB.out
    case measure => simp [intOf]; omega
   ·have hfin := Lib.hid (fidx_some HX.out HB.out hno.out)
    go_wp2_with fail
    refine (unhide HC).mono ?_; rintro e w1 ⟨rfl, hb1⟩
    go_wp2
    go_ret
    exact ⟨by rw [hfin.out]; rfl, hbel.trans (hb1.mono hbel.size)⟩
  ·go_wp2
   go_ret
   have h1 := hno.out
   rw [List.take_of_length_le (by omega)] at h1
   exact ⟨by rw [fidx_none h1]; rfl, hbel⟩
theorem containsFunc_any (p1 p2 : Value) (p : Int → Bool) (u : Value) (xs : List Int) (w : World) (hu : SlI w w.heap.size u xs)
  (hF : ∀ (W : World) (x : Int), Below w.heap.size w W → Calls Tryz.prog 113 #[.int .i64 x, p1, p2] W fun e w' => e = .returned (.bool (p x)) ∧ Below W.heap.size W w') :
  Calls Tryz.prog 112 #[u, .func (Fn.func 113) #[] #[p1, p2]] w fun e w' => e = .returned (.bool (xs.any p)) ∧ Below w.heap.size w w' := by
 have hd := fidx_any p xs
 have HC := indexFunc_any p1 p2 p u xs w hu hF
 rw [← hd]
 generalize fidx p xs = r at *
 clear hd hF
 have HC := Lib.hid HC
 by_cases h : 0 ≤ r
 ·have e : decide (0 ≤ r) = true := by simpa using h
  rw [e]
  go_enter Tryz.func112, Tryz.ntmps112
  go_wp2_with fail
  refine (unhide HC).mono ?_; rintro e w1 ⟨rfl, hb1⟩
  go_wp2
  go_ret
  exact ⟨rfl, hb1⟩
 ·have e : decide (0 ≤ r) = false := by simpa using h
  rw [e]
  go_enter Tryz.func112, Tryz.ntmps112
  go_wp2_with fail
  refine (unhide HC).mono ?_; rintro e w1 ⟨rfl, hb1⟩
  go_wp2
  go_ret
  exact ⟨rfl, hb1⟩
theorem allWithin1_any (g1 g2 : Nat) (lo hi x : Int) (W : World) (h1 : W.cell? ⟨g1, 0, none⟩ = some (.int .i64 lo)) (h2 : W.cell? ⟨g2, 0, none⟩ = some (.int .i64 hi)) :
  Calls Tryz.prog 113 #[.int .i64 x, .pointer (some ⟨g1, 0, none⟩), .pointer (some ⟨g2, 0, none⟩)] W fun e w' => e = .returned (.bool (!inR x lo hi)) ∧ Below W.heap.size W w' := by
 go_enter Tryz.func113, Tryz.ntmps113
 go_wp2_with fail
 refine (within_any _ _ _ _).mono ?_; rintro e w' ⟨rfl, rfl⟩
 go_wp2
 go_ret
 exact ⟨rfl, Below.refl _ _⟩
def allR (l : List Int) (lo hi : Int) : Bool := l.all fun x => inR x lo hi
theorem allR_t {l : List Int} {lo hi : Int} : allR l lo hi = true ↔ ∀ x ∈ l, lo ≤ x ∧ x ≤ hi := by simp [allR, inR]
theorem allWithin_any (u : Value) (xs : List Int) (lo hi : Int) (w : World) (hu : SlI w w.heap.size u xs) :
  Calls Tryz.prog 102 #[u, .int .i64 lo, .int .i64 hi] w fun e w' => e = .returned (.bool (allR xs lo hi)) ∧ Below w.heap.size w w' := by
 obtain ⟨W, hW⟩ : ∃ W, W = (w.alloc (.cells #[.int .i64 lo] 3)).alloc (.cells #[.int .i64 hi] 3) := ⟨_, rfl⟩
 have g0 : Below w.heap.size w W := by rw [hW]; exact ((Below.refl _ _).alloc (Nat.le_refl _) _).alloc (by simp) _
 have k1 : Blk W w.heap.size 3 #[.int .i64 lo] := by rw [hW]; exact (Blk.new _ _ _).alloc _
 have k2 : Blk W (w.heap.size + 1) 3 #[.int .i64 hi] := by
  rw [hW]
  have := Blk.new (w.alloc (.cells #[.int .i64 lo] 3)) 3 #[.int .i64 hi]
  simpa only [World.size_alloc] using this
 have HC := containsFunc_any (.pointer (some ⟨w.heap.size, 0, none⟩)) (.pointer (some ⟨w.heap.size + 1, 0, none⟩)) (fun x => !inR x lo hi) u xs W (SlI.next g0 hu) (fun W' x hb =>
  allWithin1_any _ _ lo hi x W' ((k1.below hb k1.lt).cell' (i := 0) rfl) ((k2.below hb k2.lt).cell' (i := 0) rfl))
 have e : allR xs lo hi = !(xs.any fun x => !inR x lo hi) := by simp [allR, List.any_eq_not_all_not]
 rw [e]
 generalize (xs.any fun x => !inR x lo hi) = B at *
 obtain ⟨A, c, rfl, _, _, _, _⟩ := hu.open_
 clear hu e k1 k2
 have HC := Lib.hid HC
 have hmf : ∀ (fn : Fn) (first cap : Array Value) (w : World), (Instr.makeFunc fn first cap).run Tryz.prog w = .ok (.func fn first cap) w := fun _ _ _ _ => rfl
 go_enter Tryz.func102, Tryz.ntmps102
 go_wp2_with fail
 rw [← hW]
 refine (unhide HC).mono ?_; rintro e w1 ⟨rfl, hb1⟩
 go_wp2
 go_ret
 exact ⟨rfl, bthen g0 hb1⟩
def sumW (l : List Int) : Int := l.foldl (fun s x => wrap64 (s + x)) 0
theorem sumW_snoc (l : List Int) (x : Int) : sumW (l ++ [x]) = wrap64 (sumW l + x) := by simp [sumW]
theorem foldW (lo hi : Int) (h0 : lo ≤ 0) (h1 : 0 ≤ hi) : ∀ (l : List Int) (acc : Int) (m : Nat), (∀ x ∈ l, lo ≤ x ∧ x ≤ hi) → lo * m ≤ acc → acc ≤ hi * m → hi * ((m + l.length : Nat) : Int) ≤ 9223372036854775807 → -9223372036854775808 ≤ lo * ((m + l.length : Nat) : Int) →
  l.foldl (fun s x => wrap64 (s + x)) acc = acc + l.sum ∧ lo * ((m + l.length : Nat) : Int) ≤ acc + l.sum ∧ acc + l.sum ≤ hi * ((m + l.length : Nat) : Int)
 | [], acc, m, _, ha, hb, _, _ => by simp; exact ⟨ha, hb⟩
 | x :: l, acc, m, hl, ha, hb, hc, hd => by
  obtain ⟨hx1, hx2⟩ := hl x (by simp)
  have e : ((m + (x :: l).length : Nat) : Int) = (((m + 1) + l.length : Nat) : Int) := by simp; omega
  rw [e] at hc hd ⊢
  have m1 : lo * ((m + 1 : Nat) : Int) = lo * m + lo := by rw [Int.natCast_add, Int.mul_add]; simp
  have m2 : hi * ((m + 1 : Nat) : Int) = hi * m + hi := by rw [Int.natCast_add, Int.mul_add]; simp
  have n1 : lo * (((m + 1) + l.length : Nat) : Int) ≤ lo * ((m + 1 : Nat) : Int) := Int.mul_le_mul_of_nonpos_left h0 (by omega)
  have n2 : hi * ((m + 1 : Nat) : Int) ≤ hi * (((m + 1) + l.length : Nat) : Int) := Int.mul_le_mul_of_nonneg_left (by omega) h1
  have hw : wrap64 (acc + x) = acc + x := IntWalk.wrap64_in _ ⟨by omega, by omega⟩
  have ih := foldW lo hi h0 h1 l (acc + x) (m + 1) (fun y hy => hl y (by simp [hy])) (by omega) (by omega) hc hd
  rw [List.foldl_cons, hw, List.sum_cons]
  rw [← Int.add_assoc]
  exact ih
theorem sumW_small (l : List Int) (lo hi : Int) (h0 : lo ≤ 0) (h1 : 0 ≤ hi) (hl : ∀ x ∈ l, lo ≤ x ∧ x ≤ hi) (hb : hi * l.length ≤ 9223372036854775807) (hb' : -9223372036854775808 ≤ lo * l.length) : sumW l = l.sum ∧ lo * l.length ≤ l.sum ∧ l.sum ≤ hi * l.length := by
 have := foldW lo hi h0 h1 l 0 0 hl (by simp) (by simp) (by simpa using hb) (by simpa using hb')
 simpa [sumW] using this
set_option maxHeartbeats 400000 in
theorem sumOf_any (u : Value) (xs : List Int) (w : World) (hu : SlI w w.heap.size u xs) :
  Calls Tryz.prog 103 #[u] w fun e w' => e = .returned (.int .i64 (sumW xs)) ∧ w' = w := by
 obtain ⟨A, c, rfl, _, _, hn, hx⟩ := hu.open_
 clear hu
 go_enter Tryz.func103, Tryz.ntmps103
 go_wp2
 go_loop [3, 8] (fun s i => ∃ k : Nat, k ≤ xs.length ∧ i = .int .i64 k ∧ s = .int .i64 (sumW (xs.take k))) (fun _ i => xs.length - (intOf i).toNat)
 case atStart => exact ⟨0, Nat.zero_le _, rfl, rfl⟩
 case round =>
  obtain ⟨k, hk, rfl, rfl⟩ := hrel
  by_cases hlt : k < xs.length
  ·obtain ⟨b, o, x, rfl, hb, HX, c1, _⟩ := SlI.at_ hx hlt
   clear hx
   have HS := Lib.hid (show sumW (xs.take (k + 1)) = wrap64 (sumW (xs.take k) + x) by rw [take_snoc HX.out, sumW_snoc])
   generalize sumW (xs.take k) = s at *
   go_wp2
   go_round
   case rel => exact ⟨k + 1, by omega, by go_num, by rw [HS.out]⟩
   case measure => simp [intOf]; omega
  ·go_wp2
   go_ret
   exact ⟨by rw [List.take_of_length_le (by omega)]; rfl, rfl⟩
def isQ (q : Qv) : Bool := inR q.v 1 5 && decide (q.f.length = q.t.length) && decide (q.f.length ≤ 6) && allR q.f 0 (q.v - 1) && allR q.t 0 (q.v - 1)
theorem isQ_t {q : Qv} : isQ q = true ↔ (1 ≤ q.v ∧ q.v ≤ 5) ∧ q.f.length = q.t.length ∧ q.f.length ≤ 6 ∧ (∀ x ∈ q.f, 0 ≤ x ∧ x ≤ q.v - 1) ∧ (∀ x ∈ q.t, 0 ≤ x ∧ x ≤ q.v - 1) := by
 simp only [isQ, Bool.and_eq_true, inR_t, allR_t, decide_eq_true_eq, and_assoc]
set_option maxHeartbeats 800000 in
theorem implIsQuiver_any (u : Value) (q : Qv) (w : World) (hu : QvR w w.heap.size u q) :
  Calls Tryz.prog 101 #[u] w fun e w' => e = .returned (.bool (isQ q)) ∧ Below w.heap.size w w' := by
 obtain ⟨A, c, C, d, rfl, hf, ht, hr, lf, lt⟩ := hu.open_
 clear hu
 obtain ⟨W, hW⟩ : ∃ W, W = w.alloc (.cells #[.int .i64 q.v, .slice A q.f.length c, .slice C q.t.length d] 28) := ⟨_, rfl⟩
 have g0 : Below w.heap.size w W := by rw [hW]; exact below_alloc _ _
 have kB : Blk W w.heap.size 28 #[.int .i64 q.v, .slice A q.f.length c, .slice C q.t.length d] := by rw [hW]; exact Blk.new _ _ _
 have c0 := kB.cell' (i := 0) rfl
 have c1 := kB.cell' (i := 1) rfl
 have c2 := kB.cell' (i := 2) rfl
 unfold isQ
 rcases h1 : inR q.v 1 5 with _ | _
 ·go_enter Tryz.func101, Tryz.ntmps101
  go_wp2_with fail
  rw [← hW]; clear hW
  refine (within_any _ _ _ _).mono ?_; rintro e w' ⟨rfl, rfl⟩
  rw [h1]
  go_wp2
  go_ret
  exact ⟨rfl, g0⟩
 have hb := inR_t.1 h1
 obtain ⟨hb1, hb2⟩ := hb
 by_cases h2 : q.f.length = q.t.length
 ·have e2 : ((q.f.length : Int) == q.t.length) = true := by rw [beq_iff_eq]; omega
  by_cases h3 : q.f.length ≤ 6
  ·have e3 : decide (q.f.length ≤ 6) = true := by simpa using h3
   have e2' : decide (q.f.length = q.t.length) = true := by simpa using h2
   rw [e2', e3]
   clear h2 e2' e3
   obtain ⟨B1, hB1⟩ : ∃ B, allR q.f 0 (q.v - 1) = B := ⟨_, rfl⟩
   obtain ⟨B2, hB2⟩ : ∃ B, allR q.t 0 (q.v - 1) = B := ⟨_, rfl⟩
   rw [hB1, hB2]
   have HB1 := Lib.hid hB1
   have HB2 := Lib.hid hB2
   clear hB1 hB2
   cases B1
   ·go_enter Tryz.func101, Tryz.ntmps101
    go_wp2_with fail
    rw [← hW]; clear hW
    refine (within_any _ _ _ _).mono ?_; rintro e w' ⟨rfl, rfl⟩
    rw [h1]
    go_wp2_with fail
    refine (allWithin_any _ q.f _ _ _ (SlI.next g0 hf)).mono ?_; rintro e w1 ⟨rfl, hb1⟩
    rw [HB1.out]
    go_wp2
    go_ret
    exact ⟨rfl, bthen g0 hb1⟩
   ·go_enter Tryz.func101, Tryz.ntmps101
    go_wp2_with fail
    rw [← hW]; clear hW
    refine (within_any _ _ _ _).mono ?_; rintro e w' ⟨rfl, rfl⟩
    rw [h1]
    go_wp2_with fail
    refine (allWithin_any _ q.f _ _ _ (SlI.next g0 hf)).mono ?_; rintro e w1 ⟨rfl, hb1⟩
    rw [HB1.out]
    have d0 := (kB.call hb1).cell' (i := 0) rfl
    have d2 := (kB.call hb1).cell' (i := 2) rfl
    have g1 := bthen g0 hb1
    clear c0 c1 c2
    go_wp2_with fail
    refine (allWithin_any _ q.t _ _ _ (SlI.next g1 ht)).mono ?_; rintro e w2 ⟨rfl, hb2⟩
    rw [HB2.out]
    go_wp2
    go_ret
    exact ⟨rfl, bthen g1 hb2⟩
  ·have e3 : decide (q.f.length ≤ 6) = false := by simpa using h3
   rw [e3]
   have e3' : ¬ ((q.f.length : Int) ≤ 6) := by omega
   clear h2
   simp only [Bool.and_false, Bool.false_and]
   go_enter Tryz.func101, Tryz.ntmps101
   go_wp2_with fail
   rw [← hW]; clear hW
   refine (within_any _ _ _ _).mono ?_; rintro e w' ⟨rfl, rfl⟩
   rw [h1]
   go_wp2
   go_ret
   exact ⟨rfl, g0⟩
 ·have e2 : ((q.f.length : Int) == q.t.length) = false := by rw [beq_eq_false_iff_ne]; omega
  have e2' : decide (q.f.length = q.t.length) = false := by simpa using h2
  rw [e2']
  simp only [Bool.and_false, Bool.false_and]
  go_enter Tryz.func101, Tryz.ntmps101
  go_wp2_with fail
  rw [← hW]; clear hW
  refine (within_any _ _ _ _).mono ?_; rintro e w' ⟨rfl, rfl⟩
  rw [h1]
  go_wp2
  go_ret
  exact ⟨rfl, g0⟩
def okTo (q : Qv) (k : Nat) : Prop := (∀ x ∈ q.f.take k, inR x 0 (wrap64 (q.v - 1)) = true) ∧ ∀ x ∈ q.t.take k, inR x 0 (wrap64 (q.v - 1)) = true
theorem isQ_bad {q : Qv} {x : Int} (hx : x ∈ q.f ∨ x ∈ q.t) (hr : inR x 0 (wrap64 (q.v - 1)) = false) : isQ q = false := by
 by_cases h : isQ q = true
 ·obtain ⟨hv, _, _, hf, ht⟩ := isQ_t.1 h
  have e : wrap64 (q.v - 1) = q.v - 1 := IntWalk.wrap64_in _ ⟨by omega, by omega⟩
  rw [e, inR_f] at hr
  rcases hx with hx | hx
  ·exact absurd (hf x hx) hr
  ·exact absurd (ht x hx) hr
 ·simpa using h
theorem isQ_end {q : Qv} {k : Nat} (h : okTo q k) (hk : ¬ (k < q.f.length ∧ k < q.t.length)) : isQ q = (inR q.v 1 5 && decide (q.f.length ≤ 6) && decide (q.t.length = q.f.length)) := by
 rw [Bool.eq_iff_iff, isQ_t]
 simp only [Bool.and_eq_true, inR_t, decide_eq_true_eq]
 constructor
 ·rintro ⟨h1, h2, h3, _⟩
  exact ⟨⟨h1, h3⟩, h2.symm⟩
 ·rintro ⟨⟨h1, h3⟩, h2⟩
  have e : wrap64 (q.v - 1) = q.v - 1 := IntWalk.wrap64_in _ ⟨by omega, by omega⟩
  unfold okTo at h
  rw [e, List.take_of_length_le (by omega), List.take_of_length_le (by omega)] at h
  exact ⟨h1, h2.symm, h3, fun x hx => inR_t.1 (h.1 x hx), fun x hx => inR_t.1 (h.2 x hx)⟩
theorem okTo_step {q : Qv} {k : Nat} {x y : Int} (h : okTo q k) (hx : q.f[k]? = some x) (hy : q.t[k]? = some y) (h1 : inR x 0 (wrap64 (q.v - 1)) = true) (h2 : inR y 0 (wrap64 (q.v - 1)) = true) : okTo q (k + 1) := by
 refine ⟨fun z hz => ?_, fun z hz => ?_⟩
 ·rw [take_snoc hx, List.mem_append, List.mem_singleton] at hz
  rcases hz with hz | rfl
  ·exact h.1 z hz
  ·exact h1
 ·rw [take_snoc hy, List.mem_append, List.mem_singleton] at hz
  rcases hz with hz | rfl
  ·exact h.2 z hz
  ·exact h2
set_option maxHeartbeats 1600000 in
theorem specIsQuiver_any (u : Value) (q : Qv) (w : World) (hu : QvR w w.heap.size u q) :
  Calls Tryz.prog 97 #[u] w fun e w' => e = .returned (.bool (isQ q)) ∧ Below w.heap.size w w' := by
 obtain ⟨A, c, C, d, rfl, hf, ht, hr, lf, lt⟩ := hu.open_
 clear hu
 have g0 : Below w.heap.size w (w.alloc (.cells #[.int .i64 q.v, .slice A q.f.length c, .slice C q.t.length d] 28)) := below_alloc _ _
 have kB := Blk.new w 28 #[.int .i64 q.v, .slice A q.f.length c, .slice C q.t.length d]
 go_enter Tryz.func97, Tryz.ntmps97
 go_wp2
 go_loopw [3] (fun i wr => ∃ k : Nat, k ≤ q.f.length ∧ i = .int .i64 k ∧ Below w.heap.size w wr ∧ Blk wr w.heap.size 28 #[.int .i64 q.v, .slice A q.f.length c, .slice C q.t.length d] ∧ Hid (okTo q k)) (fun i _ => q.f.length - (intOf i).toNat)
 case atStart => exact ⟨0, Nat.zero_le _, rfl, g0, kB, by intro x hx; simp at hx, by intro x hx; simp at hx⟩
 case round =>
  clear g0 kB
  obtain ⟨k, hk, rfl, hbel, kB, hok⟩ := hrel
  have c0 := kB.cell' (i := 0) rfl
  have c1 := kB.cell' (i := 1) rfl
  have c2 := kB.cell' (i := 2) rfl
  by_cases hlt : k < q.f.length ∧ k < q.t.length
  ·obtain ⟨hlt1, hlt2⟩ := hlt
   obtain ⟨b, o, x, rfl, hb, HX, x1, _⟩ := SlI.at_ hf hlt1
   obtain ⟨b', o', y, rfl, hb', HY, y1, _⟩ := SlI.at_ ht hlt2
   have s := hbel.size
   have d0 := InB.cell kB.lt c0
   have d1 := InB.cell kB.lt c1
   have d2 := InB.cell kB.lt c2
   have d3 := InB.cell (by omega) (bcell hbel hb x1)
   have d4 := InB.cell (by omega) (bcell hbel hb' y1)
   obtain ⟨u, hU⟩ : ∃ u, wrap64 (q.v - 1) = u := ⟨_, rfl⟩
   have HU := Lib.hid hU
   clear x1 y1 hf ht c0
   rcases hB1 : inR x 0 u with _ | _
   ·have hfin := Lib.hid (isQ_bad (q := q) (.inl (List.mem_of_getElem? HX.out)) (by rw [HU.out]; exact hB1))
    go_wp2
    (refine wp_region_inB (by kernel_rfl) (by kernel_rfl) ?_; (repeat (go_big_quiet_step ((go_at_call 34; exact InB.call_same (l1In_any _ _ _ _))))); refine wpQuiet_nil ?_; intro w1 hw'; obtain ⟨s1, hw1⟩ := hw'; have hb1 := s1.below; rw [← hw1] at hb1; clear hw1 s1)
    go_wp2
    go_ret
    exact ⟨by rw [hfin.out]; rfl, hbel.trans (hb1.mono s)⟩
   ·rcases hB2 : inR y 0 u with _ | _
    ·have hfin := Lib.hid (isQ_bad (q := q) (.inr (List.mem_of_getElem? HY.out)) (by rw [HU.out]; exact hB2))
     go_wp2
     (refine wp_region_inB (by kernel_rfl) (by kernel_rfl) ?_; (repeat (go_big_quiet_step ((go_at_call 34; exact InB.call_same (l1In_any _ _ _ _))))); refine wpQuiet_nil ?_; intro w1 hw'; obtain ⟨s1, hw1⟩ := hw'; have hb1 := s1.below; rw [← hw1] at hb1; clear hw1 s1)
     go_wp2
     go_ret
     exact ⟨by rw [hfin.out]; rfl, hbel.trans (hb1.mono s)⟩
    ·go_wp2
     (refine wp_region_inB (by kernel_rfl) (by kernel_rfl) ?_; (repeat (go_big_quiet_step ((go_at_call 34; exact InB.call_same (l1In_any _ _ _ _))))); refine wpQuiet_nil ?_; intro w1 hw'; obtain ⟨s1, hw1⟩ := hw'; have hb1 := s1.below; rw [← hw1] at hb1; clear hw1 s1)
     go_wp2
     go_roundw
     case rel => exact ⟨k + 1, by omega, by go_num, hbel.trans (hb1.mono s), kB.call hb1, okTo_step hok.out HX.out HY.out (by rw [HU.out]; exact hB1) (by rw [HU.out]; exact hB2)⟩
     case measure => simp [intOf]; omega
  ·have hE := isQ_end hok.out hlt
   have hx : k < q.f.length → ¬ k < q.t.length := fun a b => hlt ⟨a, b⟩
   clear hlt hf ht
   rcases hB1 : inR q.v 1 5 with _ | _
   ·rw [hB1] at hE
    have hfin := Lib.hid hE
    clear hE
    by_cases ha : k < q.f.length
    all_goals
     first | have hb := hx ha | skip
     clear hx
     go_wp2_with (go_at_call 34; refine (l1In_any _ _ _ _).mono ?_; rintro e w' ⟨rfl, rfl⟩; rw [hB1])
     go_ret
     exact ⟨by rw [hfin.out]; rfl, hbel⟩
   ·rw [hB1] at hE
    by_cases h6 : q.f.length ≤ 6
    ·by_cases hl : q.t.length = q.f.length
     ·have hfin : Hid (isQ q = true) := by show _ = _; rw [hE]; simp [h6, hl]
      have he : ((q.t.length : Int) == q.f.length) = true := by rw [beq_iff_eq]; omega
      have h6' : (q.f.length : Int) ≤ 6 := by omega
      clear hE hl
      by_cases ha : k < q.f.length
      all_goals
       first | have hb := hx ha | skip
       clear hx
       go_wp2_with (go_at_call 34; refine (l1In_any _ _ _ _).mono ?_; rintro e w' ⟨rfl, rfl⟩; rw [hB1])
       go_ret
       exact ⟨by rw [hfin.out]; rfl, hbel⟩
     ·have hfin : Hid (isQ q = false) := by show _ = _; rw [hE]; simp [hl]
      have he : ((q.t.length : Int) == q.f.length) = false := by rw [beq_eq_false_iff_ne]; omega
      have h6' : (q.f.length : Int) ≤ 6 := by omega
      clear hE hl
      by_cases ha : k < q.f.length
      all_goals
       first | have hb := hx ha | skip
       clear hx
       go_wp2_with (go_at_call 34; refine (l1In_any _ _ _ _).mono ?_; rintro e w' ⟨rfl, rfl⟩; rw [hB1])
       go_ret
       exact ⟨by rw [hfin.out]; rfl, hbel⟩
    ·have hfin : Hid (isQ q = false) := by show _ = _; rw [hE]; simp [h6]
     have h6' : ¬ ((q.f.length : Int) ≤ 6) := by omega
     clear hE h6
     by_cases ha : k < q.f.length
     all_goals
      first | have hb := hx ha | skip
      clear hx
      go_wp2_with (go_at_call 34; refine (l1In_any _ _ _ _).mono ?_; rintro e w' ⟨rfl, rfl⟩; rw [hB1])
      go_ret
      exact ⟨by rw [hfin.out]; rfl, hbel⟩
def rowF (V : Nat) (g : Nat → Int) : List Int := (List.range V).map g
theorem rowF_length (V : Nat) (g : Nat → Int) : (rowF V g).length = V := by simp [rowF]
theorem rowF_get {V j : Nat} (g : Nat → Int) (h : j < V) : (rowF V g)[j]? = some (g j) := by simp [rowF, h]
theorem rowF_getD {V j : Nat} (g : Nat → Int) (h : j < V) : (rowF V g).getD j 0 = g j := by rw [List.getD_eq_getElem?_getD, rowF_get g h]; rfl
theorem rowF_congr {V : Nat} {g h : Nat → Int} (e : ∀ a, a < V → g a = h a) : rowF V g = rowF V h := by
 apply List.ext_getElem?
 intro i
 by_cases hi : i < V
 ·rw [rowF_get g hi, rowF_get h hi, e i hi]
 ·rw [List.getElem?_eq_none (by rw [rowF_length]; omega), List.getElem?_eq_none (by rw [rowF_length]; omega)]
theorem rowF_set {V j : Nat} (g : Nat → Int) (x : Int) : (rowF V g).set j x = rowF V fun b => if b = j then x else g b := by
 apply List.ext_getElem?
 intro i
 rw [List.getElem?_set, rowF_length]
 by_cases hi : i < V
 ·rw [rowF_get (fun b => if b = j then x else g b) hi]
  by_cases e : j = i
  ·rw [if_pos e, if_pos (by omega), if_pos e.symm]
  ·rw [if_neg e, rowF_get _ hi, if_neg (fun h => e h.symm)]
 ·rw [List.getElem?_eq_none (l := rowF V fun b => if b = j then x else g b) (by rw [rowF_length]; omega)]
  split
  ·rw [if_neg (by omega)]
  ·rw [List.getElem?_eq_none (by rw [rowF_length]; omega)]
theorem OutO.cellS {w : World} {lo hi g n c j : Nat} {vs : List Value} {v : Value} (ho : OutO w lo hi (.slice (some ⟨g, 0, none⟩) n c) vs) (hv : vs[j]? = some v) : w.cell? ⟨g, j, none⟩ = some v := by
 have hj := lt_of_some hv
 have hn : n = vs.length := by
  rcases ho.1.2 with ⟨e, _⟩ | ⟨g', cap', cur, e, _⟩
  ·cases e
  ·injection e with _ e _
 subst hn
 have hc := ho.1.cellAt j (by omega)
 rw [hc, hv]
theorem OutO.frozenS {w : World} {lo hi g n c : Nat} {vs : List Value} (ho : OutO w lo hi (.slice (some ⟨g, 0, none⟩) n c) vs) (j : Nat) : w.frozen? ⟨g, j, none⟩ = false := by
 have hn : n = vs.length := by
  rcases ho.1.2 with ⟨e, _⟩ | ⟨g', cap', cur, e, _⟩
  ·cases e
  ·injection e with _ e _
 subst hn
 exact ho.1.frozenAt j
theorem zip_set {vs : List Value} {ll : List (List Int)} {j : Nat} {v : Value} {l l' : List Int} (hv : vs[j]? = some v) (hl : ll[j]? = some l) : vs.zip (ll.set j l') = (vs.take j).zip (ll.take j) ++ (v, l') :: (vs.drop (j + 1)).zip (ll.drop (j + 1)) := by
 have hj := lt_of_some hl
 rw [zip_split hv (l := l') (by rw [List.getElem?_set, if_pos rfl, if_pos hj]), List.take_set_of_le (Nat.le_refl j), List.drop_set_of_lt (by omega)]
theorem Fam.putAt {w : World} {lo hi j i g c : Nat} {vs : List Value} {ll : List (List Int)} {l : List Int} {x : Int} (hF : Fam w lo hi (vs.zip ll)) (hv : vs[j]? = some (.slice (some ⟨g, 0, none⟩) l.length c)) (hl : ll[j]? = some l)
  (ho : OwnI w lo (.slice (some ⟨g, 0, none⟩) l.length c) l) (hx : I64 x) : Fam (w.setCell ⟨g, i, none⟩ (.int .i64 x)) lo hi (vs.zip (ll.set j (l.set i x))) := by
 rw [zip_set hv hl]
 rw [zip_split hv hl] at hF
 have hp := ho.put (j := i) hx
 exact hF.turn hp.1 hp.2
def arr (q : Qv) (a b k : Nat) : Nat := ((q.f.zip q.t).take k).countP fun p => p.1 == (a : Int) && p.2 == (b : Int)
def ent (q : Qv) (k a b : Nat) : Int := (if a = b then 2 else 0) - arr q a b k - arr q b a k
theorem Fam.far {w : World} {lo hi : Nat} {L : List (Value × List Int)} (h : Fam w lo hi L) {p : Addr} (hp : hi ≤ p.block) (u : Value) : Fam (w.setCell p u) lo hi L :=
 ⟨fun x hx => ⟨(h.1 x hx).1.setCell (fun e => by have := (h.1 x hx).2 _ e; omega) u, (h.1 x hx).2⟩, h.2⟩
theorem SlI.atN {w : World} {B n c : Nat} {A : Option Addr} {xs : List Int} {k : Nat} (h : SlI w B (.slice A n c) xs) (hn : xs.length = n) (hk : k < n) :
  ∃ b o x, A = some ⟨b, o, none⟩ ∧ b < B ∧ Hid (xs[k]? = some x) ∧ w.cell? ⟨b, o + k, none⟩ = some (.int .i64 x) ∧ -9223372036854775808 ≤ x ∧ x ≤ 9223372036854775807 := by
 subst hn
 exact SlI.at_ h hk
set_option maxHeartbeats 1600000 in
set_option maxRecDepth 100000 in
theorem formatQuiver_any (u : Value) (q : Qv) (w0 : World) (hu : QvR w0 w0.heap.size u q) :
  Calls Tryz.prog 119 #[u] w0 fun e w' => ∃ s : ByteArray, s.size ≤ 100 ∧ e = .returned (.string s) ∧ Below w0.heap.size w0 w' := by
 have hu' := hu
 obtain ⟨A, c, C, d, rfl, hf, hT, hr, lf, lt⟩ := hu.open_
 clear hu
 obtain ⟨W, hW⟩ : ∃ W, W = w0.alloc (.cells #[.int .i64 q.v, .slice A q.f.length c, .slice C q.t.length d] 28) := ⟨_, rfl⟩
 have g0 : Below w0.heap.size w0 W := by rw [hW]; exact below_alloc _ _
 have kB : Blk W w0.heap.size 28 #[.int .i64 q.v, .slice A q.f.length c, .slice C q.t.length d] := by rw [hW]; exact Blk.new _ _ _
 have c0 := kB.cell' (i := 0) rfl
 have c1 := kB.cell' (i := 1) rfl
 have c2 := kB.cell' (i := 2) rfl
 have h0 := QvR.next g0 hu'
 clear hu'
 rcases hq : isQ q with _ | _
 ·go_enter Tryz.func119, Tryz.ntmps119
  go_wp2_with fail
  rw [← hW]; clear hW
  refine (specIsQuiver_any _ _ _ h0).mono ?_; rintro e w1 ⟨rfl, hb1⟩
  rw [hq]
  go_wp2
  go_ret
  exact ⟨⟨#[]⟩, Nat.zero_le _, rfl, bthen g0 hb1⟩
 ·obtain ⟨hv, hlen, h6, hfr, htr⟩ := isQ_t.1 hq
  have HFR := Lib.hid hfr
  have HTR := Lib.hid htr
  obtain ⟨n, hn⟩ : ∃ n, q.f.length = n := ⟨_, rfl⟩
  have hnt : q.t.length = n := by omega
  have HN := Lib.hid hn
  have HNT := Lib.hid hnt
  rw [hn] at h6 hf
  rw [hnt] at hT
  have HF := Lib.hid hf
  have HT := Lib.hid hT
  clear hf hT hfr htr hlen hn hnt
  go_enter Tryz.func119, Tryz.ntmps119
  go_wp2_with fail
  rw [← hW]; clear hW
  refine (specIsQuiver_any _ _ _ h0).mono ?_; rintro e w1 ⟨rfl, hb1⟩
  rw [hq]
  rw [HN.out, HNT.out] at kB
  clear hq
  have k1 := kB.call hb1
  have G1 := Lib.hid (bthen g0 hb1)
  have d0 := k1.cell' (i := 0) rfl
  have KB := Lib.hid k1
  clear c0 c1 c2 kB g0 hb1 h0 k1
  go_wp2_with fail
  refine (formatInt_any q.v _ (by omega) (by omega)).mono ?_; rintro e w2 ⟨rfl, hb2⟩
  have hd := dgS_size q.v
  have hds : (dgS q.v).size ≤ 17592186044416 := by omega
  have KB2 := Lib.hid (KB.out.call hb2)
  have G2 := Lib.hid (bthen G1.out hb2)
  have sG := G2.out.size
  clear d0 hb2
  go_wp2
  have hs0 : (dgS q.v ++ (⟨#[58]⟩ : ByteArray)).size = 2 := by rw [ByteArray.size_append, hd]; rfl
  go_loopw [3, 4] (fun sv i wr => ∃ (k : Nat) (s : ByteArray), k ≤ n ∧ i = .int .i64 k ∧ sv = .string s ∧ s.size = 2 + 3 * k ∧ Below w2.heap.size w2 wr) (fun _ i _ => n - (intOf i).toNat)
  case atStart => exact ⟨0, _, Nat.zero_le _, rfl, rfl, hs0, Below.refl _ _⟩
  case round =>
   clear hs0 hd hds
   obtain ⟨k, s, hk, rfl, rfl, hs, hb⟩ := hrel
   have kr := KB2.out.call hb
   have d1 := kr.cell' (i := 1) rfl
   by_cases hlt : k < n
   ·obtain ⟨bf, of_, x, rfl, hbf, HX, x1, _⟩ := SlI.atN HF.out HN.out hlt
    obtain ⟨bt, ot, y, rfl, hbt, HY, y1, _⟩ := SlI.atN HT.out HNT.out hlt
    have hxr := HFR.out x (List.mem_of_getElem? HX.out)
    have hyr := HTR.out y (List.mem_of_getElem? HY.out)
    have hbs := hb.size
    have X1 := Lib.hid (bcell (G2.out.trans (hb.mono sG)) hbf x1)
    have Y1 := Lib.hid (bcell (G2.out.trans (hb.mono sG)) hbt y1)
    have KR := Lib.hid kr
    have HB := Lib.hid hb
    have hbf2 : bf < wr.heap.size := by omega
    have hbt2 : bt < wr.heap.size := by omega
    have hx1 := dgS_size x
    have hy1 := dgS_size y
    have hs1 : (s ++ (⟨#[32]⟩ : ByteArray)).size = 2 + 3 * k + 1 := by rw [ByteArray.size_append, hs]; rfl
    have hs2 : (s ++ (⟨#[32]⟩ : ByteArray) ++ dgS x).size = 2 + 3 * k + 2 := by rw [ByteArray.size_append, hs1, hx1]
    have hs3 : (s ++ (⟨#[32]⟩ : ByteArray) ++ dgS x ++ dgS y).size = 2 + 3 * k + 3 := by rw [ByteArray.size_append, hs2, hy1]
    clear kr hb x1 y1 HX HY
    go_wp2
    clear d1
    obtain ⟨wx, hwx⟩ : ∃ z, z = wr := ⟨_, rfl⟩
    subst hwx
    obtain ⟨xx, hxx⟩ : ∃ z, z = x := ⟨_, rfl⟩
    subst hxx
    have hsz : s.size ≤ 17592186044416 := by omega
    refine wp_region_net (by kernel_rfl) [.eq (.string s), .eq (.string (s ++ (⟨#[32]⟩ : ByteArray))), .eq (.pointer (some ⟨w0.heap.size, 1, none⟩)), .eq (.slice (some ⟨bf, of_, none⟩) n c), .eq (.int .i64 k), .eq (.pointer (some ⟨bf, of_ + k, none⟩)), .eq (.int .i64 xx), .eq (.string (dgS xx)), .eq (.string (s ++ (⟨#[32]⟩ : ByteArray) ++ dgS xx)), .eq (.pointer (some ⟨w0.heap.size, 2, none⟩)), .eq (.slice (some ⟨bt, ot, none⟩) n d), .eq (.int .i64 k), .eq (.pointer (some ⟨bt, ot + k, none⟩)), .eq (.int .i64 y), .eq (.string (dgS y)), .eq (.string (s ++ (⟨#[32]⟩ : ByteArray) ++ dgS xx ++ dgS y))] [[], [0], [], [2], [], [2, 3, 4], [2, 3, 4, 5], [2, 3, 4, 5, 6], [0, 1, 2, 3, 4, 5, 6, 7], [], [9], [], [9, 10, 11], [9, 10, 11, 12], [2, 3, 4, 5, 6, 7, 9, 10, 11, 12, 13], [0, 1, 2, 3, 4, 5, 6, 7, 8, 9, 10, 11, 12, 13, 14], [0, 1, 2, 3, 4, 5, 6, 7, 8, 9, 10, 11, 12, 13, 14, 15]] 16 (by kernel_rfl) ⟨trivial, trivial, trivial, trivial, trivial, trivial, trivial, trivial, trivial, trivial, trivial, trivial, trivial, trivial, trivial, trivial, trivial⟩ ⟨?_, ?_, ?_, ?_, ?_, ?_, ?_, ?_, ?_, ?_, ?_, ?_, ?_, ?_, ?_, ?_, trivial⟩ ?_
    ·intro x w hb hk Q' hQ
     clear hk
     simp only [netE] at hQ ⊢
     go_wp2
     exact hQ _ _ (Below.refl _ _) rfl
    ·intro x w hb hk Q' hQ
     have h0 : x.v 0 = _ := (hk 0 (by decide)).1
     clear hk
     simp only [netE] at hQ ⊢
     simp only [h0] at hQ ⊢
     clear h0
     go_wp2
     exact hQ (.string (s ++ (⟨#[32]⟩ : ByteArray))) _ (Below.refl _ _) rfl
    ·intro x w hb hk Q' hQ
     clear hk
     simp only [netE] at hQ ⊢
     go_wp2
     exact hQ _ _ (Below.refl _ _) rfl
    ·intro x w hb hk Q' hQ
     have h2 : x.v 2 = _ := (hk 2 (by decide)).1
     clear hk
     simp only [netE] at hQ ⊢
     simp only [h2] at hQ ⊢
     clear h2
     have z := (KR.out.call hb).cell' (i := 1) rfl
     go_wp2
     exact hQ _ _ (Below.refl _ _) rfl
    ·intro x w hb hk Q' hQ
     clear hk
     simp only [netE] at hQ ⊢
     go_wp2
     exact hQ _ _ (Below.refl _ _) rfl
    ·intro x w hb hk Q' hQ
     have h3 : x.v 3 = _ := (hk 3 (by decide)).1
     have h4 : x.v 4 = _ := (hk 4 (by decide)).1
     clear hk
     simp only [netE] at hQ ⊢
     simp only [h3, h4] at hQ ⊢
     clear h3 h4
     go_wp2
     exact hQ _ _ (Below.refl _ _) rfl
    ·intro x w hb hk Q' hQ
     have h5 : x.v 5 = _ := (hk 5 (by decide)).1
     clear hk
     simp only [netE] at hQ ⊢
     simp only [h5] at hQ ⊢
     clear h5
     have z := bcell hb hbf2 X1.out
     go_wp2
     exact hQ _ _ (Below.refl _ _) rfl
    ·intro x w hb hk Q' hQ
     have h6 : x.v 6 = _ := (hk 6 (by decide)).1
     clear hk
     simp only [netE] at hQ ⊢
     simp only [h6] at hQ ⊢
     clear h6
     go_wp2_with fail
     refine (formatInt_any xx _ (by omega) (by omega)).mono ?_; rintro e w4 ⟨rfl, hb4⟩
     go_wp2
     exact hQ _ _ hb4 rfl
    ·intro x w hb hk Q' hQ
     have h1 : x.v 1 = _ := (hk 1 (by decide)).1
     have h7 : x.v 7 = _ := (hk 7 (by decide)).1
     clear hk
     simp only [netE] at hQ ⊢
     simp only [h1, h7] at hQ ⊢
     clear h1 h7
     go_wp2
     exact hQ (.string (s ++ (⟨#[32]⟩ : ByteArray) ++ dgS xx)) _ (Below.refl _ _) rfl
    ·intro x w hb hk Q' hQ
     clear hk
     simp only [netE] at hQ ⊢
     go_wp2
     exact hQ _ _ (Below.refl _ _) rfl
    ·intro x w hb hk Q' hQ
     have h9 : x.v 9 = _ := (hk 9 (by decide)).1
     clear hk
     simp only [netE] at hQ ⊢
     simp only [h9] at hQ ⊢
     clear h9
     have z := (KR.out.call hb).cell' (i := 2) rfl
     go_wp2
     exact hQ _ _ (Below.refl _ _) rfl
    ·intro x w hb hk Q' hQ
     clear hk
     simp only [netE] at hQ ⊢
     go_wp2
     exact hQ _ _ (Below.refl _ _) rfl
    ·intro x w hb hk Q' hQ
     have h10 : x.v 10 = _ := (hk 10 (by decide)).1
     have h11 : x.v 11 = _ := (hk 11 (by decide)).1
     clear hk
     simp only [netE] at hQ ⊢
     simp only [h10, h11] at hQ ⊢
     clear h10 h11
     go_wp2
     exact hQ _ _ (Below.refl _ _) rfl
    ·intro x w hb hk Q' hQ
     have h12 : x.v 12 = _ := (hk 12 (by decide)).1
     clear hk
     simp only [netE] at hQ ⊢
     simp only [h12] at hQ ⊢
     clear h12
     have z := bcell hb hbt2 Y1.out
     go_wp2
     exact hQ _ _ (Below.refl _ _) rfl
    ·intro x w hb hk Q' hQ
     have h13 : x.v 13 = _ := (hk 13 (by decide)).1
     clear hk
     simp only [netE] at hQ ⊢
     simp only [h13] at hQ ⊢
     clear h13
     go_wp2_with fail
     refine (formatInt_any y _ (by omega) (by omega)).mono ?_; rintro e w4 ⟨rfl, hb4⟩
     go_wp2
     exact hQ _ _ hb4 rfl
    ·intro x w hb hk Q' hQ
     have h8 : x.v 8 = _ := (hk 8 (by decide)).1
     have h14 : x.v 14 = _ := (hk 14 (by decide)).1
     clear hk
     simp only [netE] at hQ ⊢
     simp only [h8, h14] at hQ ⊢
     clear h8 h14
     go_wp2
     exact hQ (.string (s ++ (⟨#[32]⟩ : ByteArray) ++ dgS xx ++ dgS y)) _ (Below.refl _ _) rfl
    ·intro x w hb hk hiv hdj
     have h0 : x.v 0 = .string s := hk 0 (by decide)
     have h1 : x.v 1 = .string (s ++ (⟨#[32]⟩ : ByteArray)) := hk 1 (by decide)
     have h2 : x.v 2 = .pointer (some ⟨w0.heap.size, 1, none⟩) := hk 2 (by decide)
     have h3 : x.v 3 = .slice (some ⟨bf, of_, none⟩) n c := hk 3 (by decide)
     have h4 : x.v 4 = .int .i64 k := hk 4 (by decide)
     have h5 : x.v 5 = .pointer (some ⟨bf, of_ + k, none⟩) := hk 5 (by decide)
     have h6 : x.v 6 = .int .i64 xx := hk 6 (by decide)
     have h7 : x.v 7 = .string (dgS xx) := hk 7 (by decide)
     have h8 : x.v 8 = .string (s ++ (⟨#[32]⟩ : ByteArray) ++ dgS xx) := hk 8 (by decide)
     have h9 : x.v 9 = .pointer (some ⟨w0.heap.size, 2, none⟩) := hk 9 (by decide)
     have h10 : x.v 10 = .slice (some ⟨bt, ot, none⟩) n d := hk 10 (by decide)
     have h11 : x.v 11 = .int .i64 k := hk 11 (by decide)
     have h12 : x.v 12 = .pointer (some ⟨bt, ot + k, none⟩) := hk 12 (by decide)
     have h13 : x.v 13 = .int .i64 y := hk 13 (by decide)
     have h14 : x.v 14 = .string (dgS y) := hk 14 (by decide)
     have h15 : x.v 15 = .string (s ++ (⟨#[32]⟩ : ByteArray) ++ dgS xx ++ dgS y) := hk 15 (by decide)
     clear hk
     simp only [netE]
     simp only [List.drop_succ_cons, List.drop_zero, h0, h1, h2, h3, h4, h5, h6, h7, h8, h9, h10, h11, h12, h13, h14, h15]
     clear h0 h1 h2 h3 h4 h5 h6 h7 h8 h9 h10 h11 h12 h13 h14 h15
     have HB3 := Lib.hid (HB.out.trans (hb.mono hbs))
     clear hb hiv hdj
     go_wp2
     go_roundw
     case rel => exact ⟨k + 1, _, by omega, by go_num, rfl, by rw [hs3]; omega, HB3.out⟩
     case measure => simp [intOf]; omega
   ·obtain rfl : k = n := by omega
    have GF := Lib.hid (bthen G2.out hb)
    clear hb kr
    go_wp2
    go_ret
    exact ⟨s, by omega, rfl, GF.out⟩
theorem fam_nil2 {w : World} {lo hi : Nat} : Fam w lo hi [(.slice none 0 0, []), (.slice none 0 0, [])] := by
 refine ⟨fun p hp => ?_, ?_⟩
 ·simp only [List.mem_cons, List.not_mem_nil, or_false, or_self] at hp
  subst hp
  exact ⟨OwnI.nil _ _, fun k hk => by simp [Value.ownBlock] at hk⟩
 ·simp [Value.ownBlock]
theorem fam_made2 (w : World) {lo : Nat} (h : lo ≤ w.heap.size) : Fam ((w.alloc (.cells #[] 3)).alloc (.cells #[] 3)) lo (w.heap.size + 1 + 1) [(.slice (some ⟨w.heap.size, 0, none⟩) 0 0, []), (.slice (some ⟨w.heap.size + 1, 0, none⟩) 0 0, [])] := by
 refine fam_two (mi := w.heap.size + 1) ⟨(OwnI.made _ rfl h).alloc _, fun k hk => by simp [Value.ownBlock] at hk; omega⟩ ⟨?_, fun k hk => by simp [Value.ownBlock] at hk; omega⟩ (by omega) (by omega)
 have := OwnI.made (w := w.alloc (.cells #[] 3)) (base := w.heap.size + 1) _ rfl (by simp)
 simpa only [World.size_alloc] using this
theorem sl_one2 {w : World} {g : Nat} {x : Int} (hk : Blk w g 3 #[.int .i64 x]) (hx : I64 x) : SlI w w.heap.size (.slice (some ⟨g, 0, none⟩) 1 1) [x] := by
 refine ⟨_, 1, rfl, by simp, by omega, by simp, fun _ => ⟨g, 0, rfl, hk.lt, fun j y hj => ?_⟩⟩
 match j, hj with
 | 0, hj =>
  simp at hj; subst hj
  exact ⟨by rw [hk.cell]; rfl, hx⟩
 | j + 1, hj => simp at hj
theorem Cur.below {w w' : World} {c lo : Nat} (h : Cur w c) (k : Below lo w w') (hc : c < lo) : Cur w' c := by
 obtain ⟨A, cc, i, hh, l, hB, h1, h2, h3⟩ := h
 exact ⟨A, cc, i, hh, l, hB.below k hc, h1, h2, SlY.below (k.mono (Nat.le_of_lt hc)) h3⟩
theorem Ck.low {w0 w w' : World} {c lo : Nat} (h : Ck c w0 w) (k : Below lo w w') (h1 : w0.heap.size ≤ lo) (h2 : c < lo) : Ck c w0 w' :=
 ⟨k.os.trans h.os, k.tape.trans h.tape, k.output.trans h.output, Nat.le_trans h.size k.size, fun i hi hn => (k.block i (by omega)).trans (h.block i hi hn), fun h0 => (h.keep h0).below k h2⟩
theorem Cur.lt {w : World} {c : Nat} (h : Cur w c) : c < w.heap.size := by obtain ⟨_, _, _, _, _, hB, _⟩ := h; exact hB.lt
theorem QuivO.wid {w : World} {lo hi lo' hi' : Nat} {v : Value} {q : Qv} (h : QuivO w lo hi v q) (h1 : lo' ≤ lo) (h2 : hi ≤ hi') : QuivO w lo' hi' v q := by
 obtain ⟨a, b, e, hF, hr⟩ := h
 exact ⟨a, b, e, hF.mono h1 h2, hr⟩
def GQ (w : World) (lo gq : Nat) (V : Int) (A : Option Addr) (c : Nat) (C : Option Addr) (d : Nat) (F T : List Int) : Prop :=
 Blk w gq 28 #[.int .i64 V, .slice A F.length c, .slice C T.length d] ∧ Fam w lo w.heap.size [(.slice A F.length c, F), (.slice C T.length d, T)] ∧ I64 V ∧ lo ≤ w.heap.size
section
variable {w w' : World} {lo gq c d : Nat} {V : Int} {A C : Option Addr} {F T : List Int}
theorem GQ.below (h : GQ w lo gq V A c C d F T) (hb : Below w.heap.size w w') : GQ w' lo gq V A c C d F T :=
 ⟨h.1.call hb, (h.2.1.below hb).mono (Nat.le_refl _) hb.size, h.2.2.1, Nat.le_trans h.2.2.2 hb.size⟩
theorem GQ.ck {k : Nat} (h : GQ w lo gq V A c C d F T) (hb : Ck k w w') (hk : k < lo) (hg : gq ≠ k) : GQ w' lo gq V A c C d F T :=
 ⟨h.1.ck hb hg, (h.2.1.chg hb.chg (.inr (by omega))).mono (Nat.le_refl _) hb.size, h.2.2.1, Nat.le_trans h.2.2.2 hb.size⟩
theorem GQ.setF {w1 : World} {A1 : Option Addr} {c1 n1 : Nat} {F1 : List Int} (h : GQ w lo gq V A c C d F T) (ho : OwnI w1 lo (.slice A1 n1 c1) F1) (hn : n1 = F1.length) (hg : w.grownBy w1 (Value.slice A F.length c).ownBlock) (hv : (Value.slice A1 n1 c1).ownBlock = (Value.slice A F.length c).ownBlock ∨ (Value.slice A1 n1 c1).ownBlock = some w.heap.size) :
  Blk w1 gq 28 #[.int .i64 V, .slice A F.length c, .slice C T.length d] ∧ GQ (w1.setCell ⟨gq, 1, none⟩ (.slice A1 n1 c1)) lo gq V A1 c1 C d F1 T ∧ Below lo w w1 := by
 subst hn
 have hfa : OwnI w lo (.slice A F.length c) F := (h.2.1.1 (_, F) (by simp)).1
 have hB1 := h.1.grown hg (hfa.blkne h.1 (by decide))
 have hF1 := h.2.1.app (w' := w1) (L1 := []) hg.size ho hg hv
 refine ⟨hB1, ⟨hB1.set_ 1 _, ?_, h.2.2.1, ?_⟩, below_grown hg (fun j hj => (hfa.lt j hj).1) h.2.2.2⟩
 ·have := hF1.setBlk (i := 1) hB1 (by decide) (.slice A1 F1.length c1)
  exact this.mono (Nat.le_refl _) (by simp)
 ·have := hg.size; simp; have := h.2.2.2; omega
theorem GQ.setT {w1 : World} {A1 : Option Addr} {c1 n1 : Nat} {F1 : List Int} (h : GQ w lo gq V A c C d F T) (ho : OwnI w1 lo (.slice A1 n1 c1) F1) (hn : n1 = F1.length) (hg : w.grownBy w1 (Value.slice C T.length d).ownBlock) (hv : (Value.slice A1 n1 c1).ownBlock = (Value.slice C T.length d).ownBlock ∨ (Value.slice A1 n1 c1).ownBlock = some w.heap.size) :
  Blk w1 gq 28 #[.int .i64 V, .slice A F.length c, .slice C T.length d] ∧ GQ (w1.setCell ⟨gq, 2, none⟩ (.slice A1 n1 c1)) lo gq V A c A1 c1 F F1 ∧ Below lo w w1 := by
 subst hn
 have hfa : OwnI w lo (.slice C T.length d) T := (h.2.1.1 (_, T) (by simp)).1
 have hB1 := h.1.grown hg (hfa.blkne h.1 (by decide))
 have hF1 := h.2.1.app (w' := w1) (L1 := [(_, F)]) hg.size ho hg hv
 refine ⟨hB1, ⟨hB1.set_ 2 _, ?_, h.2.2.1, ?_⟩, below_grown hg (fun j hj => (hfa.lt j hj).1) h.2.2.2⟩
 ·have := hF1.setBlk (i := 2) hB1 (by decide) (.slice A1 F1.length c1)
  exact this.mono (Nat.le_refl _) (by simp)
 ·have := hg.size; simp; have := h.2.2.2; omega
theorem GQ.rd (h : GQ w lo gq V A c C d F T) : QvR w w.heap.size (.agg #[.int .i64 V, .slice A F.length c, .slice C T.length d]) ⟨V, F, T⟩ :=
 QuivO.rd (lo := lo) (hi := w.heap.size) ⟨_, _, rfl, h.2.1, h.2.2.1⟩
theorem GQ.quiv (h : GQ w lo gq V A c C d F T) : QuivO w lo w.heap.size (.agg #[.int .i64 V, .slice A F.length c, .slice C T.length d]) ⟨V, F, T⟩ := ⟨_, _, rfl, h.2.1, h.2.2.1⟩
theorem GQ.setV {x : Int} (h : GQ w lo gq V A c C d F T) (hx : I64 x) : GQ (w.setCell ⟨gq, 0, none⟩ (.int .i64 x)) lo gq x A c C d F T :=
 ⟨h.1.set_ 0 _, (h.2.1.setBlk (i := 0) h.1 (by decide) _).mono (Nat.le_refl _) (by simp), hx, by simp; exact h.2.2.2⟩
end
theorem wrap64_I64 (x : Int) : I64 (wrap64 x) := by unfold I64 wrap64; omega
set_option maxHeartbeats 3200000 in
set_option maxRecDepth 100000 in
theorem parseQuiver_any (s : ByteArray) (w0 : World) (hs : s.size ≤ 60) :
  Calls Tryz.prog 116 #[.string s] w0 fun e w' => ∃ v b q, e = .returned (.tuple #[v, .bool b]) ∧ QuivO w' w0.heap.size w'.heap.size v q ∧ q.f.length ≤ 61 ∧ q.t.length ≤ 61 ∧ Below w0.heap.size w0 w' := by
 obtain ⟨W, hW⟩ : ∃ W, W = w0.alloc (.cells #[.int .i64 0, .slice none 0 0, .slice none 0 0] 28) := ⟨_, rfl⟩
 have g0 : Below w0.heap.size w0 W := by rw [hW]; exact below_alloc _ _
 have kR : Blk W w0.heap.size 28 #[.int .i64 0, .slice none 0 0, .slice none 0 0] := by rw [hW]; exact Blk.new _ _ _
 have sW : W.heap.size = w0.heap.size + 1 := by rw [hW]; simp
 go_enter Tryz.func116, Tryz.ntmps116
 go_wp2_with fail
 rw [← hW]; clear hW
 refine (l6Cut_any s 32 _ (by omega) (by omega)).mono ?_; rintro e w1 ⟨v1, L, rfl, hL, hL0, hL1, hb1⟩
 obtain ⟨LA, lc, rfl, hcell⟩ := hL.form
 obtain ⟨gl, rfl, hgl, hgl2, hel⟩ := hcell hL0
 have g1 := bthen g0 hb1
 have kR1 := kR.call hb1
 have s1 := hb1.size
 obtain ⟨N, hN⟩ : ∃ N, L.length = N := ⟨_, rfl⟩
 have HN := Lib.hid hN
 rw [hN] at hL0 hL1 ⊢
 have HEL := Lib.hid hel
 have e0 : L[0]? = some (L[0]'(by rw [HN.out]; exact hL0)) := List.getElem?_eq_getElem _
 obtain ⟨s0, hs0⟩ : ∃ s0, L[0]'(by rw [HN.out]; exact hL0) = s0 := ⟨_, rfl⟩
 rw [hs0] at e0
 have l0 := hel 0 s0 e0
 have r0 := kR1.cell' (i := 0) rfl
 have r1 := kR1.cell' (i := 1) rfl
 have r2 := kR1.cell' (i := 2) rfl
 have fr := kR1.frozen
 have KR1 := Lib.hid kR1
 have G1 := Lib.hid g1
 clear hel e0 hs0 hL hcell hb1 kR g0 hN kR1 g1
 by_cases h2 : s0.size = 2
 ·by_cases h30 : s.size ≤ 30
  ·have hbyte : s0.size = 2 := h2
   go_wp2
   obtain ⟨V, hV⟩ : ∃ V, wrap64 (wrap64 ((s0[0]'(by omega)).toNat : Int) - 48) = V := ⟨_, rfl⟩
   have hVr : I64 V := by rw [← hV]; exact wrap64_I64 _
   rw [hV]; clear hV
   obtain ⟨W2, hW2⟩ : ∃ z, ((w1.alloc (.cells #[] 3)).alloc (.cells #[] 3)).alloc (.cells #[.int .i64 V, .slice (some ⟨w1.heap.size, 0, none⟩) 0 0, .slice (some ⟨w1.heap.size + 1, 0, none⟩) 0 0] 28) = z := ⟨_, rfl⟩
   have gb : Below w1.heap.size w1 W2 := by rw [← hW2]; exact (((Below.refl _ _).alloc (Nat.le_refl _) _).alloc (by simp) _).alloc (by simp; omega) _
   have hG : GQ W2 w1.heap.size (w1.heap.size + 1 + 1) V (some ⟨w1.heap.size, 0, none⟩) 0 (some ⟨w1.heap.size + 1, 0, none⟩) 0 [] [] := by
    rw [← hW2]
    refine ⟨?_, ?_, hVr, by simp; omega⟩
    ·have := Blk.new ((w1.alloc (.cells #[] 3)).alloc (.cells #[] 3)) 28 #[.int .i64 V, .slice (some ⟨w1.heap.size, 0, none⟩) 0 0, .slice (some ⟨w1.heap.size + 1, 0, none⟩) 0 0]
     simp only [World.size_alloc] at this
     exact this
    ·have h := fam_made2 w1 (lo := w1.heap.size) (Nat.le_refl _)
     exact (h.below (below_alloc _ _)).mono (Nat.le_refl _) (by simp)
   rw [hW2]
   clear hW2 r0 r1 r2 fr l0
   go_loopw [6] (fun i wr => ∃ (k c d : Nat) (A C : Option Addr) (F T : List Int), 1 ≤ k ∧ k ≤ N ∧ i = .int .i64 k ∧ F.length ≤ k ∧ T.length ≤ k ∧ Below w1.heap.size w1 wr ∧ GQ wr w1.heap.size (w1.heap.size + 1 + 1) V A c C d F T) (fun i _ => N - (intOf i).toNat)
   case atStart => exact ⟨1, 0, 0, _, _, [], [], Nat.le_refl _, by omega, rfl, by simp, by simp, gb, hG⟩
   case round =>
    clear gb hG
    obtain ⟨k, c, d, A, C, F, T, hk1, hk, rfl, hF, hT, hb, hG⟩ := hrel
    have kRr := KR1.out.below hb (by omega)
    have hbs := hb.size
    by_cases hlt : k < N
    ·obtain ⟨u, hu⟩ : ∃ u, L[k]? = some u := ⟨_, List.getElem?_eq_getElem (by rw [HN.out]; exact hlt)⟩
     have lk := bcell hb (show gl < w1.heap.size from hgl2) (HEL.out k u hu)
     by_cases hu2 : u.size = 2
     ·have H0 := Lib.hid (show wrap64 (wrap64 ((u[0]'(by omega)).toNat : Int) - 48) = wrap64 (wrap64 ((u[0]'(by omega)).toNat : Int) - 48) from rfl)
      have HG := Lib.hid hG
      have HB := Lib.hid hb
      have LK := Lib.hid lk
      have LU := Lib.hid hu
      have GB := Lib.hid hG.1
      have hgk : gl < wr.heap.size := by omega
      clear hG hb kRr hu
      go_wp2
      clear lk
      obtain ⟨wx, hwx⟩ : ∃ z, z = wr := ⟨_, rfl⟩
      subst hwx
      obtain ⟨y0, hy0⟩ : ∃ z, wrap64 (wrap64 ((u[0]'(by omega)).toNat : Int) - 48) = z := ⟨_, rfl⟩
      obtain ⟨y1, hy1⟩ : ∃ z, wrap64 (wrap64 ((u[1]'(by omega)).toNat : Int) - 48) = z := ⟨_, rfl⟩
      have hy0r : I64 y0 := by rw [← hy0]; exact wrap64_I64 _
      have hy1r : I64 y1 := by rw [← hy1]; exact wrap64_I64 _
      have HY0 := Lib.hid hy0
      have HY1 := Lib.hid hy1
      clear hy0 hy1
      refine wp_region_net (by kernel_rfl) [.eq (.pointer (some ⟨w1.heap.size + 1 + 1, 1, none⟩)), .eq (.slice A F.length c), .eq (.slice (some ⟨gl, 0, none⟩) N lc), .eq (.int .i64 k), .eq (.pointer (some ⟨gl, k, none⟩)), .eq (.string u), .eq (.int .u8 ((u[0]'(by omega)).toNat : Int)), .eq (.int .i64 (wrap64 ((u[0]'(by omega)).toNat : Int))), .eq (.int .i64 y0), rel 9 (fun u lo hi w => ∃ g, u = .slice (some ⟨g, 0, none⟩) 1 1 ∧ Blk w g 3 #[.int .i64 y0])] [[], [0], [], [], [2, 3], [2, 3, 4], [2, 3, 4, 5], [2, 3, 4, 5, 6], [2, 3, 4, 5, 6, 7], [2, 3, 4, 5, 6, 7, 8], [0, 1, 2, 3, 4, 5, 6, 7, 8, 9], [0, 1, 2, 3, 4, 5, 6, 7, 8, 9, 10], [0, 1, 2, 3, 4, 5, 6, 7, 8, 9, 10, 11]] 10 (by kernel_rfl) ⟨trivial, trivial, trivial, trivial, trivial, trivial, trivial, trivial, trivial, rel_stable (fun u lo hi w w' ⟨g, e, h⟩ hb => ⟨g, e, h.call hb⟩), trivial⟩ ⟨?_, ?_, ?_, ?_, ?_, ?_, ?_, ?_, ?_, ?_, trivial⟩ ?_
      ·intro x w hb hk Q' hQ
       clear hk
       simp only [netE] at hQ ⊢
       go_wp2
       exact hQ _ _ (Below.refl _ _) rfl
      ·intro x w hb hk Q' hQ
       have h0 : x.v 0 = _ := (hk 0 (by decide)).1
       clear hk
       simp only [netE] at hQ ⊢
       simp only [h0] at hQ ⊢
       clear h0
       have z := (GB.out.call hb).cell' (i := 1) rfl
       go_wp2
       exact hQ _ _ (Below.refl _ _) rfl
      ·intro x w hb hk Q' hQ
       clear hk
       simp only [netE] at hQ ⊢
       go_wp2
       exact hQ _ _ (Below.refl _ _) rfl
      ·intro x w hb hk Q' hQ
       clear hk
       simp only [netE] at hQ ⊢
       go_wp2
       exact hQ _ _ (Below.refl _ _) rfl
      ·intro x w hb hk Q' hQ
       have h2 : x.v 2 = _ := (hk 2 (by decide)).1
       have h3 : x.v 3 = _ := (hk 3 (by decide)).1
       clear hk
       simp only [netE] at hQ ⊢
       simp only [h2, h3] at hQ ⊢
       clear h2 h3
       go_wp2
       exact hQ _ _ (Below.refl _ _) rfl
      ·intro x w hb hk Q' hQ
       have h4 : x.v 4 = _ := (hk 4 (by decide)).1
       clear hk
       simp only [netE] at hQ ⊢
       simp only [h4] at hQ ⊢
       clear h4
       have z := bcell hb hgk LK.out
       go_wp2
       exact hQ _ _ (Below.refl _ _) rfl
      ·intro x w hb hk Q' hQ
       have h5 : x.v 5 = _ := (hk 5 (by decide)).1
       clear hk
       simp only [netE] at hQ ⊢
       simp only [h5] at hQ ⊢
       clear h5
       go_wp2
       exact hQ (.int .u8 ((u[0]'(by omega)).toNat : Int)) _ (Below.refl _ _) rfl
      ·intro x w hb hk Q' hQ
       have h6 : x.v 6 = _ := (hk 6 (by decide)).1
       clear hk
       simp only [netE] at hQ ⊢
       simp only [h6] at hQ ⊢
       clear h6
       go_wp2
       exact hQ (.int .i64 (wrap64 ((u[0]'(by omega)).toNat : Int))) _ (Below.refl _ _) rfl
      ·intro x w hb hk Q' hQ
       have h7 : x.v 7 = _ := (hk 7 (by decide)).1
       clear hk
       simp only [netE] at hQ ⊢
       simp only [h7] at hQ ⊢
       clear h7
       go_wp2
       rw [HY0.out]
       exact hQ _ _ (Below.refl _ _) rfl
      ·intro x w hb hk Q' hQ
       have h2 : x.v 2 = _ := (hk 2 (by decide)).1
       have h3 : x.v 3 = _ := (hk 3 (by decide)).1
       have h4 : x.v 4 = _ := (hk 4 (by decide)).1
       have h5 : x.v 5 = _ := (hk 5 (by decide)).1
       have h6 : x.v 6 = _ := (hk 6 (by decide)).1
       have h7 : x.v 7 = _ := (hk 7 (by decide)).1
       have h8 : x.v 8 = _ := (hk 8 (by decide)).1
       clear hk
       simp only [netE] at hQ ⊢
       simp only [h2, h3, h4, h5, h6, h7, h8] at hQ ⊢
       clear h2 h3 h4 h5 h6 h7 h8
       go_wp2
       exact hQ _ _ (below_alloc _ _) ⟨_, rfl, Blk.new _ _ _⟩
      ·intro x w hb hk hiv hdj
       have h0 : x.v 0 = .pointer (some ⟨w1.heap.size + 1 + 1, 1, none⟩) := hk 0 (by decide)
       have h1 : x.v 1 = .slice A F.length c := hk 1 (by decide)
       have h2 : x.v 2 = .slice (some ⟨gl, 0, none⟩) N lc := hk 2 (by decide)
       have h3 : x.v 3 = .int .i64 k := hk 3 (by decide)
       have h4 : x.v 4 = .pointer (some ⟨gl, k, none⟩) := hk 4 (by decide)
       have h5 : x.v 5 = .string u := hk 5 (by decide)
       have h6 : x.v 6 = .int .u8 ((u[0]'(by omega)).toNat : Int) := hk 6 (by decide)
       have h7 : x.v 7 = .int .i64 (wrap64 ((u[0]'(by omega)).toNat : Int)) := hk 7 (by decide)
       have h8 : x.v 8 = .int .i64 y0 := hk 8 (by decide)
       have h9 : ∃ g, (x.v 9) = .slice (some ⟨g, 0, none⟩) 1 1 ∧ Blk w g 3 #[.int .i64 y0] := hk 9 (by decide)
       clear hk
       simp only [netE]
       simp only [List.drop_succ_cons, List.drop_zero, h0, h1, h2, h3, h4, h5, h6, h7, h8]
       clear h0 h1 h2 h3 h4 h5 h6 h7 h8
       obtain ⟨gn, e9, hN⟩ := h9
       rw [e9]
       have hGw := HG.out.below hb
       have hfa : OwnI w w1.heap.size (.slice A F.length c) F := (hGw.2.1.1 (_, F) (by simp)).1
       refine wpList_appI (by rfl) (.tmp 43) (.tmp 51) (by rfl) w1.heap.size w.heap.size _ F (by rfl) hfa (some ⟨gn, 0, none⟩) 1 1 [y0] (by rfl) rfl (sl_one2 hN hy0r) (by simp; omega) hGw.2.2.2 ?_
       intro v3 w3 ho3 hg3 hv3
       obtain ⟨A3, c3, rfl, _⟩ := ho3.form
       obtain ⟨nA3, hnA3⟩ : ∃ z, (F ++ [y0]).length = z := ⟨_, rfl⟩
       rw [hnA3] at ho3 hv3 ⊢
       obtain ⟨hB3, hG3, hb3⟩ := hGw.setF ho3 hnA3.symm hg3 hv3
       have z1 := hB3.cell' (i := 1) rfl
       have fz := hB3.frozen
       obtain ⟨W3, hW3⟩ : ∃ z, w3.setCell ⟨w1.heap.size + 1 + 1, 1, none⟩ (.slice A3 nA3 c3) = z := ⟨_, rfl⟩
       rw [hW3] at hG3
       have hch : Chg (w1.heap.size + 1 + 1) (w1.heap.size + 1 + 1 + 1) w3 W3 := by rw [← hW3]; exact chg_set (Nat.le_refl _) (Nat.lt_succ_self _)
       have hbw := hb.size
       have hbw3 := hb3.size
       have hb13 : Below w1.heap.size w1 W3 := ((HB.out.trans (hb.mono hbs)).trans hb3).trans (hch.below (by omega) (by omega))
       have hl3 := bcell hb13 hgl2 (HEL.out k u LU.out)
       have hsW : w1.heap.size ≤ W3.heap.size := hb13.size
       have HG3 := Lib.hid hG3
       have HB13 := Lib.hid hb13
       have LK3 := Lib.hid hl3
       have hgk3 : gl < W3.heap.size := by omega
       have GB3 := Lib.hid hG3.1
       clear hnA3 hB3 hG3 hb3 ho3 hg3 hv3 hch hb13 hl3 hfa hGw hN e9 hiv hdj GB LK HG HB
       go_wp2
       clear hW3 z1 fz
       refine wp_region_net (by kernel_rfl) [.eq (.pointer (some ⟨w1.heap.size + 1 + 1, 2, none⟩)), .eq (.slice C T.length d), .eq (.slice (some ⟨gl, 0, none⟩) N lc), .eq (.int .i64 k), .eq (.pointer (some ⟨gl, k, none⟩)), .eq (.string u), .eq (.int .u8 ((u[1]'(by omega)).toNat : Int)), .eq (.int .i64 (wrap64 ((u[1]'(by omega)).toNat : Int))), .eq (.int .i64 y1), rel 9 (fun u lo hi w => ∃ g, u = .slice (some ⟨g, 0, none⟩) 1 1 ∧ Blk w g 3 #[.int .i64 y1])] [[], [0], [], [], [2, 3], [2, 3, 4], [2, 3, 4, 5], [2, 3, 4, 5, 6], [2, 3, 4, 5, 6, 7], [2, 3, 4, 5, 6, 7, 8], [0, 1, 2, 3, 4, 5, 6, 7, 8, 9], [0, 1, 2, 3, 4, 5, 6, 7, 8, 9, 10], [0, 1, 2, 3, 4, 5, 6, 7, 8, 9, 10, 11]] 10 (by kernel_rfl) ⟨trivial, trivial, trivial, trivial, trivial, trivial, trivial, trivial, trivial, rel_stable (fun u lo hi w w' ⟨g, e, h⟩ hb => ⟨g, e, h.call hb⟩), trivial⟩ ⟨?_, ?_, ?_, ?_, ?_, ?_, ?_, ?_, ?_, ?_, trivial⟩ ?_
       ·intro x w hb hk Q' hQ
        clear hk
        simp only [netE] at hQ ⊢
        go_wp2
        exact hQ _ _ (Below.refl _ _) rfl
       ·intro x w hb hk Q' hQ
        have h0 : x.v 0 = _ := (hk 0 (by decide)).1
        clear hk
        simp only [netE] at hQ ⊢
        simp only [h0] at hQ ⊢
        clear h0
        have z := (GB3.out.call hb).cell' (i := 2) rfl
        go_wp2
        exact hQ _ _ (Below.refl _ _) rfl
       ·intro x w hb hk Q' hQ
        clear hk
        simp only [netE] at hQ ⊢
        go_wp2
        exact hQ _ _ (Below.refl _ _) rfl
       ·intro x w hb hk Q' hQ
        clear hk
        simp only [netE] at hQ ⊢
        go_wp2
        exact hQ _ _ (Below.refl _ _) rfl
       ·intro x w hb hk Q' hQ
        have h2 : x.v 2 = _ := (hk 2 (by decide)).1
        have h3 : x.v 3 = _ := (hk 3 (by decide)).1
        clear hk
        simp only [netE] at hQ ⊢
        simp only [h2, h3] at hQ ⊢
        clear h2 h3
        go_wp2
        exact hQ _ _ (Below.refl _ _) rfl
       ·intro x w hb hk Q' hQ
        have h4 : x.v 4 = _ := (hk 4 (by decide)).1
        clear hk
        simp only [netE] at hQ ⊢
        simp only [h4] at hQ ⊢
        clear h4
        have z := bcell hb hgk3 LK3.out
        go_wp2
        exact hQ _ _ (Below.refl _ _) rfl
       ·intro x w hb hk Q' hQ
        have h5 : x.v 5 = _ := (hk 5 (by decide)).1
        clear hk
        simp only [netE] at hQ ⊢
        simp only [h5] at hQ ⊢
        clear h5
        go_wp2
        exact hQ (.int .u8 ((u[1]'(by omega)).toNat : Int)) _ (Below.refl _ _) rfl
       ·intro x w hb hk Q' hQ
        have h6 : x.v 6 = _ := (hk 6 (by decide)).1
        clear hk
        simp only [netE] at hQ ⊢
        simp only [h6] at hQ ⊢
        clear h6
        go_wp2
        exact hQ (.int .i64 (wrap64 ((u[1]'(by omega)).toNat : Int))) _ (Below.refl _ _) rfl
       ·intro x w hb hk Q' hQ
        have h7 : x.v 7 = _ := (hk 7 (by decide)).1
        clear hk
        simp only [netE] at hQ ⊢
        simp only [h7] at hQ ⊢
        clear h7
        go_wp2
        rw [HY1.out]
        exact hQ _ _ (Below.refl _ _) rfl
       ·intro x w hb hk Q' hQ
        have h2 : x.v 2 = _ := (hk 2 (by decide)).1
        have h3 : x.v 3 = _ := (hk 3 (by decide)).1
        have h4 : x.v 4 = _ := (hk 4 (by decide)).1
        have h5 : x.v 5 = _ := (hk 5 (by decide)).1
        have h6 : x.v 6 = _ := (hk 6 (by decide)).1
        have h7 : x.v 7 = _ := (hk 7 (by decide)).1
        have h8 : x.v 8 = _ := (hk 8 (by decide)).1
        clear hk
        simp only [netE] at hQ ⊢
        simp only [h2, h3, h4, h5, h6, h7, h8] at hQ ⊢
        clear h2 h3 h4 h5 h6 h7 h8
        go_wp2
        exact hQ _ _ (below_alloc _ _) ⟨_, rfl, Blk.new _ _ _⟩
       ·intro x w hb hk hiv hdj
        have h0 : x.v 0 = .pointer (some ⟨w1.heap.size + 1 + 1, 2, none⟩) := hk 0 (by decide)
        have h1 : x.v 1 = .slice C T.length d := hk 1 (by decide)
        have h2 : x.v 2 = .slice (some ⟨gl, 0, none⟩) N lc := hk 2 (by decide)
        have h3 : x.v 3 = .int .i64 k := hk 3 (by decide)
        have h4 : x.v 4 = .pointer (some ⟨gl, k, none⟩) := hk 4 (by decide)
        have h5 : x.v 5 = .string u := hk 5 (by decide)
        have h6 : x.v 6 = .int .u8 ((u[1]'(by omega)).toNat : Int) := hk 6 (by decide)
        have h7 : x.v 7 = .int .i64 (wrap64 ((u[1]'(by omega)).toNat : Int)) := hk 7 (by decide)
        have h8 : x.v 8 = .int .i64 y1 := hk 8 (by decide)
        have h9 : ∃ g, (x.v 9) = .slice (some ⟨g, 0, none⟩) 1 1 ∧ Blk w g 3 #[.int .i64 y1] := hk 9 (by decide)
        clear hk
        simp only [netE]
        simp only [List.drop_succ_cons, List.drop_zero, h0, h1, h2, h3, h4, h5, h6, h7, h8]
        clear h0 h1 h2 h3 h4 h5 h6 h7 h8
        obtain ⟨gn, e9, hN⟩ := h9
        rw [e9]
        have hGw := HG3.out.below hb
        have hfa : OwnI w w1.heap.size (.slice C T.length d) T := (hGw.2.1.1 (_, T) (by simp)).1
        refine wpList_appI (by rfl) (.tmp 55) (.tmp 63) (by rfl) w1.heap.size w.heap.size _ T (by rfl) hfa (some ⟨gn, 0, none⟩) 1 1 [y1] (by rfl) rfl (sl_one2 hN hy1r) (by simp; omega) hGw.2.2.2 ?_
        intro v3 w3 ho3 hg3 hv3
        obtain ⟨A4, c4, rfl, _⟩ := ho3.form
        obtain ⟨nA4, hnA4⟩ : ∃ z, (T ++ [y1]).length = z := ⟨_, rfl⟩
        rw [hnA4] at ho3 hv3 ⊢
        obtain ⟨hB3, hG3, hb3⟩ := hGw.setT ho3 hnA4.symm hg3 hv3
        have z1 := hB3.cell' (i := 2) rfl
        have fz := hB3.frozen
        obtain ⟨W4, hW4⟩ : ∃ z, w3.setCell ⟨w1.heap.size + 1 + 1, 2, none⟩ (.slice A4 nA4 c4) = z := ⟨_, rfl⟩
        rw [hW4] at hG3
        have hch : Chg (w1.heap.size + 1 + 1) (w1.heap.size + 1 + 1 + 1) w3 W4 := by rw [← hW4]; exact chg_set (Nat.le_refl _) (Nat.lt_succ_self _)
        have hbw := hb.size
        have hbw3 := hb3.size
        have hb13 : Below w1.heap.size w1 W4 := ((HB13.out.trans (hb.mono hsW)).trans hb3).trans (hch.below (by omega) (by omega))
        have HG4 := Lib.hid hG3
        have HB4 := Lib.hid hb13
        have hF1 : (F ++ [y0]).length ≤ k + 1 := by simp; omega
        have hT1 : (T ++ [y1]).length ≤ k + 1 := by simp; omega
        clear hnA4 hB3 hG3 hb3 ho3 hg3 hv3 hch hb13 hfa hGw hN e9 hiv hdj
        go_wp2
        clear hW4 z1 fz
        go_roundw
        case rel => exact ⟨k + 1, c3, c4, A3, A4, _, _, by omega, by omega, by go_num, hF1, hT1, HB4.out, HG4.out⟩
        case measure => simp [intOf]; omega
     ·have r0 := kRr.cell' (i := 0) rfl
      have r1 := kRr.cell' (i := 1) rfl
      have r2 := kRr.cell' (i := 2) rfl
      have fr := kRr.frozen
      have GF := Lib.hid ((((G1.out.trans (hb.mono (by omega))).setCell (p := ⟨w0.heap.size, 0, none⟩) (by simp) (.int .i64 0)).setCell (p := ⟨w0.heap.size, 1, none⟩) (by simp) (.slice none 0 0)).setCell (p := ⟨w0.heap.size, 2, none⟩) (by simp) (.slice none 0 0))
      clear hG hb kRr hu
      go_wp2
      exact bodyPost_ret (v := .tuple #[.agg #[.int .i64 0, .slice none 0 0, .slice none 0 0], .bool false]) (by simp [results, go_sem, r0, r1, r2]) rfl ⟨_, _, ⟨0, [], []⟩, rfl, ⟨_, _, rfl, fam_nil2, ⟨by decide, by decide⟩⟩, by simp, by simp, GF.out⟩
    ·obtain rfl : k = N := by omega
     have hB := hG.1
     have q0 := hB.cell' (i := 0) rfl
     have q1 := hB.cell' (i := 1) rfl
     have q2 := hB.cell' (i := 2) rfl
     have HG := Lib.hid hG
     have HB := Lib.hid hb
     clear hG hb kRr hB
     go_wp2_with fail
     refine (formatQuiver_any _ ⟨V, F, T⟩ _ HG.out.rd).mono ?_; rintro e w3 ⟨s3, hs3, rfl, hb3⟩
     have HG3 := Lib.hid (HG.out.below hb3)
     have hB3 := HB.out.trans (hb3.mono hbs)
     have kR3 := KR1.out.below hB3 (by omega)
     have fr := kR3.frozen
     have r0 := kR3.cell' (i := 0) rfl
     have r1 := kR3.cell' (i := 1) rfl
     have r2 := kR3.cell' (i := 2) rfl
     have q0' := HG3.out.1.cell' (i := 0) rfl
     have q1' := HG3.out.1.cell' (i := 1) rfl
     have q2' := HG3.out.1.cell' (i := 2) rfl
     have gw := G1.out.trans (hB3.mono (by omega))
     clear q0 q1 q2 hb3 hB3 kR3
     have hne : w0.heap.size < w1.heap.size + 1 + 1 := by omega
     have gws := gw.size
     have hc3 := ((chg_set (lo := w0.heap.size) (hi := w0.heap.size + 1) (w := w3) (p := ⟨w0.heap.size, 0, none⟩) (u := .int .i64 V) (Nat.le_refl _) (Nat.lt_succ_self _)).trans (chg_set (p := ⟨w0.heap.size, 1, none⟩) (u := .slice A F.length c) (Nat.le_refl _) (Nat.lt_succ_self _))).trans (chg_set (p := ⟨w0.heap.size, 2, none⟩) (u := .slice C T.length d) (Nat.le_refl _) (Nat.lt_succ_self _))
     have OF := Lib.hid ((HG3.out.quiv.chg hc3 (.inr (by omega))).wid (lo' := w0.heap.size) (hi' := w3.heap.size) (by omega) (Nat.le_refl _))
     have GS := Lib.hid (gw.trans (hc3.below (Nat.le_refl _) gws))
     have GF := Lib.hid (((gw.setCell (p := ⟨w0.heap.size, 0, none⟩) (by simp) (.int .i64 0)).setCell (p := ⟨w0.heap.size, 1, none⟩) (by simp) (.slice none 0 0)).setCell (p := ⟨w0.heap.size, 2, none⟩) (by simp) (.slice none 0 0))
     have HLF := Lib.hid (And.intro hF hT)
     have hk61 : k ≤ 61 := by omega
     clear gw hc3 hF hT
     go_wp2
     ·exact bodyPost_ret (v := .tuple #[.agg #[.int .i64 0, .slice none 0 0, .slice none 0 0], .bool false]) (by simp [results, go_sem, r0, r1, r2]) rfl ⟨_, _, ⟨0, [], []⟩, rfl, ⟨_, _, rfl, fam_nil2, ⟨by decide, by decide⟩⟩, by simp, by simp, GF.out⟩
     ·exact bodyPost_ret (v := .tuple #[.agg #[.int .i64 V, .slice A F.length c, .slice C T.length d], .bool true]) (by simp [results, go_sem, r0, r1, r2]) rfl ⟨_, _, ⟨V, F, T⟩, rfl, by simpa using OF.out, by have := HLF.out; show F.length ≤ 61; omega, by have := HLF.out; show T.length ≤ 61; omega, GS.out⟩
  ·have GF := Lib.hid (((G1.out.setCell (p := ⟨w0.heap.size, 0, none⟩) (by simp) (.int .i64 0)).setCell (p := ⟨w0.heap.size, 1, none⟩) (by simp) (.slice none 0 0)).setCell (p := ⟨w0.heap.size, 2, none⟩) (by simp) (.slice none 0 0))
   go_wp2
   exact bodyPost_ret (v := .tuple #[.agg #[.int .i64 0, .slice none 0 0, .slice none 0 0], .bool false]) (by simp [results, go_sem, r0, r1, r2]) rfl ⟨_, _, ⟨0, [], []⟩, rfl, ⟨_, _, rfl, fam_nil2, ⟨by decide, by decide⟩⟩, by simp, by simp, GF.out⟩
 ·have GF := Lib.hid (((G1.out.setCell (p := ⟨w0.heap.size, 0, none⟩) (by simp) (.int .i64 0)).setCell (p := ⟨w0.heap.size, 1, none⟩) (by simp) (.slice none 0 0)).setCell (p := ⟨w0.heap.size, 2, none⟩) (by simp) (.slice none 0 0))
  go_wp2
  exact bodyPost_ret (v := .tuple #[.agg #[.int .i64 0, .slice none 0 0, .slice none 0 0], .bool false]) (by simp [results, go_sem, r0, r1, r2]) rfl ⟨_, _, ⟨0, [], []⟩, rfl, ⟨_, _, rfl, fam_nil2, ⟨by decide, by decide⟩⟩, by simp, by simp, GF.out⟩
set_option maxHeartbeats 3200000 in
set_option maxRecDepth 100000 in
theorem namedQuiver_any (s : ByteArray) (w0 : World) :
  Calls Tryz.prog 109 #[.string s] w0 fun e w' => ∃ v b q, e = .returned (.tuple #[v, .bool b]) ∧ QuivO w' w0.heap.size w'.heap.size v q ∧ q.f.length ≤ 61 ∧ q.t.length ≤ 61 ∧ Below w0.heap.size w0 w' := by
 obtain ⟨W, hW⟩ : ∃ W, W = w0.alloc (.cells #[.int .i64 0, .slice none 0 0, .slice none 0 0] 28) := ⟨_, rfl⟩
 have g0 : Below w0.heap.size w0 W := by rw [hW]; exact below_alloc _ _
 have kR : Blk W w0.heap.size 28 #[.int .i64 0, .slice none 0 0, .slice none 0 0] := by rw [hW]; exact Blk.new _ _ _
 have sW : W.heap.size = w0.heap.size + 1 := by rw [hW]; simp
 have KR := Lib.hid kR
 have G0 := Lib.hid g0
 clear kR g0
 go_enter Tryz.func109, Tryz.ntmps109
 go_wp2_with fail
 all_goals rw [← hW]; clear hW
 all_goals (refine (parseQuiver_any _ _ (by decide)).mono ?_; rintro e w1 ⟨v1, b1, q, rfl, hQ1, hf, ht, hb1⟩)
 all_goals (
  obtain ⟨A, c, C, d, rfl⟩ := hQ1.form
  obtain ⟨W2, hW2⟩ : ∃ z, w1.alloc (.cells #[.int .i64 q.v, .slice A q.f.length c, .slice C q.t.length d] 28) = z := ⟨_, rfl⟩
  have ga : Below w1.heap.size w1 W2 := by rw [← hW2]; exact below_alloc _ _
  have kq : Blk W2 w1.heap.size 28 #[.int .i64 q.v, .slice A q.f.length c, .slice C q.t.length d] := by rw [← hW2]; exact Blk.new _ _ _
  have g2 := bthen hb1 ga
  have k2 := KR.out.call g2
  have fr := k2.frozen
  have r0 := k2.cell' (i := 0) rfl
  have r1 := k2.cell' (i := 1) rfl
  have r2 := k2.cell' (i := 2) rfl
  have q0 := kq.cell' (i := 0) rfl
  have q1 := kq.cell' (i := 1) rfl
  have q2 := kq.cell' (i := 2) rfl
  have s1 := hb1.size
  have hne : w0.heap.size < w1.heap.size := by omega
  have gw := G0.out.trans (g2.mono (by omega))
  have hc3 := ((chg_set (lo := w0.heap.size) (hi := w0.heap.size + 1) (w := W2) (p := ⟨w0.heap.size, 0, none⟩) (u := .int .i64 q.v) (Nat.le_refl _) (Nat.lt_succ_self _)).trans (chg_set (p := ⟨w0.heap.size, 1, none⟩) (u := .slice A q.f.length c) (Nat.le_refl _) (Nat.lt_succ_self _))).trans (chg_set (p := ⟨w0.heap.size, 2, none⟩) (u := .slice C q.t.length d) (Nat.le_refl _) (Nat.lt_succ_self _))
  have OF := Lib.hid (((hQ1.below ga).chg hc3 (.inr (by omega))).wid (lo' := w0.heap.size) (hi' := W2.heap.size) (by omega) ga.size)
  have GS := Lib.hid (gw.trans (hc3.below (Nat.le_refl _) gw.size))
  have HL := Lib.hid (And.intro hf ht)
  clear gw hc3 hf ht k2 kq g2 ga hb1 hQ1
  go_wp2
  clear hW2
  exact bodyPost_ret (v := .tuple #[.agg #[.int .i64 q.v, .slice A q.f.length c, .slice C q.t.length d], .bool b1]) (by simp [results, go_sem, r0, r1, r2]) rfl ⟨_, _, q, rfl, by simpa using OF.out, HL.out.1, HL.out.2, GS.out⟩)
def NS.stableK (s : NS) (kc : Nat) : Prop :=
 match s with
 | .eq _ => True
 | .rel R => ∀ x w w', R x w → Ck kc w w' → R x w'
theorem NS.holds_stableK {kc : Nat} {s : NS} (h : s.stableK kc) {i : Nat} {D : List Nat} {x : Gh} {w w' : World} (hh : s.holds i D x w) (hb : Ck kc w w') : s.holds i D x w' := by
 cases s with
 | eq f => exact hh
 | rel R => exact h _ _ _ hh hb
section
variable {P : Program}
section
variable {ops : Array Oper} {Q : Exit → Act → World → Prop} {sp : List NS} {D : List (List Nat)} {m : Nat} {a0 : Act} {w0 : World}
def netDoK (kc : Nat) (P : Program) (ops : Array Oper) (sp : List NS) (D : List (List Nat)) (a0 : Act) (w0 : World) (i : Nat) (o : Oper) : Prop :=
 ∀ (x : Gh) (w : World), Ck kc w0 w → (∀ j ∈ D.getD i [], known sp D x j w ∧ x.hi j ≤ w.heap.size) → ∀ Q' : Exit → Act → World → Prop,
  (∀ u w', Ck kc w w' → (sp.getD i (.eq undef)).holds i (D.getD i []) (x.set i u w.heap.size w'.heap.size) w' → Q' .normal ((netAct ops a0 x.v i).put o.dst u) w') → wpList P ops Q' [o] (netAct ops a0 x.v i) w
theorem net_anyK {kc : Nat} (hB : netB ops D m = true) (hst : ∀ s ∈ sp, s.stableK kc) (hdo : ∀ i o, i < m → ops[i]? = some o → netDoK kc P ops sp D a0 w0 i o)
  (hend : ∀ x w, Ck kc w0 w → (∀ i, i < m → known sp D x i w) → (∀ i, i < m → w0.heap.size ≤ x.lo i ∧ x.lo i ≤ x.hi i ∧ x.hi i ≤ w.heap.size) → (∀ i j, i < m → j < m → i ≠ j → x.hi i ≤ x.lo j ∨ x.hi j ≤ x.lo i) → wpList P ops Q (ops.toList.drop m) (netAct ops a0 x.v m) w) :
  ∀ (fuel : Nat) (listed : Array Bool) (x : Gh) (w : World), ((List.range ops.size).filter fun j => !listed.getD j false).length = fuel → listed.size = ops.size → (∀ j, m ≤ j → listed.getD j false = false) →
   (∀ i, listed.getD i false = true → ∀ j ∈ D.getD i [], listed.getD j false = true) → Ck kc w0 w → (∀ i, listed.getD i false = true → known sp D x i w) → (∀ i, listed.getD i false = true → w0.heap.size ≤ x.lo i ∧ x.lo i ≤ x.hi i ∧ x.hi i ≤ w.heap.size) →
   (∀ i j, listed.getD i false = true → listed.getD j false = true → i ≠ j → x.hi i ≤ x.lo j ∨ x.hi j ≤ x.lo i) →
   wpAny P .any ops Q fuel listed (actP ops a0 x.v (fun j => listed.getD j false) ops.size) w := by
 simp only [netB, Bool.and_eq_true, decide_eq_true_eq] at hB
 obtain ⟨⟨hm, hns⟩, hnf⟩ := hB
 have hok : ∀ i o, ops[i]? = some o → NetOk ops D m i o := fun i o ho => netAt_spec (by
  have := netFrom_spec ops.toList 0 hnf i o (by simpa using ho)
  simpa using this)
 have hst' : ∀ i, (sp.getD i (.eq undef)).stableK kc := fun i => by
  rw [List.getD_eq_getElem?_getD]
  rcases h : sp[i]? with _ | s
  ·trivial
  ·exact hst s (List.mem_of_getElem? h)
 intro fuel
 induction fuel with
 | zero =>
  intro listed x w hc hls hlm hcl hb hkn hiv hdj
  have hall : ∀ j, j < ops.size → listed.getD j false = true := fun j hj => by
   rw [List.length_eq_zero_iff, List.filter_eq_nil_iff] at hc
   have := hc j (List.mem_range.2 hj)
   simpa using this
  have hms : m = ops.size := by
   rcases Nat.lt_or_ge m ops.size with h | h
   ·have := hall m h
    rw [hlm m (Nat.le_refl _)] at this
    cases this
   ·omega
  refine net_tail hok 0 ops.size listed _ w (by omega) (by omega) hls (fun j => ?_) ?_
  ·by_cases hj : j < ops.size
   ·rw [hall j hj]; simp [hj]
   ·rw [hlm j (by omega)]; simp [hj]
  ·have := hend x w hb (fun i hi => hkn i (hall i (by omega))) (fun i hi => hiv i (hall i (by omega))) (fun i j hi hj => hdj i j (hall i (by omega)) (hall j (by omega)))
   rw [← actP_net (p := fun j => listed.getD j false) m (fun j hj => hall j (by omega))] at this
   rwa [hms] at this
 | succ fuel ih =>
  intro listed x w hc hls hlm hcl hb hkn hiv hdj
  by_cases hfull : ∀ j, j < m → listed.getD j false = true
  · -- the tail
   have hl : ∀ j, listed.getD j false = decide (j < m) := fun j => by
    by_cases hj : j < m
    ·rw [hfull j hj]; simp [hj]
    ·rw [hlm j (by omega)]; simp [hj]
   have hcnt : fuel + 1 + m = ops.size := by
    rw [← hc]
    have e : (List.range ops.size).filter (fun j => !listed.getD j false) = (List.range' m (ops.size - m)) := by
     have e1 : (List.range ops.size) = List.range m ++ List.range' m (ops.size - m) := by
      have h := List.range'_append_1 (s := 0) (m := m) (n := ops.size - m)
      rw [Nat.zero_add] at h
      rw [List.range_eq_range', List.range_eq_range', h]
      congr 1
      omega
     rw [e1, List.filter_append]
     rw [List.filter_eq_nil_iff.2 (fun j hj => by rw [hl]; simp at hj ⊢; exact hj), List.nil_append]
     rw [List.filter_eq_self.2 (fun j hj => by rw [hl]; simp [List.mem_range'] at hj ⊢; omega)]
    rw [e, List.length_range']
    omega
   refine net_tail hok (fuel + 1) m listed _ w (by omega) (Nat.le_refl _) hls hl ?_
   have := hend x w hb (fun i hi => hkn i (hfull i hi)) (fun i hi => hiv i (hfull i hi)) (fun i j hi hj => hdj i j (hfull i hi) (hfull j hj))
   rw [← actP_net (p := fun j => listed.getD j false) m hfull] at this
   rwa [actP_none (p := fun j => listed.getD j false) ops.size m hm (fun j h1 _ => hlm j h1)]
  · -- one of the net
   have hne : Region.ready .any ops listed ≠ [] := by
    intro h0
    have : ∀ n, ∀ j, j < n → j < m → listed.getD j false = true := by
     intro n
     induction n with
     | zero => intro j hj; omega
     | succ n ihn =>
      intro j hj hjm
      by_cases e : j < n
      ·exact ihn j e hjm
      ·rcases hlj : listed.getD j false with _ | _
       ·exfalso
        have hjs : j < ops.size := by omega
        have hje := Array.getElem?_eq_getElem hjs
        have : j ∈ Region.ready .any ops listed := mem_ready.2 ⟨by
         rw [← hlj]
         simp [Array.getD_eq_getD_getElem?, Array.getElem?_eq_getElem (show j < listed.size by omega)], _, hje, fun e he hb => by
         have := (hok j _ hje).direct e he hb
         exact ihn e.on (by omega) (by omega)⟩
        rw [h0] at this
        cases this
       ·rfl
    exact hfull fun j hj => this (j + 1) j (by omega) hj
   refine ⟨fun h0 => absurd h0 hne, fun i hi => ?_⟩
   obtain ⟨h0, o, ho, hall⟩ := mem_ready.1 hi
   have his := (Array.getElem?_eq_some_iff.1 ho).1
   have hO := hok i o ho
   have hDl : ∀ j ∈ D.getD i [], listed.getD j false = true := hO.danc (fun j => listed.getD j false = true) hall (fun k hk j hj => hcl k hk j hj)
   have him : i < m := by
    rcases Nat.lt_or_ge i m with h | h
    ·exact h
    ·exact absurd (fun j hj => hDl j (hO.tail h j (by omega))) hfull
   have hli : listed.getD i false = false := by
    rw [← h0]
    simp [Array.getD_eq_getD_getElem?, Array.getElem?_eq_getElem (show i < listed.size by omega)]
   have hpre := hdo i o him ho x w hb (fun j hj => ⟨hkn j (hDl j hj), (hiv j (hDl j hj)).2.2⟩) (fun e b w' => e = .normal ∧ ∃ u, b = (netAct ops a0 x.v i).put o.dst u ∧ (Ck kc w w' ∧ (sp.getD i (.eq undef)).holds i (D.getD i []) (x.set i u w.heap.size w'.heap.size) w'))
    (fun u w' h1 h2 => ⟨rfl, u, rfl, h1, h2⟩)
   have hwant : ∀ b : Act, Region.wanted o (yielded ops b.tmps) = true := fun b => by simp [Region.wanted, hO.guard]
   have hnl : ¬ LetsOut (fun (e : Exit) (b : Act) (w' : World) => e = .normal ∧ ∃ u, b = (netAct ops a0 x.v i).put o.dst u ∧ (Ck kc w w' ∧ (sp.getD i (.eq undef)).holds i (D.getD i []) (x.set i u w.heap.size w'.heap.size) w')) := by
    rintro ⟨b, w', h, _⟩
    cases h
   simp only [wpList, hwant, if_true] at hpre
   rcases hpre with hpre | hpre
   case inr => exact absurd hpre.2 hnl
   simp only [true_and] at hpre
   have hexec : execOp (actP ops a0 x.v (fun j => listed.getD j false) ops.size).eval o = execOp (netAct ops a0 x.v i).eval o := by
    refine execOp_congr o (fun cs b => Region.noSelect_spec hns i o cs b ho) fun y hx => ?_
    by_cases hxt : ∃ t, y = .tmp t
    ·obtain ⟨t, rfl⟩ := hxt
     have hlook : t ∈ o.looksAt ops := List.mem_append_left _ (List.mem_filterMap.2 ⟨.tmp t, by simpa using hx, rfl⟩)
     have e1 : netAct ops a0 x.v i = actP ops a0 x.v (fun j => decide (j < i)) ops.size := by
      rw [actP_none (p := fun j => decide (j < i)) ops.size i (by omega) (fun j h1 _ => by simp; omega)]
      exact (actP_net (p := fun j => decide (j < i)) i (fun j hj => by simp [hj])).symm
     rw [e1]
     refine actP_eval t ops.size fun j hj hd => ?_
     rcases hO.looks j t hd hlook with h | h
     ·rw [hDl j h]; have := hO.dlt j h; simp [this]
     ·have hlt := (hok j _ (Array.getElem?_eq_getElem hj)).dlt i h
      have : listed.getD j false = false := by
       rcases hlj : listed.getD j false with _ | _
       ·rfl
       ·have := hcl j hlj i h
        rw [hli] at this
        cases this
      rw [this]; simp; omega
    ·exact actP_evalC y (fun t h => hxt ⟨t, h⟩) _ _
   have hsz : (netAct ops a0 x.v i).tmps.size = (actP ops a0 x.v (fun j => listed.getD j false) ops.size).tmps.size := by
    rw [actP_size, ← actP_net (p := fun _ => true) i (fun _ _ => rfl), actP_size]
   have hT := wp_transfer (Q2 := Q) hexec hsz (fun c b w' h => by cases h.1) hnl hpre
   unfold wpOp
   simp only [ho, hwant, if_true]
   refine .inl (Oper.wp_mono ?_ hT)
   rintro b w' ⟨u, rfl, hbw, hh⟩
   have hdst : o.dst = dstAt ops i := by simp [dstAt, ho]
   have hlq : ∀ j, (listed.setIfInBounds i true).getD j false = (listed.getD j false || j == i) := fun j => by
    by_cases e : i = j
    ·subst e
     simp [Array.getD_eq_getD_getElem?, Array.getElem?_setIfInBounds, hls, his]
    ·rw [getD_set_ne _ e]
     simp [Ne.symm e]
   rw [hdst, actP_add (v' := (x.set i u w.heap.size w'.heap.size).v) (q := fun j => (listed.setIfInBounds i true).getD j false) (fun j hj _ => by simp [Gh.set, hj]) (by simp [Gh.set]) hli hlq (fun j d hij hlj hdj hdi => by
    rcases hO.dsts j d (by omega) hdj hdi with h | h
    ·have := hO.dlt j h; omega
    ·have := hcl j hlj i h
     rw [hli] at this
     cases this) ops.size his]
   refine ih _ _ _ ?_ (by simpa using hls) (fun j hj => by rw [hlq, hlm j hj]; simp; omega) (fun k hk j hj => ?_) (hb.trans hbw) (fun k hk => ?_) (fun k hk => ?_) (fun k j hk hj hkj => ?_)
   · -- the count
    have hmem : i ∈ (List.range ops.size).filter fun j => !listed.getD j false := by
     rw [List.mem_filter]; exact ⟨List.mem_range.2 his, by rw [hli]; rfl⟩
    have e : (List.range ops.size).filter (fun j => !(listed.setIfInBounds i true).getD j false) = ((List.range ops.size).filter fun j => !listed.getD j false).filter (fun j => j != i) := by
     rw [List.filter_filter]
     congr 1
     funext j
     rw [hlq]
     simp [Bool.not_or, Bool.and_comm, bne]
    have hnd : ((List.range ops.size).filter fun j => !listed.getD j false).Nodup := List.nodup_range.filter _
    rw [e]
    have := List.length_erase_of_mem hmem
    rw [hnd.erase_eq_filter, hc] at this
    simpa using this
   ·rw [hlq] at hk ⊢
    simp only [Bool.or_eq_true, beq_iff_eq] at hk ⊢
    rcases hk with hk | rfl
    ·exact .inl (hcl k hk j hj)
    ·exact .inl (hDl j hj)
   ·rw [hlq] at hk
    simp only [Bool.or_eq_true, beq_iff_eq] at hk
    unfold known
    by_cases e : k = i
    ·subst e
     exact hh
    ·rcases hk with hk | hk
     ·refine NS.holds_congr (x := x) (fun j hj => ?_) (NS.holds_stableK (hst' k) (hkn k hk) hbw)
      have hji : j ≠ i := by
       rcases hj with rfl | hj
       ·exact e
       ·rintro rfl
        have := hcl k hk j hj
        rw [hli] at this
        cases this
      simp [Gh.set, hji]
     ·exact absurd hk e
   ·rw [hlq] at hk
    simp only [Bool.or_eq_true, beq_iff_eq] at hk
    by_cases e : k = i
    ·subst e
     simp only [Gh.set, if_true]
     exact ⟨hb.size, hbw.size, Nat.le_refl _⟩
    ·have := hiv k (hk.resolve_right e)
     have := hbw.size
     simp only [Gh.set, if_neg e]
     omega
   ·rw [hlq] at hk hj
    simp only [Bool.or_eq_true, beq_iff_eq] at hk hj
    by_cases e : k = i
    ·subst e
     have := hiv j (hj.resolve_right (Ne.symm hkj))
     simp only [Gh.set, if_true, if_neg (Ne.symm hkj)]
     exact .inr (by omega)
    ·by_cases e' : j = i
     ·subst e'
      have := hiv k (hk.resolve_right e)
      simp only [Gh.set, if_true, if_neg e]
      exact .inl (by omega)
     ·simp only [Gh.set, if_neg e, if_neg e']
      exact hdj k j (hk.resolve_right e) (hj.resolve_right e') hkj
def stableAllK (kc : Nat) : List NS → Prop
 | [] => True
 | s :: l => s.stableK kc ∧ stableAllK kc l
theorem stableAllK_spec {kc : Nat} : ∀ {l : List NS}, stableAllK kc l → ∀ s ∈ l, s.stableK kc
 | [], _, s, hs => by simp at hs
 | a :: l, h, s, hs => by
  rcases List.mem_cons.1 hs with rfl | hs
  ·exact h.1
  ·exact stableAllK_spec h.2 s hs
def netAllK (kc : Nat) (P : Program) (ops : Array Oper) (sp : List NS) (D : List (List Nat)) (a0 : Act) (w0 : World) : Nat → List Oper → Prop
 | _, [] => True
 | i, o :: l => netDoK kc P ops sp D a0 w0 i o ∧ netAllK kc P ops sp D a0 w0 (i + 1) l
theorem netAllK_spec {kc : Nat} {ops : Array Oper} {sp : List NS} {D : List (List Nat)} {a0 : Act} {w0 : World} : ∀ (l : List Oper) (k : Nat), netAllK kc P ops sp D a0 w0 k l → ∀ j o, l[j]? = some o → netDoK kc P ops sp D a0 w0 (k + j) o
 | [], _, _, _, _, h => by simp at h
 | x :: l, k, h, 0, o, hj => by
  simp at hj
  subst hj
  exact h.1
 | x :: l, k, h, j + 1, o, hj => by
  have := netAllK_spec l (k + 1) h.2 j o (by simpa using hj)
  rwa [show k + 1 + j = k + (j + 1) by omega] at this
theorem rel_stableK {kc : Nat} {i : Nat} {R : Value → Nat → Nat → World → Prop} (h : ∀ u lo hi w w', R u lo hi w → Ck kc w w' → R u lo hi w') : (rel i R).stableK kc := fun v w w' hr hb => h _ _ _ _ _ hr hb
theorem wp_region_netK (kc : Nat) {id : Nat} {l : List Oper} {w : World} (hmo : P.follows .mixedOrders = true) (sp : List NS) (D : List (List Nat)) (m : Nat) (hB : netB l.toArray D m = true) (hst : stableAllK kc sp)
  (hdo : netAllK kc P l.toArray sp D a0 w 0 (l.take m))
  (hend : ∀ x w', Ck kc w w' → (∀ i, i < m → known sp D x i w') → (∀ i, i < m → w.heap.size ≤ x.lo i ∧ x.lo i ≤ x.hi i ∧ x.hi i ≤ w'.heap.size) → (∀ i j, i < m → j < m → i ≠ j → x.hi i ≤ x.lo j ∨ x.hi j ≤ x.lo i) → wpList P l.toArray Q (l.drop m) (netAct l.toArray a0 x.v m) w') : (Code.region id l.toArray true).wp P Q a0 w := by
 replace hst := stableAllK_spec hst
 have hdo : ∀ i o, i < m → l[i]? = some o → netDoK kc P l.toArray sp D a0 w.drew i o := fun i o hi ho => by
  have := netAllK_spec (l.take m) 0 hdo i o (by rw [List.getElem?_take, if_pos hi]; exact ho)
  rw [Nat.zero_add] at this
  exact fun v w1 hb => this v w1 ⟨hb.os, hb.tape, hb.output, hb.size, hb.block, hb.keep⟩
 refine wp_region_any hmo ?_
 have h := net_anyK (w0 := w.drew) (a0 := a0) (Q := Q) (P := P) (sp := sp) hB hst (fun i o hi ho => hdo i o hi (by simpa using ho)) (fun x w' hb hk hiv hdj => by simpa using hend x w' (show Ck kc w w' from ⟨hb.os, hb.tape, hb.output, hb.size, hb.block, hb.keep⟩) hk hiv hdj)
  l.toArray.size (Array.replicate l.toArray.size false) ⟨fun _ => undef, fun _ => 0, fun _ => 0⟩ w.drew
  (by rw [List.filter_eq_self.2 (fun j _ => by rw [repl_getD]; rfl), List.length_range])
  (by simp) (fun j _ => repl_getD _ _)
  (fun i hi => by rw [repl_getD] at hi; cases hi)
  (Ck.refl _ _)
  (fun i hi => by rw [repl_getD] at hi; cases hi)
  (fun i hi => by rw [repl_getD] at hi; cases hi)
  (fun i j hi => by rw [repl_getD] at hi; cases hi)
 have e : actP l.toArray a0 (fun _ => undef) (fun j => (Array.replicate l.toArray.size false).getD j false) l.toArray.size = a0 :=
  actP_none l.toArray.size 0 (by omega) (fun j _ _ => repl_getD _ _)
 rw [e] at h
 exact h
end
end
end Go.Proofs.YthhjoamgcfiecaaGreat
