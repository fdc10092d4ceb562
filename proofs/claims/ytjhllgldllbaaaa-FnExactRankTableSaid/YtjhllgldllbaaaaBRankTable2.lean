/- FnExactRankTable: for every argument the program's function returns what the reference's returns. Part 2 of 8 of the proof: Net, Kit2, KitM, Rev, Cln, Copy, KitM2. No condition. -/
import Derived.Test.YtjhllgldllbaaaaBRankTable1
import Derived.Orders
import Derived.Ground.NamesProg
import Derived.Ground.Names2Prog
import Derived.Shelf.Lay
import Derived.Shelf.Slices.Reverse
import Derived.Lib.OwnBridge
import Derived.Shelf.Slices.Clone
import Derived.ArgAppend
/- A region that draws its order and whose operations make memory: each operation is met once, in the order of the text, under what is known of those that it waits for; what it hands back is told by a relation that outlives growth of the memory. No order is branched over. No program's numbers stand here. -/
namespace Go.Proofs.Ytjhllgldllbaaaa
set_option linter.unusedVariables false
set_option linter.unusedSimpArgs false
open Go.RowKit

/-- What is said of an operation: an equation on its value, or a relation that outlives growth, on its value and on the stretch of memory that it made (its blocks lie from lo on, below hi). -/
structure Gh where
  v : Nat → Value
  lo : Nat → Nat
  hi : Nat → Nat
inductive NS where
  | eq (u : Value)
  | rel (R : Gh → World → Prop)
def restr (i : Nat) (D : List Nat) (x : Gh) : Gh := ⟨fun j => if j = i ∨ j ∈ D then x.v j else undef, fun j => if j = i ∨ j ∈ D then x.lo j else 0, fun j => if j = i ∨ j ∈ D then x.hi j else 0⟩
def NS.holds (s : NS) (i : Nat) (D : List Nat) (x : Gh) (w : World) : Prop :=
  match s with
  | .eq u => x.v i = u
  | .rel R => R (restr i D x) w
def NS.stable (s : NS) : Prop :=
  match s with
  | .eq _ => True
  | .rel R => ∀ x w w', R x w → Below w.heap.size w w' → R x w'
theorem NS.holds_stable {s : NS} (h : s.stable) {i : Nat} {D : List Nat} {x : Gh} {w w' : World} (hh : s.holds i D x w) (hb : Below w.heap.size w w') : s.holds i D x w' := by
  cases s with
  | eq f => exact hh
  | rel R => exact h _ _ _ hh hb
theorem NS.holds_congr {s : NS} {i : Nat} {D : List Nat} {x y : Gh} {w : World} (hv : ∀ j, j = i ∨ j ∈ D → x.v j = y.v j ∧ x.lo j = y.lo j ∧ x.hi j = y.hi j) (hh : s.holds i D x w) : s.holds i D y w := by
  have e : restr i D x = restr i D y := by
    unfold restr
    congr 1 <;> funext j <;> split
    · rename_i h; exact (hv j h).1
    · rfl
    · rename_i h; exact (hv j h).2.1
    · rfl
    · rename_i h; exact (hv j h).2.2
    · rfl
  cases s with
  | eq u => exact (hv i (.inl rfl)).1.symm.trans hh
  | rel R =>
    show R _ w
    rw [← e]
    exact hh
def Gh.set (x : Gh) (i : Nat) (u : Value) (a b : Nat) : Gh := ⟨fun j => if j = i then u else x.v j, fun j => if j = i then a else x.lo j, fun j => if j = i then b else x.hi j⟩

section
variable {P : Program}

theorem act_eval_put {a : Act} {dst : Option Tmp} {v : Value} {t : Tmp} : (a.put dst v).eval (.tmp t) = if dst = some t ∧ t < a.tmps.size then v else a.eval (.tmp t) := by
  cases dst with
  | none => simp [Act.put]
  | some d =>
    by_cases e : d = t
    · subst e
      by_cases hl : d < a.tmps.size
      · simp [Act.put, Act.eval, Array.getD_eq_getD_getElem?, Array.getElem?_setIfInBounds, hl]
      · simp [Act.put, Act.eval, Array.getD_eq_getD_getElem?, Array.getElem?_setIfInBounds, hl]
    · simp [Act.put, Act.eval, Array.getD_eq_getD_getElem?, Array.getElem?_setIfInBounds, e]
theorem act_put_size {a : Act} {dst : Option Tmp} {v : Value} : (a.put dst v).tmps.size = a.tmps.size := by
  cases dst <;> simp [Act.put]
theorem act_put_defers {a : Act} {dst : Option Tmp} {v : Value} : (a.put dst v).defers = a.defers := by
  cases dst <;> rfl
theorem act_put_eq {a b : Act} {dst : Option Tmp} {v u : Value} (h : a.put dst v = a.put dst u) (hs : a.tmps.size = b.tmps.size) : b.put dst v = b.put dst u := by
  cases dst with
  | none => rfl
  | some d =>
    by_cases hl : d < a.tmps.size
    · have h1 := congrArg (fun x : Act => x.eval (.tmp d)) h
      simp only [act_eval_put, hl, and_self, if_true] at h1
      rw [h1]
    · have hb : b.tmps.size ≤ d := hs ▸ Nat.le_of_not_lt hl
      simp only [Act.put]
      rw [Array.setIfInBounds_eq_of_size_le hb, Array.setIfInBounds_eq_of_size_le hb]

/-- One operation at another frame that agrees on what it looks at. -/
theorem wp_transfer {o : Oper} {a b : Act} {w : World} {K : Value → World → Prop} {Q1 Q2 : Exit → Act → World → Prop} (he : execOp b.eval o = execOp a.eval o) (hs : a.tmps.size = b.tmps.size)
    (hp : ∀ c a w, ¬ Q1 (.panic c) a w) (hl : ¬ LetsOut Q1) (h : o.wp P a w (fun a' w' => ∃ u, a' = a.put o.dst u ∧ K u w') Q1) : o.wp P b w (fun b' w' => ∃ u, b' = b.put o.dst u ∧ K u w') Q2 := by
  unfold Oper.wp at *
  rw [he]
  generalize (execOp a.eval o).run P w = r at *
  cases r with
  | ok n w' =>
    cases n <;> simp only [Oper.upon] at h ⊢
    case value v =>
      obtain ⟨u, e, k⟩ := h
      exact ⟨u, act_put_eq e hs, k⟩
    case skip =>
      obtain ⟨u, e, k⟩ := h
      exact ⟨u, act_put_eq e hs, k⟩
    case defer d =>
      obtain ⟨u, e, k⟩ := h
      have := congrArg (fun x : Act => x.defers.length) e
      simp [act_put_defers] at this
    case enter f args =>
      refine Calls.mono h fun e w'' he => ?_
      cases e with
      | returned v =>
        obtain ⟨u, e, k⟩ := he
        exact ⟨u, act_put_eq e hs, k⟩
      | panicked c => exact absurd he (hp _ _ _)
      | outgrown => exact absurd he hl
    case row row args =>
      refine Rows.mono h fun v w'' he => ?_
      obtain ⟨u, e, k⟩ := he
      exact ⟨u, act_put_eq e hs, k⟩
  | halt x w' =>
    cases x <;> simp only [Oper.upon] at h ⊢
    case panic u => exact absurd h (hp _ _ _)

def dstAt (ops : Array Oper) (k : Nat) : Option Tmp := (ops[k]?).bind (·.dst)
/-- the frame behind the operations below k of which p holds -/
def actP (ops : Array Oper) (a : Act) (v : Nat → Value) (p : Nat → Bool) : Nat → Act
  | 0 => a
  | k + 1 => if p k then (actP ops a v p k).put (dstAt ops k) (v k) else actP ops a v p k
/-- .. behind the first k operations -/
def netAct (ops : Array Oper) (a : Act) (v : Nat → Value) : Nat → Act
  | 0 => a
  | k + 1 => (netAct ops a v k).put (dstAt ops k) (v k)
section
variable {ops : Array Oper} {a : Act} {v v' : Nat → Value} {p q : Nat → Bool}
theorem actP_size : ∀ k, (actP ops a v p k).tmps.size = a.tmps.size
  | 0 => rfl
  | k + 1 => by
    unfold actP
    split
    · rw [act_put_size, actP_size k]
    · exact actP_size k
theorem actP_congr : ∀ k, (∀ j, j < k → p j = q j ∧ (p j = true → v j = v' j)) → actP ops a v p k = actP ops a v' q k
  | 0, _ => rfl
  | k + 1, h => by
    have ih := actP_congr k (fun j hj => h j (by omega))
    have hk := h k (by omega)
    unfold actP
    rw [← hk.1, ih]
    split
    · rename_i hp; rw [hk.2 hp]
    · rfl
theorem actP_net : ∀ k, (∀ j, j < k → p j = true) → actP ops a v p k = netAct ops a v k
  | 0, _ => rfl
  | k + 1, h => by
    have ih := actP_net k (fun j hj => h j (by omega))
    unfold actP netAct
    rw [h k (by omega), if_pos rfl, ih]
theorem actP_none : ∀ k i, i ≤ k → (∀ j, i ≤ j → j < k → p j = false) → actP ops a v p k = actP ops a v p i
  | 0, i, hi, _ => by
    have e : i = 0 := by omega
    rw [e]
  | k + 1, i, hi, h => by
    by_cases e : i = k + 1
    · rw [e]
    · have ih := actP_none k i (by omega) (fun j h1 h2 => h j h1 (by omega))
      rw [← ih]
      conv => lhs; unfold actP
      rw [h k (by omega) (by omega)]
      rfl
theorem actP_eval (t : Tmp) : ∀ k, (∀ j, j < k → dstAt ops j = some t → p j = q j) → (actP ops a v p k).eval (.tmp t) = (actP ops a v q k).eval (.tmp t)
  | 0, _ => rfl
  | k + 1, h => by
    have ih := actP_eval t k (fun j hj => h j (by omega))
    unfold actP
    by_cases e : dstAt ops k = some t
    · rw [← h k (by omega) e]
      split
      · rw [act_eval_put, act_eval_put, actP_size, actP_size, ih]
      · exact ih
    · have h1 : ∀ (b : Act) (u : Value), (b.put (dstAt ops k) u).eval (.tmp t) = b.eval (.tmp t) := fun b u => by rw [act_eval_put, if_neg (by intro x; exact e x.1)]
      split <;> split <;> simp only [h1, ih]
theorem actP_evalC (x : Operand) (hx : ∀ t, x ≠ .tmp t) (b c : Act) : b.eval x = c.eval x := by
  cases x with
  | tmp t => exact absurd rfl (hx t)
  | _ => rfl
/-- one operation more -/
theorem actP_add {i : Nat} {u : Value} (hv : ∀ j, j ≠ i → p j = true → v' j = v j) (hvi : v' i = u) (hp : p i = false) (hq : ∀ j, q j = (p j || j == i)) (hd : ∀ j d, i < j → p j = true → dstAt ops j = some d → dstAt ops i ≠ some d) :
    ∀ k, i < k → (actP ops a v p k).put (dstAt ops i) u = actP ops a v' q k
  | 0, h => absurd h (by omega)
  | k + 1, h => by
    by_cases e : i = k
    · subst e
      have h0 : actP ops a v p i = actP ops a v' q i := actP_congr i fun j hj => ⟨by rw [hq]; simp; omega, fun hj' => (hv j (by omega) hj').symm⟩
      conv => lhs; unfold actP
      conv => rhs; unfold actP
      rw [hp, hq, if_neg (by simp), if_pos (by simp), hvi, h0]
    · have ih := actP_add hv hvi hp hq hd k (by omega)
      conv => lhs; unfold actP
      conv => rhs; unfold actP
      have hqk : q k = p k := by rw [hq]; simp; omega
      rw [hqk, ← ih]
      split
      · rename_i hpk
        rw [hv k (by omega) hpk]
        rw [Act.put_comm _ (v k) u (fun d hdd => hd k d (by omega) hpk hdd)]
      · rfl
end

/-- the operations that one waits for at once -/
def directOf (o : Oper) : List Nat := (o.after.toList.filter fun e => Region.binds .any e).map (·.on)
/-- the test of a region: D tells what each operation waits for, m where the tail begins -/
def netAt (ops : Array Oper) (D : List (List Nat)) (m i : Nat) (o : Oper) : Bool :=
  o.guard.isNone && (directOf o).all (· < i) && (D.getD i []).all (fun j => decide (j < i) && ((directOf o).contains j || (directOf o).any fun k => (D.getD k []).contains j)) &&
  (List.range ops.size).all (fun k => match dstAt ops k with
    | none => true
    | some d => (!(o.looksAt ops).contains d || (D.getD i []).contains k || (D.getD k []).contains i) && (k == i || dstAt ops i != some d || (D.getD i []).contains k || (D.getD k []).contains i)) &&
  (decide (i < m) || (List.range i).all fun j => (D.getD i []).contains j)
def netFrom (ops : Array Oper) (D : List (List Nat)) (m : Nat) : Nat → List Oper → Bool
  | _, [] => true
  | i, o :: l => netAt ops D m i o && netFrom ops D m (i + 1) l
def netB (ops : Array Oper) (D : List (List Nat)) (m : Nat) : Bool := decide (m ≤ ops.size) && Region.noSelect ops && netFrom ops D m 0 ops.toList
theorem netFrom_spec {ops : Array Oper} {D : List (List Nat)} {m : Nat} : ∀ (l : List Oper) (k : Nat), netFrom ops D m k l = true → ∀ j o, l[j]? = some o → netAt ops D m (k + j) o = true
  | [], _, _, _, _, h => by simp at h
  | x :: l, k, h, 0, o, hj => by
    simp only [netFrom, Bool.and_eq_true] at h
    simp at hj
    subst hj
    exact h.1
  | x :: l, k, h, j + 1, o, hj => by
    simp only [netFrom, Bool.and_eq_true] at h
    have := netFrom_spec l (k + 1) h.2 j o (by simpa using hj)
    rwa [show k + 1 + j = k + (j + 1) by omega] at this

structure NetOk (ops : Array Oper) (D : List (List Nat)) (m i : Nat) (o : Oper) : Prop where
  guard : o.guard = none
  direct : ∀ e ∈ o.after, Region.binds .any e = true → e.on < i
  dlt : ∀ j ∈ D.getD i [], j < i
  danc : ∀ (S : Nat → Prop), (∀ e ∈ o.after, Region.binds .any e = true → S e.on) → (∀ k, S k → ∀ j ∈ D.getD k [], S j) → ∀ j ∈ D.getD i [], S j
  looks : ∀ k d, dstAt ops k = some d → d ∈ o.looksAt ops → k ∈ D.getD i [] ∨ i ∈ D.getD k []
  dsts : ∀ k d, k ≠ i → dstAt ops k = some d → dstAt ops i = some d → k ∈ D.getD i [] ∨ i ∈ D.getD k []
  tail : m ≤ i → ∀ j, j < i → j ∈ D.getD i []
theorem netAt_spec {ops : Array Oper} {D : List (List Nat)} {m i : Nat} {o : Oper} (h : netAt ops D m i o = true) : NetOk ops D m i o := by
  simp only [netAt, Bool.and_eq_true, List.all_eq_true, Bool.or_eq_true, decide_eq_true_eq, List.mem_range] at h
  obtain ⟨⟨⟨⟨h1, h2⟩, h3⟩, h4⟩, h5⟩ := h
  have hdir : ∀ e ∈ o.after, Region.binds .any e = true → e.on ∈ directOf o := fun e he hb => by
    unfold directOf
    rw [List.mem_map]
    exact ⟨e, by rw [List.mem_filter]; exact ⟨by simpa using he, hb⟩, rfl⟩
  have hk : ∀ {k : Nat} {d : Tmp}, dstAt ops k = some d → k < ops.size := fun {k d} hd => by
    rcases Nat.lt_or_ge k ops.size with h | h
    · exact h
    · simp [dstAt, Array.getElem?_eq_none h] at hd
  refine ⟨by simpa using h1, fun e he hb => h2 _ (hdir e he hb), fun j hj => (h3 j hj).1, fun S hS hc j hj => ?_, fun k d hd hl => ?_, fun k d hne hd hdi => ?_, fun hm j hj => ?_⟩
  · have hD : ∀ k ∈ directOf o, S k := fun k hk => by
      unfold directOf at hk
      rw [List.mem_map] at hk
      obtain ⟨e, he, rfl⟩ := hk
      rw [List.mem_filter] at he
      exact hS e (by simpa using he.1) he.2
    rcases (h3 j hj).2 with h | h
    · exact hD j (by simpa using h)
    · rw [List.any_eq_true] at h
      obtain ⟨k, hk, hkj⟩ := h
      exact hc k (hD k hk) j (by simpa using hkj)
  · have := h4 k (hk hd)
    rw [hd] at this
    simp only [Bool.and_eq_true, Bool.or_eq_true, Bool.not_eq_true', List.contains_iff_mem, List.contains_eq_mem, decide_eq_true_eq, decide_eq_false_iff_not] at this
    rcases this.1 with (h | h) | h
    · exact absurd hl h
    · exact .inl h
    · exact .inr h
  · have := h4 k (hk hd)
    rw [hd] at this
    simp only [Bool.and_eq_true, Bool.or_eq_true, List.contains_eq_mem, decide_eq_true_eq, beq_iff_eq, bne_iff_ne] at this
    rcases this.2 with ((h | h) | h) | h
    · exact absurd h hne
    · exact absurd hdi h
    · exact .inl h
    · exact .inr h
  · rcases h5 with h | h
    · omega
    · simpa using h j hj

section
variable {ops : Array Oper} {Q : Exit → Act → World → Prop} {sp : List NS} {D : List (List Nat)} {m : Nat} {a0 : Act} {w0 : World}

/-- what is known of operation i -/
def known (sp : List NS) (D : List (List Nat)) (x : Gh) (i : Nat) (w : World) : Prop := (sp.getD i (.eq undef)).holds i (D.getD i []) x w

/-- what is to be shown of operation i -/
def netDo (P : Program) (ops : Array Oper) (sp : List NS) (D : List (List Nat)) (a0 : Act) (w0 : World) (i : Nat) (o : Oper) : Prop :=
  ∀ (x : Gh) (w : World), Below w0.heap.size w0 w → (∀ j ∈ D.getD i [], known sp D x j w ∧ x.hi j ≤ w.heap.size) → ∀ Q' : Exit → Act → World → Prop,
    (∀ u w', Below w.heap.size w w' → (sp.getD i (.eq undef)).holds i (D.getD i []) (x.set i u w.heap.size w'.heap.size) w' → Q' .normal ((netAct ops a0 x.v i).put o.dst u) w') → wpList P ops Q' [o] (netAct ops a0 x.v i) w

/-- the tail, in the order of the text -/
theorem net_tail (hok : ∀ i o, ops[i]? = some o → NetOk ops D m i o) : ∀ (fuel k : Nat) (listed : Array Bool) (a : Act) (w : World), fuel + k = ops.size → m ≤ k → listed.size = ops.size → (∀ j, listed.getD j false = decide (j < k)) →
    wpList P ops Q (ops.toList.drop k) a w → wpAny P .any ops Q fuel listed a w
  | fuel, k, listed, a, w, hf, hm, hls, hl, h => by
    have hld : ∀ j, j < ops.size → listed.getD j true = decide (j < k) := fun j hj => by
      rw [← hl j]
      simp [Array.getD_eq_getD_getElem?, Array.getElem?_eq_getElem (show j < listed.size by omega)]
    have hr : ∀ i ∈ Region.ready .any ops listed, i = k ∧ k < ops.size := fun i hi => by
      obtain ⟨h0, o, ho, hall⟩ := mem_ready.1 hi
      have hin := (Array.getElem?_eq_some_iff.1 ho).1
      rw [hld i hin] at h0
      have hik : k ≤ i := by simpa using h0
      refine ⟨?_, by omega⟩
      have hcl := (hok i o ho).danc (fun j => j < k) (fun e he hb => by have := hall e he hb; rw [hl] at this; simpa using this) (fun j hj x hx => by
        have hjs : j < ops.size := by omega
        have := (hok j _ (Array.getElem?_eq_getElem hjs)).dlt x hx
        omega)
      rcases Nat.lt_or_ge k i with hlt | hge
      · have := hcl k ((hok i o ho).tail (by omega) k hlt)
        omega
      · omega
    cases fuel with
    | zero =>
      refine ⟨?_, ?_⟩
      · apply List.eq_nil_iff_forall_not_mem.2
        intro i hi
        have := hr i hi
        omega
      · rw [List.drop_of_length_le (by simp; omega)] at h
        exact h
    | succ fuel =>
      have hks : k < ops.size := by omega
      have hke := Array.getElem?_eq_getElem hks
      have hdrop : ops.toList.drop k = ops[k] :: ops.toList.drop (k + 1) := by
        rw [List.drop_eq_getElem_cons (by simpa using hks)]
        simp
      rw [hdrop] at h
      have hready : k ∈ Region.ready .any ops listed := mem_ready.2 ⟨by rw [hld k hks]; simp, _, hke, fun e he hb => by rw [hl]; simpa using (hok k _ hke).direct e he hb⟩
      refine ⟨fun h0 => (by rw [h0] at hready; cases hready), fun i hi => ?_⟩
      obtain ⟨rfl, _⟩ := hr i hi
      unfold wpOp
      simp only [hke]
      have hw : Region.wanted ops[i] (yielded ops a.tmps) = true := by simp [Region.wanted, (hok i _ hke).guard]
      simp only [wpList, hw, if_true] at h ⊢
      have nxt : ∀ a w, wpList P ops Q (ops.toList.drop (i + 1)) a w → wpAny P .any ops Q fuel (listed.setIfInBounds i true) a w := fun a w h =>
        net_tail hok fuel (i + 1) _ a w (by omega) (by omega) (by simpa using hls) (fun j => by
          by_cases e : i = j
          · subst e
            simp [Array.getD_eq_getD_getElem?, Array.getElem?_setIfInBounds, hls, hks]
          · rw [getD_set_ne _ e, hl]
            congr 1
            rw [eq_iff_iff]
            omega) h
      rcases h with h | h
      · exact .inl (Oper.wp_mono nxt h)
      · exact .inr h

theorem net_any (hB : netB ops D m = true) (hst : ∀ s ∈ sp, s.stable) (hdo : ∀ i o, i < m → ops[i]? = some o → netDo P ops sp D a0 w0 i o)
    (hend : ∀ x w, Below w0.heap.size w0 w → (∀ i, i < m → known sp D x i w) → (∀ i, i < m → w0.heap.size ≤ x.lo i ∧ x.lo i ≤ x.hi i ∧ x.hi i ≤ w.heap.size) → (∀ i j, i < m → j < m → i ≠ j → x.hi i ≤ x.lo j ∨ x.hi j ≤ x.lo i) → wpList P ops Q (ops.toList.drop m) (netAct ops a0 x.v m) w) :
    ∀ (fuel : Nat) (listed : Array Bool) (x : Gh) (w : World), ((List.range ops.size).filter fun j => !listed.getD j false).length = fuel → listed.size = ops.size → (∀ j, m ≤ j → listed.getD j false = false) →
      (∀ i, listed.getD i false = true → ∀ j ∈ D.getD i [], listed.getD j false = true) → Below w0.heap.size w0 w → (∀ i, listed.getD i false = true → known sp D x i w) → (∀ i, listed.getD i false = true → w0.heap.size ≤ x.lo i ∧ x.lo i ≤ x.hi i ∧ x.hi i ≤ w.heap.size) →
      (∀ i j, listed.getD i false = true → listed.getD j false = true → i ≠ j → x.hi i ≤ x.lo j ∨ x.hi j ≤ x.lo i) →
      wpAny P .any ops Q fuel listed (actP ops a0 x.v (fun j => listed.getD j false) ops.size) w := by
  simp only [netB, Bool.and_eq_true, decide_eq_true_eq] at hB
  obtain ⟨⟨hm, hns⟩, hnf⟩ := hB
  have hok : ∀ i o, ops[i]? = some o → NetOk ops D m i o := fun i o ho => netAt_spec (by
    have := netFrom_spec ops.toList 0 hnf i o (by simpa using ho)
    simpa using this)
  have hst' : ∀ i, (sp.getD i (.eq undef)).stable := fun i => by
    rw [List.getD_eq_getElem?_getD]
    rcases h : sp[i]? with _ | s
    · trivial
    · exact hst s (List.mem_of_getElem? h)
  intro fuel
  induction fuel with
  | zero =>
    intro listed x w hc hls hlm hcl hb hkn hiv hdj
    -- all are listed: then m is the region's size
    have hall : ∀ j, j < ops.size → listed.getD j false = true := fun j hj => by
      rw [List.length_eq_zero_iff, List.filter_eq_nil_iff] at hc
      have := hc j (List.mem_range.2 hj)
      simpa using this
    have hms : m = ops.size := by
      rcases Nat.lt_or_ge m ops.size with h | h
      · have := hall m h
        rw [hlm m (Nat.le_refl _)] at this
        cases this
      · omega
    refine net_tail hok 0 ops.size listed _ w (by omega) (by omega) hls (fun j => ?_) ?_
    · by_cases hj : j < ops.size
      · rw [hall j hj]; simp [hj]
      · rw [hlm j (by omega)]; simp [hj]
    · have := hend x w hb (fun i hi => hkn i (hall i (by omega))) (fun i hi => hiv i (hall i (by omega))) (fun i j hi hj => hdj i j (hall i (by omega)) (hall j (by omega)))
      rw [← actP_net (p := fun j => listed.getD j false) m (fun j hj => hall j (by omega))] at this
      rwa [hms] at this
  | succ fuel ih =>
    intro listed x w hc hls hlm hcl hb hkn hiv hdj
    by_cases hfull : ∀ j, j < m → listed.getD j false = true
    · -- the tail
      have hl : ∀ j, listed.getD j false = decide (j < m) := fun j => by
        by_cases hj : j < m
        · rw [hfull j hj]; simp [hj]
        · rw [hlm j (by omega)]; simp [hj]
      have hcnt : fuel + 1 + m = ops.size := by
        rw [← hc]
        have e : (List.range ops.size).filter (fun j => !listed.getD j false) = (List.range' m (ops.size - m)) := by
          have e1 : (List.range ops.size) = List.range m ++ List.range' m (ops.size - m) := by
            have h := List.range'_append_1 (s := 0) (m := m) (n := ops.size - m)
            rw [Nat.zero_add] at h
            rw [List.range_eq_range', List.range_eq_range', h]
            congr 1
            omega
          rw [e1, List.filter_append]
          rw [List.filter_eq_nil_iff.2 (fun j hj => by rw [hl]; simp at hj ⊢; exact hj), List.nil_append]
          rw [List.filter_eq_self.2 (fun j hj => by rw [hl]; simp [List.mem_range'] at hj ⊢; omega)]
        rw [e, List.length_range']
        omega
      refine net_tail hok (fuel + 1) m listed _ w (by omega) (Nat.le_refl _) hls hl ?_
      have := hend x w hb (fun i hi => hkn i (hfull i hi)) (fun i hi => hiv i (hfull i hi)) (fun i j hi hj => hdj i j (hfull i hi) (hfull j hj))
      rw [← actP_net (p := fun j => listed.getD j false) m hfull] at this
      rwa [actP_none (p := fun j => listed.getD j false) ops.size m hm (fun j h1 _ => hlm j h1)]
    · -- one of the net
      have hne : Region.ready .any ops listed ≠ [] := by
        intro h0
        -- the least that is not listed is ready
        have : ∀ n, ∀ j, j < n → j < m → listed.getD j false = true := by
          intro n
          induction n with
          | zero => intro j hj; omega
          | succ n ihn =>
            intro j hj hjm
            by_cases e : j < n
            · exact ihn j e hjm
            · rcases hlj : listed.getD j false with _ | _
              · exfalso
                have hjs : j < ops.size := by omega
                have hje := Array.getElem?_eq_getElem hjs
                have : j ∈ Region.ready .any ops listed := mem_ready.2 ⟨by
                  rw [← hlj]
                  simp [Array.getD_eq_getD_getElem?, Array.getElem?_eq_getElem (show j < listed.size by omega)], _, hje, fun e he hb => by
                  have := (hok j _ hje).direct e he hb
                  exact ihn e.on (by omega) (by omega)⟩
                rw [h0] at this
                cases this
              · rfl
        exact hfull fun j hj => this (j + 1) j (by omega) hj
      refine ⟨fun h0 => absurd h0 hne, fun i hi => ?_⟩
      obtain ⟨h0, o, ho, hall⟩ := mem_ready.1 hi
      have his := (Array.getElem?_eq_some_iff.1 ho).1
      have hO := hok i o ho
      have hDl : ∀ j ∈ D.getD i [], listed.getD j false = true := hO.danc (fun j => listed.getD j false = true) hall (fun k hk j hj => hcl k hk j hj)
      have him : i < m := by
        rcases Nat.lt_or_ge i m with h | h
        · exact h
        · exact absurd (fun j hj => hDl j (hO.tail h j (by omega))) hfull
      have hli : listed.getD i false = false := by
        rw [← h0]
        simp [Array.getD_eq_getD_getElem?, Array.getElem?_eq_getElem (show i < listed.size by omega)]
      have hpre := hdo i o him ho x w hb (fun j hj => ⟨hkn j (hDl j hj), (hiv j (hDl j hj)).2.2⟩) (fun e b w' => e = .normal ∧ ∃ u, b = (netAct ops a0 x.v i).put o.dst u ∧ (Below w.heap.size w w' ∧ (sp.getD i (.eq undef)).holds i (D.getD i []) (x.set i u w.heap.size w'.heap.size) w'))
        (fun u w' h1 h2 => ⟨rfl, u, rfl, h1, h2⟩)
      have hwant : ∀ b : Act, Region.wanted o (yielded ops b.tmps) = true := fun b => by simp [Region.wanted, hO.guard]
      have hnl : ¬ LetsOut (fun (e : Exit) (b : Act) (w' : World) => e = .normal ∧ ∃ u, b = (netAct ops a0 x.v i).put o.dst u ∧ (Below w.heap.size w w' ∧ (sp.getD i (.eq undef)).holds i (D.getD i []) (x.set i u w.heap.size w'.heap.size) w')) := by
        rintro ⟨b, w', h, _⟩
        cases h
      simp only [wpList, hwant, if_true] at hpre
      rcases hpre with hpre | hpre
      case inr => exact absurd hpre.2 hnl
      simp only [true_and] at hpre
      have hexec : execOp (actP ops a0 x.v (fun j => listed.getD j false) ops.size).eval o = execOp (netAct ops a0 x.v i).eval o := by
        refine execOp_congr o (fun cs b => Region.noSelect_spec hns i o cs b ho) fun y hx => ?_
        by_cases hxt : ∃ t, y = .tmp t
        · obtain ⟨t, rfl⟩ := hxt
          have hlook : t ∈ o.looksAt ops := List.mem_append_left _ (List.mem_filterMap.2 ⟨.tmp t, by simpa using hx, rfl⟩)
          have e1 : netAct ops a0 x.v i = actP ops a0 x.v (fun j => decide (j < i)) ops.size := by
            rw [actP_none (p := fun j => decide (j < i)) ops.size i (by omega) (fun j h1 _ => by simp; omega)]
            exact (actP_net (p := fun j => decide (j < i)) i (fun j hj => by simp [hj])).symm
          rw [e1]
          refine actP_eval t ops.size fun j hj hd => ?_
          rcases hO.looks j t hd hlook with h | h
          · rw [hDl j h]; have := hO.dlt j h; simp [this]
          · have hlt := (hok j _ (Array.getElem?_eq_getElem hj)).dlt i h
            have : listed.getD j false = false := by
              rcases hlj : listed.getD j false with _ | _
              · rfl
              · have := hcl j hlj i h
                rw [hli] at this
                cases this
            rw [this]; simp; omega
        · exact actP_evalC y (fun t h => hxt ⟨t, h⟩) _ _
      have hsz : (netAct ops a0 x.v i).tmps.size = (actP ops a0 x.v (fun j => listed.getD j false) ops.size).tmps.size := by
        rw [actP_size, ← actP_net (p := fun _ => true) i (fun _ _ => rfl), actP_size]
      have hT := wp_transfer (Q2 := Q) hexec hsz (fun c b w' h => by cases h.1) hnl hpre
      unfold wpOp
      simp only [ho, hwant, if_true]
      refine .inl (Oper.wp_mono ?_ hT)
      rintro b w' ⟨u, rfl, hbw, hh⟩
      have hdst : o.dst = dstAt ops i := by simp [dstAt, ho]
      have hlq : ∀ j, (listed.setIfInBounds i true).getD j false = (listed.getD j false || j == i) := fun j => by
        by_cases e : i = j
        · subst e
          simp [Array.getD_eq_getD_getElem?, Array.getElem?_setIfInBounds, hls, his]
        · rw [getD_set_ne _ e]
          simp [Ne.symm e]
      rw [hdst, actP_add (v' := (x.set i u w.heap.size w'.heap.size).v) (q := fun j => (listed.setIfInBounds i true).getD j false) (fun j hj _ => by simp [Gh.set, hj]) (by simp [Gh.set]) hli hlq (fun j d hij hlj hdj hdi => by
        rcases hO.dsts j d (by omega) hdj hdi with h | h
        · have := hO.dlt j h; omega
        · have := hcl j hlj i h
          rw [hli] at this
          cases this) ops.size his]
      refine ih _ _ _ ?_ (by simpa using hls) (fun j hj => by rw [hlq, hlm j hj]; simp; omega) (fun k hk j hj => ?_) (hb.trans (hbw.mono hb.size)) (fun k hk => ?_) (fun k hk => ?_) (fun k j hk hj hkj => ?_)
      · -- the count
        have hmem : i ∈ (List.range ops.size).filter fun j => !listed.getD j false := by
          rw [List.mem_filter]; exact ⟨List.mem_range.2 his, by rw [hli]; rfl⟩
        have e : (List.range ops.size).filter (fun j => !(listed.setIfInBounds i true).getD j false) = ((List.range ops.size).filter fun j => !listed.getD j false).filter (fun j => j != i) := by
          rw [List.filter_filter]
          congr 1
          funext j
          rw [hlq]
          simp [Bool.not_or, Bool.and_comm, bne]
        have hnd : ((List.range ops.size).filter fun j => !listed.getD j false).Nodup := List.nodup_range.filter _
        rw [e]
        have := List.length_erase_of_mem hmem
        rw [hnd.erase_eq_filter, hc] at this
        simpa using this
      · rw [hlq] at hk ⊢
        simp only [Bool.or_eq_true, beq_iff_eq] at hk ⊢
        rcases hk with hk | rfl
        · exact .inl (hcl k hk j hj)
        · exact .inl (hDl j hj)
      · rw [hlq] at hk
        simp only [Bool.or_eq_true, beq_iff_eq] at hk
        unfold known
        by_cases e : k = i
        · subst e
          exact hh
        · rcases hk with hk | hk
          · refine NS.holds_congr (x := x) (fun j hj => ?_) (NS.holds_stable (hst' k) (hkn k hk) hbw)
            have hji : j ≠ i := by
              rcases hj with rfl | hj
              · exact e
              · rintro rfl
                have := hcl k hk j hj
                rw [hli] at this
                cases this
            simp [Gh.set, hji]
          · exact absurd hk e
      · rw [hlq] at hk
        simp only [Bool.or_eq_true, beq_iff_eq] at hk
        by_cases e : k = i
        · subst e
          simp only [Gh.set, if_true]
          exact ⟨hb.size, hbw.size, Nat.le_refl _⟩
        · have := hiv k (hk.resolve_right e)
          have := hbw.size
          simp only [Gh.set, if_neg e]
          omega
      · rw [hlq] at hk hj
        simp only [Bool.or_eq_true, beq_iff_eq] at hk hj
        by_cases e : k = i
        · subst e
          have := hiv j (hj.resolve_right (Ne.symm hkj))
          simp only [Gh.set, if_true, if_neg (Ne.symm hkj)]
          exact .inr (by omega)
        · by_cases e' : j = i
          · subst e'
            have := hiv k (hk.resolve_right e)
            simp only [Gh.set, if_true, if_neg e]
            exact .inl (by omega)
          · simp only [Gh.set, if_neg e, if_neg e']
            exact hdj k j (hk.resolve_right e) (hj.resolve_right e') hkj

theorem repl_getD (n j : Nat) : (Array.replicate n false).getD j false = false := by
  rw [Array.getD_eq_getD_getElem?, Array.getElem?_replicate]
  split <;> rfl
def stableAll : List NS → Prop
  | [] => True
  | s :: l => s.stable ∧ stableAll l
theorem stableAll_spec : ∀ {l : List NS}, stableAll l → ∀ s ∈ l, s.stable
  | [], _, s, hs => by simp at hs
  | a :: l, h, s, hs => by
    rcases List.mem_cons.1 hs with rfl | hs
    · exact h.1
    · exact stableAll_spec h.2 s hs
def netAll (P : Program) (ops : Array Oper) (sp : List NS) (D : List (List Nat)) (a0 : Act) (w0 : World) : Nat → List Oper → Prop
  | _, [] => True
  | i, o :: l => netDo P ops sp D a0 w0 i o ∧ netAll P ops sp D a0 w0 (i + 1) l
theorem netAll_spec {ops : Array Oper} {sp : List NS} {D : List (List Nat)} {a0 : Act} {w0 : World} : ∀ (l : List Oper) (k : Nat), netAll P ops sp D a0 w0 k l → ∀ j o, l[j]? = some o → netDo P ops sp D a0 w0 (k + j) o
  | [], _, _, _, _, h => by simp at h
  | x :: l, k, h, 0, o, hj => by
    simp at hj
    subst hj
    exact h.1
  | x :: l, k, h, j + 1, o, hj => by
    have := netAll_spec l (k + 1) h.2 j o (by simpa using hj)
    rwa [show k + 1 + j = k + (j + 1) by omega] at this
/-- a relation on the value alone -/
def rel (i : Nat) (R : Value → Nat → Nat → World → Prop) : NS := .rel fun x w => R (x.v i) (x.lo i) (x.hi i) w
theorem rel_stable {i : Nat} {R : Value → Nat → Nat → World → Prop} (h : ∀ u lo hi w w', R u lo hi w → Below w.heap.size w w' → R u lo hi w') : (rel i R).stable := fun v w w' hr hb => h _ _ _ _ _ hr hb
/-- THE LAW. -/
theorem wp_region_net {id : Nat} {l : List Oper} {w : World} (hmo : P.follows .mixedOrders = true) (sp : List NS) (D : List (List Nat)) (m : Nat) (hB : netB l.toArray D m = true) (hst : stableAll sp)
    (hdo : netAll P l.toArray sp D a0 w 0 (l.take m))
    (hend : ∀ x w', Below w.heap.size w w' → (∀ i, i < m → known sp D x i w') → (∀ i, i < m → w.heap.size ≤ x.lo i ∧ x.lo i ≤ x.hi i ∧ x.hi i ≤ w'.heap.size) → (∀ i j, i < m → j < m → i ≠ j → x.hi i ≤ x.lo j ∨ x.hi j ≤ x.lo i) → wpList P l.toArray Q (l.drop m) (netAct l.toArray a0 x.v m) w') : (Code.region id l.toArray true).wp P Q a0 w := by
  replace hst := stableAll_spec hst
  have hdo : ∀ i o, i < m → l[i]? = some o → netDo P l.toArray sp D a0 w.drew i o := fun i o hi ho => by
    have := netAll_spec (l.take m) 0 hdo i o (by rw [List.getElem?_take, if_pos hi]; exact ho)
    rw [Nat.zero_add] at this
    exact fun v w1 hb => this v w1 ⟨hb.os, hb.tape, hb.output, hb.size, hb.block⟩
  refine wp_region_any hmo ?_
  have h := net_any (w0 := w.drew) (a0 := a0) (Q := Q) (P := P) (sp := sp) hB hst (fun i o hi ho => hdo i o hi (by simpa using ho)) (fun x w' hb hk hiv hdj => by simpa using hend x w' (show Below w.heap.size w w' from ⟨hb.os, hb.tape, hb.output, hb.size, hb.block⟩) hk hiv hdj)
    l.toArray.size (Array.replicate l.toArray.size false) ⟨fun _ => undef, fun _ => 0, fun _ => 0⟩ w.drew
    (by rw [List.filter_eq_self.2 (fun j _ => by rw [repl_getD]; rfl), List.length_range])
    (by simp) (fun j _ => repl_getD _ _)
    (fun i hi => by rw [repl_getD] at hi; cases hi)
    (Below.refl _ _)
    (fun i hi => by rw [repl_getD] at hi; cases hi)
    (fun i hi => by rw [repl_getD] at hi; cases hi)
    (fun i j hi => by rw [repl_getD] at hi; cases hi)
  have e : actP l.toArray a0 (fun _ => undef) (fun j => (Array.replicate l.toArray.size false).getD j false) l.toArray.size = a0 :=
    actP_none l.toArray.size 0 (by omega) (fun j _ _ => repl_getD _ _)
  rw [e] at h
  exact h
end
end
end Go.Proofs.Ytjhllgldllbaaaa

/- What every law goes through: lists of lists of ints. -/
namespace Go.Proofs.Ytjhllgldllbaaaa
set_option linter.unusedVariables false
set_option linter.unusedSimpArgs false
open Go.RowKit

theorem infoInts : (Try.prog.info? 22).map (fun i => (i.zero, i.size, i.bytes)) = some (some (.slice none 0 0), 1, 24) := by kernel_rfl

/-- A row of slice values of the call's own. -/
def OutO (w : World) (lo hi : Nat) (v : Value) (vs : List Value) : Prop := w.ownsRow lo 22 1 v vs.length vs ∧ (∀ k, v.ownBlock = some k → k < hi) ∧ vs.length ≤ 17592186044416
theorem OutO.form {w : World} {lo hi : Nat} {v : Value} {vs : List Value} (h : OutO w lo hi v vs) : ∃ A c, v = .slice A vs.length c ∧ vs.length ≤ c ∧ c ≤ 9223372036854775807 := by
  rcases h.1.2 with ⟨rfl, h0⟩ | ⟨g, cap, cur, rfl, _, _, hnc, hcm, _⟩
  · exact ⟨none, 0, by rw [h0], by omega, by omega⟩
  · exact ⟨_, _, rfl, hnc, by simp only [maxLen] at hcm; omega⟩
theorem OutO.chg {w w' : World} {lo hi lo' hi' : Nat} {v : Value} {vs : List Value} (h : OutO w lo hi v vs) (hc : Chg lo' hi' w w') (hd : hi ≤ lo' ∨ hi' ≤ lo) : OutO w' lo hi v vs := by
  refine ⟨⟨h.1.1, ?_⟩, h.2⟩
  rcases h.1.2 with h1 | ⟨g, cap, cur, rfl, hg, hh, rest⟩
  · exact .inl h1
  · have := h.2.1 g (by simp [Value.ownBlock])
    exact .inr ⟨g, cap, cur, rfl, hg, (hc.block g (Array.getElem?_eq_some_iff.1 hh).1 (by omega)).trans hh, rest⟩
theorem OutO.below {w w' : World} {lo hi : Nat} {v : Value} {vs : List Value} (h : OutO w lo hi v vs) (hb : Below w.heap.size w w') : OutO w' lo hi v vs :=
  ⟨h.1.kept (row := none) ⟨hb.os, hb.tape, hb.output, hb.size, fun k hk _ => hb.block k hk⟩ (by cases v.ownBlock <;> simp), h.2⟩
/-- a row of ints turned leaves it -/
theorem OutO.grown {w w' : World} {lo hi base : Nat} {v u : Value} {vs : List Value} {l : List Int} (h : OutO w lo hi v vs) (ho : OwnI w base u l) (hg : w.grownBy w' u.ownBlock) : OutO w' lo hi v vs := by
  refine ⟨h.1.kept hg ?_, h.2⟩
  rcases h.1.2 with ⟨rfl, _⟩ | ⟨g, cap, cur, rfl, _, hh, _⟩
  · exact .inl rfl
  · right
    exact fun e => ho.blkne (g := g) (t := 22) (cs := cur) hh (by decide) e
theorem OutO.mono {w : World} {lo hi lo' hi' : Nat} {v : Value} {vs : List Value} (h : OutO w lo hi v vs) (h1 : lo' ≤ lo) (h2 : hi ≤ hi') : OutO w lo' hi' v vs := by
  refine ⟨⟨h.1.1, ?_⟩, fun k hk => Nat.lt_of_lt_of_le (h.2.1 k hk) h2, h.2.2⟩
  rcases h.1.2 with h3 | ⟨g, cap, cur, e, hg, rest⟩
  · exact .inl h3
  · exact .inr ⟨g, cap, cur, e, by omega, rest⟩

theorem OutO.set {w : World} {lo hi g : Nat} {v : Value} {vs : List Value} {t : TypeId} {cs : Array Value} (h : OutO w lo hi v vs) (hb : Blk w g t cs) (ht : 22 ≠ t) (i : Nat) (u : Value) : OutO (w.setCell ⟨g, i, none⟩ u) lo hi v vs := by
  refine ⟨h.1.kept (row := some g) ⟨rfl, rfl, rfl, by simp [World.setCell], fun k _ hne => Below.heap_setCell _ _ _ _ (fun e => hne (by rw [e]))⟩ ?_, h.2⟩
  rcases h.1.2 with ⟨rfl, _⟩ | ⟨g', cap, cur, rfl, _, hh, _⟩
  · exact .inl rfl
  · right
    intro e
    have : g' = g := by simpa [Value.ownBlock] using e
    subst this
    unfold Blk at hb
    rw [hh] at hb
    injection hb with hb
    injection hb with _ hb
    exact ht hb
/-- Lists of lists of ints that the call made. -/
def IntssO (w : World) (lo hi : Nat) (v : Value) (ll : List (List Int)) : Prop := ∃ vs, OutO w lo hi v vs ∧ vs.length = ll.length ∧ Fam w lo hi (vs.zip ll)
/-- the reading of an outer row -/
theorem OutO.rd {w : World} {lo hi : Nat} {v : Value} {vs : List Value} {ll : List (List Int)} (h : OutO w lo hi v vs) (hl : vs.length = ll.length) (hr : ∀ p ∈ vs.zip ll, SlI w w.heap.size p.1 p.2) : SlII w w.heap.size v ll := by
  obtain ⟨h1, h2, h3⟩ := h
  rcases h1.2 with ⟨rfl, h0⟩ | ⟨g, cap, cur, rfl, _, hg, hnc, hcm, hcs, htake⟩
  · obtain rfl : ll = [] := List.eq_nil_of_length_eq_zero (by omega)
    exact SlG.nil
  · rw [hl] at hnc h1 h3 ⊢
    refine ⟨_, _, rfl, hnc, by simp only [maxLen] at hcm; omega, h3, fun hp => ⟨g, 0, rfl, (Array.getElem?_eq_some_iff.1 hg).1, fun j x hj => ?_⟩⟩
    have hjl := lt_of_some hj
    have hc := h1.cellAt j (by omega)
    rw [List.getElem?_eq_getElem (by omega)] at hc
    refine ⟨vs[j]'(by omega), by rw [show 0 + j * 1 = j by omega]; exact hc, hr (vs[j]'(by omega), x) ?_⟩
    rw [List.mem_iff_getElem?]
    exact ⟨j, by rw [List.getElem?_zip_eq_some]; exact ⟨List.getElem?_eq_getElem (by omega), hj⟩⟩
theorem IntssO.rd {w : World} {lo hi : Nat} {v : Value} {ll : List (List Int)} (h : IntssO w lo hi v ll) : SlII w w.heap.size v ll := by
  obtain ⟨vs, h1, h2, h3⟩ := h
  exact h1.rd h2 fun p hp => (h3.1 p hp).rd
theorem IntssO.chg {w w' : World} {lo hi lo' hi' : Nat} {v : Value} {ll : List (List Int)} (h : IntssO w lo hi v ll) (hc : Chg lo' hi' w w') (hd : hi ≤ lo' ∨ hi' ≤ lo) : IntssO w' lo hi v ll := by
  obtain ⟨vs, h1, h2, h3⟩ := h
  exact ⟨vs, h1.chg hc hd, h2, h3.chg hc hd⟩
theorem IntssO.below {w w' : World} {lo hi : Nat} {v : Value} {ll : List (List Int)} (h : IntssO w lo hi v ll) (hb : Below w.heap.size w w') : IntssO w' lo hi v ll := by
  obtain ⟨vs, h1, h2, h3⟩ := h
  exact ⟨vs, h1.below hb, h2, h3.below hb⟩
theorem SlII.chg {w w' : World} {B lo hi : Nat} {v : Value} {ll : List (List Int)} (h : SlII w B v ll) (hc : Chg lo hi w w') (hB : B ≤ lo) (hs : B ≤ w.heap.size) : SlII w' B v ll := SlII.below (hc.below hB hs) h

/-- one row more, of later memory -/
theorem Fam.snoc {w : World} {lo mi hi : Nat} {L : List (Value × List Int)} {v : Value} {l : List Int} (h : Fam w lo mi L) (hv : IntsO w mi hi v l) (h1 : lo ≤ mi) (h2 : mi ≤ hi) : Fam w lo hi (L ++ [(v, l)]) := by
  refine ⟨fun p hp => ?_, ?_⟩
  · rcases List.mem_append.1 hp with hp | hp
    · exact (h.1 p hp).wider (Nat.le_refl _) h2
    · rw [List.mem_singleton] at hp
      subst hp
      exact hv.wider h1 (Nat.le_refl _)
  · rw [List.pairwise_append]
    refine ⟨h.2, by simp, fun a ha b hb => ?_⟩
    rw [List.mem_singleton] at hb
    subst hb
    show a.1.ownBlock = none ∨ a.1.ownBlock ≠ v.ownBlock
    rcases hA : a.1.ownBlock with _ | x
    · exact .inl rfl
    · right
      intro e
      have := (h.1 a ha).2 x hA
      have := (hv.1.lt x e.symm).1
      omega

/-- one row ahead, of earlier memory -/
theorem fam_cons {w : World} {lo mi hi : Nat} {L : List (Value × List Int)} {v : Value} {l : List Int} (hv : IntsO w lo mi v l) (h : Fam w mi hi L) (h1 : lo ≤ mi) (h2 : mi ≤ hi) : Fam w lo hi ([(v, l)] ++ L) := by
  refine ⟨fun p hp => ?_, ?_⟩
  · rcases List.mem_append.1 hp with hp | hp
    · rw [List.mem_singleton] at hp
      subst hp
      exact hv.wider (Nat.le_refl _) h2
    · exact (h.1 p hp).wider h1 (Nat.le_refl _)
  · rw [List.pairwise_append]
    refine ⟨by simp, h.2, fun a ha b hb => ?_⟩
    rw [List.mem_singleton] at ha
    subst ha
    show v.ownBlock = none ∨ v.ownBlock ≠ b.1.ownBlock
    rcases hA : v.ownBlock with _ | x
    · exact .inl rfl
    · right
      intro e
      have := hv.2 x hA
      have := ((h.1 b hb).1.lt x e.symm).1
      omega

def tot (ll : List (List Int)) : Nat := (ll.map List.length).sum
theorem tot_snoc (ll : List (List Int)) (l : List Int) : tot (ll ++ [l]) = tot ll + l.length := by simp [tot]
theorem tot_take_le (ll : List (List Int)) (k : Nat) : tot (ll.take k) ≤ tot ll := by
  have : tot ll = tot (ll.take k) + tot (ll.drop k) := by simp only [tot, ← List.sum_append, ← List.map_append, List.take_append_drop]
  omega
theorem tot_mem {ll : List (List Int)} {l : List Int} (h : l ∈ ll) : l.length ≤ tot ll := by
  induction ll with
  | nil => simp at h
  | cons a r ih =>
    simp only [tot, List.map_cons, List.sum_cons] at ih ⊢
    rcases List.mem_cons.1 h with rfl | h
    · omega
    · have := ih h; omega
/-- marks, list by list -/
def mkSS : Int → List (List Int) → List (List Int)
  | _, [] => []
  | k, l :: r => mkI k l.length :: mkSS (k + l.length) r
theorem mkSS_snoc : ∀ (ll : List (List Int)) (k : Int) (l : List Int), mkSS k (ll ++ [l]) = mkSS k ll ++ [mkI (k + tot ll) l.length]
  | [], k, l => by simp [mkSS, tot]
  | a :: r, k, l => by
    have e : k + (a.length : Int) + (tot r : Int) = k + (tot (a :: r) : Int) := by simp only [tot, List.map_cons, List.sum_cons]; omega
    simp only [List.cons_append, mkSS, mkSS_snoc r, e]
theorem mkSS_length : ∀ (ll : List (List Int)) (k : Int), (mkSS k ll).length = ll.length
  | [], _ => rfl
  | _ :: r, _ => by simp [mkSS, mkSS_length r]
theorem mkSS_get : ∀ (ll : List (List Int)) (k : Int) (j : Nat) (l : List Int), ll[j]? = some l → (mkSS k ll)[j]? = some (mkI (k + tot (ll.take j)) l.length)
  | [], _, _, _, h => by simp at h
  | a :: r, k, 0, l, h => by
    simp at h
    subst h
    simp [mkSS, tot]
  | a :: r, k, j + 1, l, h => by
    simp only [List.getElem?_cons_succ] at h
    have e : k + (a.length : Int) + (tot (r.take j) : Int) = k + (tot ((a :: r).take (j + 1)) : Int) := by simp only [tot, List.take_succ_cons, List.map_cons, List.sum_cons]; omega
    simp only [mkSS, List.getElem?_cons_succ, mkSS_get r (k + a.length) j l h, e]

set_option maxHeartbeats 800000 in
theorem eqIntSS_any (u v : Value) (xs ys : List (List Int)) (w : World) (hu : SlII w w.heap.size u xs) (hv : SlII w w.heap.size v ys) :
    Calls Try.prog 55 #[u, v] w fun e w' => e = .returned (.bool (decide (xs = ys))) ∧ Below w.heap.size w w' := by
  obtain ⟨A, c, rfl, _, _, hn, hx⟩ := hu.open_
  obtain ⟨C, d, rfl, _, _, hm, hy⟩ := hv.open_
  clear hu hv
  by_cases hnm : xs.length = ys.length
  · have heq : ((xs.length : Int) != ys.length) = false := by rw [bne_eq_false_iff_eq]; omega
    have HN := Lib.hid hnm
    clear hnm
    go_enter Try.func55, Try.ntmps55
    go_wp2
    go_loopw [5] (fun i wr => ∃ k : Nat, k ≤ xs.length ∧ i = .int .i64 k ∧ Below w.heap.size w wr ∧ Hid (xs.take k = ys.take k)) (fun i _ => xs.length - (intOf i).toNat)
    case atStart => exact ⟨0, Nat.zero_le _, rfl, Below.refl _ _, rfl⟩
    case round =>
      obtain ⟨k, hk, rfl, hbel, hxy⟩ := hrel
      by_cases hlt : k < xs.length
      · have hlt' : k < ys.length := by have := HN.out; omega
        obtain ⟨b, o, x, A', c', rfl, hb, HX, c1, hsx⟩ := SlII.at_ hx hlt
        obtain ⟨b', o', y, C', d', rfl, hb', HY, c2, hsy⟩ := SlII.at_ hy hlt'
        clear hx hy
        have s := hbel.size
        have d1 := InB.cell (w := wr) (by omega) (bcell hbel hb c1)
        have d2 := InB.cell (w := wr) (by omega) (bcell hbel hb' c2)
        have hsx' : ∀ s : InB wr, SlI s.val s.val.heap.size (.slice A' x.length c') x := fun t => SlI.next t.below (SlI.more s (SlI.below hbel hsx))
        have hsy' : ∀ s : InB wr, SlI s.val s.val.heap.size (.slice C' y.length d') y := fun t => SlI.next t.below (SlI.more s (SlI.below hbel hsy))
        have HSX := Lib.hid hsx'
        have HSY := Lib.hid hsy'
        clear c1 c2 hsx hsy hsx' hsy'
        by_cases hE : x = y
        · have hdE : decide (x = y) = true := by simpa using hE
          have hst := Lib.hid (show xs.take (k + 1) = ys.take (k + 1) by rw [take_snoc HX.out, take_snoc HY.out, hxy.out, hE])
          clear hE
          go_wp2
          (refine wp_region_inB (by kernel_rfl) (by kernel_rfl) ?_; (repeat (go_big_quiet_step ((go_at_call 36; exact InB.call (eqIntS_any _ _ x y _ (HSX.out _) (HSY.out _)))))); refine wpQuiet_nil ?_; intro w1 hw'; obtain ⟨s1, hw1⟩ := hw'; have hb1 := s1.below; rw [← hw1] at hb1; clear hw1 s1)
          go_wp2
          go_roundw
          case rel => exact ⟨k + 1, by omega, by go_num, hbel.trans (hb1.mono s), hst.out⟩
          case measure => simp [intOf]; omega
        · have hdE : decide (x = y) = false := by simpa using hE
          have hne : Hid (xs ≠ ys) := by
            rintro rfl
            have h2 := HX.out
            rw [HY.out] at h2
            exact hE (by injection h2 with h2; exact h2.symm)
          clear hE
          go_wp2
          (refine wp_region_inB (by kernel_rfl) (by kernel_rfl) ?_; (repeat (go_big_quiet_step ((go_at_call 36; exact InB.call (eqIntS_any _ _ x y _ (HSX.out _) (HSY.out _)))))); refine wpQuiet_nil ?_; intro w1 hw'; obtain ⟨s1, hw1⟩ := hw'; have hb1 := s1.below; rw [← hw1] at hb1; clear hw1 s1)
          go_wp2
          go_ret
          exact ⟨by rw [decide_eq_false hne.out]; rfl, hbel.trans (hb1.mono s)⟩
      · go_wp2
        go_ret
        refine ⟨?_, hbel⟩
        have h1 := hxy.out
        rw [List.take_of_length_le (by omega), List.take_of_length_le (by have := HN.out; omega)] at h1
        simp [h1]
  · have hne : ((xs.length : Int) != ys.length) = true := by rw [bne_iff_ne]; omega
    go_enter Try.func55, Try.ntmps55
    go_wp2
    go_ret
    refine ⟨?_, Below.refl _ _⟩
    rw [decide_eq_false (by rintro rfl; omega)]; rfl

/-- the first k cells of a row of slices are laid -/
def OutCs (cs : Array Value) (n : Nat) (vs : List Value) : Prop := cs.size = n ∧ vs.length ≤ n ∧ ∀ (j : Nat) (v : Value), vs[j]? = some v → cs[j]? = some v
theorem OutCs.step {cs : Array Value} {n : Nat} {vs : List Value} {v : Value} (h : OutCs cs n vs) (hn : vs.length < n) : OutCs (cs.setIfInBounds vs.length v) n (vs ++ [v]) := by
  obtain ⟨h1, h2, h3⟩ := h
  refine ⟨by simpa using h1, by simp; omega, fun j u hu => ?_⟩
  by_cases e : j = vs.length
  · subst e
    rw [List.getElem?_append_right (Nat.le_refl _)] at hu
    simp at hu
    subst hu
    simp [Array.getElem?_setIfInBounds]; omega
  · have hj : j < vs.length := by have := lt_of_some hu; simp at this; omega
    rw [List.getElem?_append_left hj] at hu
    rw [Array.getElem?_setIfInBounds, if_neg (by omega)]
    exact h3 j u hu
theorem OutCs.own {w : World} {g lo : Nat} {cs : Array Value} {vs : List Value} (h : OutCs cs vs.length vs) (hb : Blk w g 22 cs) (hlo : lo ≤ g) (hn : vs.length ≤ 17592186044416) : OutO w lo w.heap.size (.slice (some ⟨g, 0, none⟩) vs.length vs.length) vs := by
  have e : cs.toList.take (vs.length * 1) = vs := by
    apply List.ext_getElem?
    intro j
    by_cases hj : j < vs.length
    · rw [List.getElem?_take, if_pos (by omega), Array.getElem?_toList, List.getElem?_eq_getElem hj]
      exact h.2.2 j _ (List.getElem?_eq_getElem hj)
    · rw [List.getElem?_take, if_neg (by omega), List.getElem?_eq_none (by omega)]
  have := hb.own (base := lo) (n := vs.length) (cap := vs.length) (size := 1) hlo (Nat.le_refl _) (by simp only [maxLen]; omega) (by rw [h.1]; omega)
  rw [e] at this
  exact ⟨this, fun k hk => by simp [Value.ownBlock] at hk; subst hk; exact hb.lt, hn⟩

def szSS (xs : List (List Int)) : Nat := xs.length + tot xs
theorem szSS_take (xs : List (List Int)) (k : Nat) : tot (xs.take k) ≤ tot xs := tot_take_le xs k
theorem zip_split {vs : List Value} {ll : List (List Int)} {j : Nat} {v : Value} {l : List Int} (hv : vs[j]? = some v) (hl : ll[j]? = some l) : vs.zip ll = (vs.take j).zip (ll.take j) ++ (v, l) :: (vs.drop (j + 1)).zip (ll.drop (j + 1)) := by
  have e1 : vs = vs.take j ++ v :: vs.drop (j + 1) := by
    conv => lhs; rw [← List.take_append_drop j vs]
    rw [List.drop_eq_getElem_cons (lt_of_some hv)]
    have : vs[j]'(lt_of_some hv) = v := by rw [List.getElem?_eq_getElem (lt_of_some hv)] at hv; injection hv
    rw [this]
  have e2 : ll = ll.take j ++ l :: ll.drop (j + 1) := by
    conv => lhs; rw [← List.take_append_drop j ll]
    rw [List.drop_eq_getElem_cons (lt_of_some hl)]
    have : ll[j]'(lt_of_some hl) = l := by rw [List.getElem?_eq_getElem (lt_of_some hl)] at hl; injection hl
    rw [this]
  conv => lhs; rw [e1, e2]
  rw [List.zip_append (by simp; have := lt_of_some hv; have := lt_of_some hl; omega)]
  rfl
/-- behind j rounds of marking -/
def mkTo (k : Int) (ll : List (List Int)) (j : Nat) : List (List Int) := mkSS k (ll.take j) ++ ll.drop j
theorem mkTo_get {k : Int} {ll : List (List Int)} {j : Nat} (hj : j < ll.length) : (mkTo k ll j)[j]? = some ll[j] := by
  rw [mkTo, List.getElem?_append_right (by rw [mkSS_length]; simp; omega), mkSS_length, List.getElem?_drop]
  rw [List.length_take, Nat.min_eq_left (by omega)]
  simp [hj]
theorem mkTo_succ {k : Int} {ll : List (List Int)} {j : Nat} {l : List Int} (hl : ll[j]? = some l) : (mkTo k ll j).take j ++ mkI (k + tot (ll.take j)) l.length :: (mkTo k ll j).drop (j + 1) = mkTo k ll (j + 1) := by
  have hj := lt_of_some hl
  have hlen : (mkSS k (ll.take j)).length = j := by rw [mkSS_length]; simp; omega
  have e1 : (mkTo k ll j).take j = mkSS k (ll.take j) := by
    rw [mkTo]
    conv => lhs; arg 1; rw [← hlen]
    rw [List.take_left' rfl]
  have e2 : (mkTo k ll j).drop (j + 1) = ll.drop (j + 1) := by
    rw [mkTo, List.drop_append, hlen, List.drop_of_length_le (by omega)]
    rw [show j + 1 - j = 1 by omega, List.drop_drop]
    rfl
  rw [e1, e2, mkTo, take_snoc hl, mkSS_snoc]
  simp

set_option maxHeartbeats 1600000 in
/-- marks, beside other rows -/
theorem markIntSS_fam (v : Value) (vs : List Value) (ll : List (List Int)) (L0 : List (Value × List Int)) (k : Int) (lo hi : Nat) (w : World) (ho : OutO w lo hi v vs) (hl : vs.length = ll.length) (hF : Fam w lo hi (L0 ++ vs.zip ll)) (h0 : 0 ≤ k) (h1 : k ≤ 1125899906842624) (ht : tot ll ≤ 17592186044416) :
    Calls Try.prog 56 #[v, .int .i64 k] w fun e w' => e = .returned (.int .i64 (k + tot ll)) ∧ OutO w' lo hi v vs ∧ Fam w' lo hi (L0 ++ vs.zip (mkSS k ll)) ∧ Chg lo hi w w' := by
  obtain ⟨A, c, rfl, _, _⟩ := ho.form
  have hn := ho.2.2
  have HL := Lib.hid hl
  clear hl
  go_enter Try.func56, Try.ntmps56
  go_wp2
  go_loopw [1, 5] (fun q i wr => ∃ j : Nat, j ≤ vs.length ∧ i = .int .i64 j ∧ q = .int .i64 (k + tot (ll.take j)) ∧ OutO wr lo hi (.slice A vs.length c) vs ∧ Fam wr lo hi (L0 ++ vs.zip (mkTo k ll j)) ∧ Chg lo hi w wr) (fun _ i _ => vs.length - (intOf i).toNat)
  case atStart => exact ⟨0, Nat.zero_le _, rfl, by simp [tot], ho, by simpa [mkTo, mkSS] using hF, Chg.refl _ _ _⟩
  case round =>
    clear ho hF
    obtain ⟨j, hj, rfl, rfl, ho, hF, hc⟩ := hrel
    obtain ⟨t, htt⟩ : ∃ t, tot (ll.take j) = t := ⟨_, rfl⟩
    have htle := tot_take_le ll j
    rw [htt] at htle ⊢
    by_cases hlt : j < vs.length
    · have hjl : j < ll.length := by have := HL.out; omega
      obtain ⟨g, rfl, hcell⟩ : ∃ g, A = some ⟨g, 0, none⟩ ∧ wr.cell? ⟨g, j, none⟩ = some (vs[j]'hlt) := by
        rcases ho.1.2 with ⟨_, h0⟩ | ⟨g, cap, cur, e, _⟩
        · omega
        · injection e with e1 e2 e3
          subst e1 e3
          have hc := ho.1.cellAt j (by omega)
          rw [List.getElem?_eq_getElem hlt] at hc
          exact ⟨g, rfl, hc⟩
      have hvj : vs[j]? = some vs[j] := List.getElem?_eq_getElem hlt
      have hlj : ll[j]? = some ll[j] := List.getElem?_eq_getElem hjl
      have hsp := zip_split hvj (mkTo_get (k := k) hjl)
      rw [hsp, ← List.append_assoc] at hF
      have hv := (hF.1 (vs[j], ll[j]) (by simp))
      have hts := tot_take_le ll (j + 1)
      have hlen := hv.1.2.1
      obtain ⟨A', c', hform, _, _⟩ := hv.1.form
      have htk : tot (ll.take (j + 1)) = t + ll[j].length := by rw [take_snoc hlj, tot_snoc, htt]
      generalize hl' : ll[j] = l at *
      generalize hv' : vs[j] = u at *
      simp only at hform
      subst hform
      have HV := Lib.hid hvj
      have HLJ := Lib.hid hlj
      have HT := Lib.hid htk
      have HTT := Lib.hid htt
      clear hsp hvj hlj htk hl' hv' htt
      go_wp2_with fail
      refine (markIntS_any _ l _ lo _ hv.1 (by omega) (by omega)).mono ?_; rintro e w1 ⟨rfl, ho1, hg1⟩
      have hF1 := hF.turn ho1 hg1
      have hc1 := chg_of_grown hv hg1
      have ho2 := ho.grown hv.1 hg1
      have hF2 : Fam w1 lo hi (L0 ++ vs.zip (mkTo k ll (j + 1))) := by
        have e : vs.zip (mkTo k ll (j + 1)) = (vs.take j).zip ((mkTo k ll j).take j) ++ (.slice A' l.length c', mkI (k + t) l.length) :: (vs.drop (j + 1)).zip ((mkTo k ll j).drop (j + 1)) := by
          have h2 := mkTo_succ (k := k) HLJ.out
          rw [HTT.out] at h2
          rw [← h2]
          have h3 : ((mkTo k ll j).take j ++ mkI (k + t) l.length :: (mkTo k ll j).drop (j + 1))[j]? = some (mkI (k + t) l.length) := by
            have hlen : ((mkTo k ll j).take j).length = j := by simp [mkTo, mkSS_length]; omega
            rw [List.getElem?_append_right (by omega), hlen]
            simp
          rw [zip_split HV.out h3]
          have hlen : ((mkTo k ll j).take j).length = j := by simp [mkTo, mkSS_length]; omega
          congr 1
          · congr 1
            rw [List.take_append_of_le_length (by omega), List.take_take, Nat.min_self]
          · congr 2
            rw [List.drop_append, hlen, List.drop_of_length_le (by omega)]
            rw [show j + 1 - j = 1 by omega]
            rfl
        rw [e, ← List.append_assoc]
        exact hF1
      clear hF hF1 hv ho ho1 hg1 hcell
      go_wp2
      go_roundw
      case rel => exact ⟨j + 1, by omega, by go_num, by rw [HT.out]; congr 1; omega, ho2, hF2, hc.trans hc1⟩
      case measure => simp [intOf]; omega
    · have hjl : j = ll.length := by have := HL.out; omega
      have HJ := Lib.hid hjl
      have HTT := Lib.hid htt
      clear hjl htt
      go_wp2
      go_ret
      have e1 : tot ll = t := by rw [← HTT.out, HJ.out, List.take_length]
      have e2 : mkTo k ll j = mkSS k ll := by rw [mkTo, HJ.out, List.take_length, List.drop_length, List.append_nil]
      rw [e2] at hF
      exact ⟨by rw [e1]; rfl, ho, hF, hc⟩
theorem intss_mark (v : Value) (ll : List (List Int)) (k : Int) (lo hi : Nat) (w : World) (hv : IntssO w lo hi v ll) (h0 : 0 ≤ k) (h1 : k ≤ 1125899906842624) (ht : tot ll ≤ 17592186044416) :
    Calls Try.prog 56 #[v, .int .i64 k] w fun e w' => e = .returned (.int .i64 (k + tot ll)) ∧ IntssO w' lo hi v (mkSS k ll) ∧ Chg lo hi w w' := by
  obtain ⟨vs, h2, h3, h4⟩ := hv
  exact (markIntSS_fam v vs ll [] k lo hi w h2 h3 h4 h0 h1 ht).mono fun _ _ ⟨a, b, c, d⟩ => ⟨a, ⟨vs, b, by rw [mkSS_length]; exact h3, c⟩, d⟩
end Go.Proofs.Ytjhllgldllbaaaa

/- What every law goes through: matrices, lists of matrices. -/
namespace Go.Proofs.Ytjhllgldllbaaaa
set_option linter.unusedVariables false
set_option linter.unusedSimpArgs false
open Go.RowKit

/-- A matrix as data. -/
structure Mx where
  r : Int
  c : Int
  a : List Int
deriving DecidableEq
theorem mx_ext (p q : Mx) : (p = q) ↔ (p.r = q.r ∧ p.c = q.c ∧ p.a = q.a) := by
  cases p; cases q; simp

def MxR (w : World) (B : Nat) (val : Value) (m : Mx) : Prop := ∃ s, val = .agg #[.int .i64 m.r, .int .i64 m.c, s] ∧ SlI w B s m.a ∧ I64 m.r ∧ I64 m.c
theorem MxR.next {w w' : World} {v : Value} {m : Mx} (hb : Below w.heap.size w w') (h : MxR w w.heap.size v m) : MxR w' w'.heap.size v m := by
  obtain ⟨s, e, h1, h2⟩ := h
  exact ⟨s, e, SlI.next hb h1, h2⟩
theorem MxR.below {w w' : World} {B : Nat} {v : Value} {m : Mx} (hb : Below B w w') (h : MxR w B v m) : MxR w' B v m := by
  obtain ⟨s, e, h1, h2⟩ := h
  exact ⟨s, e, SlI.below hb h1, h2⟩
theorem MxR.more {w : World} {B B' : Nat} {v : Value} {m : Mx} (hB : B ≤ B') (h : MxR w B v m) : MxR w B' v m := by
  obtain ⟨s, e, h1, h2⟩ := h
  exact ⟨s, e, SlI.more hB h1, h2⟩
theorem MxR.chg {w w' : World} {B lo hi : Nat} {v : Value} {m : Mx} (h : MxR w B v m) (hc : Chg lo hi w w') (hB : B ≤ lo) (hs : B ≤ w.heap.size) : MxR w' B v m := MxR.below (hc.below hB hs) h
theorem MxR.open_ {w : World} {B : Nat} {v : Value} {m : Mx} (h : MxR w B v m) : ∃ A c, v = .agg #[.int .i64 m.r, .int .i64 m.c, .slice A m.a.length c] ∧ SlI w B (.slice A m.a.length c) m.a ∧ I64 m.r ∧ I64 m.c ∧ m.a.length ≤ 17592186044416 := by
  obtain ⟨s, rfl, h1, h2, h3⟩ := h
  obtain ⟨A, c, rfl, _, _, h4, h1⟩ := h1.open_
  exact ⟨A, c, rfl, h1, h2, h3, h4⟩
theorem MxR.form {w : World} {B : Nat} {v : Value} {m : Mx} (h : MxR w B v m) : ∃ A c, v = .agg #[.int .i64 m.r, .int .i64 m.c, .slice A m.a.length c] := by
  obtain ⟨A, c, e, _⟩ := h.open_
  exact ⟨A, c, e⟩
theorem MxR.lens {w : World} {B : Nat} {v : Value} {m : Mx} (h : MxR w B v m) : m.a.length ≤ 17592186044416 := by
  obtain ⟨A, c, e, _, _, _, h1⟩ := h.open_
  exact h1

/-- .. in three cells of memory -/
def RMx (w : World) (B b o : Nat) (m : Mx) : Prop := ∃ s, w.cell? ⟨b, o, none⟩ = some (.int .i64 m.r) ∧ w.cell? ⟨b, o + 1, none⟩ = some (.int .i64 m.c) ∧ w.cell? ⟨b, o + 2, none⟩ = some s ∧ SlI w B s m.a ∧ I64 m.r ∧ I64 m.c
abbrev SlM := SlG 3 RMx
theorem SlM.below {w w' : World} {B : Nat} {v : Value} {l : List Mx} (hb : Below B w w') (h : SlM w B v l) : SlM w' B v l :=
  SlG.mono (fun _ _ _ hlt ⟨s, h0, h1, h2, hs, hx⟩ => ⟨s, bcell hb hlt h0, bcell hb hlt h1, bcell hb hlt h2, SlI.below hb hs, hx⟩) (Nat.le_refl _) h
theorem SlM.more {w : World} {B B' : Nat} {v : Value} {l : List Mx} (hB : B ≤ B') (h : SlM w B v l) : SlM w B' v l :=
  SlG.mono (B := B) (B' := B') (fun _ _ _ _ ⟨s, h0, h1, h2, hs, hx⟩ => ⟨s, h0, h1, h2, SlI.more hB hs, hx⟩) hB h
theorem SlM.next {w w' : World} {v : Value} {l : List Mx} (hb : Below w.heap.size w w') (h : SlM w w.heap.size v l) : SlM w' w'.heap.size v l := SlM.more hb.size (SlM.below hb h)
theorem SlM.chg {w w' : World} {B lo hi : Nat} {v : Value} {l : List Mx} (h : SlM w B v l) (hc : Chg lo hi w w') (hB : B ≤ lo) (hs : B ≤ w.heap.size) : SlM w' B v l := SlM.below (hc.below hB hs) h
theorem SlM.at_ {w : World} {B c : Nat} {A : Option Addr} {xs : List Mx} {k : Nat} (h : SlM w B (.slice A xs.length c) xs) (hk : k < xs.length) :
    ∃ b o m A' c', A = some ⟨b, o, none⟩ ∧ b < B ∧ Hid (xs[k]? = some m) ∧ w.cell? ⟨b, o + k * 3, none⟩ = some (.int .i64 m.r) ∧ w.cell? ⟨b, o + k * 3 + 1, none⟩ = some (.int .i64 m.c) ∧ w.cell? ⟨b, o + k * 3 + 2, none⟩ = some (.slice A' m.a.length c') ∧
      SlI w B (.slice A' m.a.length c') m.a ∧ (-9223372036854775808 ≤ m.r ∧ m.r ≤ 9223372036854775807) ∧ (-9223372036854775808 ≤ m.c ∧ m.c ≤ 9223372036854775807) ∧ m.a.length ≤ 17592186044416 := by
  obtain ⟨A', c', e, h1, h2, h3, h4⟩ := h
  injection e with e1 e2 e3; subst e1
  obtain ⟨b, o, rfl, hb, hc⟩ := h4 (by omega)
  have hx : xs[k]? = some xs[k] := List.getElem?_eq_getElem hk
  obtain ⟨s, c0, c1, c2, hs, hr, hcc⟩ := hc k _ hx
  obtain ⟨A2, c3, rfl, _, _, h5, hs⟩ := hs.open_
  exact ⟨b, o, xs[k], A2, c3, rfl, hb, hx, c0, c1, c2, hs, hr, hcc, h5⟩

/-! ### rows of the call's own, of any element -/
def RowO (T : TypeId) (sz : Nat) (w : World) (lo hi : Nat) (v : Value) (n : Nat) (cs : List Value) : Prop := w.ownsRow lo T sz v n cs ∧ (∀ k, v.ownBlock = some k → k < hi) ∧ n ≤ 17592186044416
section
variable {T : TypeId} {sz : Nat} {w w' : World} {lo hi : Nat} {v : Value} {n : Nat} {cs : List Value}
theorem RowO.form (h : RowO T sz w lo hi v n cs) : ∃ A c, v = .slice A n c ∧ n ≤ c ∧ c ≤ 9223372036854775807 := by
  rcases h.1.2 with ⟨rfl, h0⟩ | ⟨g, cap, cur, rfl, _, _, hnc, hcm, _⟩
  · exact ⟨none, 0, by rw [h0], by omega, by omega⟩
  · exact ⟨_, _, rfl, hnc, by simp only [maxLen] at hcm; omega⟩
theorem RowO.at_ (h : RowO T sz w lo hi v n cs) (h0 : 0 < n) : ∃ g c cur, v = .slice (some ⟨g, 0, none⟩) n c ∧ lo ≤ g ∧ g < hi ∧ g < w.heap.size ∧ Blk w g T cur := by
  rcases h.1.2 with ⟨rfl, h1⟩ | ⟨g, cap, cur, rfl, hg, hh, _⟩
  · omega
  · exact ⟨g, cap, cur, rfl, hg, h.2.1 g rfl, (Array.getElem?_eq_some_iff.1 hh).1, hh⟩
theorem RowO.chg {lo' hi' : Nat} (h : RowO T sz w lo hi v n cs) (hc : Chg lo' hi' w w') (hd : hi ≤ lo' ∨ hi' ≤ lo) : RowO T sz w' lo hi v n cs := by
  refine ⟨⟨h.1.1, ?_⟩, h.2⟩
  rcases h.1.2 with h1 | ⟨g, cap, cur, rfl, hg, hh, rest⟩
  · exact .inl h1
  · have := h.2.1 g (by simp [Value.ownBlock])
    exact .inr ⟨g, cap, cur, rfl, hg, (hc.block g (Array.getElem?_eq_some_iff.1 hh).1 (by omega)).trans hh, rest⟩
theorem RowO.below (h : RowO T sz w lo hi v n cs) (hb : Below w.heap.size w w') : RowO T sz w' lo hi v n cs :=
  ⟨h.1.kept (row := none) ⟨hb.os, hb.tape, hb.output, hb.size, fun k hk _ => hb.block k hk⟩ (by cases v.ownBlock <;> simp), h.2⟩
theorem RowO.mono {lo' hi' : Nat} (h : RowO T sz w lo hi v n cs) (h1 : lo' ≤ lo) (h2 : hi ≤ hi') : RowO T sz w lo' hi' v n cs := by
  refine ⟨⟨h.1.1, ?_⟩, fun k hk => Nat.lt_of_lt_of_le (h.2.1 k hk) h2, h.2.2⟩
  rcases h.1.2 with h3 | ⟨g, cap, cur, e, hg, rest⟩
  · exact .inl h3
  · exact .inr ⟨g, cap, cur, e, by omega, rest⟩
/-- a block of another element is written to -/
theorem RowO.set {g : Nat} {t : TypeId} {bs : Array Value} (h : RowO T sz w lo hi v n cs) (hb : Blk w g t bs) (ht : T ≠ t) (i : Nat) (u : Value) : RowO T sz (w.setCell ⟨g, i, none⟩ u) lo hi v n cs := by
  refine ⟨h.1.kept (row := some g) ⟨rfl, rfl, rfl, by simp [World.setCell], fun k _ hne => Below.heap_setCell _ _ _ _ (fun e => hne (by rw [e]))⟩ ?_, h.2⟩
  rcases h.1.2 with ⟨rfl, _⟩ | ⟨g', cap, cur, rfl, _, hh, _⟩
  · exact .inl rfl
  · right
    intro e
    have : g' = g := by simpa [Value.ownBlock] using e
    subst this
    unfold Blk at hb
    rw [hh] at hb
    injection hb with hb
    injection hb with _ hb
    exact ht hb
/-- a row of ints turned leaves it -/
theorem RowO.grown {base : Nat} {u : Value} {l : List Int} (h : RowO T sz w lo hi v n cs) (hT : 3 ≠ T) (ho : OwnI w base u l) (hg : w.grownBy w' u.ownBlock) : RowO T sz w' lo hi v n cs := by
  refine ⟨h.1.kept hg ?_, h.2⟩
  rcases h.1.2 with ⟨rfl, _⟩ | ⟨g, cap, cur, rfl, _, hh, _⟩
  · exact .inl rfl
  · right
    exact fun e => ho.blkne (g := g) (t := T) (cs := cur) hh hT e
theorem RowO.stored {g c : Nat} (h : RowO T sz w lo hi (.slice (some ⟨g, 0, none⟩) n c) n cs) (j : Nat) (u : Value) : RowO T sz (w.setCell ⟨g, j, none⟩ u) lo hi (.slice (some ⟨g, 0, none⟩) n c) n (cs.set j u) ∧ Chg lo hi w (w.setCell ⟨g, j, none⟩ u) := by
  have hs := h.1.stored j u
  refine ⟨⟨hs.1, h.2⟩, ⟨hs.2.os, hs.2.tape, hs.2.output, hs.2.size, fun k hk hne => hs.2.block k hk (fun e => ?_)⟩⟩
  have h1 := h.2.1 k (by simp [Value.ownBlock]; injection e with e; exact e.symm)
  have h2 := (h.1.lt k (by simp [Value.ownBlock]; injection e with e; exact e.symm)).1
  omega
end
theorem RowO.nil (T : TypeId) {sz : Nat} (w : World) (lo hi : Nat) : RowO T sz w lo hi (.slice none 0 0) 0 [] := ⟨⟨by simp, .inl ⟨rfl, rfl⟩⟩, by simp [Value.ownBlock], by omega⟩

/-- the cells of matrices whose own rows are the values vs -/
def mxCs : List Value → List Mx → List Value
  | v :: vs, m :: ms => .int .i64 m.r :: .int .i64 m.c :: v :: mxCs vs ms
  | _, _ => []
theorem mxCs_length : ∀ (vs : List Value) (ms : List Mx), vs.length = ms.length → (mxCs vs ms).length = ms.length * 3
  | [], [], _ => rfl
  | v :: vs, m :: ms, h => by simp only [mxCs, List.length_cons] at h ⊢; rw [mxCs_length vs ms (by omega)]; omega
  | [], m :: ms, h => by simp at h
  | v :: vs, [], h => by simp at h
theorem mxCs_get : ∀ {vs : List Value} {ms : List Mx} {j : Nat} {v : Value} {m : Mx}, vs[j]? = some v → ms[j]? = some m →
    (mxCs vs ms)[j * 3]? = some (.int .i64 m.r) ∧ (mxCs vs ms)[j * 3 + 1]? = some (.int .i64 m.c) ∧ (mxCs vs ms)[j * 3 + 2]? = some v
  | [], _, _, _, _, h, _ => by simp at h
  | _ :: _, [], _, _, _, _, h => by simp at h
  | v :: vs, m :: ms, 0, _, _, h1, h2 => by
    simp at h1 h2
    subst h1 h2
    simp [mxCs]
  | v :: vs, m :: ms, j + 1, _, _, h1, h2 => by
    simp only [List.getElem?_cons_succ] at h1 h2
    obtain ⟨a, b, c⟩ := mxCs_get h1 h2
    simp only [mxCs, show (j + 1) * 3 = j * 3 + 1 + 1 + 1 by omega, show j * 3 + 1 + 1 + 1 + 1 = (j * 3 + 1) + 1 + 1 + 1 by omega, show j * 3 + 1 + 1 + 1 + 2 = (j * 3 + 2) + 1 + 1 + 1 by omega, List.getElem?_cons_succ]
    exact ⟨a, b, c⟩
theorem mxCs_snoc : ∀ (vs : List Value) (ms : List Mx) (v : Value) (m : Mx), vs.length = ms.length → mxCs (vs ++ [v]) (ms ++ [m]) = mxCs vs ms ++ [.int .i64 m.r, .int .i64 m.c, v]
  | [], [], _, _, _ => rfl
  | v :: vs, m :: ms, u, x, h => by simp only [List.cons_append, mxCs]; rw [mxCs_snoc vs ms u x (by simpa using h)]
  | [], m :: ms, _, _, h => by simp at h
  | v :: vs, [], _, _, h => by simp at h
theorem mxCs_set : ∀ {vs : List Value} {ms : List Mx} {j : Nat}, j < ms.length → vs.length = ms.length → ∀ (a b : Int) (l : List Int),
    ((mxCs vs ms).set (j * 3) (.int .i64 a)).set (j * 3 + 1) (.int .i64 b) = mxCs vs (ms.set j ⟨a, b, l⟩)
  | _, [], _, h, _, _, _, _ => by simp at h
  | [], _ :: _, _, _, h, _, _, _ => by simp at h
  | v :: vs, m :: ms, 0, _, _, a, b, l => by simp [mxCs]
  | v :: vs, m :: ms, j + 1, h, h2, a, b, l => by
    have := mxCs_set (vs := vs) (ms := ms) (j := j) (by simpa using h) (by simpa using h2) a b l
    simp only [mxCs, show (j + 1) * 3 = j * 3 + 1 + 1 + 1 by omega, show j * 3 + 1 + 1 + 1 + 1 = (j * 3 + 1) + 1 + 1 + 1 by omega, List.set_cons_succ, this]
theorem mxCs_oneCell : ∀ (vs : List Value) (ms : List Mx), (∀ v ∈ vs, v.oneCell' = true) → ∀ u ∈ mxCs vs ms, u.oneCell' = true
  | v :: vs, m :: ms, h, u, hu => by
    simp only [mxCs, List.mem_cons] at hu
    rcases hu with rfl | rfl | rfl | hu
    · rfl
    · rfl
    · exact h _ (by simp)
    · exact mxCs_oneCell vs ms (fun x hx => h x (by simp [hx])) u hu
  | [], _, _, u, hu => by simp [mxCs] at hu
  | _ :: _, [], _, u, hu => by simp [mxCs] at hu

abbrev OutM (w : World) (lo hi : Nat) (v : Value) (vs : List Value) (ms : List Mx) : Prop := RowO 75 3 w lo hi v ms.length (mxCs vs ms)
/-- Matrices that the call made. -/
def MatsO (w : World) (lo hi : Nat) (v : Value) (ms : List Mx) : Prop := ∃ vs, OutM w lo hi v vs ms ∧ vs.length = ms.length ∧ Fam w lo hi (vs.zip (ms.map Mx.a)) ∧ ∀ m ∈ ms, I64 m.r ∧ I64 m.c
theorem OutM.rd {w : World} {lo hi : Nat} {v : Value} {vs : List Value} {ms : List Mx} (h : OutM w lo hi v vs ms) (hl : vs.length = ms.length) (hr : ∀ p ∈ vs.zip (ms.map Mx.a), SlI w w.heap.size p.1 p.2) (hi : ∀ m ∈ ms, I64 m.r ∧ I64 m.c) : SlM w w.heap.size v ms := by
  obtain ⟨h1, h2, h3⟩ := h
  rcases h1.2 with ⟨rfl, h0⟩ | ⟨g, cap, cur, rfl, _, hg, hnc, hcm, hcs, htake⟩
  · obtain rfl : ms = [] := List.eq_nil_of_length_eq_zero (by omega)
    exact SlG.nil
  · refine ⟨_, _, rfl, hnc, by simp only [maxLen] at hcm; omega, h3, fun hp => ⟨g, 0, rfl, (Array.getElem?_eq_some_iff.1 hg).1, fun j x hj => ?_⟩⟩
    have hjl := lt_of_some hj
    have hv : vs[j]? = some (vs[j]'(by omega)) := List.getElem?_eq_getElem (by omega)
    obtain ⟨a, b, c⟩ := mxCs_get hv hj
    have e := fun i (hi : i < 3) => h1.cellAt (j * 3 + i) (by omega)
    refine ⟨vs[j]'(by omega), ?_, ?_, ?_, hr (vs[j]'(by omega), x.a) ?_, hi x (List.mem_of_getElem? hj)⟩
    · rw [show 0 + j * 3 = j * 3 + 0 by omega, e 0 (by omega)]; exact a
    · rw [show 0 + j * 3 + 1 = j * 3 + 1 by omega, e 1 (by omega)]; exact b
    · rw [show 0 + j * 3 + 2 = j * 3 + 2 by omega, e 2 (by omega)]; exact c
    · rw [List.mem_iff_getElem?]
      exact ⟨j, by rw [List.getElem?_zip_eq_some]; exact ⟨hv, by simp [hj]⟩⟩
theorem MatsO.rd {w : World} {lo hi : Nat} {v : Value} {ms : List Mx} (h : MatsO w lo hi v ms) : SlM w w.heap.size v ms := by
  obtain ⟨vs, h1, h2, h3, h4⟩ := h
  exact OutM.rd h1 h2 (fun p hp => (h3.1 p hp).rd) h4
theorem MatsO.chg {w w' : World} {lo hi lo' hi' : Nat} {v : Value} {ms : List Mx} (h : MatsO w lo hi v ms) (hc : Chg lo' hi' w w') (hd : hi ≤ lo' ∨ hi' ≤ lo) : MatsO w' lo hi v ms := by
  obtain ⟨vs, h1, h2, h3, h4⟩ := h
  exact ⟨vs, h1.chg hc hd, h2, h3.chg hc hd, h4⟩
theorem MatsO.below {w w' : World} {lo hi : Nat} {v : Value} {ms : List Mx} (h : MatsO w lo hi v ms) (hb : Below w.heap.size w w') : MatsO w' lo hi v ms := by
  obtain ⟨vs, h1, h2, h3, h4⟩ := h
  exact ⟨vs, h1.below hb, h2, h3.below hb, h4⟩

/-- A matrix that the call made. -/
def MxO (w : World) (lo hi : Nat) (val : Value) (m : Mx) : Prop := ∃ s, val = .agg #[.int .i64 m.r, .int .i64 m.c, s] ∧ IntsO w lo hi s m.a ∧ I64 m.r ∧ I64 m.c
theorem MxO.rd {w : World} {lo hi : Nat} {v : Value} {m : Mx} (h : MxO w lo hi v m) : MxR w w.heap.size v m := by
  obtain ⟨s, e, h1, h2⟩ := h
  exact ⟨s, e, h1.rd, h2⟩
theorem MxO.form {w : World} {lo hi : Nat} {v : Value} {m : Mx} (h : MxO w lo hi v m) : ∃ A c, v = .agg #[.int .i64 m.r, .int .i64 m.c, .slice A m.a.length c] := h.rd.form
theorem MxO.chg {w w' : World} {lo hi lo' hi' : Nat} {v : Value} {m : Mx} (h : MxO w lo hi v m) (hc : Chg lo' hi' w w') (hd : hi ≤ lo' ∨ hi' ≤ lo) : MxO w' lo hi v m := by
  obtain ⟨s, e, h1, h2⟩ := h
  exact ⟨s, e, h1.chg hc hd, h2⟩
theorem MxO.below {w w' : World} {lo hi : Nat} {v : Value} {m : Mx} (h : MxO w lo hi v m) (hb : Below w.heap.size w w') : MxO w' lo hi v m := by
  obtain ⟨s, e, h1, h2⟩ := h
  exact ⟨s, e, h1.below hb, h2⟩
theorem MxO.wider {w : World} {lo hi lo' hi' : Nat} {v : Value} {m : Mx} (h : MxO w lo hi v m) (h1 : lo' ≤ lo) (h2 : hi ≤ hi') : MxO w lo' hi' v m := by
  obtain ⟨s, e, h3, h4⟩ := h
  exact ⟨s, e, h3.wider h1 h2, h4⟩
def MxO.mk (k : Int) (m : Mx) : Mx := ⟨m.r, m.c, mkI k m.a.length⟩
def Mx.size (m : Mx) : Nat := m.a.length

set_option maxHeartbeats 400000 in
theorem eqMatrix_any (u v : Value) (p q : Mx) (w : World) (hu : MxR w w.heap.size u p) (hv : MxR w w.heap.size v q) :
    Calls Try.prog 126 #[u, v] w fun e w' => e = .returned (.bool (decide (p = q))) ∧ Below w.heap.size w w' := by
  obtain ⟨A, c, rfl, hf, _, _, _⟩ := hu.open_
  obtain ⟨A', c', rfl, hf', _, _, _⟩ := hv.open_
  clear hu hv
  have g0 : Below w.heap.size w ((w.alloc (.cells #[.int .i64 p.r, .int .i64 p.c, .slice A p.a.length c] 75)).alloc (.cells #[.int .i64 q.r, .int .i64 q.c, .slice A' q.a.length c'] 75)) := ((Below.refl _ _).alloc (Nat.le_refl _) _).alloc (by simp) _
  by_cases h1 : p.r = q.r
  · have e1 : (p.r != q.r) = false := by rw [h1]; simp
    have H1 := Lib.hid h1
    clear h1
    by_cases h2 : p.c = q.c
    · have e2 : (p.c != q.c) = false := by rw [h2]; simp
      have H2 := Lib.hid h2
      clear h2
      obtain ⟨B, hB⟩ : ∃ B, decide (p.a = q.a) = B := ⟨_, rfl⟩
      have hfin : decide (p = q) = B := by
        rw [← hB, decide_eq_decide, mx_ext]
        exact ⟨fun h => h.2.2, fun h => ⟨H1.out, H2.out, h⟩⟩
      rw [hfin]
      clear hfin
      go_enter Try.func126, Try.ntmps126
      go_wp2_with fail
      refine (eqIntS_any _ _ _ _ _ (SlI.next g0 hf) (SlI.next g0 hf')).mono ?_; rintro e w1 ⟨rfl, hb1⟩
      rw [hB]
      have g1 := bthen g0 hb1
      clear hB hb1 g0
      go_wp2
      all_goals (go_ret; simp_all)
    · have e2 : (p.c != q.c) = true := by simpa using h2
      have hfin : decide (p = q) = false := by
        simp only [decide_eq_false_iff_not, mx_ext]
        exact fun h => h2 h.2.1
      rw [hfin]
      clear hfin h2
      go_enter Try.func126, Try.ntmps126
      go_wp2
      go_ret
      exact ⟨rfl, g0⟩
  · have e1 : (p.r != q.r) = true := by simpa using h1
    have hfin : decide (p = q) = false := by
      simp only [decide_eq_false_iff_not, mx_ext]
      exact fun h => h1 h.1
    rw [hfin]
    clear hfin h1
    go_enter Try.func126, Try.ntmps126
    go_wp2
    go_ret
    exact ⟨rfl, g0⟩

theorem szMatrix_any (u : Value) (q : Mx) (left : Int) (w : World) (hu : MxR w w.heap.size u q) (h0 : 0 ≤ left) (h1 : left ≤ 1048576) :
    Calls Try.prog 147 #[u, .int .i64 left] w fun e w' => e = .returned (.int .i64 (szLeft left q.size)) ∧ Below w.heap.size w w' := by
  obtain ⟨A, c, rfl, hf, _, _, lf⟩ := hu.open_
  clear hu
  unfold Mx.size
  have g0 := below_alloc w (.cells #[.int .i64 q.r, .int .i64 q.c, .slice A q.a.length c] 135)
  by_cases h2 : left < q.a.length
  · have s1 : szLeft left q.a.length = -1 := by rw [szLeft, if_pos h2]
    rw [s1]
    go_enter Try.func147, Try.ntmps147
    go_wp2_with fail
    refine (szIntS_any _ _ _ _ _ lf h0 h1).mono ?_; rintro e w' ⟨rfl, rfl⟩
    go_wp2
    go_ret
    exact ⟨rfl, g0⟩
  · have s1 : szLeft left q.a.length = left - q.a.length := by rw [szLeft, if_neg h2]
    have n1 : ¬ left - (q.a.length : Int) < 0 := by omega
    rw [s1]
    go_enter Try.func147, Try.ntmps147
    go_wp2_with fail
    refine (szIntS_any _ _ _ _ _ lf h0 h1).mono ?_; rintro e w' ⟨rfl, rfl⟩
    go_wp2
    go_ret
    exact ⟨rfl, g0⟩

set_option maxHeartbeats 400000 in
theorem mx_to (u : Value) (q : Mx) (w : World) (hu : MxR w w.heap.size u q) (hn : q.size ≤ 1048576) :
    Calls Try.prog 153 #[u] w fun e w' => ∃ v, e = .returned v ∧ MxO w' w.heap.size w'.heap.size v q ∧ Below w.heap.size w w' := by
  obtain ⟨A, c, rfl, hf, hr, hc, _⟩ := hu.open_
  clear hu
  unfold Mx.size at hn
  obtain ⟨Wa, hWa⟩ : ∃ W, W = (w.alloc (.cells #[.int .i64 q.r, .int .i64 q.c, .slice A q.a.length c] 135)).alloc (.cells #[.int .i64 0, .int .i64 0, .slice none 0 0] 75) := ⟨_, rfl⟩
  obtain ⟨Wb, hWb⟩ : ∃ W, W = Wa.alloc (.cells #[.int .i64 q.r, .int .i64 q.c, .slice none 0 0] 75) := ⟨_, rfl⟩
  have za : Wa.heap.size = w.heap.size + 1 + 1 := by rw [hWa]; simp
  have zb : Wb.heap.size = w.heap.size + 1 + 1 + 1 := by rw [hWb]; simp [za]
  have kr : Blk Wb (w.heap.size + 1) 75 #[.int .i64 0, .int .i64 0, .slice none 0 0] := by
    rw [hWb, hWa]
    have := (Blk.new (w.alloc (.cells #[.int .i64 q.r, .int .i64 q.c, .slice A q.a.length c] 135)) 75 #[.int .i64 0, .int .i64 0, .slice none 0 0]).alloc (.cells #[.int .i64 q.r, .int .i64 q.c, .slice none 0 0] 75)
    simpa only [World.size_alloc] using this
  have ko : Blk Wb (w.heap.size + 1 + 1) 75 #[.int .i64 q.r, .int .i64 q.c, .slice none 0 0] := by
    rw [hWb, ← za]; exact Blk.new _ _ _
  have gb : Below w.heap.size w Wb := by rw [hWb, hWa]; exact (((Below.refl _ _).alloc (Nat.le_refl _) _).alloc (by simp) _).alloc (by simp; omega) _
  have ZA := Lib.hid za
  have ZB := Lib.hid zb
  clear za zb
  go_enter Try.func153, Try.ntmps153
  go_wp2_with fail
  rw [← hWa, ← hWb]
  clear hWa hWb
  refine (ints_to _ _ _ (SlI.next gb hf) (by omega)).mono ?_; rintro e w1 ⟨a, rfl, ha, hb1⟩
  obtain ⟨A1, c1, rfl, _, _⟩ := ha.1.form
  have ko1 := ko.call hb1
  have kr1 := kr.call hb1
  have o0 := ko1.cell' (i := 0) rfl
  have o1 := ko1.cell' (i := 1) rfl
  have o2 := ko1.cell' (i := 2) rfl
  have fo := ko1.frozen
  have r0 := kr1.cell' (i := 0) rfl
  have r1 := kr1.cell' (i := 1) rfl
  have r2 := kr1.cell' (i := 2) rfl
  have fr := kr1.frozen
  have g1 := bthen gb hb1
  go_wp2
  have zb := ZB.out
  have s1 := hb1.size
  refine bodyPost_ret (v := .agg #[.int .i64 q.r, .int .i64 q.c, .slice A1 q.a.length c1]) (by simp [results, go_sem, r0, r1, r2]) rfl ⟨_, rfl, ⟨_, rfl, ?_, hr, hc⟩, (((g1.setCell (by simp; omega) _).setCell (by simp) _).setCell (by simp) _).setCell (by simp) _⟩
  exact ((((ha.set (by simp; omega) _).set (by simp; omega) _).set (by simp; omega) _).set (by simp; omega) _).wider (by omega) (by simp)

end Go.Proofs.Ytjhllgldllbaaaa

/- slices.Reverse at []int, on a row of the call's own: the shelf's contract. -/
namespace Go.Proofs
open Go.Shelf
def Try.laysReverse_ren : Go.Shelf.Ren := ⟨fun | 112 => 169 | n => n, fun | 28 => 22 | 3 => 3 | 4 => 4 | 0 => 0 | n => n, fun | n => n⟩
theorem Try.laysReverse : Go.Proofs.Lays.n112 Try.prog Try.laysReverse_ren := {
  mixed := by kernel_rfl
  f112 := Try.func169.trans (congrArg some (by kernel_rfl))
  t0 := Try.underlying0
  a0 := Try.isAgg0
  z0 := Try.sizeOf0
  v0 := Try.zeroValue0
  t3 := Try.underlying3
  a3 := Try.isAgg3
  z3 := Try.sizeOf3
  v3 := Try.zeroValue3
  t4 := Try.underlying4
  a4 := Try.isAgg4
  z4 := Try.sizeOf4
  v4 := Try.zeroValue4
  t28 := Try.underlying22
  a28 := Try.isAgg22
  z28 := Try.sizeOf22
  v28 := Try.zeroValue22 }
end Go.Proofs
namespace Go.Proofs.Ytjhllgldllbaaaa
set_option linter.unusedVariables false
set_option linter.unusedSimpArgs false
open Go.RowKit

theorem reverse_own (v : Value) (l : List Int) (base : Nat) (w : World) (hv : OwnI w base v l) :
    Calls Try.prog 169 #[v] w fun e w' => e = .returned (.tuple #[]) ∧ OwnI w' base v l.reverse ∧ w.grownBy w' v.ownBlock := by
  obtain ⟨ho, hn, hr⟩ := hv
  have hr' : ∀ x ∈ l.reverse, I64 x := fun x hx => hr x (List.mem_reverse.1 hx)
  by_cases hv0 : v = .slice none 0 0
  · subst hv0
    have hl0 : l = [] := by
      rcases ho.2 with ⟨_, h⟩ | ⟨g, cap, cur, h, _⟩
      · exact List.eq_nil_of_length_eq_zero h
      · cases h
    subst hl0
    exact (Any.slices_Reverse_int_empty Try.laysReverse none 0 w).mono fun e w' ⟨h1, h2⟩ => by
      subst h2
      exact ⟨h1, OwnI.nil _ _, World.grownBy.refl _ _⟩
  · obtain ⟨g, cap, rfl, hg, hgl, hnc, hcm, _, hH⟩ := Lib.holds_of_ownsRow ho hv0
    refine (Any.slices_Reverse_int Try.laysReverse g 0 cap l w hH (by omega)).mono ?_
    rintro e w' ⟨rfl, q, rfl⟩
    refine ⟨rfl, ⟨?_, by simpa using hn, hr'⟩, ⟨rfl, rfl, rfl, by simp [Sort.putRow, Sort.mapBlock, Sort.ahead], fun k hk hne => ?_⟩⟩
    · have h1 := Lib.ownsRow_putRow (q := q) (ys := l.reverse) ho (by simp) (Nat.le_refl l.length)
      rw [List.take_of_length_le (by simp)] at h1
      simpa using h1
    · have hgk : g ≠ k := fun e => hne (by simp [Value.ownBlock, e])
      simp [Sort.putRow, Sort.mapBlock, Sort.ahead, Array.getElem?_modify, hgk]
end Go.Proofs.Ytjhllgldllbaaaa

/- slices.Clone at []int: the shelf's contract. -/
namespace Go.Proofs
open Go.Shelf
def Try.laysClone_ren : Go.Shelf.Ren := ⟨fun | 15 => 124 | n => n, fun | 22 => 22 | 3 => 3 | 4 => 4 | n => n, fun | n => n⟩
theorem Try.laysClone : Go.Proofs.Lays2.n15 Try.prog Try.laysClone_ren := {
  mixed := by kernel_rfl
  f15 := Try.func124.trans (congrArg some (by kernel_rfl))
  t3 := Try.underlying3
  a3 := Try.isAgg3
  z3 := Try.sizeOf3
  v3 := Try.zeroValue3
  t4 := Try.underlying4
  a4 := Try.isAgg4
  z4 := Try.sizeOf4
  v4 := Try.zeroValue4
  t22 := Try.underlying22
  a22 := Try.isAgg22
  z22 := Try.sizeOf22
  v22 := Try.zeroValue22
  i3 := by kernel_rfl }
end Go.Proofs
namespace Go.Proofs.Ytjhllgldllbaaaa
set_option linter.unusedVariables false
set_option linter.unusedSimpArgs false
open Go.RowKit

theorem clone_own (u : Value) (xs : List Int) (w : World) (hu : SlI w w.heap.size u xs) :
    Calls Try.prog 124 #[u] w fun e w' => ∃ v, e = .returned v ∧ IntsO w' w.heap.size w'.heap.size v xs ∧ Below w.heap.size w w' := by
  have hr := SlI.i64 hu
  have hrd := hu
  obtain ⟨A, c, rfl, _, _, hn, hx⟩ := hu
  rcases A with _ | a
  · have h0 : xs = [] := by
      apply List.eq_nil_of_length_eq_zero
      rcases Nat.eq_zero_or_pos xs.length with h | h
      · exact h
      · obtain ⟨b, o, e, _⟩ := hx h
        cases e
    subst h0
    exact (Any.slices_Clone_int_nil Try.laysClone 0 c w).mono fun e w' ⟨h1, h2⟩ => ⟨_, h1, ⟨OwnI.nil _ _, by simp [Value.ownBlock]⟩, by rw [h2]; exact Below.refl _ _⟩
  rcases Nat.eq_zero_or_pos xs.length with h0 | hp
  · have h0 : xs = [] := List.eq_nil_of_length_eq_zero h0
    subst h0
    exact (Any.slices_Clone_int_zero Try.laysClone a c w).mono fun e w' ⟨v, h1, h2, _, hb⟩ => ⟨v, h1, IntsO.of_own ⟨h2, by simp, by simp⟩, hb⟩
  · obtain ⟨b, o, e, hb, hc⟩ := hx hp
    injection e with e
    subst e
    refine (Any.slices_Clone_int Try.laysClone b o xs.length c xs w (Nat.le_refl _) (by omega) (fun j hj => ?_)).mono ?_
    · have h := (hc j (xs.getD j 0) (by rw [List.getD_eq_getElem?_getD, List.getElem?_eq_getElem hj]; rfl)).1
      simpa using h
    · rintro e w' ⟨v', rfl, ho, hnn, hb⟩
      rw [List.take_of_length_le (Nat.le_refl _)] at ho
      exact ⟨v', rfl, IntsO.of_own ⟨ho, hn, hr⟩, hb⟩

end Go.Proofs.Ytjhllgldllbaaaa

/- Copies: slices.Clone at []int, append onto a fresh empty slice, copies of matrices and quivers on both sides. -/
namespace Go.Proofs.Ytjhllgldllbaaaa
set_option linter.unusedVariables false
set_option linter.unusedSimpArgs false
open Go.RowKit

/-- append of ints onto a slice that has just been made and holds nothing: what was there stands. -/
theorem wpList_append_fresh {w : World} {ops : Array Oper} {rest : List Oper} {o : Oper} {a : Act} {Q : Exit → Act → World → Prop} (hgd : o.guard = none) (s x : Operand)
    (ho : o.op = .call { callee := .builtin .append, args := #[s, x], argTypes := #[22, 22] })
    (g lo B : Nat) (cs : Array Value) (hs : a.eval s = .slice (some ⟨g, 0, none⟩) 0 0) (hg : Blk w g 3 cs) (hcs : cs.size = 0) (hlo : lo ≤ g) (A : Option Addr) (c : Nat) (news : List Int) (hx : a.eval x = .slice A news.length c) (hr : SlI w B (.slice A news.length c) news)
    (h : ∀ v' w', OwnI w' lo v' news → Below w.heap.size w w' → wpList Try.prog ops Q rest (a.put o.dst v') w') : wpList Try.prog ops Q (o :: rest) a w := by
  obtain ⟨i0, hi, hz0, hz1, hz2⟩ := info_parts infoInt
  have hn := hr
  obtain ⟨_, _, _, _, _, hn, hcell⟩ := hn
  have hI := SlI.i64 hr
  refine wpList_plain hgd fun K hK => ?_
  by_cases hp : 0 < news.length
  · obtain ⟨b, of, eA, hb, hc⟩ := hcell hp
    have hA := NewsAt.of_sl hr
    obtain ⟨hl, hnews⟩ := hA
    obtain ⟨b', of', eA', hc'⟩ := hnews.resolve_left (by omega)
    subst eA'
    have hadd : ∀ j, (⟨b', of', none⟩ : Addr).add j = ⟨b', of' + j, none⟩ := by intro j; unfold Addr.add; split <;> simp_all
    obtain ⟨v', w', hrun, hown, hgr⟩ := run_append_arg_grows (P := Try.prog) w 22 o.type 3 i0 _ 1 8 Try.underlying22 hi hz0 hz1 hz2 rfl (by decide) ⟨g, 0, none⟩ 0 0 [] (by simp) (by intro j u hj; simp at hj) ⟨b', of', none⟩ news.length c (news.map (Value.int .i64)) hl (fun j u hj => by rw [hadd]; exact hc' j u hj) (by omega) (by simp only [maxLen]; omega) (by omega)
    unfold Oper.wp execOp
    simp only [ho, resolve, invoke, builtin, Sem.run_bind, Sem.run_pure, Result.andThen_ok, List.map_toArray, List.map_cons, List.map_nil, hs, hx, hrun]
    refine hK _ _ (h v' w' ?_ ⟨hgr.os, hgr.tape, hgr.output, hgr.size, fun k hk => hgr.block k hk (by simp)⟩)
    have hgl := hg.lt
    exact OwnI.lower (base := w.heap.size) ⟨by simpa using hown, hn, hI⟩ (by omega)
  · have h0 : news = [] := List.eq_nil_of_length_eq_zero (by omega)
    subst h0
    have hrun : (Builtin.append_ #[22, 22] o.type #[.slice (some ⟨g, 0, none⟩) 0 0, .slice A 0 c]).run Try.prog w = .ok (.slice (some ⟨g, 0, none⟩) 0 0) w := by
      cases A <;> simp [Builtin.append_, run_underlying (P := Try.prog) Try.underlying22, sizeOf, typeInfo, hi, Builtin.lenOf, Builtin.firstCells, storeCells, loadCells, loadCellsFrom]
    simp only [List.length_nil] at hx
    unfold Oper.wp execOp
    simp only [ho, resolve, invoke, builtin, Sem.run_bind, Sem.run_pure, Result.andThen_ok, List.map_toArray, List.map_cons, List.map_nil, hs, hx, hrun]
    refine hK _ _ (h _ w ?_ (Below.refl _ _))
    have := hg.own (base := lo) (n := 0) (cap := 0) (size := 1) hlo (Nat.le_refl _) (by simp only [maxLen]; omega) (by omega)
    exact ⟨by simpa using this, by simp, by simp⟩

/-- a slice that has just been made and holds nothing -/
def Fresh (w : World) (lo : Nat) (u : Value) : Prop := ∃ g, u = .slice (some ⟨g, 0, none⟩) 0 0 ∧ lo ≤ g ∧ Blk w g 3 #[]
theorem Fresh.below {w w' : World} {lo : Nat} {u : Value} (h : Fresh w lo u) (hb : Below w.heap.size w w') : Fresh w' lo u := by
  obtain ⟨g, e, h1, h2⟩ := h
  exact ⟨g, e, h1, h2.call hb⟩
theorem Fresh.new (w : World) {lo : Nat} (h : lo ≤ w.heap.size) : Fresh (w.alloc (.cells #[] 3)) lo (.slice (some ⟨w.heap.size, 0, none⟩) 0 0) := ⟨_, rfl, h, Blk.new _ _ _⟩

set_option maxHeartbeats 3200000 in
theorem l3Copy_any (u : Value) (m : Mx) (w0 : World) (hu : MxR w0 w0.heap.size u m) :
    Calls Try.prog 150 #[u] w0 fun e w' => ∃ v, e = .returned v ∧ MxO w' w0.heap.size w'.heap.size v m ∧ Below w0.heap.size w0 w' := by
  obtain ⟨A, c, rfl, hf, hr, hc, lf⟩ := hu.open_
  clear hu
  obtain ⟨W, hW⟩ : ∃ W, W = (w0.alloc (.cells #[.int .i64 m.r, .int .i64 m.c, .slice A m.a.length c] 75)).alloc (.cells #[.int .i64 0, .int .i64 0, .slice none 0 0] 75) := ⟨_, rfl⟩
  have g0 : Below w0.heap.size w0 W := by rw [hW]; exact ((Below.refl _ _).alloc (Nat.le_refl _) _).alloc (by simp) _
  have k1 : Blk W w0.heap.size 75 #[.int .i64 m.r, .int .i64 m.c, .slice A m.a.length c] := by rw [hW]; exact (Blk.new _ _ _).alloc _
  have k2 : Blk W (w0.heap.size + 1) 75 #[.int .i64 0, .int .i64 0, .slice none 0 0] := by
    rw [hW]
    have := Blk.new (w0.alloc (.cells #[.int .i64 m.r, .int .i64 m.c, .slice A m.a.length c] 75)) 75 #[.int .i64 0, .int .i64 0, .slice none 0 0]
    simpa only [World.size_alloc] using this
  have sz : W.heap.size = w0.heap.size + 1 + 1 := by rw [hW]; simp
  have SZ := Lib.hid sz
  clear sz
  replace hf := SlI.next g0 hf
  go_enter Try.func150, Try.ntmps150
  go_wp2
  rw [← hW]; clear hW
  refine wp_region_net (by kernel_rfl) [.eq (.pointer (some ⟨w0.heap.size, 0, none⟩)), .eq (.int .i64 m.r), .eq (.pointer (some ⟨w0.heap.size, 1, none⟩)), .eq (.int .i64 m.c), rel 4 (fun u lo hi w => Fresh w W.heap.size u), .eq (.pointer (some ⟨w0.heap.size, 2, none⟩)), .eq (.slice A m.a.length c), rel 7 (fun u lo hi w => OwnI w W.heap.size u m.a), rel 8 (fun u lo hi w => ∃ s, u = .agg #[.int .i64 m.r, .int .i64 m.c, s] ∧ OwnI w W.heap.size s m.a)] [[], [0], [], [2], [], [], [5], [4, 5, 6], [0, 1, 2, 3, 4, 5, 6, 7], [0, 1, 2, 3, 4, 5, 6, 7, 8]] 9 (by kernel_rfl) ⟨trivial, trivial, trivial, trivial, rel_stable (fun u lo hi w w' h hb => h.below hb), trivial, trivial, rel_stable (fun u lo hi w w' h hb => h.below hb), rel_stable (fun u lo hi w w' ⟨s, e, h⟩ hb => ⟨s, e, h.below hb⟩), trivial⟩ ⟨?_, ?_, ?_, ?_, ?_, ?_, ?_, ?_, ?_, trivial⟩ ?_
  · intro x w hb hk Q' hQ
    clear hk
    simp only [netAct, dstAt, List.getElem?_toArray, List.getElem?_cons_zero, List.getElem?_cons_succ, Option.bind_some, Act.put, List.setIfInBounds_toArray, List.set_cons_zero, List.set_cons_succ] at hQ ⊢
    go_wp2
    exact hQ (.pointer (some ⟨w0.heap.size, 0, none⟩)) _ (Below.refl _ _) rfl
  · intro x w hb hk Q' hQ
    have h0 : x.v 0 = .pointer (some ⟨w0.heap.size, 0, none⟩) := (hk 0 (by decide)).1
    clear hk
    simp only [netAct, dstAt, List.getElem?_toArray, List.getElem?_cons_zero, List.getElem?_cons_succ, Option.bind_some, Act.put, List.setIfInBounds_toArray, List.set_cons_zero, List.set_cons_succ] at hQ ⊢
    simp only [h0] at hQ ⊢
    clear h0
    have c0 := (k1.call hb).cell' (i := 0) rfl
    go_wp2
    exact hQ (.int .i64 m.r) _ (Below.refl _ _) rfl
  · intro x w hb hk Q' hQ
    clear hk
    simp only [netAct, dstAt, List.getElem?_toArray, List.getElem?_cons_zero, List.getElem?_cons_succ, Option.bind_some, Act.put, List.setIfInBounds_toArray, List.set_cons_zero, List.set_cons_succ] at hQ ⊢
    go_wp2
    exact hQ (.pointer (some ⟨w0.heap.size, 1, none⟩)) _ (Below.refl _ _) rfl
  · intro x w hb hk Q' hQ
    have h2 : x.v 2 = .pointer (some ⟨w0.heap.size, 1, none⟩) := (hk 2 (by decide)).1
    clear hk
    simp only [netAct, dstAt, List.getElem?_toArray, List.getElem?_cons_zero, List.getElem?_cons_succ, Option.bind_some, Act.put, List.setIfInBounds_toArray, List.set_cons_zero, List.set_cons_succ] at hQ ⊢
    simp only [h2] at hQ ⊢
    clear h2
    have c1 := (k1.call hb).cell' (i := 1) rfl
    go_wp2
    exact hQ (.int .i64 m.c) _ (Below.refl _ _) rfl
  · intro x w hb hk Q' hQ
    clear hk
    simp only [netAct, dstAt, List.getElem?_toArray, List.getElem?_cons_zero, List.getElem?_cons_succ, Option.bind_some, Act.put, List.setIfInBounds_toArray, List.set_cons_zero, List.set_cons_succ] at hQ ⊢
    go_wp2
    exact hQ _ _ (below_alloc _ _) (Fresh.new _ hb.size)
  · intro x w hb hk Q' hQ
    clear hk
    simp only [netAct, dstAt, List.getElem?_toArray, List.getElem?_cons_zero, List.getElem?_cons_succ, Option.bind_some, Act.put, List.setIfInBounds_toArray, List.set_cons_zero, List.set_cons_succ] at hQ ⊢
    go_wp2
    exact hQ (.pointer (some ⟨w0.heap.size, 2, none⟩)) _ (Below.refl _ _) rfl
  · intro x w hb hk Q' hQ
    have h5 : x.v 5 = .pointer (some ⟨w0.heap.size, 2, none⟩) := (hk 5 (by decide)).1
    clear hk
    simp only [netAct, dstAt, List.getElem?_toArray, List.getElem?_cons_zero, List.getElem?_cons_succ, Option.bind_some, Act.put, List.setIfInBounds_toArray, List.set_cons_zero, List.set_cons_succ] at hQ ⊢
    simp only [h5] at hQ ⊢
    clear h5
    have c2 := (k1.call hb).cell' (i := 2) rfl
    go_wp2
    exact hQ (.slice A m.a.length c) _ (Below.refl _ _) rfl
  · intro x w hb hk Q' hQ
    have h4 : Fresh w W.heap.size (x.v 4) := (hk 4 (by decide)).1
    have h5 : x.v 5 = .pointer (some ⟨w0.heap.size, 2, none⟩) := (hk 5 (by decide)).1
    have h6 : x.v 6 = .slice A m.a.length c := (hk 6 (by decide)).1
    have s4 := (hk 4 (by decide)).2
    clear hk
    simp only [netAct, dstAt, List.getElem?_toArray, List.getElem?_cons_zero, List.getElem?_cons_succ, Option.bind_some, Act.put, List.setIfInBounds_toArray, List.set_cons_zero, List.set_cons_succ] at hQ ⊢
    simp only [h5, h6] at hQ ⊢
    clear h5 h6
    obtain ⟨g, e4, hg, hB⟩ := h4
    rw [e4] at hQ ⊢
    refine wpList_append_fresh (by rfl) (.tmp 7) (.tmp 9) (by rfl) g W.heap.size w.heap.size #[] (by rfl) hB rfl hg A c m.a (by rfl) (SlI.next hb hf) ?_
    intro v' w' ho hb'
    exact hQ _ _ hb' ho
  · intro x w hb hk Q' hQ
    have h0 : x.v 0 = .pointer (some ⟨w0.heap.size, 0, none⟩) := (hk 0 (by decide)).1
    have h1 : x.v 1 = .int .i64 m.r := (hk 1 (by decide)).1
    have h2 : x.v 2 = .pointer (some ⟨w0.heap.size, 1, none⟩) := (hk 2 (by decide)).1
    have h3 : x.v 3 = .int .i64 m.c := (hk 3 (by decide)).1
    have h4 : Fresh w W.heap.size (x.v 4) := (hk 4 (by decide)).1
    have h5 : x.v 5 = .pointer (some ⟨w0.heap.size, 2, none⟩) := (hk 5 (by decide)).1
    have h6 : x.v 6 = .slice A m.a.length c := (hk 6 (by decide)).1
    have h7 : OwnI w W.heap.size (x.v 7) m.a := (hk 7 (by decide)).1
    have s4 := (hk 4 (by decide)).2
    have s7 := (hk 7 (by decide)).2
    clear hk
    simp only [netAct, dstAt, List.getElem?_toArray, List.getElem?_cons_zero, List.getElem?_cons_succ, Option.bind_some, Act.put, List.setIfInBounds_toArray, List.set_cons_zero, List.set_cons_succ] at hQ ⊢
    simp only [h0, h1, h2, h3, h5, h6] at hQ ⊢
    clear h0 h1 h2 h3 h5 h6
    obtain ⟨A', c', e7, _, _⟩ := h7.form
    rw [e7] at h7
    rw [e7] at hQ ⊢
    go_wp2
    exact hQ (.agg #[.int .i64 m.r, .int .i64 m.c, .slice A' m.a.length c']) w (Below.refl _ _) ⟨_, rfl, h7⟩
  · intro x w hb hk hiv hdj
    have h0 : x.v 0 = .pointer (some ⟨w0.heap.size, 0, none⟩) := hk 0 (by decide)
    have h1 : x.v 1 = .int .i64 m.r := hk 1 (by decide)
    have h2 : x.v 2 = .pointer (some ⟨w0.heap.size, 1, none⟩) := hk 2 (by decide)
    have h3 : x.v 3 = .int .i64 m.c := hk 3 (by decide)
    have h4 : Fresh w W.heap.size (x.v 4) := hk 4 (by decide)
    have h5 : x.v 5 = .pointer (some ⟨w0.heap.size, 2, none⟩) := hk 5 (by decide)
    have h6 : x.v 6 = .slice A m.a.length c := hk 6 (by decide)
    have h7 : OwnI w W.heap.size (x.v 7) m.a := hk 7 (by decide)
    have h8 : ∃ s, (x.v 8) = .agg #[.int .i64 m.r, .int .i64 m.c, s] ∧ OwnI w W.heap.size s m.a := hk 8 (by decide)
    clear hk
    simp only [netAct, dstAt, List.getElem?_toArray, List.getElem?_cons_zero, List.getElem?_cons_succ, Option.bind_some, Act.put, List.setIfInBounds_toArray, List.set_cons_zero, List.set_cons_succ]
    simp only [List.drop_succ_cons, List.drop_zero, h0, h1, h2, h3, h5, h6]
    clear h0 h1 h2 h3 h5 h6
    obtain ⟨s, e8, ho⟩ := h8
    obtain ⟨A', c', es, _, _⟩ := ho.form
    subst es
    rw [e8]
    have k2' := k2.call hb
    have f2 := k2'.frozen
    have r0 := k2'.cell' (i := 0) rfl
    have r1 := k2'.cell' (i := 1) rfl
    have r2 := k2'.cell' (i := 2) rfl
    have hbs := hb.size
    have sz := SZ.out
    have gf := g0.trans (hb.mono g0.size)
    clear h4 h7 k1 k2 sz
    go_wp2
    have sz := SZ.out
    refine bodyPost_ret (v := .agg #[.int .i64 m.r, .int .i64 m.c, .slice A' m.a.length c']) (by simp [results, go_sem, r0, r1, r2]) rfl ⟨_, rfl, ⟨_, rfl, ?_, hr, hc⟩, ((gf.setCell (by simp) _).setCell (by simp) _).setCell (by simp) _⟩
    exact ((((IntsO.of_own ho).set (by simp; omega) _).set (by simp; omega) _).set (by simp; omega) _).wider (by omega) (by simp)
end Go.Proofs.Ytjhllgldllbaaaa

/- What every law goes through: lists of matrices. -/
namespace Go.Proofs.Ytjhllgldllbaaaa
set_option linter.unusedVariables false
set_option linter.unusedSimpArgs false
open Go.RowKit

theorem infoMx : (Try.prog.info? 75).map (fun i => (i.zero, i.size, i.bytes)) = some (some (.agg #[.int .i64 0, .int .i64 0, .slice none 0 0]), 3, 40) := by kernel_rfl

def totA (ms : List Mx) : Nat := tot (ms.map Mx.a)
def szM (ms : List Mx) : Nat := ms.length + totA ms
def totM (ms : List Mx) : Nat := (ms.map fun m => 2 + m.a.length).sum
theorem totM_eq (ms : List Mx) : totM ms = 2 * ms.length + totA ms := by
  induction ms with
  | nil => rfl
  | cons m ms ih =>
    simp only [totM, totA, tot, List.map_cons, List.sum_cons, List.length_cons] at ih ⊢
    omega
theorem totM_snoc (ms : List Mx) (m : Mx) : totM (ms ++ [m]) = totM ms + (2 + m.a.length) := by simp [totM]
theorem totM_take_le (ms : List Mx) (k : Nat) : totM (ms.take k) ≤ totM ms := by
  have : totM ms = totM (ms.take k) + totM (ms.drop k) := by simp only [totM, ← List.sum_append, ← List.map_append, List.take_append_drop]
  omega
theorem totA_snoc (ms : List Mx) (m : Mx) : totA (ms ++ [m]) = totA ms + m.a.length := by simp [totA, tot]
theorem totA_take_le (ms : List Mx) (k : Nat) : totA (ms.take k) ≤ totA ms := by
  have : totA ms = totA (ms.take k) + totA (ms.drop k) := by simp only [totA, tot, ← List.sum_append, ← List.map_append, List.take_append_drop]
  omega
theorem totA_mem {ms : List Mx} {m : Mx} (h : m ∈ ms) : m.a.length ≤ totA ms := tot_mem (List.mem_map_of_mem h)

/-- marks, matrix by matrix -/
def mkMS : Int → List Mx → List Mx
  | _, [] => []
  | k, m :: r => ⟨k, k + 1, mkI (k + 1 + 1) m.a.length⟩ :: mkMS (k + 1 + 1 + m.a.length) r
theorem mkMS_length : ∀ (ms : List Mx) (k : Int), (mkMS k ms).length = ms.length
  | [], _ => rfl
  | _ :: r, _ => by simp [mkMS, mkMS_length r]
theorem mkMS_get : ∀ (ms : List Mx) (k : Int) (j : Nat) (m : Mx), ms[j]? = some m → (mkMS k ms)[j]? = some ⟨k + totM (ms.take j), k + totM (ms.take j) + 1, mkI (k + totM (ms.take j) + 1 + 1) m.a.length⟩
  | [], _, _, _, h => by simp at h
  | a :: r, k, 0, m, h => by
    simp at h
    subst h
    simp [mkMS, totM]
  | a :: r, k, j + 1, m, h => by
    simp only [List.getElem?_cons_succ] at h
    have e : k + 1 + 1 + (a.a.length : Int) + (totM (r.take j) : Int) = k + (totM ((a :: r).take (j + 1)) : Int) := by simp only [totM, List.take_succ_cons, List.map_cons, List.sum_cons]; omega
    simp only [mkMS, List.getElem?_cons_succ, mkMS_get r (k + 1 + 1 + a.a.length) j m h, e]
theorem mkMS_snoc : ∀ (ms : List Mx) (k : Int) (m : Mx), mkMS k (ms ++ [m]) = mkMS k ms ++ [⟨k + totM ms, k + totM ms + 1, mkI (k + totM ms + 1 + 1) m.a.length⟩]
  | [], k, m => by simp [mkMS, totM]
  | a :: r, k, m => by
    have e : k + 1 + 1 + (a.a.length : Int) + (totM r : Int) = k + (totM (a :: r) : Int) := by simp only [totM, List.map_cons, List.sum_cons]; omega
    simp only [List.cons_append, mkMS, mkMS_snoc r, e]
/-- behind j rounds of marking -/
def mkMTo (k : Int) (ms : List Mx) (j : Nat) : List Mx := mkMS k (ms.take j) ++ ms.drop j
theorem mkMTo_length (k : Int) (ms : List Mx) (j : Nat) (hj : j ≤ ms.length) : (mkMTo k ms j).length = ms.length := by
  rw [mkMTo, List.length_append, mkMS_length]; simp; omega
theorem mkMTo_get {k : Int} {ms : List Mx} {j : Nat} {m : Mx} (h : ms[j]? = some m) : (mkMTo k ms j)[j]? = some m := by
  have hj := lt_of_some h
  rw [mkMTo, List.getElem?_append_right (by rw [mkMS_length]; simp; omega), mkMS_length, List.getElem?_drop, List.length_take, Nat.min_eq_left (by omega)]
  simpa using h
theorem mkMTo_succ {k : Int} {ms : List Mx} {j : Nat} {m : Mx} (h : ms[j]? = some m) : (mkMTo k ms j).set j ⟨k + totM (ms.take j), k + totM (ms.take j) + 1, mkI (k + totM (ms.take j) + 1 + 1) m.a.length⟩ = mkMTo k ms (j + 1) := by
  have hj := lt_of_some h
  have hlen : (mkMS k (ms.take j)).length = j := by rw [mkMS_length]; simp; omega
  rw [mkMTo, List.set_append, hlen, if_neg (by omega), Nat.sub_self, List.drop_eq_getElem_cons hj]
  rw [mkMTo, take_snoc h, mkMS_snoc, List.append_assoc]
  rfl

set_option maxHeartbeats 800000 in
theorem eqMatrixS_any (u v : Value) (xs ys : List Mx) (w : World) (hu : SlM w w.heap.size u xs) (hv : SlM w w.heap.size v ys) :
    Calls Try.prog 67 #[u, v] w fun e w' => e = .returned (.bool (decide (xs = ys))) ∧ Below w.heap.size w w' := by
  obtain ⟨A, c, rfl, _, _, hn, hx⟩ := hu.open_
  obtain ⟨C, d, rfl, _, _, hm, hy⟩ := hv.open_
  clear hu hv
  by_cases hnm : xs.length = ys.length
  · have heq : ((xs.length : Int) != ys.length) = false := by rw [bne_eq_false_iff_eq]; omega
    have HN := Lib.hid hnm
    clear hnm
    go_enter Try.func67, Try.ntmps67
    go_wp2
    go_loopw [5] (fun i wr => ∃ k : Nat, k ≤ xs.length ∧ i = .int .i64 k ∧ Below w.heap.size w wr ∧ Hid (xs.take k = ys.take k)) (fun i _ => xs.length - (intOf i).toNat)
    case atStart => exact ⟨0, Nat.zero_le _, rfl, Below.refl _ _, rfl⟩
    case round =>
      obtain ⟨k, hk, rfl, hbel, hxy⟩ := hrel
      by_cases hlt : k < xs.length
      · have hlt' : k < ys.length := by have := HN.out; omega
        obtain ⟨b, o, x, A', c', rfl, hb, HX, x1, x2, x3, hsx, hx4, hx5, _⟩ := SlM.at_ hx hlt
        obtain ⟨b', o', y, C', d', rfl, hb', HY, y1, y2, y3, hsy, hy4, hy5, _⟩ := SlM.at_ hy hlt'
        clear hx hy
        have s := hbel.size
        have d1 := InB.cell (w := wr) (by omega) (bcell hbel hb x1)
        have d2 := InB.cell (w := wr) (by omega) (bcell hbel hb x2)
        have d3 := InB.cell (w := wr) (by omega) (bcell hbel hb x3)
        have e1 := InB.cell (w := wr) (by omega) (bcell hbel hb' y1)
        have e2 := InB.cell (w := wr) (by omega) (bcell hbel hb' y2)
        have e3 := InB.cell (w := wr) (by omega) (bcell hbel hb' y3)
        have hsx' : ∀ s : InB wr, MxR s.val s.val.heap.size (.agg #[.int .i64 x.r, .int .i64 x.c, .slice A' x.a.length c']) x := fun t => ⟨_, rfl, SlI.next t.below (SlI.more s (SlI.below hbel hsx)), hx4, hx5⟩
        have hsy' : ∀ s : InB wr, MxR s.val s.val.heap.size (.agg #[.int .i64 y.r, .int .i64 y.c, .slice C' y.a.length d']) y := fun t => ⟨_, rfl, SlI.next t.below (SlI.more s (SlI.below hbel hsy)), hy4, hy5⟩
        have HSX := Lib.hid hsx'
        have HSY := Lib.hid hsy'
        clear x1 x2 x3 y1 y2 y3 hsx hsy hsx' hsy' hx4 hx5 hy4 hy5
        by_cases hE : x = y
        · have hdE : decide (x = y) = true := by simpa using hE
          have hst := Lib.hid (show xs.take (k + 1) = ys.take (k + 1) by rw [take_snoc HX.out, take_snoc HY.out, hxy.out, hE])
          clear hE
          go_wp2
          (refine wp_region_inB (by kernel_rfl) (by kernel_rfl) ?_; (repeat (go_big_quiet_step ((go_at_call 126; exact InB.call (eqMatrix_any _ _ x y _ (HSX.out _) (HSY.out _)))))); refine wpQuiet_nil ?_; intro w1 hw'; obtain ⟨s1, hw1⟩ := hw'; have hb1 := s1.below; rw [← hw1] at hb1; clear hw1 s1)
          go_wp2
          go_roundw
          case rel => exact ⟨k + 1, by omega, by go_num, hbel.trans (hb1.mono s), hst.out⟩
          case measure => simp [intOf]; omega
        · have hdE : decide (x = y) = false := by simpa using hE
          have hne : Hid (xs ≠ ys) := by
            rintro rfl
            have h2 := HX.out
            rw [HY.out] at h2
            exact hE (by injection h2 with h2; exact h2.symm)
          clear hE
          go_wp2
          (refine wp_region_inB (by kernel_rfl) (by kernel_rfl) ?_; (repeat (go_big_quiet_step ((go_at_call 126; exact InB.call (eqMatrix_any _ _ x y _ (HSX.out _) (HSY.out _)))))); refine wpQuiet_nil ?_; intro w1 hw'; obtain ⟨s1, hw1⟩ := hw'; have hb1 := s1.below; rw [← hw1] at hb1; clear hw1 s1)
          go_wp2
          go_ret
          exact ⟨by rw [decide_eq_false hne.out]; rfl, hbel.trans (hb1.mono s)⟩
      · go_wp2
        go_ret
        refine ⟨?_, hbel⟩
        have h1 := hxy.out
        rw [List.take_of_length_le (by omega), List.take_of_length_le (by have := HN.out; omega)] at h1
        simp [h1]
  · have hne : ((xs.length : Int) != ys.length) = true := by rw [bne_iff_ne]; omega
    go_enter Try.func67, Try.ntmps67
    go_wp2
    go_ret
    refine ⟨?_, Below.refl _ _⟩
    rw [decide_eq_false (by rintro rfl; omega)]; rfl

set_option maxHeartbeats 800000 in
theorem szMatrixS_any (u : Value) (xs : List Mx) (left : Int) (w : World) (hu : SlM w w.heap.size u xs) (h0 : 0 ≤ left) (h1 : left ≤ 1048576) :
    Calls Try.prog 95 #[u, .int .i64 left] w fun e w' => e = .returned (.int .i64 (szLeft left (szM xs))) ∧ Below w.heap.size w w' := by
  obtain ⟨A, c, rfl, _, _, hn, hx⟩ := hu.open_
  clear hu
  by_cases h2 : left < xs.length
  · have h' : left - xs.length < 0 := by omega
    have e : szLeft left (szM xs) = -1 := by rw [szLeft, if_pos (by simp only [szM]; omega)]
    rw [e]
    clear e
    go_enter Try.func95, Try.ntmps95
    go_wp2
    go_ret
    exact ⟨rfl, Below.refl _ _⟩
  have h' : ¬ left - (xs.length : Int) < 0 := by omega
  go_enter Try.func95, Try.ntmps95
  go_wp2
  go_loopw [1, 5] (fun q i wr => ∃ (k : Nat), k ≤ xs.length ∧ i = .int .i64 k ∧ q = .int .i64 (left - xs.length - totA (xs.take k)) ∧ Below w.heap.size w wr ∧ ((totA (xs.take k) : Nat) : Int) ≤ left - xs.length) (fun _ i _ => xs.length - (intOf i).toNat)
  case atStart => exact ⟨0, Nat.zero_le _, rfl, by simp [totA, tot], Below.refl _ _, by simp [totA, tot]; omega⟩
  case round =>
    obtain ⟨k, hk, rfl, rfl, hbel, hle⟩ := hrel
    obtain ⟨t, ht⟩ : ∃ t, totA (xs.take k) = t := ⟨_, rfl⟩
    rw [ht] at hle ⊢
    by_cases hlt : k < xs.length
    · obtain ⟨b, o, m, A', c', rfl, hb, HX, x1, x2, x3, hsl, hr4, hr5, hll⟩ := SlM.at_ hx hlt
      have d1 := bcell hbel hb x1
      have d2 := bcell hbel hb x2
      have d3 := bcell hbel hb x3
      have hmx : MxR wr wr.heap.size (.agg #[.int .i64 m.r, .int .i64 m.c, .slice A' m.a.length c']) m := ⟨_, rfl, SlI.more hbel.size (SlI.below hbel hsl), hr4, hr5⟩
      have htk : totA (xs.take (k + 1)) = t + m.a.length := by rw [take_snoc HX.out, totA_snoc, ht]
      have htt := totA_take_le xs (k + 1)
      rw [htk] at htt
      have HTK := Lib.hid htk
      clear hx htk ht x1 x2 x3 hsl hr4 hr5
      by_cases h3 : left - xs.length - t < m.a.length
      · have s1 : szLeft (left - xs.length - t) m.size = -1 := by rw [Mx.size, szLeft, if_pos h3]
        have hfin := Lib.hid (show szLeft left (szM xs) = -1 by rw [szLeft, if_pos (by simp only [szM]; omega)])
        go_wp2_with fail
        refine (szMatrix_any _ m _ _ (by first | exact hmx | exact MxR.next (drew_below _) hmx) (by omega) (by omega)).mono ?_; rintro e w' ⟨rfl, hb1⟩
        rw [s1]
        go_wp2
        go_ret
        exact ⟨by rw [hfin.out]; rfl, hbel.trans (hb1.mono hbel.size)⟩
      · have s1 : szLeft (left - xs.length - t) m.size = left - xs.length - t - m.a.length := by rw [Mx.size, szLeft, if_neg h3]
        have n1 : ¬ left - (xs.length : Int) - t - m.a.length < 0 := by omega
        go_wp2_with fail
        refine (szMatrix_any _ m _ _ hmx (by omega) (by omega)).mono ?_; rintro e w' ⟨rfl, hb1⟩
        rw [s1]
        go_wp2
        go_roundw
        case rel => exact ⟨k + 1, by omega, by go_num, by rw [HTK.out]; congr 1; omega, hbel.trans (hb1.mono hbel.size), by rw [HTK.out]; omega⟩
        case measure => simp [intOf]; omega
    · have hfin := Lib.hid (show szLeft left (szM xs) = left - xs.length - t by
        rw [← ht, List.take_of_length_le (by omega)] at hle ⊢
        rw [szLeft, if_neg (by simp only [szM]; omega)]; simp only [szM]; omega)
      clear ht
      go_wp2
      go_ret
      exact ⟨by rw [hfin.out]; rfl, hbel⟩

/-- the first matrices of a row are laid -/
def MatCs (cs : Array Value) (n : Nat) (vs : List Value) (ms : List Mx) : Prop := cs.size = n * 3 ∧ vs.length ≤ n ∧ ∀ (j : Nat) (v : Value) (m : Mx), vs[j]? = some v → ms[j]? = some m → cs[j * 3]? = some (.int .i64 m.r) ∧ cs[j * 3 + 1]? = some (.int .i64 m.c) ∧ cs[j * 3 + 2]? = some v
theorem MatCs.step {cs : Array Value} {n : Nat} {vs : List Value} {ms : List Mx} {v : Value} {m : Mx} (h : MatCs cs n vs ms) (hn : vs.length < n) (hm : ms[vs.length]? = some m) :
    MatCs (((cs.setIfInBounds (vs.length * 3) (.int .i64 m.r)).setIfInBounds (vs.length * 3 + 1) (.int .i64 m.c)).setIfInBounds (vs.length * 3 + 2) v) n (vs ++ [v]) ms := by
  obtain ⟨h1, h2, h3⟩ := h
  refine ⟨by simpa using h1, by simp; omega, fun j u x hu hx => ?_⟩
  by_cases e : j = vs.length
  · subst e
    rw [List.getElem?_append_right (Nat.le_refl _)] at hu
    simp at hu
    subst hu
    rw [hm] at hx
    injection hx with hx
    subst hx
    refine ⟨?_, ?_, ?_⟩ <;> simp [Array.getElem?_setIfInBounds] <;> omega
  · have hj : j < vs.length := by have := lt_of_some hu; simp at this; omega
    rw [List.getElem?_append_left hj] at hu
    obtain ⟨a, b, c⟩ := h3 j u x hu hx
    refine ⟨?_, ?_, ?_⟩ <;> simp only [Array.getElem?_setIfInBounds] <;> (repeat rw [if_neg (by omega)]) <;> assumption
theorem MatCs.own {w : World} {g lo : Nat} {cs : Array Value} {vs : List Value} {ms : List Mx} (h : MatCs cs ms.length vs ms) (hl : vs.length = ms.length) (hb : Blk w g 75 cs) (hlo : lo ≤ g) (hn : ms.length ≤ 17592186044416) : OutM w lo w.heap.size (.slice (some ⟨g, 0, none⟩) ms.length ms.length) vs ms := by
  have e : cs.toList.take (ms.length * 3) = mxCs vs ms := by
    apply List.ext_getElem?
    intro i
    by_cases hi : i < ms.length * 3
    · obtain ⟨k, r, rfl, hr⟩ : ∃ k r, i = k * 3 + r ∧ r < 3 := ⟨i / 3, i % 3, by omega, by omega⟩
      have hj : k < ms.length := by omega
      obtain ⟨a, b, c⟩ := h.2.2 k _ _ (List.getElem?_eq_getElem (by omega : k < vs.length)) (List.getElem?_eq_getElem hj)
      obtain ⟨a', b', c'⟩ := mxCs_get (List.getElem?_eq_getElem (by omega : k < vs.length)) (List.getElem?_eq_getElem hj)
      rw [List.getElem?_take, if_pos hi, Array.getElem?_toList]
      rcases (show r = 0 ∨ r = 1 ∨ r = 2 by omega) with rfl | rfl | rfl
      · rw [Nat.add_zero, a, a']
      · rw [b, b']
      · rw [c, c']
    · rw [List.getElem?_take, if_neg hi, List.getElem?_eq_none (by rw [mxCs_length _ _ hl]; omega)]
  have := hb.own (base := lo) (n := ms.length) (cap := ms.length) (size := 3) hlo (Nat.le_refl _) (by simp only [maxLen]; omega) (by rw [h.1])
  rw [e] at this
  exact ⟨this, fun k hk => by simp [Value.ownBlock] at hk; subst hk; exact hb.lt, hn⟩

set_option maxHeartbeats 800000 in
theorem mats_to (u : Value) (xs : List Mx) (w : World) (hu : SlM w w.heap.size u xs) (hn : xs.length ≤ 1048576) (hm : ∀ m ∈ xs, m.size ≤ 1048576) :
    Calls Try.prog 98 #[u] w fun e w' => ∃ v, e = .returned v ∧ MatsO w' w.heap.size w'.heap.size v xs ∧ Below w.heap.size w w' := by
  obtain ⟨A, c, rfl, _, _, _, hx⟩ := hu.open_
  clear hu
  have hxI : Hid (∀ m ∈ xs, I64 m.r ∧ I64 m.c) := fun m hm => by
    obtain ⟨j, hj⟩ := List.getElem?_of_mem hm
    obtain ⟨_, _, m', _, _, _, _, HX, _, _, _, _, h1, h2, _⟩ := SlM.at_ hx (lt_of_some hj)
    have := HX.out
    rw [hj] at this
    injection this with this
    subst this
    exact ⟨h1, h2⟩
  obtain ⟨i0, hi, hz0, hz1, hz2⟩ := info_parts infoMx
  have hmk := run_mk (P := Try.prog) Try.underlying27 hi hz0 (n := xs.length) (by rw [hz2]; omega) (by omega)
  rw [hz1] at hmk
  have HM := Lib.hid hm
  clear hi hz0 hz1 hz2 hm
  go_enter Try.func98, Try.ntmps98
  go_wp2
  go_loopw [4] (fun i wr => ∃ (cs : Array Value) (vs : List Value), vs.length ≤ xs.length ∧ i = .int .i64 vs.length ∧ Below w.heap.size w wr ∧ Blk wr w.heap.size 75 cs ∧ MatCs cs xs.length vs xs ∧ Fam wr w.heap.size wr.heap.size (vs.zip ((xs.take vs.length).map Mx.a))) (fun i _ => xs.length - (intOf i).toNat)
  case atStart => exact ⟨_, [], Nat.zero_le _, rfl, (Below.refl _ _).alloc (Nat.le_refl _) _, Blk.new _ _ _, ⟨by simp [mkCells_size], by simp, fun j v m h => by simp at h⟩, ⟨fun p hp => by simp at hp, by simp⟩⟩
  case round =>
    obtain ⟨cs, vs, hk, rfl, hbel, hblk, hcs, hF⟩ := hrel
    by_cases hlt : vs.length < xs.length
    · obtain ⟨b, o, m, A', c', rfl, hb, HX, x1, x2, x3, hsl, hr4, hr5, _⟩ := SlM.at_ hx hlt
      have d1 := bcell hbel hb x1
      have d2 := bcell hbel hb x2
      have d3 := bcell hbel hb x3
      have hsz := hbel.size
      have hmx : MxR wr wr.heap.size (.agg #[.int .i64 m.r, .int .i64 m.c, .slice A' m.a.length c']) m := ⟨_, rfl, SlI.more hbel.size (SlI.below hbel hsl), hr4, hr5⟩
      have hl := HM.out m (List.mem_of_getElem? HX.out)
      clear x1 x2 x3 hx hr4 hr5 hsl
      go_wp2_with fail
      refine (mx_to _ m _ hmx hl).mono ?_; rintro e w1 ⟨v, rfl, ⟨s, rfl, hv, _⟩, hb1⟩
      obtain ⟨A1, c2, rfl, _, _⟩ := hv.1.form
      have hblk1 := hblk.call hb1
      have f0 := hblk1.frozen
      have e0 : ∃ v0 v1 v2, w1.cell? ⟨w.heap.size, vs.length * 3, none⟩ = some v0 ∧ w1.cell? ⟨w.heap.size, vs.length * 3 + 1, none⟩ = some v1 ∧ w1.cell? ⟨w.heap.size, vs.length * 3 + 2, none⟩ = some v2 := by
        rw [hblk1.cell, hblk1.cell, hblk1.cell]; have := hcs.1; exact ⟨_, _, _, Array.getElem?_eq_getElem (by omega), Array.getElem?_eq_getElem (by omega), Array.getElem?_eq_getElem (by omega)⟩
      obtain ⟨v0, v1, v2, e0, e1, e2⟩ := e0
      have hF1 := (hF.below hb1).snoc hv hsz hb1.size
      have hzip : vs.zip ((xs.take vs.length).map Mx.a) ++ [(Value.slice A1 m.a.length c2, m.a)] = (vs ++ [Value.slice A1 m.a.length c2]).zip ((xs.take (vs ++ [Value.slice A1 m.a.length c2]).length).map Mx.a) := by
        rw [List.length_append, List.length_singleton, take_snoc HX.out, List.map_append, List.zip_append (by simp; omega)]
        rfl
      rw [hzip] at hF1
      have HF1 := Lib.hid hF1
      clear hF hF1 hzip
      go_wp2
      go_roundw
      case rel =>
        refine ⟨_, vs ++ [.slice A1 m.a.length c2], by simp; omega, by simp, (((hbel.trans (hb1.mono hsz)).setCell (by simp) _).setCell (by simp) _).setCell (by simp) _, ((hblk1.set_ _ _).set_ _ _).set_ _ _, hcs.step hlt HX.out, ?_⟩
        have q1 := HF1.out.setBlk (i := vs.length * 3) hblk1 (by decide) (.int .i64 m.r)
        have q2 := q1.setBlk (i := vs.length * 3 + 1) (hblk1.set_ _ _) (by decide) (.int .i64 m.c)
        have q3 := q2.setBlk (i := vs.length * 3 + 2) ((hblk1.set_ _ _).set_ _ _) (by decide) (.slice A1 m.a.length c2)
        exact q3.mono (Nat.le_refl _) (by simp)
      case measure => simp [intOf]; omega
    · have e : vs.length = xs.length := by omega
      have HE := Lib.hid e
      clear e
      go_wp2
      go_ret
      refine ⟨_, rfl, ⟨vs, hcs.own HE.out hblk (Nat.le_refl _) (by omega), HE.out, ?_, hxI.out⟩, hbel⟩
      have := hF
      rwa [List.take_of_length_le (by have := HE.out; omega)] at this

/-- one row of a family turned, by its place -/
theorem Fam.setAt {w w' : World} {lo hi : Nat} {L0 : List (Value × List Int)} {vs : List Value} {ll : List (List Int)} {j : Nat} {v : Value} {l l' : List Int} (h : Fam w lo hi (L0 ++ vs.zip ll)) (hv : vs[j]? = some v) (hl : ll[j]? = some l) (ho : OwnI w' lo v l') (hg : w.grownBy w' v.ownBlock) :
    Fam w' lo hi (L0 ++ vs.zip (ll.set j l')) := by
  have h1 := zip_split hv hl
  have hj := lt_of_some hl
  have h2 : (ll.set j l')[j]? = some l' := by simp [hj]
  have h3 := zip_split hv h2
  rw [h1, ← List.append_assoc] at h
  rw [h3, ← List.append_assoc]
  have e1 : (ll.set j l').take j = ll.take j := by rw [List.take_set_of_le (by omega)]
  have e2 : (ll.set j l').drop (j + 1) = ll.drop (j + 1) := by rw [List.drop_set_of_lt (by omega)]
  rw [e1, e2]
  exact h.turn ho hg
theorem Fam.getAt {w : World} {lo hi : Nat} {L0 : List (Value × List Int)} {vs : List Value} {ll : List (List Int)} {j : Nat} {v : Value} {l : List Int} (h : Fam w lo hi (L0 ++ vs.zip ll)) (hv : vs[j]? = some v) (hl : ll[j]? = some l) : IntsO w lo hi v l :=
  h.1 (v, l) (List.mem_append_right _ (by rw [List.mem_iff_getElem?]; exact ⟨j, by rw [List.getElem?_zip_eq_some]; exact ⟨hv, hl⟩⟩))

set_option maxHeartbeats 1600000 in
/-- marks, beside other rows -/
theorem markMatrixS_fam (v : Value) (vs : List Value) (ms : List Mx) (L0 : List (Value × List Int)) (k : Int) (lo hi : Nat) (w : World) (ho : OutM w lo hi v vs ms) (hl : vs.length = ms.length) (hF : Fam w lo hi (L0 ++ vs.zip (ms.map Mx.a))) (h0 : 0 ≤ k) (h1 : k ≤ 1125899906842624) (ht : totM ms ≤ 17592186044416) :
    Calls Try.prog 68 #[v, .int .i64 k] w fun e w' => e = .returned (.int .i64 (k + totM ms)) ∧ OutM w' lo hi v vs (mkMS k ms) ∧ Fam w' lo hi (L0 ++ vs.zip ((mkMS k ms).map Mx.a)) ∧ Chg lo hi w w' := by
  obtain ⟨A, c, rfl, _, _⟩ := ho.form
  have hn := ho.2.2
  have HL := Lib.hid hl
  clear hl
  go_enter Try.func68, Try.ntmps68
  go_wp2
  go_loopw [1, 5] (fun q i wr => ∃ j : Nat, j ≤ ms.length ∧ i = .int .i64 j ∧ q = .int .i64 (k + totM (ms.take j)) ∧ RowO 75 3 wr lo hi (.slice A ms.length c) ms.length (mxCs vs (mkMTo k ms j)) ∧ Fam wr lo hi (L0 ++ vs.zip ((mkMTo k ms j).map Mx.a)) ∧ Chg lo hi w wr) (fun _ i _ => ms.length - (intOf i).toNat)
  case atStart => exact ⟨0, Nat.zero_le _, rfl, by simp [totM], ho, by simpa [mkMTo, mkMS] using hF, Chg.refl _ _ _⟩
  case round =>
    clear ho hF
    obtain ⟨j, hj, rfl, rfl, ho, hF, hc⟩ := hrel
    have HSUC := fun (m : Mx) (hm : ms[j]? = some m) => Lib.hid (mkMTo_succ (k := k) hm)
    have HTSU := fun (m : Mx) (hm : ms[j]? = some m) => Lib.hid (show totM (ms.take (j + 1)) = totM (ms.take j) + (2 + m.a.length) by rw [take_snoc hm, totM_snoc])
    obtain ⟨t, htt⟩ : ∃ t, totM (ms.take j) = t := ⟨_, rfl⟩
    have htle := totM_take_le ms j
    have HTT := Lib.hid htt
    rw [htt] at htle HSUC HTSU ⊢
    clear htt
    by_cases hlt : j < ms.length
    · obtain ⟨g, c', cur, hval, hlg, hgh, hgs, hblk⟩ := ho.at_ (by omega)
      injection hval with e1 e2 e3
      subst e1 e3
      clear e2
      have hvj : vs[j]? = some (vs[j]'(by have := HL.out; omega)) := List.getElem?_eq_getElem _
      have hmj : ms[j]? = some ms[j] := List.getElem?_eq_getElem hlt
      obtain ⟨u, hu⟩ : ∃ u, vs[j]'(by have := HL.out; omega) = u := ⟨_, rfl⟩
      obtain ⟨m, hm⟩ : ∃ m, ms[j] = m := ⟨_, rfl⟩
      rw [hu] at hvj
      rw [hm] at hmj
      clear hu hm
      have HSU := HSUC m hmj
      have HTS := HTSU m hmj
      clear HSUC HTSU
      have hlen := mkMTo_length k ms j (by omega)
      have hget := mxCs_get hvj (mkMTo_get (k := k) hmj)
      have c0 := ho.1.cellAt (j * 3) (by omega)
      have c1 := ho.1.cellAt (j * 3 + 1) (by omega)
      have c2 := ho.1.cellAt (j * 3 + 2) (by omega)
      rw [hget.1] at c0
      rw [hget.2.1] at c1
      rw [hget.2.2] at c2
      have f0 := fun i => ho.1.frozenAt i
      have hI := hF.getAt hvj (l := m.a) (by rw [List.getElem?_map, mkMTo_get hmj]; rfl)
      have hml := hI.1.2.1
      obtain ⟨A', c'', rfl, _, _⟩ := hI.1.form
      have st1 := ho.stored (j * 3) (.int .i64 (k + t))
      have st2 := st1.1.stored (j * 3 + 1) (.int .i64 (k + t + 1))
      have hF1 := (hF.setBlk (i := j * 3) hblk (by decide) (.int .i64 (k + t))).setBlk (i := j * 3 + 1) (hblk.set_ _ _) (by decide) (.int .i64 (k + t + 1))
      have ho2 := st2.1
      rw [mxCs_set (by rw [hlen]; omega) (by rw [hlen]; exact HL.out) (k + t) (k + t + 1) (mkI (k + t + 1 + 1) m.a.length), HSU.out] at ho2
      have hc2 := hc.trans (st1.2.trans st2.2)
      have hI2 := hF1.getAt hvj (l := m.a) (by rw [List.getElem?_map, mkMTo_get hmj]; rfl)
      have HI2 := Lib.hid hI2
      have HF1 := Lib.hid hF1
      have HO2 := Lib.hid ho2
      have HVJ := Lib.hid hvj
      have HMJ := Lib.hid hmj
      clear hF hF1 hI hI2 ho2 st1 st2 ho hget hlen hvj hmj hblk
      go_wp2_with fail
      refine (markIntS_any _ m.a _ lo _ HI2.out.1 (by omega) (by omega)).mono ?_; rintro e w1 ⟨rfl, ho1, hg1⟩
      have hF2 := HF1.out.setAt HVJ.out (by rw [List.getElem?_map, mkMTo_get HMJ.out]; rfl) ho1 hg1
      have hc3 := chg_of_grown HI2.out hg1
      have ho3 := HO2.out.grown (by decide) HI2.out.1 hg1
      have e9 : ((mkMTo k ms j).map Mx.a).set j (mkI (k + t + 1 + 1) m.a.length) = (mkMTo k ms (j + 1)).map Mx.a := by
        rw [← HSU.out, List.map_set]
      rw [e9] at hF2
      clear e9
      go_wp2
      go_roundw
      case rel => exact ⟨j + 1, by omega, by go_num, by rw [HTS.out]; congr 1; omega, ho3, hF2, hc2.trans hc3⟩
      case measure => simp [intOf]; omega
    · have e2 : mkMTo k ms j = mkMS k ms := by rw [mkMTo, List.take_of_length_le (by omega), List.drop_of_length_le (by omega), List.append_nil]
      rw [e2] at hF ho
      clear e2 HSUC HTSU
      have e3 := mkMS_length ms k
      have ho' : OutM wr lo hi (.slice A ms.length c) vs (mkMS k ms) := by rw [OutM, e3]; exact ho
      have HE := Lib.hid (show totM ms = t by rw [← HTT.out, List.take_of_length_le (by omega)])
      have HO := Lib.hid ho'
      have HF := Lib.hid hF
      clear e3 ho' hF ho
      go_wp2
      go_ret
      exact ⟨by rw [HE.out]; rfl, HO.out, HF.out, hc⟩
end Go.Proofs.Ytjhllgldllbaaaa
