/- FnReflections: the law holds for every argument. Part 2 of 13 of the proof: Net, CmpB, Fmt, Find, IsQ, SS, Num, Symm, Symm2, Refl. No condition. -/
import Derived.Test.YtaefpblpfjhgoaaBReflections1
import Derived.Orders
import Derived.Lib.SlBytesRow
import Derived.Shelf.RegionOpenPlain
/- A region that draws its order and whose operations make memory: each operation is met once, in the order of the text, under what is known of those that it waits for; what it hands back is told by a relation that outlives growth of the memory. No order is branched over. No program's numbers stand here. -/
namespace Go.Proofs.Ytaefpblpfjhgoaa
set_option linter.unusedVariables false
set_option linter.unusedSimpArgs false
open Go.RowKit

/-- What is said of an operation: an equation on its value, or a relation that outlives growth, on its value and on the stretch of memory that it made (its blocks lie from lo on, below hi). -/
structure Gh where
  v : Nat → Value
  lo : Nat → Nat
  hi : Nat → Nat
inductive NS where
  | eq (u : Value)
  | rel (R : Gh → World → Prop)
def restr (i : Nat) (D : List Nat) (x : Gh) : Gh := ⟨fun j => if j = i ∨ j ∈ D then x.v j else undef, fun j => if j = i ∨ j ∈ D then x.lo j else 0, fun j => if j = i ∨ j ∈ D then x.hi j else 0⟩
def NS.holds (s : NS) (i : Nat) (D : List Nat) (x : Gh) (w : World) : Prop :=
  match s with
  | .eq u => x.v i = u
  | .rel R => R (restr i D x) w
def NS.stable (s : NS) : Prop :=
  match s with
  | .eq _ => True
  | .rel R => ∀ x w w', R x w → Below w.heap.size w w' → R x w'
theorem NS.holds_stable {s : NS} (h : s.stable) {i : Nat} {D : List Nat} {x : Gh} {w w' : World} (hh : s.holds i D x w) (hb : Below w.heap.size w w') : s.holds i D x w' := by
  cases s with
  | eq f => exact hh
  | rel R => exact h _ _ _ hh hb
theorem NS.holds_congr {s : NS} {i : Nat} {D : List Nat} {x y : Gh} {w : World} (hv : ∀ j, j = i ∨ j ∈ D → x.v j = y.v j ∧ x.lo j = y.lo j ∧ x.hi j = y.hi j) (hh : s.holds i D x w) : s.holds i D y w := by
  have e : restr i D x = restr i D y := by
    unfold restr
    congr 1 <;> funext j <;> split
    · rename_i h; exact (hv j h).1
    · rfl
    · rename_i h; exact (hv j h).2.1
    · rfl
    · rename_i h; exact (hv j h).2.2
    · rfl
  cases s with
  | eq u => exact (hv i (.inl rfl)).1.symm.trans hh
  | rel R =>
    show R _ w
    rw [← e]
    exact hh
def Gh.set (x : Gh) (i : Nat) (u : Value) (a b : Nat) : Gh := ⟨fun j => if j = i then u else x.v j, fun j => if j = i then a else x.lo j, fun j => if j = i then b else x.hi j⟩

section
variable {P : Program}

theorem act_eval_put {a : Act} {dst : Option Tmp} {v : Value} {t : Tmp} : (a.put dst v).eval (.tmp t) = if dst = some t ∧ t < a.tmps.size then v else a.eval (.tmp t) := by
  cases dst with
  | none => simp [Act.put]
  | some d =>
    by_cases e : d = t
    · subst e
      by_cases hl : d < a.tmps.size
      · simp [Act.put, Act.eval, Array.getD_eq_getD_getElem?, Array.getElem?_setIfInBounds, hl]
      · simp [Act.put, Act.eval, Array.getD_eq_getD_getElem?, Array.getElem?_setIfInBounds, hl]
    · simp [Act.put, Act.eval, Array.getD_eq_getD_getElem?, Array.getElem?_setIfInBounds, e]
theorem act_put_size {a : Act} {dst : Option Tmp} {v : Value} : (a.put dst v).tmps.size = a.tmps.size := by
  cases dst <;> simp [Act.put]
theorem act_put_defers {a : Act} {dst : Option Tmp} {v : Value} : (a.put dst v).defers = a.defers := by
  cases dst <;> rfl
theorem act_put_eq {a b : Act} {dst : Option Tmp} {v u : Value} (h : a.put dst v = a.put dst u) (hs : a.tmps.size = b.tmps.size) : b.put dst v = b.put dst u := by
  cases dst with
  | none => rfl
  | some d =>
    by_cases hl : d < a.tmps.size
    · have h1 := congrArg (fun x : Act => x.eval (.tmp d)) h
      simp only [act_eval_put, hl, and_self, if_true] at h1
      rw [h1]
    · have hb : b.tmps.size ≤ d := hs ▸ Nat.le_of_not_lt hl
      simp only [Act.put]
      rw [Array.setIfInBounds_eq_of_size_le hb, Array.setIfInBounds_eq_of_size_le hb]

/-- One operation at another frame that agrees on what it looks at. -/
theorem wp_transfer {o : Oper} {a b : Act} {w : World} {K : Value → World → Prop} {Q1 Q2 : Exit → Act → World → Prop} (he : execOp b.eval o = execOp a.eval o) (hs : a.tmps.size = b.tmps.size)
    (hp : ∀ c a w, ¬ Q1 (.panic c) a w) (hl : ¬ LetsOut Q1) (h : o.wp P a w (fun a' w' => ∃ u, a' = a.put o.dst u ∧ K u w') Q1) : o.wp P b w (fun b' w' => ∃ u, b' = b.put o.dst u ∧ K u w') Q2 := by
  unfold Oper.wp at *
  rw [he]
  generalize (execOp a.eval o).run P w = r at *
  cases r with
  | ok n w' =>
    cases n <;> simp only [Oper.upon] at h ⊢
    case value v =>
      obtain ⟨u, e, k⟩ := h
      exact ⟨u, act_put_eq e hs, k⟩
    case skip =>
      obtain ⟨u, e, k⟩ := h
      exact ⟨u, act_put_eq e hs, k⟩
    case defer d =>
      obtain ⟨u, e, k⟩ := h
      have := congrArg (fun x : Act => x.defers.length) e
      simp [act_put_defers] at this
    case enter f args =>
      refine Calls.mono h fun e w'' he => ?_
      cases e with
      | returned v =>
        obtain ⟨u, e, k⟩ := he
        exact ⟨u, act_put_eq e hs, k⟩
      | panicked c => exact absurd he (hp _ _ _)
      | outgrown => exact absurd he hl
    case row row args =>
      refine Rows.mono h fun v w'' he => ?_
      obtain ⟨u, e, k⟩ := he
      exact ⟨u, act_put_eq e hs, k⟩
  | halt x w' =>
    cases x <;> simp only [Oper.upon] at h ⊢
    case panic u => exact absurd h (hp _ _ _)

def dstAt (ops : Array Oper) (k : Nat) : Option Tmp := (ops[k]?).bind (·.dst)
/-- the frame behind the operations below k of which p holds -/
def actP (ops : Array Oper) (a : Act) (v : Nat → Value) (p : Nat → Bool) : Nat → Act
  | 0 => a
  | k + 1 => if p k then (actP ops a v p k).put (dstAt ops k) (v k) else actP ops a v p k
/-- .. behind the first k operations -/
def netAct (ops : Array Oper) (a : Act) (v : Nat → Value) : Nat → Act
  | 0 => a
  | k + 1 => (netAct ops a v k).put (dstAt ops k) (v k)
section
variable {ops : Array Oper} {a : Act} {v v' : Nat → Value} {p q : Nat → Bool}
theorem actP_size : ∀ k, (actP ops a v p k).tmps.size = a.tmps.size
  | 0 => rfl
  | k + 1 => by
    unfold actP
    split
    · rw [act_put_size, actP_size k]
    · exact actP_size k
theorem actP_congr : ∀ k, (∀ j, j < k → p j = q j ∧ (p j = true → v j = v' j)) → actP ops a v p k = actP ops a v' q k
  | 0, _ => rfl
  | k + 1, h => by
    have ih := actP_congr k (fun j hj => h j (by omega))
    have hk := h k (by omega)
    unfold actP
    rw [← hk.1, ih]
    split
    · rename_i hp; rw [hk.2 hp]
    · rfl
theorem actP_net : ∀ k, (∀ j, j < k → p j = true) → actP ops a v p k = netAct ops a v k
  | 0, _ => rfl
  | k + 1, h => by
    have ih := actP_net k (fun j hj => h j (by omega))
    unfold actP netAct
    rw [h k (by omega), if_pos rfl, ih]
theorem actP_none : ∀ k i, i ≤ k → (∀ j, i ≤ j → j < k → p j = false) → actP ops a v p k = actP ops a v p i
  | 0, i, hi, _ => by
    have e : i = 0 := by omega
    rw [e]
  | k + 1, i, hi, h => by
    by_cases e : i = k + 1
    · rw [e]
    · have ih := actP_none k i (by omega) (fun j h1 h2 => h j h1 (by omega))
      rw [← ih]
      conv => lhs; unfold actP
      rw [h k (by omega) (by omega)]
      rfl
theorem actP_eval (t : Tmp) : ∀ k, (∀ j, j < k → dstAt ops j = some t → p j = q j) → (actP ops a v p k).eval (.tmp t) = (actP ops a v q k).eval (.tmp t)
  | 0, _ => rfl
  | k + 1, h => by
    have ih := actP_eval t k (fun j hj => h j (by omega))
    unfold actP
    by_cases e : dstAt ops k = some t
    · rw [← h k (by omega) e]
      split
      · rw [act_eval_put, act_eval_put, actP_size, actP_size, ih]
      · exact ih
    · have h1 : ∀ (b : Act) (u : Value), (b.put (dstAt ops k) u).eval (.tmp t) = b.eval (.tmp t) := fun b u => by rw [act_eval_put, if_neg (by intro x; exact e x.1)]
      split <;> split <;> simp only [h1, ih]
theorem actP_evalC (x : Operand) (hx : ∀ t, x ≠ .tmp t) (b c : Act) : b.eval x = c.eval x := by
  cases x with
  | tmp t => exact absurd rfl (hx t)
  | _ => rfl
/-- one operation more -/
theorem actP_add {i : Nat} {u : Value} (hv : ∀ j, j ≠ i → p j = true → v' j = v j) (hvi : v' i = u) (hp : p i = false) (hq : ∀ j, q j = (p j || j == i)) (hd : ∀ j d, i < j → p j = true → dstAt ops j = some d → dstAt ops i ≠ some d) :
    ∀ k, i < k → (actP ops a v p k).put (dstAt ops i) u = actP ops a v' q k
  | 0, h => absurd h (by omega)
  | k + 1, h => by
    by_cases e : i = k
    · subst e
      have h0 : actP ops a v p i = actP ops a v' q i := actP_congr i fun j hj => ⟨by rw [hq]; simp; omega, fun hj' => (hv j (by omega) hj').symm⟩
      conv => lhs; unfold actP
      conv => rhs; unfold actP
      rw [hp, hq, if_neg (by simp), if_pos (by simp), hvi, h0]
    · have ih := actP_add hv hvi hp hq hd k (by omega)
      conv => lhs; unfold actP
      conv => rhs; unfold actP
      have hqk : q k = p k := by rw [hq]; simp; omega
      rw [hqk, ← ih]
      split
      · rename_i hpk
        rw [hv k (by omega) hpk]
        rw [Act.put_comm _ (v k) u (fun d hdd => hd k d (by omega) hpk hdd)]
      · rfl
end

/-- the operations that one waits for at once -/
def directOf (o : Oper) : List Nat := (o.after.toList.filter fun e => Region.binds .any e).map (·.on)
/-- the test of a region: D tells what each operation waits for, m where the tail begins -/
def netAt (ops : Array Oper) (D : List (List Nat)) (m i : Nat) (o : Oper) : Bool :=
  o.guard.isNone && (directOf o).all (· < i) && (D.getD i []).all (fun j => decide (j < i) && ((directOf o).contains j || (directOf o).any fun k => (D.getD k []).contains j)) &&
  (List.range ops.size).all (fun k => match dstAt ops k with
    | none => true
    | some d => (!(o.looksAt ops).contains d || (D.getD i []).contains k || (D.getD k []).contains i) && (k == i || dstAt ops i != some d || (D.getD i []).contains k || (D.getD k []).contains i)) &&
  (decide (i < m) || (List.range i).all fun j => (D.getD i []).contains j)
def netFrom (ops : Array Oper) (D : List (List Nat)) (m : Nat) : Nat → List Oper → Bool
  | _, [] => true
  | i, o :: l => netAt ops D m i o && netFrom ops D m (i + 1) l
def netB (ops : Array Oper) (D : List (List Nat)) (m : Nat) : Bool := decide (m ≤ ops.size) && Region.noSelect ops && netFrom ops D m 0 ops.toList
theorem netFrom_spec {ops : Array Oper} {D : List (List Nat)} {m : Nat} : ∀ (l : List Oper) (k : Nat), netFrom ops D m k l = true → ∀ j o, l[j]? = some o → netAt ops D m (k + j) o = true
  | [], _, _, _, _, h => by simp at h
  | x :: l, k, h, 0, o, hj => by
    simp only [netFrom, Bool.and_eq_true] at h
    simp at hj
    subst hj
    exact h.1
  | x :: l, k, h, j + 1, o, hj => by
    simp only [netFrom, Bool.and_eq_true] at h
    have := netFrom_spec l (k + 1) h.2 j o (by simpa using hj)
    rwa [show k + 1 + j = k + (j + 1) by omega] at this

structure NetOk (ops : Array Oper) (D : List (List Nat)) (m i : Nat) (o : Oper) : Prop where
  guard : o.guard = none
  direct : ∀ e ∈ o.after, Region.binds .any e = true → e.on < i
  dlt : ∀ j ∈ D.getD i [], j < i
  danc : ∀ (S : Nat → Prop), (∀ e ∈ o.after, Region.binds .any e = true → S e.on) → (∀ k, S k → ∀ j ∈ D.getD k [], S j) → ∀ j ∈ D.getD i [], S j
  looks : ∀ k d, dstAt ops k = some d → d ∈ o.looksAt ops → k ∈ D.getD i [] ∨ i ∈ D.getD k []
  dsts : ∀ k d, k ≠ i → dstAt ops k = some d → dstAt ops i = some d → k ∈ D.getD i [] ∨ i ∈ D.getD k []
  tail : m ≤ i → ∀ j, j < i → j ∈ D.getD i []
theorem netAt_spec {ops : Array Oper} {D : List (List Nat)} {m i : Nat} {o : Oper} (h : netAt ops D m i o = true) : NetOk ops D m i o := by
  simp only [netAt, Bool.and_eq_true, List.all_eq_true, Bool.or_eq_true, decide_eq_true_eq, List.mem_range] at h
  obtain ⟨⟨⟨⟨h1, h2⟩, h3⟩, h4⟩, h5⟩ := h
  have hdir : ∀ e ∈ o.after, Region.binds .any e = true → e.on ∈ directOf o := fun e he hb => by
    unfold directOf
    rw [List.mem_map]
    exact ⟨e, by rw [List.mem_filter]; exact ⟨by simpa using he, hb⟩, rfl⟩
  have hk : ∀ {k : Nat} {d : Tmp}, dstAt ops k = some d → k < ops.size := fun {k d} hd => by
    rcases Nat.lt_or_ge k ops.size with h | h
    · exact h
    · simp [dstAt, Array.getElem?_eq_none h] at hd
  refine ⟨by simpa using h1, fun e he hb => h2 _ (hdir e he hb), fun j hj => (h3 j hj).1, fun S hS hc j hj => ?_, fun k d hd hl => ?_, fun k d hne hd hdi => ?_, fun hm j hj => ?_⟩
  · have hD : ∀ k ∈ directOf o, S k := fun k hk => by
      unfold directOf at hk
      rw [List.mem_map] at hk
      obtain ⟨e, he, rfl⟩ := hk
      rw [List.mem_filter] at he
      exact hS e (by simpa using he.1) he.2
    rcases (h3 j hj).2 with h | h
    · exact hD j (by simpa using h)
    · rw [List.any_eq_true] at h
      obtain ⟨k, hk, hkj⟩ := h
      exact hc k (hD k hk) j (by simpa using hkj)
  · have := h4 k (hk hd)
    rw [hd] at this
    simp only [Bool.and_eq_true, Bool.or_eq_true, Bool.not_eq_true', List.contains_iff_mem, List.contains_eq_mem, decide_eq_true_eq, decide_eq_false_iff_not] at this
    rcases this.1 with (h | h) | h
    · exact absurd hl h
    · exact .inl h
    · exact .inr h
  · have := h4 k (hk hd)
    rw [hd] at this
    simp only [Bool.and_eq_true, Bool.or_eq_true, List.contains_eq_mem, decide_eq_true_eq, beq_iff_eq, bne_iff_ne] at this
    rcases this.2 with ((h | h) | h) | h
    · exact absurd h hne
    · exact absurd hdi h
    · exact .inl h
    · exact .inr h
  · rcases h5 with h | h
    · omega
    · simpa using h j hj

section
variable {ops : Array Oper} {Q : Exit → Act → World → Prop} {sp : List NS} {D : List (List Nat)} {m : Nat} {a0 : Act} {w0 : World}

/-- what is known of operation i -/
def known (sp : List NS) (D : List (List Nat)) (x : Gh) (i : Nat) (w : World) : Prop := (sp.getD i (.eq undef)).holds i (D.getD i []) x w

/-- what is to be shown of operation i -/
def netDo (P : Program) (ops : Array Oper) (sp : List NS) (D : List (List Nat)) (a0 : Act) (w0 : World) (i : Nat) (o : Oper) : Prop :=
  ∀ (x : Gh) (w : World), Below w0.heap.size w0 w → (∀ j ∈ D.getD i [], known sp D x j w ∧ x.hi j ≤ w.heap.size) → ∀ Q' : Exit → Act → World → Prop,
    (∀ u w', Below w.heap.size w w' → (sp.getD i (.eq undef)).holds i (D.getD i []) (x.set i u w.heap.size w'.heap.size) w' → Q' .normal ((netAct ops a0 x.v i).put o.dst u) w') → wpList P ops Q' [o] (netAct ops a0 x.v i) w

/-- the tail, in the order of the text -/
theorem net_tail (hok : ∀ i o, ops[i]? = some o → NetOk ops D m i o) : ∀ (fuel k : Nat) (listed : Array Bool) (a : Act) (w : World), fuel + k = ops.size → m ≤ k → listed.size = ops.size → (∀ j, listed.getD j false = decide (j < k)) →
    wpList P ops Q (ops.toList.drop k) a w → wpAny P .any ops Q fuel listed a w
  | fuel, k, listed, a, w, hf, hm, hls, hl, h => by
    have hld : ∀ j, j < ops.size → listed.getD j true = decide (j < k) := fun j hj => by
      rw [← hl j]
      simp [Array.getD_eq_getD_getElem?, Array.getElem?_eq_getElem (show j < listed.size by omega)]
    have hr : ∀ i ∈ Region.ready .any ops listed, i = k ∧ k < ops.size := fun i hi => by
      obtain ⟨h0, o, ho, hall⟩ := mem_ready.1 hi
      have hin := (Array.getElem?_eq_some_iff.1 ho).1
      rw [hld i hin] at h0
      have hik : k ≤ i := by simpa using h0
      refine ⟨?_, by omega⟩
      have hcl := (hok i o ho).danc (fun j => j < k) (fun e he hb => by have := hall e he hb; rw [hl] at this; simpa using this) (fun j hj x hx => by
        have hjs : j < ops.size := by omega
        have := (hok j _ (Array.getElem?_eq_getElem hjs)).dlt x hx
        omega)
      rcases Nat.lt_or_ge k i with hlt | hge
      · have := hcl k ((hok i o ho).tail (by omega) k hlt)
        omega
      · omega
    cases fuel with
    | zero =>
      refine ⟨?_, ?_⟩
      · apply List.eq_nil_iff_forall_not_mem.2
        intro i hi
        have := hr i hi
        omega
      · rw [List.drop_of_length_le (by simp; omega)] at h
        exact h
    | succ fuel =>
      have hks : k < ops.size := by omega
      have hke := Array.getElem?_eq_getElem hks
      have hdrop : ops.toList.drop k = ops[k] :: ops.toList.drop (k + 1) := by
        rw [List.drop_eq_getElem_cons (by simpa using hks)]
        simp
      rw [hdrop] at h
      have hready : k ∈ Region.ready .any ops listed := mem_ready.2 ⟨by rw [hld k hks]; simp, _, hke, fun e he hb => by rw [hl]; simpa using (hok k _ hke).direct e he hb⟩
      refine ⟨fun h0 => (by rw [h0] at hready; cases hready), fun i hi => ?_⟩
      obtain ⟨rfl, _⟩ := hr i hi
      unfold wpOp
      simp only [hke]
      have hw : Region.wanted ops[i] (yielded ops a.tmps) = true := by simp [Region.wanted, (hok i _ hke).guard]
      simp only [wpList, hw, if_true] at h ⊢
      have nxt : ∀ a w, wpList P ops Q (ops.toList.drop (i + 1)) a w → wpAny P .any ops Q fuel (listed.setIfInBounds i true) a w := fun a w h =>
        net_tail hok fuel (i + 1) _ a w (by omega) (by omega) (by simpa using hls) (fun j => by
          by_cases e : i = j
          · subst e
            simp [Array.getD_eq_getD_getElem?, Array.getElem?_setIfInBounds, hls, hks]
          · rw [getD_set_ne _ e, hl]
            congr 1
            rw [eq_iff_iff]
            omega) h
      rcases h with h | h
      · exact .inl (Oper.wp_mono nxt h)
      · exact .inr h

theorem net_any (hB : netB ops D m = true) (hst : ∀ s ∈ sp, s.stable) (hdo : ∀ i o, i < m → ops[i]? = some o → netDo P ops sp D a0 w0 i o)
    (hend : ∀ x w, Below w0.heap.size w0 w → (∀ i, i < m → known sp D x i w) → (∀ i, i < m → w0.heap.size ≤ x.lo i ∧ x.lo i ≤ x.hi i ∧ x.hi i ≤ w.heap.size) → (∀ i j, i < m → j < m → i ≠ j → x.hi i ≤ x.lo j ∨ x.hi j ≤ x.lo i) → wpList P ops Q (ops.toList.drop m) (netAct ops a0 x.v m) w) :
    ∀ (fuel : Nat) (listed : Array Bool) (x : Gh) (w : World), ((List.range ops.size).filter fun j => !listed.getD j false).length = fuel → listed.size = ops.size → (∀ j, m ≤ j → listed.getD j false = false) →
      (∀ i, listed.getD i false = true → ∀ j ∈ D.getD i [], listed.getD j false = true) → Below w0.heap.size w0 w → (∀ i, listed.getD i false = true → known sp D x i w) → (∀ i, listed.getD i false = true → w0.heap.size ≤ x.lo i ∧ x.lo i ≤ x.hi i ∧ x.hi i ≤ w.heap.size) →
      (∀ i j, listed.getD i false = true → listed.getD j false = true → i ≠ j → x.hi i ≤ x.lo j ∨ x.hi j ≤ x.lo i) →
      wpAny P .any ops Q fuel listed (actP ops a0 x.v (fun j => listed.getD j false) ops.size) w := by
  simp only [netB, Bool.and_eq_true, decide_eq_true_eq] at hB
  obtain ⟨⟨hm, hns⟩, hnf⟩ := hB
  have hok : ∀ i o, ops[i]? = some o → NetOk ops D m i o := fun i o ho => netAt_spec (by
    have := netFrom_spec ops.toList 0 hnf i o (by simpa using ho)
    simpa using this)
  have hst' : ∀ i, (sp.getD i (.eq undef)).stable := fun i => by
    rw [List.getD_eq_getElem?_getD]
    rcases h : sp[i]? with _ | s
    · trivial
    · exact hst s (List.mem_of_getElem? h)
  intro fuel
  induction fuel with
  | zero =>
    intro listed x w hc hls hlm hcl hb hkn hiv hdj
    -- all are listed: then m is the region's size
    have hall : ∀ j, j < ops.size → listed.getD j false = true := fun j hj => by
      rw [List.length_eq_zero_iff, List.filter_eq_nil_iff] at hc
      have := hc j (List.mem_range.2 hj)
      simpa using this
    have hms : m = ops.size := by
      rcases Nat.lt_or_ge m ops.size with h | h
      · have := hall m h
        rw [hlm m (Nat.le_refl _)] at this
        cases this
      · omega
    refine net_tail hok 0 ops.size listed _ w (by omega) (by omega) hls (fun j => ?_) ?_
    · by_cases hj : j < ops.size
      · rw [hall j hj]; simp [hj]
      · rw [hlm j (by omega)]; simp [hj]
    · have := hend x w hb (fun i hi => hkn i (hall i (by omega))) (fun i hi => hiv i (hall i (by omega))) (fun i j hi hj => hdj i j (hall i (by omega)) (hall j (by omega)))
      rw [← actP_net (p := fun j => listed.getD j false) m (fun j hj => hall j (by omega))] at this
      rwa [hms] at this
  | succ fuel ih =>
    intro listed x w hc hls hlm hcl hb hkn hiv hdj
    by_cases hfull : ∀ j, j < m → listed.getD j false = true
    · -- the tail
      have hl : ∀ j, listed.getD j false = decide (j < m) := fun j => by
        by_cases hj : j < m
        · rw [hfull j hj]; simp [hj]
        · rw [hlm j (by omega)]; simp [hj]
      have hcnt : fuel + 1 + m = ops.size := by
        rw [← hc]
        have e : (List.range ops.size).filter (fun j => !listed.getD j false) = (List.range' m (ops.size - m)) := by
          have e1 : (List.range ops.size) = List.range m ++ List.range' m (ops.size - m) := by
            have h := List.range'_append_1 (s := 0) (m := m) (n := ops.size - m)
            rw [Nat.zero_add] at h
            rw [List.range_eq_range', List.range_eq_range', h]
            congr 1
            omega
          rw [e1, List.filter_append]
          rw [List.filter_eq_nil_iff.2 (fun j hj => by rw [hl]; simp at hj ⊢; exact hj), List.nil_append]
          rw [List.filter_eq_self.2 (fun j hj => by rw [hl]; simp [List.mem_range'] at hj ⊢; omega)]
        rw [e, List.length_range']
        omega
      refine net_tail hok (fuel + 1) m listed _ w (by omega) (Nat.le_refl _) hls hl ?_
      have := hend x w hb (fun i hi => hkn i (hfull i hi)) (fun i hi => hiv i (hfull i hi)) (fun i j hi hj => hdj i j (hfull i hi) (hfull j hj))
      rw [← actP_net (p := fun j => listed.getD j false) m hfull] at this
      rwa [actP_none (p := fun j => listed.getD j false) ops.size m hm (fun j h1 _ => hlm j h1)]
    · -- one of the net
      have hne : Region.ready .any ops listed ≠ [] := by
        intro h0
        -- the least that is not listed is ready
        have : ∀ n, ∀ j, j < n → j < m → listed.getD j false = true := by
          intro n
          induction n with
          | zero => intro j hj; omega
          | succ n ihn =>
            intro j hj hjm
            by_cases e : j < n
            · exact ihn j e hjm
            · rcases hlj : listed.getD j false with _ | _
              · exfalso
                have hjs : j < ops.size := by omega
                have hje := Array.getElem?_eq_getElem hjs
                have : j ∈ Region.ready .any ops listed := mem_ready.2 ⟨by
                  rw [← hlj]
                  simp [Array.getD_eq_getD_getElem?, Array.getElem?_eq_getElem (show j < listed.size by omega)], _, hje, fun e he hb => by
                  have := (hok j _ hje).direct e he hb
                  exact ihn e.on (by omega) (by omega)⟩
                rw [h0] at this
                cases this
              · rfl
        exact hfull fun j hj => this (j + 1) j (by omega) hj
      refine ⟨fun h0 => absurd h0 hne, fun i hi => ?_⟩
      obtain ⟨h0, o, ho, hall⟩ := mem_ready.1 hi
      have his := (Array.getElem?_eq_some_iff.1 ho).1
      have hO := hok i o ho
      have hDl : ∀ j ∈ D.getD i [], listed.getD j false = true := hO.danc (fun j => listed.getD j false = true) hall (fun k hk j hj => hcl k hk j hj)
      have him : i < m := by
        rcases Nat.lt_or_ge i m with h | h
        · exact h
        · exact absurd (fun j hj => hDl j (hO.tail h j (by omega))) hfull
      have hli : listed.getD i false = false := by
        rw [← h0]
        simp [Array.getD_eq_getD_getElem?, Array.getElem?_eq_getElem (show i < listed.size by omega)]
      have hpre := hdo i o him ho x w hb (fun j hj => ⟨hkn j (hDl j hj), (hiv j (hDl j hj)).2.2⟩) (fun e b w' => e = .normal ∧ ∃ u, b = (netAct ops a0 x.v i).put o.dst u ∧ (Below w.heap.size w w' ∧ (sp.getD i (.eq undef)).holds i (D.getD i []) (x.set i u w.heap.size w'.heap.size) w'))
        (fun u w' h1 h2 => ⟨rfl, u, rfl, h1, h2⟩)
      have hwant : ∀ b : Act, Region.wanted o (yielded ops b.tmps) = true := fun b => by simp [Region.wanted, hO.guard]
      have hnl : ¬ LetsOut (fun (e : Exit) (b : Act) (w' : World) => e = .normal ∧ ∃ u, b = (netAct ops a0 x.v i).put o.dst u ∧ (Below w.heap.size w w' ∧ (sp.getD i (.eq undef)).holds i (D.getD i []) (x.set i u w.heap.size w'.heap.size) w')) := by
        rintro ⟨b, w', h, _⟩
        cases h
      simp only [wpList, hwant, if_true] at hpre
      rcases hpre with hpre | hpre
      case inr => exact absurd hpre.2 hnl
      simp only [true_and] at hpre
      have hexec : execOp (actP ops a0 x.v (fun j => listed.getD j false) ops.size).eval o = execOp (netAct ops a0 x.v i).eval o := by
        refine execOp_congr o (fun cs b => Region.noSelect_spec hns i o cs b ho) fun y hx => ?_
        by_cases hxt : ∃ t, y = .tmp t
        · obtain ⟨t, rfl⟩ := hxt
          have hlook : t ∈ o.looksAt ops := List.mem_append_left _ (List.mem_filterMap.2 ⟨.tmp t, by simpa using hx, rfl⟩)
          have e1 : netAct ops a0 x.v i = actP ops a0 x.v (fun j => decide (j < i)) ops.size := by
            rw [actP_none (p := fun j => decide (j < i)) ops.size i (by omega) (fun j h1 _ => by simp; omega)]
            exact (actP_net (p := fun j => decide (j < i)) i (fun j hj => by simp [hj])).symm
          rw [e1]
          refine actP_eval t ops.size fun j hj hd => ?_
          rcases hO.looks j t hd hlook with h | h
          · rw [hDl j h]; have := hO.dlt j h; simp [this]
          · have hlt := (hok j _ (Array.getElem?_eq_getElem hj)).dlt i h
            have : listed.getD j false = false := by
              rcases hlj : listed.getD j false with _ | _
              · rfl
              · have := hcl j hlj i h
                rw [hli] at this
                cases this
            rw [this]; simp; omega
        · exact actP_evalC y (fun t h => hxt ⟨t, h⟩) _ _
      have hsz : (netAct ops a0 x.v i).tmps.size = (actP ops a0 x.v (fun j => listed.getD j false) ops.size).tmps.size := by
        rw [actP_size, ← actP_net (p := fun _ => true) i (fun _ _ => rfl), actP_size]
      have hT := wp_transfer (Q2 := Q) hexec hsz (fun c b w' h => by cases h.1) hnl hpre
      unfold wpOp
      simp only [ho, hwant, if_true]
      refine .inl (Oper.wp_mono ?_ hT)
      rintro b w' ⟨u, rfl, hbw, hh⟩
      have hdst : o.dst = dstAt ops i := by simp [dstAt, ho]
      have hlq : ∀ j, (listed.setIfInBounds i true).getD j false = (listed.getD j false || j == i) := fun j => by
        by_cases e : i = j
        · subst e
          simp [Array.getD_eq_getD_getElem?, Array.getElem?_setIfInBounds, hls, his]
        · rw [getD_set_ne _ e]
          simp [Ne.symm e]
      rw [hdst, actP_add (v' := (x.set i u w.heap.size w'.heap.size).v) (q := fun j => (listed.setIfInBounds i true).getD j false) (fun j hj _ => by simp [Gh.set, hj]) (by simp [Gh.set]) hli hlq (fun j d hij hlj hdj hdi => by
        rcases hO.dsts j d (by omega) hdj hdi with h | h
        · have := hO.dlt j h; omega
        · have := hcl j hlj i h
          rw [hli] at this
          cases this) ops.size his]
      refine ih _ _ _ ?_ (by simpa using hls) (fun j hj => by rw [hlq, hlm j hj]; simp; omega) (fun k hk j hj => ?_) (hb.trans (hbw.mono hb.size)) (fun k hk => ?_) (fun k hk => ?_) (fun k j hk hj hkj => ?_)
      · -- the count
        have hmem : i ∈ (List.range ops.size).filter fun j => !listed.getD j false := by
          rw [List.mem_filter]; exact ⟨List.mem_range.2 his, by rw [hli]; rfl⟩
        have e : (List.range ops.size).filter (fun j => !(listed.setIfInBounds i true).getD j false) = ((List.range ops.size).filter fun j => !listed.getD j false).filter (fun j => j != i) := by
          rw [List.filter_filter]
          congr 1
          funext j
          rw [hlq]
          simp [Bool.not_or, Bool.and_comm, bne]
        have hnd : ((List.range ops.size).filter fun j => !listed.getD j false).Nodup := List.nodup_range.filter _
        rw [e]
        have := List.length_erase_of_mem hmem
        rw [hnd.erase_eq_filter, hc] at this
        simpa using this
      · rw [hlq] at hk ⊢
        simp only [Bool.or_eq_true, beq_iff_eq] at hk ⊢
        rcases hk with hk | rfl
        · exact .inl (hcl k hk j hj)
        · exact .inl (hDl j hj)
      · rw [hlq] at hk
        simp only [Bool.or_eq_true, beq_iff_eq] at hk
        unfold known
        by_cases e : k = i
        · subst e
          exact hh
        · rcases hk with hk | hk
          · refine NS.holds_congr (x := x) (fun j hj => ?_) (NS.holds_stable (hst' k) (hkn k hk) hbw)
            have hji : j ≠ i := by
              rcases hj with rfl | hj
              · exact e
              · rintro rfl
                have := hcl k hk j hj
                rw [hli] at this
                cases this
            simp [Gh.set, hji]
          · exact absurd hk e
      · rw [hlq] at hk
        simp only [Bool.or_eq_true, beq_iff_eq] at hk
        by_cases e : k = i
        · subst e
          simp only [Gh.set, if_true]
          exact ⟨hb.size, hbw.size, Nat.le_refl _⟩
        · have := hiv k (hk.resolve_right e)
          have := hbw.size
          simp only [Gh.set, if_neg e]
          omega
      · rw [hlq] at hk hj
        simp only [Bool.or_eq_true, beq_iff_eq] at hk hj
        by_cases e : k = i
        · subst e
          have := hiv j (hj.resolve_right (Ne.symm hkj))
          simp only [Gh.set, if_true, if_neg (Ne.symm hkj)]
          exact .inr (by omega)
        · by_cases e' : j = i
          · subst e'
            have := hiv k (hk.resolve_right e)
            simp only [Gh.set, if_true, if_neg e]
            exact .inl (by omega)
          · simp only [Gh.set, if_neg e, if_neg e']
            exact hdj k j (hk.resolve_right e) (hj.resolve_right e') hkj

theorem repl_getD (n j : Nat) : (Array.replicate n false).getD j false = false := by
  rw [Array.getD_eq_getD_getElem?, Array.getElem?_replicate]
  split <;> rfl
def stableAll : List NS → Prop
  | [] => True
  | s :: l => s.stable ∧ stableAll l
theorem stableAll_spec : ∀ {l : List NS}, stableAll l → ∀ s ∈ l, s.stable
  | [], _, s, hs => by simp at hs
  | a :: l, h, s, hs => by
    rcases List.mem_cons.1 hs with rfl | hs
    · exact h.1
    · exact stableAll_spec h.2 s hs
def netAll (P : Program) (ops : Array Oper) (sp : List NS) (D : List (List Nat)) (a0 : Act) (w0 : World) : Nat → List Oper → Prop
  | _, [] => True
  | i, o :: l => netDo P ops sp D a0 w0 i o ∧ netAll P ops sp D a0 w0 (i + 1) l
theorem netAll_spec {ops : Array Oper} {sp : List NS} {D : List (List Nat)} {a0 : Act} {w0 : World} : ∀ (l : List Oper) (k : Nat), netAll P ops sp D a0 w0 k l → ∀ j o, l[j]? = some o → netDo P ops sp D a0 w0 (k + j) o
  | [], _, _, _, _, h => by simp at h
  | x :: l, k, h, 0, o, hj => by
    simp at hj
    subst hj
    exact h.1
  | x :: l, k, h, j + 1, o, hj => by
    have := netAll_spec l (k + 1) h.2 j o (by simpa using hj)
    rwa [show k + 1 + j = k + (j + 1) by omega] at this
/-- a relation on the value alone -/
def rel (i : Nat) (R : Value → Nat → Nat → World → Prop) : NS := .rel fun x w => R (x.v i) (x.lo i) (x.hi i) w
theorem rel_stable {i : Nat} {R : Value → Nat → Nat → World → Prop} (h : ∀ u lo hi w w', R u lo hi w → Below w.heap.size w w' → R u lo hi w') : (rel i R).stable := fun v w w' hr hb => h _ _ _ _ _ hr hb
/-- THE LAW. -/
theorem wp_region_net {id : Nat} {l : List Oper} {w : World} (hmo : P.follows .mixedOrders = true) (sp : List NS) (D : List (List Nat)) (m : Nat) (hB : netB l.toArray D m = true) (hst : stableAll sp)
    (hdo : netAll P l.toArray sp D a0 w 0 (l.take m))
    (hend : ∀ x w', Below w.heap.size w w' → (∀ i, i < m → known sp D x i w') → (∀ i, i < m → w.heap.size ≤ x.lo i ∧ x.lo i ≤ x.hi i ∧ x.hi i ≤ w'.heap.size) → (∀ i j, i < m → j < m → i ≠ j → x.hi i ≤ x.lo j ∨ x.hi j ≤ x.lo i) → wpList P l.toArray Q (l.drop m) (netAct l.toArray a0 x.v m) w') : (Code.region id l.toArray true).wp P Q a0 w := by
  replace hst := stableAll_spec hst
  have hdo : ∀ i o, i < m → l[i]? = some o → netDo P l.toArray sp D a0 w.drew i o := fun i o hi ho => by
    have := netAll_spec (l.take m) 0 hdo i o (by rw [List.getElem?_take, if_pos hi]; exact ho)
    rw [Nat.zero_add] at this
    exact fun v w1 hb => this v w1 ⟨hb.os, hb.tape, hb.output, hb.size, hb.block⟩
  refine wp_region_any hmo ?_
  have h := net_any (w0 := w.drew) (a0 := a0) (Q := Q) (P := P) (sp := sp) hB hst (fun i o hi ho => hdo i o hi (by simpa using ho)) (fun x w' hb hk hiv hdj => by simpa using hend x w' (show Below w.heap.size w w' from ⟨hb.os, hb.tape, hb.output, hb.size, hb.block⟩) hk hiv hdj)
    l.toArray.size (Array.replicate l.toArray.size false) ⟨fun _ => undef, fun _ => 0, fun _ => 0⟩ w.drew
    (by rw [List.filter_eq_self.2 (fun j _ => by rw [repl_getD]; rfl), List.length_range])
    (by simp) (fun j _ => repl_getD _ _)
    (fun i hi => by rw [repl_getD] at hi; cases hi)
    (Below.refl _ _)
    (fun i hi => by rw [repl_getD] at hi; cases hi)
    (fun i hi => by rw [repl_getD] at hi; cases hi)
    (fun i j hi => by rw [repl_getD] at hi; cases hi)
  have e : actP l.toArray a0 (fun _ => undef) (fun j => (Array.replicate l.toArray.size false).getD j false) l.toArray.size = a0 :=
    actP_none l.toArray.size 0 (by omega) (fun j _ _ => repl_getD _ _)
  rw [e] at h
  exact h
end
end
end Go.Proofs.Ytaefpblpfjhgoaa

/- cmp.Compare, cmp.Or, compareBars. -/
namespace Go.Proofs.Ytaefpblpfjhgoaa
set_option linter.unusedVariables false
set_option linter.unusedSimpArgs false
open Go.RowKit

def cmpI (a b : Int) : Int := if a < b then -1 else if b < a then 1 else 0
def cmpB (x y : Bar) : Int := if cmpI x.1 y.1 = 0 then cmpI x.2.1 y.2.1 else cmpI x.1 y.1
/-- the first number that is not 0 -/
def orI : List Int → Int
  | [] => 0
  | x :: xs => if x = 0 then orI xs else x
end Go.Proofs.Ytaefpblpfjhgoaa

/- Numbers of one digit as text: FormatInt, digits. -/
namespace Go.Proofs.Ytaefpblpfjhgoaa
set_option linter.unusedVariables false
set_option linter.unusedSimpArgs false
open Go.RowKit

/-- a digit; numbers are brought to the range from 0 to 9 -/
def dgN (x : Int) : Int := if x < 0 then 0 else if 9 < x then 9 else x
def dgS (x : Int) : ByteArray := ⟨#[UInt8.ofNat (48 + (dgN x).toNat)]⟩
theorem dgN_r (x : Int) : 0 ≤ dgN x ∧ dgN x ≤ 9 := by unfold dgN; split; omega; split <;> omega
theorem dgN_of {n : Int} (h0 : 0 ≤ n) (h9 : n ≤ 9) : dgN n = n := by unfold dgN; rw [if_neg (by omega), if_neg (by omega)]
theorem bytes_nil (s : ByteArray) : s ++ (⟨#[]⟩ : ByteArray) = s := by
  apply ByteArray.ext
  simp
theorem dgS_size (x : Int) : (dgS x).size = 1 := rfl

theorem conv_one {x : Int} {k : Int} (hk : k = 48 + dgN x) (W : World) (g : Nat) (c : Nat) (hg : Blk W g 5 #[.int .u8 k]) :
    (convert 22 9 (.slice (some ⟨g, 0, none⟩) 1 c)).run Try.prog W = .ok (.string (dgS x)) W := by
  have h := Lib.run_convert_whole (P := Try.prog) W 22 5 9 Try.underlying22 Try.underlying5 Try.underlying9 g 0 (dgS x) (fun i hi => by
    have hi0 : i = 0 := by have := dgS_size x; omega
    subst hi0
    rw [hg.cell]
    have hr := dgN_r x
    have : ((dgS x)[0]'hi) = UInt8.ofNat (48 + (dgN x).toNat) := rfl
    rw [this, hk]
    have e : ((UInt8.ofNat (48 + (dgN x).toNat)).toNat : Int) = 48 + dgN x := by
      rw [UInt8.toNat_ofNat']
      omega
    rw [e]
    rfl) c
  rw [dgS_size] at h
  exact h

set_option maxHeartbeats 800000 in
theorem formatInt_any (n : Int) (w : World) (h0 : 0 ≤ n) (h9 : n ≤ 9) :
    Calls Try.prog 99 #[.int .i64 n] w fun e w' => e = .returned (.string (dgS n)) ∧ Below w.heap.size w w' := by
  by_cases hz : n = 0
  · subst hz
    go_enter Try.func99, Try.ntmps99
    go_wp2
    go_ret
    exact ⟨rfl, Below.refl _ _⟩
  · have hb : (n == 0) = false := by simpa using hz
    have hne : (n != 0) = true := by simpa using hz
    have hneg : ¬ n < 0 := by omega
    have hd : decide (n < 0) = false := by simp; omega
    have hc := fun W : World => conv_one (x := n) (k := 48 + n) (by rw [dgN_of h0 h9]) (W.alloc (.cells #[.int .u8 (48 + n)] 5)) W.heap.size 1 (Blk.new _ _ _)
    have hw8 : IntKind.u8.wrap (48 + n) = 48 + n := by
      have : n = 1 ∨ n = 2 ∨ n = 3 ∨ n = 4 ∨ n = 5 ∨ n = 6 ∨ n = 7 ∨ n = 8 ∨ n = 9 := by omega
      rcases this with rfl | rfl | rfl | rfl | rfl | rfl | rfl | rfl | rfl <;> decide
    have e1 : n % 10 = n := by omega
    have e2 : n / 10 = 0 := by omega
    have HN := bytes_nil (dgS n)
    have hsz : (dgS n).size ≤ 17592186044416 := by rw [dgS_size]; omega
    clear hz
    go_enter Try.func99, Try.ntmps99
    go_wp2
    refine wp_loop_rounds 2 ?_
    rw [rounds_succ]
    go_wp2
    rw [rounds_succ]
    go_wp2
    go_ret
    exact ⟨rfl, below_alloc _ _⟩

end Go.Proofs.Ytaefpblpfjhgoaa

/- Searches in lists of ints: the library's Index, Contains, IndexFunc, ContainsFunc at []int; the program's allWithin, sumOf. -/
namespace Go.Proofs.Ytaefpblpfjhgoaa
set_option linter.unusedVariables false
set_option linter.unusedSimpArgs false
open Go.RowKit

/-- The first place at which p holds, or -1. -/
def fidx (p : Int → Bool) (l : List Int) : Int := if l.findIdx p < l.length then (l.findIdx p : Int) else -1
theorem fidx_none {p : Int → Bool} {l : List Int} (h : ∀ x ∈ l, p x = false) : fidx p l = -1 := by
  unfold fidx
  rw [if_neg]
  intro hlt
  have h1 := List.findIdx_getElem (w := hlt)
  have h2 := h _ (List.getElem_mem hlt)
  rw [h1] at h2
  cases h2
theorem fidx_some {p : Int → Bool} {l : List Int} {k : Nat} {x : Int} (hx : l[k]? = some x) (hp : p x = true) (hb : ∀ y ∈ l.take k, p y = false) : fidx p l = k := by
  have hk := lt_of_some hx
  have hxk : l[k] = x := by rw [List.getElem?_eq_getElem hk] at hx; injection hx
  have e : l.findIdx p = k := by
    rw [List.findIdx_eq hk]
    refine ⟨by rw [hxk]; exact hp, fun j hj => ?_⟩
    have := hb l[j] (by rw [List.mem_take_iff_getElem]; exact ⟨j, by omega, rfl⟩)
    simp [this]
  unfold fidx
  rw [e, if_pos hk]
theorem fidx_any (p : Int → Bool) (l : List Int) : decide (0 ≤ fidx p l) = l.any p := by
  unfold fidx
  by_cases h : l.findIdx p < l.length
  · rw [if_pos h]
    have h1 := List.findIdx_getElem (w := h)
    have : l.any p = true := List.any_eq_true.2 ⟨_, List.getElem_mem h, h1⟩
    rw [this]
    simp
  · rw [if_neg h]
    have : l.any p = false := by
      rw [List.any_eq_false]
      intro x hx hpx
      exact h (List.findIdx_lt_length_of_exists ⟨x, hx, hpx⟩)
    rw [this]
    simp

set_option maxHeartbeats 400000 in
theorem index_any (u : Value) (xs : List Int) (v : Int) (w : World) (hu : SlI w w.heap.size u xs) :
    Calls Try.prog 95 #[u, .int .i64 v] w fun e w' => e = .returned (.int .i64 (fidx (fun x => v == x) xs)) ∧ w' = w := by
  obtain ⟨A, c, rfl, _, _, hn, hx⟩ := hu.open_
  clear hu
  go_enter Try.func95, Try.ntmps95
  go_wp2
  go_loop [8] (fun i => ∃ k : Nat, k ≤ xs.length ∧ i = .int .i64 k ∧ Hid (∀ y ∈ xs.take k, (v == y) = false)) (fun i => xs.length - (intOf i).toNat)
  case atStart => exact ⟨0, Nat.zero_le _, rfl, by intro y hy; simp at hy⟩
  case round =>
    obtain ⟨k, hk, rfl, hno⟩ := hrel
    by_cases hlt : k < xs.length
    · obtain ⟨b, o, x, rfl, hb, HX, c1, _⟩ := SlI.at_ hx hlt
      clear hx
      rcases hvx : (v == x) with _ | _
      · go_wp2
        go_round
        case rel =>
          refine ⟨k + 1, by omega, by go_num, fun y hy => ?_⟩
          rw [take_snoc HX.out, List.mem_append, List.mem_singleton] at hy
          rcases hy with hy | rfl
          · exact hno.out y hy
          · exact hvx
        case measure => simp [intOf]; omega
      · have hfin := Lib.hid (fidx_some HX.out hvx hno.out)
        go_wp2
        go_ret
        exact ⟨by rw [hfin.out]; rfl, rfl⟩
    · go_wp2
      go_ret
      have h1 := hno.out
      rw [List.take_of_length_le (by omega)] at h1
      exact ⟨by rw [fidx_none h1]; rfl, rfl⟩

theorem contains_any (u : Value) (xs : List Int) (v : Int) (w : World) (hu : SlI w w.heap.size u xs) :
    Calls Try.prog 77 #[u, .int .i64 v] w fun e w' => e = .returned (.bool (decide (v ∈ xs))) ∧ w' = w := by
  have hd : decide (v ∈ xs) = decide (0 ≤ fidx (fun x => v == x) xs) := by
    rw [fidx_any, Bool.eq_iff_iff]
    simp
  have HC := index_any u xs v w hu
  rw [hd]
  generalize fidx (fun x => v == x) xs = r at *
  clear hd
  have HC := Lib.hid HC
  by_cases h : 0 ≤ r
  · have e : decide (0 ≤ r) = true := by simpa using h
    rw [e]
    go_enter Try.func77, Try.ntmps77
    go_wp2_with fail
    refine (unhide HC).mono ?_; rintro e w' ⟨rfl, rfl⟩
    go_wp2
    go_ret
    exact ⟨rfl, rfl⟩
  · have e : decide (0 ≤ r) = false := by simpa using h
    rw [e]
    go_enter Try.func77, Try.ntmps77
    go_wp2_with fail
    refine (unhide HC).mono ?_; rintro e w' ⟨rfl, rfl⟩
    go_wp2
    go_ret
    exact ⟨rfl, rfl⟩

set_option maxHeartbeats 400000 in
/-- IndexFunc at a closure of two captured variables, of which the contract is known in every world that is as this one was. -/
theorem indexFunc_any (p1 p2 : Value) (p : Int → Bool) (u : Value) (xs : List Int) (w : World) (hu : SlI w w.heap.size u xs)
    (hF : ∀ (W : World) (x : Int), Below w.heap.size w W → Calls Try.prog 88 #[.int .i64 x, p1, p2] W fun e w' => e = .returned (.bool (p x)) ∧ Below W.heap.size W w') :
    Calls Try.prog 97 #[u, .func (Fn.func 88) #[] #[p1, p2]] w fun e w' => e = .returned (.int .i64 (fidx p xs)) ∧ Below w.heap.size w w' := by
  obtain ⟨A, c, rfl, _, _, hn, hx⟩ := hu.open_
  clear hu
  have HF := Lib.hid hF
  clear hF
  go_enter Try.func97, Try.ntmps97
  go_wp2
  go_loopw [8] (fun i wr => ∃ k : Nat, k ≤ xs.length ∧ i = .int .i64 k ∧ Below w.heap.size w wr ∧ Hid (∀ y ∈ xs.take k, p y = false)) (fun i _ => xs.length - (intOf i).toNat)
  case atStart => exact ⟨0, Nat.zero_le _, rfl, Below.refl _ _, by intro y hy; simp at hy⟩
  case round =>
    obtain ⟨k, hk, rfl, hbel, hno⟩ := hrel
    by_cases hlt : k < xs.length
    · obtain ⟨b, o, x, rfl, hb, HX, c1, _⟩ := SlI.at_ hx hlt
      have d1 := bcell hbel hb c1
      clear hx c1
      have HC := HF.out wr x hbel
      obtain ⟨B, hB⟩ : ∃ B, p x = B := ⟨_, rfl⟩
      rw [hB] at HC
      have HC := Lib.hid HC
      have HB := Lib.hid hB
      clear hB
      cases B
      · go_wp2_with fail
        refine (unhide HC).mono ?_; rintro e w1 ⟨rfl, hb1⟩
        go_wp2
        go_roundw
        case rel =>
          refine ⟨k + 1, by omega, by go_num, hbel.trans (hb1.mono hbel.size), fun y hy => ?_⟩
          rw [take_snoc HX.out, List.mem_append, List.mem_singleton] at hy
          rcases hy with hy | rfl
          · exact hno.out y hy
          · exact HB.out
        case measure => simp [intOf]; omega
      · have hfin := Lib.hid (fidx_some HX.out HB.out hno.out)
        go_wp2_with fail
        refine (unhide HC).mono ?_; rintro e w1 ⟨rfl, hb1⟩
        go_wp2
        go_ret
        exact ⟨by rw [hfin.out]; rfl, hbel.trans (hb1.mono hbel.size)⟩
    · go_wp2
      go_ret
      have h1 := hno.out
      rw [List.take_of_length_le (by omega)] at h1
      exact ⟨by rw [fidx_none h1]; rfl, hbel⟩

theorem containsFunc_any (p1 p2 : Value) (p : Int → Bool) (u : Value) (xs : List Int) (w : World) (hu : SlI w w.heap.size u xs)
    (hF : ∀ (W : World) (x : Int), Below w.heap.size w W → Calls Try.prog 88 #[.int .i64 x, p1, p2] W fun e w' => e = .returned (.bool (p x)) ∧ Below W.heap.size W w') :
    Calls Try.prog 87 #[u, .func (Fn.func 88) #[] #[p1, p2]] w fun e w' => e = .returned (.bool (xs.any p)) ∧ Below w.heap.size w w' := by
  have hd := fidx_any p xs
  have HC := indexFunc_any p1 p2 p u xs w hu hF
  rw [← hd]
  generalize fidx p xs = r at *
  clear hd hF
  have HC := Lib.hid HC
  by_cases h : 0 ≤ r
  · have e : decide (0 ≤ r) = true := by simpa using h
    rw [e]
    go_enter Try.func87, Try.ntmps87
    go_wp2_with fail
    refine (unhide HC).mono ?_; rintro e w1 ⟨rfl, hb1⟩
    go_wp2
    go_ret
    exact ⟨rfl, hb1⟩
  · have e : decide (0 ≤ r) = false := by simpa using h
    rw [e]
    go_enter Try.func87, Try.ntmps87
    go_wp2_with fail
    refine (unhide HC).mono ?_; rintro e w1 ⟨rfl, hb1⟩
    go_wp2
    go_ret
    exact ⟨rfl, hb1⟩

/-- the closure of allWithin -/
theorem allWithin1_any (g1 g2 : Nat) (lo hi x : Int) (W : World) (h1 : W.cell? ⟨g1, 0, none⟩ = some (.int .i64 lo)) (h2 : W.cell? ⟨g2, 0, none⟩ = some (.int .i64 hi)) :
    Calls Try.prog 88 #[.int .i64 x, .pointer (some ⟨g1, 0, none⟩), .pointer (some ⟨g2, 0, none⟩)] W fun e w' => e = .returned (.bool (!inR x lo hi)) ∧ Below W.heap.size W w' := by
  go_enter Try.func88, Try.ntmps88
  go_wp2_with fail
  refine (within_any _ _ _ _).mono ?_; rintro e w' ⟨rfl, rfl⟩
  go_wp2
  go_ret
  exact ⟨rfl, Below.refl _ _⟩

/-- Whether all numbers of a list lie in a range. -/
def allR (l : List Int) (lo hi : Int) : Bool := l.all fun x => inR x lo hi
theorem allR_t {l : List Int} {lo hi : Int} : allR l lo hi = true ↔ ∀ x ∈ l, lo ≤ x ∧ x ≤ hi := by simp [allR, inR]
theorem allWithin_any (u : Value) (xs : List Int) (lo hi : Int) (w : World) (hu : SlI w w.heap.size u xs) :
    Calls Try.prog 69 #[u, .int .i64 lo, .int .i64 hi] w fun e w' => e = .returned (.bool (allR xs lo hi)) ∧ Below w.heap.size w w' := by
  obtain ⟨W, hW⟩ : ∃ W, W = (w.alloc (.cells #[.int .i64 lo] 3)).alloc (.cells #[.int .i64 hi] 3) := ⟨_, rfl⟩
  have g0 : Below w.heap.size w W := by rw [hW]; exact ((Below.refl _ _).alloc (Nat.le_refl _) _).alloc (by simp) _
  have k1 : Blk W w.heap.size 3 #[.int .i64 lo] := by rw [hW]; exact (Blk.new _ _ _).alloc _
  have k2 : Blk W (w.heap.size + 1) 3 #[.int .i64 hi] := by
    rw [hW]
    have := Blk.new (w.alloc (.cells #[.int .i64 lo] 3)) 3 #[.int .i64 hi]
    simpa only [World.size_alloc] using this
  have HC := containsFunc_any (.pointer (some ⟨w.heap.size, 0, none⟩)) (.pointer (some ⟨w.heap.size + 1, 0, none⟩)) (fun x => !inR x lo hi) u xs W (SlI.next g0 hu) (fun W' x hb =>
    allWithin1_any _ _ lo hi x W' ((k1.below hb k1.lt).cell' (i := 0) rfl) ((k2.below hb k2.lt).cell' (i := 0) rfl))
  have e : allR xs lo hi = !(xs.any fun x => !inR x lo hi) := by simp [allR, List.any_eq_not_all_not]
  rw [e]
  generalize (xs.any fun x => !inR x lo hi) = B at *
  obtain ⟨A, c, rfl, _, _, _, _⟩ := hu.open_
  clear hu e k1 k2
  have HC := Lib.hid HC
  have hmf : ∀ (fn : Fn) (first cap : Array Value) (w : World), (Instr.makeFunc fn first cap).run Try.prog w = .ok (.func fn first cap) w := fun _ _ _ _ => rfl
  go_enter Try.func69, Try.ntmps69
  go_wp2_with fail
  rw [← hW]
  refine (unhide HC).mono ?_; rintro e w1 ⟨rfl, hb1⟩
  go_wp2
  go_ret
  exact ⟨rfl, bthen g0 hb1⟩

/-- sums that wrap -/
def sumW (l : List Int) : Int := l.foldl (fun s x => wrap64 (s + x)) 0
theorem sumW_snoc (l : List Int) (x : Int) : sumW (l ++ [x]) = wrap64 (sumW l + x) := by simp [sumW]
theorem foldW (lo hi : Int) (h0 : lo ≤ 0) (h1 : 0 ≤ hi) : ∀ (l : List Int) (acc : Int) (m : Nat), (∀ x ∈ l, lo ≤ x ∧ x ≤ hi) → lo * m ≤ acc → acc ≤ hi * m → hi * ((m + l.length : Nat) : Int) ≤ 9223372036854775807 → -9223372036854775808 ≤ lo * ((m + l.length : Nat) : Int) →
    l.foldl (fun s x => wrap64 (s + x)) acc = acc + l.sum ∧ lo * ((m + l.length : Nat) : Int) ≤ acc + l.sum ∧ acc + l.sum ≤ hi * ((m + l.length : Nat) : Int)
  | [], acc, m, _, ha, hb, _, _ => by simp; exact ⟨ha, hb⟩
  | x :: l, acc, m, hl, ha, hb, hc, hd => by
    obtain ⟨hx1, hx2⟩ := hl x (by simp)
    have e : ((m + (x :: l).length : Nat) : Int) = (((m + 1) + l.length : Nat) : Int) := by simp; omega
    rw [e] at hc hd ⊢
    have m1 : lo * ((m + 1 : Nat) : Int) = lo * m + lo := by rw [Int.natCast_add, Int.mul_add]; simp
    have m2 : hi * ((m + 1 : Nat) : Int) = hi * m + hi := by rw [Int.natCast_add, Int.mul_add]; simp
    have n1 : lo * (((m + 1) + l.length : Nat) : Int) ≤ lo * ((m + 1 : Nat) : Int) := Int.mul_le_mul_of_nonpos_left h0 (by omega)
    have n2 : hi * ((m + 1 : Nat) : Int) ≤ hi * (((m + 1) + l.length : Nat) : Int) := Int.mul_le_mul_of_nonneg_left (by omega) h1
    have hw : wrap64 (acc + x) = acc + x := IntWalk.wrap64_in _ ⟨by omega, by omega⟩
    have ih := foldW lo hi h0 h1 l (acc + x) (m + 1) (fun y hy => hl y (by simp [hy])) (by omega) (by omega) hc hd
    rw [List.foldl_cons, hw, List.sum_cons]
    rw [← Int.add_assoc]
    exact ih
theorem sumW_small (l : List Int) (lo hi : Int) (h0 : lo ≤ 0) (h1 : 0 ≤ hi) (hl : ∀ x ∈ l, lo ≤ x ∧ x ≤ hi) (hb : hi * l.length ≤ 9223372036854775807) (hb' : -9223372036854775808 ≤ lo * l.length) : sumW l = l.sum ∧ lo * l.length ≤ l.sum ∧ l.sum ≤ hi * l.length := by
  have := foldW lo hi h0 h1 l 0 0 hl (by simp) (by simp) (by simpa using hb) (by simpa using hb')
  simpa [sumW] using this
set_option maxHeartbeats 400000 in
theorem sumOf_any (u : Value) (xs : List Int) (w : World) (hu : SlI w w.heap.size u xs) :
    Calls Try.prog 76 #[u] w fun e w' => e = .returned (.int .i64 (sumW xs)) ∧ w' = w := by
  obtain ⟨A, c, rfl, _, _, hn, hx⟩ := hu.open_
  clear hu
  go_enter Try.func76, Try.ntmps76
  go_wp2
  go_loop [3, 8] (fun s i => ∃ k : Nat, k ≤ xs.length ∧ i = .int .i64 k ∧ s = .int .i64 (sumW (xs.take k))) (fun _ i => xs.length - (intOf i).toNat)
  case atStart => exact ⟨0, Nat.zero_le _, rfl, rfl⟩
  case round =>
    obtain ⟨k, hk, rfl, rfl⟩ := hrel
    by_cases hlt : k < xs.length
    · obtain ⟨b, o, x, rfl, hb, HX, c1, _⟩ := SlI.at_ hx hlt
      clear hx
      have HS := Lib.hid (show sumW (xs.take (k + 1)) = wrap64 (sumW (xs.take k) + x) by rw [take_snoc HX.out, sumW_snoc])
      generalize sumW (xs.take k) = s at *
      go_wp2
      go_round
      case rel => exact ⟨k + 1, by omega, by go_num, by rw [HS.out]⟩
      case measure => simp [intOf]; omega
    · go_wp2
      go_ret
      exact ⟨by rw [List.take_of_length_le (by omega)]; rfl, rfl⟩
end Go.Proofs.Ytaefpblpfjhgoaa

/- The two IsQuiver. -/
namespace Go.Proofs.Ytaefpblpfjhgoaa
set_option linter.unusedVariables false
set_option linter.unusedSimpArgs false
open Go.RowKit

/-- A valid quiver. -/
def isQ (q : Qv) : Bool := inR q.v 1 5 && decide (q.f.length = q.t.length) && decide (q.f.length ≤ 6) && allR q.f 0 (q.v - 1) && allR q.t 0 (q.v - 1)

theorem isQ_t {q : Qv} : isQ q = true ↔ (1 ≤ q.v ∧ q.v ≤ 5) ∧ q.f.length = q.t.length ∧ q.f.length ≤ 6 ∧ (∀ x ∈ q.f, 0 ≤ x ∧ x ≤ q.v - 1) ∧ (∀ x ∈ q.t, 0 ≤ x ∧ x ≤ q.v - 1) := by
  simp only [isQ, Bool.and_eq_true, inR_t, allR_t, decide_eq_true_eq, and_assoc]

set_option maxHeartbeats 800000 in
theorem implIsQuiver_any (u : Value) (q : Qv) (w : World) (hu : QvR w w.heap.size u q) :
    Calls Try.prog 68 #[u] w fun e w' => e = .returned (.bool (isQ q)) ∧ Below w.heap.size w w' := by
  obtain ⟨A, c, C, d, rfl, hf, ht, hr, lf, lt⟩ := hu.open_
  clear hu
  obtain ⟨W, hW⟩ : ∃ W, W = w.alloc (.cells #[.int .i64 q.v, .slice A q.f.length c, .slice C q.t.length d] 26) := ⟨_, rfl⟩
  have g0 : Below w.heap.size w W := by rw [hW]; exact below_alloc _ _
  have kB : Blk W w.heap.size 26 #[.int .i64 q.v, .slice A q.f.length c, .slice C q.t.length d] := by rw [hW]; exact Blk.new _ _ _
  have c0 := kB.cell' (i := 0) rfl
  have c1 := kB.cell' (i := 1) rfl
  have c2 := kB.cell' (i := 2) rfl
  unfold isQ
  rcases h1 : inR q.v 1 5 with _ | _
  · go_enter Try.func68, Try.ntmps68
    go_wp2_with fail
    rw [← hW]; clear hW
    refine (within_any _ _ _ _).mono ?_; rintro e w' ⟨rfl, rfl⟩
    rw [h1]
    go_wp2
    go_ret
    exact ⟨rfl, g0⟩
  have hb := inR_t.1 h1
  obtain ⟨hb1, hb2⟩ := hb
  by_cases h2 : q.f.length = q.t.length
  · have e2 : ((q.f.length : Int) == q.t.length) = true := by rw [beq_iff_eq]; omega
    by_cases h3 : q.f.length ≤ 6
    · have e3 : decide (q.f.length ≤ 6) = true := by simpa using h3
      have e2' : decide (q.f.length = q.t.length) = true := by simpa using h2
      rw [e2', e3]
      clear h2 e2' e3
      obtain ⟨B1, hB1⟩ : ∃ B, allR q.f 0 (q.v - 1) = B := ⟨_, rfl⟩
      obtain ⟨B2, hB2⟩ : ∃ B, allR q.t 0 (q.v - 1) = B := ⟨_, rfl⟩
      rw [hB1, hB2]
      have HB1 := Lib.hid hB1
      have HB2 := Lib.hid hB2
      clear hB1 hB2
      cases B1
      · go_enter Try.func68, Try.ntmps68
        go_wp2_with fail
        rw [← hW]; clear hW
        refine (within_any _ _ _ _).mono ?_; rintro e w' ⟨rfl, rfl⟩
        rw [h1]
        go_wp2_with fail
        refine (allWithin_any _ q.f _ _ _ (SlI.next g0 hf)).mono ?_; rintro e w1 ⟨rfl, hb1⟩
        rw [HB1.out]
        go_wp2
        go_ret
        exact ⟨rfl, bthen g0 hb1⟩
      · go_enter Try.func68, Try.ntmps68
        go_wp2_with fail
        rw [← hW]; clear hW
        refine (within_any _ _ _ _).mono ?_; rintro e w' ⟨rfl, rfl⟩
        rw [h1]
        go_wp2_with fail
        refine (allWithin_any _ q.f _ _ _ (SlI.next g0 hf)).mono ?_; rintro e w1 ⟨rfl, hb1⟩
        rw [HB1.out]
        have d0 := (kB.call hb1).cell' (i := 0) rfl
        have d2 := (kB.call hb1).cell' (i := 2) rfl
        have g1 := bthen g0 hb1
        clear c0 c1 c2
        go_wp2_with fail
        refine (allWithin_any _ q.t _ _ _ (SlI.next g1 ht)).mono ?_; rintro e w2 ⟨rfl, hb2⟩
        rw [HB2.out]
        go_wp2
        go_ret
        exact ⟨rfl, bthen g1 hb2⟩
    · have e3 : decide (q.f.length ≤ 6) = false := by simpa using h3
      rw [e3]
      have e3' : ¬ ((q.f.length : Int) ≤ 6) := by omega
      clear h2
      simp only [Bool.and_false, Bool.false_and]
      go_enter Try.func68, Try.ntmps68
      go_wp2_with fail
      rw [← hW]; clear hW
      refine (within_any _ _ _ _).mono ?_; rintro e w' ⟨rfl, rfl⟩
      rw [h1]
      go_wp2
      go_ret
      exact ⟨rfl, g0⟩
  · have e2 : ((q.f.length : Int) == q.t.length) = false := by rw [beq_eq_false_iff_ne]; omega
    have e2' : decide (q.f.length = q.t.length) = false := by simpa using h2
    rw [e2']
    simp only [Bool.and_false, Bool.false_and]
    go_enter Try.func68, Try.ntmps68
    go_wp2_with fail
    rw [← hW]; clear hW
    refine (within_any _ _ _ _).mono ?_; rintro e w' ⟨rfl, rfl⟩
    rw [h1]
    go_wp2
    go_ret
    exact ⟨rfl, g0⟩

/-- what the reference's loop has met -/
def okTo (q : Qv) (k : Nat) : Prop := (∀ x ∈ q.f.take k, inR x 0 (wrap64 (q.v - 1)) = true) ∧ ∀ x ∈ q.t.take k, inR x 0 (wrap64 (q.v - 1)) = true
theorem isQ_bad {q : Qv} {x : Int} (hx : x ∈ q.f ∨ x ∈ q.t) (hr : inR x 0 (wrap64 (q.v - 1)) = false) : isQ q = false := by
  by_cases h : isQ q = true
  · obtain ⟨hv, _, _, hf, ht⟩ := isQ_t.1 h
    have e : wrap64 (q.v - 1) = q.v - 1 := IntWalk.wrap64_in _ ⟨by omega, by omega⟩
    rw [e, inR_f] at hr
    rcases hx with hx | hx
    · exact absurd (hf x hx) hr
    · exact absurd (ht x hx) hr
  · simpa using h
theorem isQ_end {q : Qv} {k : Nat} (h : okTo q k) (hk : ¬ (k < q.f.length ∧ k < q.t.length)) : isQ q = (inR q.v 1 5 && decide (q.f.length ≤ 6) && decide (q.t.length = q.f.length)) := by
  rw [Bool.eq_iff_iff, isQ_t]
  simp only [Bool.and_eq_true, inR_t, decide_eq_true_eq]
  constructor
  · rintro ⟨h1, h2, h3, _⟩
    exact ⟨⟨h1, h3⟩, h2.symm⟩
  · rintro ⟨⟨h1, h3⟩, h2⟩
    have e : wrap64 (q.v - 1) = q.v - 1 := IntWalk.wrap64_in _ ⟨by omega, by omega⟩
    unfold okTo at h
    rw [e, List.take_of_length_le (by omega), List.take_of_length_le (by omega)] at h
    exact ⟨h1, h2.symm, h3, fun x hx => inR_t.1 (h.1 x hx), fun x hx => inR_t.1 (h.2 x hx)⟩
theorem okTo_step {q : Qv} {k : Nat} {x y : Int} (h : okTo q k) (hx : q.f[k]? = some x) (hy : q.t[k]? = some y) (h1 : inR x 0 (wrap64 (q.v - 1)) = true) (h2 : inR y 0 (wrap64 (q.v - 1)) = true) : okTo q (k + 1) := by
  refine ⟨fun z hz => ?_, fun z hz => ?_⟩
  · rw [take_snoc hx, List.mem_append, List.mem_singleton] at hz
    rcases hz with hz | rfl
    · exact h.1 z hz
    · exact h1
  · rw [take_snoc hy, List.mem_append, List.mem_singleton] at hz
    rcases hz with hz | rfl
    · exact h.2 z hz
    · exact h2

set_option maxHeartbeats 1600000 in
theorem specIsQuiver_any (u : Value) (q : Qv) (w : World) (hu : QvR w w.heap.size u q) :
    Calls Try.prog 70 #[u] w fun e w' => e = .returned (.bool (isQ q)) ∧ Below w.heap.size w w' := by
  obtain ⟨A, c, C, d, rfl, hf, ht, hr, lf, lt⟩ := hu.open_
  clear hu
  have g0 : Below w.heap.size w (w.alloc (.cells #[.int .i64 q.v, .slice A q.f.length c, .slice C q.t.length d] 26)) := below_alloc _ _
  have kB := Blk.new w 26 #[.int .i64 q.v, .slice A q.f.length c, .slice C q.t.length d]
  go_enter Try.func70, Try.ntmps70
  go_wp2
  go_loopw [3] (fun i wr => ∃ k : Nat, k ≤ q.f.length ∧ i = .int .i64 k ∧ Below w.heap.size w wr ∧ Blk wr w.heap.size 26 #[.int .i64 q.v, .slice A q.f.length c, .slice C q.t.length d] ∧ Hid (okTo q k)) (fun i _ => q.f.length - (intOf i).toNat)
  case atStart => exact ⟨0, Nat.zero_le _, rfl, g0, kB, by intro x hx; simp at hx, by intro x hx; simp at hx⟩
  case round =>
    clear g0 kB
    obtain ⟨k, hk, rfl, hbel, kB, hok⟩ := hrel
    have c0 := kB.cell' (i := 0) rfl
    have c1 := kB.cell' (i := 1) rfl
    have c2 := kB.cell' (i := 2) rfl
    by_cases hlt : k < q.f.length ∧ k < q.t.length
    · obtain ⟨hlt1, hlt2⟩ := hlt
      obtain ⟨b, o, x, rfl, hb, HX, x1, _⟩ := SlI.at_ hf hlt1
      obtain ⟨b', o', y, rfl, hb', HY, y1, _⟩ := SlI.at_ ht hlt2
      have s := hbel.size
      have d0 := InB.cell kB.lt c0
      have d1 := InB.cell kB.lt c1
      have d2 := InB.cell kB.lt c2
      have d3 := InB.cell (by omega) (bcell hbel hb x1)
      have d4 := InB.cell (by omega) (bcell hbel hb' y1)
      obtain ⟨u, hU⟩ : ∃ u, wrap64 (q.v - 1) = u := ⟨_, rfl⟩
      have HU := Lib.hid hU
      clear x1 y1 hf ht c0
      rcases hB1 : inR x 0 u with _ | _
      · have hfin := Lib.hid (isQ_bad (q := q) (.inl (List.mem_of_getElem? HX.out)) (by rw [HU.out]; exact hB1))
        go_wp2
        (refine wp_region_inB (by kernel_rfl) (by kernel_rfl) ?_; (repeat (go_big_quiet_step ((go_at_call 38; exact InB.call_same (l1In_any _ _ _ _))))); refine wpQuiet_nil ?_; intro w1 hw'; obtain ⟨s1, hw1⟩ := hw'; have hb1 := s1.below; rw [← hw1] at hb1; clear hw1 s1)
        go_wp2
        go_ret
        exact ⟨by rw [hfin.out]; rfl, hbel.trans (hb1.mono s)⟩
      · rcases hB2 : inR y 0 u with _ | _
        · have hfin := Lib.hid (isQ_bad (q := q) (.inr (List.mem_of_getElem? HY.out)) (by rw [HU.out]; exact hB2))
          go_wp2
          (refine wp_region_inB (by kernel_rfl) (by kernel_rfl) ?_; (repeat (go_big_quiet_step ((go_at_call 38; exact InB.call_same (l1In_any _ _ _ _))))); refine wpQuiet_nil ?_; intro w1 hw'; obtain ⟨s1, hw1⟩ := hw'; have hb1 := s1.below; rw [← hw1] at hb1; clear hw1 s1)
          go_wp2
          go_ret
          exact ⟨by rw [hfin.out]; rfl, hbel.trans (hb1.mono s)⟩
        · go_wp2
          (refine wp_region_inB (by kernel_rfl) (by kernel_rfl) ?_; (repeat (go_big_quiet_step ((go_at_call 38; exact InB.call_same (l1In_any _ _ _ _))))); refine wpQuiet_nil ?_; intro w1 hw'; obtain ⟨s1, hw1⟩ := hw'; have hb1 := s1.below; rw [← hw1] at hb1; clear hw1 s1)
          go_wp2
          go_roundw
          case rel => exact ⟨k + 1, by omega, by go_num, hbel.trans (hb1.mono s), kB.call hb1, okTo_step hok.out HX.out HY.out (by rw [HU.out]; exact hB1) (by rw [HU.out]; exact hB2)⟩
          case measure => simp [intOf]; omega
    · have hE := isQ_end hok.out hlt
      have hx : k < q.f.length → ¬ k < q.t.length := fun a b => hlt ⟨a, b⟩
      clear hlt hf ht
      rcases hB1 : inR q.v 1 5 with _ | _
      · rw [hB1] at hE
        have hfin := Lib.hid hE
        clear hE
        by_cases ha : k < q.f.length
        all_goals
          first | have hb := hx ha | skip
          clear hx
          go_wp2_with (go_at_call 38; refine (l1In_any _ _ _ _).mono ?_; rintro e w' ⟨rfl, rfl⟩; rw [hB1])
          go_ret
          exact ⟨by rw [hfin.out]; rfl, hbel⟩
      · rw [hB1] at hE
        by_cases h6 : q.f.length ≤ 6
        · by_cases hl : q.t.length = q.f.length
          · have hfin : Hid (isQ q = true) := by show _ = _; rw [hE]; simp [h6, hl]
            have he : ((q.t.length : Int) == q.f.length) = true := by rw [beq_iff_eq]; omega
            have h6' : (q.f.length : Int) ≤ 6 := by omega
            clear hE hl
            by_cases ha : k < q.f.length
            all_goals
              first | have hb := hx ha | skip
              clear hx
              go_wp2_with (go_at_call 38; refine (l1In_any _ _ _ _).mono ?_; rintro e w' ⟨rfl, rfl⟩; rw [hB1])
              go_ret
              exact ⟨by rw [hfin.out]; rfl, hbel⟩
          · have hfin : Hid (isQ q = false) := by show _ = _; rw [hE]; simp [hl]
            have he : ((q.t.length : Int) == q.f.length) = false := by rw [beq_eq_false_iff_ne]; omega
            have h6' : (q.f.length : Int) ≤ 6 := by omega
            clear hE hl
            by_cases ha : k < q.f.length
            all_goals
              first | have hb := hx ha | skip
              clear hx
              go_wp2_with (go_at_call 38; refine (l1In_any _ _ _ _).mono ?_; rintro e w' ⟨rfl, rfl⟩; rw [hB1])
              go_ret
              exact ⟨by rw [hfin.out]; rfl, hbel⟩
        · have hfin : Hid (isQ q = false) := by show _ = _; rw [hE]; simp [h6]
          have h6' : ¬ ((q.f.length : Int) ≤ 6) := by omega
          clear hE h6
          by_cases ha : k < q.f.length
          all_goals
            first | have hb := hx ha | skip
            clear hx
            go_wp2_with (go_at_call 38; refine (l1In_any _ _ _ _).mono ?_; rintro e w' ⟨rfl, rfl⟩; rw [hB1])
            go_ret
            exact ⟨by rw [hfin.out]; rfl, hbel⟩
end Go.Proofs.Ytaefpblpfjhgoaa

/- Rows of rows of the call's own: reading and writing one number; matrices told by a function. -/
namespace Go.Proofs.Ytaefpblpfjhgoaa
set_option linter.unusedVariables false
set_option linter.unusedSimpArgs false
open Go.RowKit

/-- a matrix told by a function -/
def rowF (V : Nat) (g : Nat → Int) : List Int := (List.range V).map g
def matF (V : Nat) (g : Nat → Nat → Int) : List (List Int) := (List.range V).map fun a => rowF V (g a)
theorem rowF_length (V : Nat) (g : Nat → Int) : (rowF V g).length = V := by simp [rowF]
theorem matF_length (V : Nat) (g : Nat → Nat → Int) : (matF V g).length = V := by simp [matF]
theorem rowF_get {V j : Nat} (g : Nat → Int) (h : j < V) : (rowF V g)[j]? = some (g j) := by simp [rowF, h]
theorem matF_get {V j : Nat} (g : Nat → Nat → Int) (h : j < V) : (matF V g)[j]? = some (rowF V (g j)) := by simp [matF, h]
theorem rowF_getD {V j : Nat} (g : Nat → Int) (h : j < V) : (rowF V g).getD j 0 = g j := by rw [List.getD_eq_getElem?_getD, rowF_get g h]; rfl
theorem rowF_congr {V : Nat} {g h : Nat → Int} (e : ∀ a, a < V → g a = h a) : rowF V g = rowF V h := by
  apply List.ext_getElem?
  intro i
  by_cases hi : i < V
  · rw [rowF_get g hi, rowF_get h hi, e i hi]
  · rw [List.getElem?_eq_none (by rw [rowF_length]; omega), List.getElem?_eq_none (by rw [rowF_length]; omega)]
theorem matF_congr {V : Nat} {g h : Nat → Nat → Int} (e : ∀ a b, a < V → b < V → g a b = h a b) : matF V g = matF V h := by
  apply List.ext_getElem?
  intro i
  by_cases hi : i < V
  · rw [matF_get g hi, matF_get h hi, rowF_congr (fun b hb => e i b hi hb)]
  · rw [List.getElem?_eq_none (by rw [matF_length]; omega), List.getElem?_eq_none (by rw [matF_length]; omega)]
theorem rowF_set {V j : Nat} (g : Nat → Int) (x : Int) : (rowF V g).set j x = rowF V fun b => if b = j then x else g b := by
  apply List.ext_getElem?
  intro i
  rw [List.getElem?_set, rowF_length]
  by_cases hi : i < V
  · rw [rowF_get (fun b => if b = j then x else g b) hi]
    by_cases e : j = i
    · rw [if_pos e, if_pos (by omega), if_pos e.symm]
    · rw [if_neg e, rowF_get _ hi, if_neg (fun h => e h.symm)]
  · rw [List.getElem?_eq_none (l := rowF V fun b => if b = j then x else g b) (by rw [rowF_length]; omega)]
    split
    · rw [if_neg (by omega)]
    · rw [List.getElem?_eq_none (by rw [rowF_length]; omega)]
theorem matF_set {V j : Nat} (g : Nat → Nat → Int) (h : Nat → Int) : (matF V g).set j (rowF V h) = matF V fun a b => if a = j then h b else g a b := by
  apply List.ext_getElem?
  intro i
  rw [List.getElem?_set, matF_length]
  by_cases hi : i < V
  · rw [matF_get (fun a b => if a = j then h b else g a b) hi]
    by_cases e : j = i
    · subst e
      rw [if_pos rfl, if_pos hi]
      simp
    · rw [if_neg e, matF_get _ hi]
      congr 1
      apply rowF_congr
      intro b _
      rw [if_neg (fun h => e h.symm)]
  · rw [List.getElem?_eq_none (l := matF V fun a b => if a = j then h b else g a b) (by rw [matF_length]; omega)]
    split
    · rw [if_neg (by omega)]
    · rw [List.getElem?_eq_none (by rw [matF_length]; omega)]

/-- A row of a row of rows. -/
theorem OutO.cellS {w : World} {lo hi g n c j : Nat} {vs : List Value} {v : Value} (ho : OutO w lo hi (.slice (some ⟨g, 0, none⟩) n c) vs) (hv : vs[j]? = some v) : w.cell? ⟨g, j, none⟩ = some v := by
  have hj := lt_of_some hv
  have hn : n = vs.length := by
    rcases ho.1.2 with ⟨e, _⟩ | ⟨g', cap', cur, e, _⟩
    · cases e
    · injection e with _ e _
  subst hn
  have hc := ho.1.cellAt j (by omega)
  rw [hc, hv]
theorem OutO.frozenS {w : World} {lo hi g n c : Nat} {vs : List Value} (ho : OutO w lo hi (.slice (some ⟨g, 0, none⟩) n c) vs) (j : Nat) : w.frozen? ⟨g, j, none⟩ = false := by
  have hn : n = vs.length := by
    rcases ho.1.2 with ⟨e, _⟩ | ⟨g', cap', cur, e, _⟩
    · cases e
    · injection e with _ e _
  subst hn
  exact ho.1.frozenAt j
theorem Fam.rowAt {w : World} {lo hi j : Nat} {vs : List Value} {ll : List (List Int)} {l : List Int} (hF : Fam w lo hi (vs.zip ll)) (hvl : vs.length = ll.length) (hl : ll[j]? = some l) (hne : 0 < l.length) :
    ∃ g c, vs[j]? = some (.slice (some ⟨g, 0, none⟩) l.length c) ∧ OwnI w lo (.slice (some ⟨g, 0, none⟩) l.length c) l ∧ l.length ≤ c ∧ c ≤ 9223372036854775807 ∧ lo ≤ g ∧ g < hi := by
  have hj := lt_of_some hl
  have hv : vs[j]? = some (vs[j]'(by omega)) := List.getElem?_eq_getElem (by omega)
  have h := hF.1 (vs[j]'(by omega), l) (by rw [zip_split hv hl]; simp)
  rcases h.1.1.2 with ⟨e, h0⟩ | ⟨g, cap, cur, e, hg, _, hnc, hcm, _⟩
  · simp only at h0
    omega
  · simp only at e
    refine ⟨g, cap, by rw [hv, e], by rw [← e]; exact h.1, hnc, by simp only [maxLen] at hcm; omega, hg, h.2 g (by simp [e, Value.ownBlock])⟩
theorem zip_set {vs : List Value} {ll : List (List Int)} {j : Nat} {v : Value} {l l' : List Int} (hv : vs[j]? = some v) (hl : ll[j]? = some l) : vs.zip (ll.set j l') = (vs.take j).zip (ll.take j) ++ (v, l') :: (vs.drop (j + 1)).zip (ll.drop (j + 1)) := by
  have hj := lt_of_some hl
  rw [zip_split hv (l := l') (by rw [List.getElem?_set, if_pos rfl, if_pos hj]), List.take_set_of_le (Nat.le_refl j), List.drop_set_of_lt (by omega)]
/-- One number turned. -/
theorem Fam.putAt {w : World} {lo hi j i g c : Nat} {vs : List Value} {ll : List (List Int)} {l : List Int} {x : Int} (hF : Fam w lo hi (vs.zip ll)) (hv : vs[j]? = some (.slice (some ⟨g, 0, none⟩) l.length c)) (hl : ll[j]? = some l)
    (ho : OwnI w lo (.slice (some ⟨g, 0, none⟩) l.length c) l) (hx : I64 x) : Fam (w.setCell ⟨g, i, none⟩ (.int .i64 x)) lo hi (vs.zip (ll.set j (l.set i x))) := by
  rw [zip_set hv hl]
  rw [zip_split hv hl] at hF
  have hp := ho.put (j := i) hx
  exact hF.turn hp.1 hp.2
end Go.Proofs.Ytaefpblpfjhgoaa

/- Number vectors of quivers: areNumbers, l18Vector, hasVertex, l21Loop. -/
namespace Go.Proofs.Ytaefpblpfjhgoaa
set_option linter.unusedVariables false
set_option linter.unusedSimpArgs false
open Go.RowKit

def isNum (q : Qv) (x : List Int) : Bool := isQ q && decide ((x.length : Int) = q.v) && allR x (-100) 100
theorem isNum_t {q : Qv} {x : List Int} : isNum q x = true ↔ isQ q = true ∧ (x.length : Int) = q.v ∧ ∀ y ∈ x, -100 ≤ y ∧ y ≤ 100 := by
  simp only [isNum, Bool.and_eq_true, decide_eq_true_eq, allR_t, and_assoc]

set_option maxHeartbeats 400000 in
theorem areNumbers_any (u xv : Value) (q : Qv) (xs : List Int) (w : World) (hu : QvR w w.heap.size u q) (hx : SlI w w.heap.size xv xs) :
    Calls Try.prog 33 #[u, xv] w fun e w' => e = .returned (.bool (isNum q xs)) ∧ Below w.heap.size w w' := by
  have hu' := hu
  obtain ⟨A, c, C, d, rfl, hf, hT, hr, lf, lt⟩ := hu.open_
  have hx' := hx
  obtain ⟨XA, xc, rfl, _, _, lx, _⟩ := hx.open_
  clear hu hx hf hT
  obtain ⟨W, hW⟩ : ∃ W, W = w.alloc (.cells #[.int .i64 q.v, .slice A q.f.length c, .slice C q.t.length d] 26) := ⟨_, rfl⟩
  have g0 : Below w.heap.size w W := by rw [hW]; exact below_alloc _ _
  have kB : Blk W w.heap.size 26 #[.int .i64 q.v, .slice A q.f.length c, .slice C q.t.length d] := by rw [hW]; exact Blk.new _ _ _
  have c0 := kB.cell' (i := 0) rfl
  have c1 := kB.cell' (i := 1) rfl
  have c2 := kB.cell' (i := 2) rfl
  have h0 := QvR.next g0 hu'
  have hx0 := SlI.next g0 hx'
  clear hu' hx'
  rcases hq : isQ q with _ | _
  · have hfin : Hid (isNum q xs = false) := by show _ = _; simp [isNum, hq]
    go_enter Try.func33, Try.ntmps33
    go_wp2_with fail
    rw [← hW]; clear hW
    refine (implIsQuiver_any _ _ _ h0).mono ?_; rintro e w1 ⟨rfl, hb1⟩
    rw [hq]
    go_wp2
    go_ret
    exact ⟨by rw [hfin.out]; rfl, bthen g0 hb1⟩
  by_cases hl : (xs.length : Int) = q.v
  · have hl' : ((xs.length : Int) == q.v) = true := by rw [beq_iff_eq]; exact hl
    obtain ⟨B, hB⟩ : ∃ B, allR xs (-100) 100 = B := ⟨_, rfl⟩
    have hfin : Hid (isNum q xs = B) := by show _ = _; simp [isNum, hq, hl, hB]
    have HB := Lib.hid hB
    clear hl hB
    cases B
    all_goals
      go_enter Try.func33, Try.ntmps33
      go_wp2_with fail
      rw [← hW]; clear hW
      refine (implIsQuiver_any _ _ _ h0).mono ?_; rintro e w1 ⟨rfl, hb1⟩
      rw [hq]
      have d0 := (kB.call hb1).cell' (i := 0) rfl
      clear c0 c1 c2
      have hx1 := SlI.next hb1 hx0
      go_wp2_with fail
      refine (allWithin_any _ xs _ _ _ hx1).mono ?_; rintro e w2 ⟨rfl, hb2⟩
      rw [HB.out]
      go_wp2
      go_ret
      exact ⟨by rw [hfin.out]; rfl, bthen (bthen g0 hb1) hb2⟩
  · have hl' : ((xs.length : Int) == q.v) = false := by rw [beq_eq_false_iff_ne]; exact hl
    have hfin : Hid (isNum q xs = false) := by show _ = _; simp [isNum, hl]
    clear hl
    go_enter Try.func33, Try.ntmps33
    go_wp2_with fail
    rw [← hW]; clear hW
    refine (implIsQuiver_any _ _ _ h0).mono ?_; rintro e w1 ⟨rfl, hb1⟩
    rw [hq]
    have d0 := (kB.call hb1).cell' (i := 0) rfl
    clear c0 c1 c2
    go_wp2
    go_ret
    exact ⟨by rw [hfin.out]; rfl, bthen g0 hb1⟩

set_option maxHeartbeats 800000 in
theorem l18Vector_any (u xv : Value) (q : Qv) (xs : List Int) (w : World) (hu : QvR w w.heap.size u q) (hx : SlI w w.heap.size xv xs) :
    Calls Try.prog 37 #[u, xv] w fun e w' => e = .returned (.bool (isNum q xs)) ∧ Below w.heap.size w w' := by
  have hu' := hu
  obtain ⟨A, c, C, d, rfl, hf, hT, hr, lf, lt⟩ := hu.open_
  obtain ⟨XA, xc, rfl, _, _, lx, hx'⟩ := hx.open_
  clear hu hx hf hT
  have g0 : Below w.heap.size w (w.alloc (.cells #[.int .i64 q.v, .slice A q.f.length c, .slice C q.t.length d] 26)) := below_alloc _ _
  have kB := Blk.new w 26 #[.int .i64 q.v, .slice A q.f.length c, .slice C q.t.length d]
  go_enter Try.func37, Try.ntmps37
  go_wp2
  go_loopw [5] (fun i wr => ∃ k : Nat, k ≤ xs.length ∧ i = .int .i64 k ∧ Below w.heap.size w wr ∧ Blk wr w.heap.size 26 #[.int .i64 q.v, .slice A q.f.length c, .slice C q.t.length d] ∧ Hid (∀ y ∈ xs.take k, inR y (-100) 100 = true)) (fun i _ => xs.length - (intOf i).toNat)
  case atStart => exact ⟨0, Nat.zero_le _, rfl, g0, kB, by intro y hy; simp at hy⟩
  case round =>
    clear g0 kB
    obtain ⟨k, hk, rfl, hbel, hkB, hok⟩ := hrel
    have e0 := hkB.cell' (i := 0) rfl
    have e1 := hkB.cell' (i := 1) rfl
    have e2 := hkB.cell' (i := 2) rfl
    by_cases hlt : k < xs.length
    · obtain ⟨b, o, x, rfl, hb, HX, x1, _⟩ := SlI.at_ hx' hlt
      have x2 := bcell hbel hb x1
      clear x1
      rcases hB1 : inR x (-100) 100 with _ | _
      · have hfin : Hid (isNum q xs = false) := by
          show _ = _
          have : allR xs (-100) 100 = false := by
            rw [allR, List.all_eq_false]
            exact ⟨x, List.mem_of_getElem? HX.out, by simp [hB1]⟩
          simp [isNum, this]
        go_wp2_with fail
        refine (l1In_any _ _ _ _).mono ?_; rintro e w9 ⟨rfl, rfl⟩
        rw [hB1]
        go_wp2
        go_ret
        exact ⟨by rw [hfin.out]; rfl, hbel⟩
      · have hst : Hid (∀ y ∈ xs.take (k + 1), inR y (-100) 100 = true) := by
          intro y hy
          rw [take_snoc HX.out, List.mem_append, List.mem_singleton] at hy
          rcases hy with hy | rfl
          · exact hok.out y hy
          · exact hB1
        go_wp2_with fail
        refine (l1In_any _ _ _ _).mono ?_; rintro e w9 ⟨rfl, rfl⟩
        rw [hB1]
        go_wp2
        go_roundw
        case rel => exact ⟨k + 1, by omega, by go_num, hbel, hkB, hst.out⟩
        case measure => simp [intOf]; omega
    · have hrq := QvR.more (B' := wr.heap.size) (by have := hbel.size; omega) (QvR.below hbel hu')
      have hall : allR xs (-100) 100 = true := by
        have h := hok.out
        rw [List.take_of_length_le (by omega)] at h
        exact List.all_eq_true.2 h
      rcases hq : isQ q with _ | _
      · have hfin : Hid (isNum q xs = false) := by show _ = _; simp [isNum, hq]
        clear hall
        go_wp2_with fail
        refine (specIsQuiver_any _ _ _ hrq).mono ?_; rintro e w1 ⟨rfl, hb1⟩
        rw [hq]
        go_wp2
        go_ret
        exact ⟨by rw [hfin.out]; rfl, hbel.trans (hb1.mono hbel.size)⟩
      · obtain ⟨B, hB⟩ : ∃ B, ((xs.length : Int) == q.v) = B := ⟨_, rfl⟩
        have hfin : Hid (isNum q xs = B) := by show _ = _; rw [← hB, isNum, hq, hall, Bool.and_true, Bool.true_and, Bool.eq_iff_iff, decide_eq_true_eq, beq_iff_eq]
        clear hall
        go_wp2_with fail
        refine (specIsQuiver_any _ _ _ hrq).mono ?_; rintro e w1 ⟨rfl, hb1⟩
        rw [hq]
        have f0 := (hkB.call hb1).cell' (i := 0) rfl
        clear e0 e1 e2
        cases B
        all_goals
          go_wp2
          go_ret
          exact ⟨by rw [hfin.out]; rfl, hbel.trans (hb1.mono hbel.size)⟩

theorem hasVertex_any (u : Value) (q : Qv) (v : Int) (w : World) (hu : QvR w w.heap.size u q) (hv : 1 ≤ q.v ∧ q.v ≤ 5) :
    Calls Try.prog 34 #[u, .int .i64 v] w fun e w' => e = .returned (.bool (inR v 0 (q.v - 1))) ∧ Below w.heap.size w w' := by
  obtain ⟨A, c, C, d, rfl, hf, hT, hr, lf, lt⟩ := hu.open_
  obtain ⟨hv1, hv2⟩ := hv
  have g0 := below_alloc w (.cells #[.int .i64 q.v, .slice A q.f.length c, .slice C q.t.length d] 26)
  go_enter Try.func34, Try.ntmps34
  go_wp2_with fail
  refine (within_any _ _ _ _).mono ?_; rintro e w' ⟨rfl, rfl⟩
  go_wp2
  go_ret
  exact ⟨rfl, g0⟩

/-- whether an arrow leads from v to v -/
def loopQ (q : Qv) (v : Int) : Bool := (q.f.zip q.t).any fun p => p.1 == v && p.2 == v
theorem loopQ_yes {q : Qv} {v x y : Int} {k : Nat} (hx : q.f[k]? = some x) (hy : q.t[k]? = some y) (h1 : (x == v) = true) (h2 : (y == v) = true) : loopQ q v = true := by
  rw [loopQ, List.any_eq_true]
  refine ⟨(x, y), ?_, by simp [h1, h2]⟩
  rw [List.mem_iff_getElem?]
  exact ⟨k, by rw [List.getElem?_zip_eq_some]; exact ⟨hx, hy⟩⟩
theorem loopQ_no {q : Qv} {v : Int} (h : ∀ (j : Nat) (x y : Int), q.f[j]? = some x → q.t[j]? = some y → (x == v && y == v) = false) : loopQ q v = false := by
  rw [loopQ, List.any_eq_false]
  rintro ⟨x, y⟩ hp
  rw [List.mem_iff_getElem?] at hp
  obtain ⟨j, hj⟩ := hp
  rw [List.getElem?_zip_eq_some] at hj
  simp [h j x y hj.1 hj.2]

set_option maxHeartbeats 400000 in
theorem l21Loop_any (u : Value) (q : Qv) (v : Int) (w : World) (hu : QvR w w.heap.size u q) (hl : q.f.length = q.t.length) :
    Calls Try.prog 39 #[u, .int .i64 v] w fun e w' => e = .returned (.bool (loopQ q v)) ∧ Below w.heap.size w w' := by
  obtain ⟨A, c, C, d, rfl, hf, hT, hr, lf, lt⟩ := hu.open_
  clear hu
  have HL := Lib.hid hl
  clear hl
  have g0 : Below w.heap.size w (w.alloc (.cells #[.int .i64 q.v, .slice A q.f.length c, .slice C q.t.length d] 26)) := below_alloc _ _
  have kB := Blk.new w 26 #[.int .i64 q.v, .slice A q.f.length c, .slice C q.t.length d]
  go_enter Try.func39, Try.ntmps39
  go_wp2
  go_loopw [5] (fun i wr => ∃ k n : Nat, k ≤ q.f.length ∧ i = .int .i64 k ∧ wr = (w.alloc (.cells #[.int .i64 q.v, .slice A q.f.length c, .slice C q.t.length d] 26)).drewN n ∧ Hid (∀ (j : Nat) (x y : Int), j < k → q.f[j]? = some x → q.t[j]? = some y → (x == v && y == v) = false)) (fun i _ => q.f.length - (intOf i).toNat)
  case atStart => exact ⟨0, 0, Nat.zero_le _, rfl, rfl, fun j x y h => absurd h (by omega)⟩
  case round =>
    obtain ⟨k, n, hk, rfl, hwr, hok⟩ := hrel
    have hbel : Below w.heap.size w wr := by rw [hwr]; exact below_drewN g0 n
    have hkB : Blk wr w.heap.size 26 #[.int .i64 q.v, .slice A q.f.length c, .slice C q.t.length d] := by rw [hwr]; exact kB.drewN n
    have HW := Lib.hid hwr
    have e1 := hkB.cell' (i := 1) rfl
    have e2 := hkB.cell' (i := 2) rfl
    clear hwr
    by_cases hlt : k < q.f.length
    · have hlt' : k < q.t.length := by have := HL.out; omega
      obtain ⟨b, o, x, rfl, hb, HX, x1, _⟩ := SlI.at_ hf hlt
      obtain ⟨b2, o2, y, rfl, hb2, HY, y1, _⟩ := SlI.at_ hT hlt'
      have x2 := bcell hbel hb x1
      have y2 := bcell hbel hb2 y1
      clear x1 y1 hf hT
      rcases hxv : (x == v) with _ | _
      · have hst : Hid (∀ (j : Nat) (x y : Int), j < k + 1 → q.f[j]? = some x → q.t[j]? = some y → (x == v && y == v) = false) := by
          intro j x' y' hj h1 h2
          by_cases e : j = k
          · subst e
            rw [HX.out] at h1
            injection h1 with h1
            rw [← h1, hxv]; rfl
          · exact hok.out j x' y' (by omega) h1 h2
        go_wp2
        go_roundw
        case rel => exact ⟨k + 1, n, by omega, by go_num, HW.out, hst.out⟩
        case measure => simp [intOf]; omega
      · rcases hyv : (y == v) with _ | _
        · have hst : Hid (∀ (j : Nat) (x y : Int), j < k + 1 → q.f[j]? = some x → q.t[j]? = some y → (x == v && y == v) = false) := by
            intro j x' y' hj h1 h2
            by_cases e : j = k
            · subst e
              rw [HY.out] at h2
              injection h2 with h2
              rw [← h2, hyv, Bool.and_false]
            · exact hok.out j x' y' (by omega) h1 h2
          go_wp2
          go_roundw
          case rel => exact ⟨k + 1, n, by omega, by go_num, HW.out, hst.out⟩
          case measure => simp [intOf]; omega
        · have hfin : Hid (loopQ q v = true) := loopQ_yes HX.out HY.out hxv hyv
          go_wp2
          go_ret
          exact ⟨by rw [hfin.out]; rfl, hbel⟩
    · have hfin : Hid (loopQ q v = false) := loopQ_no fun j x y h1 h2 => hok.out j x y (by have := lt_of_some h1; omega) h1 h2
      go_wp2
      go_ret
      exact ⟨by rw [hfin.out]; rfl, hbel⟩
end Go.Proofs.Ytaefpblpfjhgoaa

/- The symmetric form of a quiver. -/
namespace Go.Proofs.Ytaefpblpfjhgoaa
set_option linter.unusedVariables false
set_option linter.unusedSimpArgs false
open Go.RowKit

/-- arrows from a to b among the first k -/
def arr (q : Qv) (a b k : Nat) : Nat := ((q.f.zip q.t).take k).countP fun p => p.1 == (a : Int) && p.2 == (b : Int)
def ent (q : Qv) (k a b : Nat) : Int := (if a = b then 2 else 0) - arr q a b k - arr q b a k
def symM (q : Qv) : List (List Int) := matF q.v.toNat (ent q q.f.length)
theorem arr_le (q : Qv) (a b k : Nat) : arr q a b k ≤ q.f.length := by
  refine Nat.le_trans List.countP_le_length ?_
  simp; omega
theorem arr_zero (q : Qv) (a b : Nat) : arr q a b 0 = 0 := by simp [arr]
theorem arr_succ {q : Qv} {k a b x y : Nat} (hx : q.f[k]? = some (x : Int)) (hy : q.t[k]? = some (y : Int)) : arr q a b (k + 1) = arr q a b k + if x = a ∧ y = b then 1 else 0 := by
  have e : (q.f.zip q.t)[k]? = some ((x : Int), (y : Int)) := by rw [List.getElem?_zip_eq_some]; exact ⟨hx, hy⟩
  rw [arr, take_snoc e, List.countP_append, arr]
  congr 1
  rw [List.countP_singleton]
  by_cases h : x = a ∧ y = b
  · rw [if_pos h, if_pos (by simp [h.1, h.2])]
  · rw [if_neg h, if_neg]
    simp only [Bool.and_eq_true, beq_iff_eq]
    omega
theorem ent_rng (q : Qv) (k a b : Nat) (h : q.f.length ≤ 6) : -12 ≤ ent q k a b ∧ ent q k a b ≤ 2 := by
  have h1 := arr_le q a b k
  have h2 := arr_le q b a k
  unfold ent
  split <;> omega
theorem ent_zero (q : Qv) (a b : Nat) : ent q 0 a b = if a = b then 2 else 0 := by simp [ent, arr_zero]
theorem ent_succ {q : Qv} {k x y : Nat} (hx : q.f[k]? = some (x : Int)) (hy : q.t[k]? = some (y : Int)) (a b : Nat) : ent q (k + 1) a b = ent q k a b - (if a = x ∧ b = y then 1 else 0) - (if a = y ∧ b = x then 1 else 0) := by
  rw [ent, arr_succ hx hy, arr_succ hx hy, ent]
  by_cases h1 : x = a ∧ y = b
  · rw [if_pos h1, if_pos (c := a = x ∧ b = y) ⟨h1.1.symm, h1.2.symm⟩]
    by_cases h2 : x = b ∧ y = a
    · rw [if_pos h2, if_pos (c := a = y ∧ b = x) ⟨h2.2.symm, h2.1.symm⟩]; split <;> omega
    · rw [if_neg h2, if_neg (c := a = y ∧ b = x) (fun h => h2 ⟨h.2.symm, h.1.symm⟩)]; split <;> omega
  · rw [if_neg h1, if_neg (c := a = x ∧ b = y) (fun h => h1 ⟨h.1.symm, h.2.symm⟩)]
    by_cases h2 : x = b ∧ y = a
    · rw [if_pos h2, if_pos (c := a = y ∧ b = x) ⟨h2.2.symm, h2.1.symm⟩]; split <;> omega
    · rw [if_neg h2, if_neg (c := a = y ∧ b = x) (fun h => h2 ⟨h.2.symm, h.1.symm⟩)]; split <;> omega

theorem OwnI.newBlk {w : World} {base N : Nat} {cs : Array Value} {l : List Int} (hb : base ≤ w.heap.size) (hN : N ≤ 17592186044416) (hl : l.length = N) (hc : cs.toList = l.map (Value.int .i64)) (hr : ∀ x ∈ l, I64 x) : OwnI (w.alloc (.cells cs 3)) base (.slice (some ⟨w.heap.size, 0, none⟩) N N) l := by
  have hs : cs.size = N := by rw [← Array.length_toList, hc, List.length_map, hl]
  have h := (Blk.new w 3 cs).own (base := base) (n := N) (cap := N) (size := 1) hb (Nat.le_refl _) (by simp only [maxLen]; omega) (by omega)
  rw [hc, List.take_of_length_le (by simp; omega)] at h
  exact ⟨by rw [hl]; exact h, by omega, hr⟩
theorem Fam.far {w : World} {lo hi : Nat} {L : List (Value × List Int)} (h : Fam w lo hi L) {p : Addr} (hp : hi ≤ p.block) (u : Value) : Fam (w.setCell p u) lo hi L :=
  ⟨fun x hx => ⟨(h.1 x hx).1.setCell (fun e => by have := (h.1 x hx).2 _ e; omega) u, (h.1 x hx).2⟩, h.2⟩

theorem matF_dec {V : Nat} (g : Nat → Nat → Int) (x y : Nat) : (matF V g).set x ((rowF V (g x)).set y (g x y - 1)) = matF V fun a b => g a b - if a = x ∧ b = y then 1 else 0 := by
  rw [rowF_set, matF_set]
  apply matF_congr
  intro a b _ _
  by_cases e : a = x
  · subst e
    rw [if_pos rfl]
    by_cases e2 : b = y
    · subst e2
      rw [if_pos rfl, if_pos ⟨rfl, rfl⟩]
    · rw [if_neg e2, if_neg (fun h => e2 h.2)]; omega
  · rw [if_neg e, if_neg (fun h => e h.1)]; omega

set_option maxHeartbeats 1600000 in
theorem symmetric_any (u : Value) (q : Qv) (w : World) (hu : QvR w w.heap.size u q) (hq : isQ q = true) :
    Calls Try.prog 35 #[u] w fun e w' => ∃ v, e = .returned v ∧ IntssO w' w.heap.size w'.heap.size v (symM q) ∧ Below w.heap.size w w' := by
  obtain ⟨qv, qf, qt⟩ := q
  obtain ⟨A, c, C, d, rfl, hf, hT, hr, lf, lt⟩ := hu.open_
  clear hu
  obtain ⟨⟨hv1, hv2⟩, hlen, hl6, hfr, htr⟩ := isQ_t.1 hq
  dsimp only at *
  obtain ⟨V, rfl⟩ : ∃ V : Nat, qv = V := ⟨qv.toNat, by omega⟩
  have hV5 : V ≤ 5 := by omega
  have HLE := Lib.hid hlen
  have HR := Lib.hid (And.intro hfr htr)
  clear hlen hfr htr
  obtain ⟨i0, hi, hz0, hz1, hz2⟩ := info_parts infoInts
  have hmk := run_mk (P := Try.prog) Try.underlying53 hi hz0 (n := V) (by rw [hz2]; omega) (by omega)
  rw [hz1] at hmk
  clear hi hz0 hz1 hz2
  obtain ⟨i1, hi, hz0, hz1, hz2⟩ := info_parts infoInt
  have hmk1 := run_mk (P := Try.prog) Try.underlying24 hi hz0 (n := V) (by rw [hz2]; omega) (by omega)
  rw [hz1] at hmk1
  clear hi hz0 hz1 hz2
  obtain ⟨W, hW⟩ : ∃ W, W = (w.alloc (.cells #[.int .i64 V, .slice A qf.length c, .slice C qt.length d] 26)).alloc (.cells (mkCells (.slice none 0 0) V) 24) := ⟨_, rfl⟩
  have g0 : Below w.heap.size w W := by rw [hW]; exact ((Below.refl _ _).alloc (Nat.le_refl _) _).alloc (by simp) _
  have kB : Blk W w.heap.size 26 #[.int .i64 V, .slice A qf.length c, .slice C qt.length d] := by rw [hW]; exact (Blk.new _ _ _).alloc _
  have kO : Blk W (w.heap.size + 1) 24 (mkCells (.slice none 0 0) V) := by
    rw [hW]
    have := Blk.new (w.alloc (.cells #[.int .i64 V, .slice A qf.length c, .slice C qt.length d] 26)) 24 (mkCells (.slice none 0 0) V)
    simpa only [World.size_alloc] using this
  have zW : w.heap.size + 1 < W.heap.size := kO.lt
  go_enter Try.func35, Try.ntmps35
  go_wp2
  rw [← hW]; clear hW hmk
  go_loopw [12] (fun i wr => ∃ (cs : Array Value) (vs : List Value), vs.length ≤ V ∧ i = .int .i64 vs.length ∧ Below w.heap.size w wr ∧ Blk wr w.heap.size 26 #[.int .i64 V, .slice A qf.length c, .slice C qt.length d] ∧ Blk wr (w.heap.size + 1) 24 cs ∧ OutCs cs V vs ∧ Fam wr w.heap.size wr.heap.size (vs.zip ((matF V (ent ⟨V, qf, qt⟩ 0)).take vs.length))) (fun i _ => V - (intOf i).toNat)
  case atStart => exact ⟨_, [], Nat.zero_le _, rfl, g0, kB, kO, ⟨by simp [mkCells_size], by simp, fun j v h => by simp at h⟩, ⟨fun p hp => by simp at hp, by simp⟩⟩
  case round =>
    clear g0 kB kO zW
    obtain ⟨cs, vs, hk, rfl, hbel, hkB, hblk, hcs, hF⟩ := hrel
    have e0 := hkB.cell' (i := 0) rfl
    have e1 := hkB.cell' (i := 1) rfl
    have e2 := hkB.cell' (i := 2) rfl
    have hsz := hbel.size
    by_cases hlt : vs.length < V
    · have hgo := hblk.lt
      have hvs5 : vs.length ≤ 5 := by omega
      have hO := hblk.set_ vs.length (.slice (some ⟨wr.heap.size, 0, none⟩) V V)
      have hO1 := hO.alloc (.cells (mkCells (.int .i64 0) V) 3)
      have hQ1 := (hkB.far (p := ⟨w.heap.size + 1, vs.length, none⟩) (by simp) (.slice (some ⟨wr.heap.size, 0, none⟩) V V)).alloc (.cells (mkCells (.int .i64 0) V) 3)
      have f0 := hblk.frozen vs.length
      obtain ⟨v0, c0⟩ : ∃ v0, wr.cell? ⟨w.heap.size + 1, vs.length, none⟩ = some v0 := by rw [hblk.cell]; have := hcs.1; exact ⟨_, Array.getElem?_eq_getElem (by omega)⟩
      have cS := hO1.cell' (i := vs.length) (v := .slice (some ⟨wr.heap.size, 0, none⟩) V V) (by have := hcs.1; simp [Array.getElem?_setIfInBounds]; omega)
      have k0 := hQ1.cell' (i := 0) rfl
      have hv1 := OwnI.made0 (w := wr.setCell ⟨w.heap.size + 1, vs.length, none⟩ (.slice (some ⟨wr.heap.size, 0, none⟩) V V)) (base := wr.heap.size) (N := V) (by simp) (by omega)
      have zs : (wr.setCell ⟨w.heap.size + 1, vs.length, none⟩ (.slice (some ⟨wr.heap.size, 0, none⟩) V V)).heap.size = wr.heap.size := by simp
      rw [zs] at hv1
      have ZS := Lib.hid zs
      clear zs
      have c3 := (hv1.cellG (j := vs.length) (by simpa using hlt)).1
      have f3 := hv1.frozenG vs.length
      rw [show (List.replicate V (0 : Int)).getD vs.length 0 = 0 by rw [List.getD_eq_getElem?_getD, List.getElem?_replicate, if_pos hlt]; rfl] at c3
      have hv3 : OwnI ((wr.setCell ⟨w.heap.size + 1, vs.length, none⟩ (.slice (some ⟨wr.heap.size, 0, none⟩) V V)).alloc (.cells ((mkCells (.int .i64 0) V).setIfInBounds vs.length (.int .i64 2)) 3)) wr.heap.size (.slice (some ⟨wr.heap.size, 0, none⟩) V V) ((List.replicate V (0 : Int)).set vs.length 2) := by
        have h := OwnI.newBlk (w := wr.setCell ⟨w.heap.size + 1, vs.length, none⟩ (.slice (some ⟨wr.heap.size, 0, none⟩) V V)) (base := wr.heap.size) (N := V) (cs := (mkCells (.int .i64 0) V).setIfInBounds vs.length (.int .i64 2)) (l := (List.replicate V (0 : Int)).set vs.length 2) (by simp) (by omega) (by simp) (by
          rw [Array.toList_setIfInBounds, show (mkCells (.int .i64 0) V).toList = List.replicate V (.int .i64 0) from toList_madeCells_one _ _, List.map_set, List.map_replicate]) (fun x hx => by
          rcases List.mem_or_eq_of_mem_set hx with hx | rfl
          · obtain ⟨_, rfl⟩ := List.mem_replicate.1 hx
            exact ⟨by decide, by decide⟩
          · exact ⟨by decide, by decide⟩)
        rw [ZS.out] at h
        exact h
      have hF2 := (hF.setBlk (i := vs.length) hblk (by decide) (.slice (some ⟨wr.heap.size, 0, none⟩) V V)).below (below_alloc _ (.cells ((mkCells (.int .i64 0) V).setIfInBounds vs.length (.int .i64 2)) 3))
      have hQ3 := (hkB.far (p := ⟨w.heap.size + 1, vs.length, none⟩) (by simp) (.slice (some ⟨wr.heap.size, 0, none⟩) V V)).alloc (.cells ((mkCells (.int .i64 0) V).setIfInBounds vs.length (.int .i64 2)) 3)
      have hO3 := hO.alloc (.cells ((mkCells (.int .i64 0) V).setIfInBounds vs.length (.int .i64 2)) 3)
      have hrow : (List.replicate V (0 : Int)).set vs.length 2 = rowF V (ent ⟨V, qf, qt⟩ 0 vs.length) := by
        rw [show List.replicate V (0 : Int) = rowF V (fun _ => 0) from by rw [rowF, List.map_const', List.length_range], rowF_set]
        apply rowF_congr
        intro b _
        rw [ent_zero]
        by_cases e : b = vs.length
        · rw [if_pos e, if_pos e.symm]
        · rw [if_neg e, if_neg (fun h => e h.symm)]
      rw [hrow] at hv3
      have hF3 := hF2.snoc (hi := wr.heap.size + 1) ⟨hv3, fun k hk => by simp [Value.ownBlock] at hk; omega⟩ hsz (by omega)
      have hzip : vs.zip ((matF V (ent ⟨V, qf, qt⟩ 0)).take vs.length) ++ [(Value.slice (some ⟨wr.heap.size, 0, none⟩) V V, rowF V (ent ⟨V, qf, qt⟩ 0 vs.length))] = (vs ++ [Value.slice (some ⟨wr.heap.size, 0, none⟩) V V]).zip ((matF V (ent ⟨V, qf, qt⟩ 0)).take (vs ++ [Value.slice (some ⟨wr.heap.size, 0, none⟩) V V]).length) := by
        rw [List.length_append, List.length_singleton, take_snoc (matF_get _ hlt), List.zip_append (by simp [matF_length]; omega)]
        rfl
      rw [hzip] at hF3
      have HF3 := Lib.hid hF3
      clear hF hF2 hF3 hzip hrow hv1 hv2 hv3
      go_wp2
      go_roundw
      case rel => exact ⟨_, vs ++ [.slice (some ⟨wr.heap.size, 0, none⟩) V V], by simp; omega, by simp, (hbel.setCell (by simp) _).alloc (by simpa using hsz) _, hQ3, hO3, hcs.step hlt, by simpa using HF3.out⟩
      case measure => simp [intOf]; omega
    · have hvV : vs.length = V := by omega
      have ho : OutO wr w.heap.size wr.heap.size (.slice (some ⟨w.heap.size + 1, 0, none⟩) V V) vs := by
        have h1 := hcs
        rw [← hvV] at h1 ⊢
        exact h1.own hblk (by omega) (by omega)
      have hF0 : Fam wr w.heap.size wr.heap.size (vs.zip (matF V (ent ⟨V, qf, qt⟩ 0))) := by
        rwa [List.take_of_length_le (by rw [matF_length]; omega)] at hF
      have HVV := Lib.hid hvV
      have hbel0 := hbel
      have hkB0 := hkB
      go_wp2
      clear hvV hF hcs hblk hlt hbel hkB e0 e1 e2 hmk1
      have hmo : Try.prog.follows .mixedOrders = true := by kernel_rfl
      go_loopw [31] (fun i wr => ∃ k : Nat, k ≤ qf.length ∧ i = .int .i64 k ∧ Below w.heap.size w wr ∧ Blk wr w.heap.size 26 #[.int .i64 V, .slice A qf.length c, .slice C qt.length d] ∧ OutO wr w.heap.size wr.heap.size (.slice (some ⟨w.heap.size + 1, 0, none⟩) V V) vs ∧ Fam wr w.heap.size wr.heap.size (vs.zip (matF V (ent ⟨V, qf, qt⟩ k)))) (fun i _ => qf.length - (intOf i).toNat)
      case atStart => exact ⟨0, Nat.zero_le _, rfl, hbel0, hkB0, ho, hF0⟩
      case round =>
        clear hbel0 hkB0 ho hF0
        obtain ⟨k, hk, rfl, hbel, hkB, ho, hF⟩ := hrel
        have e0 := hkB.cell' (i := 0) rfl
        have e1 := hkB.cell' (i := 1) rfl
        have e2 := hkB.cell' (i := 2) rfl
        have hsz0 := Lib.hid hbel.size
        by_cases hlt : k < qf.length
        · have hltT : k < qt.length := by have := HLE.out; omega
          obtain ⟨b, o, x', rfl, hb, HX, x1, _⟩ := SlI.at_ hf hlt
          obtain ⟨b2, o2, y', rfl, hb2, HY, y1, _⟩ := SlI.at_ hT hltT
          have hxr := HR.out.1 x' (List.mem_of_getElem? HX.out)
          have hyr := HR.out.2 y' (List.mem_of_getElem? HY.out)
          obtain ⟨x, rfl⟩ : ∃ x : Nat, x' = x := ⟨x'.toNat, by omega⟩
          obtain ⟨y, rfl⟩ : ∃ y : Nat, y' = y := ⟨y'.toNat, by omega⟩
          have hxV : x < V := by omega
          have hyV : y < V := by omega
          clear hxr hyr
          have x2 := bcell hbel hb x1
          have y2 := bcell hbel hb2 y1
          obtain ⟨gr, cr, hvr, hor, hcr1, hcr2, hgr1, hgr2⟩ := hF.rowAt (by rw [HVV.out, matF_length]) (matF_get _ hxV) (by rw [rowF_length]; omega)
          obtain ⟨n, hn⟩ : ∃ n, ent ⟨V, qf, qt⟩ k x y = n := ⟨_, rfl⟩
          have hnr := ent_rng ⟨V, qf, qt⟩ k x y hl6
          have r1 := ho.cellS hvr
          rw [rowF_length] at r1 hcr1
          have r2 := (hor.cellG (j := y) (by rw [rowF_length]; exact hyV)).1
          rw [rowF_getD _ hyV, hn] at r2
          rw [hn] at hnr
          have r3 := hor.frozenG y
          have hp := hF.putAt (i := y) (x := n - 1) hvr (matF_get _ hxV) hor ⟨by omega, by omega⟩
          rw [← hn, matF_dec, hn] at hp
          have hput := (hor.put (j := y) (x := n - 1) ⟨by omega, by omega⟩).2
          have hoo := ho.grown hor hput
          have hkk := hkB.grown hput (hor.blkne hkB (by decide))
          have hbb := hbel.grown hput hsz0.out (fun j hj => by injection hj with hj; omega)
          obtain ⟨G1, hG1⟩ : ∃ G1 : Nat → Nat → Int, G1 = fun a b => ent ⟨V, qf, qt⟩ k a b - if a = x ∧ b = y then 1 else 0 := ⟨_, rfl⟩
          rw [← hG1] at hp
          have HG1 := Lib.hid hG1
          clear hG1 hput hor hF ho hn
          obtain ⟨W1, hW1⟩ : ∃ W1, W1 = (wr.setCell ⟨gr, y, none⟩ (.int .i64 (n - 1))).drew := ⟨_, rfl⟩
          have zW1 : W1.heap.size = wr.heap.size := by rw [hW1]; simp
          have hF1 : Fam W1 w.heap.size wr.heap.size (vs.zip (matF V G1)) := by rw [hW1]; exact hp.below (drew_below _)
          have ho1 : OutO W1 w.heap.size wr.heap.size (.slice (some ⟨w.heap.size + 1, 0, none⟩) V V) vs := by rw [hW1]; exact hoo.below (drew_below _)
          have hk1 : Blk W1 w.heap.size 26 #[.int .i64 V, .slice (some ⟨b, o, none⟩) qf.length c, .slice (some ⟨b2, o2, none⟩) qt.length d] := by rw [hW1]; exact hkk.drewN 1
          have hb1 : Below w.heap.size w W1 := by rw [hW1]; exact below_drewN hbb 1
          clear hp hoo hkk hbb hkB hbel
          go_wp2_with fail
          go_region_o
          rw [← hW1]
          clear hW1 r1 r2 r3 x2 y2 e0 e1 e2 hvr
          have e2 := hk1.cell' (i := 2) rfl
          have y2 := bcell hb1 hb2 y1
          obtain ⟨gs, cr', hvr, hor, hcr1', hcr2', hgs1, hgs2⟩ := hF1.rowAt (by rw [HVV.out, matF_length]) (matF_get _ hyV) (by rw [rowF_length]; omega)
          obtain ⟨m, hm⟩ : ∃ m, G1 y x = m := ⟨_, rfl⟩
          have hmr : -13 ≤ m ∧ m ≤ 2 := by
            rw [← hm, HG1.out]
            have := ent_rng ⟨V, qf, qt⟩ k y x hl6
            dsimp only
            split <;> omega
          have r1 := ho1.cellS hvr
          rw [rowF_length] at r1 hcr1'
          have r2 := (hor.cellG (j := x) (by rw [rowF_length]; exact hxV)).1
          rw [rowF_getD _ hxV, hm] at r2
          have r3 := hor.frozenG x
          have hp := hF1.putAt (i := x) (x := m - 1) hvr (matF_get _ hyV) hor ⟨by omega, by omega⟩
          rw [← hm, matF_dec, hm] at hp
          have hput := (hor.put (j := x) (x := m - 1) ⟨by omega, by omega⟩).2
          have hoo := ho1.grown hor hput
          have hkk := hk1.grown hput (hor.blkne hk1 (by decide))
          have hbb := hb1.grown hput (by have := hsz0.out; omega) (fun j hj => by injection hj with hj; omega)
          have hst : (matF V fun a b => G1 a b - if a = y ∧ b = x then 1 else 0) = matF V (ent ⟨V, qf, qt⟩ (k + 1)) := by
            apply matF_congr
            intro a b _ _
            rw [ent_succ HX.out HY.out, HG1.out]
          rw [hst] at hp
          have HP := Lib.hid hp
          have HOO := Lib.hid hoo
          clear hst hp hput hoo hor hF1 ho1 hm hvr
          go_wp2
          go_roundw
          case rel => exact ⟨k + 1, by omega, by go_num, hbb, hkk, HOO.out.mono (Nat.le_refl _) (by simp; omega), HP.out.mono (Nat.le_refl _) (by simp; omega)⟩
          case measure => simp [intOf]; omega
        · have hst : Hid (symM ⟨V, qf, qt⟩ = matF V (ent ⟨V, qf, qt⟩ k)) := by
            show _ = _
            rw [symM, show qf.length = k by omega]
            rfl
          rw [← hst.out] at hF
          go_wp2
          exact bodyPost_ret (v := .slice (some ⟨w.heap.size + 1, 0, none⟩) V V) (by simp [results, go_sem]) rfl ⟨_, rfl, ⟨vs, ho, by rw [hst.out, matF_length]; exact HVV.out, hF⟩, hbel⟩
end Go.Proofs.Ytaefpblpfjhgoaa

/- The reference's symmetric form. -/
namespace Go.Proofs.Ytaefpblpfjhgoaa
set_option linter.unusedVariables false
set_option linter.unusedSimpArgs false
open Go.RowKit

/-- append of one slice onto a row of slices of the call's own -/
theorem rowF_dec {V : Nat} (g : Nat → Int) (j : Nat) : (rowF V g).set j (g j - 1) = rowF V fun b => g b - if b = j then 1 else 0 := by
  rw [rowF_set]
  apply rowF_congr
  intro b _
  by_cases e : b = j
  · subst e; rw [if_pos rfl, if_pos rfl]
  · rw [if_neg e, if_neg e]; omega
theorem if_pos_and {p r : Prop} [Decidable p] [Decidable r] (h : p) : (if p ∧ r then (1 : Int) else 0) = if r then 1 else 0 := by
  by_cases hr : r
  · rw [if_pos ⟨h, hr⟩, if_pos hr]
  · rw [if_neg (fun x => hr x.2), if_neg hr]

set_option maxHeartbeats 1600000 in
set_option maxRecDepth 20000 in
theorem symmetricForm_any (u : Value) (q : Qv) (w : World) (hu : QvR w w.heap.size u q) (hq : isQ q = true) :
    Calls Try.prog 41 #[u] w fun e w' => ∃ v, e = .returned v ∧ IntssO w' w.heap.size w'.heap.size v (symM q) ∧ Below w.heap.size w w' := by
  obtain ⟨qv, qf, qt⟩ := q
  have hu' := hu
  obtain ⟨A, c, C, d, rfl, hf, hT, hr, lf, lt⟩ := hu.open_
  clear hu
  obtain ⟨⟨hv1, hv2⟩, hlen, hl6, hfr, htr⟩ := isQ_t.1 hq
  dsimp only at *
  obtain ⟨V, rfl⟩ : ∃ V : Nat, qv = V := ⟨qv.toNat, by omega⟩
  have hV5 : V ≤ 5 := by omega
  have HLE := Lib.hid hlen
  have HR := Lib.hid (And.intro hfr htr)
  clear hlen hfr htr
  obtain ⟨i1, hi, hz0, hz1, hz2⟩ := info_parts infoInt
  have hmk1 := run_mk (P := Try.prog) Try.underlying24 hi hz0 (n := V) (by rw [hz2]; omega) (by omega)
  rw [hz1] at hmk1
  clear hi hz0 hz1 hz2
  have g0 : Below w.heap.size w ((w.alloc (.cells #[.int .i64 V, .slice A qf.length c, .slice C qt.length d] 26)).alloc (.cells #[] 24)) := ((Below.refl _ _).alloc (Nat.le_refl _) _).alloc (by simp) _
  have kB : Blk ((w.alloc (.cells #[.int .i64 V, .slice A qf.length c, .slice C qt.length d] 26)).alloc (.cells #[] 24)) w.heap.size 26 #[.int .i64 V, .slice A qf.length c, .slice C qt.length d] := (Blk.new _ _ _).alloc _
  go_enter Try.func41, Try.ntmps41
  go_wp2
  have hmo : Try.prog.follows .mixedOrders = true := by kernel_rfl
  have ho0 : OutO ((w.alloc (.cells #[.int .i64 V, .slice A qf.length c, .slice C qt.length d] 26)).alloc (.cells #[] 24)) w.heap.size ((w.alloc (.cells #[.int .i64 V, .slice A qf.length c, .slice C qt.length d] 26)).alloc (.cells #[] 24)).heap.size (.slice (some ⟨w.heap.size + 1, 0, none⟩) 0 0) [] := by
    have hb := Blk.new (w.alloc (.cells #[.int .i64 V, .slice A qf.length c, .slice C qt.length d] 26)) 24 #[]
    have h := OutCs.own (lo := w.heap.size) (vs := []) ⟨rfl, by simp, fun j v h => by simp at h⟩ hb (by simp) (by simp)
    simpa only [World.size_alloc, List.length_nil] using h
  go_loopw [3, 4] (fun a i wr => ∃ vs : List Value, vs.length ≤ V ∧ i = .int .i64 vs.length ∧ Below w.heap.size w wr ∧ Blk wr w.heap.size 26 #[.int .i64 V, .slice A qf.length c, .slice C qt.length d] ∧ OutO wr w.heap.size wr.heap.size a vs ∧ Fam wr w.heap.size wr.heap.size (vs.zip ((symM ⟨V, qf, qt⟩).take vs.length))) (fun _ i _ => V - (intOf i).toNat)
  case atStart => exact ⟨[], Nat.zero_le _, rfl, g0, kB, ho0, ⟨fun p hp => by simp at hp, by simp⟩⟩
  case round =>
    clear g0 kB ho0
    obtain ⟨vs, hk, rfl, hbel, hkB, ho, hF⟩ := hrel
    have e0 := hkB.cell' (i := 0) rfl
    have e1 := hkB.cell' (i := 1) rfl
    have e2 := hkB.cell' (i := 2) rfl
    obtain ⟨OA, oc, rfl, _, _⟩ := ho.form
    obtain ⟨N, hN⟩ : ∃ N, vs.length = N := ⟨_, rfl⟩
    have HN := Lib.hid hN
    rw [hN] at hk hF ⊢
    rw [hN] at ho
    clear hN
    by_cases hlt : N < V
    · have hN5 : N ≤ 5 := by omega
      have hrq := QvR.more (B' := wr.heap.size) (by have := hbel.size; omega) (QvR.below hbel hu')
      go_wp2_with fail
      refine (specIsQuiver_any _ _ _ hrq).mono ?_; rintro e w5 ⟨rfl, hb5⟩
      rw [hq]
      have hkB' := hkB.call hb5
      have ho' := (ho.below hb5).mono (Nat.le_refl _) hb5.size
      have hF' := (hF.below hb5).mono (Nat.le_refl _) hb5.size
      have hbel' := hbel.trans (hb5.mono hbel.size)
      clear hkB ho hF hbel e0 e1 e2 hrq hb5
      have hkB := hkB'
      clear hkB'
      have e0 := hkB.cell' (i := 0) rfl
      have e1 := hkB.cell' (i := 1) rfl
      have e2 := hkB.cell' (i := 2) rfl
      have hs5 := hbel'.size
      have hv1 := OwnI.made0 (w := w5) (base := w5.heap.size) (N := V) (Nat.le_refl _) (by omega)
      have c3 := (hv1.cellG (j := N) (by simpa using hlt)).1
      have f3 := hv1.frozenG N
      rw [show (List.replicate V (0 : Int)).getD N 0 = 0 by rw [List.getD_eq_getElem?_getD, List.getElem?_replicate, if_pos hlt]; rfl] at c3
      have hv3 : OwnI (w5.alloc (.cells ((mkCells (.int .i64 0) V).setIfInBounds N (.int .i64 2)) 3)) w5.heap.size (Value.slice (some ⟨w5.heap.size, 0, none⟩) V V) ((List.replicate V (0 : Int)).set N 2) :=
        OwnI.newBlk (w := w5) (base := w5.heap.size) (N := V) (Nat.le_refl _) (by omega) (by simp) (by
          rw [Array.toList_setIfInBounds, show (mkCells (.int .i64 0) V).toList = List.replicate V (.int .i64 0) from toList_madeCells_one _ _, List.map_set, List.map_replicate]) (fun x hx => by
          rcases List.mem_or_eq_of_mem_set hx with hx | rfl
          · obtain ⟨_, rfl⟩ := List.mem_replicate.1 hx
            exact ⟨by decide, by decide⟩
          · exact ⟨by decide, by decide⟩)
      have hrow : (List.replicate V (0 : Int)).set N 2 = rowF V (ent ⟨V, qf, qt⟩ 0 N) := by
        rw [show List.replicate V (0 : Int) = rowF V (fun _ => 0) from by rw [rowF, List.map_const', List.length_range], rowF_set]
        apply rowF_congr
        intro b _
        rw [ent_zero]
        by_cases e : b = N
        · rw [if_pos e, if_pos e.symm]
        · rw [if_neg e, if_neg (fun h => e h.symm)]
      rw [hrow] at hv3
      have hb3 := below_alloc w5 (.cells ((mkCells (.int .i64 0) V).setIfInBounds N (.int .i64 2)) 3)
      have zs3 : (w5.alloc (.cells ((mkCells (.int .i64 0) V).setIfInBounds N (.int .i64 2)) 3)).heap.size = w5.heap.size + 1 := by simp
      clear hrow hv1
      go_wp2
      clear c3 f3 e0 e1 e2
      go_loopw [6] (fun i wr => ∃ k : Nat, k ≤ qf.length ∧ i = .int .i64 k ∧ OwnI wr w5.heap.size (Value.slice (some ⟨w5.heap.size, 0, none⟩) V V) (rowF V (ent ⟨V, qf, qt⟩ k N)) ∧ Below w5.heap.size w5 wr ∧ wr.heap.size = w5.heap.size + 1) (fun i _ => qf.length - (intOf i).toNat)
      case atStart => exact ⟨0, Nat.zero_le _, rfl, hv3, hb3, zs3⟩
      case round =>
        clear hv3 hb3 zs3
        obtain ⟨k, hk, rfl, hown, hbel, hsz⟩ := hrel
        have hSZ := Lib.hid hsz
        have e1 := (hkB.call hbel).cell' (i := 1) rfl
        have e2 := (hkB.call hbel).cell' (i := 2) rfl
        by_cases hltk : k < qf.length
        · have hltT : k < qt.length := by have := HLE.out; omega
          obtain ⟨b, o, x', rfl, hb, HX, x1, _⟩ := SlI.at_ hf hltk
          obtain ⟨b2, o2, y', rfl, hb2, HY, y1, _⟩ := SlI.at_ hT hltT
          have hxr := HR.out.1 x' (List.mem_of_getElem? HX.out)
          have hyr := HR.out.2 y' (List.mem_of_getElem? HY.out)
          obtain ⟨x, rfl⟩ : ∃ x : Nat, x' = x := ⟨x'.toNat, by omega⟩
          obtain ⟨y, rfl⟩ : ∃ y : Nat, y' = y := ⟨y'.toNat, by omega⟩
          have hxV : x < V := by omega
          have hyV : y < V := by omega
          clear hxr hyr
          have x2 := bcell (hbel'.trans (hbel.mono hs5)) hb x1
          have y2 := bcell (hbel'.trans (hbel.mono hs5)) hb2 y1
          by_cases ex : x = N
          · have exb : ((x : Int) == (N : Int)) = true := by rw [beq_iff_eq]; omega
            by_cases ey : y = N
            · have eyb : ((y : Int) == (N : Int)) = true := by rw [beq_iff_eq]; omega
              have EX := Lib.hid ex
              have EY := Lib.hid ey
              clear ex ey
              obtain ⟨m1, hm1⟩ : ∃ m, (ent ⟨V, qf, qt⟩ k N) y = m := ⟨_, rfl⟩
              have hmr1 : -13 ≤ m1 ∧ m1 ≤ 2 := by
                rw [← hm1]
                have := ent_rng ⟨V, qf, qt⟩ k N y hl6
                first | omega | (dsimp only; split <;> omega)
              have r21 := (hown.cellG (j := y) (by rw [rowF_length]; exact hyV)).1
              rw [rowF_getD _ hyV, hm1] at r21
              have r31 := hown.frozenG y
              have hp1 := hown.put (j := y) (x := m1 - 1) ⟨by omega, by omega⟩
              rw [← hm1, rowF_dec, hm1] at hp1
              have hz1 := hbel.grown hp1.2 (by have := hbel.size; omega) (fun j hj => by injection hj with hj; omega)
              have HP1 := Lib.hid hp1.1
              have HZ1 := Lib.hid hz1
              clear hp1 hz1 hm1 hown
              go_wp2_with fail
              go_region_o
              obtain ⟨Wq1, hWq1⟩ : ∃ Wq, Wq = (wr.setCell ⟨w5.heap.size, y, none⟩ (.int .i64 (m1 - 1))).drew := ⟨_, rfl⟩
              rw [← hWq1]
              have hown1 : OwnI Wq1 w5.heap.size (Value.slice (some ⟨w5.heap.size, 0, none⟩) V V) (rowF V (fun b => (ent ⟨V, qf, qt⟩ k N) b - if b = y then 1 else 0)) := by rw [hWq1]; exact HP1.out.drewN 1
              have hbel1 : Below w5.heap.size w5 Wq1 := by rw [hWq1]; exact below_drewN HZ1.out 1
              have hsz1 : Wq1.heap.size = wr.heap.size := by rw [hWq1]; simp
              have SZ1 := Lib.hid hsz1
              clear hWq1 hsz1 r21 r31
              clear e1 e2 x2 y2
              have e1 := (hkB.call hbel1).cell' (i := 1) rfl
              have e2 := (hkB.call hbel1).cell' (i := 2) rfl
              have x2 := bcell (hbel'.trans (hbel1.mono hs5)) hb x1
              have y2 := bcell (hbel'.trans (hbel1.mono hs5)) hb2 y1
              obtain ⟨G1, hG1⟩ : ∃ G : Nat → Int, G = fun b => (ent ⟨V, qf, qt⟩ k N) b - if b = y then 1 else 0 := ⟨_, rfl⟩
              rw [← hG1] at hown1
              have HG1 := Lib.hid hG1
              clear hG1
              obtain ⟨m2, hm2⟩ : ∃ m, (G1) x = m := ⟨_, rfl⟩
              have hmr2 : -13 ≤ m2 ∧ m2 ≤ 2 := by
                rw [← hm2, HG1.out]
                have := ent_rng ⟨V, qf, qt⟩ k N x hl6
                first | omega | (dsimp only; split <;> omega)
              have r22 := (hown1.cellG (j := x) (by rw [rowF_length]; exact hxV)).1
              rw [rowF_getD _ hxV, hm2] at r22
              have r32 := hown1.frozenG x
              have hp2 := hown1.put (j := x) (x := m2 - 1) ⟨by omega, by omega⟩
              rw [← hm2, rowF_dec, hm2] at hp2
              have hz2 := hbel1.grown hp2.2 (by have := hbel1.size; omega) (fun j hj => by injection hj with hj; omega)
              have HP2 := Lib.hid hp2.1
              have HZ2 := Lib.hid hz2
              clear hp2 hz2 hm2 hown1
              go_wp2_with fail
              go_region_o
              obtain ⟨Wq2, hWq2⟩ : ∃ Wq, Wq = (Wq1.setCell ⟨w5.heap.size, x, none⟩ (.int .i64 (m2 - 1))).drew := ⟨_, rfl⟩
              rw [← hWq2]
              have hown2 : OwnI Wq2 w5.heap.size (Value.slice (some ⟨w5.heap.size, 0, none⟩) V V) (rowF V (fun b => (G1) b - if b = x then 1 else 0)) := by rw [hWq2]; exact HP2.out.drewN 1
              have hbel2 : Below w5.heap.size w5 Wq2 := by rw [hWq2]; exact below_drewN HZ2.out 1
              have hsz2 : Wq2.heap.size = Wq1.heap.size := by rw [hWq2]; simp
              have SZ2 := Lib.hid hsz2
              clear hWq2 hsz2 r22 r32
              have hst : Hid (rowF V (fun b => (G1) b - if b = x then 1 else 0) = rowF V (ent ⟨V, qf, qt⟩ (k + 1) N)) := by
                show rowF V (fun b => (G1) b - if b = x then 1 else 0) = _
                apply rowF_congr
                intro b _
                rw [ent_succ HX.out HY.out]
                rw [HG1.out, if_pos_and EX.out.symm, if_pos_and EY.out.symm]
              rw [hst.out] at hown2
              go_wp2
              go_roundw
              case rel => exact ⟨k + 1, by omega, by go_num, hown2, hbel2, (SZ2.out.trans (SZ1.out.trans hsz))⟩
              case measure => simp [intOf]; omega
            · have eyb : ((y : Int) == (N : Int)) = false := by rw [beq_eq_false_iff_ne]; omega
              have hyn := ey
              have EX := Lib.hid ex
              clear ex ey
              obtain ⟨m1, hm1⟩ : ∃ m, (ent ⟨V, qf, qt⟩ k N) y = m := ⟨_, rfl⟩
              have hmr1 : -13 ≤ m1 ∧ m1 ≤ 2 := by
                rw [← hm1]
                have := ent_rng ⟨V, qf, qt⟩ k N y hl6
                first | omega | (dsimp only; split <;> omega)
              have r21 := (hown.cellG (j := y) (by rw [rowF_length]; exact hyV)).1
              rw [rowF_getD _ hyV, hm1] at r21
              have r31 := hown.frozenG y
              have hp1 := hown.put (j := y) (x := m1 - 1) ⟨by omega, by omega⟩
              rw [← hm1, rowF_dec, hm1] at hp1
              have hz1 := hbel.grown hp1.2 (by have := hbel.size; omega) (fun j hj => by injection hj with hj; omega)
              have HP1 := Lib.hid hp1.1
              have HZ1 := Lib.hid hz1
              clear hp1 hz1 hm1 hown
              go_wp2_with fail
              go_region_o
              obtain ⟨Wq1, hWq1⟩ : ∃ Wq, Wq = (wr.setCell ⟨w5.heap.size, y, none⟩ (.int .i64 (m1 - 1))).drew := ⟨_, rfl⟩
              rw [← hWq1]
              have hown1 : OwnI Wq1 w5.heap.size (Value.slice (some ⟨w5.heap.size, 0, none⟩) V V) (rowF V (fun b => (ent ⟨V, qf, qt⟩ k N) b - if b = y then 1 else 0)) := by rw [hWq1]; exact HP1.out.drewN 1
              have hbel1 : Below w5.heap.size w5 Wq1 := by rw [hWq1]; exact below_drewN HZ1.out 1
              have hsz1 : Wq1.heap.size = wr.heap.size := by rw [hWq1]; simp
              have SZ1 := Lib.hid hsz1
              clear hWq1 hsz1 r21 r31
              clear e1 e2 x2 y2
              have e1 := (hkB.call hbel1).cell' (i := 1) rfl
              have e2 := (hkB.call hbel1).cell' (i := 2) rfl
              have x2 := bcell (hbel'.trans (hbel1.mono hs5)) hb x1
              have y2 := bcell (hbel'.trans (hbel1.mono hs5)) hb2 y1
              have hst : Hid (rowF V (fun b => (ent ⟨V, qf, qt⟩ k N) b - if b = y then 1 else 0) = rowF V (ent ⟨V, qf, qt⟩ (k + 1) N)) := by
                show rowF V (fun b => (ent ⟨V, qf, qt⟩ k N) b - if b = y then 1 else 0) = _
                apply rowF_congr
                intro b _
                rw [ent_succ HX.out HY.out]
                rw [if_pos_and EX.out.symm, if_neg (c := N = y ∧ b = x) (fun h => hyn h.1.symm)]; omega
              rw [hst.out] at hown1
              go_wp2
              go_roundw
              case rel => exact ⟨k + 1, by omega, by go_num, hown1, hbel1, (SZ1.out.trans hsz)⟩
              case measure => simp [intOf]; omega
          · have exb : ((x : Int) == (N : Int)) = false := by rw [beq_eq_false_iff_ne]; omega
            have hxn := ex
            clear ex
            by_cases ey : y = N
            · have eyb : ((y : Int) == (N : Int)) = true := by rw [beq_iff_eq]; omega
              have EY := Lib.hid ey
              clear ey
              obtain ⟨m1, hm1⟩ : ∃ m, (ent ⟨V, qf, qt⟩ k N) x = m := ⟨_, rfl⟩
              have hmr1 : -13 ≤ m1 ∧ m1 ≤ 2 := by
                rw [← hm1]
                have := ent_rng ⟨V, qf, qt⟩ k N x hl6
                first | omega | (dsimp only; split <;> omega)
              have r21 := (hown.cellG (j := x) (by rw [rowF_length]; exact hxV)).1
              rw [rowF_getD _ hxV, hm1] at r21
              have r31 := hown.frozenG x
              have hp1 := hown.put (j := x) (x := m1 - 1) ⟨by omega, by omega⟩
              rw [← hm1, rowF_dec, hm1] at hp1
              have hz1 := hbel.grown hp1.2 (by have := hbel.size; omega) (fun j hj => by injection hj with hj; omega)
              have HP1 := Lib.hid hp1.1
              have HZ1 := Lib.hid hz1
              clear hp1 hz1 hm1 hown
              go_wp2_with fail
              go_region_o
              obtain ⟨Wq1, hWq1⟩ : ∃ Wq, Wq = (wr.setCell ⟨w5.heap.size, x, none⟩ (.int .i64 (m1 - 1))).drew := ⟨_, rfl⟩
              rw [← hWq1]
              have hown1 : OwnI Wq1 w5.heap.size (Value.slice (some ⟨w5.heap.size, 0, none⟩) V V) (rowF V (fun b => (ent ⟨V, qf, qt⟩ k N) b - if b = x then 1 else 0)) := by rw [hWq1]; exact HP1.out.drewN 1
              have hbel1 : Below w5.heap.size w5 Wq1 := by rw [hWq1]; exact below_drewN HZ1.out 1
              have hsz1 : Wq1.heap.size = wr.heap.size := by rw [hWq1]; simp
              have SZ1 := Lib.hid hsz1
              clear hWq1 hsz1 r21 r31
              have hst : Hid (rowF V (fun b => (ent ⟨V, qf, qt⟩ k N) b - if b = x then 1 else 0) = rowF V (ent ⟨V, qf, qt⟩ (k + 1) N)) := by
                show rowF V (fun b => (ent ⟨V, qf, qt⟩ k N) b - if b = x then 1 else 0) = _
                apply rowF_congr
                intro b _
                rw [ent_succ HX.out HY.out]
                rw [if_neg (c := N = x ∧ b = y) (fun h => hxn h.1.symm), if_pos_and EY.out.symm]; omega
              rw [hst.out] at hown1
              go_wp2
              go_roundw
              case rel => exact ⟨k + 1, by omega, by go_num, hown1, hbel1, (SZ1.out.trans hsz)⟩
              case measure => simp [intOf]; omega
            · have eyb : ((y : Int) == (N : Int)) = false := by rw [beq_eq_false_iff_ne]; omega
              have hyn := ey
              clear ey
              have hst : Hid (rowF V (ent ⟨V, qf, qt⟩ k N) = rowF V (ent ⟨V, qf, qt⟩ (k + 1) N)) := by
                show rowF V (ent ⟨V, qf, qt⟩ k N) = _
                apply rowF_congr
                intro b _
                rw [ent_succ HX.out HY.out]
                rw [if_neg (c := N = x ∧ b = y) (fun h => hxn h.1.symm), if_neg (c := N = y ∧ b = x) (fun h => hyn h.1.symm)]; omega
              rw [hst.out] at hown
              go_wp2
              go_roundw
              case rel => exact ⟨k + 1, by omega, by go_num, hown, hbel, hsz⟩
              case measure => simp [intOf]; omega
        · have hst : Hid (ent ⟨V, qf, qt⟩ k N = ent ⟨V, qf, qt⟩ qf.length N) := by show _ = _; rw [show k = qf.length by omega]
          rw [hst.out] at hown
          have ho1 := ho'.below hbel
          have hF1 := hF'.below hbel
          have hkB1 := hkB.call hbel
          have hb1 := hbel'.trans (hbel.mono hs5)
          have hsz' := hSZ.out
          have hF2 := hF1.snoc (hi := wr.heap.size) ⟨hown, fun k hk => by simp [Value.ownBlock] at hk; omega⟩ hs5 (by omega)
          have hzip : vs.zip ((symM ⟨V, qf, qt⟩).take N) ++ [((Value.slice (some ⟨w5.heap.size, 0, none⟩) V V), rowF V (ent ⟨V, qf, qt⟩ qf.length N))] = (vs ++ [(Value.slice (some ⟨w5.heap.size, 0, none⟩) V V)]).zip ((symM ⟨V, qf, qt⟩).take (vs ++ [(Value.slice (some ⟨w5.heap.size, 0, none⟩) V V)]).length) := by
            rw [List.length_append, List.length_singleton, HN.out, take_snoc (show (symM ⟨V, qf, qt⟩)[N]? = some (rowF V (ent ⟨V, qf, qt⟩ qf.length N)) from matF_get (V := V) _ hlt), List.zip_append (by rw [HN.out, List.length_take, symM, matF_length]; show N = min N V; omega)]
            rfl
          rw [hzip] at hF2
          have hoA := ho1.below (below_alloc wr (.cells #[(Value.slice (some ⟨w5.heap.size, 0, none⟩) V V)] 24))
          have hFA := hF2.below (below_alloc wr (.cells #[(Value.slice (some ⟨w5.heap.size, 0, none⟩) V V)] 24))
          have hkA := hkB1.call (below_alloc wr (.cells #[(Value.slice (some ⟨w5.heap.size, 0, none⟩) V V)] 24))
          clear hF2 hF1 hzip ho1 hown hkB1 hsz hsz'
          (go_wp2_with (at_builtin; refine Hold.stop ?_)); unfold Hold
          refine wpList_appS rfl (.tmp 77) (.tmp 79) rfl w.heap.size (.slice OA N oc) vs rfl hoA.1 _ _ (Value.slice (some ⟨w5.heap.size, 0, none⟩) V V) rfl ⟨wr.heap.size, 0, rfl, (Blk.new wr 24 #[(Value.slice (some ⟨w5.heap.size, 0, none⟩) V V)]).cell' (i := 0) rfl⟩ rfl (by have := HN.out; omega) (by rw [World.size_alloc]; have := hb1.size; omega) ?_
          intro v1 w2 ho2 hg hv
          have hF3 := (hFA.grownO hoA.1 hg).mono (Nat.le_refl _) (show wr.heap.size ≤ w2.heap.size by have := hg.size; simp at this; omega)
          have hk3 := hkA.grown hg (hoA.blkne hkA (by decide))
          have hb3 := (hb1.alloc hb1.size (.cells #[(Value.slice (some ⟨w5.heap.size, 0, none⟩) V V)] 24)).grown hg (by have := hb1.size; simp; omega) (fun j hj => (hoA.1.lt j hj).1)
          have ho3 : OutO w2 w.heap.size w2.heap.size v1 (vs ++ [(Value.slice (some ⟨w5.heap.size, 0, none⟩) V V)]) := ⟨ho2, fun k hk => (ho2.lt k hk).2, by have := HN.out; simp; omega⟩
          have HF3 := Lib.hid hF3
          have HL : Hid ((vs ++ [(Value.slice (some ⟨w5.heap.size, 0, none⟩) V V)]).length = N + 1) := by show _ = _; rw [List.length_append, HN.out]; rfl
          clear hF3 hFA hoA hkA hg hv ho2
          go_wp2
          go_roundw
          case rel => exact ⟨vs ++ [(Value.slice (some ⟨w5.heap.size, 0, none⟩) V V)], by rw [HL.out]; omega, by rw [HL.out]; go_num, hb3, hk3, ho3, HF3.out⟩
          case measure => simp [intOf]; omega
    · have hrq := QvR.more (B' := wr.heap.size) (by have := hbel.size; omega) (QvR.below hbel hu')
      have hNV : N = V := by omega
      go_wp2
      refine bodyPost_ret (v := .slice OA N oc) (by simp [results, go_sem]) rfl ⟨_, rfl, ⟨vs, ho, by rw [symM, matF_length, HN.out, hNV]; rfl, ?_⟩, hbel⟩
      rwa [List.take_of_length_le (by rw [symM, matF_length]; show V ≤ N; omega)] at hF
end Go.Proofs.Ytaefpblpfjhgoaa

/- Reflections of number vectors. -/
namespace Go.Proofs.Ytaefpblpfjhgoaa
set_option linter.unusedVariables false
set_option linter.unusedSimpArgs false
open Go.RowKit

/-- g against x, the first k -/
def dotS (g : Nat → Int) (x : List Int) : Nat → Int
  | 0 => 0
  | k + 1 => dotS g x k + g k * x.getD k 0
theorem mul_rng {a b : Int} (ha : -12 ≤ a ∧ a ≤ 12) (hb : -100 ≤ b ∧ b ≤ 100) : -1200 ≤ a * b ∧ a * b ≤ 1200 := by
  obtain ⟨a1, a2⟩ := ha
  obtain ⟨b1, b2⟩ := hb
  have h1 : 0 ≤ (12 - a) * (100 - b) := Int.mul_nonneg (by omega) (by omega)
  have h2 : 0 ≤ (12 + a) * (100 + b) := Int.mul_nonneg (by omega) (by omega)
  have h3 : 0 ≤ (12 - a) * (100 + b) := Int.mul_nonneg (by omega) (by omega)
  have h4 : 0 ≤ (12 + a) * (100 - b) := Int.mul_nonneg (by omega) (by omega)
  simp only [Int.sub_mul, Int.add_mul, Int.mul_sub, Int.mul_add] at h1 h2 h3 h4
  omega
theorem getD_rng {x : List Int} (hx : ∀ y ∈ x, -100 ≤ y ∧ y ≤ 100) (k : Nat) : -100 ≤ x.getD k 0 ∧ x.getD k 0 ≤ 100 := by
  rw [List.getD_eq_getElem?_getD]
  rcases h : x[k]? with _ | y
  · simp
  · exact hx y (List.mem_of_getElem? h)
theorem dotS_rng {g : Nat → Int} {x : List Int} (hg : ∀ k, -12 ≤ g k ∧ g k ≤ 12) (hx : ∀ y ∈ x, -100 ≤ y ∧ y ≤ 100) : ∀ k : Nat, -(1200 * (k : Int)) ≤ dotS g x k ∧ dotS g x k ≤ 1200 * k
  | 0 => by simp [dotS]
  | k + 1 => by
    have ih := dotS_rng hg hx k
    have h := mul_rng (hg k) (getD_rng hx k)
    unfold dotS
    omega
/-- the vector x reflected at v -/
def reflL (q : Qv) (x : List Int) (v : Nat) : List Int := x.set v (x.getD v 0 - dotS (ent q q.f.length v) x x.length)
def reflQ (q : Qv) (x : List Int) (v : Int) : List Int × Bool := if isNum q x && inR v 0 (q.v - 1) && !loopQ q v then (reflL q x v.toNat, true) else ([], false)
theorem loop_ent {q : Qv} {v : Nat} (hl : q.f.length = q.t.length) : (ent q q.f.length v v != 2) = loopQ q v := by
  have h1 : arr q v v q.f.length = (q.f.zip q.t).countP fun p => p.1 == (v : Int) && p.2 == (v : Int) := by
    rw [arr, List.take_of_length_le (by simp; omega)]
  have h2 : ent q q.f.length v v = 2 - 2 * (arr q v v q.f.length : Int) := by rw [ent, if_pos rfl]; omega
  rw [Bool.eq_iff_iff, bne_iff_ne, h2, h1, loopQ]
  have h3 := List.countP_pos_iff (p := fun p : Int × Int => p.1 == (v : Int) && p.2 == (v : Int)) (l := q.f.zip q.t)
  rw [List.any_eq_true]
  constructor
  · intro h
    have : 0 < List.countP (fun p : Int × Int => p.1 == (v : Int) && p.2 == (v : Int)) (q.f.zip q.t) := by omega
    exact h3.1 this
  · intro h
    have := h3.2 h
    omega

theorem SlI.atN {w : World} {B n c : Nat} {A : Option Addr} {xs : List Int} {k : Nat} (h : SlI w B (.slice A n c) xs) (hn : xs.length = n) (hk : k < n) :
    ∃ b o x, A = some ⟨b, o, none⟩ ∧ b < B ∧ Hid (xs[k]? = some x) ∧ w.cell? ⟨b, o + k, none⟩ = some (.int .i64 x) ∧ -9223372036854775808 ≤ x ∧ x ≤ 9223372036854775807 := by
  subst hn
  exact SlI.at_ h hk

set_option maxHeartbeats 800000 in
set_option maxRecDepth 20000 in
theorem l20Reflect_any (mv xv : Value) (q : Qv) (x : List Int) (v : Nat) (w : World) (hm : SlII w w.heap.size mv (symM q)) (hx : SlI w w.heap.size xv x) (hq : isNum q x = true) (hv : v < q.v.toNat) :
    Calls Try.prog 40 #[mv, xv, .int .i64 v] w fun e w' => ∃ u, e = .returned u ∧ IntsO w' w.heap.size w'.heap.size u (reflL q x v) ∧ Below w.heap.size w w' := by
  obtain ⟨hq1, hq2, hq3⟩ := isNum_t.1 hq
  obtain ⟨⟨hv1, hv2⟩, hlen, hl6, _, _⟩ := isQ_t.1 hq1
  obtain ⟨V, hV⟩ : ∃ V : Nat, q.v.toNat = V := ⟨_, rfl⟩
  have hxV : x.length = V := by omega
  have hV5 : V ≤ 5 := by omega
  rw [hV] at hv
  have hmv : (symM q)[v]? = some (rowF V (ent q q.f.length v)) := by rw [symM, hV]; exact matF_get _ hv
  have hml : v < (symM q).length := by rw [symM, hV, matF_length]; exact hv
  obtain ⟨MA, mc, rfl, _, _, lm, hm'⟩ := hm.open_
  obtain ⟨XA, xc, rfl, _, _, lx, hx'⟩ := hx.open_
  clear hm hx
  obtain ⟨mb, mo, l, LA, lc, rfl, hmb, HL, ml, hl⟩ := SlII.at_ hm' hml
  have el : l = rowF V (ent q q.f.length v) := by
    have h := HL.out
    rw [hmv] at h
    injection h with h
    exact h.symm
  have hll : l.length = V := by rw [el, rowF_length]
  have HEL := Lib.hid el
  have HLL := Lib.hid hll
  have HXV := Lib.hid hxV
  have HX3 := Lib.hid hq3
  have hmlen : (symM q).length = V := by rw [symM, hV, matF_length]
  have HML := Lib.hid hmlen
  clear el hll hmv hq hq1 hq2 hq3 hlen hm' hv1 hv2 hV hmlen
  rw [HLL.out] at ml hl
  rw [HML.out] at hml ⊢
  rw [HXV.out] at hx' lx ⊢
  have hxs := hx'
  go_enter Try.func40, Try.ntmps40
  (go_wp2_with (at_builtin; refine Hold.stop ?_)); unfold Hold
  have ho0 : OwnI (w.alloc (.cells #[] 3)) w.heap.size (.slice (some ⟨w.heap.size, 0, none⟩) 0 0) [] := OwnI.made _ rfl (Nat.le_refl _)
  refine wpList_appI rfl (.tmp 10) (.tmp 11) rfl w.heap.size w.heap.size (.slice (some ⟨w.heap.size, 0, none⟩) 0 0) [] rfl ho0 _ _ _ x rfl HXV.out.symm (by rw [HXV.out]; exact SlI.below (below_alloc _ _) hx') (by simp; omega) (by simp) ?_
  intro v1 w1 ho1 hg1 hvv
  rw [List.nil_append] at ho1
  have hb1 : Below w.heap.size w w1 := ((Below.refl _ _).alloc (Nat.le_refl _) (.cells #[] 3)).grown hg1 (by simp) (fun j hj => (ho0.lt j hj).1)
  obtain ⟨OA, oc, rfl, _, _⟩ := ho1.form
  rw [HXV.out] at ho1 ⊢
  clear hg1 hvv ho0
  go_wp2
  have hmo : Try.prog.follows .mixedOrders = true := by kernel_rfl
  have hgr : ∀ i, -12 ≤ ent q q.f.length v i ∧ ent q q.f.length v i ≤ 12 := fun i => by have := ent_rng q q.f.length v i hl6; omega
  have HGR := Lib.hid hgr
  have hsr := Lib.hid (dotS_rng hgr HX3.out)
  clear hgr hxV
  go_loopw [8, 9] (fun s i wr => ∃ k : Nat, k ≤ V ∧ i = .int .i64 k ∧ s = .int .i64 (dotS (ent q q.f.length v) x k) ∧ OwnI wr w.heap.size (.slice OA V oc) x ∧ Below w.heap.size w wr) (fun _ i _ => V - (intOf i).toNat)
  case atStart => exact ⟨0, Nat.zero_le _, rfl, rfl, ho1, hb1⟩
  case round =>
    clear ho1 hb1
    obtain ⟨k, hk, rfl, rfl, hown, hbel⟩ := hrel
    have hsk := hsr.out k
    obtain ⟨s, hs⟩ : ∃ s, dotS (ent q q.f.length v) x k = s := ⟨_, rfl⟩
    rw [hs] at hsk ⊢
    have HS := Lib.hid hs
    clear hs
    by_cases hlt : k < V
    · obtain ⟨b1, o1, y, rfl, hb1, HY, y1, _⟩ := SlI.atN hl HLL.out hlt
      obtain ⟨b2, o2, z, rfl, hb2, HZ, z1, _⟩ := SlI.atN hx' HXV.out hlt
      have m2 := bcell hbel hmb ml
      have y2 := bcell hbel hb1 y1
      have z2 := bcell hbel hb2 z1
      have hye : y = ent q q.f.length v k := by
        have h := HY.out
        rw [HEL.out, rowF_get _ hlt] at h
        injection h with h
        exact h.symm
      have hze : x.getD k 0 = z := by rw [List.getD_eq_getElem?_getD, HZ.out]; rfl
      have hyr : -12 ≤ y ∧ y ≤ 12 := by rw [hye]; exact HGR.out k
      have hzr := HX3.out z (List.mem_of_getElem? HZ.out)
      have hpr := mul_rng hyr hzr
      obtain ⟨p, hp⟩ : ∃ p, y * z = p := ⟨_, rfl⟩
      rw [hp] at hpr
      have hst : Hid (dotS (ent q q.f.length v) x (k + 1) = s + p) := by show _ = _; rw [dotS, HS.out, ← hye, hze, hp]
      clear hye hze y1 z1
      go_wp2_with fail
      go_quiet (fail)
      go_wp2
      go_roundw
      case rel => exact ⟨k + 1, by omega, by go_num, by rw [hst.out], hown.drewN nq, below_drewN hbel nq⟩
      case measure => simp [intOf]; omega
    · have HKV := Lib.hid (show k = V by omega)
      obtain ⟨g, rfl, hgl⟩ : ∃ g, OA = some ⟨g, 0, none⟩ ∧ w.heap.size ≤ g := by
        rcases hown.1.2 with ⟨e, _⟩ | ⟨g, cap, cur, e, hg, _⟩
        · injection e with _ e _
          omega
        · injection e with e _ _
          exact ⟨g, e, hg⟩
      have hzr := getD_rng HX3.out v
      have ci := (hown.cellG (j := v) (by rw [HXV.out]; exact hv)).1
      have fi := hown.frozenG v
      have HR : Hid (reflL q x v = x.set v (x.getD v 0 - s)) := by show _ = _; rw [reflL, HXV.out, ← HKV.out, HS.out]
      obtain ⟨z, hz⟩ : ∃ z, x.getD v 0 = z := ⟨_, rfl⟩
      rw [hz] at hzr ci
      have hR := HR.out
      rw [hz] at hR
      have HR2 := Lib.hid hR
      have hp := hown.put (j := v) (x := z - s) ⟨by omega, by omega⟩
      rw [← hR] at hp
      have hb2 := hbel.grown hp.2 (by have := hbel.size; omega) (fun j hj => by injection hj with hj; omega)
      have HP := Lib.hid hp.1
      clear hz hR HR hp hown
      go_wp2
      exact bodyPost_ret (v := .slice (some ⟨g, 0, none⟩) V oc) (by simp [results, go_sem]) rfl ⟨_, rfl, IntsO.of_own HP.out, hb2⟩
end Go.Proofs.Ytaefpblpfjhgoaa
