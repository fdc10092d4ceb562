/- A region that draws its order and whose operations make memory: each operation is met once, in the order of the text, under what is known of those that it waits for; what it hands back is told by a relation that outlives growth of the memory. No order is branched over. No program's numbers stand here. -/
import Derived.Test.YtjhllgldllbaaaaBase
import Derived.Orders
namespace Go.Proofs.Ytjhllgldllbaaaa
set_option linter.unusedVariables false
set_option linter.unusedSimpArgs false
open Go.RowKit

/-- What is said of an operation: an equation on its value, or a relation that outlives growth, on its value and on the stretch of memory that it made (its blocks lie from lo on, below hi). -/
structure Gh where
  v : Nat → Value
  lo : Nat → Nat
  hi : Nat → Nat
inductive NS where
  | eq (u : Value)
  | rel (R : Gh → World → Prop)
def restr (i : Nat) (D : List Nat) (x : Gh) : Gh := ⟨fun j => if j = i ∨ j ∈ D then x.v j else undef, fun j => if j = i ∨ j ∈ D then x.lo j else 0, fun j => if j = i ∨ j ∈ D then x.hi j else 0⟩
def NS.holds (s : NS) (i : Nat) (D : List Nat) (x : Gh) (w : World) : Prop :=
  match s with
  | .eq u => x.v i = u
  | .rel R => R (restr i D x) w
def NS.stable (s : NS) : Prop :=
  match s with
  | .eq _ => True
  | .rel R => ∀ x w w', R x w → Below w.heap.size w w' → R x w'
theorem NS.holds_stable {s : NS} (h : s.stable) {i : Nat} {D : List Nat} {x : Gh} {w w' : World} (hh : s.holds i D x w) (hb : Below w.heap.size w w') : s.holds i D x w' := by
  cases s with
  | eq f => exact hh
  | rel R => exact h _ _ _ hh hb
theorem NS.holds_congr {s : NS} {i : Nat} {D : List Nat} {x y : Gh} {w : World} (hv : ∀ j, j = i ∨ j ∈ D → x.v j = y.v j ∧ x.lo j = y.lo j ∧ x.hi j = y.hi j) (hh : s.holds i D x w) : s.holds i D y w := by
  have e : restr i D x = restr i D y := by
    unfold restr
    congr 1 <;> funext j <;> split
    · rename_i h; exact (hv j h).1
    · rfl
    · rename_i h; exact (hv j h).2.1
    · rfl
    · rename_i h; exact (hv j h).2.2
    · rfl
  cases s with
  | eq u => exact (hv i (.inl rfl)).1.symm.trans hh
  | rel R =>
    show R _ w
    rw [← e]
    exact hh
def Gh.set (x : Gh) (i : Nat) (u : Value) (a b : Nat) : Gh := ⟨fun j => if j = i then u else x.v j, fun j => if j = i then a else x.lo j, fun j => if j = i then b else x.hi j⟩

section
variable {P : Program}

theorem act_eval_put {a : Act} {dst : Option Tmp} {v : Value} {t : Tmp} : (a.put dst v).eval (.tmp t) = if dst = some t ∧ t < a.tmps.size then v else a.eval (.tmp t) := by
  cases dst with
  | none => simp [Act.put]
  | some d =>
    by_cases e : d = t
    · subst e
      by_cases hl : d < a.tmps.size
      · simp [Act.put, Act.eval, Array.getD_eq_getD_getElem?, Array.getElem?_setIfInBounds, hl]
      · simp [Act.put, Act.eval, Array.getD_eq_getD_getElem?, Array.getElem?_setIfInBounds, hl]
    · simp [Act.put, Act.eval, Array.getD_eq_getD_getElem?, Array.getElem?_setIfInBounds, e]
theorem act_put_size {a : Act} {dst : Option Tmp} {v : Value} : (a.put dst v).tmps.size = a.tmps.size := by
  cases dst <;> simp [Act.put]
theorem act_put_defers {a : Act} {dst : Option Tmp} {v : Value} : (a.put dst v).defers = a.defers := by
  cases dst <;> rfl
theorem act_put_eq {a b : Act} {dst : Option Tmp} {v u : Value} (h : a.put dst v = a.put dst u) (hs : a.tmps.size = b.tmps.size) : b.put dst v = b.put dst u := by
  cases dst with
  | none => rfl
  | some d =>
    by_cases hl : d < a.tmps.size
    · have h1 := congrArg (fun x : Act => x.eval (.tmp d)) h
      simp only [act_eval_put, hl, and_self, if_true] at h1
      rw [h1]
    · have hb : b.tmps.size ≤ d := hs ▸ Nat.le_of_not_lt hl
      simp only [Act.put]
      rw [Array.setIfInBounds_eq_of_size_le hb, Array.setIfInBounds_eq_of_size_le hb]

/-- One operation at another frame that agrees on what it looks at. -/
theorem wp_transfer {o : Oper} {a b : Act} {w : World} {K : Value → World → Prop} {Q1 Q2 : Exit → Act → World → Prop} (he : execOp b.eval o = execOp a.eval o) (hs : a.tmps.size = b.tmps.size)
    (hp : ∀ c a w, ¬ Q1 (.panic c) a w) (hl : ¬ LetsOut Q1) (h : o.wp P a w (fun a' w' => ∃ u, a' = a.put o.dst u ∧ K u w') Q1) : o.wp P b w (fun b' w' => ∃ u, b' = b.put o.dst u ∧ K u w') Q2 := by
  unfold Oper.wp at *
  rw [he]
  generalize (execOp a.eval o).run P w = r at *
  cases r with
  | ok n w' =>
    cases n <;> simp only [Oper.upon] at h ⊢
    case value v =>
      obtain ⟨u, e, k⟩ := h
      exact ⟨u, act_put_eq e hs, k⟩
    case skip =>
      obtain ⟨u, e, k⟩ := h
      exact ⟨u, act_put_eq e hs, k⟩
    case defer d =>
      obtain ⟨u, e, k⟩ := h
      have := congrArg (fun x : Act => x.defers.length) e
      simp [act_put_defers] at this
    case enter f args =>
      refine Calls.mono h fun e w'' he => ?_
      cases e with
      | returned v =>
        obtain ⟨u, e, k⟩ := he
        exact ⟨u, act_put_eq e hs, k⟩
      | panicked c => exact absurd he (hp _ _ _)
      | outgrown => exact absurd he hl
    case row row args =>
      refine Rows.mono h fun v w'' he => ?_
      obtain ⟨u, e, k⟩ := he
      exact ⟨u, act_put_eq e hs, k⟩
  | halt x w' =>
    cases x <;> simp only [Oper.upon] at h ⊢
    case panic u => exact absurd h (hp _ _ _)

def dstAt (ops : Array Oper) (k : Nat) : Option Tmp := (ops[k]?).bind (·.dst)
/-- the frame behind the operations below k of which p holds -/
def actP (ops : Array Oper) (a : Act) (v : Nat → Value) (p : Nat → Bool) : Nat → Act
  | 0 => a
  | k + 1 => if p k then (actP ops a v p k).put (dstAt ops k) (v k) else actP ops a v p k
/-- .. behind the first k operations -/
def netAct (ops : Array Oper) (a : Act) (v : Nat → Value) : Nat → Act
  | 0 => a
  | k + 1 => (netAct ops a v k).put (dstAt ops k) (v k)
section
variable {ops : Array Oper} {a : Act} {v v' : Nat → Value} {p q : Nat → Bool}
theorem actP_size : ∀ k, (actP ops a v p k).tmps.size = a.tmps.size
  | 0 => rfl
  | k + 1 => by
    unfold actP
    split
    · rw [act_put_size, actP_size k]
    · exact actP_size k
theorem actP_congr : ∀ k, (∀ j, j < k → p j = q j ∧ (p j = true → v j = v' j)) → actP ops a v p k = actP ops a v' q k
  | 0, _ => rfl
  | k + 1, h => by
    have ih := actP_congr k (fun j hj => h j (by omega))
    have hk := h k (by omega)
    unfold actP
    rw [← hk.1, ih]
    split
    · rename_i hp; rw [hk.2 hp]
    · rfl
theorem actP_net : ∀ k, (∀ j, j < k → p j = true) → actP ops a v p k = netAct ops a v k
  | 0, _ => rfl
  | k + 1, h => by
    have ih := actP_net k (fun j hj => h j (by omega))
    unfold actP netAct
    rw [h k (by omega), if_pos rfl, ih]
theorem actP_none : ∀ k i, i ≤ k → (∀ j, i ≤ j → j < k → p j = false) → actP ops a v p k = actP ops a v p i
  | 0, i, hi, _ => by
    have e : i = 0 := by omega
    rw [e]
  | k + 1, i, hi, h => by
    by_cases e : i = k + 1
    · rw [e]
    · have ih := actP_none k i (by omega) (fun j h1 h2 => h j h1 (by omega))
      rw [← ih]
      conv => lhs; unfold actP
      rw [h k (by omega) (by omega)]
      rfl
theorem actP_eval (t : Tmp) : ∀ k, (∀ j, j < k → dstAt ops j = some t → p j = q j) → (actP ops a v p k).eval (.tmp t) = (actP ops a v q k).eval (.tmp t)
  | 0, _ => rfl
  | k + 1, h => by
    have ih := actP_eval t k (fun j hj => h j (by omega))
    unfold actP
    by_cases e : dstAt ops k = some t
    · rw [← h k (by omega) e]
      split
      · rw [act_eval_put, act_eval_put, actP_size, actP_size, ih]
      · exact ih
    · have h1 : ∀ (b : Act) (u : Value), (b.put (dstAt ops k) u).eval (.tmp t) = b.eval (.tmp t) := fun b u => by rw [act_eval_put, if_neg (by intro x; exact e x.1)]
      split <;> split <;> simp only [h1, ih]
theorem actP_evalC (x : Operand) (hx : ∀ t, x ≠ .tmp t) (b c : Act) : b.eval x = c.eval x := by
  cases x with
  | tmp t => exact absurd rfl (hx t)
  | _ => rfl
/-- one operation more -/
theorem actP_add {i : Nat} {u : Value} (hv : ∀ j, j ≠ i → p j = true → v' j = v j) (hvi : v' i = u) (hp : p i = false) (hq : ∀ j, q j = (p j || j == i)) (hd : ∀ j d, i < j → p j = true → dstAt ops j = some d → dstAt ops i ≠ some d) :
    ∀ k, i < k → (actP ops a v p k).put (dstAt ops i) u = actP ops a v' q k
  | 0, h => absurd h (by omega)
  | k + 1, h => by
    by_cases e : i = k
    · subst e
      have h0 : actP ops a v p i = actP ops a v' q i := actP_congr i fun j hj => ⟨by rw [hq]; simp; omega, fun hj' => (hv j (by omega) hj').symm⟩
      conv => lhs; unfold actP
      conv => rhs; unfold actP
      rw [hp, hq, if_neg (by simp), if_pos (by simp), hvi, h0]
    · have ih := actP_add hv hvi hp hq hd k (by omega)
      conv => lhs; unfold actP
      conv => rhs; unfold actP
      have hqk : q k = p k := by rw [hq]; simp; omega
      rw [hqk, ← ih]
      split
      · rename_i hpk
        rw [hv k (by omega) hpk]
        rw [Act.put_comm _ (v k) u (fun d hdd => hd k d (by omega) hpk hdd)]
      · rfl
end

/-- the operations that one waits for at once -/
def directOf (o : Oper) : List Nat := (o.after.toList.filter fun e => Region.binds .any e).map (·.on)
/-- the test of a region: D tells what each operation waits for, m where the tail begins -/
def netAt (ops : Array Oper) (D : List (List Nat)) (m i : Nat) (o : Oper) : Bool :=
  o.guard.isNone && (directOf o).all (· < i) && (D.getD i []).all (fun j => decide (j < i) && ((directOf o).contains j || (directOf o).any fun k => (D.getD k []).contains j)) &&
  (List.range ops.size).all (fun k => match dstAt ops k with
    | none => true
    | some d => (!(o.looksAt ops).contains d || (D.getD i []).contains k || (D.getD k []).contains i) && (k == i || dstAt ops i != some d || (D.getD i []).contains k || (D.getD k []).contains i)) &&
  (decide (i < m) || (List.range i).all fun j => (D.getD i []).contains j)
def netFrom (ops : Array Oper) (D : List (List Nat)) (m : Nat) : Nat → List Oper → Bool
  | _, [] => true
  | i, o :: l => netAt ops D m i o && netFrom ops D m (i + 1) l
def netB (ops : Array Oper) (D : List (List Nat)) (m : Nat) : Bool := decide (m ≤ ops.size) && Region.noSelect ops && netFrom ops D m 0 ops.toList
theorem netFrom_spec {ops : Array Oper} {D : List (List Nat)} {m : Nat} : ∀ (l : List Oper) (k : Nat), netFrom ops D m k l = true → ∀ j o, l[j]? = some o → netAt ops D m (k + j) o = true
  | [], _, _, _, _, h => by simp at h
  | x :: l, k, h, 0, o, hj => by
    simp only [netFrom, Bool.and_eq_true] at h
    simp at hj
    subst hj
    exact h.1
  | x :: l, k, h, j + 1, o, hj => by
    simp only [netFrom, Bool.and_eq_true] at h
    have := netFrom_spec l (k + 1) h.2 j o (by simpa using hj)
    rwa [show k + 1 + j = k + (j + 1) by omega] at this

structure NetOk (ops : Array Oper) (D : List (List Nat)) (m i : Nat) (o : Oper) : Prop where
  guard : o.guard = none
  direct : ∀ e ∈ o.after, Region.binds .any e = true → e.on < i
  dlt : ∀ j ∈ D.getD i [], j < i
  danc : ∀ (S : Nat → Prop), (∀ e ∈ o.after, Region.binds .any e = true → S e.on) → (∀ k, S k → ∀ j ∈ D.getD k [], S j) → ∀ j ∈ D.getD i [], S j
  looks : ∀ k d, dstAt ops k = some d → d ∈ o.looksAt ops → k ∈ D.getD i [] ∨ i ∈ D.getD k []
  dsts : ∀ k d, k ≠ i → dstAt ops k = some d → dstAt ops i = some d → k ∈ D.getD i [] ∨ i ∈ D.getD k []
  tail : m ≤ i → ∀ j, j < i → j ∈ D.getD i []
theorem netAt_spec {ops : Array Oper} {D : List (List Nat)} {m i : Nat} {o : Oper} (h : netAt ops D m i o = true) : NetOk ops D m i o := by
  simp only [netAt, Bool.and_eq_true, List.all_eq_true, Bool.or_eq_true, decide_eq_true_eq, List.mem_range] at h
  obtain ⟨⟨⟨⟨h1, h2⟩, h3⟩, h4⟩, h5⟩ := h
  have hdir : ∀ e ∈ o.after, Region.binds .any e = true → e.on ∈ directOf o := fun e he hb => by
    unfold directOf
    rw [List.mem_map]
    exact ⟨e, by rw [List.mem_filter]; exact ⟨by simpa using he, hb⟩, rfl⟩
  have hk : ∀ {k : Nat} {d : Tmp}, dstAt ops k = some d → k < ops.size := fun {k d} hd => by
    rcases Nat.lt_or_ge k ops.size with h | h
    · exact h
    · simp [dstAt, Array.getElem?_eq_none h] at hd
  refine ⟨by simpa using h1, fun e he hb => h2 _ (hdir e he hb), fun j hj => (h3 j hj).1, fun S hS hc j hj => ?_, fun k d hd hl => ?_, fun k d hne hd hdi => ?_, fun hm j hj => ?_⟩
  · have hD : ∀ k ∈ directOf o, S k := fun k hk => by
      unfold directOf at hk
      rw [List.mem_map] at hk
      obtain ⟨e, he, rfl⟩ := hk
      rw [List.mem_filter] at he
      exact hS e (by simpa using he.1) he.2
    rcases (h3 j hj).2 with h | h
    · exact hD j (by simpa using h)
    · rw [List.any_eq_true] at h
      obtain ⟨k, hk, hkj⟩ := h
      exact hc k (hD k hk) j (by simpa using hkj)
  · have := h4 k (hk hd)
    rw [hd] at this
    simp only [Bool.and_eq_true, Bool.or_eq_true, Bool.not_eq_true', List.contains_iff_mem, List.contains_eq_mem, decide_eq_true_eq, decide_eq_false_iff_not] at this
    rcases this.1 with (h | h) | h
    · exact absurd hl h
    · exact .inl h
    · exact .inr h
  · have := h4 k (hk hd)
    rw [hd] at this
    simp only [Bool.and_eq_true, Bool.or_eq_true, List.contains_eq_mem, decide_eq_true_eq, beq_iff_eq, bne_iff_ne] at this
    rcases this.2 with ((h | h) | h) | h
    · exact absurd h hne
    · exact absurd hdi h
    · exact .inl h
    · exact .inr h
  · rcases h5 with h | h
    · omega
    · simpa using h j hj

section
variable {ops : Array Oper} {Q : Exit → Act → World → Prop} {sp : List NS} {D : List (List Nat)} {m : Nat} {a0 : Act} {w0 : World}

/-- what is known of operation i -/
def known (sp : List NS) (D : List (List Nat)) (x : Gh) (i : Nat) (w : World) : Prop := (sp.getD i (.eq undef)).holds i (D.getD i []) x w

/-- what is to be shown of operation i -/
def netDo (P : Program) (ops : Array Oper) (sp : List NS) (D : List (List Nat)) (a0 : Act) (w0 : World) (i : Nat) (o : Oper) : Prop :=
  ∀ (x : Gh) (w : World), Below w0.heap.size w0 w → (∀ j ∈ D.getD i [], known sp D x j w ∧ x.hi j ≤ w.heap.size) → ∀ Q' : Exit → Act → World → Prop,
    (∀ u w', Below w.heap.size w w' → (sp.getD i (.eq undef)).holds i (D.getD i []) (x.set i u w.heap.size w'.heap.size) w' → Q' .normal ((netAct ops a0 x.v i).put o.dst u) w') → wpList P ops Q' [o] (netAct ops a0 x.v i) w

/-- the tail, in the order of the text -/
theorem net_tail (hok : ∀ i o, ops[i]? = some o → NetOk ops D m i o) : ∀ (fuel k : Nat) (listed : Array Bool) (a : Act) (w : World), fuel + k = ops.size → m ≤ k → listed.size = ops.size → (∀ j, listed.getD j false = decide (j < k)) →
    wpList P ops Q (ops.toList.drop k) a w → wpAny P .any ops Q fuel listed a w
  | fuel, k, listed, a, w, hf, hm, hls, hl, h => by
    have hld : ∀ j, j < ops.size → listed.getD j true = decide (j < k) := fun j hj => by
      rw [← hl j]
      simp [Array.getD_eq_getD_getElem?, Array.getElem?_eq_getElem (show j < listed.size by omega)]
    have hr : ∀ i ∈ Region.ready .any ops listed, i = k ∧ k < ops.size := fun i hi => by
      obtain ⟨h0, o, ho, hall⟩ := mem_ready.1 hi
      have hin := (Array.getElem?_eq_some_iff.1 ho).1
      rw [hld i hin] at h0
      have hik : k ≤ i := by simpa using h0
      refine ⟨?_, by omega⟩
      have hcl := (hok i o ho).danc (fun j => j < k) (fun e he hb => by have := hall e he hb; rw [hl] at this; simpa using this) (fun j hj x hx => by
        have hjs : j < ops.size := by omega
        have := (hok j _ (Array.getElem?_eq_getElem hjs)).dlt x hx
        omega)
      rcases Nat.lt_or_ge k i with hlt | hge
      · have := hcl k ((hok i o ho).tail (by omega) k hlt)
        omega
      · omega
    cases fuel with
    | zero =>
      refine ⟨?_, ?_⟩
      · apply List.eq_nil_iff_forall_not_mem.2
        intro i hi
        have := hr i hi
        omega
      · rw [List.drop_of_length_le (by simp; omega)] at h
        exact h
    | succ fuel =>
      have hks : k < ops.size := by omega
      have hke := Array.getElem?_eq_getElem hks
      have hdrop : ops.toList.drop k = ops[k] :: ops.toList.drop (k + 1) := by
        rw [List.drop_eq_getElem_cons (by simpa using hks)]
        simp
      rw [hdrop] at h
      have hready : k ∈ Region.ready .any ops listed := mem_ready.2 ⟨by rw [hld k hks]; simp, _, hke, fun e he hb => by rw [hl]; simpa using (hok k _ hke).direct e he hb⟩
      refine ⟨fun h0 => (by rw [h0] at hready; cases hready), fun i hi => ?_⟩
      obtain ⟨rfl, _⟩ := hr i hi
      unfold wpOp
      simp only [hke]
      have hw : Region.wanted ops[i] (yielded ops a.tmps) = true := by simp [Region.wanted, (hok i _ hke).guard]
      simp only [wpList, hw, if_true] at h ⊢
      have nxt : ∀ a w, wpList P ops Q (ops.toList.drop (i + 1)) a w → wpAny P .any ops Q fuel (listed.setIfInBounds i true) a w := fun a w h =>
        net_tail hok fuel (i + 1) _ a w (by omega) (by omega) (by simpa using hls) (fun j => by
          by_cases e : i = j
          · subst e
            simp [Array.getD_eq_getD_getElem?, Array.getElem?_setIfInBounds, hls, hks]
          · rw [getD_set_ne _ e, hl]
            congr 1
            rw [eq_iff_iff]
            omega) h
      rcases h with h | h
      · exact .inl (Oper.wp_mono nxt h)
      · exact .inr h

theorem net_any (hB : netB ops D m = true) (hst : ∀ s ∈ sp, s.stable) (hdo : ∀ i o, i < m → ops[i]? = some o → netDo P ops sp D a0 w0 i o)
    (hend : ∀ x w, Below w0.heap.size w0 w → (∀ i, i < m → known sp D x i w) → (∀ i, i < m → w0.heap.size ≤ x.lo i ∧ x.lo i ≤ x.hi i ∧ x.hi i ≤ w.heap.size) → (∀ i j, i < m → j < m → i ≠ j → x.hi i ≤ x.lo j ∨ x.hi j ≤ x.lo i) → wpList P ops Q (ops.toList.drop m) (netAct ops a0 x.v m) w) :
    ∀ (fuel : Nat) (listed : Array Bool) (x : Gh) (w : World), ((List.range ops.size).filter fun j => !listed.getD j false).length = fuel → listed.size = ops.size → (∀ j, m ≤ j → listed.getD j false = false) →
      (∀ i, listed.getD i false = true → ∀ j ∈ D.getD i [], listed.getD j false = true) → Below w0.heap.size w0 w → (∀ i, listed.getD i false = true → known sp D x i w) → (∀ i, listed.getD i false = true → w0.heap.size ≤ x.lo i ∧ x.lo i ≤ x.hi i ∧ x.hi i ≤ w.heap.size) →
      (∀ i j, listed.getD i false = true → listed.getD j false = true → i ≠ j → x.hi i ≤ x.lo j ∨ x.hi j ≤ x.lo i) →
      wpAny P .any ops Q fuel listed (actP ops a0 x.v (fun j => listed.getD j false) ops.size) w := by
  simp only [netB, Bool.and_eq_true, decide_eq_true_eq] at hB
  obtain ⟨⟨hm, hns⟩, hnf⟩ := hB
  have hok : ∀ i o, ops[i]? = some o → NetOk ops D m i o := fun i o ho => netAt_spec (by
    have := netFrom_spec ops.toList 0 hnf i o (by simpa using ho)
    simpa using this)
  have hst' : ∀ i, (sp.getD i (.eq undef)).stable := fun i => by
    rw [List.getD_eq_getElem?_getD]
    rcases h : sp[i]? with _ | s
    · trivial
    · exact hst s (List.mem_of_getElem? h)
  intro fuel
  induction fuel with
  | zero =>
    intro listed x w hc hls hlm hcl hb hkn hiv hdj
    -- all are listed: then m is the region's size
    have hall : ∀ j, j < ops.size → listed.getD j false = true := fun j hj => by
      rw [List.length_eq_zero_iff, List.filter_eq_nil_iff] at hc
      have := hc j (List.mem_range.2 hj)
      simpa using this
    have hms : m = ops.size := by
      rcases Nat.lt_or_ge m ops.size with h | h
      · have := hall m h
        rw [hlm m (Nat.le_refl _)] at this
        cases this
      · omega
    refine net_tail hok 0 ops.size listed _ w (by omega) (by omega) hls (fun j => ?_) ?_
    · by_cases hj : j < ops.size
      · rw [hall j hj]; simp [hj]
      · rw [hlm j (by omega)]; simp [hj]
    · have := hend x w hb (fun i hi => hkn i (hall i (by omega))) (fun i hi => hiv i (hall i (by omega))) (fun i j hi hj => hdj i j (hall i (by omega)) (hall j (by omega)))
      rw [← actP_net (p := fun j => listed.getD j false) m (fun j hj => hall j (by omega))] at this
      rwa [hms] at this
  | succ fuel ih =>
    intro listed x w hc hls hlm hcl hb hkn hiv hdj
    by_cases hfull : ∀ j, j < m → listed.getD j false = true
    · -- the tail
      have hl : ∀ j, listed.getD j false = decide (j < m) := fun j => by
        by_cases hj : j < m
        · rw [hfull j hj]; simp [hj]
        · rw [hlm j (by omega)]; simp [hj]
      have hcnt : fuel + 1 + m = ops.size := by
        rw [← hc]
        have e : (List.range ops.size).filter (fun j => !listed.getD j false) = (List.range' m (ops.size - m)) := by
          have e1 : (List.range ops.size) = List.range m ++ List.range' m (ops.size - m) := by
            have h := List.range'_append_1 (s := 0) (m := m) (n := ops.size - m)
            rw [Nat.zero_add] at h
            rw [List.range_eq_range', List.range_eq_range', h]
            congr 1
            omega
          rw [e1, List.filter_append]
          rw [List.filter_eq_nil_iff.2 (fun j hj => by rw [hl]; simp at hj ⊢; exact hj), List.nil_append]
          rw [List.filter_eq_self.2 (fun j hj => by rw [hl]; simp [List.mem_range'] at hj ⊢; omega)]
        rw [e, List.length_range']
        omega
      refine net_tail hok (fuel + 1) m listed _ w (by omega) (Nat.le_refl _) hls hl ?_
      have := hend x w hb (fun i hi => hkn i (hfull i hi)) (fun i hi => hiv i (hfull i hi)) (fun i j hi hj => hdj i j (hfull i hi) (hfull j hj))
      rw [← actP_net (p := fun j => listed.getD j false) m hfull] at this
      rwa [actP_none (p := fun j => listed.getD j false) ops.size m hm (fun j h1 _ => hlm j h1)]
    · -- one of the net
      have hne : Region.ready .any ops listed ≠ [] := by
        intro h0
        -- the least that is not listed is ready
        have : ∀ n, ∀ j, j < n → j < m → listed.getD j false = true := by
          intro n
          induction n with
          | zero => intro j hj; omega
          | succ n ihn =>
            intro j hj hjm
            by_cases e : j < n
            · exact ihn j e hjm
            · rcases hlj : listed.getD j false with _ | _
              · exfalso
                have hjs : j < ops.size := by omega
                have hje := Array.getElem?_eq_getElem hjs
                have : j ∈ Region.ready .any ops listed := mem_ready.2 ⟨by
                  rw [← hlj]
                  simp [Array.getD_eq_getD_getElem?, Array.getElem?_eq_getElem (show j < listed.size by omega)], _, hje, fun e he hb => by
                  have := (hok j _ hje).direct e he hb
                  exact ihn e.on (by omega) (by omega)⟩
                rw [h0] at this
                cases this
              · rfl
        exact hfull fun j hj => this (j + 1) j (by omega) hj
      refine ⟨fun h0 => absurd h0 hne, fun i hi => ?_⟩
      obtain ⟨h0, o, ho, hall⟩ := mem_ready.1 hi
      have his := (Array.getElem?_eq_some_iff.1 ho).1
      have hO := hok i o ho
      have hDl : ∀ j ∈ D.getD i [], listed.getD j false = true := hO.danc (fun j => listed.getD j false = true) hall (fun k hk j hj => hcl k hk j hj)
      have him : i < m := by
        rcases Nat.lt_or_ge i m with h | h
        · exact h
        · exact absurd (fun j hj => hDl j (hO.tail h j (by omega))) hfull
      have hli : listed.getD i false = false := by
        rw [← h0]
        simp [Array.getD_eq_getD_getElem?, Array.getElem?_eq_getElem (show i < listed.size by omega)]
      have hpre := hdo i o him ho x w hb (fun j hj => ⟨hkn j (hDl j hj), (hiv j (hDl j hj)).2.2⟩) (fun e b w' => e = .normal ∧ ∃ u, b = (netAct ops a0 x.v i).put o.dst u ∧ (Below w.heap.size w w' ∧ (sp.getD i (.eq undef)).holds i (D.getD i []) (x.set i u w.heap.size w'.heap.size) w'))
        (fun u w' h1 h2 => ⟨rfl, u, rfl, h1, h2⟩)
      have hwant : ∀ b : Act, Region.wanted o (yielded ops b.tmps) = true := fun b => by simp [Region.wanted, hO.guard]
      have hnl : ¬ LetsOut (fun (e : Exit) (b : Act) (w' : World) => e = .normal ∧ ∃ u, b = (netAct ops a0 x.v i).put o.dst u ∧ (Below w.heap.size w w' ∧ (sp.getD i (.eq undef)).holds i (D.getD i []) (x.set i u w.heap.size w'.heap.size) w')) := by
        rintro ⟨b, w', h, _⟩
        cases h
      simp only [wpList, hwant, if_true] at hpre
      rcases hpre with hpre | hpre
      case inr => exact absurd hpre.2 hnl
      simp only [true_and] at hpre
      have hexec : execOp (actP ops a0 x.v (fun j => listed.getD j false) ops.size).eval o = execOp (netAct ops a0 x.v i).eval o := by
        refine execOp_congr o (fun cs b => Region.noSelect_spec hns i o cs b ho) fun y hx => ?_
        by_cases hxt : ∃ t, y = .tmp t
        · obtain ⟨t, rfl⟩ := hxt
          have hlook : t ∈ o.looksAt ops := List.mem_append_left _ (List.mem_filterMap.2 ⟨.tmp t, by simpa using hx, rfl⟩)
          have e1 : netAct ops a0 x.v i = actP ops a0 x.v (fun j => decide (j < i)) ops.size := by
            rw [actP_none (p := fun j => decide (j < i)) ops.size i (by omega) (fun j h1 _ => by simp; omega)]
            exact (actP_net (p := fun j => decide (j < i)) i (fun j hj => by simp [hj])).symm
          rw [e1]
          refine actP_eval t ops.size fun j hj hd => ?_
          rcases hO.looks j t hd hlook with h | h
          · rw [hDl j h]; have := hO.dlt j h; simp [this]
          · have hlt := (hok j _ (Array.getElem?_eq_getElem hj)).dlt i h
            have : listed.getD j false = false := by
              rcases hlj : listed.getD j false with _ | _
              · rfl
              · have := hcl j hlj i h
                rw [hli] at this
                cases this
            rw [this]; simp; omega
        · exact actP_evalC y (fun t h => hxt ⟨t, h⟩) _ _
      have hsz : (netAct ops a0 x.v i).tmps.size = (actP ops a0 x.v (fun j => listed.getD j false) ops.size).tmps.size := by
        rw [actP_size, ← actP_net (p := fun _ => true) i (fun _ _ => rfl), actP_size]
      have hT := wp_transfer (Q2 := Q) hexec hsz (fun c b w' h => by cases h.1) hnl hpre
      unfold wpOp
      simp only [ho, hwant, if_true]
      refine .inl (Oper.wp_mono ?_ hT)
      rintro b w' ⟨u, rfl, hbw, hh⟩
      have hdst : o.dst = dstAt ops i := by simp [dstAt, ho]
      have hlq : ∀ j, (listed.setIfInBounds i true).getD j false = (listed.getD j false || j == i) := fun j => by
        by_cases e : i = j
        · subst e
          simp [Array.getD_eq_getD_getElem?, Array.getElem?_setIfInBounds, hls, his]
        · rw [getD_set_ne _ e]
          simp [Ne.symm e]
      rw [hdst, actP_add (v' := (x.set i u w.heap.size w'.heap.size).v) (q := fun j => (listed.setIfInBounds i true).getD j false) (fun j hj _ => by simp [Gh.set, hj]) (by simp [Gh.set]) hli hlq (fun j d hij hlj hdj hdi => by
        rcases hO.dsts j d (by omega) hdj hdi with h | h
        · have := hO.dlt j h; omega
        · have := hcl j hlj i h
          rw [hli] at this
          cases this) ops.size his]
      refine ih _ _ _ ?_ (by simpa using hls) (fun j hj => by rw [hlq, hlm j hj]; simp; omega) (fun k hk j hj => ?_) (hb.trans (hbw.mono hb.size)) (fun k hk => ?_) (fun k hk => ?_) (fun k j hk hj hkj => ?_)
      · -- the count
        have hmem : i ∈ (List.range ops.size).filter fun j => !listed.getD j false := by
          rw [List.mem_filter]; exact ⟨List.mem_range.2 his, by rw [hli]; rfl⟩
        have e : (List.range ops.size).filter (fun j => !(listed.setIfInBounds i true).getD j false) = ((List.range ops.size).filter fun j => !listed.getD j false).filter (fun j => j != i) := by
          rw [List.filter_filter]
          congr 1
          funext j
          rw [hlq]
          simp [Bool.not_or, Bool.and_comm, bne]
        have hnd : ((List.range ops.size).filter fun j => !listed.getD j false).Nodup := List.nodup_range.filter _
        rw [e]
        have := List.length_erase_of_mem hmem
        rw [hnd.erase_eq_filter, hc] at this
        simpa using this
      · rw [hlq] at hk ⊢
        simp only [Bool.or_eq_true, beq_iff_eq] at hk ⊢
        rcases hk with hk | rfl
        · exact .inl (hcl k hk j hj)
        · exact .inl (hDl j hj)
      · rw [hlq] at hk
        simp only [Bool.or_eq_true, beq_iff_eq] at hk
        unfold known
        by_cases e : k = i
        · subst e
          exact hh
        · rcases hk with hk | hk
          · refine NS.holds_congr (x := x) (fun j hj => ?_) (NS.holds_stable (hst' k) (hkn k hk) hbw)
            have hji : j ≠ i := by
              rcases hj with rfl | hj
              · exact e
              · rintro rfl
                have := hcl k hk j hj
                rw [hli] at this
                cases this
            simp [Gh.set, hji]
          · exact absurd hk e
      · rw [hlq] at hk
        simp only [Bool.or_eq_true, beq_iff_eq] at hk
        by_cases e : k = i
        · subst e
          simp only [Gh.set, if_true]
          exact ⟨hb.size, hbw.size, Nat.le_refl _⟩
        · have := hiv k (hk.resolve_right e)
          have := hbw.size
          simp only [Gh.set, if_neg e]
          omega
      · rw [hlq] at hk hj
        simp only [Bool.or_eq_true, beq_iff_eq] at hk hj
        by_cases e : k = i
        · subst e
          have := hiv j (hj.resolve_right (Ne.symm hkj))
          simp only [Gh.set, if_true, if_neg (Ne.symm hkj)]
          exact .inr (by omega)
        · by_cases e' : j = i
          · subst e'
            have := hiv k (hk.resolve_right e)
            simp only [Gh.set, if_true, if_neg e]
            exact .inl (by omega)
          · simp only [Gh.set, if_neg e, if_neg e']
            exact hdj k j (hk.resolve_right e) (hj.resolve_right e') hkj

theorem repl_getD (n j : Nat) : (Array.replicate n false).getD j false = false := by
  rw [Array.getD_eq_getD_getElem?, Array.getElem?_replicate]
  split <;> rfl
def stableAll : List NS → Prop
  | [] => True
  | s :: l => s.stable ∧ stableAll l
theorem stableAll_spec : ∀ {l : List NS}, stableAll l → ∀ s ∈ l, s.stable
  | [], _, s, hs => by simp at hs
  | a :: l, h, s, hs => by
    rcases List.mem_cons.1 hs with rfl | hs
    · exact h.1
    · exact stableAll_spec h.2 s hs
def netAll (P : Program) (ops : Array Oper) (sp : List NS) (D : List (List Nat)) (a0 : Act) (w0 : World) : Nat → List Oper → Prop
  | _, [] => True
  | i, o :: l => netDo P ops sp D a0 w0 i o ∧ netAll P ops sp D a0 w0 (i + 1) l
theorem netAll_spec {ops : Array Oper} {sp : List NS} {D : List (List Nat)} {a0 : Act} {w0 : World} : ∀ (l : List Oper) (k : Nat), netAll P ops sp D a0 w0 k l → ∀ j o, l[j]? = some o → netDo P ops sp D a0 w0 (k + j) o
  | [], _, _, _, _, h => by simp at h
  | x :: l, k, h, 0, o, hj => by
    simp at hj
    subst hj
    exact h.1
  | x :: l, k, h, j + 1, o, hj => by
    have := netAll_spec l (k + 1) h.2 j o (by simpa using hj)
    rwa [show k + 1 + j = k + (j + 1) by omega] at this
/-- a relation on the value alone -/
def rel (i : Nat) (R : Value → Nat → Nat → World → Prop) : NS := .rel fun x w => R (x.v i) (x.lo i) (x.hi i) w
theorem rel_stable {i : Nat} {R : Value → Nat → Nat → World → Prop} (h : ∀ u lo hi w w', R u lo hi w → Below w.heap.size w w' → R u lo hi w') : (rel i R).stable := fun v w w' hr hb => h _ _ _ _ _ hr hb
/-- THE LAW. -/
theorem wp_region_net {id : Nat} {l : List Oper} {w : World} (hmo : P.follows .mixedOrders = true) (sp : List NS) (D : List (List Nat)) (m : Nat) (hB : netB l.toArray D m = true) (hst : stableAll sp)
    (hdo : netAll P l.toArray sp D a0 w 0 (l.take m))
    (hend : ∀ x w', Below w.heap.size w w' → (∀ i, i < m → known sp D x i w') → (∀ i, i < m → w.heap.size ≤ x.lo i ∧ x.lo i ≤ x.hi i ∧ x.hi i ≤ w'.heap.size) → (∀ i j, i < m → j < m → i ≠ j → x.hi i ≤ x.lo j ∨ x.hi j ≤ x.lo i) → wpList P l.toArray Q (l.drop m) (netAct l.toArray a0 x.v m) w') : (Code.region id l.toArray true).wp P Q a0 w := by
  replace hst := stableAll_spec hst
  have hdo : ∀ i o, i < m → l[i]? = some o → netDo P l.toArray sp D a0 w.drew i o := fun i o hi ho => by
    have := netAll_spec (l.take m) 0 hdo i o (by rw [List.getElem?_take, if_pos hi]; exact ho)
    rw [Nat.zero_add] at this
    exact fun v w1 hb => this v w1 ⟨hb.os, hb.tape, hb.output, hb.size, hb.block⟩
  refine wp_region_any hmo ?_
  have h := net_any (w0 := w.drew) (a0 := a0) (Q := Q) (P := P) (sp := sp) hB hst (fun i o hi ho => hdo i o hi (by simpa using ho)) (fun x w' hb hk hiv hdj => by simpa using hend x w' (show Below w.heap.size w w' from ⟨hb.os, hb.tape, hb.output, hb.size, hb.block⟩) hk hiv hdj)
    l.toArray.size (Array.replicate l.toArray.size false) ⟨fun _ => undef, fun _ => 0, fun _ => 0⟩ w.drew
    (by rw [List.filter_eq_self.2 (fun j _ => by rw [repl_getD]; rfl), List.length_range])
    (by simp) (fun j _ => repl_getD _ _)
    (fun i hi => by rw [repl_getD] at hi; cases hi)
    (Below.refl _ _)
    (fun i hi => by rw [repl_getD] at hi; cases hi)
    (fun i hi => by rw [repl_getD] at hi; cases hi)
    (fun i j hi => by rw [repl_getD] at hi; cases hi)
  have e : actP l.toArray a0 (fun _ => undef) (fun j => (Array.replicate l.toArray.size false).getD j false) l.toArray.size = a0 :=
    actP_none l.toArray.size 0 (by omega) (fun j _ _ => repl_getD _ _)
  rw [e] at h
  exact h
end
end
end Go.Proofs.Ytjhllgldllbaaaa
