/- FnExactFiltrationRep: for every argument the program's function returns what the reference's returns. Part 2 of 11 of the proof: IsQ, FiltC, OwnI, Comp, CompL, Comp2, LineOf. No condition. -/
import Derived.Test.YtcmlflppndfdcaaBFiltrationRep1
import Derived.Shelf.RegionOpenPlain
/- The two IsQuiver. -/
namespace Go.Proofs.Ytcmlflppndfdcaa
set_option linter.unusedVariables false
set_option linter.unusedSimpArgs false
open Go.RowKit

/-- A valid quiver. -/
def isQ (q : Qv) : Bool := inR q.v 1 5 && decide (q.f.length = q.t.length) && decide (q.f.length ≤ 6) && allR q.f 0 (q.v - 1) && allR q.t 0 (q.v - 1)

theorem isQ_t {q : Qv} : isQ q = true ↔ (1 ≤ q.v ∧ q.v ≤ 5) ∧ q.f.length = q.t.length ∧ q.f.length ≤ 6 ∧ (∀ x ∈ q.f, 0 ≤ x ∧ x ≤ q.v - 1) ∧ (∀ x ∈ q.t, 0 ≤ x ∧ x ≤ q.v - 1) := by
  simp only [isQ, Bool.and_eq_true, inR_t, allR_t, decide_eq_true_eq, and_assoc]

set_option maxHeartbeats 800000 in
theorem implIsQuiver_any (u : Value) (q : Qv) (w : World) (hu : QvR w w.heap.size u q) :
    Calls Try.prog 99 #[u] w fun e w' => e = .returned (.bool (isQ q)) ∧ Below w.heap.size w w' := by
  obtain ⟨A, c, C, d, rfl, hf, ht, hr, lf, lt⟩ := hu.open_
  clear hu
  obtain ⟨W, hW⟩ : ∃ W, W = w.alloc (.cells #[.int .i64 q.v, .slice A q.f.length c, .slice C q.t.length d] 28) := ⟨_, rfl⟩
  have g0 : Below w.heap.size w W := by rw [hW]; exact below_alloc _ _
  have kB : Blk W w.heap.size 28 #[.int .i64 q.v, .slice A q.f.length c, .slice C q.t.length d] := by rw [hW]; exact Blk.new _ _ _
  have c0 := kB.cell' (i := 0) rfl
  have c1 := kB.cell' (i := 1) rfl
  have c2 := kB.cell' (i := 2) rfl
  unfold isQ
  rcases h1 : inR q.v 1 5 with _ | _
  · go_enter Try.func99, Try.ntmps99
    go_wp2_with fail
    rw [← hW]; clear hW
    refine (within_any _ _ _ _).mono ?_; rintro e w' ⟨rfl, rfl⟩
    rw [h1]
    go_wp2
    go_ret
    exact ⟨rfl, g0⟩
  have hb := inR_t.1 h1
  obtain ⟨hb1, hb2⟩ := hb
  by_cases h2 : q.f.length = q.t.length
  · have e2 : ((q.f.length : Int) == q.t.length) = true := by rw [beq_iff_eq]; omega
    by_cases h3 : q.f.length ≤ 6
    · have e3 : decide (q.f.length ≤ 6) = true := by simpa using h3
      have e2' : decide (q.f.length = q.t.length) = true := by simpa using h2
      rw [e2', e3]
      clear h2 e2' e3
      obtain ⟨B1, hB1⟩ : ∃ B, allR q.f 0 (q.v - 1) = B := ⟨_, rfl⟩
      obtain ⟨B2, hB2⟩ : ∃ B, allR q.t 0 (q.v - 1) = B := ⟨_, rfl⟩
      rw [hB1, hB2]
      have HB1 := Lib.hid hB1
      have HB2 := Lib.hid hB2
      clear hB1 hB2
      cases B1
      · go_enter Try.func99, Try.ntmps99
        go_wp2_with fail
        rw [← hW]; clear hW
        refine (within_any _ _ _ _).mono ?_; rintro e w' ⟨rfl, rfl⟩
        rw [h1]
        go_wp2_with fail
        refine (allWithin_any _ q.f _ _ _ (SlI.next g0 hf)).mono ?_; rintro e w1 ⟨rfl, hb1⟩
        rw [HB1.out]
        go_wp2
        go_ret
        exact ⟨rfl, bthen g0 hb1⟩
      · go_enter Try.func99, Try.ntmps99
        go_wp2_with fail
        rw [← hW]; clear hW
        refine (within_any _ _ _ _).mono ?_; rintro e w' ⟨rfl, rfl⟩
        rw [h1]
        go_wp2_with fail
        refine (allWithin_any _ q.f _ _ _ (SlI.next g0 hf)).mono ?_; rintro e w1 ⟨rfl, hb1⟩
        rw [HB1.out]
        have d0 := (kB.call hb1).cell' (i := 0) rfl
        have d2 := (kB.call hb1).cell' (i := 2) rfl
        have g1 := bthen g0 hb1
        clear c0 c1 c2
        go_wp2_with fail
        refine (allWithin_any _ q.t _ _ _ (SlI.next g1 ht)).mono ?_; rintro e w2 ⟨rfl, hb2⟩
        rw [HB2.out]
        go_wp2
        go_ret
        exact ⟨rfl, bthen g1 hb2⟩
    · have e3 : decide (q.f.length ≤ 6) = false := by simpa using h3
      rw [e3]
      have e3' : ¬ ((q.f.length : Int) ≤ 6) := by omega
      clear h2
      simp only [Bool.and_false, Bool.false_and]
      go_enter Try.func99, Try.ntmps99
      go_wp2_with fail
      rw [← hW]; clear hW
      refine (within_any _ _ _ _).mono ?_; rintro e w' ⟨rfl, rfl⟩
      rw [h1]
      go_wp2
      go_ret
      exact ⟨rfl, g0⟩
  · have e2 : ((q.f.length : Int) == q.t.length) = false := by rw [beq_eq_false_iff_ne]; omega
    have e2' : decide (q.f.length = q.t.length) = false := by simpa using h2
    rw [e2']
    simp only [Bool.and_false, Bool.false_and]
    go_enter Try.func99, Try.ntmps99
    go_wp2_with fail
    rw [← hW]; clear hW
    refine (within_any _ _ _ _).mono ?_; rintro e w' ⟨rfl, rfl⟩
    rw [h1]
    go_wp2
    go_ret
    exact ⟨rfl, g0⟩

/-- what the reference's loop has met -/
def okTo (q : Qv) (k : Nat) : Prop := (∀ x ∈ q.f.take k, inR x 0 (wrap64 (q.v - 1)) = true) ∧ ∀ x ∈ q.t.take k, inR x 0 (wrap64 (q.v - 1)) = true
theorem isQ_bad {q : Qv} {x : Int} (hx : x ∈ q.f ∨ x ∈ q.t) (hr : inR x 0 (wrap64 (q.v - 1)) = false) : isQ q = false := by
  by_cases h : isQ q = true
  · obtain ⟨hv, _, _, hf, ht⟩ := isQ_t.1 h
    have e : wrap64 (q.v - 1) = q.v - 1 := IntWalk.wrap64_in _ ⟨by omega, by omega⟩
    rw [e, inR_f] at hr
    rcases hx with hx | hx
    · exact absurd (hf x hx) hr
    · exact absurd (ht x hx) hr
  · simpa using h
theorem isQ_end {q : Qv} {k : Nat} (h : okTo q k) (hk : ¬ (k < q.f.length ∧ k < q.t.length)) : isQ q = (inR q.v 1 5 && decide (q.f.length ≤ 6) && decide (q.t.length = q.f.length)) := by
  rw [Bool.eq_iff_iff, isQ_t]
  simp only [Bool.and_eq_true, inR_t, decide_eq_true_eq]
  constructor
  · rintro ⟨h1, h2, h3, _⟩
    exact ⟨⟨h1, h3⟩, h2.symm⟩
  · rintro ⟨⟨h1, h3⟩, h2⟩
    have e : wrap64 (q.v - 1) = q.v - 1 := IntWalk.wrap64_in _ ⟨by omega, by omega⟩
    unfold okTo at h
    rw [e, List.take_of_length_le (by omega), List.take_of_length_le (by omega)] at h
    exact ⟨h1, h2.symm, h3, fun x hx => inR_t.1 (h.1 x hx), fun x hx => inR_t.1 (h.2 x hx)⟩
theorem okTo_step {q : Qv} {k : Nat} {x y : Int} (h : okTo q k) (hx : q.f[k]? = some x) (hy : q.t[k]? = some y) (h1 : inR x 0 (wrap64 (q.v - 1)) = true) (h2 : inR y 0 (wrap64 (q.v - 1)) = true) : okTo q (k + 1) := by
  refine ⟨fun z hz => ?_, fun z hz => ?_⟩
  · rw [take_snoc hx, List.mem_append, List.mem_singleton] at hz
    rcases hz with hz | rfl
    · exact h.1 z hz
    · exact h1
  · rw [take_snoc hy, List.mem_append, List.mem_singleton] at hz
    rcases hz with hz | rfl
    · exact h.2 z hz
    · exact h2

set_option maxHeartbeats 1600000 in
theorem specIsQuiver_any (u : Value) (q : Qv) (w : World) (hu : QvR w w.heap.size u q) :
    Calls Try.prog 97 #[u] w fun e w' => e = .returned (.bool (isQ q)) ∧ Below w.heap.size w w' := by
  obtain ⟨A, c, C, d, rfl, hf, ht, hr, lf, lt⟩ := hu.open_
  clear hu
  have g0 : Below w.heap.size w (w.alloc (.cells #[.int .i64 q.v, .slice A q.f.length c, .slice C q.t.length d] 28)) := below_alloc _ _
  have kB := Blk.new w 28 #[.int .i64 q.v, .slice A q.f.length c, .slice C q.t.length d]
  go_enter Try.func97, Try.ntmps97
  go_wp2
  go_loopw [3] (fun i wr => ∃ k : Nat, k ≤ q.f.length ∧ i = .int .i64 k ∧ Below w.heap.size w wr ∧ Blk wr w.heap.size 28 #[.int .i64 q.v, .slice A q.f.length c, .slice C q.t.length d] ∧ Hid (okTo q k)) (fun i _ => q.f.length - (intOf i).toNat)
  case atStart => exact ⟨0, Nat.zero_le _, rfl, g0, kB, by intro x hx; simp at hx, by intro x hx; simp at hx⟩
  case round =>
    clear g0 kB
    obtain ⟨k, hk, rfl, hbel, kB, hok⟩ := hrel
    have c0 := kB.cell' (i := 0) rfl
    have c1 := kB.cell' (i := 1) rfl
    have c2 := kB.cell' (i := 2) rfl
    by_cases hlt : k < q.f.length ∧ k < q.t.length
    · obtain ⟨hlt1, hlt2⟩ := hlt
      obtain ⟨b, o, x, rfl, hb, HX, x1, _⟩ := SlI.at_ hf hlt1
      obtain ⟨b', o', y, rfl, hb', HY, y1, _⟩ := SlI.at_ ht hlt2
      have s := hbel.size
      have d0 := InB.cell kB.lt c0
      have d1 := InB.cell kB.lt c1
      have d2 := InB.cell kB.lt c2
      have d3 := InB.cell (by omega) (bcell hbel hb x1)
      have d4 := InB.cell (by omega) (bcell hbel hb' y1)
      obtain ⟨u, hU⟩ : ∃ u, wrap64 (q.v - 1) = u := ⟨_, rfl⟩
      have HU := Lib.hid hU
      clear x1 y1 hf ht c0
      rcases hB1 : inR x 0 u with _ | _
      · have hfin := Lib.hid (isQ_bad (q := q) (.inl (List.mem_of_getElem? HX.out)) (by rw [HU.out]; exact hB1))
        go_wp2
        (refine wp_region_inB (by kernel_rfl) (by kernel_rfl) ?_; (repeat (go_big_quiet_step ((go_at_call 90; exact InB.call_same (l1In_any _ _ _ _))))); refine wpQuiet_nil ?_; intro w1 hw'; obtain ⟨s1, hw1⟩ := hw'; have hb1 := s1.below; rw [← hw1] at hb1; clear hw1 s1)
        go_wp2
        go_ret
        exact ⟨by rw [hfin.out]; rfl, hbel.trans (hb1.mono s)⟩
      · rcases hB2 : inR y 0 u with _ | _
        · have hfin := Lib.hid (isQ_bad (q := q) (.inr (List.mem_of_getElem? HY.out)) (by rw [HU.out]; exact hB2))
          go_wp2
          (refine wp_region_inB (by kernel_rfl) (by kernel_rfl) ?_; (repeat (go_big_quiet_step ((go_at_call 90; exact InB.call_same (l1In_any _ _ _ _))))); refine wpQuiet_nil ?_; intro w1 hw'; obtain ⟨s1, hw1⟩ := hw'; have hb1 := s1.below; rw [← hw1] at hb1; clear hw1 s1)
          go_wp2
          go_ret
          exact ⟨by rw [hfin.out]; rfl, hbel.trans (hb1.mono s)⟩
        · go_wp2
          (refine wp_region_inB (by kernel_rfl) (by kernel_rfl) ?_; (repeat (go_big_quiet_step ((go_at_call 90; exact InB.call_same (l1In_any _ _ _ _))))); refine wpQuiet_nil ?_; intro w1 hw'; obtain ⟨s1, hw1⟩ := hw'; have hb1 := s1.below; rw [← hw1] at hb1; clear hw1 s1)
          go_wp2
          go_roundw
          case rel => exact ⟨k + 1, by omega, by go_num, hbel.trans (hb1.mono s), kB.call hb1, okTo_step hok.out HX.out HY.out (by rw [HU.out]; exact hB1) (by rw [HU.out]; exact hB2)⟩
          case measure => simp [intOf]; omega
    · have hE := isQ_end hok.out hlt
      have hx : k < q.f.length → ¬ k < q.t.length := fun a b => hlt ⟨a, b⟩
      clear hlt hf ht
      rcases hB1 : inR q.v 1 5 with _ | _
      · rw [hB1] at hE
        have hfin := Lib.hid hE
        clear hE
        by_cases ha : k < q.f.length
        all_goals
          first | have hb := hx ha | skip
          clear hx
          go_wp2_with (go_at_call 90; refine (l1In_any _ _ _ _).mono ?_; rintro e w' ⟨rfl, rfl⟩; rw [hB1])
          go_ret
          exact ⟨by rw [hfin.out]; rfl, hbel⟩
      · rw [hB1] at hE
        by_cases h6 : q.f.length ≤ 6
        · by_cases hl : q.t.length = q.f.length
          · have hfin : Hid (isQ q = true) := by show _ = _; rw [hE]; simp [h6, hl]
            have he : ((q.t.length : Int) == q.f.length) = true := by rw [beq_iff_eq]; omega
            have h6' : (q.f.length : Int) ≤ 6 := by omega
            clear hE hl
            by_cases ha : k < q.f.length
            all_goals
              first | have hb := hx ha | skip
              clear hx
              go_wp2_with (go_at_call 90; refine (l1In_any _ _ _ _).mono ?_; rintro e w' ⟨rfl, rfl⟩; rw [hB1])
              go_ret
              exact ⟨by rw [hfin.out]; rfl, hbel⟩
          · have hfin : Hid (isQ q = false) := by show _ = _; rw [hE]; simp [hl]
            have he : ((q.t.length : Int) == q.f.length) = false := by rw [beq_eq_false_iff_ne]; omega
            have h6' : (q.f.length : Int) ≤ 6 := by omega
            clear hE hl
            by_cases ha : k < q.f.length
            all_goals
              first | have hb := hx ha | skip
              clear hx
              go_wp2_with (go_at_call 90; refine (l1In_any _ _ _ _).mono ?_; rintro e w' ⟨rfl, rfl⟩; rw [hB1])
              go_ret
              exact ⟨by rw [hfin.out]; rfl, hbel⟩
        · have hfin : Hid (isQ q = false) := by show _ = _; rw [hE]; simp [h6]
          have h6' : ¬ ((q.f.length : Int) ≤ 6) := by omega
          clear hE h6
          by_cases ha : k < q.f.length
          all_goals
            first | have hb := hx ha | skip
            clear hx
            go_wp2_with (go_at_call 90; refine (l1In_any _ _ _ _).mono ?_; rintro e w' ⟨rfl, rfl⟩; rw [hB1])
            go_ret
            exact ⟨by rw [hfin.out]; rfl, hbel⟩
end Go.Proofs.Ytcmlflppndfdcaa

/- The two IsFiltration. -/
namespace Go.Proofs.Ytcmlflppndfdcaa
set_option linter.unusedVariables false
set_option linter.unusedSimpArgs false
open Go.RowKit

/-- An edge of a filtration: two points and a stage. -/
def okEnd (s : Int) (bi : List Int) (e : List Int) : Bool :=
  match e with
  | [a, b, t] => inR a 0 ((bi.length : Int) - 1) && inR b 0 ((bi.length : Int) - 1) && (a != b) && inR t (max (bi.getD a.toNat 0) (bi.getD b.toNat 0)) (s - 1)
  | _ => false
def isF (f : Filt) : Bool := inR f.stages 1 5 && inR f.birth.length 1 4 && allR f.birth 0 (f.stages - 1) && decide (f.ends.length ≤ 8) && f.ends.all (okEnd f.stages f.birth)

theorem endC (l : List Int) : l.length ≠ 3 ∨ ∃ a b t, l = [a, b, t] := by
  match l with
  | [a, b, t] => exact .inr ⟨a, b, t, rfl⟩
  | [] | [_] | [_, _] | _ :: _ :: _ :: _ :: _ => exact .inl (by simp)
theorem okEnd_len {s : Int} {bi l : List Int} (h : l.length ≠ 3) : okEnd s bi l = false := by
  match l, h with
  | [_, _, _], h => simp at h
  | [], _ | [_], _ | [_, _], _ | _ :: _ :: _ :: _ :: _, _ => rfl
theorem isF_bad {q : Filt} {k : Nat} {l : List Int} (hl : q.ends[k]? = some l) (h : okEnd q.stages q.birth l = false) : isF q = false := by
  have : q.ends.all (okEnd q.stages q.birth) = false := by
    rw [List.all_eq_false]
    exact ⟨l, List.mem_of_getElem? hl, by simp [h]⟩
  simp [isF, this]
theorem isF_good {q : Filt} (h1 : inR q.stages 1 5 = true) (h2 : inR q.birth.length 1 4 = true) (h3 : allR q.birth 0 (q.stages - 1) = true) (h4 : q.ends.length ≤ 8) (h : ∀ e ∈ q.ends, okEnd q.stages q.birth e = true) : isF q = true := by
  have e : q.ends.all (okEnd q.stages q.birth) = true := List.all_eq_true.2 h
  simp [isF, h1, h2, h3, h4, e]

theorem okEnd_ab {s : Int} {bi : List Int} {a b t : Int} (h : allR [a, b] 0 ((bi.length : Int) - 1) = false) : okEnd s bi [a, b, t] = false := by
  simp only [allR, List.all_cons, List.all_nil, Bool.and_true, Bool.and_eq_false_iff] at h
  simp only [okEnd]
  rcases h with h | h <;> simp [h]
theorem SlI.caps {w : World} {B n c : Nat} {A : Option Addr} {l : List Int} (h : SlI w B (.slice A n c) l) : l.length ≤ c ∧ c ≤ 9223372036854775807 := by
  obtain ⟨A', c', e, h1, h2, _⟩ := h
  injection e with _ _ e
  subst e
  exact ⟨h1, h2⟩
/-- s[:k] -/
theorem SlI.front {w : World} {B n c k : Nat} {A : Option Addr} {l m : List Int} (h : SlI w B (.slice A n c) (l ++ m)) (hk : l.length = k := by rfl) : SlI w B (.slice A k c) l := by
  subst hk
  obtain ⟨A', c', e, h1, h2, h3, h4⟩ := h
  injection e with e1 _ e
  subst e1 e
  simp only [List.length_append] at h1 h3 h4
  refine ⟨A, c, rfl, by omega, h2, by omega, fun hp => ?_⟩
  obtain ⟨b, o, rfl, hb, hc⟩ := h4 (by omega)
  exact ⟨b, o, rfl, hb, fun j x hx => hc j x (by rw [List.getElem?_append_left (lt_of_some hx)]; exact hx)⟩

theorem okEnd_eq {s : Int} {bi : List Int} {a b t : Int} (h : a = b) : okEnd s bi [a, b, t] = false := by
  subst h
  simp [okEnd]

theorem max_if (x y : Int) : max x y = if y > x then y else x := by split <;> omega
theorem okEnd_go {s : Int} {bi : List Int} {i j : Nat} {t x y : Int} (h : allR [(i : Int), (j : Int)] 0 ((bi.length : Int) - 1) = true) (hij : (i : Int) ≠ j) (hx : bi[i]? = some x) (hy : bi[j]? = some y) : okEnd s bi [(i : Int), (j : Int), t] = inR t (max x y) (s - 1) := by
  simp only [allR, List.all_cons, List.all_nil, Bool.and_true, Bool.and_eq_true] at h
  have e : ((i : Int) != (j : Int)) = true := by rw [bne_iff_ne]; exact hij
  simp only [okEnd, h.1, h.2, e, Bool.and_true, Bool.true_and, Int.toNat_natCast, List.getD_eq_getElem?_getD, hx, hy, Option.getD_some]

set_option maxHeartbeats 800000 in
theorem implIsFiltration_any (u : Value) (q : Filt) (w : World) (hu : FiR w w.heap.size u q) :
    Calls Try.prog 79 #[u] w fun e w' => e = .returned (.bool (isF q)) ∧ Below w.heap.size w w' := by
  obtain ⟨A, c, C, d, rfl, hf, ht, hr, lf, lt⟩ := hu.open_
  clear hu
  obtain ⟨W, hW⟩ : ∃ W, W = w.alloc (.cells #[.int .i64 q.stages, .slice A q.birth.length c, .slice C q.ends.length d] 56) := ⟨_, rfl⟩
  have g0 : Below w.heap.size w W := by rw [hW]; exact below_alloc _ _
  have kB : Blk W w.heap.size 56 #[.int .i64 q.stages, .slice A q.birth.length c, .slice C q.ends.length d] := by rw [hW]; exact Blk.new _ _ _
  have c0 := kB.cell' (i := 0) rfl
  have c1 := kB.cell' (i := 1) rfl
  have c2 := kB.cell' (i := 2) rfl
  rcases h1 : inR q.stages 1 5 with _ | _
  · have hfin : Hid (isF q = false) := by show _ = _; simp [isF, h1]
    go_enter Try.func79, Try.ntmps79
    go_wp2_with fail
    rw [← hW]; clear hW
    refine (within_any _ _ _ _).mono ?_; rintro e w' ⟨rfl, rfl⟩
    rw [h1]
    go_wp2
    go_ret
    exact ⟨by rw [hfin.out]; rfl, g0⟩
  rcases h2 : inR q.birth.length 1 4 with _ | _
  · have hfin : Hid (isF q = false) := by show _ = _; simp [isF, h2]
    go_enter Try.func79, Try.ntmps79
    go_wp2_with fail
    rw [← hW]; clear hW
    refine (within_any _ _ _ _).mono ?_; rintro e w' ⟨rfl, rfl⟩
    rw [h1]
    go_wp2_with fail
    refine (within_any _ _ _ _).mono ?_; rintro e w' ⟨rfl, rfl⟩
    rw [h2]
    go_wp2
    go_ret
    exact ⟨by rw [hfin.out]; rfl, g0⟩
  have hs := inR_t.1 h1
  obtain ⟨hs1, hs2⟩ := hs
  have hn := inR_t.1 h2
  obtain ⟨hn1, hn2⟩ := hn
  obtain ⟨B3, hB3⟩ : ∃ B, allR q.birth 0 (q.stages - 1) = B := ⟨_, rfl⟩
  have HB3 := Lib.hid hB3
  clear hB3
  cases B3
  · have hfin : Hid (isF q = false) := by show _ = _; simp [isF, HB3.out]
    go_enter Try.func79, Try.ntmps79
    go_wp2_with fail
    rw [← hW]; clear hW
    refine (within_any _ _ _ _).mono ?_; rintro e w' ⟨rfl, rfl⟩
    rw [h1]
    go_wp2_with fail
    refine (within_any _ _ _ _).mono ?_; rintro e w' ⟨rfl, rfl⟩
    rw [h2]
    go_wp2_with fail
    refine (allWithin_any _ q.birth _ _ _ (SlI.next g0 hf)).mono ?_; rintro e w1 ⟨rfl, hb1⟩
    rw [HB3.out]
    go_wp2
    go_ret
    exact ⟨by rw [hfin.out]; rfl, bthen g0 hb1⟩
  by_cases h4 : (q.ends.length : Int) ≤ 8
  · go_enter Try.func79, Try.ntmps79
    go_wp2_with fail
    rw [← hW]; clear hW
    refine (within_any _ _ _ _).mono ?_; rintro e w' ⟨rfl, rfl⟩
    rw [h1]
    go_wp2_with fail
    refine (within_any _ _ _ _).mono ?_; rintro e w' ⟨rfl, rfl⟩
    rw [h2]
    go_wp2_with fail
    refine (allWithin_any _ q.birth _ _ _ (SlI.next g0 hf)).mono ?_; rintro e w1 ⟨rfl, hb1⟩
    rw [HB3.out]
    have d0 := (kB.call hb1).cell' (i := 0) rfl
    have d1 := (kB.call hb1).cell' (i := 1) rfl
    have d2 := (kB.call hb1).cell' (i := 2) rfl
    have k1 := kB.call hb1
    have g1 := bthen g0 hb1
    clear c0 c1 c2
    go_wp2
    go_loopw [34] (fun i wr => ∃ k : Nat, k ≤ q.ends.length ∧ i = .int .i64 k ∧ Below w.heap.size w wr ∧ Blk wr w.heap.size 56 #[.int .i64 q.stages, .slice A q.birth.length c, .slice C q.ends.length d] ∧ Hid (∀ e ∈ q.ends.take k, okEnd q.stages q.birth e = true)) (fun i _ => q.ends.length - (intOf i).toNat)
    case atStart => exact ⟨0, Nat.zero_le _, rfl, g1, k1, by intro y hy; simp at hy⟩
    case round =>
      clear g1 k1 d0 d1 d2 hb1 kB g0
      obtain ⟨k, hk, rfl, hbel, hkB, hok⟩ := hrel
      have e0 := hkB.cell' (i := 0) rfl
      have e1 := hkB.cell' (i := 1) rfl
      have e2 := hkB.cell' (i := 2) rfl
      by_cases hlt : k < q.ends.length
      · obtain ⟨b, o, l, A', c', rfl, hb, HL, x1, hl⟩ := SlII.at_ ht hlt
        have s := hbel.size
        have f0 := InB.cell hkB.lt e0
        have f1 := InB.cell hkB.lt e1
        have x2 := bcell hbel hb x1
        clear e0 e1 x1
        rcases endC l with hl3 | ⟨ea, eb, et, rfl⟩
        · have hne : ((l.length : Int) != 3) = true := by rw [bne_iff_ne]; omega
          have hfin : Hid (isF q = false) := isF_bad HL.out (okEnd_len hl3)
          clear hl3
          go_wp2
          (refine wp_region_inB (by kernel_rfl) (by kernel_rfl) ?_; (repeat (go_big_quiet_step (fail))); refine wpQuiet_nil ?_; intro w1 hw'; obtain ⟨s1, hw1⟩ := hw'; have hb1 := s1.below; rw [← hw1] at hb1; clear hw1 s1)
          go_wp2
          go_ret
          exact ⟨by rw [hfin.out]; rfl, hbel.trans (hb1.mono s)⟩
        · have hne : (((3 : Nat) : Int) != 3) = false := by decide
          obtain ⟨b', o', y0, rfl, hb', HY0, j0, _⟩ := SlI.at_ (k := 0) hl (by simp)
          obtain ⟨b2, o2, y1, E1, _, HY1, j1, _⟩ := SlI.at_ (k := 1) hl (by simp)
          obtain ⟨b3, o3, y2, E2, _, HY2, j2, _⟩ := SlI.at_ (k := 2) hl (by simp)
          have F1 := HY0.out
          have F2 := HY1.out
          have F3 := HY2.out
          simp only [List.getElem?_cons_zero, List.getElem?_cons_succ, Option.some.injEq] at F1 F2 F3 E1 E2
          injection E1 with E1a E1b
          injection E2 with E2a E2b
          subst F1 F2 F3 E1a E1b E2a E2b
          have j0' := InB.cell (w := wr) (by omega) (bcell hbel hb' j0)
          have j1' := InB.cell (w := wr) (by omega) (bcell hbel hb' j1)
          have j2' := InB.cell (w := wr) (by omega) (bcell hbel hb' j2)
          clear j0 j1 j2 HY0 HY1 HY2
          have hcut : SlI w w.heap.size (.slice (some ⟨b', o', none⟩) 2 c') [ea, eb] := SlI.front (l := [ea, eb]) (m := [et]) hl
          have hcap := SlI.caps hl
          have hcap1 : 3 ≤ c' := hcap.1
          have hcap2 := hcap.2
          simp only [List.length_cons, List.length_nil, Nat.zero_add, Nat.reduceAdd] at x2
          simp only [Nat.add_zero] at j0'
          have HC : Hid (∀ s : InB wr, SlI s.val s.val.heap.size (.slice (some ⟨b', o', none⟩) 2 c') [ea, eb]) := fun t => SlI.next t.below (SlI.more s (SlI.below hbel hcut))
          clear hl hcut hcap
          rcases hB1 : allR [ea, eb] 0 ((q.birth.length : Int) - 1) with _ | _
          · have hfin : Hid (isF q = false) := isF_bad HL.out (okEnd_ab hB1)
            have hB1' : (!allR [ea, eb] 0 ((q.birth.length : Int) - 1)) = true := by rw [hB1]; rfl
            go_wp2
            (refine wp_region_inB (by kernel_rfl) (by kernel_rfl) ?_; (repeat (go_big_quiet_step ((go_at_call 122; exact InB.call (allWithin_any _ [ea, eb] _ _ _ (HC.out _)))))); refine wpQuiet_nil ?_; intro w1 hw'; obtain ⟨s1, hw1⟩ := hw'; have hb1 := s1.below; rw [← hw1] at hb1; clear hw1 s1)
            go_wp2
            go_ret
            exact ⟨by rw [hfin.out]; rfl, hbel.trans (hb1.mono s)⟩
          · have hB1' : (!allR [ea, eb] 0 ((q.birth.length : Int) - 1)) = false := by rw [hB1]; rfl
            have hab := allR_t.1 hB1
            have ha := hab ea (by simp)
            have hb2 := hab eb (by simp)
            clear hab
            obtain ⟨i, rfl⟩ : ∃ i : Nat, ea = i := ⟨ea.toNat, by omega⟩
            obtain ⟨j, rfl⟩ : ∃ j : Nat, eb = j := ⟨eb.toNat, by omega⟩
            obtain ⟨bb, ob, x, rfl, hbb, HX, p1, _⟩ := SlI.at_ (k := i) hf (by omega)
            obtain ⟨bb2, ob2, y, E, _, HY, p2, _⟩ := SlI.at_ (k := j) hf (by omega)
            injection E with E
            injection E with E1 E2
            subst E1 E2
            have hi : i < q.birth.length := by omega
            have hj : j < q.birth.length := by omega
            have p1' := InB.cell (w := wr) (by omega) (bcell hbel hbb p1)
            have p2' := InB.cell (w := wr) (by omega) (bcell hbel hbb p2)
            clear p1 p2 ha hb2
            by_cases hij : i = j
            · have hij' : ((i : Int) == (j : Int)) = true := by rw [beq_iff_eq]; omega
              have hfin : Hid (isF q = false) := isF_bad HL.out (okEnd_eq (by omega))
              clear hij
              go_wp2
              (refine wp_region_inB (by kernel_rfl) (by kernel_rfl) ?_; (repeat (go_big_quiet_step ((go_at_call 122; exact InB.call (allWithin_any _ [(i : Int), (j : Int)] _ _ _ (HC.out _)))))); refine wpQuiet_nil ?_; intro w1 hw'; obtain ⟨s1, hw1⟩ := hw'; have hb1 := s1.below; rw [← hw1] at hb1; clear hw1 s1)
              go_wp2
              go_ret
              exact ⟨by rw [hfin.out]; rfl, hbel.trans (hb1.mono s)⟩
            · have hij' : ((i : Int) == (j : Int)) = false := by rw [beq_eq_false_iff_ne]; omega
              obtain ⟨M, hM⟩ : ∃ M, (if y > x then y else x) = M := ⟨_, rfl⟩
              obtain ⟨B2, hB2⟩ : ∃ B, inR et M (q.stages - 1) = B := ⟨_, rfl⟩
              have HF := Lib.hid (show okEnd q.stages q.birth [(i : Int), (j : Int), et] = B2 by rw [okEnd_go hB1 (by omega) HX.out HY.out, max_if, hM, hB2])
              clear hij
              cases B2
              · have hB2' : (!inR et M (q.stages - 1)) = true := by rw [hB2]; rfl
                have hfin : Hid (isF q = false) := isF_bad HL.out HF.out
                go_wp2
                (refine wp_region_inB (by kernel_rfl) (by kernel_rfl) ?_; (repeat (go_big_quiet_step (first | (go_at_call 122; exact InB.call (allWithin_any _ [(i : Int), (j : Int)] _ _ _ (HC.out _))) | (go_at_call 98; first | rw [hM] | skip; exact InB.call_same (within_any _ _ _ _))))); refine wpQuiet_nil ?_; intro w1 hw'; obtain ⟨s1, hw1⟩ := hw'; have hb1 := s1.below; rw [← hw1] at hb1; clear hw1 s1)
                go_wp2
                go_ret
                exact ⟨by rw [hfin.out]; rfl, hbel.trans (hb1.mono s)⟩
              · have hB2' : (!inR et M (q.stages - 1)) = false := by rw [hB2]; rfl
                have hst : Hid (∀ e ∈ q.ends.take (k + 1), okEnd q.stages q.birth e = true) := by
                  intro e he
                  rw [take_snoc HL.out, List.mem_append, List.mem_singleton] at he
                  rcases he with he | rfl
                  · exact hok.out e he
                  · exact HF.out
                go_wp2
                (refine wp_region_inB (by kernel_rfl) (by kernel_rfl) ?_; (repeat (go_big_quiet_step (first | (go_at_call 122; exact InB.call (allWithin_any _ [(i : Int), (j : Int)] _ _ _ (HC.out _))) | (go_at_call 98; first | rw [hM] | skip; exact InB.call_same (within_any _ _ _ _))))); refine wpQuiet_nil ?_; intro w1 hw'; obtain ⟨s1, hw1⟩ := hw'; have hb1 := s1.below; rw [← hw1] at hb1; clear hw1 s1)
                go_wp2
                go_roundw
                case rel => exact ⟨k + 1, by omega, by go_num, hbel.trans (hb1.mono s), hkB.call hb1, hst.out⟩
                case measure => simp [intOf]; omega
      · have hfin : Hid (isF q = true) := isF_good h1 h2 HB3.out (by omega) (by have := hok.out; rwa [List.take_of_length_le (by omega)] at this)
        go_wp2
        go_ret
        exact ⟨by rw [hfin.out]; rfl, hbel⟩
  · have h4' : (8 : Int) < q.ends.length := by omega
    have hfin : Hid (isF q = false) := by
      show _ = _
      have : decide (q.ends.length ≤ 8) = false := by simp; omega
      simp [isF, this]
    clear h4
    go_enter Try.func79, Try.ntmps79
    go_wp2_with fail
    rw [← hW]; clear hW
    refine (within_any _ _ _ _).mono ?_; rintro e w' ⟨rfl, rfl⟩
    rw [h1]
    go_wp2_with fail
    refine (within_any _ _ _ _).mono ?_; rintro e w' ⟨rfl, rfl⟩
    rw [h2]
    go_wp2_with fail
    refine (allWithin_any _ q.birth _ _ _ (SlI.next g0 hf)).mono ?_; rintro e w1 ⟨rfl, hb1⟩
    rw [HB3.out]
    have d2 := (kB.call hb1).cell' (i := 2) rfl
    clear c0 c1 c2
    go_wp2
    go_ret
    exact ⟨by rw [hfin.out]; rfl, bthen g0 hb1⟩

def InB.on {w W : World} (hb : Below w.heap.size w W) (t : InB W) : InB w := ⟨t.val, bthen hb t.2⟩
theorem InB.on_val {w W : World} (hb : Below w.heap.size w W) (t : InB W) : (InB.on hb t).val = t.val := rfl
theorem okEnd_a {s : Int} {bi : List Int} {a b t : Int} (h : inR a 0 ((bi.length : Int) - 1) = false) : okEnd s bi [a, b, t] = false := by simp [okEnd, h]
theorem okEnd_b {s : Int} {bi : List Int} {a b t : Int} (h : inR b 0 ((bi.length : Int) - 1) = false) : okEnd s bi [a, b, t] = false := by simp [okEnd, h]
theorem isF_birth {q : Filt} {k : Nat} {x : Int} (hx : q.birth[k]? = some x) (h : inR x 0 (q.stages - 1) = false) : isF q = false := by
  have : allR q.birth 0 (q.stages - 1) = false := by
    unfold allR
    rw [List.all_eq_false]
    exact ⟨x, List.mem_of_getElem? hx, by simp [h]⟩
  simp [isF, this]
set_option maxHeartbeats 3200000 in
set_option maxRecDepth 20000 in
theorem specIsFiltration_any (u : Value) (q : Filt) (w : World) (hu : FiR w w.heap.size u q) :
    Calls Try.prog 74 #[u] w fun e w' => e = .returned (.bool (isF q)) ∧ Below w.heap.size w w' := by
  obtain ⟨A, c, C, d, rfl, hf, ht, hr, lf, lt⟩ := hu.open_
  clear hu
  obtain ⟨W, hW⟩ : ∃ W, W = w.alloc (.cells #[.int .i64 q.stages, .slice A q.birth.length c, .slice C q.ends.length d] 56) := ⟨_, rfl⟩
  have g0 : Below w.heap.size w W := by rw [hW]; exact below_alloc _ _
  have kB : Blk W w.heap.size 56 #[.int .i64 q.stages, .slice A q.birth.length c, .slice C q.ends.length d] := by rw [hW]; exact Blk.new _ _ _
  have c0 := kB.cell' (i := 0) rfl
  have c1 := kB.cell' (i := 1) rfl
  have c2 := kB.cell' (i := 2) rfl
  rcases h1 : inR q.stages 1 5 with _ | _
  · have hfin : Hid (isF q = false) := by show _ = _; simp [isF, h1]
    go_enter Try.func74, Try.ntmps74
    go_wp2_with fail
    rw [← hW]; clear hW
    refine (l1In_any _ _ _ _).mono ?_; rintro e w' ⟨rfl, rfl⟩
    rw [h1]
    go_wp2
    go_ret
    exact ⟨by rw [hfin.out]; rfl, g0⟩
  rcases h2 : inR q.birth.length 1 4 with _ | _
  · have hfin : Hid (isF q = false) := by show _ = _; simp [isF, h2]
    go_enter Try.func74, Try.ntmps74
    go_wp2_with fail
    rw [← hW]; clear hW
    refine (l1In_any _ _ _ _).mono ?_; rintro e w' ⟨rfl, rfl⟩
    rw [h1]
    go_wp2_with fail
    refine (l1In_any _ _ _ _).mono ?_; rintro e w' ⟨rfl, rfl⟩
    rw [h2]
    go_wp2
    go_ret
    exact ⟨by rw [hfin.out]; rfl, g0⟩
  have hs := inR_t.1 h1
  obtain ⟨hs1, hs2⟩ := hs
  have hn := inR_t.1 h2
  obtain ⟨hn1, hn2⟩ := hn
  by_cases h4 : (q.ends.length : Int) ≤ 8
  · have h4' : ¬ (8 : Int) < q.ends.length := by omega
    go_enter Try.func74, Try.ntmps74
    go_wp2_with fail
    rw [← hW]; clear hW
    refine (l1In_any _ _ _ _).mono ?_; rintro e w' ⟨rfl, rfl⟩
    rw [h1]
    go_wp2_with fail
    refine (l1In_any _ _ _ _).mono ?_; rintro e w' ⟨rfl, rfl⟩
    rw [h2]
    go_wp2
    go_loopw [3] (fun i wr => ∃ k : Nat, k ≤ q.birth.length ∧ i = .int .i64 k ∧ Below w.heap.size w wr ∧ Blk wr w.heap.size 56 #[.int .i64 q.stages, .slice A q.birth.length c, .slice C q.ends.length d] ∧ Hid (∀ x ∈ q.birth.take k, inR x 0 (q.stages - 1) = true)) (fun i _ => q.birth.length - (intOf i).toNat)
    case atStart => exact ⟨0, Nat.zero_le _, rfl, g0, kB, by intro y hy; simp at hy⟩
    case round =>
      clear g0 kB c0 c1 c2
      obtain ⟨k, hk, rfl, hbel, hkB, hok⟩ := hrel
      have e0 := hkB.cell' (i := 0) rfl
      have e1 := hkB.cell' (i := 1) rfl
      have e2 := hkB.cell' (i := 2) rfl
      have s := hbel.size
      by_cases hlt : k < q.birth.length
      · obtain ⟨b, o, x, rfl, hb, HX, x1, _⟩ := SlI.at_ hf hlt
        have f0 := InB.cell hkB.lt e0
        have f1 := InB.cell hkB.lt e1
        have f2 := InB.cell (w := wr) (by omega) (bcell hbel hb x1)
        clear e0 x1
        rcases hB1 : inR x 0 (q.stages - 1) with _ | _
        · have hfin : Hid (isF q = false) := isF_birth HX.out hB1
          go_wp2
          (refine wp_region_inB (by kernel_rfl) (by kernel_rfl) ?_; (repeat (go_big_quiet_step ((go_at_call 90; exact InB.call_same (l1In_any _ _ _ _))))); refine wpQuiet_nil ?_; intro w1 hw'; obtain ⟨s1, hw1⟩ := hw'; have hb1 := s1.below; rw [← hw1] at hb1; clear hw1 s1)
          go_wp2
          go_ret
          exact ⟨by rw [hfin.out]; rfl, hbel.trans (hb1.mono s)⟩
        · go_wp2
          (refine wp_region_inB (by kernel_rfl) (by kernel_rfl) ?_; (repeat (go_big_quiet_step ((go_at_call 90; exact InB.call_same (l1In_any _ _ _ _))))); refine wpQuiet_nil ?_; intro w1 hw'; obtain ⟨s1, hw1⟩ := hw'; have hb1 := s1.below; rw [← hw1] at hb1; clear hw1 s1)
          go_wp2
          go_roundw
          case rel =>
            refine ⟨k + 1, by omega, by go_num, hbel.trans (hb1.mono s), hkB.call hb1, fun y hy => ?_⟩
            rw [take_snoc HX.out, List.mem_append, List.mem_singleton] at hy
            rcases hy with hy | rfl
            · exact hok.out y hy
            · exact hB1
          case measure => simp [intOf]; omega
      · have HB3 : Hid (allR q.birth 0 (q.stages - 1) = true) := by
          have h := hok.out
          rw [List.take_of_length_le (by omega)] at h
          exact List.all_eq_true.2 h
        clear hok
        go_wp2
        have hbel0 := hbel
        have hkB0 := hkB
        clear hbel hkB e0 e1 e2 hlt hk

        go_loopw [4] (fun i wr => ∃ k : Nat, k ≤ q.ends.length ∧ i = .int .i64 k ∧ Below w.heap.size w wr ∧ Blk wr w.heap.size 56 #[.int .i64 q.stages, .slice A q.birth.length c, .slice C q.ends.length d] ∧ Hid (∀ e ∈ q.ends.take k, okEnd q.stages q.birth e = true)) (fun i _ => q.ends.length - (intOf i).toNat)
        case atStart => exact ⟨0, Nat.zero_le _, rfl, hbel0, hkB0, by intro y hy; simp at hy⟩
        case round =>
          clear hbel0 hkB0
          obtain ⟨k, hk, rfl, hbel, hkB, hok⟩ := hrel
          have e0 := hkB.cell' (i := 0) rfl
          have e1 := hkB.cell' (i := 1) rfl
          have e2 := hkB.cell' (i := 2) rfl
          by_cases hlt : k < q.ends.length
          · obtain ⟨b, o, l, A', c', rfl, hb, HL, x1, hl⟩ := SlII.at_ ht hlt
            have s := hbel.size
            have f0 := InB.cell hkB.lt e0
            have f1 := InB.cell hkB.lt e1
            have f2 := InB.cell hkB.lt e2
            have x2 := InB.cell (w := wr) (by omega) (bcell hbel hb x1)
            clear e0 e1 x1
            rcases endC l with hl3 | ⟨ea, eb, et, rfl⟩
            · have hne : ((l.length : Int) != 3) = true := by rw [bne_iff_ne]; omega
              have hfin : Hid (isF q = false) := isF_bad HL.out (okEnd_len hl3)
              clear hl3
              go_wp2
              (refine wp_region_inB (by kernel_rfl) (by kernel_rfl) ?_; (repeat (go_big_quiet_step (fail))); refine wpQuiet_nil ?_; intro w1 hw'; obtain ⟨s1, hw1⟩ := hw'; have hb1 := s1.below; rw [← hw1] at hb1; clear hw1 s1)
              go_wp2
              go_ret
              exact ⟨by rw [hfin.out]; rfl, hbel.trans (hb1.mono s)⟩
            · have hne : (((3 : Nat) : Int) != 3) = false := by decide
              obtain ⟨b', o', y0, rfl, hb', HY0, j0, _⟩ := SlI.at_ (k := 0) hl (by simp)
              obtain ⟨b2, o2, y1, E1, _, HY1, j1, _⟩ := SlI.at_ (k := 1) hl (by simp)
              obtain ⟨b3, o3, y2, E2, _, HY2, j2, _⟩ := SlI.at_ (k := 2) hl (by simp)
              have F1 := HY0.out
              have F2 := HY1.out
              have F3 := HY2.out
              simp only [List.getElem?_cons_zero, List.getElem?_cons_succ, Option.some.injEq] at F1 F2 F3 E1 E2
              injection E1 with E1a E1b
              injection E2 with E2a E2b
              subst F1 F2 F3 E1a E1b E2a E2b
              have j0' := InB.cell (w := wr) (by omega) (bcell hbel hb' j0)
              have j1' := InB.cell (w := wr) (by omega) (bcell hbel hb' j1)
              have j2' := InB.cell (w := wr) (by omega) (bcell hbel hb' j2)
              clear j0 j1 j2 HY0 HY1 HY2 hl
              simp only [List.length_cons, List.length_nil, Nat.zero_add, Nat.reduceAdd] at x2
              simp only [Nat.add_zero] at j0'
              rcases hBa : inR ea 0 ((q.birth.length : Int) - 1) with _ | _
              · have hfin : Hid (isF q = false) := isF_bad HL.out (okEnd_a hBa)
                go_wp2
                (refine wp_region_inB (by kernel_rfl) (by kernel_rfl) ?_; (repeat (go_big_quiet_step ((go_at_call 90; exact InB.call_same (l1In_any _ _ _ _))))); refine wpQuiet_nil ?_; intro w1 hw'; obtain ⟨s1, hw1⟩ := hw'; have hb1 := s1.below; rw [← hw1] at hb1; clear hw1 s1)
                go_wp2
                go_ret
                exact ⟨by rw [hfin.out]; rfl, hbel.trans (hb1.mono s)⟩
              rcases hBb : inR eb 0 ((q.birth.length : Int) - 1) with _ | _
              · have hfin : Hid (isF q = false) := isF_bad HL.out (okEnd_b hBb)
                go_wp2
                (refine wp_region_inB (by kernel_rfl) (by kernel_rfl) ?_; (repeat (go_big_quiet_step ((go_at_call 90; exact InB.call_same (l1In_any _ _ _ _))))); refine wpQuiet_nil ?_; intro w1 hw'; obtain ⟨s1, hw1⟩ := hw'; have hb1 := s1.below; rw [← hw1] at hb1; clear hw1 s1)
                go_wp2
                go_ret
                exact ⟨by rw [hfin.out]; rfl, hbel.trans (hb1.mono s)⟩
              have ha := inR_t.1 hBa
              have hb2 := inR_t.1 hBb
              obtain ⟨i, rfl⟩ : ∃ i : Nat, ea = i := ⟨ea.toNat, by omega⟩
              obtain ⟨j, rfl⟩ : ∃ j : Nat, eb = j := ⟨eb.toNat, by omega⟩
              have hBab : Hid (allR [(i : Int), (j : Int)] 0 ((q.birth.length : Int) - 1) = true) := by show _ = _; simp [allR, hBa, hBb]
              obtain ⟨bb, ob, x, rfl, hbb, HX, p1, _⟩ := SlI.at_ (k := i) hf (by omega)
              obtain ⟨bb2, ob2, y, E, _, HY, p2, _⟩ := SlI.at_ (k := j) hf (by omega)
              injection E with E
              injection E with E1 E2
              subst E1 E2
              have hi : i < q.birth.length := by omega
              have hj : j < q.birth.length := by omega
              have p1' := InB.cell (w := wr) (by omega) (bcell hbel hbb p1)
              have p2' := InB.cell (w := wr) (by omega) (bcell hbel hbb p2)
              clear p1 p2 ha hb2
              by_cases hij : i = j
              · have hij' : ((i : Int) == (j : Int)) = true := by rw [beq_iff_eq]; omega
                have hfin : Hid (isF q = false) := isF_bad HL.out (okEnd_eq (by omega))
                clear hij
                go_wp2
                (refine wp_region_inB (by kernel_rfl) (by kernel_rfl) ?_; (repeat (go_big_quiet_step ((go_at_call 90; exact InB.call_same (l1In_any _ _ _ _))))); refine wpQuiet_nil ?_; intro w1 hw'; obtain ⟨s1, hw1⟩ := hw'; have hb1 := s1.below; rw [← hw1] at hb1; clear hw1 s1)
                go_wp2
                go_ret
                exact ⟨by rw [hfin.out]; rfl, hbel.trans (hb1.mono s)⟩
              · have hij' : ((i : Int) == (j : Int)) = false := by rw [beq_eq_false_iff_ne]; omega
                obtain ⟨M, hM⟩ : ∃ M, (if y > x then y else x) = M := ⟨_, rfl⟩
                obtain ⟨B2, hB2⟩ : ∃ B, inR et M (q.stages - 1) = B := ⟨_, rfl⟩
                have HF := Lib.hid (show okEnd q.stages q.birth [(i : Int), (j : Int), et] = B2 by rw [okEnd_go hBab.out (by omega) HX.out HY.out, max_if, hM, hB2])
                clear hij
                cases B2
                · have hfin : Hid (isF q = false) := isF_bad HL.out HF.out
                  go_wp2
                  (refine wp_region_inB (by kernel_rfl) (by kernel_rfl) ?_; (repeat (go_big_quiet_step ((go_at_call 90; exact InB.call_same (l1In_any _ _ _ _))))); refine wpQuiet_nil ?_; intro w1 hw'; obtain ⟨s1, hw1⟩ := hw'; have hb1 := s1.below; rw [← hw1] at hb1; clear hw1 s1)
                  go_wp2
                  have hbA := hb1
                  have r0 := fun t => f0 (InB.on hbA t)
                  have r1 := fun t => f1 (InB.on hbA t)
                  have r2 := fun t => f2 (InB.on hbA t)
                  have r3 := fun t => x2 (InB.on hbA t)
                  have r4 := fun t => j0' (InB.on hbA t)
                  have r5 := fun t => j1' (InB.on hbA t)
                  have r6 := fun t => j2' (InB.on hbA t)
                  have r7 := fun t => p1' (InB.on hbA t)
                  have r8 := fun t => p2' (InB.on hbA t)
                  simp only [InB.on_val] at r0 r1 r2 r3 r4 r5 r6 r7 r8
                  have gA := hbel.trans (hbA.mono s)
                  have kA := hkB.call hbA
                  clear f0 f1 f2 x2 j0' j1' j2' p1' p2' hb1 e2 hbel hkB
                  (refine wp_region_inB (by kernel_rfl) (by kernel_rfl) ?_; (repeat (go_big_quiet_step ((go_at_call 90; first | rw [hM] | skip; exact InB.call_same (l1In_any _ _ _ _))))); refine wpQuiet_nil ?_; intro w1 hw'; obtain ⟨s1, hw1⟩ := hw'; have hb1 := s1.below; rw [← hw1] at hb1; clear hw1 s1)
                  go_wp2
                  go_ret
                  exact ⟨by rw [hfin.out]; rfl, gA.trans (hb1.mono gA.size)⟩
                · have hst : Hid (∀ e ∈ q.ends.take (k + 1), okEnd q.stages q.birth e = true) := by
                    intro e he
                    rw [take_snoc HL.out, List.mem_append, List.mem_singleton] at he
                    rcases he with he | rfl
                    · exact hok.out e he
                    · exact HF.out
                  go_wp2
                  (refine wp_region_inB (by kernel_rfl) (by kernel_rfl) ?_; (repeat (go_big_quiet_step ((go_at_call 90; exact InB.call_same (l1In_any _ _ _ _))))); refine wpQuiet_nil ?_; intro w1 hw'; obtain ⟨s1, hw1⟩ := hw'; have hb1 := s1.below; rw [← hw1] at hb1; clear hw1 s1)
                  go_wp2
                  have hbA := hb1
                  have r0 := fun t => f0 (InB.on hbA t)
                  have r1 := fun t => f1 (InB.on hbA t)
                  have r2 := fun t => f2 (InB.on hbA t)
                  have r3 := fun t => x2 (InB.on hbA t)
                  have r4 := fun t => j0' (InB.on hbA t)
                  have r5 := fun t => j1' (InB.on hbA t)
                  have r6 := fun t => j2' (InB.on hbA t)
                  have r7 := fun t => p1' (InB.on hbA t)
                  have r8 := fun t => p2' (InB.on hbA t)
                  simp only [InB.on_val] at r0 r1 r2 r3 r4 r5 r6 r7 r8
                  have gA := hbel.trans (hbA.mono s)
                  have kA := hkB.call hbA
                  clear f0 f1 f2 x2 j0' j1' j2' p1' p2' hb1 e2 hbel hkB
                  (refine wp_region_inB (by kernel_rfl) (by kernel_rfl) ?_; (repeat (go_big_quiet_step ((go_at_call 90; first | rw [hM] | skip; exact InB.call_same (l1In_any _ _ _ _))))); refine wpQuiet_nil ?_; intro w1 hw'; obtain ⟨s1, hw1⟩ := hw'; have hb1 := s1.below; rw [← hw1] at hb1; clear hw1 s1)
                  go_wp2
                  go_roundw
                  case rel => exact ⟨k + 1, by omega, by go_num, gA.trans (hb1.mono gA.size), kA.call hb1, hst.out⟩
                  case measure => simp [intOf]; omega
          · have hfin : Hid (isF q = true) := isF_good h1 h2 HB3.out (by omega) (by have := hok.out; rwa [List.take_of_length_le (by omega)] at this)
            go_wp2
            go_ret
            exact ⟨by rw [hfin.out]; rfl, hbel⟩
  · have h4' : (8 : Int) < q.ends.length := by omega
    have hfin : Hid (isF q = false) := by
      show _ = _
      have : decide (q.ends.length ≤ 8) = false := by simp; omega
      simp [isF, this]
    clear h4
    go_enter Try.func74, Try.ntmps74
    go_wp2_with fail
    rw [← hW]; clear hW
    refine (l1In_any _ _ _ _).mono ?_; rintro e w' ⟨rfl, rfl⟩
    rw [h1]
    go_wp2_with fail
    refine (l1In_any _ _ _ _).mono ?_; rintro e w' ⟨rfl, rfl⟩
    rw [h2]
    go_wp2
    go_ret
    exact ⟨by rw [hfin.out]; rfl, g0⟩
end Go.Proofs.Ytcmlflppndfdcaa

/- Rows of ints of the call's own: one number turned, read; made by make. -/
namespace Go.Proofs.Ytcmlflppndfdcaa
set_option linter.unusedVariables false
set_option linter.unusedSimpArgs false
open Go.RowKit

theorem OwnI.put {w : World} {base g n cap j : Nat} {l : List Int} {x : Int} (h : OwnI w base (.slice (some ⟨g, 0, none⟩) n cap) l) (hx : I64 x) : OwnI (w.setCell ⟨g, j, none⟩ (.int .i64 x)) base (.slice (some ⟨g, 0, none⟩) n cap) (l.set j x) ∧ w.grownBy (w.setCell ⟨g, j, none⟩ (.int .i64 x)) (some g) := by
  obtain ⟨h1, h2, h3⟩ := h
  have hn : n = l.length := by
    rcases h1.2 with ⟨e, _⟩ | ⟨g', cap', cur, e, _⟩
    · cases e
    · injection e with _ e _
  subst hn
  have hst := h1.stored j (.int .i64 x)
  refine ⟨⟨?_, by simpa using h2, fun y hy => ?_⟩, hst.2⟩
  · rw [List.map_set, List.length_set]
    exact hst.1
  · rcases List.mem_or_eq_of_mem_set hy with hy | rfl
    · exact h3 y hy
    · exact hx
theorem OwnI.cellG {w : World} {base g n cap j : Nat} {l : List Int} (h : OwnI w base (.slice (some ⟨g, 0, none⟩) n cap) l) (hj : j < l.length) : w.cell? ⟨g, j, none⟩ = some (.int .i64 (l.getD j 0)) ∧ I64 (l.getD j 0) := by
  obtain ⟨h1, h2, h3⟩ := h
  have hn : n = l.length := by
    rcases h1.2 with ⟨e, _⟩ | ⟨g', cap', cur, e, _⟩
    · cases e
    · injection e with _ e _
  subst hn
  have hc := h1.cellAt j (by omega)
  have e : l.getD j 0 = l[j] := by rw [List.getD_eq_getElem?_getD, List.getElem?_eq_getElem hj]; rfl
  rw [e]
  exact ⟨by rw [hc]; simp [hj], h3 _ (List.getElem_mem hj)⟩
theorem OwnI.frozenG {w : World} {base g n cap : Nat} {l : List Int} (h : OwnI w base (.slice (some ⟨g, 0, none⟩) n cap) l) (j : Nat) : w.frozen? ⟨g, j, none⟩ = false := by
  obtain ⟨h1, h2, h3⟩ := h
  have hn : n = l.length := by
    rcases h1.2 with ⟨e, _⟩ | ⟨g', cap', cur, e, _⟩
    · cases e
    · injection e with _ e _
  subst hn
  exact h1.frozenAt j
theorem OwnI.made0 {w : World} {base N : Nat} (hb : base ≤ w.heap.size) (hN : N ≤ 17592186044416) : OwnI (w.alloc (.cells (mkCells (.int .i64 0) N) 3)) base (.slice (some ⟨w.heap.size, 0, none⟩) N N) (List.replicate N 0) := by
  have e : (mkCells (.int .i64 0) N).toList.take (N * 1) = (List.replicate N (0 : Int)).map (Value.int .i64) := by
    have : (mkCells (.int .i64 0) N).toList = List.replicate N (.int .i64 0) := toList_madeCells_one _ _
    rw [this, Nat.mul_one, List.take_of_length_le (by simp), List.map_replicate]
  have h := (Blk.new w 3 (mkCells (.int .i64 0) N)).own (base := base) (n := N) (cap := N) (size := 1) hb (Nat.le_refl _) (by simp only [maxLen]; omega) (by rw [mkCells_size]; omega)
  rw [e] at h
  refine ⟨by simpa using h, by simpa using hN, fun x hx => ?_⟩
  obtain ⟨_, rfl⟩ := List.mem_replicate.1 hx
  exact ⟨by decide, by decide⟩
end Go.Proofs.Ytcmlflppndfdcaa

/- The two ComponentsAt. -/
namespace Go.Proofs.Ytcmlflppndfdcaa
set_option linter.unusedVariables false
set_option linter.unusedSimpArgs false
open Go.RowKit

theorem isF_end {q : Filt} {k : Nat} {l : List Int} (h : isF q = true) (hl : q.ends[k]? = some l) : ∃ (i j : Nat) (s : Int), l = [(i : Int), (j : Int), s] ∧ i < q.birth.length ∧ j < q.birth.length := by
  simp only [isF, Bool.and_eq_true] at h
  have h2 := List.all_eq_true.1 h.2 l (List.mem_of_getElem? hl)
  match l, h2 with
  | [a, b, s], h2 =>
    simp only [okEnd, Bool.and_eq_true, inR_t] at h2
    obtain ⟨⟨⟨⟨h1, h3⟩, h4, h5⟩, _⟩, _⟩ := h2
    exact ⟨a.toNat, b.toNat, s, by rw [Int.toNat_of_nonneg h1, Int.toNat_of_nonneg h4], by omega, by omega⟩
theorem isF_lens {q : Filt} (h : isF q = true) : 1 ≤ q.birth.length ∧ q.birth.length ≤ 4 ∧ q.ends.length ≤ 8 ∧ 1 ≤ q.stages ∧ q.stages ≤ 5 := by
  simp only [isF, Bool.and_eq_true, inR_t, decide_eq_true_eq] at h
  omega

/-- the points of a stage -/
def comp0 (bi : List Int) (t : Int) : List Int := (List.range bi.length).map fun i => if t < bi.getD i 0 then -1 else (i : Int)
def stepE (t : Int) (out : List Int) (e : List Int) : List Int :=
  match e with
  | [a, b, s] => if s ≤ t then (out.set a.toNat (min (out.getD a.toNat 0) (out.getD b.toNat 0))).set b.toNat (min (out.getD a.toNat 0) (out.getD b.toNat 0)) else out
  | _ => out
def rndE (t : Int) (ends : List (List Int)) (out : List Int) : List Int := ends.foldl (stepE t) out
def itN (f : List Int → List Int) (x : List Int) : Nat → List Int
  | 0 => x
  | n + 1 => f (itN f x n)
def compQ (q : Filt) (t : Int) : List Int := itN (rndE t q.ends) (comp0 q.birth t) q.birth.length
def compsQ (q : Filt) (t : Int) : List Int := if isF q && inR t 0 (q.stages - 1) then compQ q t else []
theorem stepE_length (t : Int) (out e : List Int) : (stepE t out e).length = out.length := by
  unfold stepE
  split
  · split <;> simp
  · rfl
/-- behind k points of the first loop -/
def compTo (bi : List Int) (t : Int) (k : Nat) : List Int := (comp0 bi t).take k ++ List.replicate (bi.length - k) 0
theorem comp0_length (bi : List Int) (t : Int) : (comp0 bi t).length = bi.length := by simp [comp0]
theorem comp0_get {bi : List Int} {t x : Int} {k : Nat} (hx : bi[k]? = some x) : (comp0 bi t)[k]? = some (if t < x then -1 else (k : Int)) := by
  have hk := lt_of_some hx
  have e : bi[k] = x := by rw [List.getElem?_eq_getElem hk] at hx; injection hx
  simp [comp0, hk, e]
theorem compTo_step {bi : List Int} {t x : Int} {k : Nat} (hx : bi[k]? = some x) : (compTo bi t k).set k (if t < x then -1 else (k : Int)) = compTo bi t (k + 1) := by
  have hk := lt_of_some hx
  have hl : ((comp0 bi t).take k).length = k := by simp [comp0_length]; omega
  rw [compTo, compTo, take_snoc (comp0_get hx), List.set_append_right _ _ (by omega), hl, Nat.sub_self]
  rw [show bi.length - k = (bi.length - (k + 1)) + 1 by omega, List.replicate_succ]
  simp
theorem compTo_length (bi : List Int) (t : Int) (k : Nat) (hk : k ≤ bi.length) : (compTo bi t k).length = bi.length := by
  simp [compTo, comp0_length]; omega
theorem foldE_length (t : Int) : ∀ (ends : List (List Int)) (out : List Int), (ends.foldl (stepE t) out).length = out.length
  | [], _ => rfl
  | e :: r, out => by rw [List.foldl_cons, foldE_length t r, stepE_length]
theorem itN_length (t : Int) (ends : List (List Int)) (x : List Int) : ∀ n, (itN (rndE t ends) x n).length = x.length
  | 0 => rfl
  | n + 1 => by rw [itN, rndE, foldE_length, itN_length t ends x n]
theorem fold_snoc {t : Int} {ends : List (List Int)} {k : Nat} {l out : List Int} (hl : ends[k]? = some l) : (ends.take (k + 1)).foldl (stepE t) out = stepE t ((ends.take k).foldl (stepE t) out) l := by
  rw [take_snoc hl, List.foldl_append]; rfl

set_option maxHeartbeats 800000 in
theorem components_any (u : Value) (q : Filt) (t : Int) (w : World) (hu : FiR w w.heap.size u q) (hq : isF q = true) :
    Calls Try.prog 83 #[u, .int .i64 t] w fun e w' => ∃ v, e = .returned v ∧ IntsO w' w.heap.size w'.heap.size v (compQ q t) ∧ Below w.heap.size w w' := by
  obtain ⟨A, c, C, d, rfl, hf, hT, hr, lf, lt⟩ := hu.open_
  clear hu
  obtain ⟨hl1, hl2, hl3, hl4, hl5⟩ := isF_lens hq
  obtain ⟨W, hW⟩ : ∃ W, W = w.alloc (.cells #[.int .i64 q.stages, .slice A q.birth.length c, .slice C q.ends.length d] 56) := ⟨_, rfl⟩
  have g0 : Below w.heap.size w W := by rw [hW]; exact below_alloc _ _
  have kB : Blk W w.heap.size 56 #[.int .i64 q.stages, .slice A q.birth.length c, .slice C q.ends.length d] := by rw [hW]; exact Blk.new _ _ _
  have c1 := kB.cell' (i := 1) rfl
  have c2 := kB.cell' (i := 2) rfl
  obtain ⟨i0, hi, hz0, hz1, hz2⟩ := info_parts infoInt
  have hmk := run_mk (P := Try.prog) Try.underlying22 hi hz0 (n := q.birth.length) (by rw [hz2]; omega) (by omega)
  rw [hz1] at hmk
  clear hi hz0 hz1 hz2
  have kB2 := kB.call (below_alloc W (.cells (mkCells (.int .i64 0) q.birth.length) 3))
  have g2 := bthen g0 (below_alloc W (.cells (mkCells (.int .i64 0) q.birth.length) 3))
  have ho2 := OwnI.made0 (w := W) (base := w.heap.size) (N := q.birth.length) g0.size lf
  have zW : W.heap.size = w.heap.size + 1 := by rw [hW]; simp
  rw [zW] at ho2
  clear zW
  obtain ⟨W2, hW2⟩ : ∃ W2, W2 = W.alloc (.cells (mkCells (.int .i64 0) q.birth.length) 3) := ⟨_, rfl⟩
  rw [← hW2] at kB2 g2 ho2
  rw [hW] at hW2
  clear kB c1 c2 g0 hW W
  go_enter Try.func83, Try.ntmps83
  go_wp2
  rw [← hW2]; clear hW2
  have hlen0 := compTo_length q.birth t
  go_loopw [18] (fun i wr => ∃ k : Nat, k ≤ q.birth.length ∧ i = .int .i64 k ∧ OwnI wr w.heap.size (.slice (some ⟨w.heap.size + 1, 0, none⟩) q.birth.length q.birth.length) (compTo q.birth t k) ∧ Below w.heap.size w wr ∧ Blk wr w.heap.size 56 #[.int .i64 q.stages, .slice A q.birth.length c, .slice C q.ends.length d]) (fun i _ => q.birth.length - (intOf i).toNat)
  case atStart => exact ⟨0, Nat.zero_le _, rfl, by simpa [compTo] using ho2, g2, kB2⟩
  case round =>
    clear ho2 g2 kB2 hmk
    obtain ⟨k, hk, rfl, hown, hbel, hkB⟩ := hrel
    have e1 := hkB.cell' (i := 1) rfl
    have e2 := hkB.cell' (i := 2) rfl
    by_cases hlt : k < q.birth.length
    · obtain ⟨b, o, x, rfl, hb, HX, x1, _⟩ := SlI.at_ hf hlt
      have x2 := bcell hbel hb x1
      have hcl := Lib.hid (hlen0 k (by omega))
      obtain ⟨cc, _⟩ := hown.cellG (j := k) (by rw [hcl.out]; exact hlt)
      have fz := hown.frozenG k
      have hp := (hown.put (j := k) (x := (k : Int)) ⟨by omega, by omega⟩)
      have hg1 := hbel.grown hp.2 (by have := hbel.size; omega) (fun j hj => by injection hj with hj; omega)
      have hk1 := hkB.grown hp.2 (by simp)
      clear x1
      by_cases hxt : t < x
      · have hst := compTo_step (t := t) HX.out
        rw [if_pos hxt] at hst
        have HST := Lib.hid hst
        have hp2 := (hp.1.put (j := k) (x := (-1 : Int)) ⟨by omega, by omega⟩)
        rw [List.set_set, HST.out] at hp2
        have hg2 := hg1.grown hp2.2 (by have := hg1.size; omega) (fun j hj => by injection hj with hj; omega)
        have hk2 := hk1.grown hp2.2 (by simp)
        have hpo := hp2.1
        clear hp hp2 hst hg1 hk1 hown hbel hkB hlen0
        go_wp2
        go_roundw
        case rel => exact ⟨k + 1, by omega, by go_num, hpo, hg2, hk2⟩
        case measure => simp [intOf]; omega
      · have hst := compTo_step (t := t) HX.out
        rw [if_neg hxt] at hst
        have HST := Lib.hid hst
        have hpo := hp.1
        rw [HST.out] at hpo
        clear hp hst hown hbel hkB hlen0
        go_wp2
        go_roundw
        case rel => exact ⟨k + 1, by omega, by go_num, hpo, hg1, hk1⟩
        case measure => simp [intOf]; omega
    · have hend : compTo q.birth t k = itN (rndE t q.ends) (comp0 q.birth t) 0 := by
        rw [compTo, show q.birth.length - k = 0 by omega, List.take_of_length_le (by rw [comp0_length]; omega)]
        simp [itN]
      rw [hend] at hown
      go_wp2
      clear hlt hlen0 hend
      have hown0 := hown
      have hbel0 := hbel
      have hkB0 := hkB
      clear hown hbel hkB e1 e2 hk
      have hlen1 := Lib.hid (fun n => itN_length t q.ends (comp0 q.birth t) n)
      go_loopw [36] (fun i wr => ∃ k : Nat, k ≤ q.birth.length ∧ i = .int .i64 k ∧ OwnI wr w.heap.size (.slice (some ⟨w.heap.size + 1, 0, none⟩) q.birth.length q.birth.length) (itN (rndE t q.ends) (comp0 q.birth t) k) ∧ Below w.heap.size w wr ∧ Blk wr w.heap.size 56 #[.int .i64 q.stages, .slice A q.birth.length c, .slice C q.ends.length d]) (fun i _ => q.birth.length - (intOf i).toNat)
      case atStart => exact ⟨0, Nat.zero_le _, rfl, hown0, hbel0, hkB0⟩
      case round =>
        clear hown0 hbel0 hkB0
        obtain ⟨k, hk, rfl, hown, hbel, hkB⟩ := hrel
        have e1 := hkB.cell' (i := 1) rfl
        have e2 := hkB.cell' (i := 2) rfl
        by_cases hlt : k < q.birth.length
        · have hLX := Lib.hid ((hlen1.out k).trans (comp0_length q.birth t))
          obtain ⟨X, hX⟩ : ∃ X, itN (rndE t q.ends) (comp0 q.birth t) k = X := ⟨_, rfl⟩
          rw [hX] at hown hLX
          have HX := Lib.hid hX
          clear hX
          go_wp2
          have hown1 := hown
          have hbel1 := hbel
          have hkB1 := hkB
          clear hown hbel hkB e1 e2
          go_loopw [41] (fun i wr => ∃ m : Nat, m ≤ q.ends.length ∧ i = .int .i64 m ∧ OwnI wr w.heap.size (.slice (some ⟨w.heap.size + 1, 0, none⟩) q.birth.length q.birth.length) ((q.ends.take m).foldl (stepE t) X) ∧ Below w.heap.size w wr ∧ Blk wr w.heap.size 56 #[.int .i64 q.stages, .slice A q.birth.length c, .slice C q.ends.length d]) (fun i _ => q.ends.length - (intOf i).toNat)
          case atStart => exact ⟨0, Nat.zero_le _, rfl, hown1, hbel1, hkB1⟩
          case round =>
            clear hown1 hbel1 hkB1
            obtain ⟨m, hm, rfl, hown, hbel, hkB⟩ := hrel
            have e1 := hkB.cell' (i := 1) rfl
            have e2 := hkB.cell' (i := 2) rfl
            by_cases hltm : m < q.ends.length
            · obtain ⟨b, o, l, A', c', rfl, hb, HL, x1, hl⟩ := SlII.at_ hT hltm
              obtain ⟨i, j, et, rfl, hi, hj⟩ := isF_end hq HL.out
              have x2 := bcell hbel hb x1
              obtain ⟨b', o', y0, rfl, hb', HY0, j0, _⟩ := SlI.at_ (k := 0) hl (by simp)
              obtain ⟨b2, o2, y1, E1, _, HY1, j1, _⟩ := SlI.at_ (k := 1) hl (by simp)
              obtain ⟨b3, o3, y2, E2, _, HY2, j2, _⟩ := SlI.at_ (k := 2) hl (by simp)
              have F1 := HY0.out
              have F2 := HY1.out
              have F3 := HY2.out
              simp only [List.getElem?_cons_zero, List.getElem?_cons_succ, Option.some.injEq] at F1 F2 F3 E1 E2
              injection E1 with E1a E1b
              injection E2 with E2a E2b
              subst F1 F2 F3 E1a E1b E2a E2b
              have j0' := bcell hbel hb' j0
              have j1' := bcell hbel hb' j1
              have j2' := bcell hbel hb' j2
              clear j0 j1 j2 HY0 HY1 HY2 x1 hl
              simp only [List.length_cons, List.length_nil, Nat.zero_add, Nat.reduceAdd] at x2
              simp only [Nat.add_zero] at j0'
              have hs := fold_snoc (t := t) (out := X) HL.out
              obtain ⟨Y, hY⟩ : ∃ Y, (q.ends.take m).foldl (stepE t) X = Y := ⟨_, rfl⟩
              have hLY : Hid (Y.length = q.birth.length) := by show _ = _; rw [← hY, foldE_length, hLX.out]
              rw [hY] at hs hown
              clear hY
              obtain ⟨ci, ri⟩ := hown.cellG (j := i) (by rw [hLY.out]; exact hi)
              obtain ⟨cj, rj⟩ := hown.cellG (j := j) (by rw [hLY.out]; exact hj)
              have fi := hown.frozenG i
              have fj := hown.frozenG j
              by_cases het : et ≤ t
              · simp only [stepE, if_pos het, Int.toNat_natCast] at hs
                obtain ⟨x, hx⟩ : ∃ x, Y.getD i 0 = x := ⟨_, rfl⟩
                obtain ⟨y, hy⟩ : ∃ y, Y.getD j 0 = y := ⟨_, rfl⟩
                rw [hx] at ci ri hs
                rw [hy] at cj rj hs
                obtain ⟨M, hM⟩ : ∃ M, (if y < x then y else x) = M := ⟨_, rfl⟩
                have hmM : min x y = M := by rw [← hM]; split <;> omega
                rw [hmM] at hs
                have hrM : I64 M := by rw [← hM]; split <;> assumption
                have HS := Lib.hid hs
                clear hx hy hmM hs
                go_wp2_with fail
                go_quiet (fail)
                obtain ⟨Wq, hWq⟩ : ∃ Wq, Wq = wr.drewN nq := ⟨_, rfl⟩
                rw [← hWq]
                have hownq : OwnI Wq w.heap.size (.slice (some ⟨w.heap.size + 1, 0, none⟩) q.birth.length q.birth.length) Y := by rw [hWq]; exact hown.drewN nq
                have hbelq : Below w.heap.size w Wq := by rw [hWq]; exact below_drewN hbel nq
                have hkq : Blk Wq w.heap.size 56 #[.int .i64 q.stages, .slice A q.birth.length c, .slice (some ⟨b, o, none⟩) q.ends.length d] := by rw [hWq]; exact hkB.drewN nq
                have k0 : Wq.cell? ⟨b', o', none⟩ = some (.int .i64 i) := by rw [hWq]; exact j0'
                have k1 : Wq.cell? ⟨b', o' + 1, none⟩ = some (.int .i64 j) := by rw [hWq]; exact j1'
                have ci' := hownq.cellG (j := i) (by rw [hLY.out]; exact hi)
                have cj' := hownq.cellG (j := j) (by rw [hLY.out]; exact hj)
                have fi' := hownq.frozenG i
                have fj' := hownq.frozenG j
                have di := ci'.1
                have dj := cj'.1
                have hp := hownq.put (j := i) hrM
                have dj2 := (hp.1.cellG (j := j) (by rw [List.length_set, hLY.out]; exact hj)).1
                have fj2 := hp.1.frozenG j
                have hmo : Try.prog.follows .mixedOrders = true := by kernel_rfl
                have hp2 := hp.1.put (j := j) hrM
                have hg1 := hbelq.grown hp.2 (by have := hbelq.size; omega) (fun j hj => by injection hj with hj; omega)
                have hg2 := hg1.grown hp2.2 (by have := hg1.size; omega) (fun j hj => by injection hj with hj; omega)
                have hk2 := (hkq.grown hp.2 (by simp)).grown hp2.2 (by simp)
                rw [← HS.out] at hp2
                have HPO := Lib.hid hp2.1
                have HG2 := Lib.hid hg2
                have HK2 := Lib.hid hk2
                clear hp hp2 hg1 hg2 hk2 hownq hkq hbelq ci' cj' fi fj ci cj j0' j1' j2' hWq hown hkB e1 e2 hM
                go_wp2_with fail
                go_region_o
                go_wp2
                go_roundw
                case rel => exact ⟨m + 1, by omega, by go_num, HPO.out.drewN 1, below_drewN HG2.out 1, HK2.out.drewN 1⟩
                case measure => simp [intOf]; omega
              · have het' : t < et := by omega
                simp only [stepE, if_neg het] at hs
                rw [← hs] at hown
                clear hs
                go_wp2
                go_roundw
                case rel => exact ⟨m + 1, by omega, by go_num, hown, hbel, hkB⟩
                case measure => simp [intOf]; omega
            · have hst : Hid (itN (rndE t q.ends) (comp0 q.birth t) (k + 1) = (q.ends.take m).foldl (stepE t) X) := by
                show _ = _
                rw [itN, HX.out, rndE, List.take_of_length_le (by omega)]
              rw [← hst.out] at hown
              go_wp2
              go_roundw
              case rel => exact ⟨k + 1, by omega, by go_num, hown, hbel, hkB⟩
              case measure => simp [intOf]; omega
        · have hst : Hid (compQ q t = itN (rndE t q.ends) (comp0 q.birth t) k) := by show _ = _; rw [compQ, show q.birth.length = k by omega]
          rw [← hst.out] at hown
          go_wp2
          exact bodyPost_ret (v := .slice (some ⟨w.heap.size + 1, 0, none⟩) q.birth.length q.birth.length) (by simp [results, go_sem]) rfl ⟨_, rfl, IntsO.of_own hown, hbel⟩

set_option maxHeartbeats 400000 in
theorem hasStage_any (u : Value) (q : Filt) (t : Int) (w : World) (hu : FiR w w.heap.size u q) :
    Calls Try.prog 151 #[u, .int .i64 t] w fun e w' => e = .returned (.bool (isF q && inR t 0 (q.stages - 1))) ∧ Below w.heap.size w w' := by
  obtain ⟨A, c, C, d, rfl, hf, hT, hr, lf, lt⟩ := hu.open_
  obtain ⟨W, hW⟩ : ∃ W, W = w.alloc (.cells #[.int .i64 q.stages, .slice A q.birth.length c, .slice C q.ends.length d] 56) := ⟨_, rfl⟩
  have g0 : Below w.heap.size w W := by rw [hW]; exact below_alloc _ _
  have kB : Blk W w.heap.size 56 #[.int .i64 q.stages, .slice A q.birth.length c, .slice C q.ends.length d] := by rw [hW]; exact Blk.new _ _ _
  have c0 := kB.cell' (i := 0) rfl
  have c1 := kB.cell' (i := 1) rfl
  have c2 := kB.cell' (i := 2) rfl
  have h0 := FiR.next g0 hu
  clear hu
  rcases hq : isF q with _ | _
  · go_enter Try.func151, Try.ntmps151
    go_wp2_with fail
    rw [← hW]; clear hW
    refine (implIsFiltration_any _ _ _ h0).mono ?_; rintro e w1 ⟨rfl, hb1⟩
    rw [hq]
    go_wp2
    go_ret
    exact ⟨rfl, bthen g0 hb1⟩
  · have hs := isF_lens hq
    obtain ⟨_, _, _, hs1, hs2⟩ := hs
    go_enter Try.func151, Try.ntmps151
    go_wp2_with fail
    rw [← hW]; clear hW
    refine (implIsFiltration_any _ _ _ h0).mono ?_; rintro e w1 ⟨rfl, hb1⟩
    rw [hq]
    have d0 := (kB.call hb1).cell' (i := 0) rfl
    clear c0 c1 c2
    go_wp2_with fail
    refine (within_any _ _ _ _).mono ?_; rintro e w' ⟨rfl, rfl⟩
    go_wp2
    go_ret
    exact ⟨by simp, bthen g0 hb1⟩

set_option maxHeartbeats 400000 in
theorem implComponentsAt_any (u : Value) (q : Filt) (t : Int) (w : World) (hu : FiR w w.heap.size u q) (_ : I64 t) :
    Calls Try.prog 123 #[u, .int .i64 t] w fun e w' => ∃ v, e = .returned v ∧ IntsO w' w.heap.size w'.heap.size v (compsQ q t) ∧ Below w.heap.size w w' := by
  have hu' := hu
  obtain ⟨A, c, C, d, rfl, hf, hT, hr, lf, lt⟩ := hu.open_
  obtain ⟨W, hW⟩ : ∃ W, W = w.alloc (.cells #[.int .i64 q.stages, .slice A q.birth.length c, .slice C q.ends.length d] 56) := ⟨_, rfl⟩
  have g0 : Below w.heap.size w W := by rw [hW]; exact below_alloc _ _
  have kB : Blk W w.heap.size 56 #[.int .i64 q.stages, .slice A q.birth.length c, .slice C q.ends.length d] := by rw [hW]; exact Blk.new _ _ _
  have c0 := kB.cell' (i := 0) rfl
  have c1 := kB.cell' (i := 1) rfl
  have c2 := kB.cell' (i := 2) rfl
  have h0 := FiR.next g0 hu'
  clear hu hu' hf hT
  obtain ⟨B, hB⟩ : ∃ B, (isF q && inR t 0 (q.stages - 1)) = B := ⟨_, rfl⟩
  have HB := Lib.hid hB
  clear hB
  cases B
  · have HC : Hid (compsQ q t = []) := by show _ = _; rw [compsQ, HB.out]; rfl
    go_enter Try.func123, Try.ntmps123
    go_wp2_with fail
    rw [← hW]; clear hW
    refine (hasStage_any _ _ _ _ h0).mono ?_; rintro e w1 ⟨rfl, hb1⟩
    rw [HB.out]
    go_wp2
    exact bodyPost_ret (v := .slice none 0 0) (by simp [results, go_sem]) rfl ⟨_, rfl, by rw [HC.out]; exact ⟨OwnI.nil _ _, fun k hk => by simp [Value.ownBlock] at hk⟩, bthen g0 hb1⟩
  · have HC : Hid (compsQ q t = compQ q t) := by show _ = _; rw [compsQ, HB.out]; rfl
    have hq := HB.out
    rw [Bool.and_eq_true] at hq
    have hq := hq.1
    go_enter Try.func123, Try.ntmps123
    go_wp2_with fail
    rw [← hW]; clear hW
    refine (hasStage_any _ _ _ _ h0).mono ?_; rintro e w1 ⟨rfl, hb1⟩
    rw [HB.out]
    have d0 := (kB.call hb1).cell' (i := 0) rfl
    have d1 := (kB.call hb1).cell' (i := 1) rfl
    have d2 := (kB.call hb1).cell' (i := 2) rfl
    clear c0 c1 c2
    have h1 := FiR.next hb1 h0
    go_wp2_with fail
    refine (components_any _ _ _ _ h1 hq).mono ?_; rintro e w2 ⟨v, rfl, ho, hb2⟩
    go_wp2
    have g1 := bthen g0 hb1
    exact bodyPost_ret (v := v) (by simp [results, go_sem]) rfl ⟨_, rfl, by rw [HC.out]; exact ho.wider g1.size (Nat.le_refl _), bthen g1 hb2⟩
end Go.Proofs.Ytcmlflppndfdcaa

/- The labels of components: each that is not -1 is its own label. Plain. -/
namespace Go.Proofs.Ytcmlflppndfdcaa
set_option linter.unusedVariables false
set_option linter.unusedSimpArgs false
open Go.RowKit

/-! ### What the labels are -/
/-- an edge of the stage t, either way -/
def adjE (t : Int) (ends : List (List Int)) (i j : Nat) : Prop := ∃ a b s, [a, b, s] ∈ ends ∧ s ≤ t ∧ ((i = a.toNat ∧ j = b.toNat) ∨ (i = b.toNat ∧ j = a.toNat))
/-- a walk's points behind i -/
def isW (t : Int) (ends : List (List Int)) : Nat → List Nat → Nat → Prop
  | i, [], j => i = j
  | i, k :: r, j => adjE t ends i k ∧ isW t ends k r j
theorem adjE_symm {t : Int} {ends : List (List Int)} {i j : Nat} (h : adjE t ends i j) : adjE t ends j i := by
  obtain ⟨a, b, s, hm, hs, h⟩ := h
  exact ⟨a, b, s, hm, hs, h.elim (fun h => .inr ⟨h.2, h.1⟩) fun h => .inl ⟨h.2, h.1⟩⟩
theorem isW_trans {t : Int} {ends : List (List Int)} : ∀ {l : List Nat} {i j k : Nat} {m : List Nat}, isW t ends i l j → isW t ends j m k → isW t ends i (l ++ m) k
  | [], i, j, k, m, h, h2 => by subst h; exact h2
  | x :: r, i, j, k, m, h, h2 => ⟨h.1, isW_trans h.2 h2⟩
theorem isW_symm {t : Int} {ends : List (List Int)} : ∀ {l : List Nat} {i j : Nat}, isW t ends i l j → ∃ m, isW t ends j m i
  | [], i, j, h => ⟨[], h.symm⟩
  | x :: r, i, j, h => by
    obtain ⟨m, hm⟩ := isW_symm h.2
    exact ⟨m ++ [i], isW_trans hm ⟨adjE_symm h.1, rfl⟩⟩
/-- the walk from a point of it on -/
theorem isW_drop {t : Int} {ends : List (List Int)} : ∀ {l : List Nat} {i j k : Nat}, isW t ends i l j → k ∈ l → ∃ m, isW t ends k m j ∧ m.length < l.length ∧ ∀ x ∈ m, x ∈ l
  | x :: r, i, j, k, h, hk => by
    rcases List.mem_cons.1 hk with rfl | hk
    · exact ⟨r, h.2, by simp, fun x hx => List.mem_cons_of_mem _ hx⟩
    · obtain ⟨m, h1, h2, h3⟩ := isW_drop h.2 hk
      exact ⟨m, h1, by simp; omega, fun y hy => List.mem_cons_of_mem _ (h3 y hy)⟩
/-- a walk that meets no point twice -/
theorem isW_short {t : Int} {ends : List (List Int)} : ∀ (n : Nat) {l : List Nat} {i j : Nat}, l.length ≤ n → isW t ends i l j → ∃ m, isW t ends i m j ∧ (i :: m).Nodup ∧ ∀ x ∈ m, x ∈ l
  | n, [], i, j, _, h => ⟨[], h, by simp, by simp⟩
  | 0, x :: r, i, j, hn, h => by simp at hn
  | n + 1, x :: r, i, j, hn, h => by
    by_cases hi : i ∈ x :: r
    · obtain ⟨m, h1, h2, h3⟩ := isW_drop h hi
      obtain ⟨m', h4, h5, h6⟩ := isW_short n (by omega) h1
      exact ⟨m', h4, h5, fun y hy => h3 y (h6 y hy)⟩
    · obtain ⟨m, h4, h5, h6⟩ := isW_short n (by simpa using hn) h.2
      refine ⟨x :: m, ⟨h.1, h4⟩, List.nodup_cons.2 ⟨fun hm => hi ?_, h5⟩, fun y hy => ?_⟩
      · rcases List.mem_cons.1 hm with rfl | hm
        · simp
        · exact List.mem_cons_of_mem _ (h6 _ hm)
      · rcases List.mem_cons.1 hy with rfl | hy
        · simp
        · exact List.mem_cons_of_mem _ (h6 _ hy)
theorem nodup_len : ∀ (n : Nat) (l : List Nat), l.Nodup → (∀ x ∈ l, x < n) → l.length ≤ n
  | 0, l, _, h => by
    cases l with
    | nil => simp
    | cons a r => exact absurd (h a (by simp)) (by omega)
  | n + 1, l, hd, h => by
    have h1 : (l.erase n).length ≤ n := nodup_len n _ (hd.erase n) fun x hx => by
      have h2 := h x (List.mem_of_mem_erase hx)
      have h3 : x ≠ n := fun e => by subst e; exact absurd hx (by rw [List.Nodup.mem_erase_iff hd]; simp)
      omega
    rw [List.length_erase] at h1
    split at h1 <;> omega
theorem adjE_lt {t : Int} {q : Filt} (hq : isF q = true) {i j : Nat} (h : adjE t q.ends i j) : i < q.birth.length ∧ j < q.birth.length ∧ q.birth.getD i 0 ≤ t ∧ q.birth.getD j 0 ≤ t := by
  obtain ⟨a, b, s, hm, hs, h⟩ := h
  simp only [isF, Bool.and_eq_true] at hq
  have h2 := List.all_eq_true.1 hq.2 _ hm
  simp only [okEnd, Bool.and_eq_true, inR_t] at h2
  obtain ⟨⟨⟨⟨h1, h3⟩, h4, h5⟩, _⟩, h6, _⟩ := h2
  rcases h with ⟨rfl, rfl⟩ | ⟨rfl, rfl⟩ <;> omega
theorem isW_lt {t : Int} {q : Filt} (hq : isF q = true) : ∀ {l : List Nat} {i j : Nat}, isW t q.ends i l j → ∀ x ∈ l, x < q.birth.length
  | [], _, _, _, x, hx => by simp at hx
  | y :: r, i, j, h, x, hx => by
    rcases List.mem_cons.1 hx with rfl | hx
    · exact (adjE_lt hq h.1).2.1
    · exact isW_lt hq h.2 x hx

/-! Values, told by place. -/
def gt (l : List Int) (i : Nat) : Int := l.getD i 0
theorem gt_set (l : List Int) (i j : Nat) (x : Int) (h : i < l.length) : gt (l.set i x) j = if i = j then x else gt l j := by
  unfold gt
  rw [List.getD_eq_getElem?_getD, List.getElem?_set, List.getD_eq_getElem?_getD]
  split
  · subst_vars; simp
  · rfl
/-- one edge: the two ends get the least, all else stays -/
theorem stepE_gt {t : Int} {q : Filt} (hq : isF q = true) {e : List Int} (he : e ∈ q.ends) {c : List Int} (hc : c.length = q.birth.length) :
    (∀ i, gt (stepE t c e) i ≤ gt c i) ∧ (∀ a b s, e = [a, b, s] → s ≤ t → gt (stepE t c e) a.toNat ≤ gt c b.toNat ∧ gt (stepE t c e) b.toNat ≤ gt c a.toNat) ∧
    (∀ i, gt (stepE t c e) i = gt c i ∨ ∃ j, adjE t q.ends i j ∧ gt (stepE t c e) i = gt c j) := by
  have hq' := hq
  simp only [isF, Bool.and_eq_true] at hq'
  have h2 := List.all_eq_true.1 hq'.2 _ he
  match e, h2 with
  | [a, b, s], h2 =>
    simp only [okEnd, Bool.and_eq_true, inR_t] at h2
    obtain ⟨⟨⟨⟨h1, h3⟩, h4, h5⟩, _⟩, _⟩ := h2
    have ha : a.toNat < c.length := by omega
    have hb : b.toNat < c.length := by omega
    by_cases hs : s ≤ t
    · have E : ∀ i, gt (stepE t c [a, b, s]) i = if b.toNat = i then min (gt c a.toNat) (gt c b.toNat) else if a.toNat = i then min (gt c a.toNat) (gt c b.toNat) else gt c i := by
        intro i
        simp only [stepE, if_pos hs]
        rw [gt_set _ _ _ _ (by simpa using hb), gt_set _ _ _ _ ha]
        rfl
      refine ⟨fun i => ?_, fun a' b' s' e' _ => ?_, fun i => ?_⟩
      · rw [E]; split
        · subst_vars; omega
        · split
          · subst_vars; omega
          · omega
      · injection e' with e1 e2; injection e2 with e2 e3; subst e1 e2
        rw [E, E]
        constructor
        · split
          · omega
          · rw [if_pos rfl]; omega
        · rw [if_pos rfl]; omega
      · rw [E]
        have ab : adjE t q.ends a.toNat b.toNat := ⟨a, b, s, he, hs, .inl ⟨rfl, rfl⟩⟩
        rcases Int.le_total (gt c a.toNat) (gt c b.toNat) with hm | hm
        · rw [Int.min_eq_left hm]
          split
          · subst_vars; exact .inr ⟨_, adjE_symm ab, rfl⟩
          · split
            · subst_vars; exact .inl rfl
            · exact .inl rfl
        · rw [Int.min_eq_right hm]
          split
          · subst_vars; exact .inl rfl
          · split
            · subst_vars; exact .inr ⟨_, ab, rfl⟩
            · exact .inl rfl
    · have E : stepE t c [a, b, s] = c := by simp only [stepE, if_neg hs]
      rw [E]
      refine ⟨fun i => by omega, fun a' b' s' e' h' => ?_, fun i => .inl rfl⟩
      injection e' with e1 e2; injection e2 with e2 e3; injection e3 with e3; omega
  | [], h2 | [_], h2 | [_, _], h2 | _ :: _ :: _ :: _ :: _, h2 => simp [okEnd] at h2
/-- one round, over part of the edges -/
theorem fold_gt {t : Int} {q : Filt} (hq : isF q = true) : ∀ (es : List (List Int)) (c : List Int), (∀ e ∈ es, e ∈ q.ends) → c.length = q.birth.length →
    (∀ i, gt (es.foldl (stepE t) c) i ≤ gt c i) ∧ (∀ a b s, [a, b, s] ∈ es → s ≤ t → gt (es.foldl (stepE t) c) a.toNat ≤ gt c b.toNat ∧ gt (es.foldl (stepE t) c) b.toNat ≤ gt c a.toNat) ∧
    (∀ i, ∃ l j, isW t q.ends i l j ∧ gt (es.foldl (stepE t) c) i = gt c j)
  | [], c, _, _ => ⟨fun i => by simp, fun a b s h => by simp at h, fun i => ⟨[], i, rfl, rfl⟩⟩
  | e :: r, c, h, hc => by
    obtain ⟨s1, s2, s3⟩ := stepE_gt hq (t := t) (h e (by simp)) hc
    obtain ⟨f1, f2, f3⟩ := fold_gt hq r (stepE t c e) (fun e' he => h e' (by simp [he])) (by rw [stepE_length]; exact hc)
    rw [List.foldl_cons]
    refine ⟨fun i => Int.le_trans (f1 i) (s1 i), fun a b s hm hs => ?_, fun i => ?_⟩
    · rcases List.mem_cons.1 hm with rfl | hm
      · obtain ⟨x, y⟩ := s2 a b s rfl hs
        exact ⟨Int.le_trans (f1 _) x, Int.le_trans (f1 _) y⟩
      · obtain ⟨x, y⟩ := f2 a b s hm hs
        exact ⟨Int.le_trans x (s1 _), Int.le_trans y (s1 _)⟩
    · obtain ⟨l, j, hw, hv⟩ := f3 i
      rcases s3 j with e1 | ⟨k, hk, e1⟩
      · exact ⟨l, j, hw, by rw [hv, e1]⟩
      · exact ⟨l ++ [k], k, isW_trans hw ⟨hk, rfl⟩, by rw [hv, e1]⟩
/-- behind n rounds -/
theorem it_gt {t : Int} {q : Filt} (hq : isF q = true) (c : List Int) (hc : c.length = q.birth.length) : ∀ n,
    (∀ i, gt (itN (rndE t q.ends) c n) i ≤ gt c i) ∧ (∀ i l j, isW t q.ends i l j → l.length ≤ n → gt (itN (rndE t q.ends) c n) i ≤ gt c j) ∧
    (∀ i, ∃ l j, isW t q.ends i l j ∧ gt (itN (rndE t q.ends) c n) i = gt c j)
  | 0 => ⟨fun i => by simp [itN], fun i l j hw hl => by
      have : l = [] := List.eq_nil_of_length_eq_zero (by omega)
      subst this; obtain rfl := hw; simp [itN], fun i => ⟨[], i, rfl, rfl⟩⟩
  | n + 1 => by
    obtain ⟨i1, i2, i3⟩ := it_gt hq c hc n
    obtain ⟨f1, f2, f3⟩ := fold_gt hq (t := t) q.ends (itN (rndE t q.ends) c n) (fun _ h => h) (by rw [itN_length]; exact hc)
    simp only [itN]
    refine ⟨fun i => Int.le_trans (f1 i) (i1 i), fun i l j hw hl => ?_, fun i => ?_⟩
    · cases l with
      | nil => obtain rfl := hw; exact Int.le_trans (f1 _) (i1 _)
      | cons k r =>
        obtain ⟨⟨a, b, s, hm, hs, h⟩, hr⟩ := hw
        have h4 := i2 k r j hr (by simpa using hl)
        obtain ⟨x, y⟩ := f2 a b s hm hs
        rcases h with ⟨rfl, rfl⟩ | ⟨rfl, rfl⟩
        · exact Int.le_trans x h4
        · exact Int.le_trans y h4
    · obtain ⟨l, j, hw, hv⟩ := f3 i
      obtain ⟨m, k, hw2, hv2⟩ := i3 j
      exact ⟨l ++ m, k, isW_trans hw hw2, by rw [show rndE t q.ends _ = _ from rfl, rndE, hv, hv2]⟩
theorem comp0_gt (bi : List Int) (t : Int) (i : Nat) (hi : i < bi.length) : gt (comp0 bi t) i = if t < bi.getD i 0 then -1 else (i : Int) := by
  have : (comp0 bi t)[i]? = some (if t < bi.getD i 0 then -1 else (i : Int)) := by simp [comp0, hi]
  rw [gt, List.getD_eq_getElem?_getD, this]; rfl
/-- **Each label that is not -1 is its own label.** -/
theorem compQ_root {q : Filt} {t : Int} (hq : isF q = true) {i : Nat} (hi : i < q.birth.length) : (gt (compQ q t) i = -1 ∧ t < q.birth.getD i 0) ∨ (q.birth.getD i 0 ≤ t ∧ ∃ l : Nat, gt (compQ q t) i = l ∧ l ≤ i ∧ gt (compQ q t) l = l) := by
  have key : ∀ i, i < q.birth.length → ∃ l j, isW t q.ends i l j ∧ j < q.birth.length ∧ gt (compQ q t) i = if t < q.birth.getD j 0 then -1 else (j : Int) := by
    intro i hi
    obtain ⟨h1, h2, h3⟩ := it_gt hq (t := t) (comp0 q.birth t) (comp0_length _ _) q.birth.length
    obtain ⟨l, j, hw, hv⟩ := h3 i
    have hj : j < q.birth.length := by
      cases l with
      | nil => obtain rfl := hw; exact hi
      | cons k r =>
        obtain ⟨m, hm⟩ := isW_symm hw
        cases m with
        | nil => obtain rfl := hm; exact hi
        | cons k' r' => exact (adjE_lt hq hm.1).1
    exact ⟨l, j, hw, hj, by rw [compQ, hv, comp0_gt _ _ _ hj]⟩
  have alive : ∀ i l j, isW t q.ends i l j → (q.birth.getD i 0 ≤ t ↔ q.birth.getD j 0 ≤ t) := by
    intro i l j hw
    cases l with
    | nil => obtain rfl := hw; rfl
    | cons k r =>
      obtain ⟨m, hm⟩ := isW_symm hw
      cases m with
      | nil => obtain rfl := hm; rfl
      | cons k' r' => exact ⟨fun _ => (adjE_lt hq hm.1).2.2.1, fun _ => (adjE_lt hq hw.1).2.2.1⟩
  have up : ∀ i l j, i < q.birth.length → isW t q.ends i l j → gt (compQ q t) i ≤ gt (comp0 q.birth t) j := by
    intro i l j hi hw
    obtain ⟨m, h1, h2, h3⟩ := isW_short l.length (Nat.le_refl _) hw
    have h4 := nodup_len q.birth.length (i :: m) h2 fun x hx => by
      rcases List.mem_cons.1 hx with rfl | hx
      · exact hi
      · exact isW_lt hq h1 x hx
    exact (it_gt hq (t := t) (comp0 q.birth t) (comp0_length _ _) q.birth.length).2.1 i m j h1 (by simp at h4; omega)
  by_cases ht : t < q.birth.getD i 0
  · obtain ⟨l, j, hw, hj, hv⟩ := key i hi
    have := alive i l j hw
    exact .inl ⟨by rw [hv, if_pos (by omega)], ht⟩
  · refine .inr ⟨by omega, ?_⟩
    obtain ⟨l, j, hw, hj, hv⟩ := key i hi
    have ha := alive i l j hw
    have hjt : ¬ t < q.birth.getD j 0 := by omega
    rw [if_neg hjt] at hv
    obtain ⟨l2, k, hw2, hk, hv2⟩ := key j hj
    have ha2 := alive j l2 k hw2
    have hkt : ¬ t < q.birth.getD k 0 := by omega
    rw [if_neg hkt] at hv2
    have u1 := up j [] j hj rfl
    rw [comp0_gt _ _ _ hj, if_neg hjt] at u1
    have u2 := up i _ k hi (isW_trans hw hw2)
    rw [comp0_gt _ _ _ hk, if_neg hkt] at u2
    have u3 := up i [] i hi rfl
    rw [comp0_gt _ _ _ hi, if_neg ht] at u3
    exact ⟨j, hv, by omega, by omega⟩

/-! ### Lists without repeats, in order -/
def asc (l : List Int) : Prop := l.Pairwise (· < ·)
theorem asc_ext : ∀ {a b : List Int}, asc a → asc b → (∀ x, x ∈ a ↔ x ∈ b) → a = b
  | [], [], _, _, _ => rfl
  | [], y :: s, _, _, h => absurd ((h y).2 (by simp)) (by simp)
  | x :: r, [], _, _, h => absurd ((h x).1 (by simp)) (by simp)
  | x :: r, y :: s, ha, hb, h => by
    obtain ⟨ha1, ha2⟩ := List.pairwise_cons.1 ha
    obtain ⟨hb1, hb2⟩ := List.pairwise_cons.1 hb
    have hxy : x = y := by
      rcases List.mem_cons.1 ((h x).1 (by simp)) with e | hx
      · exact e
      · rcases List.mem_cons.1 ((h y).2 (by simp)) with e | hy
        · exact e.symm
        · have := ha1 y hy; have := hb1 x hx; omega
    subst hxy
    rw [asc_ext ha2 hb2 fun z => ?_]
    constructor
    · intro hz
      rcases List.mem_cons.1 ((h z).1 (by simp [hz])) with e | h2
      · subst e; have := ha1 z hz; omega
      · exact h2
    · intro hz
      rcases List.mem_cons.1 ((h z).2 (by simp [hz])) with e | h2
      · subst e; have := hb1 z hz; omega
      · exact h2
/-- the labels that are their own, in order -/
def rootsC (c : List Int) : List Int := ((List.range c.length).filter fun i => decide (c.getD i 0 = (i : Int))).map fun i : Nat => (i : Int)
theorem rootsC_asc (c : List Int) : asc (rootsC c) := by
  unfold rootsC asc
  rw [List.pairwise_map]
  exact (List.Pairwise.filter _ List.pairwise_lt_range).imp fun h => by omega
theorem rootsC_mem (c : List Int) (x : Int) : x ∈ rootsC c ↔ ∃ i : Nat, x = i ∧ i < c.length ∧ c.getD i 0 = (i : Int) := by
  simp only [rootsC, List.mem_map, List.mem_filter, List.mem_range, decide_eq_true_eq]
  constructor
  · rintro ⟨i, ⟨h1, h2⟩, rfl⟩; exact ⟨i, rfl, h1, h2⟩
  · rintro ⟨i, rfl, h1, h2⟩; exact ⟨i, ⟨h1, h2⟩, rfl⟩
theorem compQ_length (q : Filt) (t : Int) : (compQ q t).length = q.birth.length := by rw [compQ, itN_length, comp0_length]
theorem compQ_vals {q : Filt} {t : Int} (hq : isF q = true) (x : Int) : (x ∈ compQ q t ∧ 0 ≤ x) ↔ x ∈ rootsC (compQ q t) := by
  rw [rootsC_mem]
  constructor
  · rintro ⟨hx, h0⟩
    obtain ⟨i, hi⟩ := List.mem_iff_getElem?.1 hx
    have hil : i < (compQ q t).length := (List.getElem?_eq_some_iff.1 hi).1
    have hg : gt (compQ q t) i = x := by rw [gt, List.getD_eq_getElem?_getD, hi]; rfl
    rw [compQ_length] at hil
    rcases compQ_root hq hil (t := t) with ⟨h1, _⟩ | ⟨_, l, h1, h2, h3⟩
    · omega
    · exact ⟨l, by omega, by rw [compQ_length]; omega, h3⟩
  · rintro ⟨i, rfl, h1, h2⟩
    refine ⟨List.mem_iff_getElem?.2 ⟨i, ?_⟩, by omega⟩
    rw [List.getD_eq_getElem?_getD, List.getElem?_eq_getElem h1] at h2
    rw [List.getElem?_eq_getElem h1]
    exact congrArg some h2
/-- a list in order, each number once, the negative ones left out: the roots -/
theorem leasts_eq {q : Filt} {t : Int} (hq : isF q = true) {l : List Int} (ha : asc l) (hm : ∀ x, x ∈ l ↔ x ∈ compQ q t ∧ 0 ≤ x) : l = rootsC (compQ q t) :=
  asc_ext ha (rootsC_asc _) fun x => (hm x).trans (compQ_vals hq x)
end Go.Proofs.Ytcmlflppndfdcaa

/- The reference's ComponentsAt. -/
namespace Go.Proofs.Ytcmlflppndfdcaa
set_option linter.unusedVariables false
set_option linter.unusedSimpArgs false
open Go.RowKit

set_option maxHeartbeats 1600000 in
theorem specComponentsAt_any (u : Value) (q : Filt) (t : Int) (w : World) (hu : FiR w w.heap.size u q) (ht : I64 t) :
    Calls Try.prog 77 #[u, .int .i64 t] w fun e w' => ∃ v, e = .returned v ∧ IntsO w' w.heap.size w'.heap.size v (compsQ q t) ∧ Below w.heap.size w w' := by
  have hu' := hu
  obtain ⟨A, c, C, d, rfl, hf, hT, hr, lf, lt⟩ := hu.open_
  have g0 : Below w.heap.size w ((w.alloc (.cells #[.int .i64 q.stages, .slice A q.birth.length c, .slice C q.ends.length d] 56)).alloc (.cells #[] 3)) := ((Below.refl _ _).alloc (Nat.le_refl _) _).alloc (by simp) _
  have kB : Blk ((w.alloc (.cells #[.int .i64 q.stages, .slice A q.birth.length c, .slice C q.ends.length d] 56)).alloc (.cells #[] 3)) w.heap.size 56 #[.int .i64 q.stages, .slice A q.birth.length c, .slice C q.ends.length d] := (Blk.new _ _ _).alloc _
  have ho0 : OwnI ((w.alloc (.cells #[.int .i64 q.stages, .slice A q.birth.length c, .slice C q.ends.length d] 56)).alloc (.cells #[] 3)) w.heap.size (.slice (some ⟨w.heap.size + 1, 0, none⟩) 0 0) [] := by
    have := OwnI.made (w := w.alloc (.cells #[.int .i64 q.stages, .slice A q.birth.length c, .slice C q.ends.length d] 56)) (base := w.heap.size) _ rfl (by simp)
    simpa only [World.size_alloc] using this
  clear hu
  obtain ⟨B, hB⟩ : ∃ B, (isF q && inR t 0 (q.stages - 1)) = B := ⟨_, rfl⟩
  cases B
  · have HC : Hid (compsQ q t = []) := by show _ = _; rw [compsQ, hB]; rfl
    have HB := Lib.hid hB
    clear hB
    go_enter Try.func77, Try.ntmps77
    go_wp2
    go_loopw [5, 6] (fun a i wr => a = (.slice (some ⟨w.heap.size + 1, 0, none⟩) 0 0) ∧ i = .int .i64 0 ∧ OwnI wr w.heap.size a [] ∧ Below w.heap.size w wr ∧ Blk wr w.heap.size 56 #[.int .i64 q.stages, .slice A q.birth.length c, .slice C q.ends.length d]) (fun _ i _ => 0)
    case atStart => exact ⟨rfl, rfl, ho0, g0, kB⟩
    case round =>
      clear g0 kB ho0
      obtain ⟨rfl, rfl, hown, hbel, hkB⟩ := hrel
      have e0 := hkB.cell' (i := 0) rfl
      have e1 := hkB.cell' (i := 1) rfl
      have e2 := hkB.cell' (i := 2) rfl
      by_cases hlt : 0 < q.birth.length
      · have hFr := FiR.more (B' := wr.heap.size) (by have := hbel.size; omega) (FiR.below hbel hu')
        rcases hq : isF q with _ | _
        · go_wp2_with fail
          refine (specIsFiltration_any _ _ _ hFr).mono ?_; rintro e w1 ⟨rfl, hb1⟩
          rw [hq]
          have hkB1 := hkB.call hb1
          have hown1 := hown.below hb1
          have hbel1 := hbel.trans (hb1.mono hbel.size)
          clear e0 e1 e2 hkB hown hbel hb1 hFr
          have e0 := hkB1.cell' (i := 0) rfl
          have e1 := hkB1.cell' (i := 1) rfl
          have e2 := hkB1.cell' (i := 2) rfl
          go_wp2
          have hown0 := hown1
          have hbel0 := hbel1
          have hkB0 := hkB1
          clear hown1 hbel1 hkB1 e0 e1 e2
          go_loopw [7] (fun i wr => i = .int .i64 0 ∧ OwnI wr w.heap.size (.slice (some ⟨w.heap.size + 1, 0, none⟩) 0 0) [] ∧ Below w.heap.size w wr) (fun _ _ => 0)
          case atStart => exact ⟨rfl, hown0, hbel0⟩
          case round =>
            clear hown0 hbel0 hkB0
            obtain ⟨rfl, hown, hbel⟩ := hrel
            go_wp2
            exact bodyPost_ret (v := (.slice (some ⟨w.heap.size + 1, 0, none⟩) 0 0)) (by simp [results, go_sem]) rfl ⟨_, rfl, by rw [HC.out]; exact IntsO.of_own hown, hbel⟩
        · have hin : inR t 0 (q.stages - 1) = false := by have := HB.out; rwa [hq, Bool.true_and] at this
          obtain ⟨hl1, hl2, hl3, hl4, hl5⟩ := isF_lens hq
          go_wp2_with fail
          refine (specIsFiltration_any _ _ _ hFr).mono ?_; rintro e w1 ⟨rfl, hb1⟩
          rw [hq]
          have hkB1 := hkB.call hb1
          have hown1 := hown.below hb1
          have hbel1 := hbel.trans (hb1.mono hbel.size)
          clear e0 e1 e2 hkB hown hbel hb1 hFr
          have e0 := hkB1.cell' (i := 0) rfl
          have e1 := hkB1.cell' (i := 1) rfl
          have e2 := hkB1.cell' (i := 2) rfl
          go_wp2_with fail
          refine (l1In_any _ _ _ _).mono ?_; rintro e w9 ⟨rfl, rfl⟩
          rw [hin]
          go_wp2
          have hown0 := hown1
          have hbel0 := hbel1
          have hkB0 := hkB1
          clear hown1 hbel1 hkB1 e0 e1 e2
          go_loopw [7] (fun i wr => i = .int .i64 0 ∧ OwnI wr w.heap.size (.slice (some ⟨w.heap.size + 1, 0, none⟩) 0 0) [] ∧ Below w.heap.size w wr) (fun _ _ => 0)
          case atStart => exact ⟨rfl, hown0, hbel0⟩
          case round =>
            clear hown0 hbel0 hkB0
            obtain ⟨rfl, hown, hbel⟩ := hrel
            go_wp2
            exact bodyPost_ret (v := (.slice (some ⟨w.heap.size + 1, 0, none⟩) 0 0)) (by simp [results, go_sem]) rfl ⟨_, rfl, by rw [HC.out]; exact IntsO.of_own hown, hbel⟩
      · have hlt0 : q.birth.length ≤ 0 := by omega
        go_wp2
        have hown0 := hown
        have hbel0 := hbel
        have hkB0 := hkB
        clear hown hbel hkB e0 e1 e2
        go_loopw [7] (fun i wr => i = .int .i64 0 ∧ OwnI wr w.heap.size (.slice (some ⟨w.heap.size + 1, 0, none⟩) 0 0) [] ∧ Below w.heap.size w wr) (fun _ _ => 0)
        case atStart => exact ⟨rfl, hown0, hbel0⟩
        case round =>
          clear hown0 hbel0 hkB0
          obtain ⟨rfl, hown, hbel⟩ := hrel
          go_wp2
          exact bodyPost_ret (v := (.slice (some ⟨w.heap.size + 1, 0, none⟩) 0 0)) (by simp [results, go_sem]) rfl ⟨_, rfl, by rw [HC.out]; exact IntsO.of_own hown, hbel⟩
  · have HC : Hid (compsQ q t = compQ q t) := by show _ = _; rw [compsQ, hB]; rfl
    rw [Bool.and_eq_true] at hB
    obtain ⟨hq, hin⟩ := hB
    obtain ⟨hl1, hl2, hl3, hl4, hl5⟩ := isF_lens hq
    go_enter Try.func77, Try.ntmps77
    go_wp2

    go_loopw [5, 6] (fun a i wr => ∃ k : Nat, k ≤ q.birth.length ∧ i = .int .i64 k ∧ OwnI wr w.heap.size a ((comp0 q.birth t).take k) ∧ Below w.heap.size w wr ∧ Blk wr w.heap.size 56 #[.int .i64 q.stages, .slice A q.birth.length c, .slice C q.ends.length d]) (fun _ i _ => q.birth.length - (intOf i).toNat)
    case atStart => exact ⟨0, Nat.zero_le _, rfl, ho0, g0, kB⟩
    case round =>
      clear g0 kB ho0
      obtain ⟨k, hk, rfl, hown, hbel, hkB⟩ := hrel
      have hlk : ((comp0 q.birth t).take k).length = k := by rw [List.length_take, comp0_length]; omega
      obtain ⟨ol, hol⟩ : ∃ ol, (comp0 q.birth t).take k = ol := ⟨_, rfl⟩
      rw [hol] at hown hlk
      have HOL := Lib.hid hol
      have HLK := Lib.hid hlk
      clear hol hlk
      obtain ⟨OA, oc, rfl, _, _⟩ := hown.form
      have e0 := hkB.cell' (i := 0) rfl
      have e1 := hkB.cell' (i := 1) rfl
      have e2 := hkB.cell' (i := 2) rfl
      by_cases hlt : k < q.birth.length
      · obtain ⟨b, o, x, rfl, hb, HX, x1, _⟩ := SlI.at_ hf hlt
        have hFr := FiR.more (B' := wr.heap.size) (by have := hbel.size; omega) (FiR.below hbel hu')
        go_wp2_with fail
        refine (specIsFiltration_any _ _ _ hFr).mono ?_; rintro e w1 ⟨rfl, hb1⟩
        rw [hq]
        have hkB1 := hkB.call hb1
        have hown1 := hown.below hb1
        have hbel1 := hbel.trans (hb1.mono hbel.size)
        have x2 := bcell hbel1 hb x1
        clear e0 e1 e2 hkB hown hbel hb1 x1 hFr
        have e0 := hkB1.cell' (i := 0) rfl
        have e1 := hkB1.cell' (i := 1) rfl
        go_wp2_with fail
        refine (l1In_any _ _ _ _).mono ?_; rintro e w9 ⟨rfl, rfl⟩
        rw [hin]
        by_cases hxt : t < x
        · have HIF := Lib.hid (show (if t < x then (-1 : Int) else (k : Int)) = -1 from if_pos hxt)
          have hko := hown1.alloc (.cells #[.int .i64 (-1)] 3)
          have hka := hkB1.call (below_alloc w9 (.cells #[.int .i64 (-1)] 3))
          have hst : Hid (ol ++ [-1] = (comp0 q.birth t).take (k + 1)) := by show _ = _; rw [take_snoc (comp0_get HX.out), HOL.out, HIF.out]
          (go_wp2_with (at_builtin; refine Hold.stop ?_)); unfold Hold
          refine wpList_appI rfl (.tmp 42) (.tmp 43) rfl w.heap.size _ (.slice OA ol.length oc) ol rfl hko _ _ _ [(-1 : Int)] rfl rfl (SlI.one w9 _ (-1) ⟨by omega, by omega⟩) (by have := HLK.out; simp only [List.length_singleton]; omega) (by have := hbel1.size; simp; omega) ?_
          intro v1 w3 ho1 hg1 hv1
          rw [hst.out] at ho1
          have hk3 := hka.grown hg1 (hko.blkne hka (by decide))
          have hb3 := (hbel1.alloc hbel1.size (.cells #[.int .i64 (-1)] 3)).grown hg1 (by have := hbel1.size; simp; omega) (fun j hj => (hko.lt j hj).1)
          clear e0 e1 hko hka hg1 hv1 hown1 hkB1 hbel1
          go_wp2
          go_roundw
          case rel => exact ⟨k + 1, by omega, by go_num, ho1, hb3, hk3⟩
          case measure => simp [intOf]; omega
        · have hxt' : x ≤ t := by omega
          have HIF := Lib.hid (show (if t < x then (-1 : Int) else (k : Int)) = k from if_neg hxt)
          have hko := hown1.alloc (.cells #[.int .i64 k] 3)
          have hka := hkB1.call (below_alloc w9 (.cells #[.int .i64 k] 3))
          have hst : Hid (ol ++ [(k : Int)] = (comp0 q.birth t).take (k + 1)) := by show _ = _; rw [take_snoc (comp0_get HX.out), HOL.out, HIF.out]
          (go_wp2_with (at_builtin; refine Hold.stop ?_)); unfold Hold
          refine wpList_appI rfl (.tmp 38) (.tmp 40) rfl w.heap.size _ (.slice OA ol.length oc) ol rfl hko _ _ _ [(k : Int)] rfl rfl (SlI.one w9 _ (k) ⟨by omega, by omega⟩) (by have := HLK.out; simp only [List.length_singleton]; omega) (by have := hbel1.size; simp; omega) ?_
          intro v1 w3 ho1 hg1 hv1
          rw [hst.out] at ho1
          have hk3 := hka.grown hg1 (hko.blkne hka (by decide))
          have hb3 := (hbel1.alloc hbel1.size (.cells #[.int .i64 k] 3)).grown hg1 (by have := hbel1.size; simp; omega) (fun j hj => (hko.lt j hj).1)
          clear e0 e1 hko hka hg1 hv1 hown1 hkB1 hbel1
          go_wp2
          go_roundw
          case rel => exact ⟨k + 1, by omega, by go_num, ho1, hb3, hk3⟩
          case measure => simp [intOf]; omega
      · have hend : ol = itN (rndE t q.ends) (comp0 q.birth t) 0 := by
          rw [← HOL.out, List.take_of_length_le (by rw [comp0_length]; omega)]; rfl
        have hkn : k = q.birth.length := by omega
        have hlk' := HLK.out
        obtain ⟨g, rfl, hgl⟩ : ∃ g, OA = some ⟨g, 0, none⟩ ∧ w.heap.size ≤ g := by
          rcases hown.1.2 with ⟨e, _⟩ | ⟨g, cap, cur, e, hg, _⟩
          · injection e with _ e _
            omega
          · injection e with e _ _
            exact ⟨g, e, hg⟩
        rw [hlk'] at hown ⊢
        rw [hend] at hown
        have HKN := Lib.hid hkn
        clear hkn hlk' hend
        go_wp2
        have hown0 := hown
        have hbel0 := hbel
        have hkB0 := hkB
        clear hown hbel hkB e0 e1 e2 hk hlt
        have hlen1 := Lib.hid (fun n => itN_length t q.ends (comp0 q.birth t) n)
        have hkp : k ≤ 4 := by have := HKN.out; omega
        go_loopw [7] (fun i wr => ∃ n : Nat, n ≤ k ∧ i = .int .i64 n ∧ OwnI wr w.heap.size (.slice (some ⟨g, 0, none⟩) k oc) (itN (rndE t q.ends) (comp0 q.birth t) n) ∧ Below w.heap.size w wr ∧ Blk wr w.heap.size 56 #[.int .i64 q.stages, .slice A q.birth.length c, .slice C q.ends.length d]) (fun i _ => k - (intOf i).toNat)
        case atStart => exact ⟨0, Nat.zero_le _, rfl, hown0, hbel0, hkB0⟩
        case round =>
          clear hown0 hbel0 hkB0
          obtain ⟨n, hn, rfl, hown, hbel, hkB⟩ := hrel
          have e1 := hkB.cell' (i := 1) rfl
          have e2 := hkB.cell' (i := 2) rfl
          by_cases hlt : n < k
          · have hLX := Lib.hid (((hlen1.out n).trans (comp0_length q.birth t)).trans HKN.out.symm)
            obtain ⟨X, hX⟩ : ∃ X, itN (rndE t q.ends) (comp0 q.birth t) n = X := ⟨_, rfl⟩
            rw [hX] at hown hLX
            have HX := Lib.hid hX
            clear hX
            go_wp2
            have hown1 := hown
            have hbel1 := hbel
            have hkB1 := hkB
            clear hown hbel hkB e1 e2
            go_loopw [8] (fun i wr => ∃ m : Nat, m ≤ q.ends.length ∧ i = .int .i64 m ∧ OwnI wr w.heap.size (.slice (some ⟨g, 0, none⟩) k oc) ((q.ends.take m).foldl (stepE t) X) ∧ Below w.heap.size w wr ∧ Blk wr w.heap.size 56 #[.int .i64 q.stages, .slice A q.birth.length c, .slice C q.ends.length d]) (fun i _ => q.ends.length - (intOf i).toNat)
            case atStart => exact ⟨0, Nat.zero_le _, rfl, hown1, hbel1, hkB1⟩
            case round =>
              clear hown1 hbel1 hkB1
              obtain ⟨m, hm, rfl, hown, hbel, hkB⟩ := hrel
              have e1 := hkB.cell' (i := 1) rfl
              have e2 := hkB.cell' (i := 2) rfl
              by_cases hltm : m < q.ends.length
              · obtain ⟨b, o, l, A', c', rfl, hb, HL, x1, hl⟩ := SlII.at_ hT hltm
                obtain ⟨i, j, et, rfl, hi, hj⟩ := isF_end hq HL.out
                have hik : i < k := by have := HKN.out; omega
                have hjk : j < k := by have := HKN.out; omega
                have x2 := bcell hbel hb x1
                obtain ⟨b', o', y0, rfl, hb', HY0, j0, _⟩ := SlI.at_ (k := 0) hl (by simp)
                obtain ⟨b2, o2, y1, E1, _, HY1, j1, _⟩ := SlI.at_ (k := 1) hl (by simp)
                obtain ⟨b3, o3, y2, E2, _, HY2, j2, _⟩ := SlI.at_ (k := 2) hl (by simp)
                have F1 := HY0.out
                have F2 := HY1.out
                have F3 := HY2.out
                simp only [List.getElem?_cons_zero, List.getElem?_cons_succ, Option.some.injEq] at F1 F2 F3 E1 E2
                injection E1 with E1a E1b
                injection E2 with E2a E2b
                subst F1 F2 F3 E1a E1b E2a E2b
                have j0' := bcell hbel hb' j0
                have j1' := bcell hbel hb' j1
                have j2' := bcell hbel hb' j2
                clear j0 j1 j2 HY0 HY1 HY2 x1 hl
                simp only [List.length_cons, List.length_nil, Nat.zero_add, Nat.reduceAdd] at x2
                simp only [Nat.add_zero] at j0'
                have hs := fold_snoc (t := t) (out := X) HL.out
                obtain ⟨Y, hY⟩ : ∃ Y, (q.ends.take m).foldl (stepE t) X = Y := ⟨_, rfl⟩
                have hLY : Hid (Y.length = k) := by show _ = _; rw [← hY, foldE_length, hLX.out]
                rw [hY] at hs hown
                clear hY
                obtain ⟨ci, ri⟩ := hown.cellG (j := i) (by rw [hLY.out]; exact hik)
                obtain ⟨cj, rj⟩ := hown.cellG (j := j) (by rw [hLY.out]; exact hjk)
                have fi := hown.frozenG i
                have fj := hown.frozenG j
                by_cases het : et ≤ t
                · have het' : ¬ t < et := by omega
                  simp only [stepE, if_pos het, Int.toNat_natCast] at hs
                  obtain ⟨x, hx⟩ : ∃ x, Y.getD i 0 = x := ⟨_, rfl⟩
                  obtain ⟨y, hy⟩ : ∃ y, Y.getD j 0 = y := ⟨_, rfl⟩
                  rw [hx] at ci ri hs
                  rw [hy] at cj rj hs
                  obtain ⟨M, hM⟩ : ∃ M, (if y < x then y else x) = M := ⟨_, rfl⟩
                  have hmM : min x y = M := by rw [← hM]; split <;> omega
                  rw [hmM] at hs
                  have hrM : I64 M := by rw [← hM]; split <;> assumption
                  have HS := Lib.hid hs
                  clear hx hy hmM hs
                  go_wp2_with fail
                  go_quiet (fail)
                  obtain ⟨Wq, hWq⟩ : ∃ Wq, Wq = wr.drewN nq := ⟨_, rfl⟩
                  rw [← hWq]
                  have hownq : OwnI Wq w.heap.size (.slice (some ⟨g, 0, none⟩) k oc) Y := by rw [hWq]; exact hown.drewN nq
                  have hbelq : Below w.heap.size w Wq := by rw [hWq]; exact below_drewN hbel nq
                  have hkq : Blk Wq w.heap.size 56 #[.int .i64 q.stages, .slice A q.birth.length c, .slice (some ⟨b, o, none⟩) q.ends.length d] := by rw [hWq]; exact hkB.drewN nq
                  have hne := hownq.blkne hkq (by decide)
                  have di := (hownq.cellG (j := i) (by rw [hLY.out]; exact hik)).1
                  have dj := (hownq.cellG (j := j) (by rw [hLY.out]; exact hjk)).1
                  have fi' := hownq.frozenG i
                  have fj' := hownq.frozenG j
                  have hp := hownq.put (j := i) hrM
                  have dj2 := (hp.1.cellG (j := j) (by rw [List.length_set, hLY.out]; exact hjk)).1
                  have fj2 := hp.1.frozenG j
                  have hp2 := hp.1.put (j := j) hrM
                  have hg1 := hbelq.grown hp.2 (by have := hbelq.size; omega) (fun j hj => by injection hj with hj; omega)
                  have hg2 := hg1.grown hp2.2 (by have := hg1.size; omega) (fun j hj => by injection hj with hj; omega)
                  have hk2 := (hkq.grown hp.2 hne).grown hp2.2 hne
                  rw [← HS.out] at hp2
                  have HPO := Lib.hid hp2.1
                  have HG2 := Lib.hid hg2
                  have HK2 := Lib.hid hk2
                  clear hp hp2 hg1 hg2 hk2 hownq hkq hbelq fi fj ci cj j0' j1' j2' hWq hown hkB e1 e2 hM hbel hne
                  go_wp2
                  go_roundw
                  case rel => exact ⟨m + 1, by omega, by go_num, HPO.out, HG2.out, HK2.out⟩
                  case measure => simp [intOf]; omega
                · have het' : t < et := by omega
                  simp only [stepE, if_neg het] at hs
                  rw [← hs] at hown
                  clear hs
                  go_wp2
                  go_roundw
                  case rel => exact ⟨m + 1, by omega, by go_num, hown, hbel, hkB⟩
                  case measure => simp [intOf]; omega
              · have hst : Hid (itN (rndE t q.ends) (comp0 q.birth t) (n + 1) = (q.ends.take m).foldl (stepE t) X) := by
                  show _ = _
                  rw [itN, HX.out, rndE, List.take_of_length_le (by omega)]
                rw [← hst.out] at hown
                go_wp2
                go_roundw
                case rel => exact ⟨n + 1, by omega, by go_num, hown, hbel, hkB⟩
                case measure => simp [intOf]; omega
          · have hst : Hid (compQ q t = itN (rndE t q.ends) (comp0 q.birth t) n) := by show _ = _; rw [compQ, ← HKN.out, show k = n by omega]
            rw [← hst.out] at hown
            go_wp2
            exact bodyPost_ret (v := (.slice (some ⟨g, 0, none⟩) k oc)) (by simp [results, go_sem]) rfl ⟨_, rfl, by rw [HC.out]; exact IntsO.of_own hown, hbel⟩
end Go.Proofs.Ytcmlflppndfdcaa

/- The two LineOf. -/
namespace Go.Proofs.Ytcmlflppndfdcaa
set_option linter.unusedVariables false
set_option linter.unusedSimpArgs false
open Go.RowKit

def lineF (k : Nat) : List Int := (List.range k).map fun i : Nat => (i : Int)
def lineT (k : Nat) : List Int := (List.range k).map fun i : Nat => (i : Int) + 1
theorem lineF_succ (k : Nat) : lineF (k + 1) = lineF k ++ [(k : Int)] := by simp [lineF, List.range_succ]
theorem lineT_succ (k : Nat) : lineT (k + 1) = lineT k ++ [(k : Int) + 1] := by simp [lineT, List.range_succ]
theorem fam_nil2 {w : World} {lo hi : Nat} : Fam w lo hi [(.slice none 0 0, []), (.slice none 0 0, [])] := by
  refine ⟨fun p hp => ?_, ?_⟩
  · simp only [List.mem_cons, List.not_mem_nil, or_false, or_self] at hp
    subst hp
    exact ⟨OwnI.nil _ _, fun k hk => by simp [Value.ownBlock] at hk⟩
  · simp [Value.ownBlock]
theorem fam_made2 (w : World) {lo : Nat} (h : lo ≤ w.heap.size) : Fam ((w.alloc (.cells #[] 3)).alloc (.cells #[] 3)) lo (w.heap.size + 1 + 1) [(.slice (some ⟨w.heap.size, 0, none⟩) 0 0, []), (.slice (some ⟨w.heap.size + 1, 0, none⟩) 0 0, [])] := by
  refine fam_two (mi := w.heap.size + 1) ⟨(OwnI.made _ rfl h).alloc _, fun k hk => by simp [Value.ownBlock] at hk; omega⟩ ⟨?_, fun k hk => by simp [Value.ownBlock] at hk; omega⟩ (by omega) (by omega)
  have := OwnI.made (w := w.alloc (.cells #[] 3)) (base := w.heap.size + 1) _ rfl (by simp)
  simpa only [World.size_alloc] using this
/-- The line of n vertices. -/
def lineQ (n : Int) : Qv := if inR n 1 5 then ⟨n, lineF (n - 1).toNat, lineT (n - 1).toNat⟩ else ⟨0, [], []⟩

theorem line_mid {w w1 : World} {gq : Nat} {N x : Int} {A C : Option Addr} {n n' c d : Nat} {l l' : List Int} (hgq : w.heap.size < gq) (hb1 : Below w.heap.size w w1) (hF1 : Fam w1 w.heap.size w1.heap.size [(.slice A n c, l), (.slice C n' d, l')])
    {V V' : Value} (hq1 : Blk w1 gq 28 #[.int .i64 N, V, V']) (hr1 : Blk w1 w.heap.size 28 #[.int .i64 0, .slice none 0 0, .slice none 0 0]) :
    let W := (w1.setCell ⟨gq, 1, none⟩ (.slice A n c)).alloc (.cells #[.int .i64 x] 3)
    Below w.heap.size w W ∧ Fam W w.heap.size w1.heap.size [(.slice A n c, l), (.slice C n' d, l')] ∧ Blk W gq 28 #[.int .i64 N, .slice A n c, V'] ∧ Blk W w.heap.size 28 #[.int .i64 0, .slice none 0 0, .slice none 0 0] ∧ OwnI W w.heap.size (.slice C n' d) l' := by
  intro W
  have hF2 : Fam W w.heap.size w1.heap.size [(.slice A n c, l), (.slice C n' d, l')] := (hF1.setBlk (i := 1) hq1 (by decide) (.slice A n c)).below (below_alloc _ _)
  refine ⟨(hb1.setCell (by simp; omega) _).alloc (by have := hb1.size; simpa using this) _, hF2, (hq1.set_ 1 _).alloc _, (hr1.far (by simp; omega) _).alloc _, (hF2.1 (_, l') (by simp)).1⟩

set_option maxHeartbeats 800000 in
theorem implLineOf_any (n : Int) (w : World) (_ : I64 n) :
    Calls Try.prog 52 #[.int .i64 n] w fun e w' => ∃ v, e = .returned (.tuple #[v, .bool (inR n 1 5)]) ∧ QuivO w' w.heap.size w'.heap.size v (lineQ n) ∧ Below w.heap.size w w' := by
  rcases hin : inR n 1 5 with _ | _
  · have e1 : lineQ n = ⟨0, [], []⟩ := by simp [lineQ, hin]
    rw [e1]
    clear e1
    go_enter Try.func52, Try.ntmps52
    go_wp2_with (go_at_call 98; refine (within_any _ _ _ _).mono ?_; rintro e w' ⟨rfl, rfl⟩; rw [hin])
    exact bodyPost_ret (v := .tuple #[.agg #[.int .i64 0, .slice none 0 0, .slice none 0 0], .bool false]) (by simp [results, go_sem]) rfl ⟨_, rfl, ⟨_, _, rfl, fam_nil2, ⟨by decide, by decide⟩⟩, below_alloc _ _⟩
  · have hb := inR_t.1 hin
    obtain ⟨m, rfl⟩ : ∃ m : Nat, n = (m : Int) + 1 := ⟨(n - 1).toNat, by omega⟩
    have e1 : lineQ ((m : Int) + 1) = ⟨(m : Int) + 1, lineF m, lineT m⟩ := by simp [lineQ, hin]
    rw [e1]
    clear e1
    go_enter Try.func52, Try.ntmps52
    go_wp2_with (go_at_call 98; refine (within_any _ _ _ _).mono ?_; rintro e w' ⟨rfl, rfl⟩; rw [hin])
    go_loopw [14] (fun i wr => ∃ (k : Nat) (a b : Value), k ≤ m ∧ i = .int .i64 k ∧ Below w.heap.size w wr ∧ Blk wr w.heap.size 28 #[.int .i64 0, .slice none 0 0, .slice none 0 0] ∧ Blk wr (w.heap.size + 1) 28 #[.int .i64 ((m : Int) + 1), a, b] ∧
      Fam wr w.heap.size wr.heap.size [(a, lineF k), (b, lineT k)]) (fun i _ => m - (intOf i).toNat)
    case atStart =>
      refine ⟨0, .slice none 0 0, .slice none 0 0, Nat.zero_le _, rfl, ((Below.refl _ _).alloc (Nat.le_refl _) _).alloc (by simp) _, (Blk.new _ _ _).alloc _, ?_, ?_⟩
      · have := Blk.new (w.alloc (.cells #[.int .i64 0, .slice none 0 0, .slice none 0 0] 28)) 28 #[.int .i64 ((m : Int) + 1), .slice none 0 0, .slice none 0 0]
        simpa only [World.size_alloc] using this
      · exact fam_nil2
    case round =>
      obtain ⟨k, a, b, hk, rfl, hbel, hbr, hbq, hF⟩ := hrel
      by_cases hlt : k < m
      · have fa : OwnI wr w.heap.size a (lineF k) := (hF.1 (a, lineF k) (by simp)).1
        have fb : OwnI wr w.heap.size b (lineT k) := (hF.1 (b, lineT k) (by simp)).1
        obtain ⟨A, c, rfl, _, _⟩ := fa.form
        obtain ⟨C, d, rfl, _, _⟩ := fb.form
        have q1 := hbq.cell' (i := 1) rfl
        have hs := hbel.size
        have lF : (lineF k).length = k := by simp [lineF]
        have lT : (lineT k).length = k := by simp [lineT]
        have g0 := below_alloc wr (.cells #[.int .i64 (k : Int)] 3)
        have hF0 := hF.below g0
        have hq0 := hbq.call g0
        have hr0 := hbr.call g0
        have fa0 : OwnI (wr.alloc (.cells #[.int .i64 (k : Int)] 3)) w.heap.size (.slice A (lineF k).length c) (lineF k) := fa.alloc _
        have hne0 := fa0.blkne hq0 (by decide)
        have hne0' := fa0.blkne hr0 (by decide)
        have hb0 := hbel.trans (g0.mono hs)
        have HL := Lib.hid (And.intro lF lT)
        clear lF lT
        (go_wp2_with (at_builtin; refine Hold.stop ?_)); unfold Hold
        refine wpList_appI rfl (.tmp 18) (.tmp 20) rfl w.heap.size _ (.slice A (lineF k).length c) (lineF k) rfl fa0 _ _ _ [(k : Int)] rfl rfl (SlI.one wr _ k ⟨by omega, by omega⟩) (by have := HL.out; simp; omega) (by simp; omega) ?_
        intro v1 w1 ho1 hg1 hv1
        rw [← lineF_succ] at ho1
        have hF1 := hF0.app (w' := w1) (L1 := []) (by have := hg1.size; simp at this; omega) ho1 hg1 hv1
        obtain ⟨A1, c1, rfl, _, _⟩ := ho1.form
        have hq1 := hq0.grown hg1 hne0
        have hr1 := hr0.grown hg1 hne0'
        have hb1 := hb0.grown hg1 (by simp; omega) (fun j hj => (fa0.lt j hj).1)
        have y1 := hq1.cell' (i := 1) rfl
        have y2 := hq1.cell' (i := 2) rfl
        have fy := hq1.frozen
        clear hg1 hv1 hF0 hq0 hr0 hne0 hne0' hb0 fa fb fa0 q1 hF hbq hbr g0 ho1
        (go_wp2_with (at_builtin; refine Hold.stop ?_)); unfold Hold
        obtain ⟨hb2, hF2, hq2, hr2, fb2⟩ := line_mid (x := (k : Int) + 1) (by omega) hb1 hF1 hq1 hr1
        refine wpList_appI rfl (.tmp 24) (.tmp 27) rfl w.heap.size _ (.slice C (lineT k).length d) (lineT k) rfl fb2 _ _ _ [(k : Int) + 1] rfl rfl (SlI.one' _ _ ((k : Int) + 1) ⟨by omega, by omega⟩ (by simp)) (by have := HL.out; simp; omega) (by have := hb1.size; simp; omega) ?_
        intro v2 w2 ho2 hg2 hv2
        rw [← lineT_succ] at ho2
        have hF3 := hF2.app (w' := w2) (L1 := [(_, lineF (k + 1))]) (by have := hg2.size; simp at this; omega) ho2 hg2 hv2
        obtain ⟨C1, d1, rfl, _, _⟩ := ho2.form
        have hq3 := hq2.grown hg2 (fb2.blkne hq2 (by decide))
        have hr3 := hr2.grown hg2 (fb2.blkne hr2 (by decide))
        have hb3 := hb2.grown hg2 hb2.size (fun j hj => (fb2.lt j hj).1)
        have z2 := hq3.cell' (i := 2) rfl
        have fz := hq3.frozen
        clear y1 y2 fy hb1 hF1 hq1 hr1 hb2 hF2 hq2 hr2 fb2 ho2 hg2 hv2 hbel
        go_wp2
        go_roundw
        case rel => exact ⟨k + 1, _, _, by omega, by go_num, hb3.setCell (by simp) _, hr3.far (by simp) _, hq3.set_ 2 _, (hF3.setBlk hq3 (by decide) _).mono (Nat.le_refl _) (by simp)⟩
        case measure => simp [intOf]; omega
      · obtain rfl : k = m := by omega
        have fa : OwnI wr w.heap.size a (lineF k) := (hF.1 (a, lineF k) (by simp)).1
        have fb : OwnI wr w.heap.size b (lineT k) := (hF.1 (b, lineT k) (by simp)).1
        obtain ⟨A, c, rfl, _, _⟩ := fa.form
        obtain ⟨C, d, rfl, _, _⟩ := fb.form
        have q0 := hbq.cell' (i := 0) rfl
        have q1 := hbq.cell' (i := 1) rfl
        have q2 := hbq.cell' (i := 2) rfl
        have r0 := hbr.cell' (i := 0) rfl
        have r1 := hbr.cell' (i := 1) rfl
        have r2 := hbr.cell' (i := 2) rfl
        have fr := hbr.frozen
        go_wp2
        refine bodyPost_ret (v := .tuple #[.agg #[.int .i64 ((k : Int) + 1), .slice A (lineF k).length c, .slice C (lineT k).length d], .bool true]) (by simp [results, go_sem, r0, r1, r2]) rfl ⟨_, rfl, ⟨_, _, rfl, ?_, ⟨by simp only; omega, by simp only; omega⟩⟩, ?_⟩
        · have h1 := hF.setBlk (i := 0) hbr (by decide) (.int .i64 ((k : Int) + 1))
          have h2 := h1.setBlk (i := 1) (hbr.set_ 0 _) (by decide) (.slice A (lineF k).length c)
          have h3 := h2.setBlk (i := 2) ((hbr.set_ 0 _).set_ 1 _) (by decide) (.slice C (lineT k).length d)
          simpa using h3
        · exact ((hbel.setCell (by simp) _).setCell (by simp) _).setCell (by simp) _

set_option maxHeartbeats 800000 in
theorem specLineOf_any (n : Int) (w : World) (_ : I64 n) :
    Calls Try.prog 50 #[.int .i64 n] w fun e w' => ∃ v, e = .returned (.tuple #[v, .bool (inR n 1 5)]) ∧ QuivO w' w.heap.size w'.heap.size v (lineQ n) ∧ Below w.heap.size w w' := by
  rcases hin : inR n 1 5 with _ | _
  · have e1 : lineQ n = ⟨0, [], []⟩ := by simp [lineQ, hin]
    rw [e1]
    clear e1
    go_enter Try.func50, Try.ntmps50
    go_wp2_with (go_at_call 90; refine (l1In_any _ _ _ _).mono ?_; rintro e w' ⟨rfl, rfl⟩; rw [hin])
    exact bodyPost_ret (v := .tuple #[.agg #[.int .i64 0, .slice none 0 0, .slice none 0 0], .bool false]) (by simp [results, go_sem]) rfl ⟨_, rfl, ⟨_, _, rfl, fam_nil2, ⟨by decide, by decide⟩⟩, below_alloc _ _⟩
  · have hb := inR_t.1 hin
    obtain ⟨m, rfl⟩ : ∃ m : Nat, n = (m : Int) + 1 := ⟨(n - 1).toNat, by omega⟩
    have e1 : lineQ ((m : Int) + 1) = ⟨(m : Int) + 1, lineF m, lineT m⟩ := by simp [lineQ, hin]
    rw [e1]
    clear e1
    go_enter Try.func50, Try.ntmps50
    go_wp2_with (go_at_call 90; refine (l1In_any _ _ _ _).mono ?_; rintro e w' ⟨rfl, rfl⟩; rw [hin])
    go_loopw [5] (fun i wr => ∃ (k : Nat) (a b : Value), k ≤ m ∧ i = .int .i64 ((k : Int) + 1) ∧ Below w.heap.size w wr ∧ Blk wr w.heap.size 28 #[.int .i64 0, .slice none 0 0, .slice none 0 0] ∧ Blk wr (w.heap.size + 1 + 1 + 1) 28 #[.int .i64 ((m : Int) + 1), a, b] ∧
      Fam wr w.heap.size wr.heap.size [(a, lineF k), (b, lineT k)]) (fun i _ => m + 1 - (intOf i).toNat)
    case atStart =>
      refine ⟨0, .slice (some ⟨w.heap.size + 1, 0, none⟩) 0 0, .slice (some ⟨w.heap.size + 1 + 1, 0, none⟩) 0 0, Nat.zero_le _, rfl, ((((Below.refl _ _).alloc (Nat.le_refl _) _).alloc (by simp) _).alloc (by simp; omega) _).alloc (by simp; omega) _, (((Blk.new _ _ _).alloc _).alloc _).alloc _, ?_, ?_⟩
      · have := Blk.new (((w.alloc (.cells #[.int .i64 0, .slice none 0 0, .slice none 0 0] 28)).alloc (.cells #[] 3)).alloc (.cells #[] 3)) 28 #[.int .i64 ((m : Int) + 1), .slice (some ⟨w.heap.size + 1, 0, none⟩) 0 0, .slice (some ⟨w.heap.size + 1 + 1, 0, none⟩) 0 0]
        simpa only [World.size_alloc] using this
      · have h := fam_made2 (w.alloc (.cells #[.int .i64 0, .slice none 0 0, .slice none 0 0] 28)) (lo := w.heap.size) (by simp)
        simp only [World.size_alloc] at h
        exact (h.below (below_alloc _ _)).mono (Nat.le_refl _) (by simp)
    case round =>
      obtain ⟨k, a, b, hk, rfl, hbel, hbr, hbq, hF⟩ := hrel
      by_cases hlt : k < m
      · have fa : OwnI wr w.heap.size a (lineF k) := (hF.1 (a, lineF k) (by simp)).1
        have fb : OwnI wr w.heap.size b (lineT k) := (hF.1 (b, lineT k) (by simp)).1
        obtain ⟨A, c, rfl, _, _⟩ := fa.form
        obtain ⟨C, d, rfl, _, _⟩ := fb.form
        have q1 := hbq.cell' (i := 1) rfl
        have hs := hbel.size
        have lF : (lineF k).length = k := by simp [lineF]
        have lT : (lineT k).length = k := by simp [lineT]
        have g0 := below_alloc wr (.cells #[.int .i64 (k : Int)] 3)
        have hF0 := hF.below g0
        have hq0 := hbq.call g0
        have hr0 := hbr.call g0
        have fa0 : OwnI (wr.alloc (.cells #[.int .i64 (k : Int)] 3)) w.heap.size (.slice A (lineF k).length c) (lineF k) := fa.alloc _
        have hne0 := fa0.blkne hq0 (by decide)
        have hne0' := fa0.blkne hr0 (by decide)
        have hb0 := hbel.trans (g0.mono hs)
        have HL := Lib.hid (And.intro lF lT)
        clear lF lT
        (go_wp2_with (at_builtin; refine Hold.stop ?_)); unfold Hold
        refine wpList_appI rfl (.tmp 20) (.tmp 23) rfl w.heap.size _ (.slice A (lineF k).length c) (lineF k) rfl fa0 _ _ _ [(k : Int)] rfl rfl (SlI.one wr _ k ⟨by omega, by omega⟩) (by have := HL.out; simp; omega) (by simp; omega) ?_
        intro v1 w1 ho1 hg1 hv1
        rw [← lineF_succ] at ho1
        have hF1 := hF0.app (w' := w1) (L1 := []) (by have := hg1.size; simp at this; omega) ho1 hg1 hv1
        obtain ⟨A1, c1, rfl, _, _⟩ := ho1.form
        have hq1 := hq0.grown hg1 hne0
        have hr1 := hr0.grown hg1 hne0'
        have hb1 := hb0.grown hg1 (by simp; omega) (fun j hj => (fa0.lt j hj).1)
        have y1 := hq1.cell' (i := 1) rfl
        have y2 := hq1.cell' (i := 2) rfl
        have fy := hq1.frozen
        clear hg1 hv1 hF0 hq0 hr0 hne0 hne0' hb0 fa fb fa0 q1 hF hbq hbr g0 ho1
        (go_wp2_with (at_builtin; refine Hold.stop ?_)); unfold Hold
        obtain ⟨hb2, hF2, hq2, hr2, fb2⟩ := line_mid (x := (k : Int) + 1) (by omega) hb1 hF1 hq1 hr1
        refine wpList_appI rfl (.tmp 27) (.tmp 29) rfl w.heap.size _ (.slice C (lineT k).length d) (lineT k) rfl fb2 _ _ _ [(k : Int) + 1] rfl rfl (SlI.one' _ _ ((k : Int) + 1) ⟨by omega, by omega⟩ (by simp)) (by have := HL.out; simp; omega) (by have := hb1.size; simp; omega) ?_
        intro v2 w2 ho2 hg2 hv2
        rw [← lineT_succ] at ho2
        have hF3 := hF2.app (w' := w2) (L1 := [(_, lineF (k + 1))]) (by have := hg2.size; simp at this; omega) ho2 hg2 hv2
        obtain ⟨C1, d1, rfl, _, _⟩ := ho2.form
        have hq3 := hq2.grown hg2 (fb2.blkne hq2 (by decide))
        have hr3 := hr2.grown hg2 (fb2.blkne hr2 (by decide))
        have hb3 := hb2.grown hg2 hb2.size (fun j hj => (fb2.lt j hj).1)
        have z2 := hq3.cell' (i := 2) rfl
        have fz := hq3.frozen
        clear y1 y2 fy hb1 hF1 hq1 hr1 hb2 hF2 hq2 hr2 fb2 ho2 hg2 hv2 hbel
        go_wp2
        go_roundw
        case rel => exact ⟨k + 1, _, _, by omega, by go_num, hb3.setCell (by simp <;> omega) _, hr3.far (by simp <;> omega) _, hq3.set_ 2 _, (hF3.setBlk hq3 (by decide) _).mono (Nat.le_refl _) (by simp)⟩
        case measure => simp [intOf]; omega
      · obtain rfl : k = m := by omega
        have fa : OwnI wr w.heap.size a (lineF k) := (hF.1 (a, lineF k) (by simp)).1
        have fb : OwnI wr w.heap.size b (lineT k) := (hF.1 (b, lineT k) (by simp)).1
        obtain ⟨A, c, rfl, _, _⟩ := fa.form
        obtain ⟨C, d, rfl, _, _⟩ := fb.form
        have q0 := hbq.cell' (i := 0) rfl
        have q1 := hbq.cell' (i := 1) rfl
        have q2 := hbq.cell' (i := 2) rfl
        have r0 := hbr.cell' (i := 0) rfl
        have r1 := hbr.cell' (i := 1) rfl
        have r2 := hbr.cell' (i := 2) rfl
        have fr := hbr.frozen
        go_wp2
        refine bodyPost_ret (v := .tuple #[.agg #[.int .i64 ((k : Int) + 1), .slice A (lineF k).length c, .slice C (lineT k).length d], .bool true]) (by simp [results, go_sem, r0, r1, r2]) rfl ⟨_, rfl, ⟨_, _, rfl, ?_, ⟨by simp only; omega, by simp only; omega⟩⟩, ?_⟩
        · have h1 := hF.setBlk (i := 0) hbr (by decide) (.int .i64 ((k : Int) + 1))
          have h2 := h1.setBlk (i := 1) (hbr.set_ 0 _) (by decide) (.slice A (lineF k).length c)
          have h3 := h2.setBlk (i := 2) ((hbr.set_ 0 _).set_ 1 _) (by decide) (.slice C (lineT k).length d)
          simpa using h3
        · exact ((hbel.setCell (by simp) _).setCell (by simp) _).setCell (by simp) _

end Go.Proofs.Ytcmlflppndfdcaa
