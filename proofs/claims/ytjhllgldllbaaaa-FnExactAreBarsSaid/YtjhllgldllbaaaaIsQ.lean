/- The two IsQuiver. -/
import Derived.Test.YtjhllgldllbaaaaQuiv
import Derived.Test.YtjhllgldllbaaaaFind
namespace Go.Proofs.Ytjhllgldllbaaaa
set_option linter.unusedVariables false
set_option linter.unusedSimpArgs false
open Go.RowKit

/-- A valid quiver. -/
def isQ (q : Qv) : Bool := inR q.v 1 5 && decide (q.f.length = q.t.length) && decide (q.f.length ≤ 6) && allR q.f 0 (q.v - 1) && allR q.t 0 (q.v - 1)

theorem isQ_t {q : Qv} : isQ q = true ↔ (1 ≤ q.v ∧ q.v ≤ 5) ∧ q.f.length = q.t.length ∧ q.f.length ≤ 6 ∧ (∀ x ∈ q.f, 0 ≤ x ∧ x ≤ q.v - 1) ∧ (∀ x ∈ q.t, 0 ≤ x ∧ x ≤ q.v - 1) := by
  simp only [isQ, Bool.and_eq_true, inR_t, allR_t, decide_eq_true_eq, and_assoc]

set_option maxHeartbeats 800000 in
theorem implIsQuiver_any (u : Value) (q : Qv) (w : World) (hu : QvR w w.heap.size u q) :
    Calls Try.prog 122 #[u] w fun e w' => e = .returned (.bool (isQ q)) ∧ Below w.heap.size w w' := by
  obtain ⟨A, c, C, d, rfl, hf, ht, hr, lf, lt⟩ := hu.open_
  clear hu
  obtain ⟨W, hW⟩ : ∃ W, W = w.alloc (.cells #[.int .i64 q.v, .slice A q.f.length c, .slice C q.t.length d] 26) := ⟨_, rfl⟩
  have g0 : Below w.heap.size w W := by rw [hW]; exact below_alloc _ _
  have kB : Blk W w.heap.size 26 #[.int .i64 q.v, .slice A q.f.length c, .slice C q.t.length d] := by rw [hW]; exact Blk.new _ _ _
  have c0 := kB.cell' (i := 0) rfl
  have c1 := kB.cell' (i := 1) rfl
  have c2 := kB.cell' (i := 2) rfl
  unfold isQ
  rcases h1 : inR q.v 1 5 with _ | _
  · go_enter Try.func122, Try.ntmps122
    go_wp2_with fail
    rw [← hW]; clear hW
    refine (within_any _ _ _ _).mono ?_; rintro e w' ⟨rfl, rfl⟩
    rw [h1]
    go_wp2
    go_ret
    exact ⟨rfl, g0⟩
  have hb := inR_t.1 h1
  obtain ⟨hb1, hb2⟩ := hb
  by_cases h2 : q.f.length = q.t.length
  · have e2 : ((q.f.length : Int) == q.t.length) = true := by rw [beq_iff_eq]; omega
    by_cases h3 : q.f.length ≤ 6
    · have e3 : decide (q.f.length ≤ 6) = true := by simpa using h3
      have e2' : decide (q.f.length = q.t.length) = true := by simpa using h2
      rw [e2', e3]
      clear h2 e2' e3
      obtain ⟨B1, hB1⟩ : ∃ B, allR q.f 0 (q.v - 1) = B := ⟨_, rfl⟩
      obtain ⟨B2, hB2⟩ : ∃ B, allR q.t 0 (q.v - 1) = B := ⟨_, rfl⟩
      rw [hB1, hB2]
      have HB1 := Lib.hid hB1
      have HB2 := Lib.hid hB2
      clear hB1 hB2
      cases B1
      · go_enter Try.func122, Try.ntmps122
        go_wp2_with fail
        rw [← hW]; clear hW
        refine (within_any _ _ _ _).mono ?_; rintro e w' ⟨rfl, rfl⟩
        rw [h1]
        go_wp2_with fail
        refine (allWithin_any _ q.f _ _ _ (SlI.next g0 hf)).mono ?_; rintro e w1 ⟨rfl, hb1⟩
        rw [HB1.out]
        go_wp2
        go_ret
        exact ⟨rfl, bthen g0 hb1⟩
      · go_enter Try.func122, Try.ntmps122
        go_wp2_with fail
        rw [← hW]; clear hW
        refine (within_any _ _ _ _).mono ?_; rintro e w' ⟨rfl, rfl⟩
        rw [h1]
        go_wp2_with fail
        refine (allWithin_any _ q.f _ _ _ (SlI.next g0 hf)).mono ?_; rintro e w1 ⟨rfl, hb1⟩
        rw [HB1.out]
        have d0 := (kB.call hb1).cell' (i := 0) rfl
        have d2 := (kB.call hb1).cell' (i := 2) rfl
        have g1 := bthen g0 hb1
        clear c0 c1 c2
        go_wp2_with fail
        refine (allWithin_any _ q.t _ _ _ (SlI.next g1 ht)).mono ?_; rintro e w2 ⟨rfl, hb2⟩
        rw [HB2.out]
        go_wp2
        go_ret
        exact ⟨rfl, bthen g1 hb2⟩
    · have e3 : decide (q.f.length ≤ 6) = false := by simpa using h3
      rw [e3]
      have e3' : ¬ ((q.f.length : Int) ≤ 6) := by omega
      clear h2
      simp only [Bool.and_false, Bool.false_and]
      go_enter Try.func122, Try.ntmps122
      go_wp2_with fail
      rw [← hW]; clear hW
      refine (within_any _ _ _ _).mono ?_; rintro e w' ⟨rfl, rfl⟩
      rw [h1]
      go_wp2
      go_ret
      exact ⟨rfl, g0⟩
  · have e2 : ((q.f.length : Int) == q.t.length) = false := by rw [beq_eq_false_iff_ne]; omega
    have e2' : decide (q.f.length = q.t.length) = false := by simpa using h2
    rw [e2']
    simp only [Bool.and_false, Bool.false_and]
    go_enter Try.func122, Try.ntmps122
    go_wp2_with fail
    rw [← hW]; clear hW
    refine (within_any _ _ _ _).mono ?_; rintro e w' ⟨rfl, rfl⟩
    rw [h1]
    go_wp2
    go_ret
    exact ⟨rfl, g0⟩

/-- what the reference's loop has met -/
def okTo (q : Qv) (k : Nat) : Prop := (∀ x ∈ q.f.take k, inR x 0 (wrap64 (q.v - 1)) = true) ∧ ∀ x ∈ q.t.take k, inR x 0 (wrap64 (q.v - 1)) = true
theorem isQ_bad {q : Qv} {x : Int} (hx : x ∈ q.f ∨ x ∈ q.t) (hr : inR x 0 (wrap64 (q.v - 1)) = false) : isQ q = false := by
  by_cases h : isQ q = true
  · obtain ⟨hv, _, _, hf, ht⟩ := isQ_t.1 h
    have e : wrap64 (q.v - 1) = q.v - 1 := IntWalk.wrap64_in _ ⟨by omega, by omega⟩
    rw [e, inR_f] at hr
    rcases hx with hx | hx
    · exact absurd (hf x hx) hr
    · exact absurd (ht x hx) hr
  · simpa using h
theorem isQ_end {q : Qv} {k : Nat} (h : okTo q k) (hk : ¬ (k < q.f.length ∧ k < q.t.length)) : isQ q = (inR q.v 1 5 && decide (q.f.length ≤ 6) && decide (q.t.length = q.f.length)) := by
  rw [Bool.eq_iff_iff, isQ_t]
  simp only [Bool.and_eq_true, inR_t, decide_eq_true_eq]
  constructor
  · rintro ⟨h1, h2, h3, _⟩
    exact ⟨⟨h1, h3⟩, h2.symm⟩
  · rintro ⟨⟨h1, h3⟩, h2⟩
    have e : wrap64 (q.v - 1) = q.v - 1 := IntWalk.wrap64_in _ ⟨by omega, by omega⟩
    unfold okTo at h
    rw [e, List.take_of_length_le (by omega), List.take_of_length_le (by omega)] at h
    exact ⟨h1, h2.symm, h3, fun x hx => inR_t.1 (h.1 x hx), fun x hx => inR_t.1 (h.2 x hx)⟩
theorem okTo_step {q : Qv} {k : Nat} {x y : Int} (h : okTo q k) (hx : q.f[k]? = some x) (hy : q.t[k]? = some y) (h1 : inR x 0 (wrap64 (q.v - 1)) = true) (h2 : inR y 0 (wrap64 (q.v - 1)) = true) : okTo q (k + 1) := by
  refine ⟨fun z hz => ?_, fun z hz => ?_⟩
  · rw [take_snoc hx, List.mem_append, List.mem_singleton] at hz
    rcases hz with hz | rfl
    · exact h.1 z hz
    · exact h1
  · rw [take_snoc hy, List.mem_append, List.mem_singleton] at hz
    rcases hz with hz | rfl
    · exact h.2 z hz
    · exact h2

set_option maxHeartbeats 1600000 in
theorem specIsQuiver_any (u : Value) (q : Qv) (w : World) (hu : QvR w w.heap.size u q) :
    Calls Try.prog 119 #[u] w fun e w' => e = .returned (.bool (isQ q)) ∧ Below w.heap.size w w' := by
  obtain ⟨A, c, C, d, rfl, hf, ht, hr, lf, lt⟩ := hu.open_
  clear hu
  have g0 : Below w.heap.size w (w.alloc (.cells #[.int .i64 q.v, .slice A q.f.length c, .slice C q.t.length d] 26)) := below_alloc _ _
  have kB := Blk.new w 26 #[.int .i64 q.v, .slice A q.f.length c, .slice C q.t.length d]
  go_enter Try.func119, Try.ntmps119
  go_wp2
  go_loopw [3] (fun i wr => ∃ k : Nat, k ≤ q.f.length ∧ i = .int .i64 k ∧ Below w.heap.size w wr ∧ Blk wr w.heap.size 26 #[.int .i64 q.v, .slice A q.f.length c, .slice C q.t.length d] ∧ Hid (okTo q k)) (fun i _ => q.f.length - (intOf i).toNat)
  case atStart => exact ⟨0, Nat.zero_le _, rfl, g0, kB, by intro x hx; simp at hx, by intro x hx; simp at hx⟩
  case round =>
    clear g0 kB
    obtain ⟨k, hk, rfl, hbel, kB, hok⟩ := hrel
    have c0 := kB.cell' (i := 0) rfl
    have c1 := kB.cell' (i := 1) rfl
    have c2 := kB.cell' (i := 2) rfl
    by_cases hlt : k < q.f.length ∧ k < q.t.length
    · obtain ⟨hlt1, hlt2⟩ := hlt
      obtain ⟨b, o, x, rfl, hb, HX, x1, _⟩ := SlI.at_ hf hlt1
      obtain ⟨b', o', y, rfl, hb', HY, y1, _⟩ := SlI.at_ ht hlt2
      have s := hbel.size
      have d0 := InB.cell kB.lt c0
      have d1 := InB.cell kB.lt c1
      have d2 := InB.cell kB.lt c2
      have d3 := InB.cell (by omega) (bcell hbel hb x1)
      have d4 := InB.cell (by omega) (bcell hbel hb' y1)
      obtain ⟨u, hU⟩ : ∃ u, wrap64 (q.v - 1) = u := ⟨_, rfl⟩
      have HU := Lib.hid hU
      clear x1 y1 hf ht c0
      rcases hB1 : inR x 0 u with _ | _
      · have hfin := Lib.hid (isQ_bad (q := q) (.inl (List.mem_of_getElem? HX.out)) (by rw [HU.out]; exact hB1))
        go_wp2
        (refine wp_region_inB (by kernel_rfl) (by kernel_rfl) ?_; (repeat (go_big_quiet_step ((go_at_call 61; exact InB.call_same (l1In_any _ _ _ _))))); refine wpQuiet_nil ?_; intro w1 hw'; obtain ⟨s1, hw1⟩ := hw'; have hb1 := s1.below; rw [← hw1] at hb1; clear hw1 s1)
        go_wp2
        go_ret
        exact ⟨by rw [hfin.out]; rfl, hbel.trans (hb1.mono s)⟩
      · rcases hB2 : inR y 0 u with _ | _
        · have hfin := Lib.hid (isQ_bad (q := q) (.inr (List.mem_of_getElem? HY.out)) (by rw [HU.out]; exact hB2))
          go_wp2
          (refine wp_region_inB (by kernel_rfl) (by kernel_rfl) ?_; (repeat (go_big_quiet_step ((go_at_call 61; exact InB.call_same (l1In_any _ _ _ _))))); refine wpQuiet_nil ?_; intro w1 hw'; obtain ⟨s1, hw1⟩ := hw'; have hb1 := s1.below; rw [← hw1] at hb1; clear hw1 s1)
          go_wp2
          go_ret
          exact ⟨by rw [hfin.out]; rfl, hbel.trans (hb1.mono s)⟩
        · go_wp2
          (refine wp_region_inB (by kernel_rfl) (by kernel_rfl) ?_; (repeat (go_big_quiet_step ((go_at_call 61; exact InB.call_same (l1In_any _ _ _ _))))); refine wpQuiet_nil ?_; intro w1 hw'; obtain ⟨s1, hw1⟩ := hw'; have hb1 := s1.below; rw [← hw1] at hb1; clear hw1 s1)
          go_wp2
          go_roundw
          case rel => exact ⟨k + 1, by omega, by go_num, hbel.trans (hb1.mono s), kB.call hb1, okTo_step hok.out HX.out HY.out (by rw [HU.out]; exact hB1) (by rw [HU.out]; exact hB2)⟩
          case measure => simp [intOf]; omega
    · have hE := isQ_end hok.out hlt
      have hx : k < q.f.length → ¬ k < q.t.length := fun a b => hlt ⟨a, b⟩
      clear hlt hf ht
      rcases hB1 : inR q.v 1 5 with _ | _
      · rw [hB1] at hE
        have hfin := Lib.hid hE
        clear hE
        by_cases ha : k < q.f.length
        all_goals
          first | have hb := hx ha | skip
          clear hx
          go_wp2_with (go_at_call 61; refine (l1In_any _ _ _ _).mono ?_; rintro e w' ⟨rfl, rfl⟩; rw [hB1])
          go_ret
          exact ⟨by rw [hfin.out]; rfl, hbel⟩
      · rw [hB1] at hE
        by_cases h6 : q.f.length ≤ 6
        · by_cases hl : q.t.length = q.f.length
          · have hfin : Hid (isQ q = true) := by show _ = _; rw [hE]; simp [h6, hl]
            have he : ((q.t.length : Int) == q.f.length) = true := by rw [beq_iff_eq]; omega
            have h6' : (q.f.length : Int) ≤ 6 := by omega
            clear hE hl
            by_cases ha : k < q.f.length
            all_goals
              first | have hb := hx ha | skip
              clear hx
              go_wp2_with (go_at_call 61; refine (l1In_any _ _ _ _).mono ?_; rintro e w' ⟨rfl, rfl⟩; rw [hB1])
              go_ret
              exact ⟨by rw [hfin.out]; rfl, hbel⟩
          · have hfin : Hid (isQ q = false) := by show _ = _; rw [hE]; simp [hl]
            have he : ((q.t.length : Int) == q.f.length) = false := by rw [beq_eq_false_iff_ne]; omega
            have h6' : (q.f.length : Int) ≤ 6 := by omega
            clear hE hl
            by_cases ha : k < q.f.length
            all_goals
              first | have hb := hx ha | skip
              clear hx
              go_wp2_with (go_at_call 61; refine (l1In_any _ _ _ _).mono ?_; rintro e w' ⟨rfl, rfl⟩; rw [hB1])
              go_ret
              exact ⟨by rw [hfin.out]; rfl, hbel⟩
        · have hfin : Hid (isQ q = false) := by show _ = _; rw [hE]; simp [h6]
          have h6' : ¬ ((q.f.length : Int) ≤ 6) := by omega
          clear hE h6
          by_cases ha : k < q.f.length
          all_goals
            first | have hb := hx ha | skip
            clear hx
            go_wp2_with (go_at_call 61; refine (l1In_any _ _ _ _).mono ?_; rintro e w' ⟨rfl, rfl⟩; rw [hB1])
            go_ret
            exact ⟨by rw [hfin.out]; rfl, hbel⟩
end Go.Proofs.Ytjhllgldllbaaaa
