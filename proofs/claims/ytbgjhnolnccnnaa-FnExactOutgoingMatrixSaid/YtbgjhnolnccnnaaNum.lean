/- Number vectors of quivers: areNumbers, l18Vector, hasVertex, l21Loop. -/
import Derived.Test.YtbgjhnolnccnnaaIsQ
namespace Go.Proofs.Ytbgjhnolnccnnaa
set_option linter.unusedVariables false
set_option linter.unusedSimpArgs false
open Go.RowKit

def isNum (q : Qv) (x : List Int) : Bool := isQ q && decide ((x.length : Int) = q.v) && allR x (-100) 100
theorem isNum_t {q : Qv} {x : List Int} : isNum q x = true ↔ isQ q = true ∧ (x.length : Int) = q.v ∧ ∀ y ∈ x, -100 ≤ y ∧ y ≤ 100 := by
  simp only [isNum, Bool.and_eq_true, decide_eq_true_eq, allR_t, and_assoc]

set_option maxHeartbeats 400000 in
theorem areNumbers_any (u xv : Value) (q : Qv) (xs : List Int) (w : World) (hu : QvR w w.heap.size u q) (hx : SlI w w.heap.size xv xs) :
    Calls Try.prog 123 #[u, xv] w fun e w' => e = .returned (.bool (isNum q xs)) ∧ Below w.heap.size w w' := by
  have hu' := hu
  obtain ⟨A, c, C, d, rfl, hf, hT, hr, lf, lt⟩ := hu.open_
  have hx' := hx
  obtain ⟨XA, xc, rfl, _, _, lx, _⟩ := hx.open_
  clear hu hx hf hT
  obtain ⟨W, hW⟩ : ∃ W, W = w.alloc (.cells #[.int .i64 q.v, .slice A q.f.length c, .slice C q.t.length d] 34) := ⟨_, rfl⟩
  have g0 : Below w.heap.size w W := by rw [hW]; exact below_alloc _ _
  have kB : Blk W w.heap.size 34 #[.int .i64 q.v, .slice A q.f.length c, .slice C q.t.length d] := by rw [hW]; exact Blk.new _ _ _
  have c0 := kB.cell' (i := 0) rfl
  have c1 := kB.cell' (i := 1) rfl
  have c2 := kB.cell' (i := 2) rfl
  have h0 := QvR.next g0 hu'
  have hx0 := SlI.next g0 hx'
  clear hu' hx'
  rcases hq : isQ q with _ | _
  · have hfin : Hid (isNum q xs = false) := by show _ = _; simp [isNum, hq]
    go_enter Try.func123, Try.ntmps123
    go_wp2_with fail
    rw [← hW]; clear hW
    refine (implIsQuiver_any _ _ _ h0).mono ?_; rintro e w1 ⟨rfl, hb1⟩
    rw [hq]
    go_wp2
    go_ret
    exact ⟨by rw [hfin.out]; rfl, bthen g0 hb1⟩
  by_cases hl : (xs.length : Int) = q.v
  · have hl' : ((xs.length : Int) == q.v) = true := by rw [beq_iff_eq]; exact hl
    obtain ⟨B, hB⟩ : ∃ B, allR xs (-100) 100 = B := ⟨_, rfl⟩
    have hfin : Hid (isNum q xs = B) := by show _ = _; simp [isNum, hq, hl, hB]
    have HB := Lib.hid hB
    clear hl hB
    cases B
    all_goals
      go_enter Try.func123, Try.ntmps123
      go_wp2_with fail
      rw [← hW]; clear hW
      refine (implIsQuiver_any _ _ _ h0).mono ?_; rintro e w1 ⟨rfl, hb1⟩
      rw [hq]
      have d0 := (kB.call hb1).cell' (i := 0) rfl
      clear c0 c1 c2
      have hx1 := SlI.next hb1 hx0
      go_wp2_with fail
      refine (allWithin_any _ xs _ _ _ hx1).mono ?_; rintro e w2 ⟨rfl, hb2⟩
      rw [HB.out]
      go_wp2
      go_ret
      exact ⟨by rw [hfin.out]; rfl, bthen (bthen g0 hb1) hb2⟩
  · have hl' : ((xs.length : Int) == q.v) = false := by rw [beq_eq_false_iff_ne]; exact hl
    have hfin : Hid (isNum q xs = false) := by show _ = _; simp [isNum, hl]
    clear hl
    go_enter Try.func123, Try.ntmps123
    go_wp2_with fail
    rw [← hW]; clear hW
    refine (implIsQuiver_any _ _ _ h0).mono ?_; rintro e w1 ⟨rfl, hb1⟩
    rw [hq]
    have d0 := (kB.call hb1).cell' (i := 0) rfl
    clear c0 c1 c2
    go_wp2
    go_ret
    exact ⟨by rw [hfin.out]; rfl, bthen g0 hb1⟩

set_option maxHeartbeats 800000 in
theorem l18Vector_any (u xv : Value) (q : Qv) (xs : List Int) (w : World) (hu : QvR w w.heap.size u q) (hx : SlI w w.heap.size xv xs) :
    Calls Try.prog 118 #[u, xv] w fun e w' => e = .returned (.bool (isNum q xs)) ∧ Below w.heap.size w w' := by
  have hu' := hu
  obtain ⟨A, c, C, d, rfl, hf, hT, hr, lf, lt⟩ := hu.open_
  obtain ⟨XA, xc, rfl, _, _, lx, hx'⟩ := hx.open_
  clear hu hx hf hT
  have g0 : Below w.heap.size w (w.alloc (.cells #[.int .i64 q.v, .slice A q.f.length c, .slice C q.t.length d] 34)) := below_alloc _ _
  have kB := Blk.new w 34 #[.int .i64 q.v, .slice A q.f.length c, .slice C q.t.length d]
  go_enter Try.func118, Try.ntmps118
  go_wp2
  go_loopw [5] (fun i wr => ∃ k : Nat, k ≤ xs.length ∧ i = .int .i64 k ∧ Below w.heap.size w wr ∧ Blk wr w.heap.size 34 #[.int .i64 q.v, .slice A q.f.length c, .slice C q.t.length d] ∧ Hid (∀ y ∈ xs.take k, inR y (-100) 100 = true)) (fun i _ => xs.length - (intOf i).toNat)
  case atStart => exact ⟨0, Nat.zero_le _, rfl, g0, kB, by intro y hy; simp at hy⟩
  case round =>
    clear g0 kB
    obtain ⟨k, hk, rfl, hbel, hkB, hok⟩ := hrel
    have e0 := hkB.cell' (i := 0) rfl
    have e1 := hkB.cell' (i := 1) rfl
    have e2 := hkB.cell' (i := 2) rfl
    by_cases hlt : k < xs.length
    · obtain ⟨b, o, x, rfl, hb, HX, x1, _⟩ := SlI.at_ hx' hlt
      have x2 := bcell hbel hb x1
      clear x1
      rcases hB1 : inR x (-100) 100 with _ | _
      · have hfin : Hid (isNum q xs = false) := by
          show _ = _
          have : allR xs (-100) 100 = false := by
            rw [allR, List.all_eq_false]
            exact ⟨x, List.mem_of_getElem? HX.out, by simp [hB1]⟩
          simp [isNum, this]
        go_wp2_with fail
        refine (l1In_any _ _ _ _).mono ?_; rintro e w9 ⟨rfl, rfl⟩
        rw [hB1]
        go_wp2
        go_ret
        exact ⟨by rw [hfin.out]; rfl, hbel⟩
      · have hst : Hid (∀ y ∈ xs.take (k + 1), inR y (-100) 100 = true) := by
          intro y hy
          rw [take_snoc HX.out, List.mem_append, List.mem_singleton] at hy
          rcases hy with hy | rfl
          · exact hok.out y hy
          · exact hB1
        go_wp2_with fail
        refine (l1In_any _ _ _ _).mono ?_; rintro e w9 ⟨rfl, rfl⟩
        rw [hB1]
        go_wp2
        go_roundw
        case rel => exact ⟨k + 1, by omega, by go_num, hbel, hkB, hst.out⟩
        case measure => simp [intOf]; omega
    · have hrq := QvR.more (B' := wr.heap.size) (by have := hbel.size; omega) (QvR.below hbel hu')
      have hall : allR xs (-100) 100 = true := by
        have h := hok.out
        rw [List.take_of_length_le (by omega)] at h
        exact List.all_eq_true.2 h
      rcases hq : isQ q with _ | _
      · have hfin : Hid (isNum q xs = false) := by show _ = _; simp [isNum, hq]
        clear hall
        go_wp2_with fail
        refine (specIsQuiver_any _ _ _ hrq).mono ?_; rintro e w1 ⟨rfl, hb1⟩
        rw [hq]
        go_wp2
        go_ret
        exact ⟨by rw [hfin.out]; rfl, hbel.trans (hb1.mono hbel.size)⟩
      · obtain ⟨B, hB⟩ : ∃ B, ((xs.length : Int) == q.v) = B := ⟨_, rfl⟩
        have hfin : Hid (isNum q xs = B) := by show _ = _; rw [← hB, isNum, hq, hall, Bool.and_true, Bool.true_and, Bool.eq_iff_iff, decide_eq_true_eq, beq_iff_eq]
        clear hall
        go_wp2_with fail
        refine (specIsQuiver_any _ _ _ hrq).mono ?_; rintro e w1 ⟨rfl, hb1⟩
        rw [hq]
        have f0 := (hkB.call hb1).cell' (i := 0) rfl
        clear e0 e1 e2
        cases B
        all_goals
          go_wp2
          go_ret
          exact ⟨by rw [hfin.out]; rfl, hbel.trans (hb1.mono hbel.size)⟩

theorem hasVertex_any (u : Value) (q : Qv) (v : Int) (w : World) (hu : QvR w w.heap.size u q) (hv : 1 ≤ q.v ∧ q.v ≤ 5) :
    Calls Try.prog 152 #[u, .int .i64 v] w fun e w' => e = .returned (.bool (inR v 0 (q.v - 1))) ∧ Below w.heap.size w w' := by
  obtain ⟨A, c, C, d, rfl, hf, hT, hr, lf, lt⟩ := hu.open_
  obtain ⟨hv1, hv2⟩ := hv
  have g0 := below_alloc w (.cells #[.int .i64 q.v, .slice A q.f.length c, .slice C q.t.length d] 34)
  go_enter Try.func152, Try.ntmps152
  go_wp2_with fail
  refine (within_any _ _ _ _).mono ?_; rintro e w' ⟨rfl, rfl⟩
  go_wp2
  go_ret
  exact ⟨rfl, g0⟩

end Go.Proofs.Ytbgjhnolnccnnaa
