/- FnExactReflectSource: for every argument the program's function returns what the reference's returns. Part 3 of 14 of the proof: Mat, Mat2, Mat3, RepSz, Zig, Line, Pencil, MkI, DsF, Bars, BarsK, CmpB, AreB, LineOf, KitR2, Seat. No condition. -/
import Derived.Test.YtaefpblpfjhgoaaGreatBReflectSource2
/- Fields, vectors, matrices, dimensions: the tests of both sides. -/
namespace Go.Proofs.YtaefpblpfjhgoaaGreat
set_option linter.unusedVariables false
set_option linter.unusedSimpArgs false
open Go.RowKit

def isFld (p : Int) : Bool := decide (p = 2 ∨ p = 3 ∨ p = 5)
theorem isFld_t {p : Int} : isFld p = true ↔ p = 2 ∨ p = 3 ∨ p = 5 := by simp [isFld]
theorem isFld_f {p : Int} : isFld p = false ↔ p ≠ 2 ∧ p ≠ 3 ∧ p ≠ 5 := by simp [isFld]
theorem isFld_r {p : Int} (h : isFld p = true) : 2 ≤ p ∧ p ≤ 5 := by have := isFld_t.1 h; omega
def isVec (p : Int) (v : List Int) : Bool := isFld p && decide (v.length ≤ 64) && allR v 0 (p - 1)
theorem isVec_t {p : Int} {v : List Int} : isVec p v = true ↔ isFld p = true ∧ v.length ≤ 64 ∧ ∀ x ∈ v, 0 ≤ x ∧ x ≤ p - 1 := by
  simp only [isVec, Bool.and_eq_true, decide_eq_true_eq, allR_t, and_assoc]
def isMat (p : Int) (m : Mx) : Bool := inR m.r 0 8 && inR m.c 0 8 && decide ((m.a.length : Int) = m.r * m.c) && isVec p m.a
theorem isMat_t {p : Int} {m : Mx} : isMat p m = true ↔ (0 ≤ m.r ∧ m.r ≤ 8) ∧ (0 ≤ m.c ∧ m.c ≤ 8) ∧ (m.a.length : Int) = m.r * m.c ∧ isVec p m.a = true := by
  simp only [isMat, Bool.and_eq_true, inR_t, decide_eq_true_eq, and_assoc]
def areDims (q : Qv) (d : List Int) : Bool := isQ q && decide ((d.length : Int) = q.v) && allR d 0 4 && decide (d.sum ≤ 8)
theorem areDims_t {q : Qv} {d : List Int} : areDims q d = true ↔ isQ q = true ∧ (d.length : Int) = q.v ∧ (∀ x ∈ d, 0 ≤ x ∧ x ≤ 4) ∧ d.sum ≤ 8 := by
  simp only [areDims, Bool.and_eq_true, decide_eq_true_eq, allR_t, and_assoc]
theorem mul_bd {a b : Int} (ha : 0 ≤ a ∧ a ≤ 8) (hb : 0 ≤ b ∧ b ≤ 8) : 0 ≤ a * b ∧ a * b ≤ 64 := by
  obtain ⟨n, rfl⟩ := Int.eq_ofNat_of_zero_le ha.1
  obtain ⟨m, rfl⟩ := Int.eq_ofNat_of_zero_le hb.1
  have h1 : n * m ≤ 8 * 8 := Nat.mul_le_mul (by omega) (by omega)
  have e : (n : Int) * m = ((n * m : Nat) : Int) := by simp
  rw [e]
  omega

theorem implIsField_any (p : Int) (w : World) : Calls Tryz.prog 46 #[.int .i64 p] w fun e w' => e = .returned (.bool (isFld p)) ∧ w' = w := by
  by_cases h2 : p = 2
  · subst h2
    go_enter Tryz.func46, Tryz.ntmps46
    go_wp2
    go_ret
    exact ⟨rfl, rfl⟩
  by_cases h3 : p = 3
  · subst h3
    go_enter Tryz.func46, Tryz.ntmps46
    go_wp2
    go_ret
    exact ⟨rfl, rfl⟩
  by_cases h5 : p = 5
  · subst h5
    go_enter Tryz.func46, Tryz.ntmps46
    go_wp2
    go_ret
    exact ⟨rfl, rfl⟩
  have e : isFld p = false := isFld_f.2 ⟨h2, h3, h5⟩
  have e2 : (p == 2) = false := by rw [beq_eq_false_iff_ne]; exact h2
  have e3 : (p == 3) = false := by rw [beq_eq_false_iff_ne]; exact h3
  have e5 : (p == 5) = false := by rw [beq_eq_false_iff_ne]; exact h5
  rw [e]
  clear e h2 h3 h5
  go_enter Tryz.func46, Tryz.ntmps46
  go_wp2
  go_ret
  exact ⟨rfl, rfl⟩
theorem specIsField_any (p : Int) (w : World) : Calls Tryz.prog 43 #[.int .i64 p] w fun e w' => e = .returned (.bool (isFld p)) ∧ w' = w := by
  by_cases h2 : p = 2
  · subst h2
    go_enter Tryz.func43, Tryz.ntmps43
    go_wp2
    go_ret
    exact ⟨rfl, rfl⟩
  by_cases h3 : p = 3
  · subst h3
    go_enter Tryz.func43, Tryz.ntmps43
    go_wp2
    go_ret
    exact ⟨rfl, rfl⟩
  by_cases h5 : p = 5
  · subst h5
    go_enter Tryz.func43, Tryz.ntmps43
    go_wp2
    go_ret
    exact ⟨rfl, rfl⟩
  have e : isFld p = false := isFld_f.2 ⟨h2, h3, h5⟩
  have e2 : (p == 2) = false := by rw [beq_eq_false_iff_ne]; exact h2
  have e3 : (p == 3) = false := by rw [beq_eq_false_iff_ne]; exact h3
  have e5 : (p == 5) = false := by rw [beq_eq_false_iff_ne]; exact h5
  rw [e]
  clear e h2 h3 h5
  go_enter Tryz.func43, Tryz.ntmps43
  go_wp2
  go_ret
  exact ⟨rfl, rfl⟩

theorem implIsVector_any (p : Int) (u : Value) (v : List Int) (w : World) (hu : SlI w w.heap.size u v) :
    Calls Tryz.prog 135 #[.int .i64 p, u] w fun e w' => e = .returned (.bool (isVec p v)) ∧ Below w.heap.size w w' := by
  have hv := hu
  obtain ⟨A, c, rfl, _, _, _, _⟩ := hu.open_
  clear hu
  unfold isVec
  rcases h1 : isFld p with _ | _
  · go_enter Tryz.func135, Tryz.ntmps135
    go_wp2_with fail
    refine (implIsField_any _ _).mono ?_; rintro e w' ⟨rfl, rfl⟩
    rw [h1]
    go_wp2
    go_ret
    exact ⟨rfl, Below.refl _ _⟩
  have hp := isFld_r h1
  by_cases h2 : v.length ≤ 64
  · have e2 : decide (v.length ≤ 64) = true := by simpa using h2
    rw [e2]
    clear e2
    obtain ⟨B, hB⟩ : ∃ B, allR v 0 (p - 1) = B := ⟨_, rfl⟩
    rw [hB]
    have HB := Lib.hid hB
    clear hB
    go_enter Tryz.func135, Tryz.ntmps135
    go_wp2_with fail
    refine (implIsField_any _ _).mono ?_; rintro e w' ⟨rfl, rfl⟩
    rw [h1]
    go_wp2_with fail
    refine (allWithin_any _ v _ _ _ hv).mono ?_; rintro e w1 ⟨rfl, hb1⟩
    rw [HB.out]
    go_wp2
    go_ret
    exact ⟨rfl, hb1⟩
  · have e2 : decide (v.length ≤ 64) = false := by simpa using h2
    have e2' : ¬ ((v.length : Int) ≤ 64) := by omega
    rw [e2]
    clear e2
    go_enter Tryz.func135, Tryz.ntmps135
    go_wp2_with fail
    refine (implIsField_any _ _).mono ?_; rintro e w' ⟨rfl, rfl⟩
    rw [h1]
    go_wp2
    go_ret
    exact ⟨rfl, Below.refl _ _⟩

theorem allR_end {v : List Int} {lo hi : Int} {k : Nat} (h : ∀ x ∈ v.take k, inR x lo hi = true) (hk : v.length ≤ k) : allR v lo hi = true := by
  rw [List.take_of_length_le hk] at h
  simpa [allR] using h
theorem allR_bad {v : List Int} {lo hi x : Int} {k : Nat} (h : v[k]? = some x) (hx : inR x lo hi = false) : allR v lo hi = false := by
  rw [Bool.eq_false_iff]
  intro h2
  have := List.all_eq_true.1 h2 x (List.mem_of_getElem? h)
  rw [hx] at this
  cases this
theorem allR_step {v : List Int} {lo hi x : Int} {k : Nat} (h : ∀ x ∈ v.take k, inR x lo hi = true) (hx : v[k]? = some x) (h2 : inR x lo hi = true) : ∀ x ∈ v.take (k + 1), inR x lo hi = true := by
  intro y hy
  rw [take_snoc hx, List.mem_append, List.mem_singleton] at hy
  rcases hy with hy | rfl
  · exact h y hy
  · exact h2

set_option maxHeartbeats 400000 in
theorem specIsVector_any (p : Int) (u : Value) (v : List Int) (w : World) (hu : SlI w w.heap.size u v) :
    Calls Tryz.prog 134 #[.int .i64 p, u] w fun e w' => e = .returned (.bool (isVec p v)) ∧ Below w.heap.size w w' := by
  obtain ⟨A, c, rfl, _, _, _, hv⟩ := hu.open_
  clear hu
  unfold isVec
  rcases h1 : isFld p with _ | _
  · go_enter Tryz.func134, Tryz.ntmps134
    go_wp2_with fail
    refine (specIsField_any _ _).mono ?_; rintro e w ⟨rfl, rfl⟩
    rw [h1]
    go_wp2
    go_ret
    exact ⟨rfl, Below.refl _ _⟩
  have hp := isFld_r h1
  by_cases h2 : v.length ≤ 64
  · have e2 : decide (v.length ≤ 64) = true := by simpa using h2
    have e2' : ¬ ((64 : Int) < v.length) := by omega
    rw [e2]
    clear e2
    go_enter Tryz.func134, Tryz.ntmps134
    go_wp2_with fail
    refine (specIsField_any _ _).mono ?_; rintro e w ⟨rfl, rfl⟩
    rw [h1]
    go_wp2
    go_loopw [5] (fun i wr => ∃ k : Nat, k ≤ v.length ∧ i = .int .i64 k ∧ Below w.heap.size w wr ∧ Hid (∀ x ∈ v.take k, inR x 0 (p - 1) = true)) (fun i _ => v.length - (intOf i).toNat)
    case atStart => exact ⟨0, Nat.zero_le _, rfl, Below.refl _ _, by show ∀ x ∈ _, _; simp⟩
    case round =>
      obtain ⟨k, hk, rfl, hbel, hall⟩ := hrel
      by_cases hlt : k < v.length
      · obtain ⟨b, o, x, rfl, hb, HX, x1, _⟩ := SlI.at_ hv hlt
        have x2 := bcell hbel hb x1
        clear x1 hv
        rcases h3 : inR x 0 (p - 1) with _ | _
        · have HF := Lib.hid (allR_bad HX.out h3)
          have H3 := Lib.hid h3
          clear h3
          go_wp2_with fail
          refine (l1In_any _ _ _ _).mono ?_; rintro e w ⟨rfl, rfl⟩
          rw [H3.out]
          go_wp2
          go_ret
          exact ⟨by rw [HF.out]; rfl, hbel⟩
        · have HS := Lib.hid (allR_step hall.out HX.out h3)
          have H3 := Lib.hid h3
          clear h3
          go_wp2_with fail
          refine (l1In_any _ _ _ _).mono ?_; rintro e w ⟨rfl, rfl⟩
          rw [H3.out]
          go_wp2
          go_roundw
          case rel => exact ⟨k + 1, by omega, by go_num, hbel, HS.out⟩
          case measure => simp [intOf]; omega
      · have HF := Lib.hid (allR_end hall.out (by omega))
        go_wp2
        go_ret
        exact ⟨by rw [HF.out]; rfl, hbel⟩
  · have e2 : decide (v.length ≤ 64) = false := by simpa using h2
    have e2' : (64 : Int) < v.length := by omega
    rw [e2]
    clear e2
    go_enter Tryz.func134, Tryz.ntmps134
    go_wp2_with fail
    refine (specIsField_any _ _).mono ?_; rintro e w ⟨rfl, rfl⟩
    rw [h1]
    go_wp2
    go_ret
    exact ⟨rfl, Below.refl _ _⟩

set_option maxHeartbeats 800000 in
theorem implIsMatrix_any (p : Int) (u : Value) (m : Mx) (w : World) (hu : MxR w w.heap.size u m) :
    Calls Tryz.prog 102 #[.int .i64 p, u] w fun e w' => e = .returned (.bool (isMat p m)) ∧ Below w.heap.size w w' := by
  obtain ⟨A, c, rfl, hf, _, _, lf⟩ := hu.open_
  clear hu
  obtain ⟨W, hW⟩ : ∃ W, W = w.alloc (.cells #[.int .i64 m.r, .int .i64 m.c, .slice A m.a.length c] 50) := ⟨_, rfl⟩
  have g0 : Below w.heap.size w W := by rw [hW]; exact below_alloc _ _
  have kB : Blk W w.heap.size 50 #[.int .i64 m.r, .int .i64 m.c, .slice A m.a.length c] := by rw [hW]; exact Blk.new _ _ _
  have c0 := kB.cell' (i := 0) rfl
  have c1 := kB.cell' (i := 1) rfl
  have c2 := kB.cell' (i := 2) rfl
  replace hf := SlI.next g0 hf
  unfold isMat
  rcases h1 : inR m.r 0 8 with _ | _
  · go_enter Tryz.func102, Tryz.ntmps102
    go_wp2_with fail
    rw [← hW]; clear hW
    refine (within_any _ _ _ _).mono ?_; rintro e w' ⟨rfl, rfl⟩
    rw [h1]
    go_wp2
    go_ret
    exact ⟨rfl, g0⟩
  have b1 := inR_t.1 h1
  rcases h2 : inR m.c 0 8 with _ | _
  · go_enter Tryz.func102, Tryz.ntmps102
    go_wp2_with fail
    rw [← hW]; clear hW
    refine (within_any _ _ _ _).mono ?_; rintro e w' ⟨rfl, rfl⟩
    rw [h1]
    go_wp2_with fail
    refine (within_any _ _ _ _).mono ?_; rintro e w' ⟨rfl, rfl⟩
    rw [h2]
    go_wp2
    go_ret
    exact ⟨rfl, g0⟩
  have b2 := inR_t.1 h2
  have b3 := mul_bd b1 b2
  obtain ⟨b11, b12⟩ := b1
  obtain ⟨b21, b22⟩ := b2
  obtain ⟨b31, b32⟩ := b3
  rcases h3 : decide ((m.a.length : Int) = m.r * m.c) with _ | _
  · have e3 : ((m.a.length : Int) == m.r * m.c) = false := by rw [beq_eq_false_iff_ne]; exact of_decide_eq_false h3
    clear h3
    go_enter Tryz.func102, Tryz.ntmps102
    go_wp2_with fail
    rw [← hW]; clear hW
    refine (within_any _ _ _ _).mono ?_; rintro e w' ⟨rfl, rfl⟩
    rw [h1]
    go_wp2_with fail
    refine (within_any _ _ _ _).mono ?_; rintro e w' ⟨rfl, rfl⟩
    rw [h2]
    go_wp2
    go_ret
    exact ⟨rfl, g0⟩
  have e3 : ((m.a.length : Int) == m.r * m.c) = true := by rw [beq_iff_eq]; exact of_decide_eq_true h3
  clear h3
  obtain ⟨B, hB⟩ : ∃ B, isVec p m.a = B := ⟨_, rfl⟩
  rw [hB]
  have HB := Lib.hid hB
  clear hB
  go_enter Tryz.func102, Tryz.ntmps102
  go_wp2_with fail
  rw [← hW]; clear hW
  refine (within_any _ _ _ _).mono ?_; rintro e w' ⟨rfl, rfl⟩
  rw [h1]
  go_wp2_with fail
  refine (within_any _ _ _ _).mono ?_; rintro e w' ⟨rfl, rfl⟩
  rw [h2]
  go_wp2_with fail
  refine (implIsVector_any _ _ m.a _ hf).mono ?_; rintro e w1 ⟨rfl, hb1⟩
  rw [HB.out]
  go_wp2
  go_ret
  exact ⟨rfl, bthen g0 hb1⟩
set_option maxHeartbeats 800000 in
theorem specIsMatrix_any (p : Int) (u : Value) (m : Mx) (w : World) (hu : MxR w w.heap.size u m) :
    Calls Tryz.prog 100 #[.int .i64 p, u] w fun e w' => e = .returned (.bool (isMat p m)) ∧ Below w.heap.size w w' := by
  obtain ⟨A, c, rfl, hf, _, _, lf⟩ := hu.open_
  clear hu
  obtain ⟨W, hW⟩ : ∃ W, W = w.alloc (.cells #[.int .i64 m.r, .int .i64 m.c, .slice A m.a.length c] 50) := ⟨_, rfl⟩
  have g0 : Below w.heap.size w W := by rw [hW]; exact below_alloc _ _
  have kB : Blk W w.heap.size 50 #[.int .i64 m.r, .int .i64 m.c, .slice A m.a.length c] := by rw [hW]; exact Blk.new _ _ _
  have c0 := kB.cell' (i := 0) rfl
  have c1 := kB.cell' (i := 1) rfl
  have c2 := kB.cell' (i := 2) rfl
  replace hf := SlI.next g0 hf
  unfold isMat
  rcases h1 : inR m.r 0 8 with _ | _
  · go_enter Tryz.func100, Tryz.ntmps100
    go_wp2_with fail
    rw [← hW]; clear hW
    refine (l1In_any _ _ _ _).mono ?_; rintro e w' ⟨rfl, rfl⟩
    rw [h1]
    go_wp2
    go_ret
    exact ⟨rfl, g0⟩
  have b1 := inR_t.1 h1
  rcases h2 : inR m.c 0 8 with _ | _
  · go_enter Tryz.func100, Tryz.ntmps100
    go_wp2_with fail
    rw [← hW]; clear hW
    refine (l1In_any _ _ _ _).mono ?_; rintro e w' ⟨rfl, rfl⟩
    rw [h1]
    go_wp2_with fail
    refine (l1In_any _ _ _ _).mono ?_; rintro e w' ⟨rfl, rfl⟩
    rw [h2]
    go_wp2
    go_ret
    exact ⟨rfl, g0⟩
  have b2 := inR_t.1 h2
  have b3 := mul_bd b1 b2
  obtain ⟨b11, b12⟩ := b1
  obtain ⟨b21, b22⟩ := b2
  obtain ⟨b31, b32⟩ := b3
  rcases h3 : decide ((m.a.length : Int) = m.r * m.c) with _ | _
  · have e3 : ((m.a.length : Int) == m.r * m.c) = false := by rw [beq_eq_false_iff_ne]; exact of_decide_eq_false h3
    clear h3
    go_enter Tryz.func100, Tryz.ntmps100
    go_wp2_with fail
    rw [← hW]; clear hW
    refine (l1In_any _ _ _ _).mono ?_; rintro e w' ⟨rfl, rfl⟩
    rw [h1]
    go_wp2_with fail
    refine (l1In_any _ _ _ _).mono ?_; rintro e w' ⟨rfl, rfl⟩
    rw [h2]
    go_wp2
    go_ret
    exact ⟨rfl, g0⟩
  have e3 : ((m.a.length : Int) == m.r * m.c) = true := by rw [beq_iff_eq]; exact of_decide_eq_true h3
  clear h3
  obtain ⟨B, hB⟩ : ∃ B, isVec p m.a = B := ⟨_, rfl⟩
  rw [hB]
  have HB := Lib.hid hB
  clear hB
  go_enter Tryz.func100, Tryz.ntmps100
  go_wp2_with fail
  rw [← hW]; clear hW
  refine (l1In_any _ _ _ _).mono ?_; rintro e w' ⟨rfl, rfl⟩
  rw [h1]
  go_wp2_with fail
  refine (l1In_any _ _ _ _).mono ?_; rintro e w' ⟨rfl, rfl⟩
  rw [h2]
  go_wp2_with fail
  refine (specIsVector_any _ _ m.a _ hf).mono ?_; rintro e w1 ⟨rfl, hb1⟩
  rw [HB.out]
  go_wp2
  go_ret
  exact ⟨rfl, bthen g0 hb1⟩
end Go.Proofs.YtaefpblpfjhgoaaGreat

/- Dimensions and representations: the tests of both sides. -/
namespace Go.Proofs.YtaefpblpfjhgoaaGreat
set_option linter.unusedVariables false
set_option linter.unusedSimpArgs false
open Go.RowKit

theorem sumW_dims {d : List Int} (h : ∀ x ∈ d, 0 ≤ x ∧ x ≤ 4) (hl : d.length ≤ 5) : sumW d = d.sum ∧ 0 ≤ d.sum ∧ d.sum ≤ 20 := by
  obtain ⟨h1, h2, h3⟩ := sumW_small d 0 4 (by omega) (by omega) h (by omega) (by omega)
  exact ⟨h1, by omega, by omega⟩
theorem sum_bd : ∀ (l : List Int), (∀ x ∈ l, 0 ≤ x ∧ x ≤ 4) → 0 ≤ l.sum ∧ l.sum ≤ 4 * l.length
  | [], _ => by simp
  | a :: l, h => by
    have := sum_bd l (fun x hx => h x (by simp [hx]))
    have := h a (by simp)
    simp only [List.sum_cons, List.length_cons]
    omega
theorem sum_take_le (d : List Int) (k : Nat) (h : ∀ x ∈ d.take k, 0 ≤ x ∧ x ≤ 4) : 0 ≤ (d.take k).sum ∧ (d.take k).sum ≤ 4 * k := by
  have h1 := sum_bd _ h
  have h2 : (d.take k).length ≤ k := List.length_take_le _ _
  omega

set_option maxHeartbeats 800000 in
theorem implAreDims_any (u xv : Value) (q : Qv) (d : List Int) (w : World) (hu : QvR w w.heap.size u q) (hx : SlI w w.heap.size xv d) :
    Calls Tryz.prog 48 #[u, xv] w fun e w' => e = .returned (.bool (areDims q d)) ∧ Below w.heap.size w w' := by
  obtain ⟨A, c, C, d', eu⟩ := hu.form
  subst eu
  have lx := hx
  obtain ⟨XA, xc, rfl, _, _, lx, _⟩ := lx.open_
  obtain ⟨W, hW⟩ : ∃ W, W = w.alloc (.cells #[.int .i64 q.v, .slice A q.f.length c, .slice C q.t.length d'] 29) := ⟨_, rfl⟩
  have g0 : Below w.heap.size w W := by rw [hW]; exact below_alloc _ _
  have kB : Blk W w.heap.size 29 #[.int .i64 q.v, .slice A q.f.length c, .slice C q.t.length d'] := by rw [hW]; exact Blk.new _ _ _
  have c0 := kB.cell' (i := 0) rfl
  have c1 := kB.cell' (i := 1) rfl
  have c2 := kB.cell' (i := 2) rfl
  replace hu := QvR.next g0 hu
  replace hx := SlI.next g0 hx
  unfold areDims
  rcases hq : isQ q with _ | _
  · go_enter Tryz.func48, Tryz.ntmps48
    go_wp2_with fail
    rw [← hW]; clear hW
    refine (implIsQuiver_any _ _ _ hu).mono ?_; rintro e w1 ⟨rfl, hb1⟩
    rw [hq]
    clear hu
    replace g0 := bthen g0 hb1
    replace hx := SlI.next hb1 hx
    replace kB := kB.call hb1
    replace c0 := kB.cell' (i := 0) rfl
    replace c1 := kB.cell' (i := 1) rfl
    replace c2 := kB.cell' (i := 2) rfl
    clear hb1
    go_wp2
    go_ret
    exact ⟨rfl, g0⟩
  obtain ⟨hv1, hv2⟩ := (isQ_t.1 hq).1
  rcases h2 : decide ((d.length : Int) = q.v) with _ | _
  · have e2 : ((d.length : Int) == q.v) = false := by rw [beq_eq_false_iff_ne]; exact of_decide_eq_false h2
    clear h2
    go_enter Tryz.func48, Tryz.ntmps48
    go_wp2_with fail
    rw [← hW]; clear hW
    refine (implIsQuiver_any _ _ _ hu).mono ?_; rintro e w1 ⟨rfl, hb1⟩
    rw [hq]
    clear hu
    replace g0 := bthen g0 hb1
    replace hx := SlI.next hb1 hx
    replace kB := kB.call hb1
    replace c0 := kB.cell' (i := 0) rfl
    replace c1 := kB.cell' (i := 1) rfl
    replace c2 := kB.cell' (i := 2) rfl
    clear hb1
    go_wp2
    go_ret
    exact ⟨rfl, g0⟩
  have e2 : ((d.length : Int) == q.v) = true := by rw [beq_iff_eq]; exact of_decide_eq_true h2
  have hl5 : d.length ≤ 5 := by have := of_decide_eq_true h2; omega
  clear h2
  rcases h3 : allR d 0 4 with _ | _
  · have H3 := Lib.hid h3
    clear h3
    go_enter Tryz.func48, Tryz.ntmps48
    go_wp2_with fail
    rw [← hW]; clear hW
    refine (implIsQuiver_any _ _ _ hu).mono ?_; rintro e w1 ⟨rfl, hb1⟩
    rw [hq]
    clear hu
    replace g0 := bthen g0 hb1
    replace hx := SlI.next hb1 hx
    replace kB := kB.call hb1
    replace c0 := kB.cell' (i := 0) rfl
    replace c1 := kB.cell' (i := 1) rfl
    replace c2 := kB.cell' (i := 2) rfl
    clear hb1
    go_wp2_with fail
    refine (allWithin_any _ d _ _ _ hx).mono ?_; rintro e w_1 ⟨rfl, hb_1⟩
    replace g0 := bthen g0 hb_1
    replace hx := SlI.next hb_1 hx
    replace kB := kB.call hb_1
    replace c0 := kB.cell' (i := 0) rfl
    replace c1 := kB.cell' (i := 1) rfl
    replace c2 := kB.cell' (i := 2) rfl
    rw [H3.out]
    go_wp2
    go_ret
    exact ⟨rfl, g0⟩
  obtain ⟨s1, s2, s3⟩ := sumW_dims (allR_t.1 h3) hl5
  have H3 := Lib.hid h3
  have H1 := Lib.hid s1
  clear h3 s1
  obtain ⟨s, hs⟩ : ∃ s, d.sum = s := ⟨_, rfl⟩
  rw [hs] at H1 s2 s3 ⊢
  clear hs
  go_enter Tryz.func48, Tryz.ntmps48
  go_wp2_with fail
  rw [← hW]; clear hW
  refine (implIsQuiver_any _ _ _ hu).mono ?_; rintro e w1 ⟨rfl, hb1⟩
  rw [hq]
  clear hu
  replace g0 := bthen g0 hb1
  replace hx := SlI.next hb1 hx
  replace kB := kB.call hb1
  replace c0 := kB.cell' (i := 0) rfl
  replace c1 := kB.cell' (i := 1) rfl
  replace c2 := kB.cell' (i := 2) rfl
  clear hb1
  go_wp2_with fail
  refine (allWithin_any _ d _ _ _ hx).mono ?_; rintro e w_2 ⟨rfl, hb_2⟩
  replace g0 := bthen g0 hb_2
  replace hx := SlI.next hb_2 hx
  replace kB := kB.call hb_2
  replace c0 := kB.cell' (i := 0) rfl
  replace c1 := kB.cell' (i := 1) rfl
  replace c2 := kB.cell' (i := 2) rfl
  rw [H3.out]
  go_wp2_with fail
  refine (sumOf_any _ d _ hx).mono ?_; rintro e w2 ⟨rfl, rfl⟩
  rw [H1.out]
  go_wp2
  go_ret
  exact ⟨by simp, g0⟩

set_option maxHeartbeats 800000 in
theorem specAreDims_any (u xv : Value) (q : Qv) (d : List Int) (w : World) (hu : QvR w w.heap.size u q) (hx : SlI w w.heap.size xv d) :
    Calls Tryz.prog 28 #[u, xv] w fun e w' => e = .returned (.bool (areDims q d)) ∧ Below w.heap.size w w' := by
  obtain ⟨A, c, C, d', eu⟩ := hu.form
  subst eu
  have lx := hx
  obtain ⟨XA, xc, rfl, _, _, lx, _⟩ := lx.open_
  obtain ⟨W, hW⟩ : ∃ W, W = w.alloc (.cells #[.int .i64 q.v, .slice A q.f.length c, .slice C q.t.length d'] 29) := ⟨_, rfl⟩
  have g0 : Below w.heap.size w W := by rw [hW]; exact below_alloc _ _
  have kB : Blk W w.heap.size 29 #[.int .i64 q.v, .slice A q.f.length c, .slice C q.t.length d'] := by rw [hW]; exact Blk.new _ _ _
  have c0 := kB.cell' (i := 0) rfl
  have c1 := kB.cell' (i := 1) rfl
  have c2 := kB.cell' (i := 2) rfl
  replace hu := QvR.next g0 hu
  replace hx := SlI.next g0 hx
  unfold areDims
  rcases hq : isQ q with _ | _
  · go_enter Tryz.func28, Tryz.ntmps28
    go_wp2_with fail
    rw [← hW]; clear hW
    refine (specIsQuiver_any _ _ _ hu).mono ?_; rintro e w1 ⟨rfl, hb1⟩
    rw [hq]
    clear hu
    replace g0 := bthen g0 hb1
    replace hx := SlI.next hb1 hx
    replace kB := kB.call hb1
    replace c0 := kB.cell' (i := 0) rfl
    replace c1 := kB.cell' (i := 1) rfl
    replace c2 := kB.cell' (i := 2) rfl
    clear hb1
    go_wp2
    go_ret
    exact ⟨rfl, g0⟩
  obtain ⟨hv1, hv2⟩ := (isQ_t.1 hq).1
  rcases h2 : decide ((d.length : Int) = q.v) with _ | _
  · have e2 : ((d.length : Int) != q.v) = true := by rw [bne_iff_ne]; exact of_decide_eq_false h2
    clear h2
    go_enter Tryz.func28, Tryz.ntmps28
    go_wp2_with fail
    rw [← hW]; clear hW
    refine (specIsQuiver_any _ _ _ hu).mono ?_; rintro e w1 ⟨rfl, hb1⟩
    rw [hq]
    clear hu
    replace g0 := bthen g0 hb1
    replace hx := SlI.next hb1 hx
    replace kB := kB.call hb1
    replace c0 := kB.cell' (i := 0) rfl
    replace c1 := kB.cell' (i := 1) rfl
    replace c2 := kB.cell' (i := 2) rfl
    clear hb1
    go_wp2
    go_ret
    exact ⟨rfl, g0⟩
  have e2 : ((d.length : Int) != q.v) = false := by rw [bne_eq_false_iff_eq]; exact of_decide_eq_true h2
  have hl5 : d.length ≤ 5 := by have := of_decide_eq_true h2; omega
  clear h2
  go_enter Tryz.func28, Tryz.ntmps28
  go_wp2_with fail
  rw [← hW]; clear hW
  refine (specIsQuiver_any _ _ _ hu).mono ?_; rintro e w1 ⟨rfl, hb1⟩
  rw [hq]
  clear hu
  replace g0 := bthen g0 hb1
  replace hx := SlI.next hb1 hx
  replace kB := kB.call hb1
  replace c0 := kB.cell' (i := 0) rfl
  replace c1 := kB.cell' (i := 1) rfl
  replace c2 := kB.cell' (i := 2) rfl
  clear hb1
  go_wp2
  go_loopw [5, 6] (fun n i wr => ∃ k : Nat, k ≤ d.length ∧ i = .int .i64 k ∧ n = .int .i64 (d.take k).sum ∧ wr = w1 ∧ Hid (∀ x ∈ d.take k, inR x 0 4 = true)) (fun _ i _ => d.length - (intOf i).toNat)
  case atStart => exact ⟨0, Nat.zero_le _, rfl, by simp, rfl, by show ∀ x ∈ _, _; simp⟩
  case round =>
    obtain ⟨k, hk, rfl, rfl, rfl, hall⟩ := hrel
    have hsm := sum_take_le d k (fun x hx => inR_t.1 (hall.out x hx))
    obtain ⟨hs1, hs2⟩ := hsm
    obtain ⟨s, hs⟩ : ∃ s, (d.take k).sum = s := ⟨_, rfl⟩
    rw [hs] at hs1 hs2 ⊢
    have HS := Lib.hid hs
    clear hs
    by_cases hlt : k < d.length
    · obtain ⟨b, o, x, rfl, hb, HX, x1, _⟩ := SlI.at_ hx hlt
      clear hx
      rcases h3 : inR x 0 4 with _ | _
      · have HF := Lib.hid (allR_bad HX.out h3)
        have H3 := Lib.hid h3
        clear h3
        go_wp2_with fail
        refine (l1In_any _ _ _ _).mono ?_; rintro e w' ⟨rfl, rfl⟩
        rw [H3.out]
        go_wp2
        go_ret
        exact ⟨by rw [HF.out]; rfl, g0⟩
      · have HT := Lib.hid (allR_step hall.out HX.out h3)
        have HSU := Lib.hid (show (d.take (k + 1)).sum = s + x by rw [take_snoc HX.out, List.sum_append, HS.out]; simp)
        obtain ⟨x3, x4⟩ := inR_t.1 h3
        have H3 := Lib.hid h3
        clear h3
        go_wp2_with fail
        refine (l1In_any _ _ _ _).mono ?_; rintro e w' ⟨rfl, rfl⟩
        rw [H3.out]
        go_wp2
        go_roundw
        case rel => exact ⟨k + 1, by omega, by go_num, by rw [HSU.out], trivial, HT.out⟩
        case measure => simp [intOf]; omega
    · have HF := Lib.hid (allR_end hall.out (by omega))
      have HE := Lib.hid (show d.sum = s by rw [← HS.out, List.take_of_length_le (by omega)])
      go_wp2
      go_ret
      exact ⟨by rw [HF.out, HE.out]; simp, g0⟩

/-! ### representations -/
def dAt (d : List Int) (v : Int) : Int := d.getD v.toNat 0
def okM (x : Rp) (m : Mx) (f t : Int) : Bool := isMat x.p m && decide (m.c = dAt x.d f) && decide (m.r = dAt x.d t)
def okMs (x : Rp) (k : Nat) : Bool := (List.range k).all fun i => okM x (x.m.getD i ⟨0, 0, []⟩) (x.q.f.getD i 0) (x.q.t.getD i 0)
def isRep (x : Rp) : Bool := isFld x.p && areDims x.q x.d && decide (x.m.length = x.q.f.length) && okMs x x.m.length
theorem okMs_succ {x : Rp} {k : Nat} {m : Mx} {f t : Int} (hm : x.m[k]? = some m) (hf : x.q.f[k]? = some f) (ht : x.q.t[k]? = some t) : okMs x (k + 1) = (okMs x k && okM x m f t) := by
  simp [okMs, List.range_succ, List.getD_eq_getElem?_getD, hm, hf, ht]
theorem okMs_mono {x : Rp} {k n : Nat} (h : okMs x k = false) (hk : k ≤ n) : okMs x n = false := by
  simp only [okMs, List.all_eq_false, List.mem_range] at h ⊢
  obtain ⟨i, hi, h⟩ := h
  exact ⟨i, by omega, h⟩
theorem dAt_of {d : List Int} {n : Nat} {y : Int} (h : d[n]? = some y) : dAt d (n : Int) = y := by
  simp [dAt, List.getD_eq_getElem?_getD, h]
/-- what a round of IsRep meets -/
theorem rep_at {x : Rp} (hq : areDims x.q x.d = true) {k : Nat} (hk : k < x.q.f.length) : ∃ (nf nt : Nat) (yf yt : Int), x.q.f[k]? = some (nf : Int) ∧ x.q.t[k]? = some (nt : Int) ∧ x.d[nf]? = some yf ∧ x.d[nt]? = some yt ∧ nf < x.d.length ∧ nt < x.d.length ∧ nf ≤ 5 ∧ nt ≤ 5 ∧ k < x.q.t.length := by
  obtain ⟨h1, h2, h3, h4⟩ := areDims_t.1 hq
  obtain ⟨hv, hl, h6, hf, ht⟩ := isQ_t.1 h1
  have ef := List.getElem?_eq_getElem hk
  have et := List.getElem?_eq_getElem (show k < x.q.t.length by omega)
  have bf := hf _ (List.mem_of_getElem? ef)
  have bt := ht _ (List.mem_of_getElem? et)
  obtain ⟨nf, enf⟩ := Int.eq_ofNat_of_zero_le bf.1
  obtain ⟨nt, ent⟩ := Int.eq_ofNat_of_zero_le bt.1
  rw [enf] at ef bf
  rw [ent] at et bt
  exact ⟨nf, nt, x.d[nf]'(by omega), x.d[nt]'(by omega), ef, et, List.getElem?_eq_getElem _, List.getElem?_eq_getElem _, by omega, by omega, by omega, by omega, by omega⟩
end Go.Proofs.YtaefpblpfjhgoaaGreat

/- The two IsRep. -/
namespace Go.Proofs.YtaefpblpfjhgoaaGreat
set_option linter.unusedVariables false
set_option linter.unusedSimpArgs false
open Go.RowKit

theorem QvR.sl {w : World} {B n m a c : Nat} {v : Int} {A C : Option Addr} {q : Qv} (h : QvR w B (.agg #[.int .i64 v, .slice A n a, .slice C m c]) q) : SlI w B (.slice A n a) q.f ∧ SlI w B (.slice C m c) q.t := by
  obtain ⟨s, t, e, h1, h2, _⟩ := h
  simp only [Value.agg.injEq, Array.mk.injEq, List.cons.injEq, and_true] at e
  obtain ⟨_, rfl, rfl⟩ := e
  exact ⟨h1, h2⟩


set_option maxHeartbeats 3200000 in
set_option maxRecDepth 100000 in
theorem implIsRep_any (u : Value) (x : Rp) (w : World) (hu : RpR w w.heap.size u x) :
    Calls Tryz.prog 70 #[u] w fun e w' => e = .returned (.bool (isRep x)) ∧ Below w.heap.size w w' := by
  obtain ⟨A, a, C, c, E, e, H, h, rfl, hq, hd, hm, hp, ld, lm⟩ := hu.open_
  clear hu
  obtain ⟨W, hW⟩ : ∃ W, W = w.alloc (.cells #[.int .i64 x.p, .int .i64 x.q.v, .slice A x.q.f.length a, .slice C x.q.t.length c, .slice E x.d.length e, .slice H x.m.length h] 32) := ⟨_, rfl⟩
  have g0 : Below w.heap.size w W := by rw [hW]; exact below_alloc _ _
  have kB : Blk W w.heap.size 32 #[.int .i64 x.p, .int .i64 x.q.v, .slice A x.q.f.length a, .slice C x.q.t.length c, .slice E x.d.length e, .slice H x.m.length h] := by rw [hW]; exact Blk.new _ _ _
  have c0 := kB.cell' (i := 0) rfl
  have c1 := kB.cell' (i := 1) rfl
  have c2 := kB.cell' (i := 2) rfl
  have c3 := kB.cell' (i := 3) rfl
  have c4 := kB.cell' (i := 4) rfl
  have c5 := kB.cell' (i := 5) rfl
  replace hq := QvR.next g0 hq
  replace hd := SlI.next g0 hd
  replace hm := SlM.next g0 hm
  unfold isRep
  rcases h1 : isFld x.p with _ | _
  · go_enter Tryz.func70, Tryz.ntmps70
    go_wp2_with fail
    rw [← hW]; clear hW
    refine (implIsField_any _ _).mono ?_; rintro e w1 ⟨rfl, rfl⟩
    rw [h1]
    go_wp2
    go_ret
    exact ⟨rfl, g0⟩
  rcases h2 : areDims x.q x.d with _ | _
  · have H2 := Lib.hid h2
    clear h2
    go_enter Tryz.func70, Tryz.ntmps70
    go_wp2_with fail
    rw [← hW]; clear hW
    refine (implIsField_any _ _).mono ?_; rintro e w1 ⟨rfl, rfl⟩
    rw [h1]
    go_wp2_with fail
    refine (implAreDims_any _ _ _ _ _ hq hd).mono ?_; rintro e w_1 ⟨rfl, hb_1⟩
    replace g0 := bthen g0 hb_1
    replace hq := QvR.next hb_1 hq
    replace hd := SlI.next hb_1 hd
    replace hm := SlM.next hb_1 hm
    replace kB := kB.call hb_1
    replace c0 := kB.cell' (i := 0) rfl
    replace c1 := kB.cell' (i := 1) rfl
    replace c2 := kB.cell' (i := 2) rfl
    replace c3 := kB.cell' (i := 3) rfl
    replace c4 := kB.cell' (i := 4) rfl
    replace c5 := kB.cell' (i := 5) rfl
    rw [H2.out]
    go_wp2
    go_ret
    exact ⟨rfl, g0⟩
  obtain ⟨lf, lt⟩ := hq.lens
  rcases h3 : decide (x.m.length = x.q.f.length) with _ | _
  · have e3 : ((x.m.length : Int) != x.q.f.length) = true := by rw [bne_iff_ne]; have := of_decide_eq_false h3; omega
    have H2 := Lib.hid h2
    clear h2 h3
    go_enter Tryz.func70, Tryz.ntmps70
    go_wp2_with fail
    rw [← hW]; clear hW
    refine (implIsField_any _ _).mono ?_; rintro e w1 ⟨rfl, rfl⟩
    rw [h1]
    go_wp2_with fail
    refine (implAreDims_any _ _ _ _ _ hq hd).mono ?_; rintro e w_2 ⟨rfl, hb_2⟩
    replace g0 := bthen g0 hb_2
    replace hq := QvR.next hb_2 hq
    replace hd := SlI.next hb_2 hd
    replace hm := SlM.next hb_2 hm
    replace kB := kB.call hb_2
    replace c0 := kB.cell' (i := 0) rfl
    replace c1 := kB.cell' (i := 1) rfl
    replace c2 := kB.cell' (i := 2) rfl
    replace c3 := kB.cell' (i := 3) rfl
    replace c4 := kB.cell' (i := 4) rfl
    replace c5 := kB.cell' (i := 5) rfl
    rw [H2.out]
    go_wp2
    go_ret
    exact ⟨rfl, g0⟩
  have e3 : ((x.m.length : Int) != x.q.f.length) = false := by rw [bne_eq_false_iff_eq]; have := of_decide_eq_true h3; omega
  have H3 := Lib.hid (of_decide_eq_true h3)
  have H2 := Lib.hid h2
  clear h2 h3
  go_enter Tryz.func70, Tryz.ntmps70
  go_wp2_with fail
  rw [← hW]; clear hW
  refine (implIsField_any _ _).mono ?_; rintro e w1 ⟨rfl, rfl⟩
  rw [h1]
  go_wp2_with fail
  refine (implAreDims_any _ _ _ _ _ hq hd).mono ?_; rintro e W1 ⟨rfl, hb0⟩
  replace g0 := bthen g0 hb0
  replace hq := QvR.next hb0 hq
  replace hd := SlI.next hb0 hd
  replace hm := SlM.next hb0 hm
  replace kB := kB.call hb0
  replace c0 := kB.cell' (i := 0) rfl
  replace c1 := kB.cell' (i := 1) rfl
  replace c2 := kB.cell' (i := 2) rfl
  replace c3 := kB.cell' (i := 3) rfl
  replace c4 := kB.cell' (i := 4) rfl
  replace c5 := kB.cell' (i := 5) rfl
  clear hb0
  rw [H2.out]
  obtain ⟨hf, ht⟩ := hq.sl
  clear hq
  go_wp2
  go_loopw [30] (fun i wr => ∃ k : Nat, k ≤ x.m.length ∧ i = .int .i64 k ∧ Below W1.heap.size W1 wr ∧ Hid (okMs x k = true)) (fun i _ => x.m.length - (intOf i).toNat)
  case atStart => exact ⟨0, Nat.zero_le _, rfl, Below.refl _ _, rfl⟩
  case round =>
    obtain ⟨k, hk, rfl, hbel, hok⟩ := hrel
    clear c0 c1 c2 c3 c4 c5
    have z5 := (kB.call hbel).cell' (i := 5) rfl
    by_cases hlt : k < x.m.length
    · have hkf : k < x.q.f.length := by have := H3.out; omega
      obtain ⟨nf, nt, yf, yt, ef, et, df, dt, lnf, lnt, lnf5, lnt5, hkt⟩ := rep_at H2.out hkf
      obtain ⟨b, o, m, A', c', rfl, hb, HX, x1, x2, x3, hsl, i1, i2, lml⟩ := SlM.at_ hm hlt
      obtain ⟨bf, of_, xf, rfl, hbf, HXF, f1, _⟩ := SlI.at_ hf hkf
      obtain ⟨bt, ot, xt, rfl, hbt, HXT, t1, _⟩ := SlI.at_ ht hkt
      obtain ⟨bd, od, xdf, rfl, hbd, HXDF, d1, ddf⟩ := SlI.at_ hd lnf
      obtain ⟨bd', od', xdt, ebd, hbd', HXDT, d2, ddt⟩ := SlI.at_ hd lnt
      injection ebd with ebd
      injection ebd with ebd1 ebd2
      subst ebd1 ebd2
      have q1 := HXF.out
      rw [ef] at q1
      injection q1 with q1
      subst q1
      have q2 := HXT.out
      rw [et] at q2
      injection q2 with q2
      subst q2
      have hsucc := okMs_succ HX.out ef et
      rw [hok.out, Bool.true_and, okM, dAt_of HXDF.out, dAt_of HXDT.out] at hsucc
      have HSU := Lib.hid hsucc
      clear hsucc HXDF HXDT HXF HXT ef et df dt hf ht hd hm
      obtain ⟨Wx, hWx⟩ : ∃ W, W = wr.alloc (.cells #[.int .i64 m.r, .int .i64 m.c, .slice A' m.a.length c'] 50) := ⟨_, rfl⟩
      have gx : Below W1.heap.size W1 Wx := by rw [hWx]; exact hbel.trans ((below_alloc _ _).mono hbel.size)
      have kM : Blk Wx wr.heap.size 50 #[.int .i64 m.r, .int .i64 m.c, .slice A' m.a.length c'] := by rw [hWx]; exact Blk.new _ _ _
      have m0 := fun s : InB Wx => (kM.call s.below).cell' (i := 0) rfl
      have m1 := fun s : InB Wx => (kM.call s.below).cell' (i := 1) rfl
      have m2 := fun s : InB Wx => (kM.call s.below).cell' (i := 2) rfl
      have hx1 := bcell hbel hb x1
      have hx2 := bcell hbel hb x2
      have hx3 := bcell hbel hb x3
      clear kM
      have gx1 := gx.size
      have hF := InB.cell (w := Wx) (by omega) (bcell gx hbf f1)
      have hT := InB.cell (w := Wx) (by omega) (bcell gx hbt t1)
      have hD1 := InB.cell (w := Wx) (by omega) (bcell gx hbd d1)
      have hD2 := InB.cell (w := Wx) (by omega) (bcell gx hbd d2)
      have kBx := kB.call gx
      have r0 := fun s : InB Wx => (kBx.call s.below).cell' (i := 0) rfl
      have r2 := fun s : InB Wx => (kBx.call s.below).cell' (i := 2) rfl
      have r3 := fun s : InB Wx => (kBx.call s.below).cell' (i := 3) rfl
      have r4 := fun s : InB Wx => (kBx.call s.below).cell' (i := 4) rfl
      have r5 := fun s : InB Wx => (kBx.call s.below).cell' (i := 5) rfl
      have HM : Hid (∀ s : InB Wx, MxR s.val s.val.heap.size (.agg #[.int .i64 m.r, .int .i64 m.c, .slice A' m.a.length c']) m) := fun s => ⟨_, rfl, SlI.next s.below (SlI.next gx hsl), i1, i2⟩
      have g1 := bthen g0 gx
      have HGX := Lib.hid gx
      have HG1 := Lib.hid g1
      clear x1 x2 x3 f1 t1 d1 d2 hsl i1 i2 kB kBx gx g1 g0
      have a1 : (0 : Int) ≤ (k : Int) := by omega
      have a2 : (k : Int) < x.q.f.length := by omega
      have a3 : (k : Int) < x.q.t.length := by omega
      have a4 : (0 : Int) ≤ (nf : Int) := by omega
      have a5 : (nf : Int) < x.d.length := by omega
      have a6 : (0 : Int) ≤ (nt : Int) := by omega
      have a7 : (nt : Int) < x.d.length := by omega
      have a8 : (k : Int) < x.m.length := by omega
      rcases h4 : isMat x.p m with _ | _
      · have HF := Lib.hid (okMs_mono (x := x) (k := k + 1) (n := x.m.length) (by rw [HSU.out, h4]; rfl) (by omega))
        go_wp2
        rw [← hWx]; clear hWx
        (refine wp_region_inB (by kernel_rfl) (by kernel_rfl) ?_; (repeat (go_big_quiet_step ((go_at_call 102; exact InB.call (implIsMatrix_any _ _ m _ (HM.out _)))))); refine wpQuiet_nil ?_; intro w1 hw'; obtain ⟨s1, hw1⟩ := hw'; have hb1 := s1.below; rw [← hw1] at hb1; clear hw1 s1)
        go_wp2
        go_ret
        exact ⟨by rw [HF.out]; rfl, bthen HG1.out hb1⟩
      rcases h5 : decide (m.c = xdf) with _ | _
      · have HF := Lib.hid (okMs_mono (x := x) (k := k + 1) (n := x.m.length) (by rw [HSU.out, h5]; simp) (by omega))
        have e5 : (m.c != xdf) = true := by rw [bne_iff_ne]; exact of_decide_eq_false h5
        clear h5
        go_wp2
        rw [← hWx]; clear hWx
        (refine wp_region_inB (by kernel_rfl) (by kernel_rfl) ?_; (repeat (go_big_quiet_step ((go_at_call 102; exact InB.call (implIsMatrix_any _ _ m _ (HM.out _)))))); refine wpQuiet_nil ?_; intro w1 hw'; obtain ⟨s1, hw1⟩ := hw'; have hb1 := s1.below; rw [← hw1] at hb1; clear hw1 s1)
        go_wp2
        go_ret
        exact ⟨by rw [HF.out]; rfl, bthen HG1.out hb1⟩
      have e5 : (m.c != xdf) = false := by rw [bne_eq_false_iff_eq]; exact of_decide_eq_true h5
      rcases h6 : decide (m.r = xdt) with _ | _
      · have HF := Lib.hid (okMs_mono (x := x) (k := k + 1) (n := x.m.length) (by rw [HSU.out, h6]; simp) (by omega))
        have e6 : (m.r != xdt) = true := by rw [bne_iff_ne]; exact of_decide_eq_false h6
        clear h5 h6
        go_wp2
        rw [← hWx]; clear hWx
        (refine wp_region_inB (by kernel_rfl) (by kernel_rfl) ?_; (repeat (go_big_quiet_step ((go_at_call 102; exact InB.call (implIsMatrix_any _ _ m _ (HM.out _)))))); refine wpQuiet_nil ?_; intro w1 hw'; obtain ⟨s1, hw1⟩ := hw'; have hb1 := s1.below; rw [← hw1] at hb1; clear hw1 s1)
        go_wp2
        go_ret
        exact ⟨by rw [HF.out]; rfl, bthen HG1.out hb1⟩
      have e6 : (m.r != xdt) = false := by rw [bne_eq_false_iff_eq]; exact of_decide_eq_true h6
      have HF := Lib.hid (show okMs x (k + 1) = true by rw [HSU.out, h4, h5, h6]; rfl)
      clear h5 h6
      go_wp2
      rw [← hWx]; clear hWx
      (refine wp_region_inB (by kernel_rfl) (by kernel_rfl) ?_; (repeat (go_big_quiet_step ((go_at_call 102; exact InB.call (implIsMatrix_any _ _ m _ (HM.out _)))))); refine wpQuiet_nil ?_; intro w1 hw'; obtain ⟨s1, hw1⟩ := hw'; have hb1 := s1.below; rw [← hw1] at hb1; clear hw1 s1)
      go_wp2
      go_roundw
      case rel => exact ⟨k + 1, by omega, by go_num, bthen HGX.out hb1, HF.out⟩
      case measure => simp [intOf]; omega
    · have HF := Lib.hid (show okMs x x.m.length = true by have := hok.out; rwa [show k = x.m.length by omega] at this)
      have g1 := bthen g0 hbel
      go_wp2
      go_ret
      exact ⟨by rw [HF.out]; rfl, g1⟩
set_option maxHeartbeats 3200000 in
set_option maxRecDepth 100000 in
theorem specIsRep_any (u : Value) (x : Rp) (w : World) (hu : RpR w w.heap.size u x) :
    Calls Tryz.prog 56 #[u] w fun e w' => e = .returned (.bool (isRep x)) ∧ Below w.heap.size w w' := by
  obtain ⟨A, a, C, c, E, e, H, h, rfl, hq, hd, hm, hp, ld, lm⟩ := hu.open_
  clear hu
  obtain ⟨W, hW⟩ : ∃ W, W = w.alloc (.cells #[.int .i64 x.p, .int .i64 x.q.v, .slice A x.q.f.length a, .slice C x.q.t.length c, .slice E x.d.length e, .slice H x.m.length h] 32) := ⟨_, rfl⟩
  have g0 : Below w.heap.size w W := by rw [hW]; exact below_alloc _ _
  have kB : Blk W w.heap.size 32 #[.int .i64 x.p, .int .i64 x.q.v, .slice A x.q.f.length a, .slice C x.q.t.length c, .slice E x.d.length e, .slice H x.m.length h] := by rw [hW]; exact Blk.new _ _ _
  have c0 := kB.cell' (i := 0) rfl
  have c1 := kB.cell' (i := 1) rfl
  have c2 := kB.cell' (i := 2) rfl
  have c3 := kB.cell' (i := 3) rfl
  have c4 := kB.cell' (i := 4) rfl
  have c5 := kB.cell' (i := 5) rfl
  replace hq := QvR.next g0 hq
  replace hd := SlI.next g0 hd
  replace hm := SlM.next g0 hm
  unfold isRep
  rcases h1 : isFld x.p with _ | _
  · go_enter Tryz.func56, Tryz.ntmps56
    go_wp2_with fail
    rw [← hW]; clear hW
    refine (specIsField_any _ _).mono ?_; rintro e w1 ⟨rfl, rfl⟩
    rw [h1]
    go_wp2
    go_ret
    exact ⟨rfl, g0⟩
  rcases h2 : areDims x.q x.d with _ | _
  · have H2 := Lib.hid h2
    clear h2
    go_enter Tryz.func56, Tryz.ntmps56
    go_wp2_with fail
    rw [← hW]; clear hW
    refine (specIsField_any _ _).mono ?_; rintro e w1 ⟨rfl, rfl⟩
    rw [h1]
    go_wp2_with fail
    refine (specAreDims_any _ _ _ _ _ hq hd).mono ?_; rintro e w_3 ⟨rfl, hb_3⟩
    replace g0 := bthen g0 hb_3
    replace hq := QvR.next hb_3 hq
    replace hd := SlI.next hb_3 hd
    replace hm := SlM.next hb_3 hm
    replace kB := kB.call hb_3
    replace c0 := kB.cell' (i := 0) rfl
    replace c1 := kB.cell' (i := 1) rfl
    replace c2 := kB.cell' (i := 2) rfl
    replace c3 := kB.cell' (i := 3) rfl
    replace c4 := kB.cell' (i := 4) rfl
    replace c5 := kB.cell' (i := 5) rfl
    rw [H2.out]
    go_wp2
    go_ret
    exact ⟨rfl, g0⟩
  obtain ⟨lf, lt⟩ := hq.lens
  rcases h3 : decide (x.m.length = x.q.f.length) with _ | _
  · have e3 : ((x.m.length : Int) != x.q.f.length) = true := by rw [bne_iff_ne]; have := of_decide_eq_false h3; omega
    have H2 := Lib.hid h2
    clear h2 h3
    go_enter Tryz.func56, Tryz.ntmps56
    go_wp2_with fail
    rw [← hW]; clear hW
    refine (specIsField_any _ _).mono ?_; rintro e w1 ⟨rfl, rfl⟩
    rw [h1]
    go_wp2_with fail
    refine (specAreDims_any _ _ _ _ _ hq hd).mono ?_; rintro e w_4 ⟨rfl, hb_4⟩
    replace g0 := bthen g0 hb_4
    replace hq := QvR.next hb_4 hq
    replace hd := SlI.next hb_4 hd
    replace hm := SlM.next hb_4 hm
    replace kB := kB.call hb_4
    replace c0 := kB.cell' (i := 0) rfl
    replace c1 := kB.cell' (i := 1) rfl
    replace c2 := kB.cell' (i := 2) rfl
    replace c3 := kB.cell' (i := 3) rfl
    replace c4 := kB.cell' (i := 4) rfl
    replace c5 := kB.cell' (i := 5) rfl
    rw [H2.out]
    go_wp2
    go_ret
    exact ⟨rfl, g0⟩
  have e3 : ((x.m.length : Int) != x.q.f.length) = false := by rw [bne_eq_false_iff_eq]; have := of_decide_eq_true h3; omega
  have H3 := Lib.hid (of_decide_eq_true h3)
  have H2 := Lib.hid h2
  clear h2 h3
  go_enter Tryz.func56, Tryz.ntmps56
  go_wp2_with fail
  rw [← hW]; clear hW
  refine (specIsField_any _ _).mono ?_; rintro e w1 ⟨rfl, rfl⟩
  rw [h1]
  go_wp2_with fail
  refine (specAreDims_any _ _ _ _ _ hq hd).mono ?_; rintro e W1 ⟨rfl, hb0⟩
  replace g0 := bthen g0 hb0
  replace hq := QvR.next hb0 hq
  replace hd := SlI.next hb0 hd
  replace hm := SlM.next hb0 hm
  replace kB := kB.call hb0
  replace c0 := kB.cell' (i := 0) rfl
  replace c1 := kB.cell' (i := 1) rfl
  replace c2 := kB.cell' (i := 2) rfl
  replace c3 := kB.cell' (i := 3) rfl
  replace c4 := kB.cell' (i := 4) rfl
  replace c5 := kB.cell' (i := 5) rfl
  clear hb0
  rw [H2.out]
  obtain ⟨hf, ht⟩ := hq.sl
  clear hq
  go_wp2
  go_loopw [3] (fun i wr => ∃ k : Nat, k ≤ x.m.length ∧ i = .int .i64 k ∧ Below W1.heap.size W1 wr ∧ Hid (okMs x k = true)) (fun i _ => x.m.length - (intOf i).toNat)
  case atStart => exact ⟨0, Nat.zero_le _, rfl, Below.refl _ _, rfl⟩
  case round =>
    obtain ⟨k, hk, rfl, hbel, hok⟩ := hrel
    clear c0 c1 c2 c3 c4 c5
    have z5 := (kB.call hbel).cell' (i := 5) rfl
    by_cases hlt : k < x.m.length
    · have hkf : k < x.q.f.length := by have := H3.out; omega
      obtain ⟨nf, nt, yf, yt, ef, et, df, dt, lnf, lnt, lnf5, lnt5, hkt⟩ := rep_at H2.out hkf
      obtain ⟨b, o, m, A', c', rfl, hb, HX, x1, x2, x3, hsl, i1, i2, lml⟩ := SlM.at_ hm hlt
      obtain ⟨bf, of_, xf, rfl, hbf, HXF, f1, _⟩ := SlI.at_ hf hkf
      obtain ⟨bt, ot, xt, rfl, hbt, HXT, t1, _⟩ := SlI.at_ ht hkt
      obtain ⟨bd, od, xdf, rfl, hbd, HXDF, d1, ddf⟩ := SlI.at_ hd lnf
      obtain ⟨bd', od', xdt, ebd, hbd', HXDT, d2, ddt⟩ := SlI.at_ hd lnt
      injection ebd with ebd
      injection ebd with ebd1 ebd2
      subst ebd1 ebd2
      have q1 := HXF.out
      rw [ef] at q1
      injection q1 with q1
      subst q1
      have q2 := HXT.out
      rw [et] at q2
      injection q2 with q2
      subst q2
      have hsucc := okMs_succ HX.out ef et
      rw [hok.out, Bool.true_and, okM, dAt_of HXDF.out, dAt_of HXDT.out] at hsucc
      have HSU := Lib.hid hsucc
      clear hsucc HXDF HXDT HXF HXT ef et df dt hf ht hd hm
      have gx := hbel
      have hm0 := InB.cell (w := wr) (by have := hbel.size; omega) (bcell hbel hb x1)
      have hm1 := InB.cell (w := wr) (by have := hbel.size; omega) (bcell hbel hb x2)
      have hm2 := InB.cell (w := wr) (by have := hbel.size; omega) (bcell hbel hb x3)
      have gx1 := gx.size
      have hF := InB.cell (w := wr) (by omega) (bcell gx hbf f1)
      have hT := InB.cell (w := wr) (by omega) (bcell gx hbt t1)
      have hD1 := InB.cell (w := wr) (by omega) (bcell gx hbd d1)
      have hD2 := InB.cell (w := wr) (by omega) (bcell gx hbd d2)
      have kBx := kB.call gx
      have r0 := fun s : InB wr => (kBx.call s.below).cell' (i := 0) rfl
      have r2 := fun s : InB wr => (kBx.call s.below).cell' (i := 2) rfl
      have r3 := fun s : InB wr => (kBx.call s.below).cell' (i := 3) rfl
      have r4 := fun s : InB wr => (kBx.call s.below).cell' (i := 4) rfl
      have r5 := fun s : InB wr => (kBx.call s.below).cell' (i := 5) rfl
      have HM : Hid (∀ s : InB wr, MxR s.val s.val.heap.size (.agg #[.int .i64 m.r, .int .i64 m.c, .slice A' m.a.length c']) m) := fun s => ⟨_, rfl, SlI.next s.below (SlI.next gx hsl), i1, i2⟩
      have g1 := bthen g0 gx
      have HGX := Lib.hid gx
      have HG1 := Lib.hid g1
      clear x1 x2 x3 f1 t1 d1 d2 hsl i1 i2 kB kBx gx g1 g0
      have a1 : (0 : Int) ≤ (k : Int) := by omega
      have a2 : (k : Int) < x.q.f.length := by omega
      have a3 : (k : Int) < x.q.t.length := by omega
      have a4 : (0 : Int) ≤ (nf : Int) := by omega
      have a5 : (nf : Int) < x.d.length := by omega
      have a6 : (0 : Int) ≤ (nt : Int) := by omega
      have a7 : (nt : Int) < x.d.length := by omega
      have a8 : (k : Int) < x.m.length := by omega
      rcases h4 : isMat x.p m with _ | _
      · have HF := Lib.hid (okMs_mono (x := x) (k := k + 1) (n := x.m.length) (by rw [HSU.out, h4]; rfl) (by omega))
        go_wp2
        (refine wp_region_inB (by kernel_rfl) (by kernel_rfl) ?_; (repeat (go_big_quiet_step ((go_at_call 100; exact InB.call (specIsMatrix_any _ _ m _ (HM.out _)))))); refine wpQuiet_nil ?_; intro w1 hw'; obtain ⟨s1, hw1⟩ := hw'; have hb1 := s1.below; rw [← hw1] at hb1; clear hw1 s1)
        go_wp2
        go_ret
        exact ⟨by rw [HF.out]; rfl, bthen HG1.out hb1⟩
      rcases h5 : decide (m.c = xdf) with _ | _
      · have HF := Lib.hid (okMs_mono (x := x) (k := k + 1) (n := x.m.length) (by rw [HSU.out, h5]; simp) (by omega))
        have e5 : (m.c != xdf) = true := by rw [bne_iff_ne]; exact of_decide_eq_false h5
        clear h5
        go_wp2
        (refine wp_region_inB (by kernel_rfl) (by kernel_rfl) ?_; (repeat (go_big_quiet_step ((go_at_call 100; exact InB.call (specIsMatrix_any _ _ m _ (HM.out _)))))); refine wpQuiet_nil ?_; intro w1 hw'; obtain ⟨s1, hw1⟩ := hw'; have hb1 := s1.below; rw [← hw1] at hb1; clear hw1 s1)
        go_wp2
        go_ret
        exact ⟨by rw [HF.out]; rfl, bthen HG1.out hb1⟩
      have e5 : (m.c != xdf) = false := by rw [bne_eq_false_iff_eq]; exact of_decide_eq_true h5
      rcases h6 : decide (m.r = xdt) with _ | _
      · have HF := Lib.hid (okMs_mono (x := x) (k := k + 1) (n := x.m.length) (by rw [HSU.out, h6]; simp) (by omega))
        have e6 : (m.r != xdt) = true := by rw [bne_iff_ne]; exact of_decide_eq_false h6
        clear h5 h6
        go_wp2
        (refine wp_region_inB (by kernel_rfl) (by kernel_rfl) ?_; (repeat (go_big_quiet_step ((go_at_call 100; exact InB.call (specIsMatrix_any _ _ m _ (HM.out _)))))); refine wpQuiet_nil ?_; intro w1 hw'; obtain ⟨s1, hw1⟩ := hw'; have hb1 := s1.below; rw [← hw1] at hb1; clear hw1 s1)
        go_wp2
        go_ret
        exact ⟨by rw [HF.out]; rfl, bthen HG1.out hb1⟩
      have e6 : (m.r != xdt) = false := by rw [bne_eq_false_iff_eq]; exact of_decide_eq_true h6
      have HF := Lib.hid (show okMs x (k + 1) = true by rw [HSU.out, h4, h5, h6]; rfl)
      clear h5 h6
      go_wp2
      (refine wp_region_inB (by kernel_rfl) (by kernel_rfl) ?_; (repeat (go_big_quiet_step ((go_at_call 100; exact InB.call (specIsMatrix_any _ _ m _ (HM.out _)))))); refine wpQuiet_nil ?_; intro w1 hw'; obtain ⟨s1, hw1⟩ := hw'; have hb1 := s1.below; rw [← hw1] at hb1; clear hw1 s1)
      go_wp2
      go_roundw
      case rel => exact ⟨k + 1, by omega, by go_num, bthen HGX.out hb1, HF.out⟩
      case measure => simp [intOf]; omega
    · have HF := Lib.hid (show okMs x x.m.length = true by have := hok.out; rwa [show k = x.m.length by omega] at this)
      have g1 := bthen g0 hbel
      go_wp2
      go_ret
      exact ⟨by rw [HF.out]; rfl, g1⟩
end Go.Proofs.YtaefpblpfjhgoaaGreat

/- Valid representations are small. -/
namespace Go.Proofs.YtaefpblpfjhgoaaGreat
set_option linter.unusedVariables false
set_option linter.unusedSimpArgs false
open Go.RowKit

theorem isRep_t {x : Rp} : isRep x = true ↔ isFld x.p = true ∧ areDims x.q x.d = true ∧ x.m.length = x.q.f.length ∧ okMs x x.m.length = true := by
  simp only [isRep, Bool.and_eq_true, decide_eq_true_eq, and_assoc]
theorem totA_le {ms : List Mx} {n : Nat} (h : ∀ m ∈ ms, m.a.length ≤ n) : totA ms ≤ ms.length * n := by
  induction ms with
  | nil => simp [totA, tot]
  | cons m ms ih =>
    have h1 := h m (by simp)
    have h2 := ih (fun x hx => h x (by simp [hx]))
    simp only [totA, tot, List.map_cons, List.sum_cons, List.length_cons] at h2 ⊢
    rw [Nat.add_mul]
    omega
end Go.Proofs.YtaefpblpfjhgoaaGreat

/- IsZigzag, IsLine, IntervalOf: the reference's and the program's. -/
namespace Go.Proofs.YtaefpblpfjhgoaaGreat
set_option linter.unusedVariables false
set_option linter.unusedSimpArgs false
open Go.RowKit

/-- the arrow k of a zigzag -/
def zzAt (k : Nat) (x y : Int) : Bool := decide ((x = k ∧ y = k + 1) ∨ (x = k + 1 ∧ y = k))
def zzTo (q : Qv) (k : Nat) : Prop := ∀ (j : Nat) (x y : Int), j < k → q.f[j]? = some x → q.t[j]? = some y → zzAt j x y = true
def isZ (q : Qv) : Bool := isQ q && decide ((q.f.length : Int) = q.v - 1) && (List.range q.f.length).all fun j => zzAt j (q.f.getD j 0) (q.t.getD j 0)
end Go.Proofs.YtaefpblpfjhgoaaGreat

/- IsLine, both. -/
namespace Go.Proofs.YtaefpblpfjhgoaaGreat
set_option linter.unusedVariables false
set_option linter.unusedSimpArgs false
open Go.RowKit

def lnAt (k : Nat) (x y : Int) : Bool := decide (x = k ∧ y = k + 1)
def lnTo (q : Qv) (k : Nat) : Prop := ∀ (j : Nat) (x y : Int), j < k → q.f[j]? = some x → q.t[j]? = some y → lnAt j x y = true
def isL (q : Qv) : Bool := isQ q && decide ((q.f.length : Int) = q.v - 1) && (List.range q.f.length).all fun j => lnAt j (q.f.getD j 0) (q.t.getD j 0)
/-- all arrows so far begin where they should -/
def fromTo (q : Qv) (k : Nat) : Prop := ∀ (j : Nat) (x : Int), j < k → q.f[j]? = some x → x = j
end Go.Proofs.YtaefpblpfjhgoaaGreat

/- Equal quivers, the quiver of pencils, the two IsPencil. -/
namespace Go.Proofs.YtaefpblpfjhgoaaGreat
set_option linter.unusedVariables false
set_option linter.unusedSimpArgs false
open Go.RowKit

/-- the quiver of pencils -/
def pQ : Qv := ⟨2, [0, 0], [1, 1]⟩
def isPen (x : Rp) : Bool := isRep x && decide (x.q = pQ)
end Go.Proofs.YtaefpblpfjhgoaaGreat

/- make of rows of ints and of rows of rows, in any world. -/
namespace Go.Proofs.YtaefpblpfjhgoaaGreat
set_option linter.unusedVariables false
set_option linter.unusedSimpArgs false
open Go.RowKit

end Go.Proofs.YtaefpblpfjhgoaaGreat

/- The reference's l9Fit at two valid representations of one quiver over one field. -/
namespace Go.Proofs.YtaefpblpfjhgoaaGreat
set_option linter.unusedVariables false
set_option linter.unusedSimpArgs false
open Go.RowKit

end Go.Proofs.YtaefpblpfjhgoaaGreat

/- Lists of bars: the law's copies and comparisons, the two EqualBars. -/
namespace Go.Proofs.YtaefpblpfjhgoaaGreat
set_option linter.unusedVariables false
set_option linter.unusedSimpArgs false
open Go.RowKit

/-- The first k elements of a row of bars are laid. -/
def BarCs (cs : Array Value) (xs : List Bar) (k : Nat) : Prop :=
  cs.size = xs.length * 3 ∧ ∀ j x, j < k → xs[j]? = some x → cs[j * 3]? = some (.int .i64 x.1) ∧ cs[j * 3 + 1]? = some (.int .i64 x.2.1) ∧ cs[j * 3 + 2]? = some (.int .i64 x.2.2)

theorem BarCs.step {cs : Array Value} {xs : List Bar} {k : Nat} {x y z : Int} (h : BarCs cs xs k) (hx : xs[k]? = some (x, y, z)) :
    BarCs (((cs.setIfInBounds (k * 3) (.int .i64 x)).setIfInBounds (k * 3 + 1) (.int .i64 y)).setIfInBounds (k * 3 + 2) (.int .i64 z)) xs (k + 1) := by
  obtain ⟨hs, h⟩ := h
  have hk := lt_of_some hx
  refine ⟨by simpa using hs, fun j u hj hu => ?_⟩
  by_cases e : j = k
  · subst e
    rw [hx] at hu
    injection hu with hu
    subst hu
    refine ⟨?_, ?_, ?_⟩ <;> simp [Array.getElem?_setIfInBounds] <;> omega
  · obtain ⟨a, b, c⟩ := h j u (by omega) hu
    refine ⟨?_, ?_, ?_⟩ <;> simp only [Array.getElem?_setIfInBounds] <;> (repeat rw [if_neg (by omega)]) <;> assumption
end Go.Proofs.YtaefpblpfjhgoaaGreat

/- Lists of bars of the call's own. -/
namespace Go.Proofs.YtaefpblpfjhgoaaGreat
set_option linter.unusedVariables false
set_option linter.unusedSimpArgs false
open Go.RowKit

def barCs : List Bar → List Value
  | x :: xs => .int .i64 x.1 :: .int .i64 x.2.1 :: .int .i64 x.2.2 :: barCs xs
  | [] => []
theorem barCs_length : ∀ xs : List Bar, (barCs xs).length = xs.length * 3
  | [] => rfl
  | x :: xs => by simp only [barCs, List.length_cons, barCs_length xs]; omega
theorem barCs_get : ∀ {xs : List Bar} {j : Nat} {x : Bar}, xs[j]? = some x → (barCs xs)[j * 3]? = some (.int .i64 x.1) ∧ (barCs xs)[j * 3 + 1]? = some (.int .i64 x.2.1) ∧ (barCs xs)[j * 3 + 2]? = some (.int .i64 x.2.2)
  | [], _, _, h => by simp at h
  | x :: xs, 0, _, h => by
    simp at h
    subst h
    simp [barCs]
  | x :: xs, j + 1, y, h => by
    simp only [List.getElem?_cons_succ] at h
    obtain ⟨a, b, c⟩ := barCs_get h
    simp only [barCs, show (j + 1) * 3 = j * 3 + 1 + 1 + 1 by omega, show j * 3 + 1 + 1 + 1 + 1 = (j * 3 + 1) + 1 + 1 + 1 by omega, show j * 3 + 1 + 1 + 1 + 2 = (j * 3 + 2) + 1 + 1 + 1 by omega, List.getElem?_cons_succ]
    exact ⟨a, b, c⟩
def IBar (x : Bar) : Prop := I64 x.1 ∧ I64 x.2.1 ∧ I64 x.2.2
theorem SlB.ib {w : World} {B : Nat} {v : Value} {xs : List Bar} (h : SlB w B v xs) : ∀ x ∈ xs, IBar x := by
  obtain ⟨A, c, _, _, _, _, h4⟩ := h
  intro x hx
  obtain ⟨j, hj⟩ := List.getElem?_of_mem hx
  obtain ⟨_, _, _, _, hr⟩ := h4 (by have := lt_of_some hj; omega)
  exact (hr j x hj).2
theorem SlB.chg {w w' : World} {B lo hi : Nat} {v : Value} {xs : List Bar} (h : SlB w B v xs) (hc : Chg lo hi w w') (hB : B ≤ lo) (hs : B ≤ w.heap.size) : SlB w' B v xs := SlB.below (hc.below hB hs) h

theorem BarCs.list {cs : Array Value} {xs : List Bar} (h : BarCs cs xs xs.length) : cs.toList = barCs xs := by
  have hl := barCs_length xs
  apply List.ext_getElem?
  intro i
  by_cases hi : i < xs.length * 3
  · obtain ⟨j, r, hr, rfl⟩ : ∃ j r, r < 3 ∧ i = j * 3 + r := ⟨i / 3, i % 3, Nat.mod_lt _ (by omega), by omega⟩
    have hj : j < xs.length := by omega
    obtain ⟨a, b, c⟩ := h.2 j _ hj (List.getElem?_eq_getElem hj)
    obtain ⟨a', b', c'⟩ := barCs_get (List.getElem?_eq_getElem hj)
    rw [Array.getElem?_toList]
    match r, hr with
    | 0, _ => rw [Nat.add_zero, a, a']
    | 1, _ => rw [b, b']
    | 2, _ => rw [c, c']
  · rw [List.getElem?_eq_none (by have := h.1; simp; omega), List.getElem?_eq_none (by omega)]

end Go.Proofs.YtaefpblpfjhgoaaGreat

/- cmp.Compare, cmp.Or, compareBars. -/
namespace Go.Proofs.YtaefpblpfjhgoaaGreat
set_option linter.unusedVariables false
set_option linter.unusedSimpArgs false
open Go.RowKit

def cmpI (a b : Int) : Int := if a < b then -1 else if b < a then 1 else 0
def cmpB (x y : Bar) : Int := if cmpI x.1 y.1 = 0 then cmpI x.2.1 y.2.1 else cmpI x.1 y.1
/-- the first number that is not 0 -/
def orI : List Int → Int
  | [] => 0
  | x :: xs => if x = 0 then orI xs else x
end Go.Proofs.YtaefpblpfjhgoaaGreat

/- AreBars: the program's and the reference's. -/
namespace Go.Proofs.YtaefpblpfjhgoaaGreat
set_option linter.unusedVariables false
set_option linter.unusedSimpArgs false
open Go.RowKit

def barAt (v : Int) (l : List Bar) (j : Nat) : Bool :=
  inR (l.getD j (0, 0, 0)).1 0 (v - 1) && (inR (l.getD j (0, 0, 0)).2.1 (l.getD j (0, 0, 0)).1 (v - 1) && (inR (l.getD j (0, 0, 0)).2.2 1 8 && (decide (j = 0) || decide (cmpB (l.getD (j - 1) (0, 0, 0)) (l.getD j (0, 0, 0)) < 0))))
def areB (q : Qv) (l : List Bar) : Bool := isL q && (List.range l.length).all (barAt q.v l)
def barsTo (v : Int) (l : List Bar) (k : Nat) : Prop := ∀ j, j < k → barAt v l j = true
end Go.Proofs.YtaefpblpfjhgoaaGreat

/- The two LineOf. -/
namespace Go.Proofs.YtaefpblpfjhgoaaGreat
set_option linter.unusedVariables false
set_option linter.unusedSimpArgs false
open Go.RowKit

def lineF (k : Nat) : List Int := (List.range k).map fun i : Nat => (i : Int)
def lineT (k : Nat) : List Int := (List.range k).map fun i : Nat => (i : Int) + 1
/-- The line of n vertices. -/
def lineQ (n : Int) : Qv := if inR n 1 5 then ⟨n, lineF (n - 1).toNat, lineT (n - 1).toNat⟩ else ⟨0, [], []⟩

end Go.Proofs.YtaefpblpfjhgoaaGreat

/- What every law goes through: copies and marks of representations. -/
namespace Go.Proofs.YtaefpblpfjhgoaaGreat
set_option linter.unusedVariables false
set_option linter.unusedSimpArgs false
open Go.RowKit

set_option maxHeartbeats 1600000 in
theorem rep_to (u : Value) (x : Rp) (w : World) (hu : RpR w w.heap.size u x) (hn : x.size ≤ 1048576) :
    Calls Tryz.prog 7 #[u] w fun e w' => ∃ v, e = .returned v ∧ RepO w' w.heap.size w'.heap.size v x ∧ Below w.heap.size w w' := by
  obtain ⟨A, a, C, c, E, e, H, h, rfl, hq, hd, hm, hp, _, _⟩ := hu.open_
  have hmI : Hid (∀ m ∈ x.m, I64 m.r ∧ I64 m.c) := fun m hmm => by
    obtain ⟨j, hj⟩ := List.getElem?_of_mem hmm
    obtain ⟨_, _, m', _, _, _, _, HX, _, _, _, _, h1, h2, _⟩ := SlM.at_ hm (lt_of_some hj)
    have := HX.out
    rw [hj] at this
    injection this with this
    subst this
    exact ⟨h1, h2⟩
  have hqv : I64 x.q.v := by obtain ⟨_, _, _, _, _, _, _, h, _⟩ := hq.open_; exact h
  clear hu
  simp only [Rp.size] at hn
  obtain ⟨Wa, hWa⟩ : ∃ W, W = (w.alloc (.cells #[.int .i64 x.p, .int .i64 x.q.v, .slice A x.q.f.length a, .slice C x.q.t.length c, .slice E x.d.length e, .slice H x.m.length h] 27)).alloc (.cells #[.int .i64 0, .int .i64 0, .slice none 0 0, .slice none 0 0, .slice none 0 0, .slice none 0 0] 32) := ⟨_, rfl⟩
  obtain ⟨Wb, hWb⟩ : ∃ W, W = Wa.alloc (.cells #[.int .i64 x.p, .int .i64 0, .slice none 0 0, .slice none 0 0, .slice none 0 0, .slice none 0 0] 32) := ⟨_, rfl⟩
  have za : Wa.heap.size = w.heap.size + 1 + 1 := by rw [hWa]; simp
  have zb : Wb.heap.size = w.heap.size + 1 + 1 + 1 := by rw [hWb]; simp [za]
  have kp : Blk Wb w.heap.size 27 #[.int .i64 x.p, .int .i64 x.q.v, .slice A x.q.f.length a, .slice C x.q.t.length c, .slice E x.d.length e, .slice H x.m.length h] := by rw [hWb, hWa]; exact ((Blk.new _ _ _).alloc _).alloc _
  have kr : Blk Wb (w.heap.size + 1) 32 #[.int .i64 0, .int .i64 0, .slice none 0 0, .slice none 0 0, .slice none 0 0, .slice none 0 0] := by
    rw [hWb, hWa]
    have := (Blk.new (w.alloc (.cells #[.int .i64 x.p, .int .i64 x.q.v, .slice A x.q.f.length a, .slice C x.q.t.length c, .slice E x.d.length e, .slice H x.m.length h] 27)) 32 #[.int .i64 0, .int .i64 0, .slice none 0 0, .slice none 0 0, .slice none 0 0, .slice none 0 0]).alloc (.cells #[.int .i64 x.p, .int .i64 0, .slice none 0 0, .slice none 0 0, .slice none 0 0, .slice none 0 0] 32)
    simpa only [World.size_alloc] using this
  have ko : Blk Wb (w.heap.size + 1 + 1) 32 #[.int .i64 x.p, .int .i64 0, .slice none 0 0, .slice none 0 0, .slice none 0 0, .slice none 0 0] := by
    rw [hWb, ← za]; exact Blk.new _ _ _
  have gb : Below w.heap.size w Wb := by rw [hWb, hWa]; exact (((Below.refl _ _).alloc (Nat.le_refl _) _).alloc (by simp) _).alloc (by simp; omega) _
  have ZB := Lib.hid zb
  clear za zb
  go_enter Tryz.func7, Tryz.ntmps7
  go_wp2_with fail
  rw [← hWa, ← hWb]
  clear hWa hWb
  refine (quiv_to _ _ _ (QvR.next gb hq) (by omega)).mono ?_; rintro e w1 ⟨v1, rfl, hQ, hb1⟩
  clear hq
  have s1 := hb1.size
  replace gb := bthen gb hb1
  replace kp := kp.call hb1
  replace pc0 := kp.cell' (i := 0) rfl
  replace pc1 := kp.cell' (i := 1) rfl
  replace pc2 := kp.cell' (i := 2) rfl
  replace pc3 := kp.cell' (i := 3) rfl
  replace pc4 := kp.cell' (i := 4) rfl
  replace pc5 := kp.cell' (i := 5) rfl
  replace kr := kr.call hb1
  replace r0 := kr.cell' (i := 0) rfl
  replace r1 := kr.cell' (i := 1) rfl
  replace r2 := kr.cell' (i := 2) rfl
  replace r3 := kr.cell' (i := 3) rfl
  replace r4 := kr.cell' (i := 4) rfl
  replace r5 := kr.cell' (i := 5) rfl
  replace ko := ko.call hb1
  replace o0 := ko.cell' (i := 0) rfl
  replace o1 := ko.cell' (i := 1) rfl
  replace o2 := ko.cell' (i := 2) rfl
  replace o3 := ko.cell' (i := 3) rfl
  replace o4 := ko.cell' (i := 4) rfl
  replace o5 := ko.cell' (i := 5) rfl
  clear hb1
  obtain ⟨qa, qb, rfl, hQF, _⟩ := hQ
  have fa : OwnI w1 _ qa x.q.f := (hQF.1 (qa, x.q.f) (by simp)).1
  have fb : OwnI w1 _ qb x.q.t := (hQF.1 (qb, x.q.t) (by simp)).1
  obtain ⟨A1, a1, rfl, _, _⟩ := fa.form
  obtain ⟨C1, c1, rfl, _, _⟩ := fb.form
  clear fa fb
  have fo := ko.frozen
  go_wp2_with fail
  clear pc0 pc1 pc2 pc3 pc4 pc5 r0 r1 r2 r3 r4 r5 o0 o1 o2 o3 o4 o5 fo
  obtain ⟨Wc, hWc⟩ : ∃ W, W = ((w1.setCell ⟨w.heap.size + 1 + 1, 1, none⟩ (.int .i64 x.q.v)).setCell ⟨w.heap.size + 1 + 1, 2, none⟩ (.slice A1 x.q.f.length a1)).setCell ⟨w.heap.size + 1 + 1, 3, none⟩ (.slice C1 x.q.t.length c1) := ⟨_, rfl⟩
  have zb := ZB.out
  have hC1 : Chg (w.heap.size + 1) (w.heap.size + 1 + 1 + 1) w1 Wc := by
    rw [hWc]
    exact ((chg_set (by simp) (by simp)).trans (chg_set (by simp) (by simp))).trans (chg_set (by simp) (by simp))
  have gc : Below w.heap.size w1 Wc := hC1.below (by omega) (by omega)
  have zc : Wc.heap.size = w1.heap.size := by rw [hWc]; simp
  have kp' : Blk Wc w.heap.size 27 #[.int .i64 x.p, .int .i64 x.q.v, .slice A x.q.f.length a, .slice C x.q.t.length c, .slice E x.d.length e, .slice H x.m.length h] := kp.chg hC1 (by omega)
  have kr' : Blk Wc (w.heap.size + 1) 32 #[.int .i64 0, .int .i64 0, .slice none 0 0, .slice none 0 0, .slice none 0 0, .slice none 0 0] := by rw [hWc]; exact ((kr.far (by simp) _).far (by simp) _).far (by simp) _
  have ko' : Blk Wc (w.heap.size + 1 + 1) 32 #[.int .i64 x.p, .int .i64 x.q.v, .slice A1 x.q.f.length a1, .slice C1 x.q.t.length c1, .slice none 0 0, .slice none 0 0] := by
    rw [hWc]; exact ((ko.set_ 1 _).set_ 2 _).set_ 3 _
  have hQF1 := hQF.chg hC1 (.inr (by omega))
  replace gb : Below w.heap.size w Wc := gb.trans gc
  rw [← hWc]
  clear hWc kp kr ko hQF hC1 gc
  have p4 := kp'.cell' (i := 4) rfl
  refine (ints_to _ _ _ (SlI.next gb hd) (by omega)).mono ?_; rintro e w2 ⟨v2, rfl, hD, hb2⟩
  obtain ⟨E1, e1, rfl, _, _⟩ := hD.1.form
  have s2 := hb2.size
  replace gb := bthen gb hb2
  replace kp' := kp'.call hb2
  replace kr' := kr'.call hb2
  replace ko' := ko'.call hb2
  replace hQF1 := hQF1.below hb2
  have p5 := kp'.cell' (i := 5) rfl
  have o4 := ko'.cell' (i := 4) rfl
  have fo := ko'.frozen
  clear hb2 hd p4
  go_wp2_with fail
  clear p5 o4 fo
  obtain ⟨Wd, hWd⟩ : ∃ W, W = w2.setCell ⟨w.heap.size + 1 + 1, 4, none⟩ (.slice E1 x.d.length e1) := ⟨_, rfl⟩
  have hC2 : Chg (w.heap.size + 1) (w.heap.size + 1 + 1 + 1) w2 Wd := by
    rw [hWd]
    exact chg_set (by simp) (by simp)
  have gd : Below w.heap.size w2 Wd := hC2.below (by omega) (by omega)
  have zd : Wd.heap.size = w2.heap.size := by rw [hWd]; simp
  replace kp' : Blk Wd w.heap.size 27 _ := kp'.chg hC2 (by omega)
  replace kr' : Blk Wd (w.heap.size + 1) 32 #[.int .i64 0, .int .i64 0, .slice none 0 0, .slice none 0 0, .slice none 0 0, .slice none 0 0] := by rw [hWd]; exact kr'.far (by simp) _
  replace ko' : Blk Wd (w.heap.size + 1 + 1) 32 #[.int .i64 x.p, .int .i64 x.q.v, .slice A1 x.q.f.length a1, .slice C1 x.q.t.length c1, .slice E1 x.d.length e1, .slice none 0 0] := by
    rw [hWd]; exact ko'.set_ 4 _
  replace hQF1 := hQF1.chg hC2 (.inr (by omega))
  replace hD := hD.chg hC2 (.inr (by omega))
  replace gb : Below w.heap.size w Wd := gb.trans gd
  rw [← hWd]
  clear hWd hC2 gd
  have p5 := kp'.cell' (i := 5) rfl
  refine (mats_to _ _ _ (SlM.next gb hm) (by simp only [szM] at hn; omega) (fun m hmm => by have := totA_mem hmm; simp only [szM] at hn; simp only [Mx.size]; omega)).mono ?_; rintro e w3 ⟨v3, rfl, hM, hb3⟩
  obtain ⟨vs, hO, hvl, hFM, _⟩ := hM
  obtain ⟨H1, h1, rfl, _, _⟩ := hO.form
  have HVL := Lib.hid hvl
  have s3 := hb3.size
  replace gb := bthen gb hb3
  replace kr' := kr'.call hb3
  replace ko' := ko'.call hb3
  replace hQF1 := hQF1.below hb3
  replace hD := hD.below hb3
  have o0 := ko'.cell' (i := 0) rfl
  have o1 := ko'.cell' (i := 1) rfl
  have o2 := ko'.cell' (i := 2) rfl
  have o3 := ko'.cell' (i := 3) rfl
  have o4 := ko'.cell' (i := 4) rfl
  have o5 := ko'.cell' (i := 5) rfl
  have r0 := kr'.cell' (i := 0) rfl
  have r1 := kr'.cell' (i := 1) rfl
  have r2 := kr'.cell' (i := 2) rfl
  have r3 := kr'.cell' (i := 3) rfl
  have r4 := kr'.cell' (i := 4) rfl
  have r5 := kr'.cell' (i := 5) rfl
  have fo := ko'.frozen
  have fr := kr'.frozen
  clear hb3 hm p5 kp' hvl
  have HZC := Lib.hid zc
  have HZD := Lib.hid zd
  clear zb zc zd
  go_wp2
  have zb := ZB.out
  have zc := HZC.out
  have zd := HZD.out
  have hF : Fam w3 Wb.heap.size w3.heap.size ([(.slice A1 x.q.f.length a1, x.q.f), (.slice C1 x.q.t.length c1, x.q.t)] ++ ([(.slice E1 x.d.length e1, x.d)] ++ vs.zip (x.m.map Mx.a))) :=
    Fam.join (mi := Wc.heap.size) (hQF1.mono (Nat.le_refl _) (by omega)) (Fam.join (mi := Wd.heap.size) ((Fam.one hD).mono (Nat.le_refl _) (by omega)) hFM (by omega) (by omega)) (by omega) (by omega)
  refine bodyPost_ret (v := .agg #[.int .i64 x.p, .int .i64 x.q.v, .slice A1 x.q.f.length a1, .slice C1 x.q.t.length c1, .slice E1 x.d.length e1, .slice H1 x.m.length h1]) (by simp [results, go_sem, r0, r1, r2, r3, r4, r5]) rfl ⟨_, rfl, ⟨_, _, _, _, vs, rfl, ?_, HVL.out, ?_, ⟨hp, hqv⟩, hmI.out⟩, ((((((gb.setCell (by simp; omega) _).setCell (by simp) _).setCell (by simp) _).setCell (by simp) _).setCell (by simp) _).setCell (by simp) _).setCell (by simp) _⟩
  · have hc : Chg (w.heap.size + 1) (w.heap.size + 1 + 1 + 1) w3 _ := ((((((chg_set (w := w3) (p := ⟨w.heap.size + 1 + 1, 5, none⟩) (u := .slice H1 x.m.length h1) (by simp) (by simp)).trans (chg_set (p := ⟨w.heap.size + 1, 0, none⟩) (u := .int .i64 x.p) (by simp) (by simp))).trans (chg_set (p := ⟨w.heap.size + 1, 1, none⟩) (u := .int .i64 x.q.v) (by simp) (by simp))).trans (chg_set (p := ⟨w.heap.size + 1, 2, none⟩) (u := .slice A1 x.q.f.length a1) (by simp) (by simp))).trans (chg_set (p := ⟨w.heap.size + 1, 3, none⟩) (u := .slice C1 x.q.t.length c1) (by simp) (by simp))).trans (chg_set (p := ⟨w.heap.size + 1, 4, none⟩) (u := .slice E1 x.d.length e1) (by simp) (by simp))).trans (chg_set (p := ⟨w.heap.size + 1, 5, none⟩) (u := .slice H1 x.m.length h1) (by simp) (by simp))
    exact RowO.mono (hO.chg hc (.inr (by omega))) (by omega) (by simp)
  · have hc : Chg (w.heap.size + 1) (w.heap.size + 1 + 1 + 1) w3 _ := ((((((chg_set (w := w3) (p := ⟨w.heap.size + 1 + 1, 5, none⟩) (u := .slice H1 x.m.length h1) (by simp) (by simp)).trans (chg_set (p := ⟨w.heap.size + 1, 0, none⟩) (u := .int .i64 x.p) (by simp) (by simp))).trans (chg_set (p := ⟨w.heap.size + 1, 1, none⟩) (u := .int .i64 x.q.v) (by simp) (by simp))).trans (chg_set (p := ⟨w.heap.size + 1, 2, none⟩) (u := .slice A1 x.q.f.length a1) (by simp) (by simp))).trans (chg_set (p := ⟨w.heap.size + 1, 3, none⟩) (u := .slice C1 x.q.t.length c1) (by simp) (by simp))).trans (chg_set (p := ⟨w.heap.size + 1, 4, none⟩) (u := .slice E1 x.d.length e1) (by simp) (by simp))).trans (chg_set (p := ⟨w.heap.size + 1, 5, none⟩) (u := .slice H1 x.m.length h1) (by simp) (by simp))
    exact Fam.mono (hF.chg hc (.inr (by omega))) (by omega) (by simp)

/-- rows of other elements are left alone -/
def KeepT (lo hi : Nat) (w w' : World) : Prop := ∀ (T : TypeId) (sz : Nat) (v : Value) (n : Nat) (cs : List Value), 3 ≠ T → RowO T sz w lo hi v n cs → RowO T sz w' lo hi v n cs
theorem KeepT.of_below {lo hi : Nat} {w w' : World} (hb : Below w.heap.size w w') : KeepT lo hi w w' := fun _ _ _ _ _ _ h => h.below hb
theorem KeepT.of_grown {lo hi base : Nat} {w w' : World} {u : Value} {l : List Int} (ho : OwnI w base u l) (hg : w.grownBy w' u.ownBlock) : KeepT lo hi w w' := fun _ _ _ _ _ ht h => h.grown ht ho hg
theorem KeepT.trans {lo hi : Nat} {a b c : World} (h : KeepT lo hi a b) (k : KeepT lo hi b c) : KeepT lo hi a c := fun T sz v n cs ht hr => k T sz v n cs ht (h T sz v n cs ht hr)

set_option maxHeartbeats 400000 in
theorem markQuiver_fam (a b : Value) (q : Qv) (L1 : List (Value × List Int)) (k : Int) (lo hi : Nat) (w : World) (hF : Fam w lo hi ([(a, q.f), (b, q.t)] ++ L1)) (hh : hi ≤ w.heap.size) (h0 : 0 ≤ k) (h1 : k ≤ 1125899906842624) :
    Calls Tryz.prog 19 #[.agg #[.int .i64 q.v, a, b], .int .i64 k] w fun e w' => e = .returned (.int .i64 (k + q.size)) ∧ Fam w' lo hi ([(a, mkI k q.f.length), (b, mkI (k + q.f.length) q.t.length)] ++ L1) ∧ Chg lo hi w w' ∧ KeepT lo hi w w' := by
  have fa : OwnI w lo a q.f := (hF.1 (a, q.f) (by simp)).1
  have fb : OwnI w lo b q.t := (hF.1 (b, q.t) (by simp)).1
  obtain ⟨A, c, rfl, _, _⟩ := fa.form
  obtain ⟨C, d, rfl, _, _⟩ := fb.form
  have la := fa.2.1
  have lb := fb.2.1
  have g0 := below_alloc w (.cells #[.int .i64 q.v, .slice A q.f.length c, .slice C q.t.length d] 29)
  have hF0 := hF.below g0
  go_enter Tryz.func19, Tryz.ntmps19
  go_wp2_with fail
  have fa0 : IntsO _ lo hi (.slice A q.f.length c) q.f := hF0.1 (_, q.f) (by simp)
  refine (markIntS_any _ _ _ lo _ fa0.1 h0 (by omega)).mono ?_; rintro e w1 ⟨rfl, ho1, hg1⟩
  have hF1 := Fam.turn (L1 := []) hF0 ho1 hg1
  have hc1 := chg_of_grown fa0 hg1
  have hk1 := KeepT.of_grown (lo := lo) (hi := hi) fa0.1 hg1
  have cB := ((Blk.new w 29 #[.int .i64 q.v, .slice A q.f.length c, .slice C q.t.length d]).chg hc1 (.inr hh)).cell' (i := 2) rfl
  have fb1 : IntsO w1 lo hi (.slice C q.t.length d) q.t := hF1.1 (_, q.t) (by simp)
  clear hF hF0 ho1 hg1 fa fb fa0
  go_wp2_with fail
  refine (markIntS_any _ _ _ lo _ fb1.1 (by omega) (by omega)).mono ?_; rintro e w2 ⟨rfl, ho2, hg2⟩
  have hF2 := Fam.turn (L1 := [(_, mkI k q.f.length)]) hF1 ho2 hg2
  have hc2 := chg_of_grown fb1 hg2
  have hk2 := KeepT.of_grown (lo := lo) (hi := hi) fb1.1 hg2
  clear ho2 hg2 fb1 hF1
  go_wp2
  go_ret
  refine ⟨?_, hF2, (Chg.of_below g0).trans (hc1.trans hc2), (KeepT.of_below g0).trans (hk1.trans hk2)⟩
  have e : k + (q.size : Int) = k + q.f.length + q.t.length := by simp only [Qv.size]; omega
  rw [e]; rfl

set_option maxHeartbeats 800000 in
theorem rep_mark (v : Value) (x : Rp) (k : Int) (lo hi : Nat) (w : World) (hv : RepO w lo hi v x) (hh : hi ≤ w.heap.size) (h0 : 0 ≤ k) (h1 : k ≤ 1099511627776) (hsz : x.size ≤ 1048576) :
    Calls Tryz.prog 10 #[v, .int .i64 k] w fun e w' => e = .returned (.int .i64 (k + x.marks)) ∧ RepO w' lo hi v (RepO.mk k x) ∧ Chg lo hi w w' := by
  obtain ⟨f, t, d, m, vs, rfl, ho, hl, hF, hI, _⟩ := hv
  have HL := Lib.hid hl
  clear hl
  have ff : OwnI w lo f x.q.f := (hF.1 (f, x.q.f) (by simp)).1
  have ft : OwnI w lo t x.q.t := (hF.1 (t, x.q.t) (by simp)).1
  have fd : OwnI w lo d x.d := (hF.1 (d, x.d) (by simp)).1
  obtain ⟨A, a, rfl, _, _⟩ := ff.form
  obtain ⟨C, c, rfl, _, _⟩ := ft.form
  obtain ⟨E, e, rfl, _, _⟩ := fd.form
  obtain ⟨H, h, rfl, _, _⟩ := ho.form
  have ht : totM x.m ≤ 4194304 := by rw [totM_eq]; simp only [Rp.size, szM] at hsz; omega
  have hqs : x.q.size ≤ 1048576 := by simp only [Rp.size] at hsz; omega
  have hds : x.d.length ≤ 1048576 := by simp only [Rp.size] at hsz; omega
  clear ff ft fd
  obtain ⟨W, hW⟩ : ∃ W, W = w.alloc (.cells #[.int .i64 x.p, .int .i64 x.q.v, .slice A x.q.f.length a, .slice C x.q.t.length c, .slice E x.d.length e, .slice H x.m.length h] 32) := ⟨_, rfl⟩
  have g0 : Below w.heap.size w W := by rw [hW]; exact below_alloc _ _
  have kB : Blk W w.heap.size 32 #[.int .i64 x.p, .int .i64 x.q.v, .slice A x.q.f.length a, .slice C x.q.t.length c, .slice E x.d.length e, .slice H x.m.length h] := by rw [hW]; exact Blk.new _ _ _
  replace hF := hF.below g0
  replace ho := ho.below g0
  have hs0 := g0.size
  have HF := Lib.hid hF
  clear hF
  go_enter Tryz.func10, Tryz.ntmps10
  go_wp2_with fail
  rw [← hW]; clear hW
  refine (markQuiver_fam _ _ x.q ([(.slice E x.d.length e, x.d)] ++ vs.zip (x.m.map Mx.a)) _ lo hi _ HF.out (by omega) h0 (by omega)).mono ?_; rintro e w1 ⟨rfl, hF1, hc1, hk1⟩
  have ho1 : OutM w1 lo hi (.slice H x.m.length h) vs x.m := hk1 _ _ _ _ _ (by decide) ho
  have kB1 := kB.chg hc1 (.inr hh)
  have c4 := kB1.cell' (i := 4) rfl
  have hd : IntsO w1 lo hi (.slice E x.d.length e) x.d := hF1.1 (_, x.d) (by simp)
  clear ho kB hk1
  have HF1 := Lib.hid hF1
  clear hF1
  go_wp2_with fail
  refine (markIntS_any _ _ _ lo _ hd.1 (by omega) (by omega)).mono ?_; rintro e w2 ⟨rfl, ho2, hg2⟩
  have hF2 := Fam.turn (L1 := [(_, mkI k x.q.f.length), (_, mkI (k + x.q.f.length) x.q.t.length)]) HF1.out ho2 hg2
  have hc2 := chg_of_grown hd hg2
  have hO2 : OutM w2 lo hi (.slice H x.m.length h) vs x.m := ho1.grown (by decide) hd.1 hg2
  have kB2 := kB1.chg hc2 (.inr hh)
  have c5 := kB2.cell' (i := 5) rfl
  have HF2 := Lib.hid hF2
  clear ho1 kB1 c4 hd HF1 ho2 hg2 hF2
  go_wp2_with fail
  refine (markMatrixS_fam _ vs x.m [(.slice A x.q.f.length a, mkI k x.q.f.length), (.slice C x.q.t.length c, mkI (k + x.q.f.length) x.q.t.length), (.slice E x.d.length e, mkI (k + x.q.size) x.d.length)] _ lo hi _ hO2 HL.out HF2.out (by omega) (by omega) (by omega)).mono ?_; rintro e w3 ⟨rfl, ho3, hF3, hc3⟩
  have hI3 : ∀ m ∈ mkMS (k + x.q.size + x.d.length) x.m, I64 m.r ∧ I64 m.c := by
    intro m hm
    obtain ⟨j, hj⟩ := List.getElem?_of_mem hm
    have hjl := lt_of_some hj
    rw [mkMS_length] at hjl
    have := mkMS_get x.m (k + x.q.size + x.d.length) j _ (List.getElem?_eq_getElem hjl)
    rw [hj] at this
    injection this with this
    subst this
    have hle := totM_take_le x.m j
    simp only
    exact ⟨⟨by omega, by omega⟩, ⟨by omega, by omega⟩⟩
  have HI3 := Lib.hid hI3
  have HO3 := Lib.hid ho3
  have HF3 := Lib.hid hF3
  clear hI3 ho3 hF3 HF2 hO2 HF
  have hL3 := Lib.hid (show vs.length = (mkMS (k + x.q.size + x.d.length) x.m).length by rw [mkMS_length]; exact HL.out)
  go_wp2
  go_ret
  refine ⟨?_, ⟨_, _, _, _, vs, ?_, HO3.out, hL3.out, HF3.out, hI, HI3.out⟩, (Chg.of_below g0).trans (hc1.trans (hc2.trans hc3))⟩
  · have e : k + (x.marks : Int) = k + x.q.size + x.d.length + totM x.m := by simp only [Rp.marks]; omega
    rw [e]; rfl
  · simp [RepO.mk, QuivO.mk, mkMS_length, mkI_length]

set_option maxHeartbeats 800000 in
theorem rep_held (v : Value) (x : Rp) (k : Int) (w : World) (hv : RpR w w.heap.size v (RepO.mk k x)) (h0 : 0 ≤ k) (h1 : k ≤ 1099511627776) (hsz : x.size ≤ 1048576) :
    Calls Tryz.prog 11 #[v, .int .i64 k] w fun e w' => e = .returned (.int .i64 (k + x.marks)) ∧ Below w.heap.size w w' := by
  obtain ⟨A, a, C, c, E, e, H, h, rfl, hq, hd, hm, _, _, _⟩ := hv.open_
  clear hv
  have ht : totM x.m ≤ 4194304 := by rw [totM_eq]; simp only [Rp.size, szM] at hsz; omega
  have hqs : x.q.size ≤ 1048576 := by simp only [Rp.size] at hsz; omega
  have hds : x.d.length ≤ 1048576 := by simp only [Rp.size] at hsz; omega
  obtain ⟨W, hW⟩ : ∃ W, W = w.alloc (.cells #[.int .i64 (RepO.mk k x).p, .int .i64 (RepO.mk k x).q.v, .slice A (RepO.mk k x).q.f.length a, .slice C (RepO.mk k x).q.t.length c, .slice E (RepO.mk k x).d.length e, .slice H (RepO.mk k x).m.length h] 32) := ⟨_, rfl⟩
  have g0 : Below w.heap.size w W := by rw [hW]; exact below_alloc _ _
  have kB : Blk W w.heap.size 32 #[.int .i64 (RepO.mk k x).p, .int .i64 (RepO.mk k x).q.v, .slice A (RepO.mk k x).q.f.length a, .slice C (RepO.mk k x).q.t.length c, .slice E (RepO.mk k x).d.length e, .slice H (RepO.mk k x).m.length h] := by rw [hW]; exact Blk.new _ _ _
  have hq' : QvR W W.heap.size (.agg #[.int .i64 (RepO.mk k x).q.v, .slice A (RepO.mk k x).q.f.length a, .slice C (RepO.mk k x).q.t.length c]) (QuivO.mk k x.q) := QvR.next g0 hq
  have hd' : SlI W W.heap.size (.slice E (RepO.mk k x).d.length e) (mkI (k + x.q.size) x.d.length) := SlI.next g0 hd
  have hm' : SlM W W.heap.size (.slice H (RepO.mk k x).m.length h) (mkMS (k + x.q.size + x.d.length) x.m) := SlM.next g0 hm
  clear hq hd hm
  generalize RepO.mk k x = y at *
  have n1 : ¬ (k + (x.q.size : Int) < 0) := by omega
  have n2 : ¬ (k + (x.q.size : Int) + x.d.length < 0) := by omega
  have n3 : ¬ (k + (x.q.size : Int) + x.d.length + totM x.m < 0) := by omega
  go_enter Tryz.func11, Tryz.ntmps11
  go_wp2_with fail
  rw [← hW]; clear hW
  refine (quiv_held _ _ _ _ hq' h0 (by omega)).mono ?_; rintro e w1 ⟨rfl, hb1⟩
  clear hq'
  replace g0 := bthen g0 hb1
  replace hd' := SlI.next hb1 hd'
  replace hm' := SlM.next hb1 hm'
  replace kB := kB.call hb1
  replace c0 := kB.cell' (i := 0) rfl
  replace c1 := kB.cell' (i := 1) rfl
  replace c2 := kB.cell' (i := 2) rfl
  replace c3 := kB.cell' (i := 3) rfl
  replace c4 := kB.cell' (i := 4) rfl
  replace c5 := kB.cell' (i := 5) rfl
  clear hb1
  go_wp2_with fail
  refine (heldIntS_any _ _ (k + x.q.size) _ _ hd' (by omega) (by omega)).mono ?_; rintro e w_1 ⟨rfl, hb_1⟩
  replace g0 := bthen g0 hb_1
  replace hd' := SlI.next hb_1 hd'
  replace hm' := SlM.next hb_1 hm'
  replace kB := kB.call hb_1
  replace c0 := kB.cell' (i := 0) rfl
  replace c1 := kB.cell' (i := 1) rfl
  replace c2 := kB.cell' (i := 2) rfl
  replace c3 := kB.cell' (i := 3) rfl
  replace c4 := kB.cell' (i := 4) rfl
  replace c5 := kB.cell' (i := 5) rfl
  go_wp2_with fail
  refine (heldMatrixS_any _ x.m (k + x.q.size + x.d.length) _ hm' (by omega) (by omega) (by omega)).mono ?_; rintro e w_2 ⟨rfl, hb_2⟩
  replace g0 := bthen g0 hb_2
  replace hd' := SlI.next hb_2 hd'
  replace hm' := SlM.next hb_2 hm'
  replace kB := kB.call hb_2
  replace c0 := kB.cell' (i := 0) rfl
  replace c1 := kB.cell' (i := 1) rfl
  replace c2 := kB.cell' (i := 2) rfl
  replace c3 := kB.cell' (i := 3) rfl
  replace c4 := kB.cell' (i := 4) rfl
  replace c5 := kB.cell' (i := 5) rfl
  clear hd' hm' kB
  go_wp2
  go_ret
  have e : k + (x.marks : Int) = k + x.q.size + x.d.length + totM x.m := by simp only [Rp.marks]; omega
  exact ⟨by rw [e]; rfl, g0⟩
end Go.Proofs.YtaefpblpfjhgoaaGreat

/- Facts of the whole program that every row asks for, each met once for the seat. -/
namespace Go.Proofs.YtaefpblpfjhgoaaGreat
set_option linter.unusedVariables false
set_option linter.unusedSimpArgs false
open Go.RowKit

theorem seatEnter : Tryz.prog.mayEnter = true := by kernel_rfl
theorem seatLifts : (false == Tryz.prog.liftsFinal) = true := by kernel_rfl
theorem seatMake : (Tryz.prog.make == some .cut) = true := by kernel_rfl
theorem band {a b : Bool} (h : a = true) (k : b = true) : (a && b) = true := by rw [h, k]; rfl
end Go.Proofs.YtaefpblpfjhgoaaGreat
