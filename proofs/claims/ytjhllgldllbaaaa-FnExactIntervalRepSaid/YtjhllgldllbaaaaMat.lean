/- Fields, vectors, matrices, dimensions: the tests of both sides. -/
import Derived.Test.YtjhllgldllbaaaaIsQ
import Derived.Test.YtjhllgldllbaaaaKitR
namespace Go.Proofs.Ytjhllgldllbaaaa
set_option linter.unusedVariables false
set_option linter.unusedSimpArgs false
open Go.RowKit

def isFld (p : Int) : Bool := decide (p = 2 ∨ p = 3 ∨ p = 5)
theorem isFld_t {p : Int} : isFld p = true ↔ p = 2 ∨ p = 3 ∨ p = 5 := by simp [isFld]
theorem isFld_f {p : Int} : isFld p = false ↔ p ≠ 2 ∧ p ≠ 3 ∧ p ≠ 5 := by simp [isFld]
theorem isFld_r {p : Int} (h : isFld p = true) : 2 ≤ p ∧ p ≤ 5 := by have := isFld_t.1 h; omega
def isVec (p : Int) (v : List Int) : Bool := isFld p && decide (v.length ≤ 64) && allR v 0 (p - 1)
theorem isVec_t {p : Int} {v : List Int} : isVec p v = true ↔ isFld p = true ∧ v.length ≤ 64 ∧ ∀ x ∈ v, 0 ≤ x ∧ x ≤ p - 1 := by
  simp only [isVec, Bool.and_eq_true, decide_eq_true_eq, allR_t, and_assoc]
def isMat (p : Int) (m : Mx) : Bool := inR m.r 0 8 && inR m.c 0 8 && decide ((m.a.length : Int) = m.r * m.c) && isVec p m.a
theorem isMat_t {p : Int} {m : Mx} : isMat p m = true ↔ (0 ≤ m.r ∧ m.r ≤ 8) ∧ (0 ≤ m.c ∧ m.c ≤ 8) ∧ (m.a.length : Int) = m.r * m.c ∧ isVec p m.a = true := by
  simp only [isMat, Bool.and_eq_true, inR_t, decide_eq_true_eq, and_assoc]
def areDims (q : Qv) (d : List Int) : Bool := isQ q && decide ((d.length : Int) = q.v) && allR d 0 4 && decide (d.sum ≤ 8)
theorem areDims_t {q : Qv} {d : List Int} : areDims q d = true ↔ isQ q = true ∧ (d.length : Int) = q.v ∧ (∀ x ∈ d, 0 ≤ x ∧ x ≤ 4) ∧ d.sum ≤ 8 := by
  simp only [areDims, Bool.and_eq_true, decide_eq_true_eq, allR_t, and_assoc]
theorem mul_bd {a b : Int} (ha : 0 ≤ a ∧ a ≤ 8) (hb : 0 ≤ b ∧ b ≤ 8) : 0 ≤ a * b ∧ a * b ≤ 64 := by
  obtain ⟨n, rfl⟩ := Int.eq_ofNat_of_zero_le ha.1
  obtain ⟨m, rfl⟩ := Int.eq_ofNat_of_zero_le hb.1
  have h1 : n * m ≤ 8 * 8 := Nat.mul_le_mul (by omega) (by omega)
  have e : (n : Int) * m = ((n * m : Nat) : Int) := by simp
  rw [e]
  omega

theorem implIsField_any (p : Int) (w : World) : Calls Try.prog 63 #[.int .i64 p] w fun e w' => e = .returned (.bool (isFld p)) ∧ w' = w := by
  by_cases h2 : p = 2
  · subst h2
    go_enter Try.func63, Try.ntmps63
    go_wp2
    go_ret
    exact ⟨rfl, rfl⟩
  by_cases h3 : p = 3
  · subst h3
    go_enter Try.func63, Try.ntmps63
    go_wp2
    go_ret
    exact ⟨rfl, rfl⟩
  by_cases h5 : p = 5
  · subst h5
    go_enter Try.func63, Try.ntmps63
    go_wp2
    go_ret
    exact ⟨rfl, rfl⟩
  have e : isFld p = false := isFld_f.2 ⟨h2, h3, h5⟩
  have e2 : (p == 2) = false := by rw [beq_eq_false_iff_ne]; exact h2
  have e3 : (p == 3) = false := by rw [beq_eq_false_iff_ne]; exact h3
  have e5 : (p == 5) = false := by rw [beq_eq_false_iff_ne]; exact h5
  rw [e]
  clear e h2 h3 h5
  go_enter Try.func63, Try.ntmps63
  go_wp2
  go_ret
  exact ⟨rfl, rfl⟩
theorem specIsField_any (p : Int) (w : World) : Calls Try.prog 59 #[.int .i64 p] w fun e w' => e = .returned (.bool (isFld p)) ∧ w' = w := by
  by_cases h2 : p = 2
  · subst h2
    go_enter Try.func59, Try.ntmps59
    go_wp2
    go_ret
    exact ⟨rfl, rfl⟩
  by_cases h3 : p = 3
  · subst h3
    go_enter Try.func59, Try.ntmps59
    go_wp2
    go_ret
    exact ⟨rfl, rfl⟩
  by_cases h5 : p = 5
  · subst h5
    go_enter Try.func59, Try.ntmps59
    go_wp2
    go_ret
    exact ⟨rfl, rfl⟩
  have e : isFld p = false := isFld_f.2 ⟨h2, h3, h5⟩
  have e2 : (p == 2) = false := by rw [beq_eq_false_iff_ne]; exact h2
  have e3 : (p == 3) = false := by rw [beq_eq_false_iff_ne]; exact h3
  have e5 : (p == 5) = false := by rw [beq_eq_false_iff_ne]; exact h5
  rw [e]
  clear e h2 h3 h5
  go_enter Try.func59, Try.ntmps59
  go_wp2
  go_ret
  exact ⟨rfl, rfl⟩

theorem implIsVector_any (p : Int) (u : Value) (v : List Int) (w : World) (hu : SlI w w.heap.size u v) :
    Calls Try.prog 208 #[.int .i64 p, u] w fun e w' => e = .returned (.bool (isVec p v)) ∧ Below w.heap.size w w' := by
  have hv := hu
  obtain ⟨A, c, rfl, _, _, _, _⟩ := hu.open_
  clear hu
  unfold isVec
  rcases h1 : isFld p with _ | _
  · go_enter Try.func208, Try.ntmps208
    go_wp2_with fail
    refine (implIsField_any _ _).mono ?_; rintro e w' ⟨rfl, rfl⟩
    rw [h1]
    go_wp2
    go_ret
    exact ⟨rfl, Below.refl _ _⟩
  have hp := isFld_r h1
  by_cases h2 : v.length ≤ 64
  · have e2 : decide (v.length ≤ 64) = true := by simpa using h2
    rw [e2]
    clear e2
    obtain ⟨B, hB⟩ : ∃ B, allR v 0 (p - 1) = B := ⟨_, rfl⟩
    rw [hB]
    have HB := Lib.hid hB
    clear hB
    go_enter Try.func208, Try.ntmps208
    go_wp2_with fail
    refine (implIsField_any _ _).mono ?_; rintro e w' ⟨rfl, rfl⟩
    rw [h1]
    go_wp2_with fail
    refine (allWithin_any _ v _ _ _ hv).mono ?_; rintro e w1 ⟨rfl, hb1⟩
    rw [HB.out]
    go_wp2
    go_ret
    exact ⟨rfl, hb1⟩
  · have e2 : decide (v.length ≤ 64) = false := by simpa using h2
    have e2' : ¬ ((v.length : Int) ≤ 64) := by omega
    rw [e2]
    clear e2
    go_enter Try.func208, Try.ntmps208
    go_wp2_with fail
    refine (implIsField_any _ _).mono ?_; rintro e w' ⟨rfl, rfl⟩
    rw [h1]
    go_wp2
    go_ret
    exact ⟨rfl, Below.refl _ _⟩

theorem allR_end {v : List Int} {lo hi : Int} {k : Nat} (h : ∀ x ∈ v.take k, inR x lo hi = true) (hk : v.length ≤ k) : allR v lo hi = true := by
  rw [List.take_of_length_le hk] at h
  simpa [allR] using h
theorem allR_bad {v : List Int} {lo hi x : Int} {k : Nat} (h : v[k]? = some x) (hx : inR x lo hi = false) : allR v lo hi = false := by
  rw [Bool.eq_false_iff]
  intro h2
  have := List.all_eq_true.1 h2 x (List.mem_of_getElem? h)
  rw [hx] at this
  cases this
theorem allR_step {v : List Int} {lo hi x : Int} {k : Nat} (h : ∀ x ∈ v.take k, inR x lo hi = true) (hx : v[k]? = some x) (h2 : inR x lo hi = true) : ∀ x ∈ v.take (k + 1), inR x lo hi = true := by
  intro y hy
  rw [take_snoc hx, List.mem_append, List.mem_singleton] at hy
  rcases hy with hy | rfl
  · exact h y hy
  · exact h2

set_option maxHeartbeats 400000 in
theorem specIsVector_any (p : Int) (u : Value) (v : List Int) (w : World) (hu : SlI w w.heap.size u v) :
    Calls Try.prog 207 #[.int .i64 p, u] w fun e w' => e = .returned (.bool (isVec p v)) ∧ Below w.heap.size w w' := by
  obtain ⟨A, c, rfl, _, _, _, hv⟩ := hu.open_
  clear hu
  unfold isVec
  rcases h1 : isFld p with _ | _
  · go_enter Try.func207, Try.ntmps207
    go_wp2_with fail
    refine (specIsField_any _ _).mono ?_; rintro e w ⟨rfl, rfl⟩
    rw [h1]
    go_wp2
    go_ret
    exact ⟨rfl, Below.refl _ _⟩
  have hp := isFld_r h1
  by_cases h2 : v.length ≤ 64
  · have e2 : decide (v.length ≤ 64) = true := by simpa using h2
    have e2' : ¬ ((64 : Int) < v.length) := by omega
    rw [e2]
    clear e2
    go_enter Try.func207, Try.ntmps207
    go_wp2_with fail
    refine (specIsField_any _ _).mono ?_; rintro e w ⟨rfl, rfl⟩
    rw [h1]
    go_wp2
    go_loopw [5] (fun i wr => ∃ k : Nat, k ≤ v.length ∧ i = .int .i64 k ∧ Below w.heap.size w wr ∧ Hid (∀ x ∈ v.take k, inR x 0 (p - 1) = true)) (fun i _ => v.length - (intOf i).toNat)
    case atStart => exact ⟨0, Nat.zero_le _, rfl, Below.refl _ _, by show ∀ x ∈ _, _; simp⟩
    case round =>
      obtain ⟨k, hk, rfl, hbel, hall⟩ := hrel
      by_cases hlt : k < v.length
      · obtain ⟨b, o, x, rfl, hb, HX, x1, _⟩ := SlI.at_ hv hlt
        have x2 := bcell hbel hb x1
        clear x1 hv
        rcases h3 : inR x 0 (p - 1) with _ | _
        · have HF := Lib.hid (allR_bad HX.out h3)
          have H3 := Lib.hid h3
          clear h3
          go_wp2_with fail
          refine (l1In_any _ _ _ _).mono ?_; rintro e w ⟨rfl, rfl⟩
          rw [H3.out]
          go_wp2
          go_ret
          exact ⟨by rw [HF.out]; rfl, hbel⟩
        · have HS := Lib.hid (allR_step hall.out HX.out h3)
          have H3 := Lib.hid h3
          clear h3
          go_wp2_with fail
          refine (l1In_any _ _ _ _).mono ?_; rintro e w ⟨rfl, rfl⟩
          rw [H3.out]
          go_wp2
          go_roundw
          case rel => exact ⟨k + 1, by omega, by go_num, hbel, HS.out⟩
          case measure => simp [intOf]; omega
      · have HF := Lib.hid (allR_end hall.out (by omega))
        go_wp2
        go_ret
        exact ⟨by rw [HF.out]; rfl, hbel⟩
  · have e2 : decide (v.length ≤ 64) = false := by simpa using h2
    have e2' : (64 : Int) < v.length := by omega
    rw [e2]
    clear e2
    go_enter Try.func207, Try.ntmps207
    go_wp2_with fail
    refine (specIsField_any _ _).mono ?_; rintro e w ⟨rfl, rfl⟩
    rw [h1]
    go_wp2
    go_ret
    exact ⟨rfl, Below.refl _ _⟩

set_option maxHeartbeats 800000 in
theorem implIsMatrix_any (p : Int) (u : Value) (m : Mx) (w : World) (hu : MxR w w.heap.size u m) :
    Calls Try.prog 182 #[.int .i64 p, u] w fun e w' => e = .returned (.bool (isMat p m)) ∧ Below w.heap.size w w' := by
  obtain ⟨A, c, rfl, hf, _, _, lf⟩ := hu.open_
  clear hu
  obtain ⟨W, hW⟩ : ∃ W, W = w.alloc (.cells #[.int .i64 m.r, .int .i64 m.c, .slice A m.a.length c] 75) := ⟨_, rfl⟩
  have g0 : Below w.heap.size w W := by rw [hW]; exact below_alloc _ _
  have kB : Blk W w.heap.size 75 #[.int .i64 m.r, .int .i64 m.c, .slice A m.a.length c] := by rw [hW]; exact Blk.new _ _ _
  have c0 := kB.cell' (i := 0) rfl
  have c1 := kB.cell' (i := 1) rfl
  have c2 := kB.cell' (i := 2) rfl
  replace hf := SlI.next g0 hf
  unfold isMat
  rcases h1 : inR m.r 0 8 with _ | _
  · go_enter Try.func182, Try.ntmps182
    go_wp2_with fail
    rw [← hW]; clear hW
    refine (within_any _ _ _ _).mono ?_; rintro e w' ⟨rfl, rfl⟩
    rw [h1]
    go_wp2
    go_ret
    exact ⟨rfl, g0⟩
  have b1 := inR_t.1 h1
  rcases h2 : inR m.c 0 8 with _ | _
  · go_enter Try.func182, Try.ntmps182
    go_wp2_with fail
    rw [← hW]; clear hW
    refine (within_any _ _ _ _).mono ?_; rintro e w' ⟨rfl, rfl⟩
    rw [h1]
    go_wp2_with fail
    refine (within_any _ _ _ _).mono ?_; rintro e w' ⟨rfl, rfl⟩
    rw [h2]
    go_wp2
    go_ret
    exact ⟨rfl, g0⟩
  have b2 := inR_t.1 h2
  have b3 := mul_bd b1 b2
  obtain ⟨b11, b12⟩ := b1
  obtain ⟨b21, b22⟩ := b2
  obtain ⟨b31, b32⟩ := b3
  rcases h3 : decide ((m.a.length : Int) = m.r * m.c) with _ | _
  · have e3 : ((m.a.length : Int) == m.r * m.c) = false := by rw [beq_eq_false_iff_ne]; exact of_decide_eq_false h3
    clear h3
    go_enter Try.func182, Try.ntmps182
    go_wp2_with fail
    rw [← hW]; clear hW
    refine (within_any _ _ _ _).mono ?_; rintro e w' ⟨rfl, rfl⟩
    rw [h1]
    go_wp2_with fail
    refine (within_any _ _ _ _).mono ?_; rintro e w' ⟨rfl, rfl⟩
    rw [h2]
    go_wp2
    go_ret
    exact ⟨rfl, g0⟩
  have e3 : ((m.a.length : Int) == m.r * m.c) = true := by rw [beq_iff_eq]; exact of_decide_eq_true h3
  clear h3
  obtain ⟨B, hB⟩ : ∃ B, isVec p m.a = B := ⟨_, rfl⟩
  rw [hB]
  have HB := Lib.hid hB
  clear hB
  go_enter Try.func182, Try.ntmps182
  go_wp2_with fail
  rw [← hW]; clear hW
  refine (within_any _ _ _ _).mono ?_; rintro e w' ⟨rfl, rfl⟩
  rw [h1]
  go_wp2_with fail
  refine (within_any _ _ _ _).mono ?_; rintro e w' ⟨rfl, rfl⟩
  rw [h2]
  go_wp2_with fail
  refine (implIsVector_any _ _ m.a _ hf).mono ?_; rintro e w1 ⟨rfl, hb1⟩
  rw [HB.out]
  go_wp2
  go_ret
  exact ⟨rfl, bthen g0 hb1⟩
set_option maxHeartbeats 800000 in
theorem specIsMatrix_any (p : Int) (u : Value) (m : Mx) (w : World) (hu : MxR w w.heap.size u m) :
    Calls Try.prog 180 #[.int .i64 p, u] w fun e w' => e = .returned (.bool (isMat p m)) ∧ Below w.heap.size w w' := by
  obtain ⟨A, c, rfl, hf, _, _, lf⟩ := hu.open_
  clear hu
  obtain ⟨W, hW⟩ : ∃ W, W = w.alloc (.cells #[.int .i64 m.r, .int .i64 m.c, .slice A m.a.length c] 75) := ⟨_, rfl⟩
  have g0 : Below w.heap.size w W := by rw [hW]; exact below_alloc _ _
  have kB : Blk W w.heap.size 75 #[.int .i64 m.r, .int .i64 m.c, .slice A m.a.length c] := by rw [hW]; exact Blk.new _ _ _
  have c0 := kB.cell' (i := 0) rfl
  have c1 := kB.cell' (i := 1) rfl
  have c2 := kB.cell' (i := 2) rfl
  replace hf := SlI.next g0 hf
  unfold isMat
  rcases h1 : inR m.r 0 8 with _ | _
  · go_enter Try.func180, Try.ntmps180
    go_wp2_with fail
    rw [← hW]; clear hW
    refine (l1In_any _ _ _ _).mono ?_; rintro e w' ⟨rfl, rfl⟩
    rw [h1]
    go_wp2
    go_ret
    exact ⟨rfl, g0⟩
  have b1 := inR_t.1 h1
  rcases h2 : inR m.c 0 8 with _ | _
  · go_enter Try.func180, Try.ntmps180
    go_wp2_with fail
    rw [← hW]; clear hW
    refine (l1In_any _ _ _ _).mono ?_; rintro e w' ⟨rfl, rfl⟩
    rw [h1]
    go_wp2_with fail
    refine (l1In_any _ _ _ _).mono ?_; rintro e w' ⟨rfl, rfl⟩
    rw [h2]
    go_wp2
    go_ret
    exact ⟨rfl, g0⟩
  have b2 := inR_t.1 h2
  have b3 := mul_bd b1 b2
  obtain ⟨b11, b12⟩ := b1
  obtain ⟨b21, b22⟩ := b2
  obtain ⟨b31, b32⟩ := b3
  rcases h3 : decide ((m.a.length : Int) = m.r * m.c) with _ | _
  · have e3 : ((m.a.length : Int) == m.r * m.c) = false := by rw [beq_eq_false_iff_ne]; exact of_decide_eq_false h3
    clear h3
    go_enter Try.func180, Try.ntmps180
    go_wp2_with fail
    rw [← hW]; clear hW
    refine (l1In_any _ _ _ _).mono ?_; rintro e w' ⟨rfl, rfl⟩
    rw [h1]
    go_wp2_with fail
    refine (l1In_any _ _ _ _).mono ?_; rintro e w' ⟨rfl, rfl⟩
    rw [h2]
    go_wp2
    go_ret
    exact ⟨rfl, g0⟩
  have e3 : ((m.a.length : Int) == m.r * m.c) = true := by rw [beq_iff_eq]; exact of_decide_eq_true h3
  clear h3
  obtain ⟨B, hB⟩ : ∃ B, isVec p m.a = B := ⟨_, rfl⟩
  rw [hB]
  have HB := Lib.hid hB
  clear hB
  go_enter Try.func180, Try.ntmps180
  go_wp2_with fail
  rw [← hW]; clear hW
  refine (l1In_any _ _ _ _).mono ?_; rintro e w' ⟨rfl, rfl⟩
  rw [h1]
  go_wp2_with fail
  refine (l1In_any _ _ _ _).mono ?_; rintro e w' ⟨rfl, rfl⟩
  rw [h2]
  go_wp2_with fail
  refine (specIsVector_any _ _ m.a _ hf).mono ?_; rintro e w1 ⟨rfl, hb1⟩
  rw [HB.out]
  go_wp2
  go_ret
  exact ⟨rfl, bthen g0 hb1⟩
end Go.Proofs.Ytjhllgldllbaaaa
