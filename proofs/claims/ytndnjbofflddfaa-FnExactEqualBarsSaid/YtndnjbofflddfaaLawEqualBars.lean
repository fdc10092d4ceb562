/- The law FnExactEqualBars: for every two lists of bars the program's EqualBars returns what the reference's returns, and leaves both as they were. No condition. -/
import Derived.Test.YtndnjbofflddfaaBars
namespace Go.Proofs.Ytndnjbofflddfaa
open Go.RowKit

set_option maxHeartbeats 800000 in
theorem lawEqualBars_any (u v : Value) (xs ys : List Bar) (w : World) (hu : SlB w w.heap.size u xs) (hv : SlB w w.heap.size v ys) :
    Calls Try.prog 3 #[u, v] w fun e w' => e = .returned (.bool true) ∧ Below w.heap.size w w' := by
  obtain ⟨A, c, rfl, _, _, hn, hx⟩ := hu.open_
  obtain ⟨C, d, rfl, _, _, hm, hy⟩ := hv.open_
  clear hu hv
  by_cases h1 : (1048576 : Int) < xs.length
  · have s1 : szLeft 1048576 xs.length = -1 := by rw [szLeft, if_pos h1]
    go_enter Try.func3, Try.ntmps3
    go_wp2_with (go_at_call 15; refine (szBarS_any _ _ _ _ _ hn (by omega) (by omega)).mono ?_; rintro e w' ⟨rfl, rfl⟩)
    go_ret
    exact ⟨rfl, Below.refl _ _⟩
  have s1 : szLeft 1048576 xs.length = 1048576 - xs.length := by rw [szLeft, if_neg h1]
  by_cases h2 : (1048576 : Int) - xs.length < ys.length
  · have s2 : szLeft (1048576 - xs.length) ys.length = -1 := by rw [szLeft, if_pos h2]
    go_enter Try.func3, Try.ntmps3
    go_wp2_with fail
    refine (szBarS_any _ _ _ _ _ hn (by omega) (by omega)).mono ?_; rintro e w' ⟨rfl, rfl⟩
    go_wp2_with fail
    refine (szBarS_any _ _ _ _ _ hm (by omega) (by omega)).mono ?_; rintro e w' ⟨rfl, rfl⟩
    go_wp2
    go_ret
    exact ⟨rfl, Below.refl _ _⟩
  have s2 : szLeft (1048576 - xs.length) ys.length = 1048576 - xs.length - ys.length := by rw [szLeft, if_neg h2]
  go_enter Try.func3, Try.ntmps3
  go_wp2_with fail
  refine (szBarS_any _ _ _ _ _ hn (by omega) (by omega)).mono ?_; rintro e w' ⟨rfl, rfl⟩
  go_wp2_with fail
  refine (szBarS_any _ _ _ _ _ hm (by omega) (by omega)).mono ?_; rintro e w' ⟨rfl, rfl⟩
  go_wp2_with fail
  refine (toBarS_any _ _ _ hx (by omega)).mono ?_; rintro e w1 ⟨a1, rfl, ha1, hb1⟩
  go_wp2_with fail
  refine (toBarS_any _ _ _ (SlB.next hb1 hy) (by omega)).mono ?_; rintro e w2 ⟨a2, rfl, ha2, hb2⟩
  go_wp2_with fail
  refine (specEqualBars_any _ _ _ _ _ (SlB.next hb2 ha1) ha2).mono ?_; rintro e w3 ⟨rfl, hb3⟩
  have g3 := bthen (bthen hb1 hb2) hb3
  clear hb1 hb2 hb3 ha1 ha2
  go_wp2_with fail
  refine (toBarS_any _ _ _ (SlB.next g3 hx) (by omega)).mono ?_; rintro e w4 ⟨x0, rfl, hx0, hb4⟩
  have g4 := bthen g3 hb4
  go_wp2_with fail
  refine (toBarS_any _ _ _ (SlB.next g4 hy) (by omega)).mono ?_; rintro e w5 ⟨x1, rfl, hx1, hb5⟩
  have g5 := bthen g4 hb5
  have hx0' := SlB.next hb5 hx0
  clear hb4 hb5 g3 g4 hx0
  go_wp2_with fail
  refine (implEqualBars_any _ _ _ _ _ hx0' hx1).mono ?_; rintro e w6 ⟨rfl, hb6⟩
  have g6 := bthen g5 hb6
  have hx0 := SlB.next hb6 hx0'
  have hx1' := SlB.next hb6 hx1
  clear hb6 g5 hx0' hx1
  go_wp2_with fail
  refine (toBarS_any _ _ _ (SlB.next g6 hx) (by omega)).mono ?_; rintro e w7 ⟨x2, rfl, hx2, hb7⟩
  have g7 := bthen g6 hb7
  have hx0' := SlB.next hb7 hx0
  have hx1 := SlB.next hb7 hx1'
  clear hb7 g6 hx0 hx1'
  go_wp2_with fail
  refine (eqBarS_any _ _ _ _ _ hx0' hx2).mono ?_; rintro e w8 ⟨rfl, hb8⟩
  have g8 := bthen g7 hb8
  have hx1' := SlB.next hb8 hx1
  clear hb8 g7 hx0' hx1 hx2
  go_wp2_with fail
  refine (toBarS_any _ _ _ (SlB.next g8 hy) (by omega)).mono ?_; rintro e w9 ⟨x3, rfl, hx3, hb9⟩
  have g9 := bthen g8 hb9
  have hx1 := SlB.next hb9 hx1'
  clear hb9 g8 hx1'
  go_wp2_with fail
  refine (eqBarS_any _ _ _ _ _ hx1 hx3).mono ?_; rintro e w10 ⟨rfl, hb10⟩
  have g10 := bthen g9 hb10
  clear hb10 g9 hx1 hx3
  go_wp2
  go_ret
  exact ⟨rfl, g10⟩
end Go.Proofs.Ytndnjbofflddfaa
