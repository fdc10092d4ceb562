/- The walk of FnExactFormatBars, printed by program (wip/law.py) out of the contracts of what it calls. -/
import Derived.Test.YtjhllgldllbaaaaFmtB3
import Derived.Test.YtjhllgldllbaaaaKit
namespace Go.Proofs.Ytjhllgldllbaaaa
set_option linter.unusedVariables false
set_option linter.unusedSimpArgs false
open Go.RowKit

set_option maxHeartbeats 1600000 in
set_option maxRecDepth 100000 in
theorem lawFormatBars_any (ul : Value) (l : List Bar) (w : World) (hl : SlB w w.heap.size ul l) :
    Calls Try.prog 5 #[ul] w fun e w' => e = .returned (.bool true) ∧ Below w.heap.size w w' := by
  obtain ⟨Al, cl, rfl, _, _, ll, _⟩ := hl.open_
  have g0 := Below.refl w.heap.size w
  by_cases z0 : (1048576 : Int) < (l.length : Nat)
  · have y0 : szLeft (1048576 : Int) (l.length) = -1 := by rw [szLeft, if_pos z0]
    go_enter Try.func5, Try.ntmps5
    go_wp2_with fail
    refine (szBarS_any _ _ _ (1048576 : Int) _ (by omega) (by omega) (by omega)).mono ?_; rintro e W' ⟨rfl, hww⟩; replace hww := hww.symm; subst hww
    go_wp2
    go_ret
    exact ⟨rfl, g0⟩
  have y0 : szLeft (1048576 : Int) (l.length) = (1048576 : Int) - (l.length : Nat) := by rw [szLeft, if_neg z0]
  have x0 : ¬ ((1048576 : Int) - ((l.length : Nat) : Int) < 0) := by omega
  go_enter Try.func5, Try.ntmps5
  go_wp2_with fail
  refine (szBarS_any _ _ _ (1048576 : Int) _ (by omega) (by omega) (by omega)).mono ?_; rintro e W' ⟨rfl, hww⟩; replace hww := hww.symm; subst hww
  go_wp2_with fail
  refine (bars_to _ _ _ (SlB.more (by omega) hl) (by omega)).mono ?_; rintro e W6 ⟨v3, rfl, h4, b5⟩
  have h7 := SlB.below (b5.mono (by omega)) hl
  have s8 : w.heap.size ≤ W6.heap.size := b5.size
  have g9 := bthen g0 b5
  clear hl g0 b5
  go_wp2_with fail
  refine (specFormatBars_any _ _ _ h4.rd).mono ?_; rintro e W11 ⟨rfl, b10⟩
  have h12 := SlB.below (b10.mono (by omega)) h7
  have h13 := h4.below b10
  have s14 : W6.heap.size ≤ W11.heap.size := b10.size
  have g15 := bthen g9 b10
  clear h7 h4 g9 b10
  clear h13
  go_wp2_with fail
  refine (bars_to _ _ _ (SlB.more (by omega) h12) (by omega)).mono ?_; rintro e W19 ⟨v16, rfl, h17, b18⟩
  have h20 := SlB.below (b18.mono (by omega)) h12
  have s21 : W11.heap.size ≤ W19.heap.size := b18.size
  have g22 := bthen g15 b18
  clear h12 g15 b18
  go_wp2_with fail
  refine (implFormatBars_any _ _ _ h17.rd).mono ?_; rintro e W24 ⟨rfl, b23⟩
  have h25 := SlB.below (b23.mono (by omega)) h20
  have h26 := h17.below b23
  have s27 : W19.heap.size ≤ W24.heap.size := b23.size
  have g28 := bthen g22 b23
  clear h20 h17 g22 b23
  go_wp2_with fail
  refine (bars_to _ _ _ (SlB.more (by omega) h25) (by omega)).mono ?_; rintro e W32 ⟨v29, rfl, h30, b31⟩
  have h33 := SlB.below (b31.mono (by omega)) h25
  have h34 := h26.below b31
  have s35 : W24.heap.size ≤ W32.heap.size := b31.size
  have g36 := bthen g28 b31
  clear h25 h26 g28 b31
  go_wp2_with fail
  refine (eqBarS_any _ _ _ _ _ h34.rd h30.rd).mono ?_; rintro e W38 ⟨rfl, b37⟩
  have h39 := SlB.below (b37.mono (by omega)) h33
  have h40 := h34.below b37
  have h41 := h30.below b37
  have s42 : W32.heap.size ≤ W38.heap.size := b37.size
  have g43 := bthen g36 b37
  clear h33 h34 h30 g36 b37
  clear h41
  go_wp2
  go_ret
  exact ⟨rfl, g43⟩
end Go.Proofs.Ytjhllgldllbaaaa
