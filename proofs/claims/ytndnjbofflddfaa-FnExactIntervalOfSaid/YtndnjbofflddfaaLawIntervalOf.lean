/- The walk of FnExactIntervalOf, printed by program (wip/law.py) out of the contracts of what it calls. -/
import Derived.Test.YtndnjbofflddfaaInterval
import Derived.Test.YtndnjbofflddfaaKit
namespace Go.Proofs.Ytndnjbofflddfaa
set_option linter.unusedVariables false
set_option linter.unusedSimpArgs false
open Go.RowKit

set_option maxHeartbeats 1600000 in
set_option maxRecDepth 100000 in
theorem lawIntervalOf_any (uxs : Value) (xs : List Int) (w : World) (hxs : SlI w w.heap.size uxs xs) :
    Calls Try.prog 5 #[uxs] w fun e w' => e = .returned (.bool true) ∧ Below w.heap.size w w' := by
  obtain ⟨Axs, cxs, rfl, _, _, lxs, _⟩ := hxs.open_
  have g0 := Below.refl w.heap.size w
  by_cases z0 : (1048576 : Int) < xs.length
  · go_enter Try.func5, Try.ntmps5
    go_wp2
    go_ret
    exact ⟨rfl, g0⟩
  go_enter Try.func5, Try.ntmps5
  go_wp2_with fail
  refine (ints_to _ _ _ (SlI.more (by omega) hxs) (by omega)).mono ?_; rintro e W4 ⟨v1, rfl, h2, b3⟩
  have h5 := SlI.below (b3.mono (by omega)) hxs
  have s6 : w.heap.size ≤ W4.heap.size := b3.size
  have g7 := bthen g0 b3
  clear hxs g0 b3
  go_wp2_with fail
  refine (specIntervalOf_any _ _ _ h2.rd).mono ?_; rintro e W9 ⟨rfl, b8⟩
  have h10 := SlI.below (b8.mono (by omega)) h5
  have h11 := h2.below b8
  have s12 : W4.heap.size ≤ W9.heap.size := b8.size
  have g13 := bthen g7 b8
  clear h5 h2 g7 b8
  clear h11
  go_wp2_with fail
  refine (ints_to _ _ _ (SlI.more (by omega) h10) (by omega)).mono ?_; rintro e W17 ⟨v14, rfl, h15, b16⟩
  have h18 := SlI.below (b16.mono (by omega)) h10
  have s19 : W9.heap.size ≤ W17.heap.size := b16.size
  have g20 := bthen g13 b16
  clear h10 g13 b16
  go_wp2_with fail
  refine (implIntervalOf_any _ _ _ h15.rd).mono ?_; rintro e W22 ⟨rfl, b21⟩
  have h23 := SlI.below (b21.mono (by omega)) h18
  have h24 := h15.below b21
  have s25 : W17.heap.size ≤ W22.heap.size := b21.size
  have g26 := bthen g20 b21
  clear h18 h15 g20 b21
  go_wp2_with fail
  refine (ints_to _ _ _ (SlI.more (by omega) h23) (by omega)).mono ?_; rintro e W30 ⟨v27, rfl, h28, b29⟩
  have h31 := SlI.below (b29.mono (by omega)) h23
  have h32 := h24.below b29
  have s33 : W22.heap.size ≤ W30.heap.size := b29.size
  have g34 := bthen g26 b29
  clear h23 h24 g26 b29
  go_wp2_with fail
  refine (eqIntS_any _ _ _ _ _ h32.rd h28.rd).mono ?_; rintro e W36 ⟨rfl, b35⟩
  have h37 := SlI.below (b35.mono (by omega)) h31
  have h38 := h32.below b35
  have h39 := h28.below b35
  have s40 : W30.heap.size ≤ W36.heap.size := b35.size
  have g41 := bthen g34 b35
  clear h31 h32 h28 g34 b35
  clear h39
  go_wp2
  go_ret
  exact ⟨rfl, g41⟩
end Go.Proofs.Ytndnjbofflddfaa
