/- FnExactFormatBars is proved: for every argument the program's FormatBars returns what the reference's returns, leaves its arguments as they were, and returns memory of its own. No condition. -/
import Derived.Test.YtjhllgldllbaaaaLawFormatBars
import Derived.Test.YtjhllgldllbaaaaRow
import Derived.Test.YtjhllgldllbaaaaRowB
import Derived.Test.YtjhllgldllbaaaaSeat
namespace Go.Proofs.Ytjhllgldllbaaaa
set_option linter.unusedVariables false
set_option linter.unusedSimpArgs false
open Go.RowKit Go.ChangeShapes Go.WideShapes Go.ChangeAt Go.Deep

set_option maxRecDepth 100000 in
theorem formatBars_lifted (os : Os) (started : os.Started) (H : Type) (enc : TypeId × Value → H) :
    ReturnsInHanded {} Try.checked os 5 .any (Rows.fnExactFormatBarsSpec.pre6 enc Try.prog Try.f5 Rows.fnExactFormatBarsRow.domain false) (Rows.fnExactFormatBarsSpec.post enc Try.prog Try.f5 false true false false) := by
  refine lift_law started (by kernel_rfl) Try.func5 (ChangeSpec.witness6 (enc := enc) (C := Try.checked) false ⟨#[], #[.slice none 0 0], []⟩ 8 (by kernel_rfl) (by kernel_rfl) (by kernel_rfl) (by kernel_rfl))
    rfl rfl (by rw [Try.params5]; intro t ht; simp only [List.mem_cons, List.not_mem_nil, or_false] at ht; rcases ht with rfl <;> exact ⟨by kernel_rfl, of_decide_eq_true (by kernel_rfl)⟩) (fun ds hl => by rw [Try.params5] at hl; match ds, hl with | [_], _ => rfl) ?_
  intro W args ds ps base hval hA hwt
  rw [Try.params5] at hA hval hwt
  obtain ⟨v0, d0, hargs, rfl, h0⟩ := trodAll_one hA
  obtain rfl : args = #[v0] := by cases args; simp_all
  obtain ⟨x0, r0⟩ := argBars (hval 0 _ _ rfl rfl) h0 (hwt 0 _ _ rfl rfl)
  exact lawFormatBars_any _ _ W r0

theorem formatBars_closed : joinedFacts Try.prog 5 Try.f5 Rows.fnExactFormatBarsSpec Rows.fnExactFormatBarsRow = true := by
  unfold joinedFacts
  refine band (band (band (band (band (band (band ?_ seatEnter) seatLifts) seatMake) ?_) ?_) ?_) ?_ <;> kernel_rfl

theorem formatBars_holds : Rows.FnExactFormatBarsSaid :=
  OpenClaim.holds_of_wide 5 Try.f5 rfl rfl rfl rfl rfl rfl rfl ⟨rfl, rfl, rfl, rfl, rfl⟩ rfl rfl rfl rfl rfl (by kernel_rfl) Try.func5 formatBars_closed
    (of_decide_eq_true (by kernel_rfl)) (by unfold Func.isWrapper; first | (rw [if_pos (by decide +kernel)]; kernel_rfl) | (rw [if_neg (by decide +kernel)]; exact ⟨rfl, rfl⟩))
    (fun os started H enc _ => formatBars_lifted os started H enc)
#print axioms formatBars_holds
end Go.Proofs.Ytjhllgldllbaaaa
