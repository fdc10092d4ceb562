/- FnExactAreBars is proved: for every argument the program's AreBars returns what the reference's returns, leaves its arguments as they were, and returns memory of its own. No condition. -/
import Derived.Test.YtjhllgldllbaaaaLawAreBars
import Derived.Test.YtjhllgldllbaaaaRow
import Derived.Test.YtjhllgldllbaaaaRowB
import Derived.Test.YtjhllgldllbaaaaRowQ
import Derived.Test.YtjhllgldllbaaaaSeat
namespace Go.Proofs.Ytjhllgldllbaaaa
set_option linter.unusedVariables false
set_option linter.unusedSimpArgs false
open Go.RowKit Go.ChangeShapes Go.WideShapes Go.ChangeAt Go.Deep

set_option maxRecDepth 100000 in
theorem areBars_lifted (os : Os) (started : os.Started) (H : Type) (enc : TypeId × Value → H) :
    ReturnsInHanded {} Try.checked os 6 .any (Rows.fnExactAreBarsSpec.pre6 enc Try.prog Try.f6 Rows.fnExactAreBarsRow.domain false) (Rows.fnExactAreBarsSpec.post enc Try.prog Try.f6 false true false false) := by
  refine lift_law started (by kernel_rfl) Try.func6 (ChangeSpec.witness6 (enc := enc) (C := Try.checked) false ⟨#[], #[.agg #[.int .i64 0, .slice none 0 0, .slice none 0 0], .slice none 0 0], []⟩ 8 (by kernel_rfl) (by kernel_rfl) (by kernel_rfl) (by kernel_rfl))
    rfl rfl (by rw [Try.params6]; intro t ht; simp only [List.mem_cons, List.not_mem_nil, or_false] at ht; rcases ht with rfl | rfl <;> exact ⟨by kernel_rfl, of_decide_eq_true (by kernel_rfl)⟩) (fun ds hl => by rw [Try.params6] at hl; match ds, hl with | [_, _], _ => rfl) ?_
  intro W args ds ps base hval hA hwt
  rw [Try.params6] at hA hval hwt
  obtain ⟨v0, v1, d0, d1, p0, p1, hargs, rfl, rfl, h0, h1⟩ := trodAll_two hA
  obtain rfl : args = #[v0, v1] := by cases args; simp_all
  obtain ⟨x0, r0⟩ := argQuiver (hval 0 _ _ rfl rfl) h0 (hwt 0 _ _ rfl rfl)
  obtain ⟨x1, r1⟩ := argBars (hval 1 _ _ rfl rfl) h1 (hwt 1 _ _ rfl rfl)
  exact lawAreBars_any _ _ _ _ W r0 r1

theorem areBars_closed : joinedFacts Try.prog 6 Try.f6 Rows.fnExactAreBarsSpec Rows.fnExactAreBarsRow = true := by
  unfold joinedFacts
  refine band (band (band (band (band (band (band ?_ seatEnter) seatLifts) seatMake) ?_) ?_) ?_) ?_ <;> kernel_rfl

theorem areBars_holds : Rows.FnExactAreBarsSaid :=
  OpenClaim.holds_of_wide 6 Try.f6 rfl rfl rfl rfl rfl rfl rfl ⟨rfl, rfl, rfl, rfl, rfl⟩ rfl rfl rfl rfl rfl (by kernel_rfl) Try.func6 areBars_closed
    (of_decide_eq_true (by kernel_rfl)) (by unfold Func.isWrapper; first | (rw [if_pos (by decide +kernel)]; kernel_rfl) | (rw [if_neg (by decide +kernel)]; exact ⟨rfl, rfl⟩))
    (fun os started H enc _ => areBars_lifted os started H enc)
#print axioms areBars_holds
end Go.Proofs.Ytjhllgldllbaaaa
