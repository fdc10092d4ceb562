/- FnExactIsPencil is proved: for every argument the program's IsPencil returns what the reference's returns, leaves its arguments as they were, and returns memory of its own. No condition. -/
import Derived.Test.YtpcgjjflmhnimaaLawIsPencil
import Derived.Test.YtpcgjjflmhnimaaRow
import Derived.Test.YtpcgjjflmhnimaaRowR
namespace Go.Proofs.Ytpcgjjflmhnimaa
set_option linter.unusedVariables false
set_option linter.unusedSimpArgs false
open Go.RowKit Go.ChangeShapes Go.WideShapes Go.ChangeAt Go.Deep

set_option maxRecDepth 100000 in
theorem isPencil_lifted (os : Os) (started : os.Started) (H : Type) (enc : TypeId × Value → H) :
    ReturnsInHanded {} Try.checked os 4 .any (Rows.fnExactIsPencilSpec.pre6 enc Try.prog Try.f4 Rows.fnExactIsPencilRow.domain false) (Rows.fnExactIsPencilSpec.post enc Try.prog Try.f4 false true false false) := by
  refine lift_law started (by kernel_rfl) Try.func4 (ChangeSpec.witness6 (enc := enc) (C := Try.checked) false ⟨#[], #[.agg #[.int .i64 0, .int .i64 0, .slice none 0 0, .slice none 0 0, .slice none 0 0, .slice none 0 0]], []⟩ 8 (by kernel_rfl) (by kernel_rfl) (by kernel_rfl) (by kernel_rfl))
    rfl rfl (by rw [Try.params4]; intro t ht; simp only [List.mem_cons, List.not_mem_nil, or_false] at ht; rcases ht with rfl <;> exact ⟨by kernel_rfl, of_decide_eq_true (by kernel_rfl)⟩) (fun ds hl => by rw [Try.params4] at hl; match ds, hl with | [_], _ => rfl) ?_
  intro W args ds ps base hval hA hwt
  rw [Try.params4] at hA hval hwt
  obtain ⟨v0, d0, hargs, rfl, h0⟩ := trodAll_one hA
  obtain rfl : args = #[v0] := by cases args; simp_all
  obtain ⟨x0, r0⟩ := argRep (hval 0 _ _ rfl rfl) h0 (hwt 0 _ _ rfl rfl)
  exact lawIsPencil_any _ _ W r0

theorem isPencil_holds : Rows.FnExactIsPencilSaid :=
  OpenClaim.holds_of_wide 4 Try.f4 rfl rfl rfl rfl rfl rfl rfl ⟨rfl, rfl, rfl, rfl, rfl⟩ rfl rfl rfl rfl rfl (by kernel_rfl) Try.func4 (by kernel_rfl)
    (of_decide_eq_true (by kernel_rfl)) (by unfold Func.isWrapper; first | (rw [if_pos (by decide +kernel)]; kernel_rfl) | (rw [if_neg (by decide +kernel)]; exact ⟨rfl, rfl⟩))
    (fun os started H enc _ => isPencil_lifted os started H enc)
#print axioms isPencil_holds
end Go.Proofs.Ytpcgjjflmhnimaa
