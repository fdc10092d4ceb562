/- FnExactPencilOf is proved: for every argument the program's PencilOf returns what the reference's returns, leaves its arguments as they were, and returns memory of its own. No condition. -/
import Derived.Test.YtpcgjjflmhnimaaLawPencilOf
import Derived.Test.YtpcgjjflmhnimaaRow
import Derived.Test.YtpcgjjflmhnimaaRowM
namespace Go.Proofs.Ytpcgjjflmhnimaa
set_option linter.unusedVariables false
set_option linter.unusedSimpArgs false
open Go.RowKit Go.ChangeShapes Go.WideShapes Go.ChangeAt Go.Deep

set_option maxRecDepth 100000 in
theorem pencilOf_lifted (os : Os) (started : os.Started) (H : Type) (enc : TypeId × Value → H) :
    ReturnsInHanded {} Try.checked os 7 .any (Rows.fnExactPencilOfSpec.pre6 enc Try.prog Try.f7 Rows.fnExactPencilOfRow.domain false) (Rows.fnExactPencilOfSpec.post enc Try.prog Try.f7 false true false false) := by
  refine lift_law started (by kernel_rfl) Try.func7 (ChangeSpec.witness6 (enc := enc) (C := Try.checked) false ⟨#[], #[.int .i64 0, .agg #[.int .i64 0, .int .i64 0, .slice none 0 0], .agg #[.int .i64 0, .int .i64 0, .slice none 0 0]], []⟩ 8 (by kernel_rfl) (by kernel_rfl) (by kernel_rfl) (by kernel_rfl))
    rfl rfl (by rw [Try.params7]; intro t ht; simp only [List.mem_cons, List.not_mem_nil, or_false] at ht; rcases ht with rfl | rfl | rfl <;> exact ⟨by kernel_rfl, of_decide_eq_true (by kernel_rfl)⟩) (fun ds hl => by rw [Try.params7] at hl; match ds, hl with | [_, _, _], _ => rfl) ?_
  intro W args ds ps base hval hA hwt
  rw [Try.params7] at hA hval hwt
  obtain ⟨v0, v1, v2, d0, d1, d2, p0, p1, p2, hargs, rfl, rfl, h0, h1, h2⟩ := trodAll_three hA
  obtain rfl : args = #[v0, v1, v2] := by cases args; simp_all
  obtain ⟨x0, rfl, r0⟩ := argInt (hval 0 _ _ rfl rfl) h0
  obtain ⟨x1, r1⟩ := argMat (hval 1 _ _ rfl rfl) h1 (hwt 1 _ _ rfl rfl)
  obtain ⟨x2, r2⟩ := argMat (hval 2 _ _ rfl rfl) h2 (hwt 2 _ _ rfl rfl)
  exact lawPencilOf_any _ _ _ _ _ W r0 r1 r2

theorem seatEnter : Try.prog.mayEnter = true := by kernel_rfl
theorem seatLifts : (false == Try.prog.liftsFinal) = true := by kernel_rfl
theorem seatMake : (Try.prog.make == some .cut) = true := by kernel_rfl
theorem band {a b : Bool} (h : a = true) (k : b = true) : (a && b) = true := by rw [h, k]; rfl
theorem pencilOf_closed : joinedFacts Try.prog 7 Try.f7 Rows.fnExactPencilOfSpec Rows.fnExactPencilOfRow = true := by
  unfold joinedFacts
  refine band (band (band (band (band (band (band ?_ seatEnter) seatLifts) seatMake) ?_) ?_) ?_) ?_ <;> kernel_rfl

theorem pencilOf_holds : Rows.FnExactPencilOfSaid :=
  OpenClaim.holds_of_wide 7 Try.f7 rfl rfl rfl rfl rfl rfl rfl ⟨rfl, rfl, rfl, rfl, rfl⟩ rfl rfl rfl rfl rfl (by kernel_rfl) Try.func7 pencilOf_closed
    (of_decide_eq_true (by kernel_rfl)) (by unfold Func.isWrapper; first | (rw [if_pos (by decide +kernel)]; kernel_rfl) | (rw [if_neg (by decide +kernel)]; exact ⟨rfl, rfl⟩))
    (fun os started H enc _ => pencilOf_lifted os started H enc)
#print axioms pencilOf_holds
end Go.Proofs.Ytpcgjjflmhnimaa
