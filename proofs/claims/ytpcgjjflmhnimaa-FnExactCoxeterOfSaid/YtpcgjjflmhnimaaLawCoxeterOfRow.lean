/- FnExactCoxeterOf is proved: for every argument the program's CoxeterOf returns what the reference's returns, leaves its arguments as they were, and returns memory of its own. No condition. -/
import Derived.Test.YtpcgjjflmhnimaaLawCoxeterOf
import Derived.Test.YtpcgjjflmhnimaaRow
import Derived.Test.YtpcgjjflmhnimaaRowQ
namespace Go.Proofs.Ytpcgjjflmhnimaa
set_option linter.unusedVariables false
set_option linter.unusedSimpArgs false
open Go.RowKit Go.ChangeShapes Go.WideShapes Go.ChangeAt Go.Deep

set_option maxRecDepth 100000 in
theorem coxeterOf_lifted (os : Os) (started : os.Started) (H : Type) (enc : TypeId × Value → H) :
    ReturnsInHanded {} Try.checked os 9 .any (Rows.fnExactCoxeterOfSpec.pre6 enc Try.prog Try.f9 Rows.fnExactCoxeterOfRow.domain false) (Rows.fnExactCoxeterOfSpec.post enc Try.prog Try.f9 false true false false) := by
  refine lift_law started (by kernel_rfl) Try.func9 (ChangeSpec.witness6 (enc := enc) (C := Try.checked) false ⟨#[], #[.agg #[.int .i64 0, .slice none 0 0, .slice none 0 0], .slice none 0 0], []⟩ 8 (by kernel_rfl) (by kernel_rfl) (by kernel_rfl) (by kernel_rfl))
    rfl rfl (by rw [Try.params9]; intro t ht; simp only [List.mem_cons, List.not_mem_nil, or_false] at ht; rcases ht with rfl | rfl <;> exact ⟨by kernel_rfl, of_decide_eq_true (by kernel_rfl)⟩) (fun ds hl => by rw [Try.params9] at hl; match ds, hl with | [_, _], _ => rfl) ?_
  intro W args ds ps base hval hA hwt
  rw [Try.params9] at hA hval hwt
  obtain ⟨v0, v1, d0, d1, p0, p1, hargs, rfl, rfl, h0, h1⟩ := trodAll_two hA
  obtain rfl : args = #[v0, v1] := by cases args; simp_all
  obtain ⟨x0, r0⟩ := argQuiver (hval 0 _ _ rfl rfl) h0 (hwt 0 _ _ rfl rfl)
  obtain ⟨x1, r1⟩ := argInts (hval 1 _ _ rfl rfl) h1 (hwt 1 _ _ rfl rfl)
  exact lawCoxeterOf_any _ _ _ _ W r0 r1

theorem seatEnter : Try.prog.mayEnter = true := by kernel_rfl
theorem seatLifts : (false == Try.prog.liftsFinal) = true := by kernel_rfl
theorem seatMake : (Try.prog.make == some .cut) = true := by kernel_rfl
theorem band {a b : Bool} (h : a = true) (k : b = true) : (a && b) = true := by rw [h, k]; rfl
theorem coxeterOf_closed : joinedFacts Try.prog 9 Try.f9 Rows.fnExactCoxeterOfSpec Rows.fnExactCoxeterOfRow = true := by
  unfold joinedFacts
  refine band (band (band (band (band (band (band ?_ seatEnter) seatLifts) seatMake) ?_) ?_) ?_) ?_ <;> kernel_rfl

theorem coxeterOf_holds : Rows.FnExactCoxeterOfSaid :=
  OpenClaim.holds_of_wide 9 Try.f9 rfl rfl rfl rfl rfl rfl rfl ⟨rfl, rfl, rfl, rfl, rfl⟩ rfl rfl rfl rfl rfl (by kernel_rfl) Try.func9 coxeterOf_closed
    (of_decide_eq_true (by kernel_rfl)) (by unfold Func.isWrapper; first | (rw [if_pos (by decide +kernel)]; kernel_rfl) | (rw [if_neg (by decide +kernel)]; exact ⟨rfl, rfl⟩))
    (fun os started H enc _ => coxeterOf_lifted os started H enc)
#print axioms coxeterOf_holds
end Go.Proofs.Ytpcgjjflmhnimaa
