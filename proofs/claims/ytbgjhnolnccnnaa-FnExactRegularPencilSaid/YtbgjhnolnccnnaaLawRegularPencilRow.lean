/- FnExactRegularPencil is proved: for every argument the program's RegularPencil returns what the reference's returns, leaves its arguments as they were, and returns memory of its own. No condition. -/
import Derived.Test.YtbgjhnolnccnnaaLawRegularPencil
import Derived.Test.YtbgjhnolnccnnaaRow
namespace Go.Proofs.Ytbgjhnolnccnnaa
set_option linter.unusedVariables false
set_option linter.unusedSimpArgs false
open Go.RowKit Go.ChangeShapes Go.WideShapes Go.ChangeAt Go.Deep

set_option maxRecDepth 100000 in
theorem regularPencil_lifted (os : Os) (started : os.Started) (H : Type) (enc : TypeId × Value → H) :
    ReturnsInHanded {} Try.checked os 7 .any (Rows.fnExactRegularPencilSpec.pre6 enc Try.prog Try.f7 Rows.fnExactRegularPencilRow.domain false) (Rows.fnExactRegularPencilSpec.post enc Try.prog Try.f7 false true false false) := by
  refine lift_law started (by kernel_rfl) Try.func7 (ChangeSpec.witness6 (enc := enc) (C := Try.checked) false ⟨#[], #[.int .i64 0, .int .i64 0, .int .i64 0], []⟩ 8 (by kernel_rfl) (by kernel_rfl) (by kernel_rfl) (by kernel_rfl))
    rfl rfl (by rw [Try.params7]; intro t ht; simp only [List.mem_cons, List.not_mem_nil, or_false] at ht; rcases ht with rfl | rfl | rfl <;> exact ⟨by kernel_rfl, of_decide_eq_true (by kernel_rfl)⟩) (fun ds hl => by rw [Try.params7] at hl; match ds, hl with | [_, _, _], _ => rfl) ?_
  intro W args ds ps base hval hA hwt
  rw [Try.params7] at hA hval hwt
  obtain ⟨v0, v1, v2, d0, d1, d2, p0, p1, p2, hargs, rfl, rfl, h0, h1, h2⟩ := trodAll_three hA
  obtain rfl : args = #[v0, v1, v2] := by cases args; simp_all
  obtain ⟨x0, rfl, r0⟩ := argInt (hval 0 _ _ rfl rfl) h0
  obtain ⟨x1, rfl, r1⟩ := argInt (hval 1 _ _ rfl rfl) h1
  obtain ⟨x2, rfl, r2⟩ := argInt (hval 2 _ _ rfl rfl) h2
  exact lawRegularPencil_any _ _ _ W r0 r1 r2

theorem seatEnter : Try.prog.mayEnter = true := by kernel_rfl
theorem seatLifts : (false == Try.prog.liftsFinal) = true := by kernel_rfl
theorem seatMake : (Try.prog.make == some .cut) = true := by kernel_rfl
theorem band {a b : Bool} (h : a = true) (k : b = true) : (a && b) = true := by rw [h, k]; rfl
theorem regularPencil_closed : joinedFacts Try.prog 7 Try.f7 Rows.fnExactRegularPencilSpec Rows.fnExactRegularPencilRow = true := by
  unfold joinedFacts
  refine band (band (band (band (band (band (band ?_ seatEnter) seatLifts) seatMake) ?_) ?_) ?_) ?_ <;> kernel_rfl

theorem regularPencil_holds : Rows.FnExactRegularPencilSaid :=
  OpenClaim.holds_of_wide 7 Try.f7 rfl rfl rfl rfl rfl rfl rfl ⟨rfl, rfl, rfl, rfl, rfl⟩ rfl rfl rfl rfl rfl (by kernel_rfl) Try.func7 regularPencil_closed
    (of_decide_eq_true (by kernel_rfl)) (by unfold Func.isWrapper; first | (rw [if_pos (by decide +kernel)]; kernel_rfl) | (rw [if_neg (by decide +kernel)]; exact ⟨rfl, rfl⟩))
    (fun os started H enc _ => regularPencil_lifted os started H enc)
#print axioms regularPencil_holds
end Go.Proofs.Ytbgjhnolnccnnaa
