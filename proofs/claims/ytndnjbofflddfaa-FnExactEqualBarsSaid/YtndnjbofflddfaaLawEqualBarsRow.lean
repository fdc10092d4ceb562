/- FnExactEqualBars is proved: for every two lists of bars the program's EqualBars returns what the reference's returns, and leaves both lists as they were. No condition. -/
import Derived.Test.YtndnjbofflddfaaLawEqualBars
import Derived.Test.YtndnjbofflddfaaRow
namespace Go.Proofs.Ytndnjbofflddfaa
open Go.RowKit Go.ChangeShapes Go.WideShapes Go.ChangeAt Go.Deep

set_option maxRecDepth 100000 in
theorem equalBars_lifted (os : Os) (started : os.Started) (H : Type) (enc : TypeId × Value → H) :
    ReturnsInHanded {} Try.checked os 3 .any (Rows.fnExactEqualBarsSpec.pre6 enc Try.prog Try.f3 Rows.fnExactEqualBarsRow.domain false) (Rows.fnExactEqualBarsSpec.post enc Try.prog Try.f3 false true false false) := by
  refine lift_law started (by kernel_rfl) Try.func3 (ChangeSpec.witness6 (enc := enc) (C := Try.checked) false ⟨#[], #[.slice none 0 0, .slice none 0 0], []⟩ 8 (by kernel_rfl) (by kernel_rfl) (by kernel_rfl) (by kernel_rfl))
    rfl rfl (by rw [Try.params3]; intro t ht; simp at ht; subst ht; exact ⟨by kernel_rfl, of_decide_eq_true (by kernel_rfl)⟩) (fun ds hl => by rw [Try.params3] at hl; match ds, hl with | [_, _], _ => rfl) ?_
  intro W args ds ps base hval hA hwt
  rw [Try.params3] at hA hval hwt
  obtain ⟨v0, v1, d0, d1, p0, p1, hargs, rfl, rfl, h0, h1⟩ := trodAll_two hA
  obtain rfl : args = #[v0, v1] := by cases args; simp_all
  obtain ⟨f0, h0⟩ := argSl Try.underlying22 (hval 0 _ _ rfl rfl) h0
  obtain ⟨f1, h1⟩ := argSl Try.underlying22 (hval 1 _ _ rfl rfl) h1
  have el := fun (fuel b o : Nat) cs y => openBar (H := H) (enc := enc) (w := W) Try.underlying71 rfl rfl rfl fuel b o cs y
  obtain ⟨u0, xs, e0, hx⟩ := openSl Try.underlying22 (sz := 3) (by kernel_rfl) (by decide) (of_decide_eq_true (by kernel_rfl)) el h0 (hwt 0 _ _ rfl rfl)
  obtain ⟨u1, ys, e1, hy⟩ := openSl Try.underlying22 (sz := 3) (by kernel_rfl) (by decide) (of_decide_eq_true (by kernel_rfl)) el h1 (hwt 1 _ _ rfl rfl)
  injection e0 with e0
  injection e1 with e1
  subst e0 e1
  exact lawEqualBars_any _ _ _ _ W hx hy

theorem equalBars_holds : Rows.FnExactEqualBarsSaid :=
  OpenClaim.holds_of_wide 3 Try.f3 rfl rfl rfl rfl rfl rfl rfl ⟨rfl, rfl, rfl, rfl, rfl⟩ rfl rfl rfl rfl rfl (by kernel_rfl) Try.func3 (by kernel_rfl)
    (of_decide_eq_true (by kernel_rfl)) (by unfold Func.isWrapper; first | (rw [if_pos (by decide +kernel)]; kernel_rfl) | (rw [if_neg (by decide +kernel)]; exact ⟨rfl, rfl⟩))
    (fun os started H enc _ => equalBars_lifted os started H enc)
#print axioms equalBars_holds
end Go.Proofs.Ytndnjbofflddfaa
