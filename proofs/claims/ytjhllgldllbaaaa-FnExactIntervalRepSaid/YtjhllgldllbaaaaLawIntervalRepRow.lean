/- FnExactIntervalRep is proved: for every argument the program's IntervalRep returns what the reference's returns, leaves its arguments as they were, and returns memory of its own. No condition. -/
import Derived.Test.YtjhllgldllbaaaaLawIntervalRep
import Derived.Test.YtjhllgldllbaaaaRow
import Derived.Test.YtjhllgldllbaaaaRowQ
import Derived.Test.YtjhllgldllbaaaaSeat
namespace Go.Proofs.Ytjhllgldllbaaaa
set_option linter.unusedVariables false
set_option linter.unusedSimpArgs false
open Go.RowKit Go.ChangeShapes Go.WideShapes Go.ChangeAt Go.Deep

set_option maxRecDepth 100000 in
theorem intervalRep_lifted (os : Os) (started : os.Started) (H : Type) (enc : TypeId × Value → H) :
    ReturnsInHanded {} Try.checked os 4 .any (Rows.fnExactIntervalRepSpec.pre6 enc Try.prog Try.f4 Rows.fnExactIntervalRepRow.domain false) (Rows.fnExactIntervalRepSpec.post enc Try.prog Try.f4 false true false false) := by
  refine lift_law started (by kernel_rfl) Try.func4 (ChangeSpec.witness6 (enc := enc) (C := Try.checked) false ⟨#[], #[.int .i64 0, .agg #[.int .i64 0, .slice none 0 0, .slice none 0 0], .int .i64 0, .int .i64 0], []⟩ 8 (by kernel_rfl) (by kernel_rfl) (by kernel_rfl) (by kernel_rfl))
    rfl rfl (by rw [Try.params4]; intro t ht; simp only [List.mem_cons, List.not_mem_nil, or_false] at ht; rcases ht with rfl | rfl | rfl | rfl <;> exact ⟨by kernel_rfl, of_decide_eq_true (by kernel_rfl)⟩) (fun ds hl => by rw [Try.params4] at hl; match ds, hl with | [_, _, _, _], _ => rfl) ?_
  intro W args ds ps base hval hA hwt
  rw [Try.params4] at hA hval hwt
  obtain ⟨v0, v1, v2, v3, d0, d1, d2, d3, p0, p1, p2, p3, hargs, rfl, rfl, h0, h1, h2, h3⟩ := trodAll_four hA
  obtain rfl : args = #[v0, v1, v2, v3] := by cases args; simp_all
  obtain ⟨x0, rfl, r0⟩ := argInt (hval 0 _ _ rfl rfl) h0
  obtain ⟨x1, r1⟩ := argQuiver (hval 1 _ _ rfl rfl) h1 (hwt 1 _ _ rfl rfl)
  obtain ⟨x2, rfl, r2⟩ := argInt (hval 2 _ _ rfl rfl) h2
  obtain ⟨x3, rfl, r3⟩ := argInt (hval 3 _ _ rfl rfl) h3
  exact lawIntervalRep_any _ _ _ _ _ W r0 r1 r2 r3

theorem intervalRep_closed : joinedFacts Try.prog 4 Try.f4 Rows.fnExactIntervalRepSpec Rows.fnExactIntervalRepRow = true := by
  unfold joinedFacts
  refine band (band (band (band (band (band (band ?_ seatEnter) seatLifts) seatMake) ?_) ?_) ?_) ?_ <;> kernel_rfl

theorem intervalRep_holds : Rows.FnExactIntervalRepSaid :=
  OpenClaim.holds_of_wide 4 Try.f4 rfl rfl rfl rfl rfl rfl rfl ⟨rfl, rfl, rfl, rfl, rfl⟩ rfl rfl rfl rfl rfl (by kernel_rfl) Try.func4 intervalRep_closed
    (of_decide_eq_true (by kernel_rfl)) (by unfold Func.isWrapper; first | (rw [if_pos (by decide +kernel)]; kernel_rfl) | (rw [if_neg (by decide +kernel)]; exact ⟨rfl, rfl⟩))
    (fun os started H enc _ => intervalRep_lifted os started H enc)
#print axioms intervalRep_holds
end Go.Proofs.Ytjhllgldllbaaaa
