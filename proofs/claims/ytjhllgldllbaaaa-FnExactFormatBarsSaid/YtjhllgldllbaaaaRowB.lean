/- Bars among the arguments of a law. -/
import Derived.Test.YtjhllgldllbaaaaRow
namespace Go.Proofs.Ytjhllgldllbaaaa
set_option linter.unusedVariables false
set_option linter.unusedSimpArgs false
open Go.RowKit Go.ChangeShapes Go.WideShapes Go.ChangeAt Go.Deep

set_option maxRecDepth 100000 in
theorem argBars {H : Type} {enc : TypeId × Value → H} {w : World} {base : Nat} {v : Value} {d : DataW H} {p : List MemPlace} (hv : Value.okWide Try.prog w .any base 38 v) (h : DataW.Trod enc Try.prog w 0 (fun _ => true) true 38 v d p) (hw : Wt 38 d) : ∃ xs, SlB w w.heap.size v xs := by
  obtain ⟨f0, h0⟩ := argSl Try.underlying38 hv h
  have el := fun (fuel b o : Nat) cs y => openBar (H := H) (enc := enc) (w := w) Try.underlying82 rfl rfl rfl fuel b o cs y
  obtain ⟨u0, xs, e0, hx⟩ := openSl Try.underlying38 (sz := 3) (by kernel_rfl) (by decide) (of_decide_eq_true (by kernel_rfl)) el h0 hw
  injection e0 with e0
  subst e0
  exact ⟨xs, hx⟩
end Go.Proofs.Ytjhllgldllbaaaa
