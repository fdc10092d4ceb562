/- Filtrations among the arguments of a law. -/
import Derived.Test.YtndnjbofflddfaaRow
import Derived.Test.YtndnjbofflddfaaKit3
namespace Go.Proofs.Ytndnjbofflddfaa
set_option linter.unusedVariables false
set_option linter.unusedSimpArgs false
open Go.RowKit Go.ChangeShapes Go.WideShapes Go.ChangeAt Go.Deep

theorem cellsIntss : Try.prog.cellsOf 47 = 1 := by kernel_rfl
set_option maxRecDepth 100000 in
theorem elInts {H : Type} {enc : TypeId × Value → H} {w : World} : ∀ (fuel b o : Nat) (cs : List Value) (y : DataW H × List MemPlace), (∀ j, j < 1 → w.cell? ⟨b, o + j, none⟩ = cs[j]?) → cs.length = 1 → TrodA enc w fuel 28 cs y → Wt 28 y.1 → ∃ a, RSlI w w.heap.size b o a := by
  intro fuel b o cs y hc hl h hw
  obtain ⟨v, xs, rfl, hx⟩ := openInts h hw
  exact ⟨xs, v, by simpa using hc 0 (by omega), hx⟩
set_option maxRecDepth 100000 in
theorem openIntss {H : Type} {enc : TypeId × Value → H} {w : World} {fuel : Nat} {cs : List Value} {x : DataW H × List MemPlace} (h : TrodA enc w fuel 47 cs x) (hw : Wt 47 x.1) : ∃ v xs, cs = [v] ∧ SlII w w.heap.size v xs :=
  openSl Try.underlying47 (sz := 1) cellsInts (by decide) (of_decide_eq_true (by kernel_rfl)) elInts h hw
set_option maxRecDepth 100000 in
theorem argFilt {H : Type} {enc : TypeId × Value → H} {w : World} {base : Nat} {v : Value} {d : DataW H} {p : List MemPlace} (hv : Value.okWide Try.prog w .any base 49 v) (h : DataW.Trod enc Try.prog w 0 (fun _ => true) true 49 v d p) (hw : Wt 49 d) : ∃ q, FiR w w.heap.size v q := by
  obtain ⟨fuel, cs, rfl, hsz, h⟩ := argAgg Try.underlying49 hv h
  obtain ⟨n, e0, r0⟩ := intAt Try.underlying49 h hw 0 rfl
  obtain ⟨vf, f, e1, hf⟩ := cellAt Try.underlying49 h hw 1 rfl cellsInts (R := fun v a => SlI w w.heap.size v a) (fun _ _ _ h h' => openInts h h')
  obtain ⟨vt, t, e2, ht⟩ := cellAt Try.underlying49 h hw 2 rfl cellsIntss (R := fun v a => SlII w w.heap.size v a) (fun _ _ _ h h' => openIntss h h')
  refine ⟨⟨n, f, t⟩, vf, vt, ?_, hf, ht, r0⟩
  have hs : cs.size = 3 := hsz.trans (by kernel_rfl)
  congr 1
  apply Array.ext_getElem?
  intro i
  match i with
  | 0 => simpa using e0
  | 1 => simpa using e1
  | 2 => simpa using e2
  | i + 3 => rw [Array.getElem?_eq_none (by omega), Array.getElem?_eq_none (by simp)]
end Go.Proofs.Ytndnjbofflddfaa
