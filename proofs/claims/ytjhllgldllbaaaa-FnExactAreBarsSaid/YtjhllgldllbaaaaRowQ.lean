/- Quivers among the arguments of a law. -/
import Derived.Test.YtjhllgldllbaaaaRow
import Derived.Test.YtjhllgldllbaaaaQuiv
namespace Go.Proofs.Ytjhllgldllbaaaa
set_option linter.unusedVariables false
set_option linter.unusedSimpArgs false
open Go.RowKit Go.ChangeShapes Go.WideShapes Go.ChangeAt Go.Deep

set_option maxRecDepth 100000 in
theorem argQuiver {H : Type} {enc : TypeId × Value → H} {w : World} {base : Nat} {v : Value} {d : DataW H} {p : List MemPlace} (hv : Value.okWide Try.prog w .any base 24 v) (h : DataW.Trod enc Try.prog w 0 (fun _ => true) true 24 v d p) (hw : Wt 24 d) : ∃ q, QvR w w.heap.size v q := by
  obtain ⟨fuel, cs, rfl, hsz, h⟩ := argAgg Try.underlying24 hv h
  obtain ⟨n, e0, r0⟩ := intAt Try.underlying24 h hw 0 rfl
  obtain ⟨vf, f, e1, hf⟩ := cellAt Try.underlying24 h hw 1 rfl cellsInts (R := fun v a => SlI w w.heap.size v a) (fun _ _ _ h h' => openInts h h')
  obtain ⟨vt, t, e2, ht⟩ := cellAt Try.underlying24 h hw 2 rfl cellsInts (R := fun v a => SlI w w.heap.size v a) (fun _ _ _ h h' => openInts h h')
  refine ⟨⟨n, f, t⟩, vf, vt, ?_, hf, ht, r0⟩
  have hs : cs.size = 3 := hsz.trans (by kernel_rfl)
  congr 1
  apply Array.ext_getElem?
  intro i
  match i with
  | 0 => simpa using e0
  | 1 => simpa using e1
  | 2 => simpa using e2
  | i + 3 => rw [Array.getElem?_eq_none (by omega), Array.getElem?_eq_none (by simp)]
end Go.Proofs.Ytjhllgldllbaaaa
