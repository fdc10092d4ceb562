/- Matrices among the arguments of a law. -/
import Derived.Test.YtbgjhnolnccnnaaRow
import Derived.Test.YtbgjhnolnccnnaaKitM
namespace Go.Proofs.Ytbgjhnolnccnnaa
set_option linter.unusedVariables false
set_option linter.unusedSimpArgs false
open Go.RowKit Go.ChangeShapes Go.WideShapes Go.ChangeAt Go.Deep

set_option maxRecDepth 100000 in
theorem mxAt {H : Type} {enc : TypeId × Value → H} {w : World} {fuel : Nat} {cs : List Value} {x : DataW H × List MemPlace} (h : TrodA enc w fuel 128 cs x) (hw : Wt 128 x.1) :
    ∃ (m : Mx) (s : Value), cs[0]? = some (.int .i64 m.r) ∧ cs[1]? = some (.int .i64 m.c) ∧ cs[2]? = some s ∧ SlI w w.heap.size s m.a ∧ I64 m.r ∧ I64 m.c := by
  obtain ⟨n, e0, r0⟩ := intAt Try.underlying128 h hw 0 rfl
  obtain ⟨k, e1, r1⟩ := intAt Try.underlying128 h hw 1 rfl
  obtain ⟨vf, f, e2, hf⟩ := cellAt Try.underlying128 h hw 2 rfl cellsInts (R := fun v a => SlI w w.heap.size v a) (fun _ _ _ h h' => openInts h h')
  exact ⟨⟨n, k, f⟩, vf, e0, e1, e2, hf, r0, r1⟩
set_option maxRecDepth 100000 in
theorem argMat {H : Type} {enc : TypeId × Value → H} {w : World} {base : Nat} {v : Value} {d : DataW H} {p : List MemPlace} (hv : Value.okWide Try.prog w .any base 128 v) (h : DataW.Trod enc Try.prog w 0 (fun _ => true) true 128 v d p) (hw : Wt 128 d) : ∃ m, MxR w w.heap.size v m := by
  obtain ⟨fuel, cs, rfl, hsz, h⟩ := argAgg Try.underlying128 hv h
  obtain ⟨m, s, e0, e1, e2, hs, r0, r1⟩ := mxAt h hw
  refine ⟨m, s, ?_, hs, r0, r1⟩
  have hs : cs.size = 3 := hsz.trans (by kernel_rfl)
  congr 1
  apply Array.ext_getElem?
  intro i
  match i with
  | 0 => simpa using e0
  | 1 => simpa using e1
  | 2 => simpa using e2
  | i + 3 => rw [Array.getElem?_eq_none (by omega), Array.getElem?_eq_none (by simp)]
end Go.Proofs.Ytbgjhnolnccnnaa
