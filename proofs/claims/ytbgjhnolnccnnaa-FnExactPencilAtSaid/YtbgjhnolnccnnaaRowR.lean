/- Representations among the arguments of a law. -/
import Derived.Test.YtbgjhnolnccnnaaRowM
import Derived.Test.YtbgjhnolnccnnaaKitR
namespace Go.Proofs.Ytbgjhnolnccnnaa
set_option linter.unusedVariables false
set_option linter.unusedSimpArgs false
open Go.RowKit Go.ChangeShapes Go.WideShapes Go.ChangeAt Go.Deep

theorem cellsMx : Try.prog.cellsOf 128 = 3 := by kernel_rfl
theorem cellsMxs : Try.prog.cellsOf 55 = 1 := by kernel_rfl
theorem cellsQv : Try.prog.cellsOf 31 = 3 := by kernel_rfl
set_option maxRecDepth 100000 in
theorem elMx {H : Type} {enc : TypeId × Value → H} {w : World} : ∀ (fuel b o : Nat) (cs : List Value) (y : DataW H × List MemPlace), (∀ j, j < 3 → w.cell? ⟨b, o + j, none⟩ = cs[j]?) → cs.length = 3 → TrodA enc w fuel 128 cs y → Wt 128 y.1 → ∃ a, RMx w w.heap.size b o a := by
  intro fuel b o cs y hc hl h hw
  obtain ⟨m, s, e0, e1, e2, hs, r0, r1⟩ := mxAt h hw
  exact ⟨m, s, by rw [← e0]; simpa using hc 0 (by omega), by rw [← e1]; exact hc 1 (by omega), by rw [← e2]; exact hc 2 (by omega), hs, r0, r1⟩
set_option maxRecDepth 100000 in
theorem openMxs {H : Type} {enc : TypeId × Value → H} {w : World} {fuel : Nat} {cs : List Value} {x : DataW H × List MemPlace} (h : TrodA enc w fuel 55 cs x) (hw : Wt 55 x.1) : ∃ v xs, cs = [v] ∧ SlM w w.heap.size v xs :=
  haveI : Inhabited Mx := ⟨⟨0, 0, []⟩⟩
  openSl Try.underlying55 (sz := 3) cellsMx (by decide) (of_decide_eq_true (by kernel_rfl)) elMx h hw
set_option maxRecDepth 100000 in
theorem argRep {H : Type} {enc : TypeId × Value → H} {w : World} {base : Nat} {v : Value} {d : DataW H} {p : List MemPlace} (hv : Value.okWide Try.prog w .any base 57 v) (h : DataW.Trod enc Try.prog w 0 (fun _ => true) true 57 v d p) (hw : Wt 57 d) : ∃ x, RpR w w.heap.size v x := by
  obtain ⟨fuel, cs, rfl, hsz, h⟩ := argAgg Try.underlying57 hv h
  obtain ⟨pp, e0, r0⟩ := intAt Try.underlying57 h hw 0 rfl
  obtain ⟨n1, y1, h1, w1⟩ := structAt Try.underlying57 h hw 1 (T := 31) (off := 1) rfl
  obtain ⟨vd, dd, e4, hd⟩ := cellAt Try.underlying57 h hw 2 rfl cellsInts (R := fun v a => SlI w w.heap.size v a) (fun _ _ _ h h' => openInts h h')
  obtain ⟨vm, mm, e5, hm⟩ := cellAt Try.underlying57 h hw 3 rfl cellsMxs (R := fun v a => SlM w w.heap.size v a) (fun _ _ _ h h' => openMxs h h')
  rw [cellsQv] at h1
  obtain ⟨vv, e1, r1⟩ := intAt Try.underlying31 h1 w1 0 rfl
  obtain ⟨vf, f, e2, hf⟩ := cellAt Try.underlying31 h1 w1 1 rfl cellsInts (R := fun v a => SlI w w.heap.size v a) (fun _ _ _ h h' => openInts h h')
  obtain ⟨vt, t, e3, ht⟩ := cellAt Try.underlying31 h1 w1 2 rfl cellsInts (R := fun v a => SlI w w.heap.size v a) (fun _ _ _ h h' => openInts h h')
  simp only [List.getElem?_take, List.getElem?_drop, Array.getElem?_toList] at e0 e1 e2 e3 e4 e5
  refine ⟨⟨pp, ⟨vv, f, t⟩, dd, mm⟩, vf, vt, vd, vm, ?_, hf, ht, hd, hm, r0, r1⟩
  have hs : cs.size = 6 := hsz.trans (by kernel_rfl)
  congr 1
  apply Array.ext_getElem?
  intro i
  match i with
  | 0 => simpa using e0
  | 1 => simpa using e1
  | 2 => simpa using e2
  | 3 => simpa using e3
  | 4 => simpa using e4
  | 5 => simpa using e5
  | i + 6 => rw [Array.getElem?_eq_none (by omega), Array.getElem?_eq_none (by simp)]
end Go.Proofs.Ytbgjhnolnccnnaa
