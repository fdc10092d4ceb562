/- FnExactHasSimpleAtSource: for every argument the program's function returns what the reference's returns. Part 8 of 8 of the proof: RowR, Seat, LawHasSimpleAtSourceRow. No condition. -/
import Derived.Test.YtjhllgldllbaaaaBHasSimpleAtSource7
/- Representations among the arguments of a law. -/
namespace Go.Proofs.Ytjhllgldllbaaaa
set_option linter.unusedVariables false
set_option linter.unusedSimpArgs false
open Go.RowKit Go.ChangeShapes Go.WideShapes Go.ChangeAt Go.Deep

theorem cellsMx : Try.prog.cellsOf 135 = 3 := by kernel_rfl
theorem cellsMxs : Try.prog.cellsOf 53 = 1 := by kernel_rfl
theorem cellsQv : Try.prog.cellsOf 24 = 3 := by kernel_rfl
set_option maxRecDepth 100000 in
theorem elMx {H : Type} {enc : TypeId × Value → H} {w : World} : ∀ (fuel b o : Nat) (cs : List Value) (y : DataW H × List MemPlace), (∀ j, j < 3 → w.cell? ⟨b, o + j, none⟩ = cs[j]?) → cs.length = 3 → TrodA enc w fuel 135 cs y → Wt 135 y.1 → ∃ a, RMx w w.heap.size b o a := by
  intro fuel b o cs y hc hl h hw
  obtain ⟨m, s, e0, e1, e2, hs, r0, r1⟩ := mxAt h hw
  exact ⟨m, s, by rw [← e0]; simpa using hc 0 (by omega), by rw [← e1]; exact hc 1 (by omega), by rw [← e2]; exact hc 2 (by omega), hs, r0, r1⟩
set_option maxRecDepth 100000 in
theorem openMxs {H : Type} {enc : TypeId × Value → H} {w : World} {fuel : Nat} {cs : List Value} {x : DataW H × List MemPlace} (h : TrodA enc w fuel 53 cs x) (hw : Wt 53 x.1) : ∃ v xs, cs = [v] ∧ SlM w w.heap.size v xs :=
  haveI : Inhabited Mx := ⟨⟨0, 0, []⟩⟩
  openSl Try.underlying53 (sz := 3) cellsMx (by decide) (of_decide_eq_true (by kernel_rfl)) elMx h hw
set_option maxRecDepth 100000 in
theorem argRep {H : Type} {enc : TypeId × Value → H} {w : World} {base : Nat} {v : Value} {d : DataW H} {p : List MemPlace} (hv : Value.okWide Try.prog w .any base 55 v) (h : DataW.Trod enc Try.prog w 0 (fun _ => true) true 55 v d p) (hw : Wt 55 d) : ∃ x, RpR w w.heap.size v x := by
  obtain ⟨fuel, cs, rfl, hsz, h⟩ := argAgg Try.underlying55 hv h
  obtain ⟨pp, e0, r0⟩ := intAt Try.underlying55 h hw 0 rfl
  obtain ⟨n1, y1, h1, w1⟩ := structAt Try.underlying55 h hw 1 (T := 24) (off := 1) rfl
  obtain ⟨vd, dd, e4, hd⟩ := cellAt Try.underlying55 h hw 2 rfl cellsInts (R := fun v a => SlI w w.heap.size v a) (fun _ _ _ h h' => openInts h h')
  obtain ⟨vm, mm, e5, hm⟩ := cellAt Try.underlying55 h hw 3 rfl cellsMxs (R := fun v a => SlM w w.heap.size v a) (fun _ _ _ h h' => openMxs h h')
  rw [cellsQv] at h1
  obtain ⟨vv, e1, r1⟩ := intAt Try.underlying24 h1 w1 0 rfl
  obtain ⟨vf, f, e2, hf⟩ := cellAt Try.underlying24 h1 w1 1 rfl cellsInts (R := fun v a => SlI w w.heap.size v a) (fun _ _ _ h h' => openInts h h')
  obtain ⟨vt, t, e3, ht⟩ := cellAt Try.underlying24 h1 w1 2 rfl cellsInts (R := fun v a => SlI w w.heap.size v a) (fun _ _ _ h h' => openInts h h')
  simp only [List.getElem?_take, List.getElem?_drop, Array.getElem?_toList] at e0 e1 e2 e3 e4 e5
  refine ⟨⟨pp, ⟨vv, f, t⟩, dd, mm⟩, vf, vt, vd, vm, ?_, hf, ht, hd, hm, r0, r1⟩
  have hs : cs.size = 6 := hsz.trans (by kernel_rfl)
  congr 1
  apply Array.ext_getElem?
  intro i
  match i with
  | 0 => simpa using e0
  | 1 => simpa using e1
  | 2 => simpa using e2
  | 3 => simpa using e3
  | 4 => simpa using e4
  | 5 => simpa using e5
  | i + 6 => rw [Array.getElem?_eq_none (by omega), Array.getElem?_eq_none (by simp)]
end Go.Proofs.Ytjhllgldllbaaaa

/- Facts of the whole program that every row asks for, each met once for the seat. -/
namespace Go.Proofs.Ytjhllgldllbaaaa
set_option linter.unusedVariables false
set_option linter.unusedSimpArgs false
open Go.RowKit

theorem seatEnter : Try.prog.mayEnter = true := by kernel_rfl
theorem seatLifts : (false == Try.prog.liftsFinal) = true := by kernel_rfl
theorem seatMake : (Try.prog.make == some .cut) = true := by kernel_rfl
theorem band {a b : Bool} (h : a = true) (k : b = true) : (a && b) = true := by rw [h, k]; rfl
end Go.Proofs.Ytjhllgldllbaaaa

/- FnExactHasSimpleAtSource is proved: for every argument the program's HasSimpleAtSource returns what the reference's returns, leaves its arguments as they were, and returns memory of its own. No condition. -/
namespace Go.Proofs.Ytjhllgldllbaaaa
set_option linter.unusedVariables false
set_option linter.unusedSimpArgs false
open Go.RowKit Go.ChangeShapes Go.WideShapes Go.ChangeAt Go.Deep

set_option maxRecDepth 100000 in
theorem hasSimpleAtSource_lifted (os : Os) (started : os.Started) (H : Type) (enc : TypeId × Value → H) :
    ReturnsInHanded {} Try.checked os 11 .any (Rows.fnExactHasSimpleAtSourceSpec.pre6 enc Try.prog Try.f11 Rows.fnExactHasSimpleAtSourceRow.domain false) (Rows.fnExactHasSimpleAtSourceSpec.post enc Try.prog Try.f11 false true false false) := by
  refine lift_law started (by kernel_rfl) Try.func11 (ChangeSpec.witness6 (enc := enc) (C := Try.checked) false ⟨#[], #[.agg #[.int .i64 0, .int .i64 0, .slice none 0 0, .slice none 0 0, .slice none 0 0, .slice none 0 0], .int .i64 0], []⟩ 8 (by kernel_rfl) (by kernel_rfl) (by kernel_rfl) (by kernel_rfl))
    rfl rfl (by rw [Try.params11]; intro t ht; simp only [List.mem_cons, List.not_mem_nil, or_false] at ht; rcases ht with rfl | rfl <;> exact ⟨by kernel_rfl, of_decide_eq_true (by kernel_rfl)⟩) (fun ds hl => by rw [Try.params11] at hl; match ds, hl with | [_, _], _ => rfl) ?_
  intro W args ds ps base hval hA hwt
  rw [Try.params11] at hA hval hwt
  obtain ⟨v0, v1, d0, d1, p0, p1, hargs, rfl, rfl, h0, h1⟩ := trodAll_two hA
  obtain rfl : args = #[v0, v1] := by cases args; simp_all
  obtain ⟨x0, r0⟩ := argRep (hval 0 _ _ rfl rfl) h0 (hwt 0 _ _ rfl rfl)
  obtain ⟨x1, rfl, r1⟩ := argInt (hval 1 _ _ rfl rfl) h1
  exact lawHasSimpleAtSource_any _ _ _ W r0 r1

theorem hasSimpleAtSource_closed : joinedFacts Try.prog 11 Try.f11 Rows.fnExactHasSimpleAtSourceSpec Rows.fnExactHasSimpleAtSourceRow = true := by
  unfold joinedFacts
  refine band (band (band (band (band (band (band ?_ seatEnter) seatLifts) seatMake) ?_) ?_) ?_) ?_ <;> kernel_rfl

theorem hasSimpleAtSource_holds : Rows.FnExactHasSimpleAtSourceSaid :=
  OpenClaim.holds_of_wide 11 Try.f11 rfl rfl rfl rfl rfl rfl rfl ⟨rfl, rfl, rfl, rfl, rfl⟩ rfl rfl rfl rfl rfl (by kernel_rfl) Try.func11 hasSimpleAtSource_closed
    (of_decide_eq_true (by kernel_rfl)) (by unfold Func.isWrapper; first | (rw [if_pos (by decide +kernel)]; kernel_rfl) | (rw [if_neg (by decide +kernel)]; exact ⟨rfl, rfl⟩))
    (fun os started H enc _ => hasSimpleAtSource_lifted os started H enc)
#print axioms hasSimpleAtSource_holds
end Go.Proofs.Ytjhllgldllbaaaa
