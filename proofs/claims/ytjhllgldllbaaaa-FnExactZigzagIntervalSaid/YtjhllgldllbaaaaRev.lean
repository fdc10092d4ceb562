/- slices.Reverse at []int, on a row of the call's own: the shelf's contract. -/
import Derived.Test.YtjhllgldllbaaaaKit
import Derived.Ground.NamesProg
import Derived.Ground.Names2Prog
import Derived.Shelf.Lay
import Derived.Shelf.Slices.Reverse
import Derived.Lib.OwnBridge
namespace Go.Proofs
open Go.Shelf
def Try.laysReverse_ren : Go.Shelf.Ren := ⟨fun | 112 => 169 | n => n, fun | 28 => 22 | 3 => 3 | 4 => 4 | 0 => 0 | n => n, fun | n => n⟩
theorem Try.laysReverse : Go.Proofs.Lays.n112 Try.prog Try.laysReverse_ren := {
  mixed := by kernel_rfl
  f112 := Try.func169.trans (congrArg some (by kernel_rfl))
  t0 := Try.underlying0
  a0 := Try.isAgg0
  z0 := Try.sizeOf0
  v0 := Try.zeroValue0
  t3 := Try.underlying3
  a3 := Try.isAgg3
  z3 := Try.sizeOf3
  v3 := Try.zeroValue3
  t4 := Try.underlying4
  a4 := Try.isAgg4
  z4 := Try.sizeOf4
  v4 := Try.zeroValue4
  t28 := Try.underlying22
  a28 := Try.isAgg22
  z28 := Try.sizeOf22
  v28 := Try.zeroValue22 }
end Go.Proofs
namespace Go.Proofs.Ytjhllgldllbaaaa
set_option linter.unusedVariables false
set_option linter.unusedSimpArgs false
open Go.RowKit

theorem reverse_own (v : Value) (l : List Int) (base : Nat) (w : World) (hv : OwnI w base v l) :
    Calls Try.prog 169 #[v] w fun e w' => e = .returned (.tuple #[]) ∧ OwnI w' base v l.reverse ∧ w.grownBy w' v.ownBlock := by
  obtain ⟨ho, hn, hr⟩ := hv
  have hr' : ∀ x ∈ l.reverse, I64 x := fun x hx => hr x (List.mem_reverse.1 hx)
  by_cases hv0 : v = .slice none 0 0
  · subst hv0
    have hl0 : l = [] := by
      rcases ho.2 with ⟨_, h⟩ | ⟨g, cap, cur, h, _⟩
      · exact List.eq_nil_of_length_eq_zero h
      · cases h
    subst hl0
    exact (Any.slices_Reverse_int_empty Try.laysReverse none 0 w).mono fun e w' ⟨h1, h2⟩ => by
      subst h2
      exact ⟨h1, OwnI.nil _ _, World.grownBy.refl _ _⟩
  · obtain ⟨g, cap, rfl, hg, hgl, hnc, hcm, _, hH⟩ := Lib.holds_of_ownsRow ho hv0
    refine (Any.slices_Reverse_int Try.laysReverse g 0 cap l w hH (by omega)).mono ?_
    rintro e w' ⟨rfl, q, rfl⟩
    refine ⟨rfl, ⟨?_, by simpa using hn, hr'⟩, ⟨rfl, rfl, rfl, by simp [Sort.putRow, Sort.mapBlock, Sort.ahead], fun k hk hne => ?_⟩⟩
    · have h1 := Lib.ownsRow_putRow (q := q) (ys := l.reverse) ho (by simp) (Nat.le_refl l.length)
      rw [List.take_of_length_le (by simp)] at h1
      simpa using h1
    · have hgk : g ≠ k := fun e => hne (by simp [Value.ownBlock, e])
      simp [Sort.putRow, Sort.mapBlock, Sort.ahead, Array.getElem?_modify, hgk]
end Go.Proofs.Ytjhllgldllbaaaa
