/- FnFiltrations: the law holds for every argument. Part 13 of 18 of the proof: Srt, CntC, FrP, FltS, FltT, FltU, FltV, CycC, CycP, FrI. No condition. -/
import Derived.Test.YtgabmemalaklbaaGreatBFiltrations12
import Derived.Shelf.SortM.Plain
import Derived.Shelf.SortM.SortNone
import Derived.Ground.SlgmProg
import Derived.Shelf.Slices.CompactI
import Derived.Shelf.SlicesE.DeleteFunc
import Derived.Ground.SlgfProg
/- slices.Sort, Compact, DeleteFunc at []int on a row of the call's own: the shelf's contracts; leasts. -/
namespace Go.Proofs
open Go.Shelf
def Tryz.laysSort_ren : Go.Shelf.Ren := ⟨fun | 5 => 64 | 8 => 83 | 7 => 82 | 19 => 103 | 20 => 104 | 10 => 94 | 11 => 95 | 12 => 96 | 13 => 97 | 14 => 98 | 15 => 99 | 16 => 100 | 17 => 101 | 18 => 102 | 30 => 111 | 31 => 112 | 32 => 113 | 33 => 114 | 34 => 115 | 35 => 106 | 40 => 119 | n => n, fun | 23 => 24 | 25 => 3 | 3 => 3 | 32 => 101 | 22 => 24 | 0 => 0 | 44 => 119 | 46 => 121 | 4 => 4 | 36 => 113 | 35 => 112 | 41 => 90 | 5 => 5 | 9 => 9 | 53 => 124 | 57 => 128 | 63 => 132 | 64 => 133 | n => n, fun | n => n⟩
theorem Tryz.laysSort : Go.Proofs.SlLaysM.n5 Tryz.prog Tryz.laysSort_ren := {
  mixed := by kernel_rfl
  f5 := ⟨Tryz.f64.name, by decide, Tryz.func64.trans (congrArg some (by kernel_rfl))⟩
  f7 := ⟨Tryz.f82.name, by decide, Tryz.func82.trans (congrArg some (by kernel_rfl))⟩
  f8 := Tryz.func83.trans (congrArg some (by kernel_rfl))
  f10 := ⟨Tryz.f94.name, by decide, Tryz.func94.trans (congrArg some (by kernel_rfl))⟩
  f11 := ⟨Tryz.f95.name, by decide, Tryz.func95.trans (congrArg some (by kernel_rfl))⟩
  f12 := ⟨Tryz.f96.name, by decide, Tryz.func96.trans (congrArg some (by kernel_rfl))⟩
  f13 := ⟨Tryz.f97.name, by decide, Tryz.func97.trans (congrArg some (by kernel_rfl))⟩
  f14 := ⟨Tryz.f98.name, by decide, Tryz.func98.trans (congrArg some (by kernel_rfl))⟩
  f15 := ⟨Tryz.f99.name, by decide, Tryz.func99.trans (congrArg some (by kernel_rfl))⟩
  f16 := ⟨Tryz.f100.name, by decide, Tryz.func100.trans (congrArg some (by kernel_rfl))⟩
  f17 := ⟨Tryz.f101.name, by decide, Tryz.func101.trans (congrArg some (by kernel_rfl))⟩
  f18 := ⟨Tryz.f102.name, by decide, Tryz.func102.trans (congrArg some (by kernel_rfl))⟩
  f19 := Tryz.func103.trans (congrArg some (by kernel_rfl))
  f20 := Tryz.func104.trans (congrArg some (by kernel_rfl))
  f30 := ⟨Tryz.f111.name, by decide, Tryz.func111.trans (congrArg some (by kernel_rfl))⟩
  f31 := Tryz.func112.trans (congrArg some (by kernel_rfl))
  f32 := Tryz.func113.trans (congrArg some (by kernel_rfl))
  f33 := ⟨Tryz.f114.name, by decide, Tryz.func114.trans (congrArg some (by kernel_rfl))⟩
  f34 := ⟨Tryz.f115.name, by decide, Tryz.func115.trans (congrArg some (by kernel_rfl))⟩
  f35 := ⟨Tryz.f106.name, by decide, Tryz.func106.trans (congrArg some (by kernel_rfl))⟩
  f40 := ⟨Tryz.f119.name, by decide, Tryz.func119.trans (congrArg some (by kernel_rfl))⟩
  t0 := Tryz.underlying0
  a0 := Tryz.isAgg0
  z0 := Tryz.sizeOf0
  v0 := Tryz.zeroValue0
  t3 := Tryz.underlying3
  a3 := Tryz.isAgg3
  z3 := Tryz.sizeOf3
  v3 := Tryz.zeroValue3
  t4 := Tryz.underlying4
  a4 := Tryz.isAgg4
  z4 := Tryz.sizeOf4
  v4 := Tryz.zeroValue4
  t5 := Tryz.underlying5
  a5 := Tryz.isAgg5
  z5 := Tryz.sizeOf5
  v5 := Tryz.zeroValue5
  t9 := Tryz.underlying9
  a9 := Tryz.isAgg9
  z9 := Tryz.sizeOf9
  v9 := Tryz.zeroValue9
  t22 := Tryz.underlying24
  a22 := Tryz.isAgg24
  z22 := Tryz.sizeOf24
  v22 := Tryz.zeroValue24
  t23 := Tryz.underlying24
  a23 := Tryz.isAgg24
  z23 := Tryz.sizeOf24
  v23 := Tryz.zeroValue24
  t25 := Tryz.underlying3
  a25 := Tryz.isAgg3
  z25 := Tryz.sizeOf3
  v25 := Tryz.zeroValue3
  t32 := Tryz.underlying101
  a32 := Tryz.isAgg101
  z32 := Tryz.sizeOf101
  v32 := Tryz.zeroValue101
  t35 := Tryz.underlying112
  a35 := Tryz.isAgg112
  z35 := Tryz.sizeOf112
  v35 := Tryz.zeroValue112
  t36 := Tryz.underlying113
  a36 := Tryz.isAgg113
  z36 := Tryz.sizeOf113
  v36 := Tryz.zeroValue113
  t41 := Tryz.underlying90
  a41 := Tryz.isAgg90
  z41 := Tryz.sizeOf90
  v41 := Tryz.zeroValue90
  t44 := Tryz.underlying119
  a44 := Tryz.isAgg119
  z44 := Tryz.sizeOf119
  v44 := Tryz.zeroValue119
  t46 := Tryz.underlying121
  a46 := Tryz.isAgg121
  z46 := Tryz.sizeOf121
  v46 := Tryz.zeroValue121
  t53 := Tryz.underlying124
  a53 := Tryz.isAgg124
  z53 := Tryz.sizeOf124
  v53 := Tryz.zeroValue124
  t57 := Tryz.underlying128
  a57 := Tryz.isAgg128
  z57 := Tryz.sizeOf128
  v57 := Tryz.zeroValue128
  t63 := Tryz.underlying132
  a63 := Tryz.isAgg132
  z63 := Tryz.sizeOf132
  v63 := Tryz.zeroValue132
  t64 := Tryz.underlying133
  a64 := Tryz.isAgg133
  z64 := Tryz.sizeOf133
  v64 := Tryz.zeroValue133 }
def Tryz.laysCompact_ren : Go.Shelf.Ren := ⟨fun | 20 => 66 | n => n, fun | 22 => 24 | 3 => 3 | 4 => 4 | 0 => 0 | n => n, fun | n => n⟩
theorem Tryz.laysCompact : Go.Proofs.Lays2.n20 Tryz.prog Tryz.laysCompact_ren := {
  mixed := by kernel_rfl
  f20 := Tryz.func66.trans (congrArg some (by kernel_rfl))
  t0 := Tryz.underlying0
  a0 := Tryz.isAgg0
  z0 := Tryz.sizeOf0
  v0 := Tryz.zeroValue0
  t3 := Tryz.underlying3
  a3 := Tryz.isAgg3
  z3 := Tryz.sizeOf3
  v3 := Tryz.zeroValue3
  t4 := Tryz.underlying4
  a4 := Tryz.isAgg4
  z4 := Tryz.sizeOf4
  v4 := Tryz.zeroValue4
  t22 := Tryz.underlying24
  a22 := Tryz.isAgg24
  z22 := Tryz.sizeOf24
  v22 := Tryz.zeroValue24
  i3 := by kernel_rfl }
def Tryz.laysDelete_ren : Go.Shelf.Ren := ⟨fun | 10 => 65 | 6 => 84 | n => n, fun | 22 => 24 | 23 => 3 | 25 => 58 | 3 => 3 | 4 => 4 | 0 => 0 | n => n, fun | n => n⟩
theorem Tryz.laysDelete : Go.Proofs.SlLaysH.n10 Tryz.prog Tryz.laysDelete_ren := {
  mixed := by kernel_rfl
  f6 := ⟨Tryz.f84.name, by decide, Tryz.func84.trans (congrArg some (by kernel_rfl))⟩
  f10 := ⟨Tryz.f65.name, by decide, Tryz.func65.trans (congrArg some (by kernel_rfl))⟩
  t0 := Tryz.underlying0
  a0 := Tryz.isAgg0
  z0 := Tryz.sizeOf0
  v0 := Tryz.zeroValue0
  t3 := Tryz.underlying3
  a3 := Tryz.isAgg3
  z3 := Tryz.sizeOf3
  v3 := Tryz.zeroValue3
  t4 := Tryz.underlying4
  a4 := Tryz.isAgg4
  z4 := Tryz.sizeOf4
  v4 := Tryz.zeroValue4
  t22 := Tryz.underlying24
  a22 := Tryz.isAgg24
  z22 := Tryz.sizeOf24
  v22 := Tryz.zeroValue24
  a23 := Tryz.isAgg3
  z23 := Tryz.sizeOf3
  t25 := Tryz.underlying58
  a25 := Tryz.isAgg58
  z25 := Tryz.sizeOf58
  v25 := Tryz.zeroValue58 }
def Tryz.laysIndexF_ren : Go.Shelf.Ren := ⟨fun | 6 => 84 | n => n, fun | 22 => 24 | 23 => 3 | 25 => 58 | 3 => 3 | 0 => 0 | 4 => 4 | n => n, fun | n => n⟩
theorem Tryz.laysIndexF : Go.Proofs.SlLaysH.n6 Tryz.prog Tryz.laysIndexF_ren := {
  mixed := by kernel_rfl
  f6 := ⟨Tryz.f84.name, by decide, Tryz.func84.trans (congrArg some (by kernel_rfl))⟩
  t0 := Tryz.underlying0
  a0 := Tryz.isAgg0
  z0 := Tryz.sizeOf0
  v0 := Tryz.zeroValue0
  t3 := Tryz.underlying3
  a3 := Tryz.isAgg3
  z3 := Tryz.sizeOf3
  v3 := Tryz.zeroValue3
  t4 := Tryz.underlying4
  a4 := Tryz.isAgg4
  z4 := Tryz.sizeOf4
  v4 := Tryz.zeroValue4
  t22 := Tryz.underlying24
  a22 := Tryz.isAgg24
  z22 := Tryz.sizeOf24
  v22 := Tryz.zeroValue24
  a23 := Tryz.isAgg3
  z23 := Tryz.sizeOf3
  t25 := Tryz.underlying58
  a25 := Tryz.isAgg58
  z25 := Tryz.sizeOf58
  v25 := Tryz.zeroValue58 }
end Go.Proofs
namespace Go.Proofs.YtgabmemalaklbaaGreat
set_option linter.unusedVariables false
set_option linter.unusedSimpArgs false
open Go.RowKit Go.Sort

theorem grownBy_put (w : World) (q g : Nat) (d : Array Int) (os : Array Obj) : w.grownBy (grow (putRow (Value.int .i64) (Sort.ahead w q) g 0 d) os) (some g) := by
  refine ⟨rfl, rfl, rfl, by simp, fun k hk hne => ?_⟩
  rw [heap_grow_old _ _ (by simpa using hk)]
  have : g ≠ k := fun e => hne (by rw [e])
  simp [putRow, mapBlock, Sort.ahead, Array.getElem?_modify, this]
theorem grownBy_put0 (w : World) (q g : Nat) (d : Array Int) : w.grownBy (putRow (Value.int .i64) (Sort.ahead w q) g 0 d) (some g) := by
  refine ⟨rfl, rfl, rfl, by simp [putRow, mapBlock, Sort.ahead], fun k hk hne => ?_⟩
  have : g ≠ k := fun e => hne (by rw [e])
  simp [putRow, mapBlock, Sort.ahead, Array.getElem?_modify, this]
theorem owns_grow {w : World} {base n : Nat} {e : TypeId} {v : Value} {xs : List Value} (h : w.ownsRow base e 1 v n xs) (os : Array Obj) : (grow w os).ownsRow base e 1 v n xs := by
  refine h.kept (row := none) ⟨rfl, rfl, rfl, by simp, fun k hk _ => heap_grow_old _ _ hk⟩ ?_
  rcases h.2 with ⟨rfl, _⟩ | ⟨g, cap, cur, rfl, _⟩
  · exact .inl rfl
  · exact .inr (by simp [Value.ownBlock])

theorem sort_own (v : Value) (l : List Int) (base : Nat) (w : World) (hv : OwnI w base v l) :
    Calls Tryz.prog 64 #[v] w fun e w' => e = .returned (.tuple #[]) ∧ OwnI w' base v (l.mergeSort fun x y => decide (x ≤ y)) ∧ w.grownBy w' v.ownBlock := by
  obtain ⟨ho, hn, hr⟩ := hv
  have hr' : ∀ x ∈ l.mergeSort fun x y => decide (x ≤ y), I64 x := fun x hx => hr x (List.mem_mergeSort.1 hx)
  by_cases hv0 : v = .slice none 0 0
  · subst hv0
    have hl0 : l = [] := by
      rcases ho.2 with ⟨_, h⟩ | ⟨g, cap, cur, h, _⟩
      · exact List.eq_nil_of_length_eq_zero h
      · cases h
    subst hl0
    exact (AnyM.slices_Sort_int_none Tryz.laysSort none 0 w).mono fun e w' ⟨h1, h2⟩ => by
      subst h2
      exact ⟨h1, by simpa using OwnI.nil _ _, World.grownBy.refl _ _⟩
  · obtain ⟨g, cap, rfl, hg, hgl, hnc, hcm, _, hH⟩ := Lib.holds_of_ownsRow ho hv0
    refine (AnyM.slices_Sort_int Tryz.laysSort g 0 cap l w hH hgl (by omega)).mono ?_
    rintro e w' ⟨rfl, q, os, rfl⟩
    refine ⟨rfl, ⟨?_, by simpa using hn, hr'⟩, grownBy_put _ _ _ _ _⟩
    have h1 := Lib.ownsRow_putRow (q := q) (ys := l.mergeSort fun x y => decide (x ≤ y)) ho (by simp) (Nat.le_refl l.length)
    rw [List.take_of_length_le (by simp)] at h1
    have h2 := owns_grow h1 os
    simpa using h2
theorem compact_own (v : Value) (l : List Int) (base : Nat) (w : World) (hv : OwnI w base v l) :
    Calls Tryz.prog 66 #[v] w fun e w' => ∃ v', e = .returned v' ∧ OwnI w' base v' (Lib.compact l) ∧ v'.ownBlock = v.ownBlock ∧ w.grownBy w' v.ownBlock := by
  obtain ⟨ho, hn, hr⟩ := hv
  have hr' : ∀ x ∈ Lib.compact l, I64 x := fun x hx => by
    obtain ⟨j, hj, rfl⟩ := List.mem_map.1 hx
    have hj := List.mem_range.1 (List.mem_filter.1 hj).1
    have e : l.toArray[j]! = l[j] := by rw [getElem!_pos l.toArray j (by simpa using hj)]; simp
    rw [e]
    exact hr _ (List.getElem_mem hj)
  by_cases hv0 : v = .slice none 0 0
  · subst hv0
    have hl0 : l = [] := by
      rcases ho.2 with ⟨_, h⟩ | ⟨g, cap, cur, h, _⟩
      · exact List.eq_nil_of_length_eq_zero h
      · cases h
    subst hl0
    exact (Any.slices_Compact_int_empty Tryz.laysCompact none 0 w).mono fun e w' ⟨h1, h2⟩ => by
      subst h2
      exact ⟨_, h1, by simpa [Lib.compact, Lib.compactUpTo] using OwnI.nil _ _, rfl, World.grownBy.refl _ _⟩
  · obtain ⟨g, cap, rfl, hg, hgl, hnc, hcm, _, hH⟩ := Lib.holds_of_ownsRow ho hv0
    have hle := Lib.compact_length_le l
    refine (Any.slices_Compact_int Tryz.laysCompact g 0 cap l w hH (by omega) hnc).mono ?_
    rintro e w' ⟨rfl, q, rfl⟩
    refine ⟨_, rfl, ⟨?_, by omega, hr'⟩, rfl, grownBy_put0 _ _ _ _⟩
    have h1 := Lib.ownsRow_putRow (q := q) (k := (Lib.compact l).length) (ys := Lib.compact l ++ List.replicate (l.length - (Lib.compact l).length) 0) ho (by simp; omega) hle
    rw [List.take_left' rfl] at h1
    exact h1
theorem neg_fn (x : Int) (W : World) : FnGives Tryz.prog 67 #[] #[.int .i64 x] (.bool (decide (x < 0))) W := by
  show Calls Tryz.prog 67 #[.int .i64 x] W _
  go_enter Tryz.func67, Tryz.ntmps67
  go_wp2
  all_goals (go_ret; exact ⟨by simp_all, 0, rfl⟩)
theorem delete_own (v : Value) (l : List Int) (base : Nat) (w : World) (hv : OwnI w base v l) :
    Calls Tryz.prog 65 #[v, .func (.func 67) #[] #[]] w fun e w' => ∃ v', e = .returned v' ∧ OwnI w' base v' (l.filter fun x => !decide (x < 0)) ∧ v'.ownBlock = v.ownBlock ∧ w.grownBy w' v.ownBlock := by
  obtain ⟨ho, hn, hr⟩ := hv
  have hr' : ∀ x ∈ l.filter fun x => !decide (x < 0), I64 x := fun x hx => hr x (List.mem_filter.1 hx).1
  by_cases hv0 : v = .slice none 0 0
  · subst hv0
    have hl0 : l = [] := by
      rcases ho.2 with ⟨_, h⟩ | ⟨g, cap, cur, h, _⟩
      · exact List.eq_nil_of_length_eq_zero h
      · cases h
    subst hl0
    have hI := AnyE.slices_IndexFunc_empty Tryz.laysIndexF none 0 (.func (.func 67) #[] #[]) w
    change Calls Tryz.prog 84 _ _ _ at hI
    go_enter Tryz.func65, Tryz.ntmps65
    go_wp2_with fail
    refine hI.mono ?_; rintro e w1 ⟨rfl, rfl⟩
    clear hI
    go_wp2
    go_ret
    exact ⟨_, rfl, by simpa using OwnI.nil _ _, rfl, World.grownBy.refl _ _⟩
  · obtain ⟨g, cap, rfl, hg, hgl, hnc, hcm, _, hH⟩ := Lib.holds_of_ownsRow ho hv0
    have hle := List.length_filter_le (fun x => !decide (x < 0)) l
    have eg : ∀ args w, (callFunc 67 args).run Tryz.prog w = .ok (.enter 67 args) w := enters_of Tryz.func67 (by kernel_rfl) rfl
    refine (AnyE.slices_DeleteFunc Tryz.laysDelete (Value.int .i64) (fun _ => rfl) (fun x => decide (x < 0)) 67 #[] eg 0 Tryz.zeroValue3 g 0 cap l.toArray w (fun W x _ => neg_fn x W) (fun n os dk x _ => neg_fn x _) hH (by simp; omega) (by simpa using hnc)).mono ?_
    rintro e w' ⟨rfl, q, rfl⟩
    refine ⟨_, rfl, ⟨?_, by omega, hr'⟩, rfl, grownBy_put0 _ _ _ _⟩
    have h1 := Lib.ownsRow_putRow (q := q) (k := (l.filter fun x => !decide (x < 0)).length) (ys := (l.filter fun x => !decide (x < 0)) ++ List.replicate (l.length - (l.filter fun x => !decide (x < 0)).length) 0) ho (by simp; omega) hle
    rw [List.take_left' rfl] at h1
    exact h1

/-- what leasts makes of a list -/
def leastL (l : List Int) : List Int := (Lib.compact (l.mergeSort fun x y => decide (x ≤ y))).filter fun x => !decide (x < 0)
theorem leastL_asc (l : List Int) : asc (leastL l) ∧ ∀ x, x ∈ leastL l ↔ x ∈ l ∧ 0 ≤ x := by
  obtain ⟨zs, hz⟩ : ∃ zs, l.mergeSort (fun x y => decide (x ≤ y)) = zs := ⟨_, rfl⟩
  have hs : zs.Pairwise (· ≤ ·) := by
    have := List.pairwise_mergeSort (le := fun x y : Int => decide (x ≤ y)) (fun a b c h1 h2 => by simp only [decide_eq_true_eq] at *; omega) (fun a b => by simp only [Bool.or_eq_true, decide_eq_true_eq]; omega) l
    rw [hz] at this
    exact this.imp fun h => by simpa using h
  have hm : ∀ x, x ∈ zs ↔ x ∈ l := fun x => by rw [← hz]; exact List.mem_mergeSort
  have hg : ∀ j, (hj : j < zs.length) → zs.toArray[j]! = zs[j] := fun j hj => by rw [getElem!_pos zs.toArray j (by simpa using hj)]; simp
  have hp := List.pairwise_iff_getElem.1 hs
  have hca : asc (Lib.compact zs) := by
    unfold asc Lib.compact Lib.compactUpTo
    rw [List.pairwise_map]
    have h1 : ((List.range zs.length).filter (Lib.keeps zs.toArray)).Pairwise (fun a b => a < b ∧ b < zs.length ∧ Lib.keeps zs.toArray b = true) := by
      have h2 : ((List.range zs.length).filter (Lib.keeps zs.toArray)).Pairwise (· < ·) := List.Pairwise.filter _ List.pairwise_lt_range
      refine List.Pairwise.imp_of_mem ?_ h2
      intro a b ha hb hab
      obtain ⟨h3, h4⟩ := List.mem_filter.1 hb
      exact ⟨hab, List.mem_range.1 h3, h4⟩
    refine h1.imp ?_
    rintro a b ⟨hab, hb, hk⟩
    have hk : b = 0 ∨ zs.toArray[b]! ≠ zs.toArray[b - 1]! := by simpa [Lib.keeps] using hk
    rcases hk with hk | hk
    · omega
    · rw [hg b hb, hg (b - 1) (by omega)] at hk
      rw [hg b hb, hg a (by omega)]
      have h5 := hp (b - 1) b (by omega) hb (by omega)
      have h6 : zs[a] ≤ zs[b - 1] := by
        by_cases e : a = b - 1
        · subst e; omega
        · exact hp a (b - 1) (by omega) (by omega) (by omega)
      omega
  have hcm : ∀ x, x ∈ Lib.compact zs ↔ x ∈ zs := by
    intro x
    unfold Lib.compact Lib.compactUpTo
    rw [List.mem_map]
    constructor
    · rintro ⟨j, hj, rfl⟩
      have hj := List.mem_range.1 (List.mem_filter.1 hj).1
      rw [hg j hj]; exact List.getElem_mem hj
    · intro hx
      obtain ⟨i, hi⟩ := List.mem_iff_getElem?.1 hx
      have : ∀ i : Nat, zs[i]? = some x → ∃ j, j ∈ (List.range zs.length).filter (Lib.keeps zs.toArray) ∧ zs.toArray[j]! = x := by
        intro i
        induction i with
        | zero =>
          intro h
          have hl := lt_of_some h
          exact ⟨0, List.mem_filter.2 ⟨List.mem_range.2 hl, by simp [Lib.keeps]⟩, by rw [hg 0 hl]; rw [List.getElem?_eq_getElem hl] at h; injection h⟩
        | succ i ih =>
          intro h
          have hl := lt_of_some h
          rw [List.getElem?_eq_getElem hl] at h
          injection h with h
          by_cases e : zs[i] = x
          · exact ih (by rw [List.getElem?_eq_getElem (by omega), e])
          · refine ⟨i + 1, List.mem_filter.2 ⟨List.mem_range.2 hl, ?_⟩, by rw [hg _ hl]; exact h⟩
            simp only [Lib.keeps, decide_eq_true_eq]
            right
            rw [hg _ hl, hg _ (show i + 1 - 1 < zs.length by omega), h]
            exact fun e2 => e e2.symm
      exact this i hi
  unfold leastL
  rw [hz]
  refine ⟨List.Pairwise.filter _ hca, fun x => ?_⟩
  rw [List.mem_filter, hcm, hm]
  simp
theorem leasts_any (u : Value) (l : List Int) (w : World) (hu : SlI w w.heap.size u l) :
    Calls Tryz.prog 34 #[u] w fun e w' => ∃ v, e = .returned v ∧ IntsO w' w.heap.size w'.heap.size v (leastL l) ∧ Below w.heap.size w w' := by
  obtain ⟨A, c, rfl, _, _, hn, hx⟩ := hu.open_
  clear hu
  go_enter Tryz.func34, Tryz.ntmps34
  go_wp2_with fail
  refine (clone_own _ _ _ hx).mono ?_; rintro e w1 ⟨v, rfl, ho, hb1⟩
  have ho := ho.1
  obtain ⟨A1, c1, rfl, _, _⟩ := ho.form
  go_wp2_with fail
  refine (sort_own _ _ _ _ ho).mono ?_; rintro e w2 ⟨rfl, ho2, hg2⟩
  have hb2 := hb1.grown hg2 hb1.size (fun j hj => (ho.lt j hj).1)
  obtain ⟨A2, c2, e2, _, _⟩ := ho2.form
  have E2 := Lib.hid e2
  clear e2 hg2 ho hb1
  go_wp2_with fail
  refine (compact_own _ _ _ _ ho2).mono ?_; rintro e w3 ⟨v3, rfl, ho3, hv3, hg3⟩
  have hb3 := hb2.grown hg3 hb2.size (fun j hj => (ho2.lt j hj).1)
  clear hg3 hb2 hv3 ho2
  obtain ⟨A3, c3, rfl, _, _⟩ := ho3.form
  go_wp2_with fail
  refine (delete_own _ _ _ _ ho3).mono ?_; rintro e w4 ⟨v4, rfl, ho4, hv4, hg4⟩
  have hb4 := hb3.grown hg4 hb3.size (fun j hj => (ho3.lt j hj).1)
  clear hg4 hb3 hv4 ho3
  obtain ⟨A4, c4, rfl, _, _⟩ := ho4.form
  go_wp2
  go_ret
  exact ⟨_, rfl, IntsO.of_own ho4, hb4⟩
end Go.Proofs.YtgabmemalaklbaaGreat

/- CountComponents: both. -/
namespace Go.Proofs.YtgabmemalaklbaaGreat
set_option linter.unusedVariables false
set_option linter.unusedSimpArgs false
open Go.RowKit

def rootsTo (l : List Int) (k : Nat) : List Int := ((List.range k).filter fun i => decide (l.getD i 0 = (i : Int))).map fun i : Nat => (i : Int)
theorem rootsTo_yes {l : List Int} {k : Nat} (h : l[k]? = some (k : Int)) : rootsTo l (k + 1) = rootsTo l k ++ [(k : Int)] := by
  simp [rootsTo, List.range_succ, List.filter_append, List.getD_eq_getElem?_getD, h]
theorem rootsTo_no {l : List Int} {k : Nat} {x : Int} (h : l[k]? = some x) (hx : x ≠ k) : rootsTo l (k + 1) = rootsTo l k := by
  simp [rootsTo, List.range_succ, List.filter_append, List.getD_eq_getElem?_getD, h, hx]
theorem rootsTo_length (l : List Int) (k : Nat) : (rootsTo l k).length ≤ k := by
  have := List.length_filter_le (fun i => decide (l.getD i 0 = (i : Int))) (List.range k)
  rw [List.length_range] at this
  simpa [rootsTo] using this

set_option maxHeartbeats 800000 in
theorem l24Roots_any (u : Value) (l : List Int) (w : World) (hu : SlI w w.heap.size u l) :
    Calls Tryz.prog 41 #[u] w fun e w' => ∃ v, e = .returned v ∧ IntsO w' w.heap.size w'.heap.size v (rootsC l) ∧ Below w.heap.size w w' := by
  obtain ⟨A, c, rfl, _, _, hn, hx⟩ := hu.open_
  clear hu
  have g0 := below_alloc w (.cells #[] 3)
  have ho0 : OwnI (w.alloc (.cells #[] 3)) w.heap.size (.slice (some ⟨w.heap.size, 0, none⟩) 0 0) (rootsTo l 0) := OwnI.made 3 rfl (Nat.le_refl _)
  go_enter Tryz.func41, Tryz.ntmps41
  go_wp2
  go_loopw [3, 4] (fun a i wr => ∃ k : Nat, k ≤ l.length ∧ i = .int .i64 k ∧ OwnI wr w.heap.size a (rootsTo l k) ∧ Below w.heap.size w wr) (fun _ i _ => l.length - (intOf i).toNat)
  case atStart => exact ⟨0, Nat.zero_le _, rfl, ho0, g0⟩
  case round =>
    clear g0 ho0
    obtain ⟨k, hk, rfl, hown, hbel⟩ := hrel
    have HLK := Lib.hid (rootsTo_length l k)
    obtain ⟨ol, hol⟩ : ∃ ol, rootsTo l k = ol := ⟨_, rfl⟩
    rw [hol] at hown HLK
    have HOL := Lib.hid hol
    clear hol
    obtain ⟨OA, oc, rfl, _, _⟩ := hown.form
    by_cases hlt : k < l.length
    · obtain ⟨b, o, x, rfl, hb, HX, x1, _⟩ := SlI.at_ hx hlt
      have x2 := bcell hbel hb x1
      clear x1
      by_cases he : x = (k : Int)
      · subst he
        have hko := hown.alloc (.cells #[.int .i64 k] 3)
        have hst : Hid (ol ++ [(k : Int)] = rootsTo l (k + 1)) := by show _ = _; rw [rootsTo_yes HX.out, HOL.out]
        (go_wp2_with (at_builtin; refine Hold.stop ?_)); unfold Hold
        refine wpList_appI rfl (.tmp 18) (.tmp 20) rfl w.heap.size _ (.slice OA ol.length oc) ol rfl hko _ _ _ [(k : Int)] rfl rfl (SlI.one wr _ (k) ⟨by omega, by omega⟩) (by have := HLK.out; simp only [List.length_singleton]; omega) (by have := hbel.size; simp; omega) ?_
        intro v1 w3 ho1 hg1 hv1
        rw [hst.out] at ho1
        have hb3 := (hbel.alloc hbel.size (.cells #[.int .i64 k] 3)).grown hg1 (by have := hbel.size; simp; omega) (fun j hj => (hko.lt j hj).1)
        clear hko hg1 hv1 hown hbel
        go_wp2
        go_roundw
        case rel => exact ⟨k + 1, by omega, by go_num, ho1, hb3⟩
        case measure => simp [intOf]; omega
      · have hst : Hid (ol = rootsTo l (k + 1)) := by show _ = _; rw [rootsTo_no HX.out he, HOL.out]
        have he' : (x == (k : Int)) = false := by simpa using he
        go_wp2
        go_roundw
        case rel => exact ⟨k + 1, by omega, by go_num, by rw [← hst.out]; exact hown, hbel⟩
        case measure => simp [intOf]; omega
    · obtain rfl : k = l.length := by omega
      go_wp2
      go_ret
      refine ⟨_, rfl, ?_, hbel⟩
      have : rootsC l = ol := HOL.out
      rw [this]
      exact IntsO.of_own hown

/-- how many parts at a stage -/
def cntQ (q : Filt) (t : Int) : Nat := (rootsC (compsQ q t)).length
theorem leastL_comps (q : Filt) (t : Int) : leastL (compsQ q t) = rootsC (compsQ q t) := by
  obtain ⟨h1, h2⟩ := leastL_asc (compsQ q t)
  unfold compsQ at h1 h2 ⊢
  split at h1
  · rename_i h
    rw [if_pos h] at h2 ⊢
    rw [Bool.and_eq_true] at h
    exact leasts_eq h.1 h1 h2
  · rename_i h
    rw [if_neg h]
    simp [leastL, Lib.compact, Lib.compactUpTo, rootsC]

theorem implCountComponents_any (u : Value) (q : Filt) (t : Int) (w : World) (hu : FiR w w.heap.size u q) (ht : I64 t) :
    Calls Tryz.prog 22 #[u, .int .i64 t] w fun e w' => e = .returned (.int .i64 (cntQ q t)) ∧ Below w.heap.size w w' := by
  obtain ⟨A, c, C, d, e0, _⟩ := hu.open_
  subst e0
  have g0 := below_alloc w (.cells #[.int .i64 q.stages, .slice A q.birth.length c, .slice C q.ends.length d] 27)
  have h1 := hu.next g0
  clear hu
  go_enter Tryz.func22, Tryz.ntmps22
  go_wp2_with fail
  refine (implComponentsAt_any _ q t _ h1 ht).mono ?_; rintro e w1 ⟨v, rfl, ho, hb1⟩
  obtain ⟨A1, c1, rfl, _, _⟩ := ho.1.form
  have g1 := bthen g0 hb1
  go_wp2_with fail
  refine (leasts_any _ (compsQ q t) _ ho.rd).mono ?_; rintro e w2 ⟨v, rfl, ho2, hb2⟩
  rw [leastL_comps] at ho2
  obtain ⟨A2, c2, rfl, _, _⟩ := ho2.1.form
  have g2 := bthen g1 hb2
  go_wp2
  go_ret
  exact ⟨rfl, g2⟩
theorem specCountComponents_any (u : Value) (q : Filt) (t : Int) (w : World) (hu : FiR w w.heap.size u q) (ht : I64 t) :
    Calls Tryz.prog 23 #[u, .int .i64 t] w fun e w' => e = .returned (.int .i64 (cntQ q t)) ∧ Below w.heap.size w w' := by
  obtain ⟨A, c, C, d, e0, _⟩ := hu.open_
  subst e0
  have g0 := below_alloc w (.cells #[.int .i64 q.stages, .slice A q.birth.length c, .slice C q.ends.length d] 27)
  have h1 := hu.next g0
  clear hu
  go_enter Tryz.func23, Tryz.ntmps23
  go_wp2_with fail
  refine (specComponentsAt_any _ q t _ h1 ht).mono ?_; rintro e w1 ⟨v, rfl, ho, hb1⟩
  obtain ⟨A1, c1, rfl, _, _⟩ := ho.1.form
  have g1 := bthen g0 hb1
  go_wp2_with fail
  refine (l24Roots_any _ (compsQ q t) _ ho.rd).mono ?_; rintro e w2 ⟨v, rfl, ho2, hb2⟩
  obtain ⟨A2, c2, rfl, _, _⟩ := ho2.1.form
  have g2 := bthen g1 hb2
  go_wp2
  go_ret
  exact ⟨rfl, g2⟩
end Go.Proofs.YtgabmemalaklbaaGreat

/- The representation of a graph that grows, plain. -/
namespace Go.Proofs.YtgabmemalaklbaaGreat
set_option linter.unusedVariables false
set_option linter.unusedSimpArgs false
open Go.RowKit

def rtQ (q : Filt) (t : Nat) : List Int := rootsC (compQ q (t : Int))
def nxQ (q : Filt) (t i : Nat) : Int := (compQ q ((t : Int) + 1)).getD ((rtQ q t).getD i 0).toNat 0
def frF (q : Filt) (t k i : Nat) : Int := if nxQ q t i = (rtQ q (t + 1)).getD k 0 then 1 else 0
def frD (q : Filt) : List Int := rowF q.stages.toNat fun t => ((rtQ q t).length : Int)
theorem rtQ_next (q : Filt) (t : Nat) : rtQ q (t + 1) = rootsC (compQ q ((t : Int) + 1)) := by rw [rtQ, Int.natCast_add]; rfl
theorem rtQ_le (q : Filt) (t : Nat) : (rtQ q t).length ≤ q.birth.length := by
  have h := List.length_filter_le (fun i => decide ((compQ q (t : Int)).getD i 0 = (i : Int))) (List.range (compQ q (t : Int)).length)
  rw [List.length_range] at h
  refine Nat.le_trans ?_ (Nat.le_of_eq (compQ_length q (t : Int)))
  simpa [rtQ, rootsC] using h
theorem asc_get {l : List Int} (h : asc l) {i j : Nat} {x y : Int} (hx : l[i]? = some x) (hy : l[j]? = some y) (hij : i < j) : x < y := by
  have hi := lt_of_some hx
  have hj := lt_of_some hy
  have := List.pairwise_iff_getElem.1 h i j hi hj hij
  rw [List.getElem?_eq_getElem hi] at hx
  rw [List.getElem?_eq_getElem hj] at hy
  injection hx with hx
  injection hy with hy
  omega
/-- the part that a part becomes -/
theorem fr_row {q : Filt} (hq : isF q = true) {t i : Nat} (hi : i < (rtQ q t).length) : ∃ (pt r : Nat), (rtQ q t)[i]? = some (pt : Int) ∧ pt < q.birth.length ∧ (compQ q ((t : Int) + 1))[pt]? = some (nxQ q t i) ∧ (rtQ q (t + 1))[r]? = some (nxQ q t i) ∧ fidx (fun x => nxQ q t i == x) (rtQ q (t + 1)) = r ∧ ∀ k, k < (rtQ q (t + 1)).length → (frF q t k i = if k = r then 1 else 0) := by
  obtain ⟨x, hx⟩ : ∃ x, (rtQ q t)[i]? = some x := ⟨_, List.getElem?_eq_getElem hi⟩
  obtain ⟨pt, rfl, hpl, hpt⟩ := (rootsC_mem _ _).1 (List.mem_of_getElem? hx)
  rw [compQ_length] at hpl
  have hpl2 : pt < (compQ q ((t : Int) + 1)).length := by rw [compQ_length]; exact hpl
  have e1 : (rtQ q t).getD i 0 = (pt : Int) := by rw [List.getD_eq_getElem?_getD, hx]; rfl
  have hnx : (compQ q ((t : Int) + 1))[pt]? = some (nxQ q t i) := by
    rw [nxQ, e1, Int.toNat_natCast, List.getD_eq_getElem?_getD, List.getElem?_eq_getElem hpl2]; rfl
  have hb : q.birth.getD pt 0 ≤ (t : Int) := by
    rcases compQ_root hq hpl (t := (t : Int)) with ⟨h1, _⟩ | ⟨h1, _⟩
    · have : gt (compQ q (t : Int)) pt = (pt : Int) := hpt
      omega
    · exact h1
  have h0 : 0 ≤ nxQ q t i := by
    have hg : gt (compQ q ((t : Int) + 1)) pt = nxQ q t i := by rw [gt, List.getD_eq_getElem?_getD, hnx]; rfl
    rcases compQ_root hq hpl (t := (t : Int) + 1) with ⟨_, h1⟩ | ⟨_, l, h1, _⟩
    · omega
    · omega
  have hmem : nxQ q t i ∈ rtQ q (t + 1) := by
    rw [rtQ_next]
    exact (compQ_vals hq _).1 ⟨List.mem_of_getElem? hnx, h0⟩
  obtain ⟨r, hr⟩ := List.mem_iff_getElem?.1 hmem
  have hasc : asc (rtQ q (t + 1)) := by rw [rtQ_next]; exact rootsC_asc _
  refine ⟨pt, r, hx, hpl, hnx, hr, fidx_some hr (by simp) fun y hy => ?_, fun k hk => ?_⟩
  · obtain ⟨j, hj⟩ := List.mem_iff_getElem?.1 hy
    rw [List.getElem?_take] at hj
    split at hj
    · rename_i hjr
      have := asc_get hasc hj hr hjr
      rw [beq_eq_false_iff_ne]
      omega
    · cases hj
  · obtain ⟨z, hz⟩ : ∃ z, (rtQ q (t + 1))[k]? = some z := ⟨_, List.getElem?_eq_getElem hk⟩
    have ez : (rtQ q (t + 1)).getD k 0 = z := by rw [List.getD_eq_getElem?_getD, hz]; rfl
    rw [frF, ez]
    by_cases e : k = r
    · subst e
      rw [hr] at hz
      injection hz with hz
      rw [if_pos hz, if_pos rfl]
    · rw [if_neg e, if_neg]
      intro e2
      rcases Nat.lt_or_ge k r with h | h
      · have := asc_get hasc hz hr h; omega
      · have := asc_get hasc hr hz (by omega); omega
/-- columns below m -/
def frJ (q : Filt) (t m k i : Nat) : Int := if i < m then frF q t k i else 0
def frI (q : Filt) (t a b k i : Nat) : Int := if i < a ∨ (i = a ∧ k < b) then frF q t k i else 0
theorem frJ_put {q : Filt} {t m r R C : Nat} (hm : m < C) (hr : r < R) (h : ∀ k, k < R → (frF q t k m = if k = r then 1 else 0)) : (flat R C (frJ q t m)).set (r * C + m) 1 = flat R C (frJ q t (m + 1)) := by
  rw [flat_set _ _ hr hm]
  refine flat_congr fun a b ha _ => ?_
  unfold frJ
  by_cases e : b = m
  · subst e
    rw [if_pos (show b < b + 1 by omega), h a ha, if_neg (show ¬ b < b by omega)]
    by_cases e2 : a = r
    · rw [if_pos ⟨e2, rfl⟩, if_pos e2]
    · rw [if_neg fun e3 => e2 e3.1, if_neg e2]
  · rw [if_neg fun e3 => e e3.2]
    by_cases e2 : b < m
    · rw [if_pos e2, if_pos (by omega)]
    · rw [if_neg e2, if_neg (by omega)]
theorem frI_put {q : Filt} {t a b R C : Nat} (ha : a < C) (hb : b < R) (h : frF q t b a = 1) : (flat R C (frI q t a b)).set (b * C + a) 1 = flat R C (frI q t a (b + 1)) := by
  rw [flat_set _ _ hb ha]
  refine flat_congr fun k i _ _ => ?_
  unfold frI
  by_cases e : k = b ∧ i = a
  · obtain ⟨rfl, rfl⟩ := e
    rw [if_pos ⟨rfl, rfl⟩, if_pos (by omega), h]
  · rw [if_neg e]
    by_cases e2 : i < a ∨ (i = a ∧ k < b)
    · rw [if_pos e2, if_pos (by omega)]
    · rw [if_neg e2, if_neg (by omega)]
theorem frI_no {q : Filt} {t a b R C : Nat} (h : frF q t b a = 0) : flat R C (frI q t a b) = flat R C (frI q t a (b + 1)) := flat_congr fun k i _ _ => by
  unfold frI
  by_cases e : k = b ∧ i = a
  · obtain ⟨rfl, rfl⟩ := e
    rw [if_neg (by omega), if_pos (by omega), h]
  · by_cases e2 : i < a ∨ (i = a ∧ k < b)
    · rw [if_pos e2, if_pos (by omega)]
    · rw [if_neg e2, if_neg (by omega)]
theorem frI_next (q : Filt) (t a R C : Nat) : flat R C (frI q t a R) = flat R C (frI q t (a + 1) 0) := flat_congr fun k i hk _ => by
  unfold frI
  by_cases e2 : i < a ∨ (i = a ∧ k < R)
  · rw [if_pos e2, if_pos (by omega)]
  · rw [if_neg e2, if_neg (by omega)]
/-- the matrices: those before t done, the one at t under way -/
def frS (q : Filt) (t : Nat) (g : Nat → Nat → Int) (i : Nat) : Mx := mxF (rtQ q (i + 1)).length (rtQ q i).length (if i < t then frF q i else if i = t then g else fun _ _ => 0)
theorem frS_at (q : Filt) (t : Nat) (g : Nat → Nat → Int) {n : Nat} (h : t < n) : (msF n (frS q t g))[t]? = some (mxF (rtQ q (t + 1)).length (rtQ q t).length g) := by
  rw [msF_get _ h, frS, if_neg (Nat.lt_irrefl t), if_pos rfl]
theorem frS_set (q : Filt) (t n : Nat) (g : Nat → Nat → Int) {g' : Nat → Nat → Int} {l : List Int} (hl : l = flat (rtQ q (t + 1)).length (rtQ q t).length g') : (msF n (frS q t g)).set t ⟨((rtQ q (t + 1)).length : Int), ((rtQ q t).length : Int), l⟩ = msF n (frS q t g') := by
  rw [msF_set]
  refine msF_congr fun i _ => ?_
  by_cases e : i = t
  · subst e
    rw [if_pos rfl, frS, if_neg (Nat.lt_irrefl i), if_pos rfl, hl]; rfl
  · rw [if_neg e]
    unfold frS
    rw [if_neg e, if_neg e]
theorem frS_congr (q : Filt) (t n : Nat) {g g' : Nat → Nat → Int} (h : flat (rtQ q (t + 1)).length (rtQ q t).length g = flat (rtQ q (t + 1)).length (rtQ q t).length g') : msF n (frS q t g) = msF n (frS q t g') := msF_congr fun i _ => by
  unfold frS
  by_cases e : i = t
  · subst e
    rw [if_neg (Nat.lt_irrefl i), if_pos rfl, if_neg (Nat.lt_irrefl i), if_pos rfl, mxF, mxF, h]
  · rw [if_neg e, if_neg e]
theorem frS_next (q : Filt) (t n : Nat) {g g' : Nat → Nat → Int} (hg : ∀ k i, k < (rtQ q (t + 1)).length → i < (rtQ q t).length → g k i = frF q t k i) (hg' : ∀ k i, g' k i = 0) : msF n (frS q t g) = msF n (frS q (t + 1) g') := msF_congr fun i _ => by
  refine mxF_congr fun a b ha hb => ?_
  by_cases e : i < t
  · rw [if_pos e, if_pos (by omega)]
  · rw [if_neg e]
    by_cases e2 : i = t
    · subst e2
      rw [if_pos rfl, if_pos (by omega)]
      exact hg a b ha hb
    · rw [if_neg e2, if_neg (by omega)]
      by_cases e3 : i = t + 1
      · rw [if_pos e3, hg']
      · rw [if_neg e3]
theorem frJ_0 (q : Filt) (t k i : Nat) : frJ q t 0 k i = 0 := by simp [frJ]
theorem frI_0 (q : Filt) (t k i : Nat) : frI q t 0 0 k i = 0 := by simp [frI]
theorem line_at {n : Int} (h : inR n 1 5 = true) {i : Nat} (hi : i < (lineQ n).f.length) : (lineQ n).f.getD i 0 = (i : Int) ∧ (lineQ n).t.getD i 0 = ((i + 1 : Nat) : Int) ∧ i + 1 < n.toNat := by
  have := inR_t.1 h
  have : n = 1 ∨ n = 2 ∨ n = 3 ∨ n = 4 ∨ n = 5 := by omega
  rcases this with rfl | rfl | rfl | rfl | rfl
  · exact absurd (show i < 0 from hi) (by omega)
  · have hi : i < 1 := hi
    obtain rfl : i = 0 := by omega
    exact ⟨by decide, by decide, by decide⟩
  · have hi : i < 2 := hi
    have : i = 0 ∨ i = 1 := by omega
    rcases this with rfl | rfl <;> exact ⟨by decide, by decide, by decide⟩
  · have hi : i < 3 := hi
    have : i = 0 ∨ i = 1 ∨ i = 2 := by omega
    rcases this with rfl | rfl | rfl <;> exact ⟨by decide, by decide, by decide⟩
  · have hi : i < 4 := hi
    have : i = 0 ∨ i = 1 ∨ i = 2 ∨ i = 3 := by omega
    rcases this with rfl | rfl | rfl | rfl <;> exact ⟨by decide, by decide, by decide⟩
theorem line_len {n : Int} (h : inR n 1 5 = true) : (lineQ n).f.length + 1 = n.toNat ∧ (lineQ n).t.length = (lineQ n).f.length ∧ (lineQ n).v = n := by
  have := inR_t.1 h
  have : n = 1 ∨ n = 2 ∨ n = 3 ∨ n = 4 ∨ n = 5 := by omega
  rcases this with rfl | rfl | rfl | rfl | rfl <;> exact ⟨by decide, by decide, by decide⟩
theorem frZ {q : Filt} (h : inR q.stages 1 5 = true) {g : Nat → Nat → Int} (hg : ∀ k i, g k i = 0) : zms (lineQ q.stages) (frD q) (lineQ q.stages).f.length = msF (lineQ q.stages).f.length (frS q 0 g) := by
  rw [zms_F]
  refine msF_congr fun i hi => ?_
  obtain ⟨h1, h2, h3⟩ := line_at h hi
  have d1 : dAt (frD q) ((i + 1 : Nat) : Int) = ((rtQ q (i + 1)).length : Int) := by rw [dAt, Int.toNat_natCast, frD, rowF_getD _ (by omega)]
  have d2 : dAt (frD q) (i : Int) = ((rtQ q i).length : Int) := by rw [dAt, Int.toNat_natCast, frD, rowF_getD _ (by omega)]
  rw [zmAt, h1, h2, d1, d2, zmx_flat, frS]
  refine mxF_congr fun a b _ _ => ?_
  rw [if_neg (by omega)]
  split
  · rw [hg]
  · rfl
/-- the representation -/
def frR (p : Int) (q : Filt) : Rp := ⟨p, lineQ q.stages, frD q, msF (lineQ q.stages).f.length fun i => mxF (rtQ q (i + 1)).length (rtQ q i).length (frF q i)⟩
def frOk (p : Int) (q : Filt) : Bool := isFld p && isF q
def frP (p : Int) (q : Filt) : Rp × Bool := if frOk p q && areDims (lineQ q.stages) (frD q) then (frR p q, true) else (rp0, false)
theorem frP_no {p : Int} {q : Filt} (h : frOk p q = false) : frP p q = (rp0, false) := by simp [frP, h]
theorem frP_big {p : Int} {q : Filt} (h : areDims (lineQ q.stages) (frD q) = false) : frP p q = (rp0, false) := by simp [frP, h]
theorem frP_yes {p : Int} {q : Filt} (h : frOk p q = true) (h2 : areDims (lineQ q.stages) (frD q) = true) : frP p q = (frR p q, true) := by simp [frP, h, h2]
theorem frS_end (q : Filt) (n : Nat) (g : Nat → Nat → Int) : msF n (frS q n g) = msF n fun i => mxF (rtQ q (i + 1)).length (rtQ q i).length (frF q i) := msF_congr fun i hi => by rw [frS, if_pos hi]
theorem cnt_rt {q : Filt} (hq : isF q = true) {t : Nat} (ht : (t : Int) ≤ q.stages - 1) : cntQ q (t : Int) = (rtQ q t).length := by
  rw [cntQ, compsQ, if_pos (by rw [hq, inR_t.2 ⟨by omega, ht⟩]; rfl)]; rfl
theorem comps_rt {q : Filt} (hq : isF q = true) {t : Int} (h0 : 0 ≤ t) (ht : t ≤ q.stages - 1) : compsQ q t = compQ q t := by
  rw [compsQ, if_pos (by rw [hq, inR_t.2 ⟨h0, ht⟩]; rfl)]
theorem least_rt {q : Filt} (hq : isF q = true) {t : Int} (h0 : 0 ≤ t) (ht : t ≤ q.stages - 1) : leastL (compQ q t) = rootsC (compQ q t) := by
  have := leastL_comps q t
  rwa [comps_rt hq h0 ht] at this
end Go.Proofs.YtgabmemalaklbaaGreat

/- The representation of a filtration: its ranks count the points that are old enough and live long enough. Plain. -/
namespace Go.Proofs.YtgabmemalaklbaaGreat
set_option linter.unusedVariables false
set_option linter.unusedSimpArgs false
open Go.RowKit

theorem conn_le {t t' : Int} {E : List (List Int)} (h : t ≤ t') {i j : Nat} (hc : conn t E i j) : conn t' E i j := by
  obtain ⟨l, hc⟩ := hc
  refine ⟨l, ?_⟩
  induction l generalizing i with
  | nil => exact hc
  | cons k r ih =>
    obtain ⟨⟨a, b, s, h1, h2, h3⟩, h4⟩ := hc
    exact ⟨⟨a, b, s, h1, by omega, h3⟩, ih h4⟩
/-- the root at a place of a stage -/
def ptQ (q : Filt) (t i : Nat) : Nat := ((rtQ q t).getD i 0).toNat
theorem pt_of {q : Filt} (hq : isF q = true) {t i : Nat} (hi : i < (rtQ q t).length) : (rtQ q t)[i]? = some (ptQ q t i : Int) ∧ ptQ q t i < q.birth.length ∧ q.birth.getD (ptQ q t i) 0 ≤ (t : Int) ∧ gt (compQ q (t : Int)) (ptQ q t i) = (ptQ q t i : Int) := by
  obtain ⟨x, hx⟩ : ∃ x, (rtQ q t)[i]? = some x := ⟨_, List.getElem?_eq_getElem hi⟩
  obtain ⟨pt, rfl, hpl, hpt⟩ := (rootsC_mem _ _).1 (List.mem_of_getElem? hx)
  rw [compQ_length] at hpl
  have e1 : (rtQ q t).getD i 0 = (pt : Int) := by rw [List.getD_eq_getElem?_getD, hx]; rfl
  have e2 : ptQ q t i = pt := by rw [ptQ, e1, Int.toNat_natCast]
  rw [e2]
  refine ⟨hx, hpl, ?_, hpt⟩
  rcases compQ_root hq hpl (t := (t : Int)) with ⟨h1, _⟩ | ⟨h1, _⟩
  · have : gt (compQ q (t : Int)) pt = (pt : Int) := hpt
    omega
  · exact h1
theorem pt_inj {q : Filt} (hq : isF q = true) {t i j : Nat} (hi : i < (rtQ q t).length) (hj : j < (rtQ q t).length) (e : ptQ q t i = ptQ q t j) : i = j := by
  have h1 := (pt_of hq hi).1
  have h2 := (pt_of hq hj).1
  have ha : asc (rtQ q t) := rootsC_asc _
  rcases Nat.lt_trichotomy i j with h | h | h
  · have := asc_get ha h1 h2 h
    omega
  · exact h
  · have := asc_get ha h2 h1 h
    omega
theorem pt_conn {q : Filt} (hq : isF q = true) {t i j : Nat} (hi : i < (rtQ q t).length) (hj : j < (rtQ q t).length) (h : conn (t : Int) q.ends (ptQ q t i) (ptQ q t j)) : i = j := by
  obtain ⟨_, a2, a3, a4⟩ := pt_of hq hi
  obtain ⟨_, b2, b3, b4⟩ := pt_of hq hj
  have := (comp_conn hq a2 b2 a3 b3).2 h
  exact pt_inj hq hi hj (by omega)
/-- every point that is born has a root -/
theorem pt_ex {q : Filt} (hq : isF q = true) {t a : Nat} (ha : a < q.birth.length) (hb : q.birth.getD a 0 ≤ (t : Int)) : ∃ i, i < (rtQ q t).length ∧ conn (t : Int) q.ends a (ptQ q t i) := by
  rcases compQ_root hq ha (t := (t : Int)) with ⟨_, h1⟩ | ⟨_, l, h1, h2⟩
  · omega
  obtain ⟨l', hl, hc, hln, hlt⟩ := comp_lab hq ha hb
  have hg : gt (compQ q (t : Int)) l' = (l' : Int) := by
    rw [← hl]
    exact ((comp_conn hq ha hln hb hlt).2 hc).symm
  have hm : (l' : Int) ∈ rtQ q t := (rootsC_mem _ _).2 ⟨l', rfl, by rw [compQ_length]; exact hln, hg⟩
  obtain ⟨i, hi⟩ := List.mem_iff_getElem?.1 hm
  have hil : i < (rtQ q t).length := by
    rcases Nat.lt_or_ge i (rtQ q t).length with h | h
    · exact h
    · rw [List.getElem?_eq_none h] at hi; cases hi
  refine ⟨i, hil, ?_⟩
  have e1 : (rtQ q t).getD i 0 = (l' : Int) := by rw [List.getD_eq_getElem?_getD, hi]; rfl
  rw [ptQ, e1, Int.toNat_natCast]
  exact hc
/-- where a part goes from stage t to the next one -/
def nxG (q : Filt) (t i : Nat) : Nat := (fidx (fun x => nxQ q t i == x) (rtQ q (t + 1))).toNat
def upG (q : Filt) (v : Nat) : Nat → Nat → Nat
  | 0, i => i
  | n + 1, i => nxG q (v + n) (upG q v n i)
theorem nx_of {q : Filt} (hq : isF q = true) {t i : Nat} (hi : i < (rtQ q t).length) : nxG q t i < (rtQ q (t + 1)).length ∧ conn ((t : Int) + 1) q.ends (ptQ q t i) (ptQ q (t + 1) (nxG q t i)) ∧ ∀ k, k < (rtQ q (t + 1)).length → (frF q t k i = if nxG q t i = k then 1 else 0) := by
  obtain ⟨pt, r, h1, h2, h3, h4, h5, h6⟩ := fr_row hq hi
  have e5 : nxG q t i = r := by rw [nxG, h5]; rfl
  have e1 : ptQ q t i = pt := by rw [ptQ, List.getD_eq_getElem?_getD, h1]; rfl
  have hr : r < (rtQ q (t + 1)).length := by
    rcases Nat.lt_or_ge r (rtQ q (t + 1)).length with h | h
    · exact h
    · rw [List.getElem?_eq_none h] at h4; cases h4
  have hb := (pt_of hq hi).2.2.1
  rw [e1] at hb
  obtain ⟨l, hl, hc, _⟩ := comp_lab hq h2 (t := (t : Int) + 1) (by omega)
  have e2 : ptQ q (t + 1) r = l := by
    rw [ptQ, List.getD_eq_getElem?_getD, h4]
    have : nxQ q t i = (l : Int) := by
      rw [← hl, gt, List.getD_eq_getElem?_getD, h3]; rfl
    rw [this]; rfl
  rw [e5, e1, e2]
  exact ⟨hr, hc, fun k hk => by
    rw [h6 k hk]
    by_cases e : k = r
    · rw [if_pos e, if_pos e.symm]
    · rw [if_neg e, if_neg fun h => e h.symm]⟩
theorem up_of {q : Filt} (hq : isF q = true) {v i : Nat} (hi : i < (rtQ q v).length) : ∀ n, upG q v n i < (rtQ q (v + n)).length ∧ conn ((v + n : Nat) : Int) q.ends (ptQ q v i) (ptQ q (v + n) (upG q v n i))
  | 0 => ⟨hi, conn_refl _ _ _⟩
  | n + 1 => by
    obtain ⟨h1, h2⟩ := up_of hq hi n
    obtain ⟨h3, h4, _⟩ := nx_of hq h1
    refine ⟨h3, conn_trans (conn_le (by omega) h2) ?_⟩
    exact h4
theorem up_conn {q : Filt} (hq : isF q = true) {v i j : Nat} (hi : i < (rtQ q v).length) (hj : j < (rtQ q v).length) (n : Nat) : upG q v n i = upG q v n j ↔ conn ((v + n : Nat) : Int) q.ends (ptQ q v i) (ptQ q v j) := by
  obtain ⟨h1, h2⟩ := up_of hq hi n
  obtain ⟨h3, h4⟩ := up_of hq hj n
  constructor
  · intro e
    rw [e] at h2
    exact conn_trans h2 (conn_symm h4)
  · intro h
    exact pt_conn hq h1 h3 (conn_trans (conn_symm h2) (conn_trans h h4))

/-! ### the maps -/
theorem frD_at (q : Filt) {p : Int} {j : Nat} (h : (j : Int) < q.stages) : dN (frR p q) j = (rtQ q j).length := by
  have : j < q.stages.toNat := by omega
  simp [dN, frR, frD, rowF, this]
theorem frM_at {q : Filt} (hq : isF q = true) {p : Int} {j k i : Nat} (h : (j : Int) + 1 < q.stages) (hk : k < (rtQ q (j + 1)).length) (hi : i < (rtQ q j).length) : mpF (frR p q) j k i = frF q j k i := by
  have hs := (isF_ok hq).1
  have hl := line_len (n := q.stages) (inR_t.2 ⟨hs.1, hs.2⟩)
  rw [mpF, frD_at q (by omega)]
  have : (frR p q).m[j]? = some (mxF (rtQ q (j + 1)).length (rtQ q j).length (frF q j)) := msF_get _ (by omega)
  rw [List.getD_eq_getElem?_getD, this]
  exact entry_flat _ hk hi
theorem frP_map {q : Filt} (hq : isF q = true) {p : Int} (hp : isFld p = true) (v : Nat) : ∀ n, ((v + n : Nat) : Int) < q.stages → ∀ k i, k < (rtQ q (v + n)).length → i < (rtQ q v).length → pdF (frR p q) v n k i = if upG q v n i = k then 1 else 0
  | 0, _, k, i, hk, hi => by
    rw [pdF, idF, upG]
    by_cases e : k = i
    · rw [if_pos e, if_pos e.symm]
    · rw [if_neg e, if_neg fun h => e h.symm]
  | n + 1, hn, k, i, hk, hi => by
    have hp2 := isFld_r hp
    obtain ⟨h1, _⟩ := up_of hq hi n
    obtain ⟨_, _, h3⟩ := nx_of hq h1
    rw [pdF, muP, frD_at q (by omega), sg_congr (b := fun t => if t = upG q v n i then frF q (v + n) k t else 0) fun t ht => ?_, sg_one (h := fun t => frF q (v + n) k t) h1, h3 k hk]
    · have hpe : (frR p q).p = p := rfl
      rw [hpe, upG]
      split
      · exact Int.emod_eq_of_lt (by omega) (by omega)
      · exact Int.zero_emod _
    · have hM := frM_at hq (p := p) (j := v + n) (k := k) (i := t) (by omega) hk ht
      rw [frP_map hq hp v n (by omega) t i ht hi, show mpF (frR p q) (v + n) k t = _ from hM]
      by_cases e : t = upG q v n i
      · rw [if_pos e, if_pos e.symm, Int.mul_one]
      · rw [if_neg e, if_neg fun h => e h.symm, Int.mul_zero]
theorem fr_rank {q : Filt} (hq : isF q = true) {p : Nat} (hp : isFld p = true) {v n : Nat} (hn : ((v + n : Nat) : Int) < q.stages) : rtF (frR p q) v (v + n) = ((fsts (upG q v n) (rtQ q v).length).length : Int) := by
  rw [rtF, if_neg (by omega), Nat.add_sub_cancel_left, frD_at q (by omega), frD_at q (by omega)]
  congr 1
  exact fn_rk hp (fun i hi => (up_of hq hi n).1) fun k i hk hi => frP_map hq hp v n hn k i hk hi
end Go.Proofs.YtgabmemalaklbaaGreat

/- The bars of a filtration's representation are the elder's bars. Plain. -/
namespace Go.Proofs.YtgabmemalaklbaaGreat
set_option linter.unusedVariables false
set_option linter.unusedSimpArgs false
open Go.RowKit

theorem sm_filter (P : Nat → Bool) : ∀ n, ((((List.range n).filter P).length : Nat) : Int) = sm n fun i => if P i = true then 1 else 0
  | 0 => rfl
  | n + 1 => by
    rw [List.range_succ, List.filter_append, List.length_append, Int.natCast_add, sm_filter P n, sm]
    rcases h : P n <;> simp [h]
/-- a point is old enough for v and lives at w -/
def olB (f : Filt) (v w : Int) (a : Nat) : Bool := decide (vx f.birth a ≤ v ∧ w ≤ vx (ebRun f).last a)
def olN (f : Filt) (v w : Int) : Int := sm f.birth.length fun a => if olB f v w a = true then 1 else 0
/-- heads of stage w -/
theorem head_conn {f : Filt} (hf : isF f = true) {w i j : Nat} (hw : (w : Int) ≤ f.stages - 1) (hi : i < f.birth.length) (hj : j < f.birth.length) : vx (ebPre f (w + 1)).head i = vx (ebPre f (w + 1)).head j ↔ conn (w : Int) f.ends i j := by
  obtain ⟨h1, _⟩ := pre_all hf (w + 1)
  obtain ⟨_, _, _, hb, ho⟩ := isF_ok hf
  rw [h1.hc i j hi hj]
  refine conn_perm fun a b s => ⟨?_, ?_⟩
  · rintro ⟨h, _⟩
    obtain ⟨h2, t, ht, e⟩ := edPre_mem.1 h
    have : vx [a, b, s] 2 = s := rfl
    exact ⟨h2, by omega⟩
  · rintro ⟨h, hs⟩
    have h5 := (ho _ h).2.2.2.2.1
    have : vx [a, b, s] 2 = s := rfl
    rw [this] at h5
    exact ⟨edPre_mem.2 ⟨h, s.toNat, by omega, by omega⟩, by omega⟩
theorem fr_count {q : Filt} (hq : isF q = true) {v n : Nat} (hn : ((v + n : Nat) : Int) < q.stages) : (((fsts (upG q v n) (rtQ q v).length).length : Nat) : Int) = olN q v ((v + n : Nat) : Int) := by
  obtain ⟨w, hw⟩ : ∃ w, w = v + n := ⟨_, rfl⟩
  obtain ⟨hI, _⟩ := pre_all hq (w + 1)
  have hws : (w : Int) ≤ q.stages - 1 := by omega
  have up : ∀ i j, i < (rtQ q v).length → j < (rtQ q v).length → (upG q v n i = upG q v n j ↔ conn (w : Int) q.ends (ptQ q v i) (ptQ q v j)) := fun i j hi hj => by rw [hw]; exact up_conn hq hi hj n
  rw [olN, ← sm_filter, ← hw]
  congr 1
  have B : ∀ a, a ∈ (List.range q.birth.length).filter (olB q (v : Int) (w : Int)) ↔ a < q.birth.length ∧ vx q.birth a ≤ (v : Int) ∧ vx (ebPre q (w + 1)).head a = a := fun a => by
    rw [List.mem_filter, List.mem_range, olB, decide_eq_true_eq]
    constructor
    · rintro ⟨h1, h2, h3⟩
      exact ⟨h1, h2, (alive_iff hq hws h1).1 h3⟩
    · rintro ⟨h1, h2, h3⟩
      exact ⟨h1, h2, (alive_iff hq hws h1).2 h3⟩
  obtain ⟨hd, hhd⟩ : ∃ hd : Nat → Nat, ∀ a, a < q.birth.length → hd a < q.birth.length ∧ vx (ebPre q (w + 1)).head a = (hd a : Int) ∧ vx (ebPre q (w + 1)).head (hd a) = (hd a : Int) := by
    refine ⟨fun a => (vx (ebPre q (w + 1)).head a).toNat, fun a ha => ?_⟩
    obtain ⟨h1, h2, h3⟩ := hI.I.hr a ha
    obtain ⟨z, hz⟩ : ∃ z, (vx (ebPre q (w + 1)).head a).toNat = z := ⟨_, rfl⟩
    show (vx (ebPre q (w + 1)).head a).toNat < _ ∧ _ = (((vx (ebPre q (w + 1)).head a).toNat : Nat) : Int) ∧ vx (ebPre q (w + 1)).head (vx (ebPre q (w + 1)).head a).toNat = (((vx (ebPre q (w + 1)).head a).toNat : Nat) : Int)
    rw [h3]
    refine ⟨?_, ?_, ?_⟩ <;> omega
  apply Nat.le_antisymm
  · refine inj_le (φ := fun i => hd (ptQ q v i)) (fsts_nodup _ _) (fun i hi j hj e => ?_) fun i hi => ?_
    · obtain ⟨hi, hi2⟩ := fsts_mem.1 hi
      obtain ⟨hj, hj2⟩ := fsts_mem.1 hj
      have pi := (pt_of hq hi).2.1
      have pj := (pt_of hq hj).2.1
      have e2 : upG q v n i = upG q v n j := (up i j hi hj).2 ((head_conn hq hws pi pj).1 (by rw [(hhd _ pi).2.1, (hhd _ pj).2.1, show hd (ptQ q v i) = hd (ptQ q v j) from e]))
      rcases Nat.lt_trichotomy i j with h | h | h
      · exact absurd e2 (hj2 i h)
      · exact h
      · exact absurd e2.symm (hi2 j h)
    · obtain ⟨hi, _⟩ := fsts_mem.1 hi
      obtain ⟨_, pi, pb, _⟩ := pt_of hq hi
      obtain ⟨h1, h2, h3⟩ := hhd _ pi
      have he := hI.he _ pi
      rw [h2, Int.toNat_natCast] at he
      have pb' : vx q.birth (ptQ q v i) ≤ (v : Int) := pb
      exact (B _).2 ⟨h1, by omega, h3⟩
  · obtain ⟨ix, hix⟩ : ∃ ix : Nat → Nat, ∀ a, a < q.birth.length → vx q.birth a ≤ (v : Int) → ix a ∈ fsts (upG q v n) (rtQ q v).length ∧ conn (w : Int) q.ends a (ptQ q v (ix a)) := by
      have : ∀ a, ∃ i, a < q.birth.length → vx q.birth a ≤ (v : Int) → i ∈ fsts (upG q v n) (rtQ q v).length ∧ conn (w : Int) q.ends a (ptQ q v i) := by
        intro a
        by_cases h : a < q.birth.length ∧ vx q.birth a ≤ (v : Int)
        · obtain ⟨h1, h2⟩ := h
          obtain ⟨i, hi, hc⟩ := pt_ex hq h1 h2
          obtain ⟨j, hj, e, hm⟩ := fst_at (upG q v n) i
          refine ⟨j, fun _ _ => ⟨fsts_mem.2 ⟨by omega, fun k hk => by rw [e]; exact hm k hk⟩, conn_trans (conn_le (by omega) hc) ((up i j hi (by omega)).1 e.symm)⟩⟩
        · exact ⟨0, fun h1 h2 => absurd ⟨h1, h2⟩ h⟩
      exact ⟨fun a => Classical.choose (this a), fun a => Classical.choose_spec (this a)⟩
    refine inj_le (φ := ix) (List.Pairwise.filter _ List.nodup_range) (fun a ha b hb e => ?_) fun a ha => ?_
    · obtain ⟨a1, a2, a3⟩ := (B a).1 ha
      obtain ⟨b1, b2, b3⟩ := (B b).1 hb
      have c1 := (hix a a1 a2).2
      have c2 := (hix b b1 b2).2
      rw [e] at c1
      have := (head_conn hq hws a1 b1).2 (conn_trans c1 (conn_symm c2))
      omega
    · obtain ⟨a1, a2, a3⟩ := (B a).1 ha
      exact (hix a a1 a2).1
theorem fr_rt {q : Filt} (hq : isF q = true) {p : Nat} (hp : isFld p = true) {v w : Nat} (hv : v ≤ w) (hw : (w : Int) < q.stages) : rtF (frR p q) v w = olN q v w := by
  obtain ⟨n, rfl⟩ : ∃ n, w = v + n := ⟨w - v, by omega⟩
  rw [fr_rank hq hp hw]
  exact fr_count hq hw
end Go.Proofs.YtgabmemalaklbaaGreat

/- The bars of a filtration's representation are the elder's bars: the law in plain words. -/
namespace Go.Proofs.YtgabmemalaklbaaGreat
set_option linter.unusedVariables false
set_option linter.unusedSimpArgs false
open Go.RowKit

theorem atF_ol {q : Filt} (hq : isF q = true) {p : Nat} (hp : isFld p = true) {v w : Int} (hv : -1 ≤ v) (hw : 0 ≤ w) (hvw : v ≤ w) : atF q.stages.toNat (rtF (frR p q)) v w = olN q v w := by
  obtain ⟨hs, _, _, hb, _⟩ := isF_ok hq
  have zero : (v < 0 ∨ q.stages ≤ w) → olN q v w = 0 := fun h => by
    refine Eq.trans (sm_congr (g := fun _ => 0) _ fun a ha => if_neg ?_) (sm_zero q.birth.length)
    intro hh
    rw [olB, decide_eq_true_eq] at hh
    obtain ⟨h1, h2⟩ := hh
    have h3 := hb a ha
    rcases h with h | h
    · omega
    · obtain ⟨hI, hD⟩ := pre_all hq q.stages.toNat
      have hl : vx (ebRun q).last a ≤ q.stages - 1 := by
        rw [ebRun_pre]
        by_cases e : vx (ebPre q q.stages.toNat).head a = a
        · rw [hI.I.lr a ha e]; omega
        · have := hD a ha e; omega
      omega
  rw [atF]
  split
  · rename_i h
    rw [zero (by omega)]
  · rename_i h
    have h1 := fr_rt hq hp (v := v.toNat) (w := w.toNat) (by omega) (by omega)
    rw [h1]
    congr 1 <;> omega
theorem cnt_el {q : Filt} (hq : isF q = true) {p : Nat} (hp : isFld p = true) {v w : Nat} (hvw : v ≤ w) : cntF q.stages.toNat (rtF (frR p q)) v w = spCnt q (ebRun q) v w := by
  rw [cntF, atF_ol hq hp (by omega) (by omega) (by omega), atF_ol hq hp (by omega) (by omega) (by omega), atF_ol hq hp (by omega) (by omega) (by omega), atF_ol hq hp (by omega) (by omega) (by omega)]
  rw [olN, olN, olN, olN, spCnt, ← sm_sub, ← sm_sub, ← sm_add]
  refine sm_congr _ fun a _ => ?_
  simp only [olB, decide_eq_true_eq]
  split <;> split <;> split <;> split <;> split <;> omega
theorem bf_el {q : Filt} (hq : isF q = true) {p : Nat} (hp : isFld p = true) : bfAll q.stages.toNat (rtF (frR p q)) q.stages.toNat = spBars q (ebRun q) := by
  have flat : ∀ {α β : Type} (F G : α → List β) (l : List α), (∀ x ∈ l, F x = G x) → l.flatMap F = l.flatMap G := by
    intro α β F G l h
    induction l with
    | nil => rfl
    | cons x r ih => rw [List.flatMap_cons, List.flatMap_cons, h x (by simp), ih fun y hy => h y (by simp [hy])]
  rw [bfAll, spBars, spTo]
  refine flat _ _ _ fun v hv => ?_
  rw [bfRow, spRow]
  refine flat _ _ _ fun d hd => ?_
  have e := cnt_el hq hp (v := v) (w := v + d) (by omega)
  have h0 : 0 ≤ spCnt q (ebRun q) v ((v + d : Nat) : Int) := sm_nonneg _ fun i _ => by split <;> omega
  rw [bfOne, spEl, e]
  split <;> split <;> first | rfl | omega
end Go.Proofs.YtgabmemalaklbaaGreat

/- The bars of a filtration's representation, as the program tells them: those of the elder's rule. -/
namespace Go.Proofs.YtgabmemalaklbaaGreat
set_option linter.unusedVariables false
set_option linter.unusedSimpArgs false
open Go.RowKit

theorem line_isL {n : Int} (h : inR n 1 5 = true) : isL (lineQ n) = true := by
  have := inR_t.1 h
  have : n = 1 ∨ n = 2 ∨ n = 3 ∨ n = 4 ∨ n = 5 := by omega
  rcases this with rfl | rfl | rfl | rfl | rfl <;> decide
theorem frR_rep {p : Int} {q : Filt} (hp : isFld p = true) (hq : isF q = true) (hd : areDims (lineQ q.stages) (frD q) = true) : isRep (frR p q) = true := by
  have hs := (isF_ok hq).1
  have hin : inR q.stages 1 5 = true := inR_t.2 ⟨hs.1, hs.2⟩
  have hl := line_len hin
  have hb := (isF_ok hq).2.1
  have hpr := isFld_r hp
  have hml : (frR p q).m.length = (lineQ q.stages).f.length := msF_length _ _
  refine isRep_t.2 ⟨hp, hd, hml, ?_⟩
  simp only [okMs, List.all_eq_true, List.mem_range]
  intro i hi
  rw [hml] at hi
  obtain ⟨h1, h2, h3⟩ := line_at hin hi
  have e : (frR p q).m[i]? = some (mxF (rtQ q (i + 1)).length (rtQ q i).length (frF q i)) := msF_get _ hi
  have d1 : dAt (frD q) ((i + 1 : Nat) : Int) = ((rtQ q (i + 1)).length : Int) := by rw [dAt, Int.toNat_natCast, frD, rowF_getD _ (by omega)]
  have d2 : dAt (frD q) (i : Int) = ((rtQ q i).length : Int) := by rw [dAt, Int.toNat_natCast, frD, rowF_getD _ (by omega)]
  have r1 := rtQ_le q (i + 1)
  have r2 := rtQ_le q i
  have hM : isMat p (mxF (rtQ q (i + 1)).length (rtQ q i).length (frF q i)) = true := isMat_mxF hp (by omega) (by omega) fun a b _ _ => by unfold frF; split <;> omega
  show okM (frR p q) ((frR p q).m.getD i ⟨0, 0, []⟩) ((lineQ q.stages).f.getD i 0) ((lineQ q.stages).t.getD i 0) = true
  rw [List.getD_eq_getElem?_getD, e, h1, h2]
  simp only [Option.getD_some, okM, Bool.and_eq_true, decide_eq_true_eq]
  exact ⟨⟨hM, d2.symm⟩, d1.symm⟩
theorem flt_bars {p : Int} {q : Filt} (h : (frP p q).2 = true) : bfQ (frP p q).1 = ebQ q := by
  rcases h1 : frOk p q && areDims (lineQ q.stages) (frD q) with _ | _
  · simp [frP, h1] at h
  simp only [Bool.and_eq_true, frOk] at h1
  obtain ⟨⟨hp, hq⟩, hd⟩ := h1
  have e : frP p q = (frR p q, true) := frP_yes (by simp [frOk, hp, hq]) hd
  have hr := isFld_r hp
  obtain ⟨n, rfl⟩ : ∃ n : Nat, p = (n : Int) := ⟨p.toNat, by omega⟩
  have hs := (isF_ok hq).1
  have hin : inR q.stages 1 5 = true := inR_t.2 ⟨hs.1, hs.2⟩
  have hL : okL (frR (n : Int) q) = true := by
    rw [okL, frR_rep hp hq hd]
    exact line_isL hin
  have hlen : (frR (n : Int) q).d.length = q.stages.toNat := rowF_length _ _
  rw [e, bfQ, if_pos hL, ebQ, if_pos hq, hlen, bf_el hq hp]
theorem ebQ_is (q : Filt) : (ebQ q).2 = isF q := by
  rw [ebQ]
  split
  · rename_i h; rw [h]
  · rename_i h; simpa using h
end Go.Proofs.YtgabmemalaklbaaGreat

/- CyclesAt: both. -/
namespace Go.Proofs.YtgabmemalaklbaaGreat
set_option linter.unusedVariables false
set_option linter.unusedSimpArgs false
open Go.RowKit

def endsTo (t : Int) (es : List (List Int)) (k : Nat) : Nat := (es.take k).countP fun e => decide (e.getD 2 0 ≤ t)
def bornTo (t : Int) (bi : List Int) (k : Nat) : Nat := (bi.take k).countP fun x => decide (x ≤ t)
def posTo (c : List Int) (k : Nat) : Nat := (c.take k).countP fun x => decide (0 ≤ x)
def cycQ (q : Filt) (t : Int) : Int := if isF q && inR t 0 (q.stages - 1) then (cntQ q t : Int) + endsTo t q.ends q.ends.length - bornTo t q.birth q.birth.length else 0
theorem endsTo_le (t : Int) (es : List (List Int)) (k : Nat) : endsTo t es k ≤ k := Nat.le_trans List.countP_le_length (by simp; omega)
theorem bornTo_le (t : Int) (es : List Int) (k : Nat) : bornTo t es k ≤ k := Nat.le_trans List.countP_le_length (by simp; omega)
theorem posTo_le (es : List Int) (k : Nat) : posTo es k ≤ k := Nat.le_trans List.countP_le_length (by simp; omega)
theorem endsTo_succ {t s : Int} {es : List (List Int)} {k : Nat} {i j : Int} (h : es[k]? = some [i, j, s]) : endsTo t es (k + 1) = endsTo t es k + if s ≤ t then 1 else 0 := by
  rw [endsTo, take_snoc h, List.countP_append, List.countP_singleton]; simp [endsTo]
theorem bornTo_succ {t s : Int} {es : List Int} {k : Nat} (h : es[k]? = some s) : bornTo t es (k + 1) = bornTo t es k + if s ≤ t then 1 else 0 := by
  rw [bornTo, take_snoc h, List.countP_append, List.countP_singleton]; simp [bornTo]
theorem posTo_succ {s : Int} {es : List Int} {k : Nat} (h : es[k]? = some s) : posTo es (k + 1) = posTo es k + if 0 ≤ s then 1 else 0 := by
  rw [posTo, take_snoc h, List.countP_append, List.countP_singleton]; simp [posTo]
theorem pos_born {q : Filt} {t : Int} (hq : isF q = true) : ∀ k, k ≤ q.birth.length → posTo (compQ q t) k = bornTo t q.birth k
  | 0, _ => by simp [posTo, bornTo]
  | k + 1, hk => by
    have hl : (compQ q t).length = q.birth.length := compQ_length q t
    have h1 : (compQ q t)[k]? = some (gt (compQ q t) k) := by rw [gt, List.getD_eq_getElem?_getD, List.getElem?_eq_getElem (by omega)]; rfl
    have h2 : q.birth[k]? = some (q.birth.getD k 0) := by rw [List.getD_eq_getElem?_getD, List.getElem?_eq_getElem (by omega)]; rfl
    rw [posTo_succ h1, bornTo_succ h2, pos_born hq k (by omega)]
    rcases compQ_root hq (i := k) (t := t) (by omega) with ⟨h3, h4⟩ | ⟨h3, l, h4, _⟩
    · rw [if_neg (by omega), if_neg (by omega)]
    · rw [if_pos (by omega), if_pos (by omega)]
theorem cntQ_le (q : Filt) (t : Int) : cntQ q t ≤ (compsQ q t).length := by
  have := List.length_filter_le (fun i => decide ((compsQ q t).getD i 0 = (i : Int))) (List.range (compsQ q t).length)
  rw [List.length_range] at this
  simpa [cntQ, rootsC] using this

set_option maxHeartbeats 1600000 in
theorem implCyclesAt_any (u : Value) (q : Filt) (t : Int) (w : World) (hu : FiR w w.heap.size u q) (ht : I64 t) :
    Calls Tryz.prog 16 #[u, .int .i64 t] w fun e w' => e = .returned (.int .i64 (cycQ q t)) ∧ Below w.heap.size w w' := by
  obtain ⟨A, c, C, d, e0, hf, hT, hr, lf, lt⟩ := hu.open_
  subst e0
  have g0 := below_alloc w (.cells #[.int .i64 q.stages, .slice A q.birth.length c, .slice C q.ends.length d] 27)
  have kB := Blk.new w 27 #[.int .i64 q.stages, .slice A q.birth.length c, .slice C q.ends.length d]
  have h1 := hu.next g0
  rcases hB : (isF q && inR t 0 (q.stages - 1)) with _ | _
  · have HC : Hid (cycQ q t = 0) := by show _ = _; rw [cycQ, if_neg (by rw [hB]; simp)]
    go_enter Tryz.func16, Tryz.ntmps16
    go_wp2_with fail
    refine (hasStage_any _ q t _ h1).mono ?_; rintro e w1 ⟨rfl, hb1⟩
    rw [hB]
    go_wp2
    go_ret
    exact ⟨by rw [HC.out]; rfl, bthen g0 hb1⟩
  · have HC : Hid (cycQ q t = (cntQ q t : Int) + endsTo t q.ends q.ends.length - bornTo t q.birth q.birth.length) := by show _ = _; rw [cycQ, if_pos hB]
    have hB' := hB
    rw [Bool.and_eq_true] at hB'
    obtain ⟨hq, hin⟩ := hB'
    obtain ⟨hl1, hl2, hl3, hl4, hl5⟩ := isF_lens hq
    have HB := Lib.hid hB
    have hcl : cntQ q t ≤ 4 := by
      have := cntQ_le q t
      rw [compsQ, if_pos hB, compQ_length] at this
      omega
    clear hB hin
    go_enter Tryz.func16, Tryz.ntmps16
    go_wp2_with fail
    refine (hasStage_any _ q t _ h1).mono ?_; rintro e w1 ⟨rfl, hb1⟩
    rw [HB.out]
    have k1 := kB.call hb1
    have g1 := bthen g0 hb1
    have c0 := k1.cell' (i := 0) rfl
    have c1 := k1.cell' (i := 1) rfl
    have c2 := k1.cell' (i := 2) rfl
    have h2 := FiR.next g1 hu
    clear kB g0 h1 hu hb1
    go_wp2_with fail
    refine (implCountComponents_any _ q t _ h2 ht).mono ?_; rintro e w2 ⟨rfl, hb2⟩
    have k2 := k1.call hb2
    have g2 := bthen g1 hb2
    clear c0 c1 c2 k1 g1 h2 hb2
    have c1 := k2.cell' (i := 1) rfl
    have c2 := k2.cell' (i := 2) rfl
    obtain ⟨n, hn⟩ : ∃ n, cntQ q t = n := ⟨_, rfl⟩
    rw [hn] at hcl HC ⊢
    clear hn
    go_wp2
    go_loopw [5, 20] (fun a i wr => ∃ k m : Nat, k ≤ q.ends.length ∧ i = .int .i64 k ∧ a = .int .i64 ((n : Int) + endsTo t q.ends k) ∧ wr = w2.drewN m) (fun _ i _ => q.ends.length - (intOf i).toNat)
    case atStart => exact ⟨0, 0, Nat.zero_le _, rfl, by simp [endsTo], rfl⟩
    case round =>
      obtain ⟨k, m, hk, rfl, rfl, rfl⟩ := hrel
      have hle := endsTo_le t q.ends k
      by_cases hlt : k < q.ends.length
      · obtain ⟨b, o, l, A', c', rfl, hb, HL, x1, hl⟩ := SlII.at_ hT hlt
        obtain ⟨i, j, et, rfl, hi, hj⟩ := isF_end hq HL.out
        have x2 := bcell g2 hb x1
        obtain ⟨b3, o3, y2, E2, hb3, HY2, j2, _⟩ := SlI.at_ (k := 2) hl (by simp)
        have F3 := HY2.out
        simp only [List.getElem?_cons_zero, List.getElem?_cons_succ, Option.some.injEq] at F3 E2
        subst F3 E2
        have j2' := bcell g2 hb3 j2
        clear j2 HY2 x1 hl
        have hs := endsTo_succ (t := t) HL.out
        simp only [List.length_cons, List.length_nil, Nat.zero_add, Nat.reduceAdd] at x2
        generalize endsTo t q.ends k = ek at hs hle ⊢
        by_cases het : et ≤ t
        · have het' : ¬ t < et := by omega
          rw [if_pos het] at hs
          have HS := Lib.hid hs
          clear hs
          go_wp2
          go_roundw
          case rel => exact ⟨k + 1, _, by omega, by go_num, by rw [HS.out]; go_num, rfl⟩
          case measure => simp [intOf]; omega
        · have het' : t < et := by omega
          rw [if_neg het] at hs
          have HS := Lib.hid hs
          clear hs
          go_wp2
          go_roundw
          case rel => exact ⟨k + 1, _, by omega, by go_num, by rw [HS.out]; go_num, rfl⟩
          case measure => simp [intOf]; omega
      · obtain rfl : k = q.ends.length := by omega
        generalize endsTo t q.ends q.ends.length = ek at hle HC
        go_wp2
        go_loopw [5, 35] (fun a i wr => ∃ k m : Nat, k ≤ q.birth.length ∧ i = .int .i64 k ∧ a = .int .i64 ((n : Int) + ek - bornTo t q.birth k) ∧ wr = w2.drewN m) (fun _ i _ => q.birth.length - (intOf i).toNat)
        case atStart => exact ⟨0, _, Nat.zero_le _, rfl, by simp [bornTo], rfl⟩
        case round =>
          obtain ⟨k, m, hk, rfl, rfl, rfl⟩ := hrel
          have hle2 := bornTo_le t q.birth k
          by_cases hlt : k < q.birth.length
          · obtain ⟨b, o, x, rfl, hb, HX, x1, _⟩ := SlI.at_ hf hlt
            have x2 := bcell g2 hb x1
            have hs := bornTo_succ (t := t) HX.out
            clear x1
            generalize bornTo t q.birth k = ek0 at hs hle2 ⊢
            by_cases het : x ≤ t
            · have het' : ¬ t < x := by omega
              rw [if_pos het] at hs
              have HS := Lib.hid hs
              clear hs
              go_wp2
              go_roundw
              case rel => exact ⟨k + 1, _, by omega, by go_num, by rw [HS.out]; go_num, rfl⟩
              case measure => simp [intOf]; omega
            · have het' : t < x := by omega
              rw [if_neg het] at hs
              have HS := Lib.hid hs
              clear hs
              go_wp2
              go_roundw
              case rel => exact ⟨k + 1, _, by omega, by go_num, by rw [HS.out]; go_num, rfl⟩
              case measure => simp [intOf]; omega
          · obtain rfl : k = q.birth.length := by omega
            go_wp2
            go_ret
            exact ⟨by rw [HC.out]; rfl, below_drewN g2 _⟩

theorem cycQ_no {q : Filt} {t : Int} (h : (isF q && inR t 0 (q.stages - 1)) = false) : compsQ q t = [] ∧ cntQ q t = 0 := by
  have h1 : compsQ q t = [] := by rw [compsQ, h]; rfl
  exact ⟨h1, by rw [cntQ, h1]; rfl⟩
set_option maxHeartbeats 1600000 in
theorem specCyclesAt_any (u : Value) (q : Filt) (t : Int) (w : World) (hu : FiR w w.heap.size u q) (ht : I64 t) :
    Calls Tryz.prog 24 #[u, .int .i64 t] w fun e w' => e = .returned (.int .i64 (cycQ q t)) ∧ Below w.heap.size w w' := by
  obtain ⟨A, c, C, d, e0, hf, hT, hr, lf, lt⟩ := hu.open_
  subst e0
  have g0 := below_alloc w (.cells #[.int .i64 q.stages, .slice A q.birth.length c, .slice C q.ends.length d] 27)
  have kB := Blk.new w 27 #[.int .i64 q.stages, .slice A q.birth.length c, .slice C q.ends.length d]
  have h1 := hu.next g0
  obtain ⟨cl, hcl⟩ : ∃ cl, compsQ q t = cl := ⟨_, rfl⟩
  have HCL := Lib.hid hcl
  have hll : cl.length ≤ 4 ∧ (cl.length = 0 ∨ (isF q = true ∧ (isF q && inR t 0 (q.stages - 1)) = true)) := by
    rw [← hcl]
    rcases hB : (isF q && inR t 0 (q.stages - 1)) with _ | _
    · rw [(cycQ_no hB).1]; simp
    · have hB' := hB
      rw [Bool.and_eq_true] at hB'
      have := (isF_lens hB'.1)
      rw [compsQ, if_pos hB, compQ_length]
      exact ⟨this.2.1, .inr ⟨hB'.1, rfl⟩⟩
  obtain ⟨n, hn⟩ : ∃ n, (rootsC cl).length = n := ⟨_, rfl⟩
  have hnl : n ≤ 4 := by
    have := cntQ_le q t
    rw [cntQ, hcl, hn] at this
    omega
  have HFIN : Hid (cycQ q t = (n : Int) - posTo cl cl.length + (if cl.length = 0 then 0 else endsTo t q.ends q.ends.length : Nat)) := by
    show _ = _
    rcases hB : (isF q && inR t 0 (q.stages - 1)) with _ | _
    · obtain ⟨h2, h3⟩ := cycQ_no hB
      rw [hcl] at h2
      subst h2
      rw [cycQ, hB]
      have : n = 0 := by rw [← hn]; rfl
      subst this
      simp [posTo]
    · have hB' := hB
      rw [Bool.and_eq_true] at hB'
      obtain ⟨hl1, _⟩ := isF_lens hB'.1
      have h2 : compQ q t = cl := by rw [← hcl, compsQ, if_pos hB]
      have h3 : cl.length = q.birth.length := by rw [← h2, compQ_length]
      have h4 := pos_born hB'.1 (t := t) q.birth.length (Nat.le_refl _)
      rw [h2] at h4
      rw [cycQ, if_pos hB, if_neg (by omega), h3, h4, cntQ, hcl, hn]
      omega
  have HF := Lib.hid hll.2
  have hl4 := hll.1
  clear hll hcl
  go_enter Tryz.func24, Tryz.ntmps24
  go_wp2_with fail
  refine (specComponentsAt_any _ q t _ h1 ht).mono ?_; rintro e w1 ⟨v, rfl, ho, hb1⟩
  rw [HCL.out] at ho
  have k1 := kB.call hb1
  have g1 := bthen g0 hb1
  have hcr := ho.rd
  obtain ⟨A1, c1, rfl, _, _⟩ := ho.1.form
  clear kB g0 h1 hu hb1 ho
  go_wp2_with fail
  refine (l24Roots_any _ _ _ hcr).mono ?_; rintro e w2 ⟨v, rfl, ho2, hb2⟩
  obtain ⟨A2, c2, rfl, _, _⟩ := ho2.1.form
  have k2 := k1.call hb2
  have g2 := bthen g1 hb2
  have hcr2 := SlI.next hb2 hcr
  rw [hn]
  clear k1 g1 hb2 hcr ho2 hn
  have c1' := k2.cell' (i := 1) rfl
  have c2' := k2.cell' (i := 2) rfl
  go_wp2
  go_loopw [6, 7] (fun a i wr => ∃ k m : Nat, k ≤ cl.length ∧ i = .int .i64 k ∧ a = .int .i64 ((n : Int) - posTo cl k) ∧ wr = w2.drewN m) (fun _ i _ => cl.length - (intOf i).toNat)
  case atStart => exact ⟨0, 0, Nat.zero_le _, rfl, by simp [posTo], rfl⟩
  case round =>
    obtain ⟨k, m, hk, rfl, rfl, rfl⟩ := hrel
    have hle := posTo_le cl k
    by_cases hlt : k < cl.length
    · obtain ⟨b, o, x, rfl, hb, HX, x1, _⟩ := SlI.at_ hcr2 hlt
      have hs := posTo_succ HX.out
      generalize posTo cl k = ek0 at hs hle ⊢
      by_cases het : 0 ≤ x
      · have het' : ¬ x < 0 := by omega
        rw [if_pos het] at hs
        have HS := Lib.hid hs
        clear hs
        go_wp2
        go_roundw
        case rel => exact ⟨k + 1, _, by omega, by go_num, by rw [HS.out]; go_num, rfl⟩
        case measure => simp [intOf]; omega
      · have het' : x < 0 := by omega
        rw [if_neg het] at hs
        have HS := Lib.hid hs
        clear hs
        go_wp2
        go_roundw
        case rel => exact ⟨k + 1, _, by omega, by go_num, by rw [HS.out]; go_num, rfl⟩
        case measure => simp [intOf]; omega
    · obtain rfl : k = cl.length := by omega
      obtain ⟨ps, hps⟩ : ∃ ps, posTo cl cl.length = ps := ⟨_, rfl⟩
      rw [hps] at hle HFIN ⊢
      clear hps
      by_cases hz : cl.length = 0
      · have HZ := Lib.hid hz
        have hz' : ¬ 0 < cl.length := by omega
        have HFIN2 : Hid (cycQ q t = (n : Int) - ps) := by show _ = _; rw [HFIN.out, if_pos hz]; omega
        have hd : decide (0 < cl.length) = false := by simpa using hz
        clear hz HFIN
        go_wp2
        go_loopw [6, 8] (fun a i wr => ∃ m : Nat, a = .int .i64 ((n : Int) - ps) ∧ i = .int .i64 0 ∧ wr = w2.drewN m) (fun _ _ _ => 0)
        case atStart => exact ⟨_, rfl, rfl, rfl⟩
        case round =>
          obtain ⟨m, rfl, rfl, rfl⟩ := hrel
          go_wp2
          all_goals (go_ret; exact ⟨by rw [HFIN2.out]; rfl, below_drewN g2 _⟩)
      · have HFIN2 : Hid (cycQ q t = (n : Int) - ps + endsTo t q.ends q.ends.length) := by show _ = _; rw [HFIN.out, if_neg hz]
        have hq : isF q = true := by rcases HF.out with h | h
                                     · exact absurd h hz
                                     · exact h.1
        have hz' : 0 < cl.length := by omega
        have hd : decide (0 < cl.length) = true := by simpa using hz'
        clear HFIN
        obtain ⟨hl1, hl2, hl3, hl4', hl5⟩ := isF_lens hq
        go_wp2
        go_loopw [6, 8] (fun a i wr => ∃ k m : Nat, k ≤ q.ends.length ∧ i = .int .i64 k ∧ a = .int .i64 ((n : Int) - ps + endsTo t q.ends k) ∧ wr = w2.drewN m) (fun _ i _ => q.ends.length - (intOf i).toNat)
        case atStart => exact ⟨0, _, Nat.zero_le _, rfl, by simp [endsTo], rfl⟩
        case round =>
          obtain ⟨k, m, hk, rfl, rfl, rfl⟩ := hrel
          have hle3 := endsTo_le t q.ends k
          by_cases hlt : k < q.ends.length
          · obtain ⟨b, o, l, A', c', rfl, hb, HL, x1, hl⟩ := SlII.at_ hT hlt
            obtain ⟨i, j, et, rfl, hi, hj⟩ := isF_end hq HL.out
            have x2 := bcell g2 hb x1
            obtain ⟨b3, o3, y2, E2, hb3, HY2, j2, _⟩ := SlI.at_ (k := 2) hl (by simp)
            have F3 := HY2.out
            simp only [List.getElem?_cons_zero, List.getElem?_cons_succ, Option.some.injEq] at F3 E2
            subst F3 E2
            have j2' := bcell g2 hb3 j2
            clear j2 HY2 x1 hl
            have hs := endsTo_succ (t := t) HL.out
            simp only [List.length_cons, List.length_nil, Nat.zero_add, Nat.reduceAdd] at x2
            generalize endsTo t q.ends k = ek at hs hle3 ⊢
            by_cases het : et ≤ t
            · have het' : ¬ t < et := by omega
              rw [if_pos het] at hs
              have HS := Lib.hid hs
              clear hs
              go_wp2
              go_roundw
              case rel => exact ⟨k + 1, _, by omega, by go_num, by rw [HS.out]; go_num, rfl⟩
              case measure => simp [intOf]; omega
            · have het' : t < et := by omega
              rw [if_neg het] at hs
              have HS := Lib.hid hs
              clear hs
              go_wp2
              go_roundw
              case rel => exact ⟨k + 1, _, by omega, by go_num, by rw [HS.out]; go_num, rfl⟩
              case measure => simp [intOf]; omega
          · obtain rfl : k = q.ends.length := by omega
            go_wp2
            all_goals (go_ret; exact ⟨by rw [HFIN2.out]; rfl, below_drewN g2 _⟩)
end Go.Proofs.YtgabmemalaklbaaGreat

/- Cycles of a filtration: edges and parts are at least as many as points. Plain. -/
namespace Go.Proofs.YtgabmemalaklbaaGreat
set_option linter.unusedVariables false
set_option linter.unusedSimpArgs false
open Go.RowKit

/-- the least of its part -/
def lstP (t : Int) (bi : List Int) (E : List (List Int)) (a : Nat) : Prop := bi.getD a 0 ≤ t ∧ ∀ b, b < a → ¬ conn t E b a
open Classical in
noncomputable def lstN (t : Int) (bi : List Int) (E : List (List Int)) (n : Nat) : Nat := ((List.range n).filter fun a => decide (lstP t bi E a)).length
theorem conn_nil {t : Int} {i j : Nat} (h : conn t [] i j) : i = j := by
  obtain ⟨l, h⟩ := h
  match l, h with
  | [], h => exact h
  | k :: r, h =>
    obtain ⟨⟨a, b, s, hm, _⟩, _⟩ := h
    cases hm
theorem filter_one {P Q : Nat → Bool} : ∀ n, (∀ x y, x < n → y < n → P x = true → Q x = false → P y = true → Q y = false → x = y) →
    ((List.range n).filter P).length ≤ ((List.range n).filter Q).length + 1 ∧ ((∀ x, x < n → P x = true → Q x = true) → ((List.range n).filter P).length ≤ ((List.range n).filter Q).length)
  | 0, _ => by simp
  | n + 1, h => by
    obtain ⟨h1, h2⟩ := filter_one (P := P) (Q := Q) n fun x y hx hy => h x y (by omega) (by omega)
    rw [List.range_succ, List.filter_append, List.filter_append, List.length_append, List.length_append]
    have e1 : (List.filter P [n]).length = if P n = true then 1 else 0 := by rcases hp : P n <;> simp [hp]
    have e2 : (List.filter Q [n]).length = if Q n = true then 1 else 0 := by rcases hp : Q n <;> simp [hp]
    rw [e1, e2]
    refine ⟨?_, fun hall => ?_⟩
    · by_cases hp : P n = true
      · by_cases hq : Q n = true
        · rw [if_pos hp, if_pos hq]; omega
        · have hq' : Q n = false := by simpa using hq
          have := h2 fun x hx hpx => by
            rcases hqx : Q x with _ | _
            · have := h x n (by omega) (by omega) hpx hqx hp hq'
              omega
            · rfl
          rw [if_pos hp]; omega
      · rw [if_neg hp]; omega
    · have := h2 fun x hx => hall x (by omega)
      by_cases hp : P n = true
      · rw [if_pos hp, if_pos (hall n (by omega) hp)]; omega
      · rw [if_neg hp]; omega
/-- one edge more takes at most one part -/
theorem lst_add {t : Int} {bi : List Int} {E : List (List Int)} {a b s : Int} (hs : s ≤ t) (n : Nat) : lstN t bi E n ≤ lstN t bi (E ++ [[a, b, s]]) n + 1 := by
  classical
  refine (filter_one n fun x y _ _ hx hx' hy hy' => ?_).1
  simp only [decide_eq_true_eq, decide_eq_false_iff_not] at hx hx' hy hy'
  have lost : ∀ z, lstP t bi E z → ¬ lstP t bi (E ++ [[a, b, s]]) z → ∃ u, u < z ∧ ((conn t E u a.toNat ∧ conn t E b.toNat z) ∨ (conn t E u b.toNat ∧ conn t E a.toNat z)) := by
    intro z h1 h2
    have : ∃ u, u < z ∧ conn t (E ++ [[a, b, s]]) u z := by
      apply Classical.byContradiction
      intro hn
      exact h2 ⟨h1.1, fun u hu hc => hn ⟨u, hu, hc⟩⟩
    obtain ⟨u, hu, hc⟩ := this
    refine ⟨u, hu, ?_⟩
    rcases (conn_add hs).1 hc with h | h | h
    · exact absurd h (h1.2 u hu)
    · exact .inl h
    · exact .inr h
  have same : ∀ z z', lstP t bi E z → lstP t bi E z' → conn t E z z' → z = z' := by
    intro z z' h1 h2 hc
    rcases Nat.lt_trichotomy z z' with h | h | h
    · exact absurd hc (h2.2 z h)
    · exact h
    · exact absurd (conn_symm hc) (h1.2 z' h)
  have le : ∀ z u, lstP t bi E z → conn t E u z → z ≤ u := by
    intro z u h1 hc
    rcases Nat.lt_or_ge u z with h | h
    · exact absurd hc (h1.2 u h)
    · exact h
  obtain ⟨u, hu, h1⟩ := lost x hx hx'
  obtain ⟨v, hv, h2⟩ := lost y hy hy'
  rcases h1 with ⟨h1, h1'⟩ | ⟨h1, h1'⟩ <;> rcases h2 with ⟨h2, h2'⟩ | ⟨h2, h2'⟩
  · exact same x y hx hy (conn_trans (conn_symm h1') h2')
  · have k1 := le x v hx (conn_trans h2 h1')
    have k2 := le y u hy (conn_trans h1 h2')
    omega
  · have k1 := le x v hx (conn_trans h2 h1')
    have k2 := le y u hy (conn_trans h1 h2')
    omega
  · exact same x y hx hy (conn_trans (conn_symm h1') h2')
theorem lst_skip {t : Int} {bi : List Int} {E : List (List Int)} {a b s : Int} (hs : ¬ s ≤ t) (n : Nat) : lstN t bi (E ++ [[a, b, s]]) n = lstN t bi E n := by
  classical
  have hc : ∀ i j, conn t (E ++ [[a, b, s]]) i j ↔ conn t E i j := fun i j => conn_perm fun a' b' s' => ⟨fun ⟨h, h2⟩ => by
    rcases List.mem_append.1 h with h | h
    · exact ⟨h, h2⟩
    · simp at h
      exact absurd (h.2.2 ▸ h2) hs, fun ⟨h, h2⟩ => ⟨List.mem_append_left _ h, h2⟩⟩
  have : ∀ a', lstP t bi (E ++ [[a, b, s]]) a' ↔ lstP t bi E a' := fun a' => by
    unfold lstP
    simp only [hc]
  unfold lstN
  simp only [this]
theorem lst_nil (t : Int) (bi : List Int) : ∀ n, n ≤ bi.length → lstN t bi [] n = bornTo t bi n
  | 0, _ => by simp [lstN, bornTo]
  | n + 1, h => by
    classical
    have ih := lst_nil t bi n (by omega)
    have h2 : bi[n]? = some (bi.getD n 0) := by rw [List.getD_eq_getElem?_getD, List.getElem?_eq_getElem (by omega)]; rfl
    rw [bornTo_succ h2, ← ih, lstN, List.range_succ, List.filter_append, List.length_append, lstN]
    congr 1
    have : lstP t bi [] n ↔ bi.getD n 0 ≤ t := ⟨fun h => h.1, fun h => ⟨h, fun b hb hc => by have := conn_nil hc; omega⟩⟩
    by_cases hp : bi.getD n 0 ≤ t
    · rw [if_pos hp, List.filter_cons_of_pos (by simpa using this.2 hp)]; rfl
    · rw [if_neg hp, List.filter_cons_of_neg (by simpa using fun hh => hp (this.1 hh))]; rfl
theorem lst_ends {t : Int} {q : Filt} (hq : isF q = true) : ∀ k, k ≤ q.ends.length → bornTo t q.birth q.birth.length ≤ lstN t q.birth (q.ends.take k) q.birth.length + endsTo t q.ends k
  | 0, _ => by rw [List.take_zero, lst_nil _ _ _ (Nat.le_refl _)]; omega
  | k + 1, hk => by
    have ih := lst_ends (t := t) hq k (by omega)
    have hl : q.ends[k]? = some q.ends[k] := List.getElem?_eq_getElem (by omega)
    obtain ⟨i, j, s, e, _, _⟩ := isF_end hq hl
    rw [e] at hl
    rw [endsTo_succ hl, take_snoc hl]
    by_cases hs : s ≤ t
    · have := lst_add (bi := q.birth) (E := q.ends.take k) (a := (i : Int)) (b := (j : Int)) hs q.birth.length
      rw [if_pos hs]; omega
    · rw [lst_skip hs, if_neg hs]; omega
/-- the least points of the parts are the roots -/
theorem lst_roots {t : Int} {q : Filt} (hq : isF q = true) : lstN t q.birth q.ends q.birth.length ≤ (rootsC (compQ q t)).length := by
  classical
  rw [rootsC, List.length_map, compQ_length]
  refine (filter_one q.birth.length fun x y hx _ h1 h2 _ _ => ?_).2 fun x hx h1 => ?_
  · exfalso
    simp only [decide_eq_true_eq, decide_eq_false_iff_not] at h1 h2
    obtain ⟨l, e1, hc, hl, _⟩ := comp_lab hq hx h1.1
    rcases compQ_root (t := t) hq hx with ⟨h3, _⟩ | ⟨_, l', e2, h3, _⟩
    · omega
    · rw [e1] at e2
      have e3 : l = l' := by omega
      subst e3
      rcases Nat.lt_or_ge l x with h | h
      · exact h1.2 l h (conn_symm hc)
      · have : l = x := by omega
        subst this
        exact h2 e1
  · simp only [decide_eq_true_eq] at h1 ⊢
    obtain ⟨l, e1, hc, hl, _⟩ := comp_lab hq hx h1.1
    rcases compQ_root (t := t) hq hx with ⟨h3, _⟩ | ⟨_, l', e2, h3, _⟩
    · omega
    · rw [e1] at e2
      have e3 : l = l' := by omega
      subst e3
      rcases Nat.lt_or_ge l x with h | h
      · exact absurd (conn_symm hc) (h1.2 l h)
      · have : l = x := by omega
        subst this
        exact e1
theorem cycQ_nonneg (q : Filt) (t : Int) : 0 ≤ cycQ q t := by
  unfold cycQ
  split
  · rename_i h
    have hq : isF q = true := by
      simp only [Bool.and_eq_true] at h
      exact h.1
    have h1 := lst_ends (t := t) hq q.ends.length (Nat.le_refl _)
    have h2 := lst_roots (t := t) hq
    rw [List.take_of_length_le (Nat.le_refl _)] at h1
    have h3 : cntQ q t = (rootsC (compQ q t)).length := by rw [cntQ, compsQ, if_pos h]
    omega
  · omega
end Go.Proofs.YtgabmemalaklbaaGreat

/- The program's FiltrationRep. -/
namespace Go.Proofs.YtgabmemalaklbaaGreat
set_option linter.unusedVariables false
set_option linter.unusedSimpArgs false
open Go.RowKit

theorem cell_chg {w w' : World} {g i lo hi : Nat} {v : Value} {t : TypeId} {cs : Array Value} (h : Chg lo hi w w') (hb : Blk w g t cs) (hg : g < lo ∨ hi ≤ g) (hc : w.cell? ⟨g, i, none⟩ = some v) : w'.cell? ⟨g, i, none⟩ = some v := by
  rw [(hb.chg h hg).cell]
  rwa [hb.cell] at hc
theorem ixR {i k r c P : Nat} (hi : i < r) (hk : k < c) (hr : r ≤ 4) (hc : c ≤ 4) (hP : P = i * c) : wrap64 ((i : Int) * (c : Int)) = (P : Int) ∧ wrap64 (((i : Int) + 1) * (c : Int)) = ((P + c : Nat) : Int) ∧ P + c ≤ r * c ∧ P + k < r * c ∧ r * c ≤ 16 := by
  have h1 : (i + 1) * c ≤ r * c := Nat.mul_le_mul_right _ hi
  have h2 : r * c ≤ 4 * 4 := Nat.mul_le_mul hr hc
  have h3 : (i + 1) * c = i * c + c := by rw [Nat.add_mul, Nat.one_mul]
  refine ⟨?_, ?_, by omega, by omega, by omega⟩
  · rw [show ((i : Int) * (c : Int)) = ((i * c : Nat) : Int) by simp, ← hP]
    exact IntWalk.wrap64_in _ ⟨by omega, by omega⟩
  · rw [show (((i : Int) + 1) * (c : Int)) = (((i + 1) * c : Nat) : Int) by simp, h3, ← hP]
    exact IntWalk.wrap64_in _ ⟨by omega, by omega⟩
theorem RepO.mForm {w : World} {lo hi n hm : Nat} {p v : Int} {f t d : Value} {HM : Option Addr} {x : Rp} (h : RepO w lo hi (.agg #[.int .i64 p, .int .i64 v, f, t, d, .slice HM n hm]) x) : x.m.length ≤ hm ∧ hm ≤ 9223372036854775807 := by
  obtain ⟨f1, t1, d1, m1, vs, e, hO, _⟩ := h
  simp only [Value.agg.injEq, Array.mk.injEq, List.cons.injEq, and_true] at e
  obtain ⟨_, _, rfl, rfl, rfl, rfl⟩ := e
  obtain ⟨A, c, e, h1, h2⟩ := RowO.form hO
  injection e with _ _ e3
  subst e3
  exact ⟨h1, h2⟩
set_option maxHeartbeats 6400000 in
set_option maxRecDepth 100000 in
theorem implFiltrationRep_any (p : Int) (u : Value) (q : Filt) (w0 : World) (hp : I64 p) (hu : FiR w0 w0.heap.size u q) :
    Calls Tryz.prog 6 #[.int .i64 p, u] w0 fun e w' => ∃ r, e = .returned (.tuple #[r, .bool (frP p q).2]) ∧ RepO w' w0.heap.size w'.heap.size r (frP p q).1 ∧ Below w0.heap.size w0 w' := by
  have hu' := hu
  obtain ⟨A, c, C, d, rfl, hf, hT, hr, lf, lt⟩ := hu.open_
  clear hu hf hT
  obtain ⟨W, hW⟩ : ∃ W, W = (w0.alloc (.cells #[.int .i64 q.stages, .slice A q.birth.length c, .slice C q.ends.length d] 27)).alloc (.cells #[.int .i64 0, .int .i64 0, .slice none 0 0, .slice none 0 0, .slice none 0 0, .slice none 0 0] 34) := ⟨_, rfl⟩
  have g0 : Below w0.heap.size w0 W := by rw [hW]; exact ((Below.refl _ _).alloc (Nat.le_refl _) _).alloc (by simp) _
  have k1 : Blk W w0.heap.size 27 #[.int .i64 q.stages, .slice A q.birth.length c, .slice C q.ends.length d] := by rw [hW]; exact (Blk.new _ _ _).alloc _
  have k2 : Blk W (w0.heap.size + 1) 34 #[.int .i64 0, .int .i64 0, .slice none 0 0, .slice none 0 0, .slice none 0 0, .slice none 0 0] := by
    rw [hW]
    have := Blk.new (w0.alloc (.cells #[.int .i64 q.stages, .slice A q.birth.length c, .slice C q.ends.length d] 27)) 34 #[.int .i64 0, .int .i64 0, .slice none 0 0, .slice none 0 0, .slice none 0 0, .slice none 0 0]
    simpa only [World.size_alloc] using this
  have sz : W.heap.size = w0.heap.size + 1 + 1 := by rw [hW]; simp
  have SZ := Lib.hid sz
  have HFI := Lib.hid (FiR.next g0 hu')
  have c0 := k1.cell' (i := 0) rfl
  have c1 := k1.cell' (i := 1) rfl
  have c2 := k1.cell' (i := 2) rfl
  clear hu' sz
  rcases h1 : isFld p with _ | _
  · have HE := Lib.hid (frP_no (p := p) (q := q) (by rw [frOk, h1]; rfl))
    have H1 := Lib.hid h1
    have GW := Lib.hid (Below.refl W.heap.size W)
    clear h1
    go_enter Tryz.func6, Tryz.ntmps6
    go_wp2_with fail
    rw [← hW]; clear hW
    refine (implIsField_any _ _).mono ?_; rintro e w3 ⟨rfl, hww⟩
    replace hww := hww.symm
    subst hww
    rw [H1.out]
    have kz := k2.call GW.out
    have fr := kz.frozen
    have s0 := kz.cell' (i := 0) rfl
    have s1 := kz.cell' (i := 1) rfl
    have s2 := kz.cell' (i := 2) rfl
    have s3 := kz.cell' (i := 3) rfl
    have s4 := kz.cell' (i := 4) rfl
    have s5 := kz.cell' (i := 5) rfl
    have gf := g0.trans (GW.out.mono g0.size)
    have GF := Lib.hid gf
    clear kz gf
    go_wp2
    have gf := GF.out
    have hE := HE.out
    exact bodyPost_ret (v := .tuple #[.agg #[.int .i64 0, .int .i64 0, .slice none 0 0, .slice none 0 0, .slice none 0 0, .slice none 0 0], .bool false]) (by simp [results, go_sem, s0, s1, s2, s3, s4, s5]) rfl ⟨_, by rw [hE], by rw [hE]; exact RepO.zero _ _ _, (((((gf.setCell (by simp) _).setCell (by simp) _).setCell (by simp) _).setCell (by simp) _).setCell (by simp) _).setCell (by simp) _⟩
  rcases h2 : isF q with _ | _
  · have HE := Lib.hid (frP_no (p := p) (q := q) (by rw [frOk, h1, h2]; rfl))
    have H1 := Lib.hid h1
    have H2 := Lib.hid h2
    clear h1 h2
    go_enter Tryz.func6, Tryz.ntmps6
    go_wp2_with fail
    rw [← hW]; clear hW
    refine (implIsField_any _ _).mono ?_; rintro e w3 ⟨rfl, hww⟩
    replace hww := hww.symm
    subst hww
    rw [H1.out]
    go_wp2_with fail
    refine (implIsFiltration_any _ q _ HFI.out).mono ?_; rintro e w3 ⟨rfl, hb3⟩
    rw [H2.out]
    have GW := Lib.hid hb3
    clear hb3 c0 c1 c2
    have kz := k2.call GW.out
    have fr := kz.frozen
    have s0 := kz.cell' (i := 0) rfl
    have s1 := kz.cell' (i := 1) rfl
    have s2 := kz.cell' (i := 2) rfl
    have s3 := kz.cell' (i := 3) rfl
    have s4 := kz.cell' (i := 4) rfl
    have s5 := kz.cell' (i := 5) rfl
    have gf := g0.trans (GW.out.mono g0.size)
    have GF := Lib.hid gf
    clear kz gf
    go_wp2
    have gf := GF.out
    have hE := HE.out
    exact bodyPost_ret (v := .tuple #[.agg #[.int .i64 0, .int .i64 0, .slice none 0 0, .slice none 0 0, .slice none 0 0, .slice none 0 0], .bool false]) (by simp [results, go_sem, s0, s1, s2, s3, s4, s5]) rfl ⟨_, by rw [hE], by rw [hE]; exact RepO.zero _ _ _, (((((gf.setCell (by simp) _).setCell (by simp) _).setCell (by simp) _).setCell (by simp) _).setCell (by simp) _).setCell (by simp) _⟩
  have hok : frOk p q = true := by rw [frOk, h1, h2]; rfl
  obtain ⟨hl1, hl2, hl3, hl4, hl5⟩ := isF_lens h2
  have hS : inR q.stages 1 5 = true := inR_t.2 ⟨hl4, hl5⟩
  obtain ⟨ll1, ll2, ll3⟩ := line_len hS
  obtain ⟨S, hSS⟩ : ∃ S, q.stages.toNat = S := ⟨_, rfl⟩
  have hSv : q.stages = (S : Int) := by omega
  have H1 := Lib.hid h1
  have H2 := Lib.hid h2
  have HOK := Lib.hid hok
  have HS := Lib.hid hS
  have HSV := Lib.hid hSv
  have HSS := Lib.hid hSS
  have HLEN := Lib.hid (show (lineQ q.stages).f.length + 1 = S from by rw [← hSS]; exact ll1)
  have HLT := Lib.hid ll2
  have HLV := Lib.hid ll3
  have hS5 : S ≤ 5 := by omega
  have hS1 : 1 ≤ S := by omega
  clear h1 h2 hok hS ll1 ll2 ll3 hSS hSv
  go_enter Tryz.func6, Tryz.ntmps6
  go_wp2_with fail
  rw [← hW]; clear hW
  refine (implIsField_any _ _).mono ?_; rintro e w3 ⟨rfl, hww⟩
  replace hww := hww.symm
  subst hww
  rw [H1.out]
  go_wp2_with fail
  refine (implIsFiltration_any _ q _ HFI.out).mono ?_; rintro e wf ⟨rfl, hbf⟩
  rw [H2.out]
  have kf := k1.call hbf
  clear c0 c1 c2
  have c0 := kf.cell' (i := 0) rfl
  go_wp2_with fail
  refine (implLineOf_any q.stages _ hr).mono ?_; rintro e w1 ⟨v1, rfl, hL, hb1⟩
  obtain ⟨QA, qa, QB, qb, ev⟩ := hL.form
  rw [HLT.out, HLV.out] at ev
  obtain ⟨n, hn⟩ : ∃ n, (lineQ q.stages).f.length = n := ⟨_, rfl⟩
  rw [hn] at ev
  have hnS : n + 1 = S := by rw [← hn]; exact HLEN.out
  have HN := Lib.hid hn
  subst ev
  obtain ⟨W2, hW2⟩ : ∃ u, w1.alloc (.cells #[.int .i64 q.stages, .slice QA n qa, .slice QB n qb] 31) = u := ⟨_, rfl⟩
  have ga : Below w1.heap.size w1 W2 := by rw [← hW2]; exact below_alloc _ _
  have kq : Blk W2 w1.heap.size 31 #[.int .i64 q.stages, .slice QA n qa, .slice QB n qb] := by rw [← hW2]; exact Blk.new _ _ _
  have gW2 := (bthen hbf hb1).trans (ga.mono (bthen hbf hb1).size)
  have HL := Lib.hid (hL.below ga).rd
  have G2 := Lib.hid gW2
  have HNS := Lib.hid hnS
  have hnS1 : n + 1 ≤ S := Nat.le_of_eq hnS
  have hnS2 : S ≤ n + 1 := Nat.le_of_eq hnS.symm
  have k12 := k1.call gW2
  clear c0 kf hbf hb1 ga hL gW2 hn hnS
  have c0 := k12.cell' (i := 0) rfl
  have lq := kq.lt
  rw [HSV.out] at c0
  go_wp2
  clear hW2
  go_loopw [8, 34] (fun out i wr => ∃ t : Nat, t ≤ S ∧ i = .int .i64 t ∧ OwnI wr W2.heap.size out (rowF t fun t => ((rtQ q t).length : Int)) ∧ Below W2.heap.size W2 wr) (fun _ i _ => S - (intOf i).toNat)
  case atStart => exact ⟨0, Nat.zero_le _, rfl, by simpa [rowF] using OwnI.nil W2 W2.heap.size, Below.refl _ _⟩
  case round =>
    clear c0
    obtain ⟨t, ht, rfl, ho, hb⟩ := hrel
    have hbs := hb.size
    by_cases htS : t < S
    · have gWr := G2.out.trans (hb.mono G2.out.size)
      have kr := k1.call gWr
      have c0 := kr.cell' (i := 0) rfl
      have c1 := kr.cell' (i := 1) rfl
      have c2 := kr.cell' (i := 2) rfl
      obtain ⟨OA, oc, eo, _, _⟩ := ho.form
      rw [rowF_length] at eo
      subst eo
      have HO := Lib.hid ho
      have HB := Lib.hid hb
      have HF := Lib.hid (FiR.next gWr HFI.out)
      clear ho hb kr gWr
      go_wp2_with fail
      refine (implCountComponents_any _ q t _ HF.out (by unfold I64; omega)).mono ?_; rintro e w3 ⟨rfl, hb3⟩
      rw [cnt_rt H2.out (t := t) (by have := HSV.out; omega)]
      have hcl := rtQ_le q t
      have ho3 := HO.out.below hb3
      have hB3 := HB.out.trans (hb3.mono hbs)
      have s3 := hb3.size
      obtain ⟨cn, hcn⟩ : ∃ z, (rtQ q t).length = z := ⟨_, rfl⟩
      rw [hcn] at hcl ⊢
      have HCN := Lib.hid hcn
      have HO3 := Lib.hid ho3
      have HB3 := Lib.hid hB3
      have hlo3 := ho3.lt
      clear c0 c1 c2 ho3 hB3 hb3 hcn
      (go_wp2_with (at_builtin; refine Hold.stop ?_)); unfold Hold
      obtain ⟨X, hX⟩ : ∃ X, X = w3.alloc (.cells #[.int .i64 (cn : Int)] 3) := ⟨_, rfl⟩
      have gn : Below w3.heap.size w3 X := by rw [hX]; exact below_alloc _ _
      have h1x : SlI X X.heap.size (.slice (some ⟨w3.heap.size, 0, none⟩) 1 1) [(cn : Int)] := by rw [hX]; exact SlI.one _ _ _ (by simp only [I64]; omega)
      have ho3 := (HO3.out).below gn
      have gns := gn.size
      rw [← hX]
      clear hX
      refine wpList_appI rfl (.tmp 37) (.tmp 41) rfl W2.heap.size X.heap.size _ _ rfl ho3 _ 1 1 [(cn : Int)] rfl rfl h1x (by simp [rowF_length]; omega) (by omega) ?_
      intro v' w' h1 h2 h3
      have hrow : rowF (t + 1) (fun t => ((rtQ q t).length : Int)) = rowF t (fun t => ((rtQ q t).length : Int)) ++ [(cn : Int)] := by
        rw [← HCN.out]; simp [rowF, List.range_succ]
      rw [← hrow] at h1
      have hbX := below_grown h2 (B := W2.heap.size) (fun k hk => (hlo3 k hk).1) (by omega)
      have H1' := Lib.hid h1
      have G1 := Lib.hid ((HB3.out).trans ((gn.mono (by omega)).trans hbX))
      clear h1 h2 h3 hbX gn ho3 h1x hrow hlo3
      go_wp2
      go_roundw
      case rel => exact ⟨t + 1, by omega, by go_num, H1'.out, G1.out⟩
      case measure => simp [intOf]; omega
    · obtain rfl : t = S := by omega
      obtain ⟨DA, dc, ed, _, _⟩ := ho.form
      rw [rowF_length] at ed
      subst ed
      obtain ⟨w5, hw5⟩ : ∃ z, z = wr := ⟨_, rfl⟩
      subst hw5
      have hfr : frD q = rowF t fun t => ((rtQ q t).length : Int) := by rw [frD, HSS.out]
      have HD := Lib.hid (show SlI w5 w5.heap.size (.slice DA t dc) (frD q) by rw [hfr]; exact ho.rd)
      have kq5 := kq.call hb
      have q0 := kq5.cell' (i := 0) rfl
      have q1 := kq5.cell' (i := 1) rfl
      have q2 := kq5.cell' (i := 2) rfl
      have HLr := Lib.hid (QvR.next hb HL.out)
      have GW5 := Lib.hid (G2.out.trans (hb.mono G2.out.size))
      clear ho hb hfr
      go_wp2_with fail
      refine (implAreDims_any _ _ (lineQ q.stages) (frD q) _ HLr.out HD.out).mono ?_; rintro e w6 ⟨rfl, hb6⟩
      have GW6 := Lib.hid (GW5.out.trans (hb6.mono GW5.out.size))
      rcases hA : areDims (lineQ q.stages) (frD q) with _ | _
      · have HE := Lib.hid (frP_big (p := p) hA)
        clear hA hb6 q0 q1 q2
        have kz := k2.call GW6.out
        have fr := kz.frozen
        have s0 := kz.cell' (i := 0) rfl
        have s1 := kz.cell' (i := 1) rfl
        have s2 := kz.cell' (i := 2) rfl
        have s3 := kz.cell' (i := 3) rfl
        have s4 := kz.cell' (i := 4) rfl
        have s5 := kz.cell' (i := 5) rfl
        have gf := g0.trans (GW6.out.mono g0.size)
        have GF := Lib.hid gf
        clear kz gf
        go_wp2
        have gf := GF.out
        have hE := HE.out
        exact bodyPost_ret (v := .tuple #[.agg #[.int .i64 0, .int .i64 0, .slice none 0 0, .slice none 0 0, .slice none 0 0, .slice none 0 0], .bool false]) (by simp [results, go_sem, s0, s1, s2, s3, s4, s5]) rfl ⟨_, by rw [hE], by rw [hE]; exact RepO.zero _ _ _, (((((gf.setCell (by simp) _).setCell (by simp) _).setCell (by simp) _).setCell (by simp) _).setCell (by simp) _).setCell (by simp) _⟩
      · have HE := Lib.hid (frP_yes HOK.out hA)
        have HA := Lib.hid hA
        have kq6 := kq5.call hb6
        clear q0 q1 q2
        have q0 := kq6.cell' (i := 0) rfl
        have q1 := kq6.cell' (i := 1) rfl
        have q2 := kq6.cell' (i := 2) rfl
        have HL6 := Lib.hid (QvR.next hb6 HLr.out)
        have HD6 := Lib.hid (SlI.next hb6 HD.out)
        clear hA hb6 kq5
        go_wp2_with fail
        refine (zeroRep_any p _ _ (lineQ q.stages) (frD q) _ hp HL6.out HD6.out HA.out).mono ?_; rintro e w7 ⟨v7, rfl, hO7, hb7⟩
        obtain ⟨QA, qa, QB, qb, DA, dc, HM, hm, ev⟩ := hO7.form
        have e1 : (zRep p (lineQ q.stages) (frD q)).q.f.length = n := HN.out
        have e2 : (zRep p (lineQ q.stages) (frD q)).q.t.length = n := HLT.out.trans HN.out
        have e3 : (zRep p (lineQ q.stages) (frD q)).d.length = t := by rw [← HSS.out]; exact rowF_length _ _
        have e4 : (zRep p (lineQ q.stages) (frD q)).m.length = n := by rw [zRep, zms_F, msF_length]; exact HN.out
        have e5 : (zRep p (lineQ q.stages) (frD q)).q.v = q.stages := HLV.out
        have e6 : (zRep p (lineQ q.stages) (frD q)).p = p := rfl
        rw [e1, e2, e3, e4, e5, e6] at ev
        subst ev
        have hz : zRep p (lineQ q.stages) (frD q) = ⟨p, lineQ q.stages, frD q, msF n (frS q 0 (frJ q 0 0))⟩ := by
          rw [zRep, frZ HS.out (g := frJ q 0 0) (frJ_0 q 0), HN.out]
        rw [hz] at hO7
        obtain ⟨W8, hW8⟩ : ∃ z, w7.alloc (.cells #[.int .i64 p, .int .i64 q.stages, .slice QA n qa, .slice QB n qb, .slice DA t dc, .slice HM n hm] 34) = z := ⟨_, rfl⟩
        have ga : Below w7.heap.size w7 W8 := by rw [← hW8]; exact below_alloc _ _
        have kO : Blk W8 w7.heap.size 34 #[.int .i64 p, .int .i64 q.stages, .slice QA n qa, .slice QB n qb, .slice DA t dc, .slice HM n hm] := by rw [← hW8]; exact Blk.new _ _ _
        have hO8 := hO7.below ga
        have hb68 := bthen hb7 ga
        have lO := kO.lt
        have s7 := hb7.size
        have o5 := kO.cell' (i := 5) rfl
        have hHM : Hid (∀ j, j < n → ∃ gH, HM = some ⟨gH, 0, none⟩ ∧ gH < w7.heap.size ∧ n ≤ hm ∧ hm ≤ 9223372036854775807) := fun j hj => by
          obtain ⟨g, c0', s', e', k1', k2', _⟩ := hO7.mxAt (j := j) (List.getElem?_eq_getElem (by rw [msF_length]; exact hj))
          simp only [Value.slice.injEq, true_and] at e'
          obtain ⟨h1', h2'⟩ := hO7.mForm
          rw [msF_length] at h1'
          exact ⟨g, e'.1, k2', h1', h2'⟩
        clear e1 e2 e3 e4 e5 e6 hz hO7 hb7 ga q0 q1 q2 kq6
        go_wp2
        clear hW8 o5
        go_loopw [56] (fun i wr => ∃ k : Nat, k ≤ n ∧ i = .int .i64 k ∧ Below w6.heap.size w6 wr ∧ Blk wr w7.heap.size 34 #[.int .i64 p, .int .i64 q.stages, .slice QA n qa, .slice QB n qb, .slice DA t dc, .slice HM n hm] ∧ RepO wr w6.heap.size w7.heap.size (.agg #[.int .i64 p, .int .i64 q.stages, .slice QA n qa, .slice QB n qb, .slice DA t dc, .slice HM n hm]) ⟨p, lineQ q.stages, frD q, msF n (frS q k (frJ q k 0))⟩ ∧ w7.heap.size < wr.heap.size) (fun i _ => n - (intOf i).toNat)
        case atStart => exact ⟨0, Nat.zero_le _, rfl, hb68, kO, hO8, lO⟩
        case round =>
          clear hb68 kO hO8 lO
          obtain ⟨k, hk, rfl, hb, hB, hO, hl⟩ := hrel
          have hbs := hb.size
          by_cases hkn : k < n
          · obtain ⟨gH, eHM, hgHl, hnm, hmc⟩ := hHM.out k hkn
            subst eHM
            have hat := frS_at q k (frJ q k 0) hkn
            obtain ⟨g, c', sv, e, _, _, z0, z1, z2, hs, _⟩ := hO.mxAt hat
            simp only [Value.slice.injEq, Option.some.injEq, Addr.mk.injEq, and_true, true_and] at e
            obtain ⟨eg, el, ec⟩ := e
            clear el
            subst eg
            subst ec
            obtain ⟨R, hR⟩ : ∃ R, (rtQ q (k + 1)).length = R := ⟨_, rfl⟩
            obtain ⟨Cc, hC⟩ : ∃ C, (rtQ q k).length = C := ⟨_, rfl⟩
            have hR4 := rtQ_le q (k + 1)
            have hC4 := rtQ_le q k
            simp only [mxF] at z0 z1 hs
            rw [hR] at z0 hs hR4
            rw [hC] at z1 hs hC4
            obtain ⟨GA, gc, es⟩ := hs.form
            rw [flat_length] at es
            obtain ⟨Lk, hLk⟩ : ∃ z, R * Cc = z := ⟨_, rfl⟩
            rw [hLk] at es
            subst es
            have hcap : Lk ≤ gc ∧ gc ≤ 9223372036854775807 := by
              obtain ⟨_, _, e, h1, h2⟩ := hs.1.form
              rw [flat_length, hLk] at e h1
              injection e with _ _ e3
              subst e3
              exact ⟨h1, h2⟩
            have HR := Lib.hid hR
            have HC := Lib.hid hC
            have HLk := Lib.hid hLk
            obtain ⟨wa, hwa⟩ : ∃ z, z = wr := ⟨_, rfl⟩
            subst hwa
            obtain ⟨Xm, hXm⟩ : ∃ z, wa.alloc (.cells #[.int .i64 R, .int .i64 Cc, .slice GA Lk gc] 62) = z := ⟨_, rfl⟩
            have gx : Below wa.heap.size wa Xm := by rw [← hXm]; exact below_alloc _ _
            have km : Blk Xm wa.heap.size 62 #[.int .i64 R, .int .i64 Cc, .slice GA Lk gc] := by rw [← hXm]; exact Blk.new _ _ _
            have lm := km.lt
            have hB1 := hB.call gx
            have hO1 := Lib.hid (hO.below gx)
            have hb1 := hb.trans (gx.mono hbs)
            have gW1 := GW6.out.trans (hb1.mono GW6.out.size)
            have Z2 := Lib.hid (bcell gx (b := gH) (by omega) z2)
            have k1x := k1.call gW1
            have HFX := Lib.hid (FiR.next gW1 HFI.out)
            have gxs := gx.size
            have hb1s := hb1.size
            have HB1 := Lib.hid hB1
            have Hb1 := Lib.hid hb1
            clear hat hR hC hLk hs hB hO hb gx hB1 hb1 gW1
            go_wp2
            clear hXm z0 z1 z2
            refine wp_region_net (by kernel_rfl) [.eq (.agg #[.int .i64 q.stages, .slice A q.birth.length c, .slice C q.ends.length d]), .eq (.int .i64 k), rel 2 (fun u lo hi w => IntsO w lo hi u (compQ q k)), .eq (.agg #[.int .i64 q.stages, .slice A q.birth.length c, .slice C q.ends.length d]), .eq (.int .i64 k), .eq (.int .i64 ((k : Int) + 1)), rel 6 (fun u lo hi w => IntsO w lo hi u (compQ q ((k : Int) + 1)))] [[], [], [0, 1], [], [], [4], [0, 1, 2, 3, 4, 5], [0, 1, 2, 3, 4, 5, 6], [0, 1, 2, 3, 4, 5, 6, 7]] 7 (by kernel_rfl) ⟨trivial, trivial, rel_stable (fun u lo hi w w' h hb => h.below hb), trivial, trivial, trivial, rel_stable (fun u lo hi w w' h hb => h.below hb), trivial⟩ ⟨?_, ?_, ?_, ?_, ?_, ?_, ?_, trivial⟩ ?_
            · intro x w hb hk Q' hQ
              clear hk
              simp only [netAct, dstAt, List.getElem?_toArray, List.getElem?_cons_zero, List.getElem?_cons_succ, Option.bind_some, Act.put, List.setIfInBounds_toArray, List.set_cons_zero, List.set_cons_succ] at hQ ⊢
              have z0 := (k1x.call hb).cell' (i := 0) rfl
              have z1 := (k1x.call hb).cell' (i := 1) rfl
              have z2 := (k1x.call hb).cell' (i := 2) rfl
              go_wp2
              exact hQ (.agg #[.int .i64 q.stages, .slice A q.birth.length c, .slice C q.ends.length d]) _ (Below.refl _ _) rfl
            · intro x w hb hk Q' hQ
              clear hk
              simp only [netAct, dstAt, List.getElem?_toArray, List.getElem?_cons_zero, List.getElem?_cons_succ, Option.bind_some, Act.put, List.setIfInBounds_toArray, List.set_cons_zero, List.set_cons_succ] at hQ ⊢
              go_wp2
              exact hQ (.int .i64 k) _ (Below.refl _ _) rfl
            · intro x w hb hk Q' hQ
              have h0 : x.v 0 = .agg #[.int .i64 q.stages, .slice A q.birth.length c, .slice C q.ends.length d] := (hk 0 (by decide)).1
              have h1 : x.v 1 = .int .i64 k := (hk 1 (by decide)).1
              clear hk
              simp only [netAct, dstAt, List.getElem?_toArray, List.getElem?_cons_zero, List.getElem?_cons_succ, Option.bind_some, Act.put, List.setIfInBounds_toArray, List.set_cons_zero, List.set_cons_succ] at hQ ⊢
              simp only [h0, h1] at hQ ⊢
              clear h0 h1
              go_wp2_with fail
              refine (components_any _ q k _ (FiR.next hb HFX.out) H2.out).mono ?_; rintro e w9 ⟨v9, rfl, ho9, hb9⟩
              go_wp2
              exact hQ _ _ hb9 ho9
            · intro x w hb hk Q' hQ
              clear hk
              simp only [netAct, dstAt, List.getElem?_toArray, List.getElem?_cons_zero, List.getElem?_cons_succ, Option.bind_some, Act.put, List.setIfInBounds_toArray, List.set_cons_zero, List.set_cons_succ] at hQ ⊢
              have z0 := (k1x.call hb).cell' (i := 0) rfl
              have z1 := (k1x.call hb).cell' (i := 1) rfl
              have z2 := (k1x.call hb).cell' (i := 2) rfl
              go_wp2
              exact hQ (.agg #[.int .i64 q.stages, .slice A q.birth.length c, .slice C q.ends.length d]) _ (Below.refl _ _) rfl
            · intro x w hb hk Q' hQ
              clear hk
              simp only [netAct, dstAt, List.getElem?_toArray, List.getElem?_cons_zero, List.getElem?_cons_succ, Option.bind_some, Act.put, List.setIfInBounds_toArray, List.set_cons_zero, List.set_cons_succ] at hQ ⊢
              go_wp2
              exact hQ (.int .i64 k) _ (Below.refl _ _) rfl
            · intro x w hb hk Q' hQ
              have h4 : x.v 4 = .int .i64 k := (hk 4 (by decide)).1
              clear hk
              simp only [netAct, dstAt, List.getElem?_toArray, List.getElem?_cons_zero, List.getElem?_cons_succ, Option.bind_some, Act.put, List.setIfInBounds_toArray, List.set_cons_zero, List.set_cons_succ] at hQ ⊢
              simp only [h4] at hQ ⊢
              clear h4
              go_wp2
              exact hQ (.int .i64 ((k : Int) + 1)) _ (Below.refl _ _) rfl
            · intro x w hb hk Q' hQ
              have h0 : x.v 0 = .agg #[.int .i64 q.stages, .slice A q.birth.length c, .slice C q.ends.length d] := (hk 0 (by decide)).1
              have h1 : x.v 1 = .int .i64 k := (hk 1 (by decide)).1
              have h2 : IntsO w (x.lo 2) (x.hi 2) (x.v 2) (compQ q k) := (hk 2 (by decide)).1
              have h3 : x.v 3 = .agg #[.int .i64 q.stages, .slice A q.birth.length c, .slice C q.ends.length d] := (hk 3 (by decide)).1
              have h4 : x.v 4 = .int .i64 k := (hk 4 (by decide)).1
              have h5 : x.v 5 = .int .i64 ((k : Int) + 1) := (hk 5 (by decide)).1
              have s2 := (hk 2 (by decide)).2
              clear hk
              simp only [netAct, dstAt, List.getElem?_toArray, List.getElem?_cons_zero, List.getElem?_cons_succ, Option.bind_some, Act.put, List.setIfInBounds_toArray, List.set_cons_zero, List.set_cons_succ] at hQ ⊢
              simp only [h0, h1, h3, h4, h5] at hQ ⊢
              clear h0 h1 h3 h4 h5
              go_wp2_with fail
              refine (components_any _ q ((k : Int) + 1) _ (FiR.next hb HFX.out) H2.out).mono ?_; rintro e w9 ⟨v9, rfl, ho9, hb9⟩
              go_wp2
              exact hQ _ _ hb9 ho9
            · intro x w hb hk hiv hdj
              have h0 : x.v 0 = .agg #[.int .i64 q.stages, .slice A q.birth.length c, .slice C q.ends.length d] := hk 0 (by decide)
              have h1 : x.v 1 = .int .i64 k := hk 1 (by decide)
              have h2 : IntsO w (x.lo 2) (x.hi 2) (x.v 2) (compQ q k) := hk 2 (by decide)
              have h3 : x.v 3 = .agg #[.int .i64 q.stages, .slice A q.birth.length c, .slice C q.ends.length d] := hk 3 (by decide)
              have h4 : x.v 4 = .int .i64 k := hk 4 (by decide)
              have h5 : x.v 5 = .int .i64 ((k : Int) + 1) := hk 5 (by decide)
              have h6 : IntsO w (x.lo 6) (x.hi 6) (x.v 6) (compQ q ((k : Int) + 1)) := hk 6 (by decide)
              clear hk
              simp only [netAct, dstAt, List.getElem?_toArray, List.getElem?_cons_zero, List.getElem?_cons_succ, Option.bind_some, Act.put, List.setIfInBounds_toArray, List.set_cons_zero, List.set_cons_succ]
              simp only [List.drop_succ_cons, List.drop_zero, h0, h1, h3, h4, h5]
              clear h0 h1 h3 h4 h5
              obtain ⟨NA, nc, e2⟩ := h2.form
              obtain ⟨XA, xc, e6⟩ := h6.form
              rw [compQ_length] at e2 e6
              have HNW := Lib.hid h2.rd
              have i6 := hiv 6 (by decide)
              have HNX := Lib.hid (h6.wider i6.1 (Nat.le_refl _))
              have hi6 := i6.2.2
              obtain ⟨hi6x, hhi6⟩ : ∃ z, z = x.hi 6 := ⟨_, rfl⟩
              rw [← hhi6] at HNX hi6
              rw [e2] at HNW ⊢
              rw [e6] at HNX ⊢
              have hbsx := hb.size
              have HB2 := Lib.hid (HB1.out.call hb)
              have Hb2 := Lib.hid (Hb1.out.trans (hb.mono hb1s))
              have HO2 := Lib.hid (hO1.out.below hb)
              have Z22 := Lib.hid (bcell hb (b := gH) (by omega) Z2.out)
              have KM2 := Lib.hid (km.call hb)
              obtain ⟨w10, hw10⟩ : ∃ z, z = w := ⟨_, rfl⟩
              subst hw10
              clear h2 h6 e2 e6 hiv hdj hb i6 hhi6
              go_wp2_with fail
              refine (leasts_any _ (compQ q k) _ HNW.out).mono ?_; rintro e w9 ⟨v9, rfl, hLs, hb9⟩
              have hleast := least_rt H2.out (t := (k : Int)) (by omega) (by have := HSV.out; omega)
              rw [hleast] at hLs
              obtain ⟨LA, lc, e9⟩ := hLs.form
              have HLS := Lib.hid (show IntsO w9 w10.heap.size w9.heap.size v9 (rtQ q k) from hLs)
              rw [show (rootsC (compQ q (k : Int))).length = Cc from HC.out] at e9
              subst e9
              have hb9s := hb9.size
              have HB9 := Lib.hid (HB2.out.call hb9)
              have Hb9 := Lib.hid (Hb2.out.trans (hb9.mono (by omega)))
              have HO9 := Lib.hid (HO2.out.below hb9)
              have Z29 := Lib.hid (bcell hb9 (b := gH) (by omega) Z22.out)
              have KM9 := Lib.hid (KM2.out.call hb9)
              have HNX9 := Lib.hid (HNX.out.below hb9)
              clear hLs hb9 hleast
              go_wp2
              go_loopw [71] (fun i wr => ∃ m : Nat, m ≤ Cc ∧ i = .int .i64 m ∧ Below w6.heap.size w6 wr ∧ Chg w6.heap.size w7.heap.size w9 wr ∧ wr.cell? ⟨gH, k * 3 + 2, none⟩ = some (.slice GA Lk gc) ∧ RepO wr w6.heap.size w7.heap.size (.agg #[.int .i64 p, .int .i64 q.stages, .slice QA n qa, .slice QB n qb, .slice DA t dc, .slice (some ⟨gH, 0, none⟩) n hm]) ⟨p, lineQ q.stages, frD q, msF n (frS q k (frJ q k m))⟩) (fun i _ => Cc - (intOf i).toNat)
              case atStart => exact ⟨0, Nat.zero_le _, rfl, Hb9.out, Chg.refl _ _ _, Z29.out, HO9.out⟩
              case round =>
                obtain ⟨m, hm', rfl, hb, hch, hz, hO⟩ := hrel
                have hcs := hch.size
                by_cases hmC : m < Cc
                · obtain ⟨pt, r, hx, hpl, hnx, hrr, hfi, hfr⟩ := fr_row H2.out (t := k) (i := m) (by rw [HC.out]; exact hmC)
                  have hrR : r < R := by rw [← HR.out]; exact lt_of_some hrr
                  have hLr := HLS.out.chg hch (.inr (by omega))
                  have hNr := HNX9.out.chg hch (.inr (by omega))
                  obtain ⟨gL, cL, eL, _, _, _⟩ := hLr.at_ (by rw [HC.out]; omega)
                  obtain ⟨gN, cN, eN, _, _, _⟩ := hNr.at_ (by rw [compQ_length]; omega)
                  simp only [Value.slice.injEq] at eL eN
                  obtain ⟨eL, eL2, eL3⟩ := eL
                  obtain ⟨eN, eN2, eN3⟩ := eN
                  clear eL2 eN2 eL3 eN3
                  subst eL
                  subst eN
                  have lc := (hLr.1.cellG (j := m) (by rw [HC.out]; exact hmC)).1
                  rw [List.getD_eq_getElem?_getD, hx] at lc
                  simp only [Option.getD_some] at lc
                  obtain ⟨nx, hnxe⟩ : ∃ z, nxQ q k m = z := ⟨_, rfl⟩
                  have ncl := hNr.1.cellG (j := pt) (by rw [compQ_length]; exact hpl)
                  rw [List.getD_eq_getElem?_getD, hnx, hnxe] at ncl
                  simp only [Option.getD_some] at ncl
                  rw [hnxe] at hfi hrr
                  obtain ⟨P, hP⟩ : ∃ P, P = r * Cc := ⟨_, rfl⟩
                  obtain ⟨p1, p2, p3, p4, p5⟩ := ixR hrR hmC (by omega) (by omega) hP
                  rw [HLk.out] at p3 p4 p5
                  have HP1 := Lib.hid p1
                  have HP2 := Lib.hid p2
                  clear p1 p2
                  have hat := frS_at q k (frJ q k m) hkn
                  have hput := hO.putMx (i := P + m) (z := 1) hat (by simp only [mxF]; rw [flat_length, HR.out, HC.out, HLk.out]; exact p4) (by unfold I64; omega)
                  obtain ⟨g, cg, gr, cr, eg, _, _, z2, ⟨u0, z3⟩, z4, _, _, ⟨hgr1, hgr2⟩, hapart, _⟩ := hput
                  simp only [mxF] at z2
                  rw [flat_length, HR.out, HC.out, HLk.out] at z2
                  simp only [Value.slice.injEq, Option.some.injEq, Addr.mk.injEq, and_true, true_and] at eg
                  obtain ⟨eg1, el, eg2⟩ := eg
                  clear el
                  subst eg1
                  subst eg2
                  rw [hz] at z2
                  simp only [Option.some.injEq, Value.slice.injEq, true_and] at z2
                  obtain ⟨z2a, z2b⟩ := z2
                  subst z2a
                  subst z2b
                  have hst := frS_set q k n (frJ q k m) (g' := frJ q k (m + 1)) (l := (flat (rtQ q (k + 1)).length (rtQ q k).length (frJ q k m)).set (P + m) 1) (by
                    rw [hP, ← HC.out]
                    exact frJ_put (by rw [HC.out]; exact hmC) (by rw [HR.out]; exact hrR) hfr)
                  have HST := Lib.hid hst
                  have HAT := Lib.hid hat
                  have HLEN2 := Lib.hid (show P + m < (mxF (rtQ q (k + 1)).length (rtQ q k).length (frJ q k m)).a.length by simp only [mxF]; rw [flat_length, HR.out, HC.out, HLk.out]; exact p4)
                  have HFI2 := Lib.hid hfi
                  have HNr := Lib.hid hNr.rd
                  have KMr := Lib.hid (KM9.out.chg hch (.inr (by omega)))
                  have NC := Lib.hid ncl.1
                  have hgN : gN < wr.heap.size := (hNr.1.lt gN rfl).2
                  have hn9 := ncl.2
                  obtain ⟨csH, hbH⟩ := hO.mBlk
                  have hgHr := hapart _ _ _ hbH (by decide)
                  have HbH := Lib.hid hbH
                  have HZ := Lib.hid hz
                  have HO1 := Lib.hid hO
                  have Hb1' := Lib.hid hb
                  have HCH1 := Lib.hid hch
                  have hbws := hb.size
                  have hI9 : I64 nx := hn9
                  have hgHw : gH < wr.heap.size := by omega
                  obtain ⟨wb, hwb⟩ : ∃ z, z = wr := ⟨_, rfl⟩
                  subst hwb
                  clear hx hnx hrr hfi hfr hLr hNr ncl hnxe hst hat hapart hbH hz hO hb hch z3 z4 hP hI9 hn9
                  go_wp2
                  clear lc
                  refine wp_region_net (by kernel_rfl) [.eq (.agg #[.int .i64 R, .int .i64 Cc, .slice (some ⟨gr, 0, none⟩) Lk gc]), .eq (.slice (some ⟨gN, 0, none⟩) q.birth.length xc), rel 2 (fun u lo hi w => IntsO w lo hi u (rtQ q (k + 1))), .eq (.slice (some ⟨gN, 0, none⟩) q.birth.length xc), .eq (.int .i64 pt), .eq (.pointer (some ⟨gN, pt, none⟩)), .eq (.int .i64 nx), .eq (.int .i64 r), rel 8 (fun u lo hi w => u = .slice (some ⟨gr, P, none⟩) Cc (gc - P)), .eq (.int .i64 m), .eq (.pointer (some ⟨gr, P + m, none⟩))] [[], [], [1], [], [], [3, 4], [3, 4, 5], [1, 2, 3, 4, 5, 6], [0, 1, 2, 3, 4, 5, 6, 7], [], [0, 1, 2, 3, 4, 5, 6, 7, 8, 9], [0, 1, 2, 3, 4, 5, 6, 7, 8, 9, 10]] 11 (by kernel_rfl) ⟨trivial, trivial, rel_stable (fun u lo hi w w' h hb => h.below hb), trivial, trivial, trivial, trivial, trivial, rel_stable (fun u lo hi w w' h hb => h), trivial, trivial, trivial⟩ ⟨?_, ?_, ?_, ?_, ?_, ?_, ?_, ?_, ?_, ?_, ?_, trivial⟩ ?_
                  · intro x w hb hk Q' hQ
                    clear hk
                    simp only [netAct, dstAt, List.getElem?_toArray, List.getElem?_cons_zero, List.getElem?_cons_succ, Option.bind_some, Act.put, List.setIfInBounds_toArray, List.set_cons_zero, List.set_cons_succ] at hQ ⊢
                    have q0 := (KMr.out.call hb).cell' (i := 0) rfl
                    have q1 := (KMr.out.call hb).cell' (i := 1) rfl
                    have q2 := (KMr.out.call hb).cell' (i := 2) rfl
                    go_wp2
                    exact hQ (.agg #[.int .i64 R, .int .i64 Cc, .slice (some ⟨gr, 0, none⟩) Lk gc]) _ (Below.refl _ _) rfl
                  · intro x w hb hk Q' hQ
                    clear hk
                    simp only [netAct, dstAt, List.getElem?_toArray, List.getElem?_cons_zero, List.getElem?_cons_succ, Option.bind_some, Act.put, List.setIfInBounds_toArray, List.set_cons_zero, List.set_cons_succ] at hQ ⊢
                    go_wp2
                    exact hQ (.slice (some ⟨gN, 0, none⟩) q.birth.length xc) _ (Below.refl _ _) rfl
                  · intro x w hb hk Q' hQ
                    have h1 : x.v 1 = .slice (some ⟨gN, 0, none⟩) q.birth.length xc := (hk 1 (by decide)).1
                    clear hk
                    simp only [netAct, dstAt, List.getElem?_toArray, List.getElem?_cons_zero, List.getElem?_cons_succ, Option.bind_some, Act.put, List.setIfInBounds_toArray, List.set_cons_zero, List.set_cons_succ] at hQ ⊢
                    simp only [h1] at hQ ⊢
                    clear h1
                    go_wp2_with fail
                    refine (leasts_any _ (compQ q ((k : Int) + 1)) _ (SlI.next hb HNr.out)).mono ?_; rintro e w11 ⟨v11, rfl, ho11, hb11⟩
                    rw [least_rt H2.out (t := (k : Int) + 1) (by omega) (by have := HSV.out; omega), ← rtQ_next] at ho11
                    go_wp2
                    exact hQ _ _ hb11 ho11
                  · intro x w hb hk Q' hQ
                    clear hk
                    simp only [netAct, dstAt, List.getElem?_toArray, List.getElem?_cons_zero, List.getElem?_cons_succ, Option.bind_some, Act.put, List.setIfInBounds_toArray, List.set_cons_zero, List.set_cons_succ] at hQ ⊢
                    go_wp2
                    exact hQ (.slice (some ⟨gN, 0, none⟩) q.birth.length xc) _ (Below.refl _ _) rfl
                  · intro x w hb hk Q' hQ
                    clear hk
                    simp only [netAct, dstAt, List.getElem?_toArray, List.getElem?_cons_zero, List.getElem?_cons_succ, Option.bind_some, Act.put, List.setIfInBounds_toArray, List.set_cons_zero, List.set_cons_succ] at hQ ⊢
                    go_wp2
                    exact hQ (.int .i64 pt) _ (Below.refl _ _) rfl
                  · intro x w hb hk Q' hQ
                    have h3 : x.v 3 = .slice (some ⟨gN, 0, none⟩) q.birth.length xc := (hk 3 (by decide)).1
                    have h4 : x.v 4 = .int .i64 pt := (hk 4 (by decide)).1
                    clear hk
                    simp only [netAct, dstAt, List.getElem?_toArray, List.getElem?_cons_zero, List.getElem?_cons_succ, Option.bind_some, Act.put, List.setIfInBounds_toArray, List.set_cons_zero, List.set_cons_succ] at hQ ⊢
                    simp only [h3, h4] at hQ ⊢
                    clear h3 h4
                    go_wp2
                    exact hQ (.pointer (some ⟨gN, pt, none⟩)) _ (Below.refl _ _) rfl
                  · intro x w hb hk Q' hQ
                    have h5 : x.v 5 = .pointer (some ⟨gN, pt, none⟩) := (hk 5 (by decide)).1
                    clear hk
                    simp only [netAct, dstAt, List.getElem?_toArray, List.getElem?_cons_zero, List.getElem?_cons_succ, Option.bind_some, Act.put, List.setIfInBounds_toArray, List.set_cons_zero, List.set_cons_succ] at hQ ⊢
                    simp only [h5] at hQ ⊢
                    clear h5
                    have q0 := bcell hb hgN NC.out
                    go_wp2
                    exact hQ (.int .i64 nx) _ (Below.refl _ _) rfl
                  · intro x w hb hk Q' hQ
                    have h2 : IntsO w (x.lo 2) (x.hi 2) (x.v 2) (rtQ q (k + 1)) := (hk 2 (by decide)).1
                    have h6 : x.v 6 = .int .i64 nx := (hk 6 (by decide)).1
                    clear hk
                    simp only [netAct, dstAt, List.getElem?_toArray, List.getElem?_cons_zero, List.getElem?_cons_succ, Option.bind_some, Act.put, List.setIfInBounds_toArray, List.set_cons_zero, List.set_cons_succ] at hQ ⊢
                    simp only [h6] at hQ ⊢
                    clear h6
                    obtain ⟨A2, c2, e2⟩ := h2.form
                    have H2' := Lib.hid h2.rd
                    rw [e2] at H2' hQ ⊢
                    go_wp2_with fail
                    refine (index_any _ (rtQ q (k + 1)) nx _ H2'.out).mono ?_; rintro e w11 ⟨rfl, hww⟩; replace hww := hww.symm; subst hww
                    rw [HFI2.out]
                    go_wp2
                    exact hQ (.int .i64 r) _ (Below.refl _ _) rfl
                  · intro x w hb hk Q' hQ
                    have h0 : x.v 0 = .agg #[.int .i64 R, .int .i64 Cc, .slice (some ⟨gr, 0, none⟩) Lk gc] := (hk 0 (by decide)).1
                    have h1 : x.v 1 = .slice (some ⟨gN, 0, none⟩) q.birth.length xc := (hk 1 (by decide)).1
                    have h2 : IntsO w (x.lo 2) (x.hi 2) (x.v 2) (rtQ q (k + 1)) := (hk 2 (by decide)).1
                    have h3 : x.v 3 = .slice (some ⟨gN, 0, none⟩) q.birth.length xc := (hk 3 (by decide)).1
                    have h4 : x.v 4 = .int .i64 pt := (hk 4 (by decide)).1
                    have h5 : x.v 5 = .pointer (some ⟨gN, pt, none⟩) := (hk 5 (by decide)).1
                    have h6 : x.v 6 = .int .i64 nx := (hk 6 (by decide)).1
                    have h7 : x.v 7 = .int .i64 r := (hk 7 (by decide)).1
                    have s2 := (hk 2 (by decide)).2
                    clear hk
                    simp only [netAct, dstAt, List.getElem?_toArray, List.getElem?_cons_zero, List.getElem?_cons_succ, Option.bind_some, Act.put, List.setIfInBounds_toArray, List.set_cons_zero, List.set_cons_succ] at hQ ⊢
                    simp only [h0, h1, h3, h4, h5, h6, h7] at hQ ⊢
                    clear h0 h1 h3 h4 h5 h6 h7
                    go_wp2_with fail
                    refine (row_at R Cc r P Lk gc gr _ HP1.out HP2.out p3 hcap.1 hcap.2 (by omega) (by omega)).mono ?_; rintro e w11 ⟨rfl, hb11⟩
                    go_wp2
                    exact hQ _ _ hb11 rfl
                  · intro x w hb hk Q' hQ
                    clear hk
                    simp only [netAct, dstAt, List.getElem?_toArray, List.getElem?_cons_zero, List.getElem?_cons_succ, Option.bind_some, Act.put, List.setIfInBounds_toArray, List.set_cons_zero, List.set_cons_succ] at hQ ⊢
                    go_wp2
                    exact hQ (.int .i64 m) _ (Below.refl _ _) rfl
                  · intro x w hb hk Q' hQ
                    have h8 : (x.v 8) = .slice (some ⟨gr, P, none⟩) Cc (gc - P) := (hk 8 (by decide)).1
                    have h9 : x.v 9 = .int .i64 m := (hk 9 (by decide)).1
                    clear hk
                    simp only [netAct, dstAt, List.getElem?_toArray, List.getElem?_cons_zero, List.getElem?_cons_succ, Option.bind_some, Act.put, List.setIfInBounds_toArray, List.set_cons_zero, List.set_cons_succ] at hQ ⊢
                    simp only [h9] at hQ ⊢
                    clear h9
                    rw [h8] at hQ ⊢
                    go_wp2
                    exact hQ (.pointer (some ⟨gr, P + m, none⟩)) _ (Below.refl _ _) rfl
                  · intro x w hb hk hiv hdj
                    have h0 : x.v 0 = .agg #[.int .i64 R, .int .i64 Cc, .slice (some ⟨gr, 0, none⟩) Lk gc] := hk 0 (by decide)
                    have h1 : x.v 1 = .slice (some ⟨gN, 0, none⟩) q.birth.length xc := hk 1 (by decide)
                    have h2 : IntsO w (x.lo 2) (x.hi 2) (x.v 2) (rtQ q (k + 1)) := hk 2 (by decide)
                    have h3 : x.v 3 = .slice (some ⟨gN, 0, none⟩) q.birth.length xc := hk 3 (by decide)
                    have h4 : x.v 4 = .int .i64 pt := hk 4 (by decide)
                    have h5 : x.v 5 = .pointer (some ⟨gN, pt, none⟩) := hk 5 (by decide)
                    have h6 : x.v 6 = .int .i64 nx := hk 6 (by decide)
                    have h7 : x.v 7 = .int .i64 r := hk 7 (by decide)
                    have h8 : (x.v 8) = .slice (some ⟨gr, P, none⟩) Cc (gc - P) := hk 8 (by decide)
                    have h9 : x.v 9 = .int .i64 m := hk 9 (by decide)
                    have h10 : x.v 10 = .pointer (some ⟨gr, P + m, none⟩) := hk 10 (by decide)
                    clear hk
                    simp only [netAct, dstAt, List.getElem?_toArray, List.getElem?_cons_zero, List.getElem?_cons_succ, Option.bind_some, Act.put, List.setIfInBounds_toArray, List.set_cons_zero, List.set_cons_succ]
                    simp only [List.drop_succ_cons, List.drop_zero, h0, h1, h3, h4, h5, h6, h7, h9, h10]
                    clear h0 h1 h3 h4 h5 h6 h7 h9 h10
                    have hOw := HO1.out.below hb
                    have hput := hOw.putMx (i := P + m) (z := 1) HAT.out HLEN2.out (by unfold I64; omega)
                    obtain ⟨g, cg, gr2, cr2, eg, _, _, z2, ⟨u0, z3⟩, z4, _, _, ⟨hg1, hg2⟩, _, hnew⟩ := hput
                    simp only [mxF] at z2
                    rw [flat_length, HR.out, HC.out, HLk.out] at z2
                    simp only [Value.slice.injEq, Option.some.injEq, Addr.mk.injEq, and_true, true_and] at eg
                    obtain ⟨eg1, el, eg2⟩ := eg
                    clear el
                    subst eg1
                    subst eg2
                    have hz := bcell hb hgHw HZ.out
                    rw [hz] at z2
                    simp only [Option.some.injEq, Value.slice.injEq, Addr.mk.injEq, and_true, true_and] at z2
                    obtain ⟨z2a, z2b⟩ := z2
                    subst z2a
                    subst z2b
                    simp only [mxF] at hnew
                    rw [HST.out] at hnew
                    obtain ⟨W14, hW14⟩ : ∃ u, w.setCell ⟨gr, P + m, none⟩ (.int .i64 1) = u := ⟨_, rfl⟩
                    rw [hW14] at hnew
                    have hch3 : Chg gr (gr + 1) w W14 := by rw [← hW14]; exact chg_set1 _ _ _ _
                    have hbsw := hb.size
                    have HREP := Lib.hid hnew
                    have hb14 := Lib.hid ((Hb1'.out.trans (hb.mono (by omega))).trans (hch3.below (B := w6.heap.size) hg1 (by omega)))
                    have HCH14 := Lib.hid ((HCH1.out.trans (Chg.of_below hb)).trans (hch3.wider hg1 (by omega)))
                    have HZ14 := Lib.hid (cell_chg hch3 (HbH.out.call hb) (by omega) hz)
                    clear hnew hch3 hOw hiv hdj hz h2 h8
                    go_wp2
                    clear hW14 z3 z4
                    refine ⟨⟨m + 1, by omega, by go_num, hb14.out, HCH14.out, HZ14.out, HREP.out⟩, ?_⟩
                    simp [intOf]; omega
                · obtain rfl : m = Cc := by omega
                  have hnext := frS_next q k n (g := frJ q k m) (g' := frJ q (k + 1) 0) (fun a i _ hi => by rw [frJ, if_pos (by have := HC.out; omega)]) (frJ_0 q (k + 1))
                  rw [hnext] at hO
                  have HO1 := Lib.hid hO
                  have Hb1' := Lib.hid hb
                  have HBr := Lib.hid (HB9.out.chg hch (.inr (Nat.le_refl _)))
                  have hl' : w7.heap.size < wr.heap.size := by omega
                  clear hO hb hch hnext hz
                  go_wp2
                  go_roundw
                  case rel => exact ⟨k + 1, by omega, by go_num, Hb1'.out, HBr.out, HO1.out, hl'⟩
                  case measure => simp [intOf]; omega
          · obtain rfl : k = n := by omega
            have gWr := GW6.out.trans (hb.mono GW6.out.size)
            have hw6 := GW6.out.size
            have kz := k2.call gWr
            have fr := kz.frozen
            have s0 := kz.cell' (i := 0) rfl
            have s1 := kz.cell' (i := 1) rfl
            have s2 := kz.cell' (i := 2) rfl
            have s3 := kz.cell' (i := 3) rfl
            have s4 := kz.cell' (i := 4) rfl
            have s5 := kz.cell' (i := 5) rfl
            have r0 := hB.cell' (i := 0) rfl
            have r1 := hB.cell' (i := 1) rfl
            have r2 := hB.cell' (i := 2) rfl
            have r3 := hB.cell' (i := 3) rfl
            have r4 := hB.cell' (i := 4) rfl
            have r5 := hB.cell' (i := 5) rfl
            have gf := g0.trans (gWr.mono g0.size)
            have hc6 := chg6 wr (w0.heap.size + 1) (.int .i64 p) (.int .i64 q.stages) (.slice QA k qa) (.slice QB k qb) (.slice DA t dc) (.slice HM k hm)
            have OF := Lib.hid ((hO.chg hc6 (.inr (by have := SZ.out; omega))).wider (lo' := w0.heap.size) (hi' := wr.heap.size) (by have := SZ.out; omega) (by omega))
            have GF := Lib.hid (gf.trans (hc6.below (by omega) gf.size))
            have HRS := Lib.hid (frS_end q k (frJ q k 0))
            clear hO hB kz gf hc6 hb gWr
            go_wp2
            have hE := HE.out
            exact bodyPost_ret (v := .tuple #[.agg #[.int .i64 p, .int .i64 q.stages, .slice QA k qa, .slice QB k qb, .slice DA t dc, .slice HM k hm], .bool true]) (by simp [results, go_sem, s0, s1, s2, s3, s4, s5]) rfl ⟨_, by rw [hE], by rw [hE, frR, HN.out, ← HRS.out]; have := OF.out; simpa using this, GF.out⟩
end Go.Proofs.YtgabmemalaklbaaGreat
