/- FnExactCyclesAt: for every argument the program's function returns what the reference's returns. Part 6 of 6 of the proof: Srt, CntC, CycC, LawCyclesAt, LawCyclesAtRow. No condition. -/
import Derived.Test.YtjlgijdkfihhlaaBCyclesAt5
import Derived.Shelf.SortM.Plain
import Derived.Shelf.SortM.SortNone
import Derived.Ground.SlgmProg
import Derived.Shelf.Slices.CompactI
import Derived.Shelf.SlicesE.DeleteFunc
import Derived.Ground.SlgfProg
/- slices.Sort, Compact, DeleteFunc at []int on a row of the call's own: the shelf's contracts; leasts. -/
namespace Go.Proofs
open Go.Shelf
def Try.laysSort_ren : Go.Shelf.Ren := ⟨fun | 5 => 128 | 8 => 178 | 7 => 177 | 19 => 213 | 20 => 214 | 10 => 204 | 11 => 205 | 12 => 206 | 13 => 207 | 14 => 208 | 15 => 209 | 16 => 210 | 17 => 211 | 18 => 212 | 30 => 229 | 31 => 230 | 32 => 231 | 33 => 232 | 34 => 233 | 35 => 216 | 40 => 242 | n => n, fun | 23 => 22 | 25 => 3 | 3 => 3 | 32 => 146 | 22 => 22 | 0 => 0 | 44 => 169 | 46 => 171 | 4 => 4 | 36 => 163 | 35 => 162 | 41 => 58 | 5 => 5 | 9 => 9 | 53 => 184 | 57 => 188 | 63 => 196 | 64 => 197 | n => n, fun | n => n⟩
theorem Try.laysSort : Go.Proofs.SlLaysM.n5 Try.prog Try.laysSort_ren := {
  mixed := by kernel_rfl
  f5 := ⟨Try.f128.name, by decide, Try.func128.trans (congrArg some (by kernel_rfl))⟩
  f7 := ⟨Try.f177.name, by decide, Try.func177.trans (congrArg some (by kernel_rfl))⟩
  f8 := Try.func178.trans (congrArg some (by kernel_rfl))
  f10 := ⟨Try.f204.name, by decide, Try.func204.trans (congrArg some (by kernel_rfl))⟩
  f11 := ⟨Try.f205.name, by decide, Try.func205.trans (congrArg some (by kernel_rfl))⟩
  f12 := ⟨Try.f206.name, by decide, Try.func206.trans (congrArg some (by kernel_rfl))⟩
  f13 := ⟨Try.f207.name, by decide, Try.func207.trans (congrArg some (by kernel_rfl))⟩
  f14 := ⟨Try.f208.name, by decide, Try.func208.trans (congrArg some (by kernel_rfl))⟩
  f15 := ⟨Try.f209.name, by decide, Try.func209.trans (congrArg some (by kernel_rfl))⟩
  f16 := ⟨Try.f210.name, by decide, Try.func210.trans (congrArg some (by kernel_rfl))⟩
  f17 := ⟨Try.f211.name, by decide, Try.func211.trans (congrArg some (by kernel_rfl))⟩
  f18 := ⟨Try.f212.name, by decide, Try.func212.trans (congrArg some (by kernel_rfl))⟩
  f19 := Try.func213.trans (congrArg some (by kernel_rfl))
  f20 := Try.func214.trans (congrArg some (by kernel_rfl))
  f30 := ⟨Try.f229.name, by decide, Try.func229.trans (congrArg some (by kernel_rfl))⟩
  f31 := Try.func230.trans (congrArg some (by kernel_rfl))
  f32 := Try.func231.trans (congrArg some (by kernel_rfl))
  f33 := ⟨Try.f232.name, by decide, Try.func232.trans (congrArg some (by kernel_rfl))⟩
  f34 := ⟨Try.f233.name, by decide, Try.func233.trans (congrArg some (by kernel_rfl))⟩
  f35 := ⟨Try.f216.name, by decide, Try.func216.trans (congrArg some (by kernel_rfl))⟩
  f40 := ⟨Try.f242.name, by decide, Try.func242.trans (congrArg some (by kernel_rfl))⟩
  t0 := Try.underlying0
  a0 := Try.isAgg0
  z0 := Try.sizeOf0
  v0 := Try.zeroValue0
  t3 := Try.underlying3
  a3 := Try.isAgg3
  z3 := Try.sizeOf3
  v3 := Try.zeroValue3
  t4 := Try.underlying4
  a4 := Try.isAgg4
  z4 := Try.sizeOf4
  v4 := Try.zeroValue4
  t5 := Try.underlying5
  a5 := Try.isAgg5
  z5 := Try.sizeOf5
  v5 := Try.zeroValue5
  t9 := Try.underlying9
  a9 := Try.isAgg9
  z9 := Try.sizeOf9
  v9 := Try.zeroValue9
  t22 := Try.underlying22
  a22 := Try.isAgg22
  z22 := Try.sizeOf22
  v22 := Try.zeroValue22
  t23 := Try.underlying22
  a23 := Try.isAgg22
  z23 := Try.sizeOf22
  v23 := Try.zeroValue22
  t25 := Try.underlying3
  a25 := Try.isAgg3
  z25 := Try.sizeOf3
  v25 := Try.zeroValue3
  t32 := Try.underlying146
  a32 := Try.isAgg146
  z32 := Try.sizeOf146
  v32 := Try.zeroValue146
  t35 := Try.underlying162
  a35 := Try.isAgg162
  z35 := Try.sizeOf162
  v35 := Try.zeroValue162
  t36 := Try.underlying163
  a36 := Try.isAgg163
  z36 := Try.sizeOf163
  v36 := Try.zeroValue163
  t41 := Try.underlying58
  a41 := Try.isAgg58
  z41 := Try.sizeOf58
  v41 := Try.zeroValue58
  t44 := Try.underlying169
  a44 := Try.isAgg169
  z44 := Try.sizeOf169
  v44 := Try.zeroValue169
  t46 := Try.underlying171
  a46 := Try.isAgg171
  z46 := Try.sizeOf171
  v46 := Try.zeroValue171
  t53 := Try.underlying184
  a53 := Try.isAgg184
  z53 := Try.sizeOf184
  v53 := Try.zeroValue184
  t57 := Try.underlying188
  a57 := Try.isAgg188
  z57 := Try.sizeOf188
  v57 := Try.zeroValue188
  t63 := Try.underlying196
  a63 := Try.isAgg196
  z63 := Try.sizeOf196
  v63 := Try.zeroValue196
  t64 := Try.underlying197
  a64 := Try.isAgg197
  z64 := Try.sizeOf197
  v64 := Try.zeroValue197 }
def Try.laysCompact_ren : Go.Shelf.Ren := ⟨fun | 20 => 130 | n => n, fun | 22 => 22 | 3 => 3 | 4 => 4 | 0 => 0 | n => n, fun | n => n⟩
theorem Try.laysCompact : Go.Proofs.Lays2.n20 Try.prog Try.laysCompact_ren := {
  mixed := by kernel_rfl
  f20 := Try.func130.trans (congrArg some (by kernel_rfl))
  t0 := Try.underlying0
  a0 := Try.isAgg0
  z0 := Try.sizeOf0
  v0 := Try.zeroValue0
  t3 := Try.underlying3
  a3 := Try.isAgg3
  z3 := Try.sizeOf3
  v3 := Try.zeroValue3
  t4 := Try.underlying4
  a4 := Try.isAgg4
  z4 := Try.sizeOf4
  v4 := Try.zeroValue4
  t22 := Try.underlying22
  a22 := Try.isAgg22
  z22 := Try.sizeOf22
  v22 := Try.zeroValue22
  i3 := by kernel_rfl }
def Try.laysDelete_ren : Go.Shelf.Ren := ⟨fun | 10 => 129 | 6 => 179 | n => n, fun | 22 => 22 | 23 => 3 | 25 => 88 | 3 => 3 | 4 => 4 | 0 => 0 | n => n, fun | n => n⟩
theorem Try.laysDelete : Go.Proofs.SlLaysH.n10 Try.prog Try.laysDelete_ren := {
  mixed := by kernel_rfl
  f6 := ⟨Try.f179.name, by decide, Try.func179.trans (congrArg some (by kernel_rfl))⟩
  f10 := ⟨Try.f129.name, by decide, Try.func129.trans (congrArg some (by kernel_rfl))⟩
  t0 := Try.underlying0
  a0 := Try.isAgg0
  z0 := Try.sizeOf0
  v0 := Try.zeroValue0
  t3 := Try.underlying3
  a3 := Try.isAgg3
  z3 := Try.sizeOf3
  v3 := Try.zeroValue3
  t4 := Try.underlying4
  a4 := Try.isAgg4
  z4 := Try.sizeOf4
  v4 := Try.zeroValue4
  t22 := Try.underlying22
  a22 := Try.isAgg22
  z22 := Try.sizeOf22
  v22 := Try.zeroValue22
  a23 := Try.isAgg3
  z23 := Try.sizeOf3
  t25 := Try.underlying88
  a25 := Try.isAgg88
  z25 := Try.sizeOf88
  v25 := Try.zeroValue88 }
def Try.laysIndexF_ren : Go.Shelf.Ren := ⟨fun | 6 => 179 | n => n, fun | 22 => 22 | 23 => 3 | 25 => 88 | 3 => 3 | 0 => 0 | 4 => 4 | n => n, fun | n => n⟩
theorem Try.laysIndexF : Go.Proofs.SlLaysH.n6 Try.prog Try.laysIndexF_ren := {
  mixed := by kernel_rfl
  f6 := ⟨Try.f179.name, by decide, Try.func179.trans (congrArg some (by kernel_rfl))⟩
  t0 := Try.underlying0
  a0 := Try.isAgg0
  z0 := Try.sizeOf0
  v0 := Try.zeroValue0
  t3 := Try.underlying3
  a3 := Try.isAgg3
  z3 := Try.sizeOf3
  v3 := Try.zeroValue3
  t4 := Try.underlying4
  a4 := Try.isAgg4
  z4 := Try.sizeOf4
  v4 := Try.zeroValue4
  t22 := Try.underlying22
  a22 := Try.isAgg22
  z22 := Try.sizeOf22
  v22 := Try.zeroValue22
  a23 := Try.isAgg3
  z23 := Try.sizeOf3
  t25 := Try.underlying88
  a25 := Try.isAgg88
  z25 := Try.sizeOf88
  v25 := Try.zeroValue88 }
end Go.Proofs
namespace Go.Proofs.Ytjlgijdkfihhlaa
set_option linter.unusedVariables false
set_option linter.unusedSimpArgs false
open Go.RowKit Go.Sort

theorem grownBy_put (w : World) (q g : Nat) (d : Array Int) (os : Array Obj) : w.grownBy (grow (putRow (Value.int .i64) (Sort.ahead w q) g 0 d) os) (some g) := by
  refine ⟨rfl, rfl, rfl, by simp, fun k hk hne => ?_⟩
  rw [heap_grow_old _ _ (by simpa using hk)]
  have : g ≠ k := fun e => hne (by rw [e])
  simp [putRow, mapBlock, Sort.ahead, Array.getElem?_modify, this]
theorem grownBy_put0 (w : World) (q g : Nat) (d : Array Int) : w.grownBy (putRow (Value.int .i64) (Sort.ahead w q) g 0 d) (some g) := by
  refine ⟨rfl, rfl, rfl, by simp [putRow, mapBlock, Sort.ahead], fun k hk hne => ?_⟩
  have : g ≠ k := fun e => hne (by rw [e])
  simp [putRow, mapBlock, Sort.ahead, Array.getElem?_modify, this]
theorem owns_grow {w : World} {base n : Nat} {e : TypeId} {v : Value} {xs : List Value} (h : w.ownsRow base e 1 v n xs) (os : Array Obj) : (grow w os).ownsRow base e 1 v n xs := by
  refine h.kept (row := none) ⟨rfl, rfl, rfl, by simp, fun k hk _ => heap_grow_old _ _ hk⟩ ?_
  rcases h.2 with ⟨rfl, _⟩ | ⟨g, cap, cur, rfl, _⟩
  · exact .inl rfl
  · exact .inr (by simp [Value.ownBlock])

theorem sort_own (v : Value) (l : List Int) (base : Nat) (w : World) (hv : OwnI w base v l) :
    Calls Try.prog 128 #[v] w fun e w' => e = .returned (.tuple #[]) ∧ OwnI w' base v (l.mergeSort fun x y => decide (x ≤ y)) ∧ w.grownBy w' v.ownBlock := by
  obtain ⟨ho, hn, hr⟩ := hv
  have hr' : ∀ x ∈ l.mergeSort fun x y => decide (x ≤ y), I64 x := fun x hx => hr x (List.mem_mergeSort.1 hx)
  by_cases hv0 : v = .slice none 0 0
  · subst hv0
    have hl0 : l = [] := by
      rcases ho.2 with ⟨_, h⟩ | ⟨g, cap, cur, h, _⟩
      · exact List.eq_nil_of_length_eq_zero h
      · cases h
    subst hl0
    exact (AnyM.slices_Sort_int_none Try.laysSort none 0 w).mono fun e w' ⟨h1, h2⟩ => by
      subst h2
      exact ⟨h1, by simpa using OwnI.nil _ _, World.grownBy.refl _ _⟩
  · obtain ⟨g, cap, rfl, hg, hgl, hnc, hcm, _, hH⟩ := Lib.holds_of_ownsRow ho hv0
    refine (AnyM.slices_Sort_int Try.laysSort g 0 cap l w hH hgl (by omega)).mono ?_
    rintro e w' ⟨rfl, q, os, rfl⟩
    refine ⟨rfl, ⟨?_, by simpa using hn, hr'⟩, grownBy_put _ _ _ _ _⟩
    have h1 := Lib.ownsRow_putRow (q := q) (ys := l.mergeSort fun x y => decide (x ≤ y)) ho (by simp) (Nat.le_refl l.length)
    rw [List.take_of_length_le (by simp)] at h1
    have h2 := owns_grow h1 os
    simpa using h2
theorem compact_own (v : Value) (l : List Int) (base : Nat) (w : World) (hv : OwnI w base v l) :
    Calls Try.prog 130 #[v] w fun e w' => ∃ v', e = .returned v' ∧ OwnI w' base v' (Lib.compact l) ∧ v'.ownBlock = v.ownBlock ∧ w.grownBy w' v.ownBlock := by
  obtain ⟨ho, hn, hr⟩ := hv
  have hr' : ∀ x ∈ Lib.compact l, I64 x := fun x hx => by
    obtain ⟨j, hj, rfl⟩ := List.mem_map.1 hx
    have hj := List.mem_range.1 (List.mem_filter.1 hj).1
    have e : l.toArray[j]! = l[j] := by rw [getElem!_pos l.toArray j (by simpa using hj)]; simp
    rw [e]
    exact hr _ (List.getElem_mem hj)
  by_cases hv0 : v = .slice none 0 0
  · subst hv0
    have hl0 : l = [] := by
      rcases ho.2 with ⟨_, h⟩ | ⟨g, cap, cur, h, _⟩
      · exact List.eq_nil_of_length_eq_zero h
      · cases h
    subst hl0
    exact (Any.slices_Compact_int_empty Try.laysCompact none 0 w).mono fun e w' ⟨h1, h2⟩ => by
      subst h2
      exact ⟨_, h1, by simpa [Lib.compact, Lib.compactUpTo] using OwnI.nil _ _, rfl, World.grownBy.refl _ _⟩
  · obtain ⟨g, cap, rfl, hg, hgl, hnc, hcm, _, hH⟩ := Lib.holds_of_ownsRow ho hv0
    have hle := Lib.compact_length_le l
    refine (Any.slices_Compact_int Try.laysCompact g 0 cap l w hH (by omega) hnc).mono ?_
    rintro e w' ⟨rfl, q, rfl⟩
    refine ⟨_, rfl, ⟨?_, by omega, hr'⟩, rfl, grownBy_put0 _ _ _ _⟩
    have h1 := Lib.ownsRow_putRow (q := q) (k := (Lib.compact l).length) (ys := Lib.compact l ++ List.replicate (l.length - (Lib.compact l).length) 0) ho (by simp; omega) hle
    rw [List.take_left' rfl] at h1
    exact h1
theorem neg_fn (x : Int) (W : World) : FnGives Try.prog 131 #[] #[.int .i64 x] (.bool (decide (x < 0))) W := by
  show Calls Try.prog 131 #[.int .i64 x] W _
  go_enter Try.func131, Try.ntmps131
  go_wp2
  all_goals (go_ret; exact ⟨by simp_all, 0, rfl⟩)
theorem delete_own (v : Value) (l : List Int) (base : Nat) (w : World) (hv : OwnI w base v l) :
    Calls Try.prog 129 #[v, .func (.func 131) #[] #[]] w fun e w' => ∃ v', e = .returned v' ∧ OwnI w' base v' (l.filter fun x => !decide (x < 0)) ∧ v'.ownBlock = v.ownBlock ∧ w.grownBy w' v.ownBlock := by
  obtain ⟨ho, hn, hr⟩ := hv
  have hr' : ∀ x ∈ l.filter fun x => !decide (x < 0), I64 x := fun x hx => hr x (List.mem_filter.1 hx).1
  by_cases hv0 : v = .slice none 0 0
  · subst hv0
    have hl0 : l = [] := by
      rcases ho.2 with ⟨_, h⟩ | ⟨g, cap, cur, h, _⟩
      · exact List.eq_nil_of_length_eq_zero h
      · cases h
    subst hl0
    have hI := AnyE.slices_IndexFunc_empty Try.laysIndexF none 0 (.func (.func 131) #[] #[]) w
    change Calls Try.prog 179 _ _ _ at hI
    go_enter Try.func129, Try.ntmps129
    go_wp2_with fail
    refine hI.mono ?_; rintro e w1 ⟨rfl, rfl⟩
    clear hI
    go_wp2
    go_ret
    exact ⟨_, rfl, by simpa using OwnI.nil _ _, rfl, World.grownBy.refl _ _⟩
  · obtain ⟨g, cap, rfl, hg, hgl, hnc, hcm, _, hH⟩ := Lib.holds_of_ownsRow ho hv0
    have hle := List.length_filter_le (fun x => !decide (x < 0)) l
    have eg : ∀ args w, (callFunc 131 args).run Try.prog w = .ok (.enter 131 args) w := enters_of Try.func131 (by kernel_rfl) rfl
    refine (AnyE.slices_DeleteFunc Try.laysDelete (Value.int .i64) (fun _ => rfl) (fun x => decide (x < 0)) 131 #[] eg 0 Try.zeroValue3 g 0 cap l.toArray w (fun W x _ => neg_fn x W) (fun n os dk x _ => neg_fn x _) hH (by simp; omega) (by simpa using hnc)).mono ?_
    rintro e w' ⟨rfl, q, rfl⟩
    refine ⟨_, rfl, ⟨?_, by omega, hr'⟩, rfl, grownBy_put0 _ _ _ _⟩
    have h1 := Lib.ownsRow_putRow (q := q) (k := (l.filter fun x => !decide (x < 0)).length) (ys := (l.filter fun x => !decide (x < 0)) ++ List.replicate (l.length - (l.filter fun x => !decide (x < 0)).length) 0) ho (by simp; omega) hle
    rw [List.take_left' rfl] at h1
    exact h1

/-- what leasts makes of a list -/
def leastL (l : List Int) : List Int := (Lib.compact (l.mergeSort fun x y => decide (x ≤ y))).filter fun x => !decide (x < 0)
theorem leastL_asc (l : List Int) : asc (leastL l) ∧ ∀ x, x ∈ leastL l ↔ x ∈ l ∧ 0 ≤ x := by
  obtain ⟨zs, hz⟩ : ∃ zs, l.mergeSort (fun x y => decide (x ≤ y)) = zs := ⟨_, rfl⟩
  have hs : zs.Pairwise (· ≤ ·) := by
    have := List.pairwise_mergeSort (le := fun x y : Int => decide (x ≤ y)) (fun a b c h1 h2 => by simp only [decide_eq_true_eq] at *; omega) (fun a b => by simp only [Bool.or_eq_true, decide_eq_true_eq]; omega) l
    rw [hz] at this
    exact this.imp fun h => by simpa using h
  have hm : ∀ x, x ∈ zs ↔ x ∈ l := fun x => by rw [← hz]; exact List.mem_mergeSort
  have hg : ∀ j, (hj : j < zs.length) → zs.toArray[j]! = zs[j] := fun j hj => by rw [getElem!_pos zs.toArray j (by simpa using hj)]; simp
  have hp := List.pairwise_iff_getElem.1 hs
  have hca : asc (Lib.compact zs) := by
    unfold asc Lib.compact Lib.compactUpTo
    rw [List.pairwise_map]
    have h1 : ((List.range zs.length).filter (Lib.keeps zs.toArray)).Pairwise (fun a b => a < b ∧ b < zs.length ∧ Lib.keeps zs.toArray b = true) := by
      have h2 : ((List.range zs.length).filter (Lib.keeps zs.toArray)).Pairwise (· < ·) := List.Pairwise.filter _ List.pairwise_lt_range
      refine List.Pairwise.imp_of_mem ?_ h2
      intro a b ha hb hab
      obtain ⟨h3, h4⟩ := List.mem_filter.1 hb
      exact ⟨hab, List.mem_range.1 h3, h4⟩
    refine h1.imp ?_
    rintro a b ⟨hab, hb, hk⟩
    have hk : b = 0 ∨ zs.toArray[b]! ≠ zs.toArray[b - 1]! := by simpa [Lib.keeps] using hk
    rcases hk with hk | hk
    · omega
    · rw [hg b hb, hg (b - 1) (by omega)] at hk
      rw [hg b hb, hg a (by omega)]
      have h5 := hp (b - 1) b (by omega) hb (by omega)
      have h6 : zs[a] ≤ zs[b - 1] := by
        by_cases e : a = b - 1
        · subst e; omega
        · exact hp a (b - 1) (by omega) (by omega) (by omega)
      omega
  have hcm : ∀ x, x ∈ Lib.compact zs ↔ x ∈ zs := by
    intro x
    unfold Lib.compact Lib.compactUpTo
    rw [List.mem_map]
    constructor
    · rintro ⟨j, hj, rfl⟩
      have hj := List.mem_range.1 (List.mem_filter.1 hj).1
      rw [hg j hj]; exact List.getElem_mem hj
    · intro hx
      obtain ⟨i, hi⟩ := List.mem_iff_getElem?.1 hx
      have : ∀ i : Nat, zs[i]? = some x → ∃ j, j ∈ (List.range zs.length).filter (Lib.keeps zs.toArray) ∧ zs.toArray[j]! = x := by
        intro i
        induction i with
        | zero =>
          intro h
          have hl := lt_of_some h
          exact ⟨0, List.mem_filter.2 ⟨List.mem_range.2 hl, by simp [Lib.keeps]⟩, by rw [hg 0 hl]; rw [List.getElem?_eq_getElem hl] at h; injection h⟩
        | succ i ih =>
          intro h
          have hl := lt_of_some h
          rw [List.getElem?_eq_getElem hl] at h
          injection h with h
          by_cases e : zs[i] = x
          · exact ih (by rw [List.getElem?_eq_getElem (by omega), e])
          · refine ⟨i + 1, List.mem_filter.2 ⟨List.mem_range.2 hl, ?_⟩, by rw [hg _ hl]; exact h⟩
            simp only [Lib.keeps, decide_eq_true_eq]
            right
            rw [hg _ hl, hg _ (show i + 1 - 1 < zs.length by omega), h]
            exact fun e2 => e e2.symm
      exact this i hi
  unfold leastL
  rw [hz]
  refine ⟨List.Pairwise.filter _ hca, fun x => ?_⟩
  rw [List.mem_filter, hcm, hm]
  simp
theorem leasts_any (u : Value) (l : List Int) (w : World) (hu : SlI w w.heap.size u l) :
    Calls Try.prog 75 #[u] w fun e w' => ∃ v, e = .returned v ∧ IntsO w' w.heap.size w'.heap.size v (leastL l) ∧ Below w.heap.size w w' := by
  obtain ⟨A, c, rfl, _, _, hn, hx⟩ := hu.open_
  clear hu
  go_enter Try.func75, Try.ntmps75
  go_wp2_with fail
  refine (clone_own _ _ _ hx).mono ?_; rintro e w1 ⟨v, rfl, ho, hb1⟩
  have ho := ho.1
  obtain ⟨A1, c1, rfl, _, _⟩ := ho.form
  go_wp2_with fail
  refine (sort_own _ _ _ _ ho).mono ?_; rintro e w2 ⟨rfl, ho2, hg2⟩
  have hb2 := hb1.grown hg2 hb1.size (fun j hj => (ho.lt j hj).1)
  obtain ⟨A2, c2, e2, _, _⟩ := ho2.form
  have E2 := Lib.hid e2
  clear e2 hg2 ho hb1
  go_wp2_with fail
  refine (compact_own _ _ _ _ ho2).mono ?_; rintro e w3 ⟨v3, rfl, ho3, hv3, hg3⟩
  have hb3 := hb2.grown hg3 hb2.size (fun j hj => (ho2.lt j hj).1)
  clear hg3 hb2 hv3 ho2
  obtain ⟨A3, c3, rfl, _, _⟩ := ho3.form
  go_wp2_with fail
  refine (delete_own _ _ _ _ ho3).mono ?_; rintro e w4 ⟨v4, rfl, ho4, hv4, hg4⟩
  have hb4 := hb3.grown hg4 hb3.size (fun j hj => (ho3.lt j hj).1)
  clear hg4 hb3 hv4 ho3
  obtain ⟨A4, c4, rfl, _, _⟩ := ho4.form
  go_wp2
  go_ret
  exact ⟨_, rfl, IntsO.of_own ho4, hb4⟩
end Go.Proofs.Ytjlgijdkfihhlaa

/- CountComponents: both. -/
namespace Go.Proofs.Ytjlgijdkfihhlaa
set_option linter.unusedVariables false
set_option linter.unusedSimpArgs false
open Go.RowKit

def rootsTo (l : List Int) (k : Nat) : List Int := ((List.range k).filter fun i => decide (l.getD i 0 = (i : Int))).map fun i : Nat => (i : Int)
theorem rootsTo_yes {l : List Int} {k : Nat} (h : l[k]? = some (k : Int)) : rootsTo l (k + 1) = rootsTo l k ++ [(k : Int)] := by
  simp [rootsTo, List.range_succ, List.filter_append, List.getD_eq_getElem?_getD, h]
theorem rootsTo_no {l : List Int} {k : Nat} {x : Int} (h : l[k]? = some x) (hx : x ≠ k) : rootsTo l (k + 1) = rootsTo l k := by
  simp [rootsTo, List.range_succ, List.filter_append, List.getD_eq_getElem?_getD, h, hx]
theorem rootsTo_length (l : List Int) (k : Nat) : (rootsTo l k).length ≤ k := by
  have := List.length_filter_le (fun i => decide (l.getD i 0 = (i : Int))) (List.range k)
  rw [List.length_range] at this
  simpa [rootsTo] using this

set_option maxHeartbeats 800000 in
theorem l24Roots_any (u : Value) (l : List Int) (w : World) (hu : SlI w w.heap.size u l) :
    Calls Try.prog 72 #[u] w fun e w' => ∃ v, e = .returned v ∧ IntsO w' w.heap.size w'.heap.size v (rootsC l) ∧ Below w.heap.size w w' := by
  obtain ⟨A, c, rfl, _, _, hn, hx⟩ := hu.open_
  clear hu
  have g0 := below_alloc w (.cells #[] 3)
  have ho0 : OwnI (w.alloc (.cells #[] 3)) w.heap.size (.slice (some ⟨w.heap.size, 0, none⟩) 0 0) (rootsTo l 0) := OwnI.made 3 rfl (Nat.le_refl _)
  go_enter Try.func72, Try.ntmps72
  go_wp2
  go_loopw [3, 4] (fun a i wr => ∃ k : Nat, k ≤ l.length ∧ i = .int .i64 k ∧ OwnI wr w.heap.size a (rootsTo l k) ∧ Below w.heap.size w wr) (fun _ i _ => l.length - (intOf i).toNat)
  case atStart => exact ⟨0, Nat.zero_le _, rfl, ho0, g0⟩
  case round =>
    clear g0 ho0
    obtain ⟨k, hk, rfl, hown, hbel⟩ := hrel
    have HLK := Lib.hid (rootsTo_length l k)
    obtain ⟨ol, hol⟩ : ∃ ol, rootsTo l k = ol := ⟨_, rfl⟩
    rw [hol] at hown HLK
    have HOL := Lib.hid hol
    clear hol
    obtain ⟨OA, oc, rfl, _, _⟩ := hown.form
    by_cases hlt : k < l.length
    · obtain ⟨b, o, x, rfl, hb, HX, x1, _⟩ := SlI.at_ hx hlt
      have x2 := bcell hbel hb x1
      clear x1
      by_cases he : x = (k : Int)
      · subst he
        have hko := hown.alloc (.cells #[.int .i64 k] 3)
        have hst : Hid (ol ++ [(k : Int)] = rootsTo l (k + 1)) := by show _ = _; rw [rootsTo_yes HX.out, HOL.out]
        (go_wp2_with (at_builtin; refine Hold.stop ?_)); unfold Hold
        refine wpList_appI rfl (.tmp 18) (.tmp 20) rfl w.heap.size _ (.slice OA ol.length oc) ol rfl hko _ _ _ [(k : Int)] rfl rfl (SlI.one wr _ (k) ⟨by omega, by omega⟩) (by have := HLK.out; simp only [List.length_singleton]; omega) (by have := hbel.size; simp; omega) ?_
        intro v1 w3 ho1 hg1 hv1
        rw [hst.out] at ho1
        have hb3 := (hbel.alloc hbel.size (.cells #[.int .i64 k] 3)).grown hg1 (by have := hbel.size; simp; omega) (fun j hj => (hko.lt j hj).1)
        clear hko hg1 hv1 hown hbel
        go_wp2
        go_roundw
        case rel => exact ⟨k + 1, by omega, by go_num, ho1, hb3⟩
        case measure => simp [intOf]; omega
      · have hst : Hid (ol = rootsTo l (k + 1)) := by show _ = _; rw [rootsTo_no HX.out he, HOL.out]
        have he' : (x == (k : Int)) = false := by simpa using he
        go_wp2
        go_roundw
        case rel => exact ⟨k + 1, by omega, by go_num, by rw [← hst.out]; exact hown, hbel⟩
        case measure => simp [intOf]; omega
    · obtain rfl : k = l.length := by omega
      go_wp2
      go_ret
      refine ⟨_, rfl, ?_, hbel⟩
      have : rootsC l = ol := HOL.out
      rw [this]
      exact IntsO.of_own hown

/-- how many parts at a stage -/
def cntQ (q : Filt) (t : Int) : Nat := (rootsC (compsQ q t)).length
theorem leastL_comps (q : Filt) (t : Int) : leastL (compsQ q t) = rootsC (compsQ q t) := by
  obtain ⟨h1, h2⟩ := leastL_asc (compsQ q t)
  unfold compsQ at h1 h2 ⊢
  split at h1
  · rename_i h
    rw [if_pos h] at h2 ⊢
    rw [Bool.and_eq_true] at h
    exact leasts_eq h.1 h1 h2
  · rename_i h
    rw [if_neg h]
    simp [leastL, Lib.compact, Lib.compactUpTo, rootsC]

theorem implCountComponents_any (u : Value) (q : Filt) (t : Int) (w : World) (hu : FiR w w.heap.size u q) (ht : I64 t) :
    Calls Try.prog 27 #[u, .int .i64 t] w fun e w' => e = .returned (.int .i64 (cntQ q t)) ∧ Below w.heap.size w w' := by
  obtain ⟨A, c, C, d, e0, _⟩ := hu.open_
  subst e0
  have g0 := below_alloc w (.cells #[.int .i64 q.stages, .slice A q.birth.length c, .slice C q.ends.length d] 47)
  have h1 := hu.next g0
  clear hu
  go_enter Try.func27, Try.ntmps27
  go_wp2_with fail
  refine (implComponentsAt_any _ q t _ h1 ht).mono ?_; rintro e w1 ⟨v, rfl, ho, hb1⟩
  obtain ⟨A1, c1, rfl, _, _⟩ := ho.1.form
  have g1 := bthen g0 hb1
  go_wp2_with fail
  refine (leasts_any _ (compsQ q t) _ ho.rd).mono ?_; rintro e w2 ⟨v, rfl, ho2, hb2⟩
  rw [leastL_comps] at ho2
  obtain ⟨A2, c2, rfl, _, _⟩ := ho2.1.form
  have g2 := bthen g1 hb2
  go_wp2
  go_ret
  exact ⟨rfl, g2⟩
theorem specCountComponents_any (u : Value) (q : Filt) (t : Int) (w : World) (hu : FiR w w.heap.size u q) (ht : I64 t) :
    Calls Try.prog 25 #[u, .int .i64 t] w fun e w' => e = .returned (.int .i64 (cntQ q t)) ∧ Below w.heap.size w w' := by
  obtain ⟨A, c, C, d, e0, _⟩ := hu.open_
  subst e0
  have g0 := below_alloc w (.cells #[.int .i64 q.stages, .slice A q.birth.length c, .slice C q.ends.length d] 47)
  have h1 := hu.next g0
  clear hu
  go_enter Try.func25, Try.ntmps25
  go_wp2_with fail
  refine (specComponentsAt_any _ q t _ h1 ht).mono ?_; rintro e w1 ⟨v, rfl, ho, hb1⟩
  obtain ⟨A1, c1, rfl, _, _⟩ := ho.1.form
  have g1 := bthen g0 hb1
  go_wp2_with fail
  refine (l24Roots_any _ (compsQ q t) _ ho.rd).mono ?_; rintro e w2 ⟨v, rfl, ho2, hb2⟩
  obtain ⟨A2, c2, rfl, _, _⟩ := ho2.1.form
  have g2 := bthen g1 hb2
  go_wp2
  go_ret
  exact ⟨rfl, g2⟩
end Go.Proofs.Ytjlgijdkfihhlaa

/- CyclesAt: both. -/
namespace Go.Proofs.Ytjlgijdkfihhlaa
set_option linter.unusedVariables false
set_option linter.unusedSimpArgs false
open Go.RowKit

def endsTo (t : Int) (es : List (List Int)) (k : Nat) : Nat := (es.take k).countP fun e => decide (e.getD 2 0 ≤ t)
def bornTo (t : Int) (bi : List Int) (k : Nat) : Nat := (bi.take k).countP fun x => decide (x ≤ t)
def posTo (c : List Int) (k : Nat) : Nat := (c.take k).countP fun x => decide (0 ≤ x)
def cycQ (q : Filt) (t : Int) : Int := if isF q && inR t 0 (q.stages - 1) then (cntQ q t : Int) + endsTo t q.ends q.ends.length - bornTo t q.birth q.birth.length else 0
theorem endsTo_le (t : Int) (es : List (List Int)) (k : Nat) : endsTo t es k ≤ k := Nat.le_trans List.countP_le_length (by simp; omega)
theorem bornTo_le (t : Int) (es : List Int) (k : Nat) : bornTo t es k ≤ k := Nat.le_trans List.countP_le_length (by simp; omega)
theorem posTo_le (es : List Int) (k : Nat) : posTo es k ≤ k := Nat.le_trans List.countP_le_length (by simp; omega)
theorem endsTo_succ {t s : Int} {es : List (List Int)} {k : Nat} {i j : Int} (h : es[k]? = some [i, j, s]) : endsTo t es (k + 1) = endsTo t es k + if s ≤ t then 1 else 0 := by
  rw [endsTo, take_snoc h, List.countP_append, List.countP_singleton]; simp [endsTo]
theorem bornTo_succ {t s : Int} {es : List Int} {k : Nat} (h : es[k]? = some s) : bornTo t es (k + 1) = bornTo t es k + if s ≤ t then 1 else 0 := by
  rw [bornTo, take_snoc h, List.countP_append, List.countP_singleton]; simp [bornTo]
theorem posTo_succ {s : Int} {es : List Int} {k : Nat} (h : es[k]? = some s) : posTo es (k + 1) = posTo es k + if 0 ≤ s then 1 else 0 := by
  rw [posTo, take_snoc h, List.countP_append, List.countP_singleton]; simp [posTo]
theorem pos_born {q : Filt} {t : Int} (hq : isF q = true) : ∀ k, k ≤ q.birth.length → posTo (compQ q t) k = bornTo t q.birth k
  | 0, _ => by simp [posTo, bornTo]
  | k + 1, hk => by
    have hl : (compQ q t).length = q.birth.length := compQ_length q t
    have h1 : (compQ q t)[k]? = some (gt (compQ q t) k) := by rw [gt, List.getD_eq_getElem?_getD, List.getElem?_eq_getElem (by omega)]; rfl
    have h2 : q.birth[k]? = some (q.birth.getD k 0) := by rw [List.getD_eq_getElem?_getD, List.getElem?_eq_getElem (by omega)]; rfl
    rw [posTo_succ h1, bornTo_succ h2, pos_born hq k (by omega)]
    rcases compQ_root hq (i := k) (t := t) (by omega) with ⟨h3, h4⟩ | ⟨h3, l, h4, _⟩
    · rw [if_neg (by omega), if_neg (by omega)]
    · rw [if_pos (by omega), if_pos (by omega)]
theorem cntQ_le (q : Filt) (t : Int) : cntQ q t ≤ (compsQ q t).length := by
  have := List.length_filter_le (fun i => decide ((compsQ q t).getD i 0 = (i : Int))) (List.range (compsQ q t).length)
  rw [List.length_range] at this
  simpa [cntQ, rootsC] using this

set_option maxHeartbeats 1600000 in
theorem implCyclesAt_any (u : Value) (q : Filt) (t : Int) (w : World) (hu : FiR w w.heap.size u q) (ht : I64 t) :
    Calls Try.prog 30 #[u, .int .i64 t] w fun e w' => e = .returned (.int .i64 (cycQ q t)) ∧ Below w.heap.size w w' := by
  obtain ⟨A, c, C, d, e0, hf, hT, hr, lf, lt⟩ := hu.open_
  subst e0
  have g0 := below_alloc w (.cells #[.int .i64 q.stages, .slice A q.birth.length c, .slice C q.ends.length d] 47)
  have kB := Blk.new w 47 #[.int .i64 q.stages, .slice A q.birth.length c, .slice C q.ends.length d]
  have h1 := hu.next g0
  rcases hB : (isF q && inR t 0 (q.stages - 1)) with _ | _
  · have HC : Hid (cycQ q t = 0) := by show _ = _; rw [cycQ, if_neg (by rw [hB]; simp)]
    go_enter Try.func30, Try.ntmps30
    go_wp2_with fail
    refine (hasStage_any _ q t _ h1).mono ?_; rintro e w1 ⟨rfl, hb1⟩
    rw [hB]
    go_wp2
    go_ret
    exact ⟨by rw [HC.out]; rfl, bthen g0 hb1⟩
  · have HC : Hid (cycQ q t = (cntQ q t : Int) + endsTo t q.ends q.ends.length - bornTo t q.birth q.birth.length) := by show _ = _; rw [cycQ, if_pos hB]
    have hB' := hB
    rw [Bool.and_eq_true] at hB'
    obtain ⟨hq, hin⟩ := hB'
    obtain ⟨hl1, hl2, hl3, hl4, hl5⟩ := isF_lens hq
    have HB := Lib.hid hB
    have hcl : cntQ q t ≤ 4 := by
      have := cntQ_le q t
      rw [compsQ, if_pos hB, compQ_length] at this
      omega
    clear hB hin
    go_enter Try.func30, Try.ntmps30
    go_wp2_with fail
    refine (hasStage_any _ q t _ h1).mono ?_; rintro e w1 ⟨rfl, hb1⟩
    rw [HB.out]
    have k1 := kB.call hb1
    have g1 := bthen g0 hb1
    have c0 := k1.cell' (i := 0) rfl
    have c1 := k1.cell' (i := 1) rfl
    have c2 := k1.cell' (i := 2) rfl
    have h2 := FiR.next g1 hu
    clear kB g0 h1 hu hb1
    go_wp2_with fail
    refine (implCountComponents_any _ q t _ h2 ht).mono ?_; rintro e w2 ⟨rfl, hb2⟩
    have k2 := k1.call hb2
    have g2 := bthen g1 hb2
    clear c0 c1 c2 k1 g1 h2 hb2
    have c1 := k2.cell' (i := 1) rfl
    have c2 := k2.cell' (i := 2) rfl
    obtain ⟨n, hn⟩ : ∃ n, cntQ q t = n := ⟨_, rfl⟩
    rw [hn] at hcl HC ⊢
    clear hn
    go_wp2
    go_loopw [5, 20] (fun a i wr => ∃ k m : Nat, k ≤ q.ends.length ∧ i = .int .i64 k ∧ a = .int .i64 ((n : Int) + endsTo t q.ends k) ∧ wr = w2.drewN m) (fun _ i _ => q.ends.length - (intOf i).toNat)
    case atStart => exact ⟨0, 0, Nat.zero_le _, rfl, by simp [endsTo], rfl⟩
    case round =>
      obtain ⟨k, m, hk, rfl, rfl, rfl⟩ := hrel
      have hle := endsTo_le t q.ends k
      by_cases hlt : k < q.ends.length
      · obtain ⟨b, o, l, A', c', rfl, hb, HL, x1, hl⟩ := SlII.at_ hT hlt
        obtain ⟨i, j, et, rfl, hi, hj⟩ := isF_end hq HL.out
        have x2 := bcell g2 hb x1
        obtain ⟨b3, o3, y2, E2, hb3, HY2, j2, _⟩ := SlI.at_ (k := 2) hl (by simp)
        have F3 := HY2.out
        simp only [List.getElem?_cons_zero, List.getElem?_cons_succ, Option.some.injEq] at F3 E2
        subst F3 E2
        have j2' := bcell g2 hb3 j2
        clear j2 HY2 x1 hl
        have hs := endsTo_succ (t := t) HL.out
        simp only [List.length_cons, List.length_nil, Nat.zero_add, Nat.reduceAdd] at x2
        generalize endsTo t q.ends k = ek at hs hle ⊢
        by_cases het : et ≤ t
        · have het' : ¬ t < et := by omega
          rw [if_pos het] at hs
          have HS := Lib.hid hs
          clear hs
          go_wp2
          go_roundw
          case rel => exact ⟨k + 1, _, by omega, by go_num, by rw [HS.out]; go_num, rfl⟩
          case measure => simp [intOf]; omega
        · have het' : t < et := by omega
          rw [if_neg het] at hs
          have HS := Lib.hid hs
          clear hs
          go_wp2
          go_roundw
          case rel => exact ⟨k + 1, _, by omega, by go_num, by rw [HS.out]; go_num, rfl⟩
          case measure => simp [intOf]; omega
      · obtain rfl : k = q.ends.length := by omega
        generalize endsTo t q.ends q.ends.length = ek at hle HC
        go_wp2
        go_loopw [5, 35] (fun a i wr => ∃ k m : Nat, k ≤ q.birth.length ∧ i = .int .i64 k ∧ a = .int .i64 ((n : Int) + ek - bornTo t q.birth k) ∧ wr = w2.drewN m) (fun _ i _ => q.birth.length - (intOf i).toNat)
        case atStart => exact ⟨0, _, Nat.zero_le _, rfl, by simp [bornTo], rfl⟩
        case round =>
          obtain ⟨k, m, hk, rfl, rfl, rfl⟩ := hrel
          have hle2 := bornTo_le t q.birth k
          by_cases hlt : k < q.birth.length
          · obtain ⟨b, o, x, rfl, hb, HX, x1, _⟩ := SlI.at_ hf hlt
            have x2 := bcell g2 hb x1
            have hs := bornTo_succ (t := t) HX.out
            clear x1
            generalize bornTo t q.birth k = ek0 at hs hle2 ⊢
            by_cases het : x ≤ t
            · have het' : ¬ t < x := by omega
              rw [if_pos het] at hs
              have HS := Lib.hid hs
              clear hs
              go_wp2
              go_roundw
              case rel => exact ⟨k + 1, _, by omega, by go_num, by rw [HS.out]; go_num, rfl⟩
              case measure => simp [intOf]; omega
            · have het' : t < x := by omega
              rw [if_neg het] at hs
              have HS := Lib.hid hs
              clear hs
              go_wp2
              go_roundw
              case rel => exact ⟨k + 1, _, by omega, by go_num, by rw [HS.out]; go_num, rfl⟩
              case measure => simp [intOf]; omega
          · obtain rfl : k = q.birth.length := by omega
            go_wp2
            go_ret
            exact ⟨by rw [HC.out]; rfl, below_drewN g2 _⟩

theorem cycQ_no {q : Filt} {t : Int} (h : (isF q && inR t 0 (q.stages - 1)) = false) : compsQ q t = [] ∧ cntQ q t = 0 := by
  have h1 : compsQ q t = [] := by rw [compsQ, h]; rfl
  exact ⟨h1, by rw [cntQ, h1]; rfl⟩
set_option maxHeartbeats 1600000 in
theorem specCyclesAt_any (u : Value) (q : Filt) (t : Int) (w : World) (hu : FiR w w.heap.size u q) (ht : I64 t) :
    Calls Try.prog 29 #[u, .int .i64 t] w fun e w' => e = .returned (.int .i64 (cycQ q t)) ∧ Below w.heap.size w w' := by
  obtain ⟨A, c, C, d, e0, hf, hT, hr, lf, lt⟩ := hu.open_
  subst e0
  have g0 := below_alloc w (.cells #[.int .i64 q.stages, .slice A q.birth.length c, .slice C q.ends.length d] 47)
  have kB := Blk.new w 47 #[.int .i64 q.stages, .slice A q.birth.length c, .slice C q.ends.length d]
  have h1 := hu.next g0
  obtain ⟨cl, hcl⟩ : ∃ cl, compsQ q t = cl := ⟨_, rfl⟩
  have HCL := Lib.hid hcl
  have hll : cl.length ≤ 4 ∧ (cl.length = 0 ∨ (isF q = true ∧ (isF q && inR t 0 (q.stages - 1)) = true)) := by
    rw [← hcl]
    rcases hB : (isF q && inR t 0 (q.stages - 1)) with _ | _
    · rw [(cycQ_no hB).1]; simp
    · have hB' := hB
      rw [Bool.and_eq_true] at hB'
      have := (isF_lens hB'.1)
      rw [compsQ, if_pos hB, compQ_length]
      exact ⟨this.2.1, .inr ⟨hB'.1, rfl⟩⟩
  obtain ⟨n, hn⟩ : ∃ n, (rootsC cl).length = n := ⟨_, rfl⟩
  have hnl : n ≤ 4 := by
    have := cntQ_le q t
    rw [cntQ, hcl, hn] at this
    omega
  have HFIN : Hid (cycQ q t = (n : Int) - posTo cl cl.length + (if cl.length = 0 then 0 else endsTo t q.ends q.ends.length : Nat)) := by
    show _ = _
    rcases hB : (isF q && inR t 0 (q.stages - 1)) with _ | _
    · obtain ⟨h2, h3⟩ := cycQ_no hB
      rw [hcl] at h2
      subst h2
      rw [cycQ, hB]
      have : n = 0 := by rw [← hn]; rfl
      subst this
      simp [posTo]
    · have hB' := hB
      rw [Bool.and_eq_true] at hB'
      obtain ⟨hl1, _⟩ := isF_lens hB'.1
      have h2 : compQ q t = cl := by rw [← hcl, compsQ, if_pos hB]
      have h3 : cl.length = q.birth.length := by rw [← h2, compQ_length]
      have h4 := pos_born hB'.1 (t := t) q.birth.length (Nat.le_refl _)
      rw [h2] at h4
      rw [cycQ, if_pos hB, if_neg (by omega), h3, h4, cntQ, hcl, hn]
      omega
  have HF := Lib.hid hll.2
  have hl4 := hll.1
  clear hll hcl
  go_enter Try.func29, Try.ntmps29
  go_wp2_with fail
  refine (specComponentsAt_any _ q t _ h1 ht).mono ?_; rintro e w1 ⟨v, rfl, ho, hb1⟩
  rw [HCL.out] at ho
  have k1 := kB.call hb1
  have g1 := bthen g0 hb1
  have hcr := ho.rd
  obtain ⟨A1, c1, rfl, _, _⟩ := ho.1.form
  clear kB g0 h1 hu hb1 ho
  go_wp2_with fail
  refine (l24Roots_any _ _ _ hcr).mono ?_; rintro e w2 ⟨v, rfl, ho2, hb2⟩
  obtain ⟨A2, c2, rfl, _, _⟩ := ho2.1.form
  have k2 := k1.call hb2
  have g2 := bthen g1 hb2
  have hcr2 := SlI.next hb2 hcr
  rw [hn]
  clear k1 g1 hb2 hcr ho2 hn
  have c1' := k2.cell' (i := 1) rfl
  have c2' := k2.cell' (i := 2) rfl
  go_wp2
  go_loopw [6, 7] (fun a i wr => ∃ k m : Nat, k ≤ cl.length ∧ i = .int .i64 k ∧ a = .int .i64 ((n : Int) - posTo cl k) ∧ wr = w2.drewN m) (fun _ i _ => cl.length - (intOf i).toNat)
  case atStart => exact ⟨0, 0, Nat.zero_le _, rfl, by simp [posTo], rfl⟩
  case round =>
    obtain ⟨k, m, hk, rfl, rfl, rfl⟩ := hrel
    have hle := posTo_le cl k
    by_cases hlt : k < cl.length
    · obtain ⟨b, o, x, rfl, hb, HX, x1, _⟩ := SlI.at_ hcr2 hlt
      have hs := posTo_succ HX.out
      generalize posTo cl k = ek0 at hs hle ⊢
      by_cases het : 0 ≤ x
      · have het' : ¬ x < 0 := by omega
        rw [if_pos het] at hs
        have HS := Lib.hid hs
        clear hs
        go_wp2
        go_roundw
        case rel => exact ⟨k + 1, _, by omega, by go_num, by rw [HS.out]; go_num, rfl⟩
        case measure => simp [intOf]; omega
      · have het' : x < 0 := by omega
        rw [if_neg het] at hs
        have HS := Lib.hid hs
        clear hs
        go_wp2
        go_roundw
        case rel => exact ⟨k + 1, _, by omega, by go_num, by rw [HS.out]; go_num, rfl⟩
        case measure => simp [intOf]; omega
    · obtain rfl : k = cl.length := by omega
      obtain ⟨ps, hps⟩ : ∃ ps, posTo cl cl.length = ps := ⟨_, rfl⟩
      rw [hps] at hle HFIN ⊢
      clear hps
      by_cases hz : cl.length = 0
      · have HZ := Lib.hid hz
        have hz' : ¬ 0 < cl.length := by omega
        have HFIN2 : Hid (cycQ q t = (n : Int) - ps) := by show _ = _; rw [HFIN.out, if_pos hz]; omega
        have hd : decide (0 < cl.length) = false := by simpa using hz
        clear hz HFIN
        go_wp2
        go_loopw [6, 8] (fun a i wr => ∃ m : Nat, a = .int .i64 ((n : Int) - ps) ∧ i = .int .i64 0 ∧ wr = w2.drewN m) (fun _ _ _ => 0)
        case atStart => exact ⟨_, rfl, rfl, rfl⟩
        case round =>
          obtain ⟨m, rfl, rfl, rfl⟩ := hrel
          go_wp2
          all_goals (go_ret; exact ⟨by rw [HFIN2.out]; rfl, below_drewN g2 _⟩)
      · have HFIN2 : Hid (cycQ q t = (n : Int) - ps + endsTo t q.ends q.ends.length) := by show _ = _; rw [HFIN.out, if_neg hz]
        have hq : isF q = true := by rcases HF.out with h | h
                                     · exact absurd h hz
                                     · exact h.1
        have hz' : 0 < cl.length := by omega
        have hd : decide (0 < cl.length) = true := by simpa using hz'
        clear HFIN
        obtain ⟨hl1, hl2, hl3, hl4', hl5⟩ := isF_lens hq
        go_wp2
        go_loopw [6, 8] (fun a i wr => ∃ k m : Nat, k ≤ q.ends.length ∧ i = .int .i64 k ∧ a = .int .i64 ((n : Int) - ps + endsTo t q.ends k) ∧ wr = w2.drewN m) (fun _ i _ => q.ends.length - (intOf i).toNat)
        case atStart => exact ⟨0, _, Nat.zero_le _, rfl, by simp [endsTo], rfl⟩
        case round =>
          obtain ⟨k, m, hk, rfl, rfl, rfl⟩ := hrel
          have hle3 := endsTo_le t q.ends k
          by_cases hlt : k < q.ends.length
          · obtain ⟨b, o, l, A', c', rfl, hb, HL, x1, hl⟩ := SlII.at_ hT hlt
            obtain ⟨i, j, et, rfl, hi, hj⟩ := isF_end hq HL.out
            have x2 := bcell g2 hb x1
            obtain ⟨b3, o3, y2, E2, hb3, HY2, j2, _⟩ := SlI.at_ (k := 2) hl (by simp)
            have F3 := HY2.out
            simp only [List.getElem?_cons_zero, List.getElem?_cons_succ, Option.some.injEq] at F3 E2
            subst F3 E2
            have j2' := bcell g2 hb3 j2
            clear j2 HY2 x1 hl
            have hs := endsTo_succ (t := t) HL.out
            simp only [List.length_cons, List.length_nil, Nat.zero_add, Nat.reduceAdd] at x2
            generalize endsTo t q.ends k = ek at hs hle3 ⊢
            by_cases het : et ≤ t
            · have het' : ¬ t < et := by omega
              rw [if_pos het] at hs
              have HS := Lib.hid hs
              clear hs
              go_wp2
              go_roundw
              case rel => exact ⟨k + 1, _, by omega, by go_num, by rw [HS.out]; go_num, rfl⟩
              case measure => simp [intOf]; omega
            · have het' : t < et := by omega
              rw [if_neg het] at hs
              have HS := Lib.hid hs
              clear hs
              go_wp2
              go_roundw
              case rel => exact ⟨k + 1, _, by omega, by go_num, by rw [HS.out]; go_num, rfl⟩
              case measure => simp [intOf]; omega
          · obtain rfl : k = q.ends.length := by omega
            go_wp2
            all_goals (go_ret; exact ⟨by rw [HFIN2.out]; rfl, below_drewN g2 _⟩)
end Go.Proofs.Ytjlgijdkfihhlaa

/- The walk of FnExactCyclesAt, printed by program (wip/law.py) out of the contracts of what it calls. -/
namespace Go.Proofs.Ytjlgijdkfihhlaa
set_option linter.unusedVariables false
set_option linter.unusedSimpArgs false
open Go.RowKit

set_option maxHeartbeats 1600000 in
set_option maxRecDepth 100000 in
theorem lawCyclesAt_any (uq : Value) (q : Filt) (t : Int) (w : World) (hq : FiR w w.heap.size uq q) (rng_t : I64 t) :
    Calls Try.prog 5 #[uq, .int .i64 t] w fun e w' => e = .returned (.bool true) ∧ Below w.heap.size w w' := by
  obtain ⟨Auq, cuq, Cuq, duq, eq⟩ := FiR.form hq
  subst eq
  have lq := FiR.lens hq
  have g0 := Below.refl w.heap.size w
  have fzq : q.birth.length + tot q.ends ≤ q.size := by simp only [Filt.size, szSS]; omega
  by_cases z0 : (1048576 : Int) < (q.size : Nat)
  · have y0 : szLeft (1048576 : Int) (q.size) = -1 := by rw [szLeft, if_pos z0]
    go_enter Try.func5, Try.ntmps5
    go_wp2_with fail
    obtain ⟨W2, e3⟩ : ∃ W, W = w.alloc (.cells #[.int .i64 (q).stages, .slice Auq (q).birth.length cuq, .slice Cuq (q).ends.length duq] 44) := ⟨_, rfl⟩
    rw [← e3]
    have b4 : Below w.heap.size w W2 := by rw [e3]; exact below_alloc _ _
    have k5 : Blk W2 w.heap.size 44 #[.int .i64 (q).stages, .slice Auq (q).birth.length cuq, .slice Cuq (q).ends.length duq] := by rw [e3]; exact Blk.new _ _ _
    have s6 : w.heap.size < W2.heap.size := by rw [e3]; simp
    clear e3
    have h7 := FiR.below (b4.mono (by omega)) hq
    have s8 : w.heap.size ≤ W2.heap.size := b4.size
    have g9 := bthen g0 b4
    clear hq g0 b4
    have c10 := k5.cell' (i := 0) rfl
    have c11 := k5.cell' (i := 1) rfl
    have c12 := k5.cell' (i := 2) rfl
    refine (szFiltration_any _ _ (1048576 : Int) _ (FiR.more (by omega) h7) (by omega) (by omega)).mono ?_; rintro e W13 ⟨rfl, b1⟩
    have h14 := FiR.below (b1.mono (by omega)) h7
    have k15 := k5.call b1
    have s16 : W2.heap.size ≤ W13.heap.size := b1.size
    have g17 := bthen g9 b1
    clear h7 k5 g9 b1 c10 c11 c12
    have c18 := k15.cell' (i := 0) rfl
    have c19 := k15.cell' (i := 1) rfl
    have c20 := k15.cell' (i := 2) rfl
    go_wp2
    go_ret
    exact ⟨rfl, g17⟩
  have y0 : szLeft (1048576 : Int) (q.size) = (1048576 : Int) - (q.size : Nat) := by rw [szLeft, if_neg z0]
  have x0 : ¬ ((1048576 : Int) - ((q.size : Nat) : Int) < 0) := by omega
  go_enter Try.func5, Try.ntmps5
  go_wp2_with fail
  obtain ⟨W22, e23⟩ : ∃ W, W = w.alloc (.cells #[.int .i64 (q).stages, .slice Auq (q).birth.length cuq, .slice Cuq (q).ends.length duq] 44) := ⟨_, rfl⟩
  rw [← e23]
  have b24 : Below w.heap.size w W22 := by rw [e23]; exact below_alloc _ _
  have k25 : Blk W22 w.heap.size 44 #[.int .i64 (q).stages, .slice Auq (q).birth.length cuq, .slice Cuq (q).ends.length duq] := by rw [e23]; exact Blk.new _ _ _
  have s26 : w.heap.size < W22.heap.size := by rw [e23]; simp
  clear e23
  have h27 := FiR.below (b24.mono (by omega)) hq
  have s28 : w.heap.size ≤ W22.heap.size := b24.size
  have g29 := bthen g0 b24
  clear hq g0 b24
  have c30 := k25.cell' (i := 0) rfl
  have c31 := k25.cell' (i := 1) rfl
  have c32 := k25.cell' (i := 2) rfl
  refine (szFiltration_any _ _ (1048576 : Int) _ (FiR.more (by omega) h27) (by omega) (by omega)).mono ?_; rintro e W33 ⟨rfl, b21⟩
  have h34 := FiR.below (b21.mono (by omega)) h27
  have k35 := k25.call b21
  have s36 : W22.heap.size ≤ W33.heap.size := b21.size
  have g37 := bthen g29 b21
  clear h27 k25 g29 b21 c30 c31 c32
  have c38 := k35.cell' (i := 0) rfl
  have c39 := k35.cell' (i := 1) rfl
  have c40 := k35.cell' (i := 2) rfl
  go_wp2_with fail
  refine (filt_to _ _ _ (FiR.more (by omega) h34) (by omega)).mono ?_; rintro e W44 ⟨v41, rfl, h42, b43⟩
  have h45 := FiR.below (b43.mono (by omega)) h34
  have k46 := k35.call b43
  have s47 : W33.heap.size ≤ W44.heap.size := b43.size
  have g48 := bthen g37 b43
  clear h34 k35 g37 b43 c38 c39 c40
  have c49 := k46.cell' (i := 0) rfl
  have c50 := k46.cell' (i := 1) rfl
  have c51 := k46.cell' (i := 2) rfl
  go_wp2_with fail
  refine (specCyclesAt_any _ _ _ _ h42.rd rng_t).mono ?_; rintro e W53 ⟨rfl, b52⟩
  have h54 := FiR.below (b52.mono (by omega)) h45
  have h55 := h42.below b52
  have k56 := k46.call b52
  have s57 : W44.heap.size ≤ W53.heap.size := b52.size
  have g58 := bthen g48 b52
  clear h45 h42 k46 g48 b52 c49 c50 c51
  have c59 := k56.cell' (i := 0) rfl
  have c60 := k56.cell' (i := 1) rfl
  have c61 := k56.cell' (i := 2) rfl
  clear h55
  go_wp2_with fail
  refine (filt_to _ _ _ (FiR.more (by omega) h54) (by omega)).mono ?_; rintro e W65 ⟨v62, rfl, h63, b64⟩
  have h66 := FiR.below (b64.mono (by omega)) h54
  have k67 := k56.call b64
  have s68 : W53.heap.size ≤ W65.heap.size := b64.size
  have g69 := bthen g58 b64
  clear h54 k56 g58 b64 c59 c60 c61
  have c70 := k67.cell' (i := 0) rfl
  have c71 := k67.cell' (i := 1) rfl
  have c72 := k67.cell' (i := 2) rfl
  obtain ⟨Ax73, cx73, Cx73, dx73, e74⟩ := h63.form
  subst e74
  have c76 := fun o => (k67.alloc o).cell' (i := 0) rfl
  have c77 := fun o => (k67.alloc o).cell' (i := 1) rfl
  have c78 := fun o => (k67.alloc o).cell' (i := 2) rfl
  go_wp2_with fail
  obtain ⟨W79, e80⟩ : ∃ W, W = W65.alloc (.cells #[.int .i64 (q).stages, .slice Ax73 (q).birth.length cx73, .slice Cx73 (q).ends.length dx73] 47) := ⟨_, rfl⟩
  rw [← e80]
  have b81 : Below W65.heap.size W65 W79 := by rw [e80]; exact below_alloc _ _
  have k82 : Blk W79 W65.heap.size 47 #[.int .i64 (q).stages, .slice Ax73 (q).birth.length cx73, .slice Cx73 (q).ends.length dx73] := by rw [e80]; exact Blk.new _ _ _
  have s83 : W65.heap.size < W79.heap.size := by rw [e80]; simp
  clear e80
  have h84 := FiR.below (b81.mono (by omega)) h66
  have h85 := h63.below b81
  have k86 := k67.call b81
  have s87 : W65.heap.size ≤ W79.heap.size := b81.size
  have g88 := bthen g69 b81
  clear h66 h63 k67 g69 b81 c70 c71 c72 c76 c77 c78
  have c89 := k86.cell' (i := 0) rfl
  have c90 := k86.cell' (i := 1) rfl
  have c91 := k86.cell' (i := 2) rfl
  have c92 := k82.cell' (i := 0) rfl
  have c93 := k82.cell' (i := 1) rfl
  have c94 := k82.cell' (i := 2) rfl
  refine (implCyclesAt_any _ _ _ _ h85.rd rng_t).mono ?_; rintro e W95 ⟨rfl, b75⟩
  have h96 := FiR.below (b75.mono (by omega)) h84
  have h97 := h85.below b75
  have k98 := k86.call b75
  have k99 := k82.call b75
  have s100 : W79.heap.size ≤ W95.heap.size := b75.size
  have g101 := bthen g88 b75
  clear h84 h85 k86 k82 g88 b75 c89 c90 c91 c92 c93 c94
  have c102 := k98.cell' (i := 0) rfl
  have c103 := k98.cell' (i := 1) rfl
  have c104 := k98.cell' (i := 2) rfl
  have c105 := k99.cell' (i := 0) rfl
  have c106 := k99.cell' (i := 1) rfl
  have c107 := k99.cell' (i := 2) rfl
  go_wp2_with fail
  have b108 := drew_below W95
  have h109 := FiR.below (b108.mono (by omega)) h96
  have h110 := h97.below b108
  have k111 := k98.call b108
  have k112 := k99.call b108
  have s113 : W95.heap.size ≤ W95.drew.heap.size := b108.size
  have g114 := bthen g101 b108
  clear h96 h97 k98 k99 g101 b108 c102 c103 c104 c105 c106 c107
  have c115 := k111.cell' (i := 0) rfl
  have c116 := k111.cell' (i := 1) rfl
  have c117 := k111.cell' (i := 2) rfl
  have c118 := k112.cell' (i := 0) rfl
  have c119 := k112.cell' (i := 1) rfl
  have c120 := k112.cell' (i := 2) rfl
  go_region_held3 (fun W' => W'.cell? ⟨w.heap.size, 0, none⟩ = some (.int .i64 (q).stages) ∧ W'.cell? ⟨w.heap.size, 1, none⟩ = some (.slice Auq (q).birth.length cuq) ∧ W'.cell? ⟨w.heap.size, 2, none⟩ = some (.slice Cuq (q).ends.length duq) ∧ W'.cell? ⟨W65.heap.size, 0, none⟩ = some (.int .i64 (q).stages) ∧ W'.cell? ⟨W65.heap.size, 1, none⟩ = some (.slice Ax73 (q).birth.length cx73) ∧ W'.cell? ⟨W65.heap.size, 2, none⟩ = some (.slice Cx73 (q).ends.length dx73))
    (first | exact ⟨c115, c116, c117, c118, c119, c120⟩ | exact ⟨c131, c132, c133, c134, c135, c136⟩ | exact ⟨c146, c147, c148, c149, c150, c151⟩)
    (first | (go_at_call 26; refine (filt_to _ _ _ (FiR.more (by omega) h109) (by omega)).mono ?_; rintro e W124 ⟨v121, rfl, h122, b123⟩; have h125 := FiR.below (b123.mono (by omega)) h109; have h126 := h110.below b123; have k127 := k111.call b123; have k128 := k112.call b123; have s129 : W95.drew.heap.size ≤ W124.heap.size := b123.size; have g130 := bthen g114 b123; clear h109 h110 k111 k112 g114 b123 c115 c116 c117 c118 c119 c120; have c131 := k127.cell' (i := 0) rfl; have c132 := k127.cell' (i := 1) rfl; have c133 := k127.cell' (i := 2) rfl; have c134 := k128.cell' (i := 0) rfl; have c135 := k128.cell' (i := 1) rfl; have c136 := k128.cell' (i := 2) rfl) | (go_at_call 28; refine (eqFiltration_any _ _ _ _ _ h126.rd h122.rd).mono ?_; rintro e W138 ⟨rfl, b137⟩; have h139 := FiR.below (b137.mono (by omega)) h125; have h140 := h126.below b137; have h141 := h122.below b137; have k142 := k127.call b137; have k143 := k128.call b137; have s144 : W124.heap.size ≤ W138.heap.size := b137.size; have g145 := bthen g130 b137; clear h125 h126 h122 k127 k128 g130 b137 c131 c132 c133 c134 c135 c136; have c146 := k142.cell' (i := 0) rfl; have c147 := k142.cell' (i := 1) rfl; have c148 := k142.cell' (i := 2) rfl; have c149 := k143.cell' (i := 0) rfl; have c150 := k143.cell' (i := 1) rfl; have c151 := k143.cell' (i := 2) rfl))
  clear h141
  go_wp2
  go_ret
  exact ⟨rfl, g145⟩
end Go.Proofs.Ytjlgijdkfihhlaa

/- FnExactCyclesAt is proved: for every argument the program's CyclesAt returns what the reference's returns, leaves its arguments as they were, and returns memory of its own. No condition. -/
namespace Go.Proofs.Ytjlgijdkfihhlaa
set_option linter.unusedVariables false
set_option linter.unusedSimpArgs false
open Go.RowKit Go.ChangeShapes Go.WideShapes Go.ChangeAt Go.Deep

set_option maxRecDepth 100000 in
theorem cyclesAt_lifted (os : Os) (started : os.Started) (H : Type) (enc : TypeId × Value → H) :
    ReturnsInHanded {} Try.checked os 5 .any (Rows.fnExactCyclesAtSpec.pre6 enc Try.prog Try.f5 Rows.fnExactCyclesAtRow.domain false) (Rows.fnExactCyclesAtSpec.post enc Try.prog Try.f5 false true false false) := by
  refine lift_law started (by kernel_rfl) Try.func5 (ChangeSpec.witness6 (enc := enc) (C := Try.checked) false ⟨#[], #[.agg #[.int .i64 0, .slice none 0 0, .slice none 0 0], .int .i64 0], []⟩ 8 (by kernel_rfl) (by kernel_rfl) (by kernel_rfl) (by kernel_rfl))
    rfl rfl (by rw [Try.params5]; intro t ht; simp only [List.mem_cons, List.not_mem_nil, or_false] at ht; rcases ht with rfl | rfl <;> exact ⟨by kernel_rfl, of_decide_eq_true (by kernel_rfl)⟩) (fun ds hl => by rw [Try.params5] at hl; match ds, hl with | [_, _], _ => rfl) ?_
  intro W args ds ps base hval hA hwt
  rw [Try.params5] at hA hval hwt
  obtain ⟨v0, v1, d0, d1, p0, p1, hargs, rfl, rfl, h0, h1⟩ := trodAll_two hA
  obtain rfl : args = #[v0, v1] := by cases args; simp_all
  obtain ⟨x0, r0⟩ := argFilt (hval 0 _ _ rfl rfl) h0 (hwt 0 _ _ rfl rfl)
  obtain ⟨x1, rfl, r1⟩ := argInt (hval 1 _ _ rfl rfl) h1
  exact lawCyclesAt_any _ _ _ W r0 r1

theorem cyclesAt_closed : joinedFacts Try.prog 5 Try.f5 Rows.fnExactCyclesAtSpec Rows.fnExactCyclesAtRow = true := by
  unfold joinedFacts
  refine band (band (band (band (band (band (band ?_ seatEnter) seatLifts) seatMake) ?_) ?_) ?_) ?_ <;> kernel_rfl

theorem cyclesAt_holds : Rows.FnExactCyclesAtSaid :=
  OpenClaim.holds_of_wide 5 Try.f5 rfl rfl rfl rfl rfl rfl rfl ⟨rfl, rfl, rfl, rfl, rfl⟩ rfl rfl rfl rfl rfl (by kernel_rfl) Try.func5 cyclesAt_closed
    (of_decide_eq_true (by kernel_rfl)) (by unfold Func.isWrapper; first | (rw [if_pos (by decide +kernel)]; kernel_rfl) | (rw [if_neg (by decide +kernel)]; exact ⟨rfl, rfl⟩))
    (fun os started H enc _ => cyclesAt_lifted os started H enc)
#print axioms cyclesAt_holds
end Go.Proofs.Ytjlgijdkfihhlaa
