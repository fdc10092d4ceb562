/- FnExactFiltrationRep: for every argument the program's function returns what the reference's returns. Part 10 of 11 of the proof: Srt, CntC, FrP, FrI, FrS, FrZ. No condition. -/
import Derived.Test.YtcmlflppndfdcaaBFiltrationRep9
import Derived.Shelf.SortM.Plain
import Derived.Shelf.SortM.SortNone
import Derived.Ground.SlgmProg
import Derived.Shelf.Slices.CompactI
import Derived.Shelf.SlicesE.DeleteFunc
import Derived.Ground.SlgfProg
/- slices.Sort, Compact, DeleteFunc at []int on a row of the call's own: the shelf's contracts; leasts. -/
namespace Go.Proofs
open Go.Shelf
def Try.laysSort_ren : Go.Shelf.Ren := ⟨fun | 5 => 126 | 8 => 153 | 7 => 152 | 19 => 170 | 20 => 171 | 10 => 161 | 11 => 162 | 12 => 163 | 13 => 164 | 14 => 165 | 15 => 166 | 16 => 167 | 17 => 168 | 18 => 169 | 30 => 173 | 31 => 174 | 32 => 175 | 33 => 176 | 34 => 177 | 35 => 157 | 40 => 178 | n => n, fun | 23 => 22 | 25 => 3 | 3 => 3 | 32 => 108 | 22 => 22 | 0 => 0 | 44 => 130 | 46 => 133 | 4 => 4 | 36 => 149 | 35 => 148 | 41 => 153 | 5 => 5 | 9 => 9 | 53 => 157 | 57 => 161 | 63 => 163 | 64 => 164 | n => n, fun | n => n⟩
theorem Try.laysSort : Go.Proofs.SlLaysM.n5 Try.prog Try.laysSort_ren := {
  mixed := by kernel_rfl
  f5 := ⟨Try.f126.name, by decide, Try.func126.trans (congrArg some (by kernel_rfl))⟩
  f7 := ⟨Try.f152.name, by decide, Try.func152.trans (congrArg some (by kernel_rfl))⟩
  f8 := Try.func153.trans (congrArg some (by kernel_rfl))
  f10 := ⟨Try.f161.name, by decide, Try.func161.trans (congrArg some (by kernel_rfl))⟩
  f11 := ⟨Try.f162.name, by decide, Try.func162.trans (congrArg some (by kernel_rfl))⟩
  f12 := ⟨Try.f163.name, by decide, Try.func163.trans (congrArg some (by kernel_rfl))⟩
  f13 := ⟨Try.f164.name, by decide, Try.func164.trans (congrArg some (by kernel_rfl))⟩
  f14 := ⟨Try.f165.name, by decide, Try.func165.trans (congrArg some (by kernel_rfl))⟩
  f15 := ⟨Try.f166.name, by decide, Try.func166.trans (congrArg some (by kernel_rfl))⟩
  f16 := ⟨Try.f167.name, by decide, Try.func167.trans (congrArg some (by kernel_rfl))⟩
  f17 := ⟨Try.f168.name, by decide, Try.func168.trans (congrArg some (by kernel_rfl))⟩
  f18 := ⟨Try.f169.name, by decide, Try.func169.trans (congrArg some (by kernel_rfl))⟩
  f19 := Try.func170.trans (congrArg some (by kernel_rfl))
  f20 := Try.func171.trans (congrArg some (by kernel_rfl))
  f30 := ⟨Try.f173.name, by decide, Try.func173.trans (congrArg some (by kernel_rfl))⟩
  f31 := Try.func174.trans (congrArg some (by kernel_rfl))
  f32 := Try.func175.trans (congrArg some (by kernel_rfl))
  f33 := ⟨Try.f176.name, by decide, Try.func176.trans (congrArg some (by kernel_rfl))⟩
  f34 := ⟨Try.f177.name, by decide, Try.func177.trans (congrArg some (by kernel_rfl))⟩
  f35 := ⟨Try.f157.name, by decide, Try.func157.trans (congrArg some (by kernel_rfl))⟩
  f40 := ⟨Try.f178.name, by decide, Try.func178.trans (congrArg some (by kernel_rfl))⟩
  t0 := Try.underlying0
  a0 := Try.isAgg0
  z0 := Try.sizeOf0
  v0 := Try.zeroValue0
  t3 := Try.underlying3
  a3 := Try.isAgg3
  z3 := Try.sizeOf3
  v3 := Try.zeroValue3
  t4 := Try.underlying4
  a4 := Try.isAgg4
  z4 := Try.sizeOf4
  v4 := Try.zeroValue4
  t5 := Try.underlying5
  a5 := Try.isAgg5
  z5 := Try.sizeOf5
  v5 := Try.zeroValue5
  t9 := Try.underlying9
  a9 := Try.isAgg9
  z9 := Try.sizeOf9
  v9 := Try.zeroValue9
  t22 := Try.underlying22
  a22 := Try.isAgg22
  z22 := Try.sizeOf22
  v22 := Try.zeroValue22
  t23 := Try.underlying22
  a23 := Try.isAgg22
  z23 := Try.sizeOf22
  v23 := Try.zeroValue22
  t25 := Try.underlying3
  a25 := Try.isAgg3
  z25 := Try.sizeOf3
  v25 := Try.zeroValue3
  t32 := Try.underlying108
  a32 := Try.isAgg108
  z32 := Try.sizeOf108
  v32 := Try.zeroValue108
  t35 := Try.underlying148
  a35 := Try.isAgg148
  z35 := Try.sizeOf148
  v35 := Try.zeroValue148
  t36 := Try.underlying149
  a36 := Try.isAgg149
  z36 := Try.sizeOf149
  v36 := Try.zeroValue149
  t41 := Try.underlying153
  a41 := Try.isAgg153
  z41 := Try.sizeOf153
  v41 := Try.zeroValue153
  t44 := Try.underlying130
  a44 := Try.isAgg130
  z44 := Try.sizeOf130
  v44 := Try.zeroValue130
  t46 := Try.underlying133
  a46 := Try.isAgg133
  z46 := Try.sizeOf133
  v46 := Try.zeroValue133
  t53 := Try.underlying157
  a53 := Try.isAgg157
  z53 := Try.sizeOf157
  v53 := Try.zeroValue157
  t57 := Try.underlying161
  a57 := Try.isAgg161
  z57 := Try.sizeOf161
  v57 := Try.zeroValue161
  t63 := Try.underlying163
  a63 := Try.isAgg163
  z63 := Try.sizeOf163
  v63 := Try.zeroValue163
  t64 := Try.underlying164
  a64 := Try.isAgg164
  z64 := Try.sizeOf164
  v64 := Try.zeroValue164 }
def Try.laysCompact_ren : Go.Shelf.Ren := ⟨fun | 20 => 128 | n => n, fun | 22 => 22 | 3 => 3 | 4 => 4 | 0 => 0 | n => n, fun | n => n⟩
theorem Try.laysCompact : Go.Proofs.Lays2.n20 Try.prog Try.laysCompact_ren := {
  mixed := by kernel_rfl
  f20 := Try.func128.trans (congrArg some (by kernel_rfl))
  t0 := Try.underlying0
  a0 := Try.isAgg0
  z0 := Try.sizeOf0
  v0 := Try.zeroValue0
  t3 := Try.underlying3
  a3 := Try.isAgg3
  z3 := Try.sizeOf3
  v3 := Try.zeroValue3
  t4 := Try.underlying4
  a4 := Try.isAgg4
  z4 := Try.sizeOf4
  v4 := Try.zeroValue4
  t22 := Try.underlying22
  a22 := Try.isAgg22
  z22 := Try.sizeOf22
  v22 := Try.zeroValue22
  i3 := by kernel_rfl }
def Try.laysDelete_ren : Go.Shelf.Ren := ⟨fun | 10 => 127 | 6 => 154 | n => n, fun | 22 => 22 | 23 => 3 | 25 => 62 | 3 => 3 | 4 => 4 | 0 => 0 | n => n, fun | n => n⟩
theorem Try.laysDelete : Go.Proofs.SlLaysH.n10 Try.prog Try.laysDelete_ren := {
  mixed := by kernel_rfl
  f6 := ⟨Try.f154.name, by decide, Try.func154.trans (congrArg some (by kernel_rfl))⟩
  f10 := ⟨Try.f127.name, by decide, Try.func127.trans (congrArg some (by kernel_rfl))⟩
  t0 := Try.underlying0
  a0 := Try.isAgg0
  z0 := Try.sizeOf0
  v0 := Try.zeroValue0
  t3 := Try.underlying3
  a3 := Try.isAgg3
  z3 := Try.sizeOf3
  v3 := Try.zeroValue3
  t4 := Try.underlying4
  a4 := Try.isAgg4
  z4 := Try.sizeOf4
  v4 := Try.zeroValue4
  t22 := Try.underlying22
  a22 := Try.isAgg22
  z22 := Try.sizeOf22
  v22 := Try.zeroValue22
  a23 := Try.isAgg3
  z23 := Try.sizeOf3
  t25 := Try.underlying62
  a25 := Try.isAgg62
  z25 := Try.sizeOf62
  v25 := Try.zeroValue62 }
def Try.laysIndexF_ren : Go.Shelf.Ren := ⟨fun | 6 => 154 | n => n, fun | 22 => 22 | 23 => 3 | 25 => 62 | 3 => 3 | 0 => 0 | 4 => 4 | n => n, fun | n => n⟩
theorem Try.laysIndexF : Go.Proofs.SlLaysH.n6 Try.prog Try.laysIndexF_ren := {
  mixed := by kernel_rfl
  f6 := ⟨Try.f154.name, by decide, Try.func154.trans (congrArg some (by kernel_rfl))⟩
  t0 := Try.underlying0
  a0 := Try.isAgg0
  z0 := Try.sizeOf0
  v0 := Try.zeroValue0
  t3 := Try.underlying3
  a3 := Try.isAgg3
  z3 := Try.sizeOf3
  v3 := Try.zeroValue3
  t4 := Try.underlying4
  a4 := Try.isAgg4
  z4 := Try.sizeOf4
  v4 := Try.zeroValue4
  t22 := Try.underlying22
  a22 := Try.isAgg22
  z22 := Try.sizeOf22
  v22 := Try.zeroValue22
  a23 := Try.isAgg3
  z23 := Try.sizeOf3
  t25 := Try.underlying62
  a25 := Try.isAgg62
  z25 := Try.sizeOf62
  v25 := Try.zeroValue62 }
end Go.Proofs
namespace Go.Proofs.Ytcmlflppndfdcaa
set_option linter.unusedVariables false
set_option linter.unusedSimpArgs false
open Go.RowKit Go.Sort

theorem grownBy_put (w : World) (q g : Nat) (d : Array Int) (os : Array Obj) : w.grownBy (grow (putRow (Value.int .i64) (Sort.ahead w q) g 0 d) os) (some g) := by
  refine ⟨rfl, rfl, rfl, by simp, fun k hk hne => ?_⟩
  rw [heap_grow_old _ _ (by simpa using hk)]
  have : g ≠ k := fun e => hne (by rw [e])
  simp [putRow, mapBlock, Sort.ahead, Array.getElem?_modify, this]
theorem grownBy_put0 (w : World) (q g : Nat) (d : Array Int) : w.grownBy (putRow (Value.int .i64) (Sort.ahead w q) g 0 d) (some g) := by
  refine ⟨rfl, rfl, rfl, by simp [putRow, mapBlock, Sort.ahead], fun k hk hne => ?_⟩
  have : g ≠ k := fun e => hne (by rw [e])
  simp [putRow, mapBlock, Sort.ahead, Array.getElem?_modify, this]
theorem owns_grow {w : World} {base n : Nat} {e : TypeId} {v : Value} {xs : List Value} (h : w.ownsRow base e 1 v n xs) (os : Array Obj) : (grow w os).ownsRow base e 1 v n xs := by
  refine h.kept (row := none) ⟨rfl, rfl, rfl, by simp, fun k hk _ => heap_grow_old _ _ hk⟩ ?_
  rcases h.2 with ⟨rfl, _⟩ | ⟨g, cap, cur, rfl, _⟩
  · exact .inl rfl
  · exact .inr (by simp [Value.ownBlock])

theorem sort_own (v : Value) (l : List Int) (base : Nat) (w : World) (hv : OwnI w base v l) :
    Calls Try.prog 126 #[v] w fun e w' => e = .returned (.tuple #[]) ∧ OwnI w' base v (l.mergeSort fun x y => decide (x ≤ y)) ∧ w.grownBy w' v.ownBlock := by
  obtain ⟨ho, hn, hr⟩ := hv
  have hr' : ∀ x ∈ l.mergeSort fun x y => decide (x ≤ y), I64 x := fun x hx => hr x (List.mem_mergeSort.1 hx)
  by_cases hv0 : v = .slice none 0 0
  · subst hv0
    have hl0 : l = [] := by
      rcases ho.2 with ⟨_, h⟩ | ⟨g, cap, cur, h, _⟩
      · exact List.eq_nil_of_length_eq_zero h
      · cases h
    subst hl0
    exact (AnyM.slices_Sort_int_none Try.laysSort none 0 w).mono fun e w' ⟨h1, h2⟩ => by
      subst h2
      exact ⟨h1, by simpa using OwnI.nil _ _, World.grownBy.refl _ _⟩
  · obtain ⟨g, cap, rfl, hg, hgl, hnc, hcm, _, hH⟩ := Lib.holds_of_ownsRow ho hv0
    refine (AnyM.slices_Sort_int Try.laysSort g 0 cap l w hH hgl (by omega)).mono ?_
    rintro e w' ⟨rfl, q, os, rfl⟩
    refine ⟨rfl, ⟨?_, by simpa using hn, hr'⟩, grownBy_put _ _ _ _ _⟩
    have h1 := Lib.ownsRow_putRow (q := q) (ys := l.mergeSort fun x y => decide (x ≤ y)) ho (by simp) (Nat.le_refl l.length)
    rw [List.take_of_length_le (by simp)] at h1
    have h2 := owns_grow h1 os
    simpa using h2
theorem compact_own (v : Value) (l : List Int) (base : Nat) (w : World) (hv : OwnI w base v l) :
    Calls Try.prog 128 #[v] w fun e w' => ∃ v', e = .returned v' ∧ OwnI w' base v' (Lib.compact l) ∧ v'.ownBlock = v.ownBlock ∧ w.grownBy w' v.ownBlock := by
  obtain ⟨ho, hn, hr⟩ := hv
  have hr' : ∀ x ∈ Lib.compact l, I64 x := fun x hx => by
    obtain ⟨j, hj, rfl⟩ := List.mem_map.1 hx
    have hj := List.mem_range.1 (List.mem_filter.1 hj).1
    have e : l.toArray[j]! = l[j] := by rw [getElem!_pos l.toArray j (by simpa using hj)]; simp
    rw [e]
    exact hr _ (List.getElem_mem hj)
  by_cases hv0 : v = .slice none 0 0
  · subst hv0
    have hl0 : l = [] := by
      rcases ho.2 with ⟨_, h⟩ | ⟨g, cap, cur, h, _⟩
      · exact List.eq_nil_of_length_eq_zero h
      · cases h
    subst hl0
    exact (Any.slices_Compact_int_empty Try.laysCompact none 0 w).mono fun e w' ⟨h1, h2⟩ => by
      subst h2
      exact ⟨_, h1, by simpa [Lib.compact, Lib.compactUpTo] using OwnI.nil _ _, rfl, World.grownBy.refl _ _⟩
  · obtain ⟨g, cap, rfl, hg, hgl, hnc, hcm, _, hH⟩ := Lib.holds_of_ownsRow ho hv0
    have hle := Lib.compact_length_le l
    refine (Any.slices_Compact_int Try.laysCompact g 0 cap l w hH (by omega) hnc).mono ?_
    rintro e w' ⟨rfl, q, rfl⟩
    refine ⟨_, rfl, ⟨?_, by omega, hr'⟩, rfl, grownBy_put0 _ _ _ _⟩
    have h1 := Lib.ownsRow_putRow (q := q) (k := (Lib.compact l).length) (ys := Lib.compact l ++ List.replicate (l.length - (Lib.compact l).length) 0) ho (by simp; omega) hle
    rw [List.take_left' rfl] at h1
    exact h1
theorem neg_fn (x : Int) (W : World) : FnGives Try.prog 129 #[] #[.int .i64 x] (.bool (decide (x < 0))) W := by
  show Calls Try.prog 129 #[.int .i64 x] W _
  go_enter Try.func129, Try.ntmps129
  go_wp2
  all_goals (go_ret; exact ⟨by simp_all, 0, rfl⟩)
theorem delete_own (v : Value) (l : List Int) (base : Nat) (w : World) (hv : OwnI w base v l) :
    Calls Try.prog 127 #[v, .func (.func 129) #[] #[]] w fun e w' => ∃ v', e = .returned v' ∧ OwnI w' base v' (l.filter fun x => !decide (x < 0)) ∧ v'.ownBlock = v.ownBlock ∧ w.grownBy w' v.ownBlock := by
  obtain ⟨ho, hn, hr⟩ := hv
  have hr' : ∀ x ∈ l.filter fun x => !decide (x < 0), I64 x := fun x hx => hr x (List.mem_filter.1 hx).1
  by_cases hv0 : v = .slice none 0 0
  · subst hv0
    have hl0 : l = [] := by
      rcases ho.2 with ⟨_, h⟩ | ⟨g, cap, cur, h, _⟩
      · exact List.eq_nil_of_length_eq_zero h
      · cases h
    subst hl0
    have hI := AnyE.slices_IndexFunc_empty Try.laysIndexF none 0 (.func (.func 129) #[] #[]) w
    change Calls Try.prog 154 _ _ _ at hI
    go_enter Try.func127, Try.ntmps127
    go_wp2_with fail
    refine hI.mono ?_; rintro e w1 ⟨rfl, rfl⟩
    clear hI
    go_wp2
    go_ret
    exact ⟨_, rfl, by simpa using OwnI.nil _ _, rfl, World.grownBy.refl _ _⟩
  · obtain ⟨g, cap, rfl, hg, hgl, hnc, hcm, _, hH⟩ := Lib.holds_of_ownsRow ho hv0
    have hle := List.length_filter_le (fun x => !decide (x < 0)) l
    have eg : ∀ args w, (callFunc 129 args).run Try.prog w = .ok (.enter 129 args) w := enters_of Try.func129 (by kernel_rfl) rfl
    refine (AnyE.slices_DeleteFunc Try.laysDelete (Value.int .i64) (fun _ => rfl) (fun x => decide (x < 0)) 129 #[] eg 0 Try.zeroValue3 g 0 cap l.toArray w (fun W x _ => neg_fn x W) (fun n os dk x _ => neg_fn x _) hH (by simp; omega) (by simpa using hnc)).mono ?_
    rintro e w' ⟨rfl, q, rfl⟩
    refine ⟨_, rfl, ⟨?_, by omega, hr'⟩, rfl, grownBy_put0 _ _ _ _⟩
    have h1 := Lib.ownsRow_putRow (q := q) (k := (l.filter fun x => !decide (x < 0)).length) (ys := (l.filter fun x => !decide (x < 0)) ++ List.replicate (l.length - (l.filter fun x => !decide (x < 0)).length) 0) ho (by simp; omega) hle
    rw [List.take_left' rfl] at h1
    exact h1

/-- what leasts makes of a list -/
def leastL (l : List Int) : List Int := (Lib.compact (l.mergeSort fun x y => decide (x ≤ y))).filter fun x => !decide (x < 0)
theorem leastL_asc (l : List Int) : asc (leastL l) ∧ ∀ x, x ∈ leastL l ↔ x ∈ l ∧ 0 ≤ x := by
  obtain ⟨zs, hz⟩ : ∃ zs, l.mergeSort (fun x y => decide (x ≤ y)) = zs := ⟨_, rfl⟩
  have hs : zs.Pairwise (· ≤ ·) := by
    have := List.pairwise_mergeSort (le := fun x y : Int => decide (x ≤ y)) (fun a b c h1 h2 => by simp only [decide_eq_true_eq] at *; omega) (fun a b => by simp only [Bool.or_eq_true, decide_eq_true_eq]; omega) l
    rw [hz] at this
    exact this.imp fun h => by simpa using h
  have hm : ∀ x, x ∈ zs ↔ x ∈ l := fun x => by rw [← hz]; exact List.mem_mergeSort
  have hg : ∀ j, (hj : j < zs.length) → zs.toArray[j]! = zs[j] := fun j hj => by rw [getElem!_pos zs.toArray j (by simpa using hj)]; simp
  have hp := List.pairwise_iff_getElem.1 hs
  have hca : asc (Lib.compact zs) := by
    unfold asc Lib.compact Lib.compactUpTo
    rw [List.pairwise_map]
    have h1 : ((List.range zs.length).filter (Lib.keeps zs.toArray)).Pairwise (fun a b => a < b ∧ b < zs.length ∧ Lib.keeps zs.toArray b = true) := by
      have h2 : ((List.range zs.length).filter (Lib.keeps zs.toArray)).Pairwise (· < ·) := List.Pairwise.filter _ List.pairwise_lt_range
      refine List.Pairwise.imp_of_mem ?_ h2
      intro a b ha hb hab
      obtain ⟨h3, h4⟩ := List.mem_filter.1 hb
      exact ⟨hab, List.mem_range.1 h3, h4⟩
    refine h1.imp ?_
    rintro a b ⟨hab, hb, hk⟩
    have hk : b = 0 ∨ zs.toArray[b]! ≠ zs.toArray[b - 1]! := by simpa [Lib.keeps] using hk
    rcases hk with hk | hk
    · omega
    · rw [hg b hb, hg (b - 1) (by omega)] at hk
      rw [hg b hb, hg a (by omega)]
      have h5 := hp (b - 1) b (by omega) hb (by omega)
      have h6 : zs[a] ≤ zs[b - 1] := by
        by_cases e : a = b - 1
        · subst e; omega
        · exact hp a (b - 1) (by omega) (by omega) (by omega)
      omega
  have hcm : ∀ x, x ∈ Lib.compact zs ↔ x ∈ zs := by
    intro x
    unfold Lib.compact Lib.compactUpTo
    rw [List.mem_map]
    constructor
    · rintro ⟨j, hj, rfl⟩
      have hj := List.mem_range.1 (List.mem_filter.1 hj).1
      rw [hg j hj]; exact List.getElem_mem hj
    · intro hx
      obtain ⟨i, hi⟩ := List.mem_iff_getElem?.1 hx
      have : ∀ i : Nat, zs[i]? = some x → ∃ j, j ∈ (List.range zs.length).filter (Lib.keeps zs.toArray) ∧ zs.toArray[j]! = x := by
        intro i
        induction i with
        | zero =>
          intro h
          have hl := lt_of_some h
          exact ⟨0, List.mem_filter.2 ⟨List.mem_range.2 hl, by simp [Lib.keeps]⟩, by rw [hg 0 hl]; rw [List.getElem?_eq_getElem hl] at h; injection h⟩
        | succ i ih =>
          intro h
          have hl := lt_of_some h
          rw [List.getElem?_eq_getElem hl] at h
          injection h with h
          by_cases e : zs[i] = x
          · exact ih (by rw [List.getElem?_eq_getElem (by omega), e])
          · refine ⟨i + 1, List.mem_filter.2 ⟨List.mem_range.2 hl, ?_⟩, by rw [hg _ hl]; exact h⟩
            simp only [Lib.keeps, decide_eq_true_eq]
            right
            rw [hg _ hl, hg _ (show i + 1 - 1 < zs.length by omega), h]
            exact fun e2 => e e2.symm
      exact this i hi
  unfold leastL
  rw [hz]
  refine ⟨List.Pairwise.filter _ hca, fun x => ?_⟩
  rw [List.mem_filter, hcm, hm]
  simp
theorem leasts_any (u : Value) (l : List Int) (w : World) (hu : SlI w w.heap.size u l) :
    Calls Try.prog 84 #[u] w fun e w' => ∃ v, e = .returned v ∧ IntsO w' w.heap.size w'.heap.size v (leastL l) ∧ Below w.heap.size w w' := by
  obtain ⟨A, c, rfl, _, _, hn, hx⟩ := hu.open_
  clear hu
  go_enter Try.func84, Try.ntmps84
  go_wp2_with fail
  refine (clone_own _ _ _ hx).mono ?_; rintro e w1 ⟨v, rfl, ho, hb1⟩
  have ho := ho.1
  obtain ⟨A1, c1, rfl, _, _⟩ := ho.form
  go_wp2_with fail
  refine (sort_own _ _ _ _ ho).mono ?_; rintro e w2 ⟨rfl, ho2, hg2⟩
  have hb2 := hb1.grown hg2 hb1.size (fun j hj => (ho.lt j hj).1)
  obtain ⟨A2, c2, e2, _, _⟩ := ho2.form
  have E2 := Lib.hid e2
  clear e2 hg2 ho hb1
  go_wp2_with fail
  refine (compact_own _ _ _ _ ho2).mono ?_; rintro e w3 ⟨v3, rfl, ho3, hv3, hg3⟩
  have hb3 := hb2.grown hg3 hb2.size (fun j hj => (ho2.lt j hj).1)
  clear hg3 hb2 hv3 ho2
  obtain ⟨A3, c3, rfl, _, _⟩ := ho3.form
  go_wp2_with fail
  refine (delete_own _ _ _ _ ho3).mono ?_; rintro e w4 ⟨v4, rfl, ho4, hv4, hg4⟩
  have hb4 := hb3.grown hg4 hb3.size (fun j hj => (ho3.lt j hj).1)
  clear hg4 hb3 hv4 ho3
  obtain ⟨A4, c4, rfl, _, _⟩ := ho4.form
  go_wp2
  go_ret
  exact ⟨_, rfl, IntsO.of_own ho4, hb4⟩
end Go.Proofs.Ytcmlflppndfdcaa

/- CountComponents: both. -/
namespace Go.Proofs.Ytcmlflppndfdcaa
set_option linter.unusedVariables false
set_option linter.unusedSimpArgs false
open Go.RowKit

def rootsTo (l : List Int) (k : Nat) : List Int := ((List.range k).filter fun i => decide (l.getD i 0 = (i : Int))).map fun i : Nat => (i : Int)
theorem rootsTo_yes {l : List Int} {k : Nat} (h : l[k]? = some (k : Int)) : rootsTo l (k + 1) = rootsTo l k ++ [(k : Int)] := by
  simp [rootsTo, List.range_succ, List.filter_append, List.getD_eq_getElem?_getD, h]
theorem rootsTo_no {l : List Int} {k : Nat} {x : Int} (h : l[k]? = some x) (hx : x ≠ k) : rootsTo l (k + 1) = rootsTo l k := by
  simp [rootsTo, List.range_succ, List.filter_append, List.getD_eq_getElem?_getD, h, hx]
theorem rootsTo_length (l : List Int) (k : Nat) : (rootsTo l k).length ≤ k := by
  have := List.length_filter_le (fun i => decide (l.getD i 0 = (i : Int))) (List.range k)
  rw [List.length_range] at this
  simpa [rootsTo] using this

set_option maxHeartbeats 800000 in
theorem l24Roots_any (u : Value) (l : List Int) (w : World) (hu : SlI w w.heap.size u l) :
    Calls Try.prog 76 #[u] w fun e w' => ∃ v, e = .returned v ∧ IntsO w' w.heap.size w'.heap.size v (rootsC l) ∧ Below w.heap.size w w' := by
  obtain ⟨A, c, rfl, _, _, hn, hx⟩ := hu.open_
  clear hu
  have g0 := below_alloc w (.cells #[] 3)
  have ho0 : OwnI (w.alloc (.cells #[] 3)) w.heap.size (.slice (some ⟨w.heap.size, 0, none⟩) 0 0) (rootsTo l 0) := OwnI.made 3 rfl (Nat.le_refl _)
  go_enter Try.func76, Try.ntmps76
  go_wp2
  go_loopw [3, 4] (fun a i wr => ∃ k : Nat, k ≤ l.length ∧ i = .int .i64 k ∧ OwnI wr w.heap.size a (rootsTo l k) ∧ Below w.heap.size w wr) (fun _ i _ => l.length - (intOf i).toNat)
  case atStart => exact ⟨0, Nat.zero_le _, rfl, ho0, g0⟩
  case round =>
    clear g0 ho0
    obtain ⟨k, hk, rfl, hown, hbel⟩ := hrel
    have HLK := Lib.hid (rootsTo_length l k)
    obtain ⟨ol, hol⟩ : ∃ ol, rootsTo l k = ol := ⟨_, rfl⟩
    rw [hol] at hown HLK
    have HOL := Lib.hid hol
    clear hol
    obtain ⟨OA, oc, rfl, _, _⟩ := hown.form
    by_cases hlt : k < l.length
    · obtain ⟨b, o, x, rfl, hb, HX, x1, _⟩ := SlI.at_ hx hlt
      have x2 := bcell hbel hb x1
      clear x1
      by_cases he : x = (k : Int)
      · subst he
        have hko := hown.alloc (.cells #[.int .i64 k] 3)
        have hst : Hid (ol ++ [(k : Int)] = rootsTo l (k + 1)) := by show _ = _; rw [rootsTo_yes HX.out, HOL.out]
        (go_wp2_with (at_builtin; refine Hold.stop ?_)); unfold Hold
        refine wpList_appI rfl (.tmp 18) (.tmp 20) rfl w.heap.size _ (.slice OA ol.length oc) ol rfl hko _ _ _ [(k : Int)] rfl rfl (SlI.one wr _ (k) ⟨by omega, by omega⟩) (by have := HLK.out; simp only [List.length_singleton]; omega) (by have := hbel.size; simp; omega) ?_
        intro v1 w3 ho1 hg1 hv1
        rw [hst.out] at ho1
        have hb3 := (hbel.alloc hbel.size (.cells #[.int .i64 k] 3)).grown hg1 (by have := hbel.size; simp; omega) (fun j hj => (hko.lt j hj).1)
        clear hko hg1 hv1 hown hbel
        go_wp2
        go_roundw
        case rel => exact ⟨k + 1, by omega, by go_num, ho1, hb3⟩
        case measure => simp [intOf]; omega
      · have hst : Hid (ol = rootsTo l (k + 1)) := by show _ = _; rw [rootsTo_no HX.out he, HOL.out]
        have he' : (x == (k : Int)) = false := by simpa using he
        go_wp2
        go_roundw
        case rel => exact ⟨k + 1, by omega, by go_num, by rw [← hst.out]; exact hown, hbel⟩
        case measure => simp [intOf]; omega
    · obtain rfl : k = l.length := by omega
      go_wp2
      go_ret
      refine ⟨_, rfl, ?_, hbel⟩
      have : rootsC l = ol := HOL.out
      rw [this]
      exact IntsO.of_own hown

/-- how many parts at a stage -/
def cntQ (q : Filt) (t : Int) : Nat := (rootsC (compsQ q t)).length
theorem leastL_comps (q : Filt) (t : Int) : leastL (compsQ q t) = rootsC (compsQ q t) := by
  obtain ⟨h1, h2⟩ := leastL_asc (compsQ q t)
  unfold compsQ at h1 h2 ⊢
  split at h1
  · rename_i h
    rw [if_pos h] at h2 ⊢
    rw [Bool.and_eq_true] at h
    exact leasts_eq h.1 h1 h2
  · rename_i h
    rw [if_neg h]
    simp [leastL, Lib.compact, Lib.compactUpTo, rootsC]

theorem implCountComponents_any (u : Value) (q : Filt) (t : Int) (w : World) (hu : FiR w w.heap.size u q) (ht : I64 t) :
    Calls Try.prog 80 #[u, .int .i64 t] w fun e w' => e = .returned (.int .i64 (cntQ q t)) ∧ Below w.heap.size w w' := by
  obtain ⟨A, c, C, d, e0, _⟩ := hu.open_
  subst e0
  have g0 := below_alloc w (.cells #[.int .i64 q.stages, .slice A q.birth.length c, .slice C q.ends.length d] 56)
  have h1 := hu.next g0
  clear hu
  go_enter Try.func80, Try.ntmps80
  go_wp2_with fail
  refine (implComponentsAt_any _ q t _ h1 ht).mono ?_; rintro e w1 ⟨v, rfl, ho, hb1⟩
  obtain ⟨A1, c1, rfl, _, _⟩ := ho.1.form
  have g1 := bthen g0 hb1
  go_wp2_with fail
  refine (leasts_any _ (compsQ q t) _ ho.rd).mono ?_; rintro e w2 ⟨v, rfl, ho2, hb2⟩
  rw [leastL_comps] at ho2
  obtain ⟨A2, c2, rfl, _, _⟩ := ho2.1.form
  have g2 := bthen g1 hb2
  go_wp2
  go_ret
  exact ⟨rfl, g2⟩
theorem specCountComponents_any (u : Value) (q : Filt) (t : Int) (w : World) (hu : FiR w w.heap.size u q) (ht : I64 t) :
    Calls Try.prog 75 #[u, .int .i64 t] w fun e w' => e = .returned (.int .i64 (cntQ q t)) ∧ Below w.heap.size w w' := by
  obtain ⟨A, c, C, d, e0, _⟩ := hu.open_
  subst e0
  have g0 := below_alloc w (.cells #[.int .i64 q.stages, .slice A q.birth.length c, .slice C q.ends.length d] 56)
  have h1 := hu.next g0
  clear hu
  go_enter Try.func75, Try.ntmps75
  go_wp2_with fail
  refine (specComponentsAt_any _ q t _ h1 ht).mono ?_; rintro e w1 ⟨v, rfl, ho, hb1⟩
  obtain ⟨A1, c1, rfl, _, _⟩ := ho.1.form
  have g1 := bthen g0 hb1
  go_wp2_with fail
  refine (l24Roots_any _ (compsQ q t) _ ho.rd).mono ?_; rintro e w2 ⟨v, rfl, ho2, hb2⟩
  obtain ⟨A2, c2, rfl, _, _⟩ := ho2.1.form
  have g2 := bthen g1 hb2
  go_wp2
  go_ret
  exact ⟨rfl, g2⟩
end Go.Proofs.Ytcmlflppndfdcaa

/- The representation of a graph that grows, plain. -/
namespace Go.Proofs.Ytcmlflppndfdcaa
set_option linter.unusedVariables false
set_option linter.unusedSimpArgs false
open Go.RowKit

def rtQ (q : Filt) (t : Nat) : List Int := rootsC (compQ q (t : Int))
def nxQ (q : Filt) (t i : Nat) : Int := (compQ q ((t : Int) + 1)).getD ((rtQ q t).getD i 0).toNat 0
def frF (q : Filt) (t k i : Nat) : Int := if nxQ q t i = (rtQ q (t + 1)).getD k 0 then 1 else 0
def frD (q : Filt) : List Int := rowF q.stages.toNat fun t => ((rtQ q t).length : Int)
theorem rtQ_next (q : Filt) (t : Nat) : rtQ q (t + 1) = rootsC (compQ q ((t : Int) + 1)) := by rw [rtQ, Int.natCast_add]; rfl
theorem rtQ_le (q : Filt) (t : Nat) : (rtQ q t).length ≤ q.birth.length := by
  have h := List.length_filter_le (fun i => decide ((compQ q (t : Int)).getD i 0 = (i : Int))) (List.range (compQ q (t : Int)).length)
  rw [List.length_range] at h
  refine Nat.le_trans ?_ (Nat.le_of_eq (compQ_length q (t : Int)))
  simpa [rtQ, rootsC] using h
theorem asc_get {l : List Int} (h : asc l) {i j : Nat} {x y : Int} (hx : l[i]? = some x) (hy : l[j]? = some y) (hij : i < j) : x < y := by
  have hi := lt_of_some hx
  have hj := lt_of_some hy
  have := List.pairwise_iff_getElem.1 h i j hi hj hij
  rw [List.getElem?_eq_getElem hi] at hx
  rw [List.getElem?_eq_getElem hj] at hy
  injection hx with hx
  injection hy with hy
  omega
/-- the part that a part becomes -/
theorem fr_row {q : Filt} (hq : isF q = true) {t i : Nat} (hi : i < (rtQ q t).length) : ∃ (pt r : Nat), (rtQ q t)[i]? = some (pt : Int) ∧ pt < q.birth.length ∧ (compQ q ((t : Int) + 1))[pt]? = some (nxQ q t i) ∧ (rtQ q (t + 1))[r]? = some (nxQ q t i) ∧ fidx (fun x => nxQ q t i == x) (rtQ q (t + 1)) = r ∧ ∀ k, k < (rtQ q (t + 1)).length → (frF q t k i = if k = r then 1 else 0) := by
  obtain ⟨x, hx⟩ : ∃ x, (rtQ q t)[i]? = some x := ⟨_, List.getElem?_eq_getElem hi⟩
  obtain ⟨pt, rfl, hpl, hpt⟩ := (rootsC_mem _ _).1 (List.mem_of_getElem? hx)
  rw [compQ_length] at hpl
  have hpl2 : pt < (compQ q ((t : Int) + 1)).length := by rw [compQ_length]; exact hpl
  have e1 : (rtQ q t).getD i 0 = (pt : Int) := by rw [List.getD_eq_getElem?_getD, hx]; rfl
  have hnx : (compQ q ((t : Int) + 1))[pt]? = some (nxQ q t i) := by
    rw [nxQ, e1, Int.toNat_natCast, List.getD_eq_getElem?_getD, List.getElem?_eq_getElem hpl2]; rfl
  have hb : q.birth.getD pt 0 ≤ (t : Int) := by
    rcases compQ_root hq hpl (t := (t : Int)) with ⟨h1, _⟩ | ⟨h1, _⟩
    · have : gt (compQ q (t : Int)) pt = (pt : Int) := hpt
      omega
    · exact h1
  have h0 : 0 ≤ nxQ q t i := by
    have hg : gt (compQ q ((t : Int) + 1)) pt = nxQ q t i := by rw [gt, List.getD_eq_getElem?_getD, hnx]; rfl
    rcases compQ_root hq hpl (t := (t : Int) + 1) with ⟨_, h1⟩ | ⟨_, l, h1, _⟩
    · omega
    · omega
  have hmem : nxQ q t i ∈ rtQ q (t + 1) := by
    rw [rtQ_next]
    exact (compQ_vals hq _).1 ⟨List.mem_of_getElem? hnx, h0⟩
  obtain ⟨r, hr⟩ := List.mem_iff_getElem?.1 hmem
  have hasc : asc (rtQ q (t + 1)) := by rw [rtQ_next]; exact rootsC_asc _
  refine ⟨pt, r, hx, hpl, hnx, hr, fidx_some hr (by simp) fun y hy => ?_, fun k hk => ?_⟩
  · obtain ⟨j, hj⟩ := List.mem_iff_getElem?.1 hy
    rw [List.getElem?_take] at hj
    split at hj
    · rename_i hjr
      have := asc_get hasc hj hr hjr
      rw [beq_eq_false_iff_ne]
      omega
    · cases hj
  · obtain ⟨z, hz⟩ : ∃ z, (rtQ q (t + 1))[k]? = some z := ⟨_, List.getElem?_eq_getElem hk⟩
    have ez : (rtQ q (t + 1)).getD k 0 = z := by rw [List.getD_eq_getElem?_getD, hz]; rfl
    rw [frF, ez]
    by_cases e : k = r
    · subst e
      rw [hr] at hz
      injection hz with hz
      rw [if_pos hz, if_pos rfl]
    · rw [if_neg e, if_neg]
      intro e2
      rcases Nat.lt_or_ge k r with h | h
      · have := asc_get hasc hz hr h; omega
      · have := asc_get hasc hr hz (by omega); omega
/-- columns below m -/
def frJ (q : Filt) (t m k i : Nat) : Int := if i < m then frF q t k i else 0
def frI (q : Filt) (t a b k i : Nat) : Int := if i < a ∨ (i = a ∧ k < b) then frF q t k i else 0
theorem frJ_put {q : Filt} {t m r R C : Nat} (hm : m < C) (hr : r < R) (h : ∀ k, k < R → (frF q t k m = if k = r then 1 else 0)) : (flat R C (frJ q t m)).set (r * C + m) 1 = flat R C (frJ q t (m + 1)) := by
  rw [flat_set _ _ hr hm]
  refine flat_congr fun a b ha _ => ?_
  unfold frJ
  by_cases e : b = m
  · subst e
    rw [if_pos (show b < b + 1 by omega), h a ha, if_neg (show ¬ b < b by omega)]
    by_cases e2 : a = r
    · rw [if_pos ⟨e2, rfl⟩, if_pos e2]
    · rw [if_neg fun e3 => e2 e3.1, if_neg e2]
  · rw [if_neg fun e3 => e e3.2]
    by_cases e2 : b < m
    · rw [if_pos e2, if_pos (by omega)]
    · rw [if_neg e2, if_neg (by omega)]
theorem frI_put {q : Filt} {t a b R C : Nat} (ha : a < C) (hb : b < R) (h : frF q t b a = 1) : (flat R C (frI q t a b)).set (b * C + a) 1 = flat R C (frI q t a (b + 1)) := by
  rw [flat_set _ _ hb ha]
  refine flat_congr fun k i _ _ => ?_
  unfold frI
  by_cases e : k = b ∧ i = a
  · obtain ⟨rfl, rfl⟩ := e
    rw [if_pos ⟨rfl, rfl⟩, if_pos (by omega), h]
  · rw [if_neg e]
    by_cases e2 : i < a ∨ (i = a ∧ k < b)
    · rw [if_pos e2, if_pos (by omega)]
    · rw [if_neg e2, if_neg (by omega)]
theorem frI_no {q : Filt} {t a b R C : Nat} (h : frF q t b a = 0) : flat R C (frI q t a b) = flat R C (frI q t a (b + 1)) := flat_congr fun k i _ _ => by
  unfold frI
  by_cases e : k = b ∧ i = a
  · obtain ⟨rfl, rfl⟩ := e
    rw [if_neg (by omega), if_pos (by omega), h]
  · by_cases e2 : i < a ∨ (i = a ∧ k < b)
    · rw [if_pos e2, if_pos (by omega)]
    · rw [if_neg e2, if_neg (by omega)]
theorem frI_next (q : Filt) (t a R C : Nat) : flat R C (frI q t a R) = flat R C (frI q t (a + 1) 0) := flat_congr fun k i hk _ => by
  unfold frI
  by_cases e2 : i < a ∨ (i = a ∧ k < R)
  · rw [if_pos e2, if_pos (by omega)]
  · rw [if_neg e2, if_neg (by omega)]
/-- the matrices: those before t done, the one at t under way -/
def frS (q : Filt) (t : Nat) (g : Nat → Nat → Int) (i : Nat) : Mx := mxF (rtQ q (i + 1)).length (rtQ q i).length (if i < t then frF q i else if i = t then g else fun _ _ => 0)
theorem frS_at (q : Filt) (t : Nat) (g : Nat → Nat → Int) {n : Nat} (h : t < n) : (msF n (frS q t g))[t]? = some (mxF (rtQ q (t + 1)).length (rtQ q t).length g) := by
  rw [msF_get _ h, frS, if_neg (Nat.lt_irrefl t), if_pos rfl]
theorem frS_set (q : Filt) (t n : Nat) (g : Nat → Nat → Int) {g' : Nat → Nat → Int} {l : List Int} (hl : l = flat (rtQ q (t + 1)).length (rtQ q t).length g') : (msF n (frS q t g)).set t ⟨((rtQ q (t + 1)).length : Int), ((rtQ q t).length : Int), l⟩ = msF n (frS q t g') := by
  rw [msF_set]
  refine msF_congr fun i _ => ?_
  by_cases e : i = t
  · subst e
    rw [if_pos rfl, frS, if_neg (Nat.lt_irrefl i), if_pos rfl, hl]; rfl
  · rw [if_neg e]
    unfold frS
    rw [if_neg e, if_neg e]
theorem frS_congr (q : Filt) (t n : Nat) {g g' : Nat → Nat → Int} (h : flat (rtQ q (t + 1)).length (rtQ q t).length g = flat (rtQ q (t + 1)).length (rtQ q t).length g') : msF n (frS q t g) = msF n (frS q t g') := msF_congr fun i _ => by
  unfold frS
  by_cases e : i = t
  · subst e
    rw [if_neg (Nat.lt_irrefl i), if_pos rfl, if_neg (Nat.lt_irrefl i), if_pos rfl, mxF, mxF, h]
  · rw [if_neg e, if_neg e]
theorem frS_next (q : Filt) (t n : Nat) {g g' : Nat → Nat → Int} (hg : ∀ k i, k < (rtQ q (t + 1)).length → i < (rtQ q t).length → g k i = frF q t k i) (hg' : ∀ k i, g' k i = 0) : msF n (frS q t g) = msF n (frS q (t + 1) g') := msF_congr fun i _ => by
  refine mxF_congr fun a b ha hb => ?_
  by_cases e : i < t
  · rw [if_pos e, if_pos (by omega)]
  · rw [if_neg e]
    by_cases e2 : i = t
    · subst e2
      rw [if_pos rfl, if_pos (by omega)]
      exact hg a b ha hb
    · rw [if_neg e2, if_neg (by omega)]
      by_cases e3 : i = t + 1
      · rw [if_pos e3, hg']
      · rw [if_neg e3]
theorem frJ_0 (q : Filt) (t k i : Nat) : frJ q t 0 k i = 0 := by simp [frJ]
theorem frI_0 (q : Filt) (t k i : Nat) : frI q t 0 0 k i = 0 := by simp [frI]
theorem line_at {n : Int} (h : inR n 1 5 = true) {i : Nat} (hi : i < (lineQ n).f.length) : (lineQ n).f.getD i 0 = (i : Int) ∧ (lineQ n).t.getD i 0 = ((i + 1 : Nat) : Int) ∧ i + 1 < n.toNat := by
  have := inR_t.1 h
  have : n = 1 ∨ n = 2 ∨ n = 3 ∨ n = 4 ∨ n = 5 := by omega
  rcases this with rfl | rfl | rfl | rfl | rfl
  · exact absurd (show i < 0 from hi) (by omega)
  · have hi : i < 1 := hi
    obtain rfl : i = 0 := by omega
    exact ⟨by decide, by decide, by decide⟩
  · have hi : i < 2 := hi
    have : i = 0 ∨ i = 1 := by omega
    rcases this with rfl | rfl <;> exact ⟨by decide, by decide, by decide⟩
  · have hi : i < 3 := hi
    have : i = 0 ∨ i = 1 ∨ i = 2 := by omega
    rcases this with rfl | rfl | rfl <;> exact ⟨by decide, by decide, by decide⟩
  · have hi : i < 4 := hi
    have : i = 0 ∨ i = 1 ∨ i = 2 ∨ i = 3 := by omega
    rcases this with rfl | rfl | rfl | rfl <;> exact ⟨by decide, by decide, by decide⟩
theorem line_len {n : Int} (h : inR n 1 5 = true) : (lineQ n).f.length + 1 = n.toNat ∧ (lineQ n).t.length = (lineQ n).f.length ∧ (lineQ n).v = n := by
  have := inR_t.1 h
  have : n = 1 ∨ n = 2 ∨ n = 3 ∨ n = 4 ∨ n = 5 := by omega
  rcases this with rfl | rfl | rfl | rfl | rfl <;> exact ⟨by decide, by decide, by decide⟩
theorem frZ {q : Filt} (h : inR q.stages 1 5 = true) {g : Nat → Nat → Int} (hg : ∀ k i, g k i = 0) : zms (lineQ q.stages) (frD q) (lineQ q.stages).f.length = msF (lineQ q.stages).f.length (frS q 0 g) := by
  rw [zms_F]
  refine msF_congr fun i hi => ?_
  obtain ⟨h1, h2, h3⟩ := line_at h hi
  have d1 : dAt (frD q) ((i + 1 : Nat) : Int) = ((rtQ q (i + 1)).length : Int) := by rw [dAt, Int.toNat_natCast, frD, rowF_getD _ (by omega)]
  have d2 : dAt (frD q) (i : Int) = ((rtQ q i).length : Int) := by rw [dAt, Int.toNat_natCast, frD, rowF_getD _ (by omega)]
  rw [zmAt, h1, h2, d1, d2, zmx_flat, frS]
  refine mxF_congr fun a b _ _ => ?_
  rw [if_neg (by omega)]
  split
  · rw [hg]
  · rfl
/-- the representation -/
def frR (p : Int) (q : Filt) : Rp := ⟨p, lineQ q.stages, frD q, msF (lineQ q.stages).f.length fun i => mxF (rtQ q (i + 1)).length (rtQ q i).length (frF q i)⟩
def frOk (p : Int) (q : Filt) : Bool := isFld p && isF q
def frP (p : Int) (q : Filt) : Rp × Bool := if frOk p q && areDims (lineQ q.stages) (frD q) then (frR p q, true) else (rp0, false)
theorem frP_no {p : Int} {q : Filt} (h : frOk p q = false) : frP p q = (rp0, false) := by simp [frP, h]
theorem frP_big {p : Int} {q : Filt} (h : areDims (lineQ q.stages) (frD q) = false) : frP p q = (rp0, false) := by simp [frP, h]
theorem frP_yes {p : Int} {q : Filt} (h : frOk p q = true) (h2 : areDims (lineQ q.stages) (frD q) = true) : frP p q = (frR p q, true) := by simp [frP, h, h2]
theorem frS_end (q : Filt) (n : Nat) (g : Nat → Nat → Int) : msF n (frS q n g) = msF n fun i => mxF (rtQ q (i + 1)).length (rtQ q i).length (frF q i) := msF_congr fun i hi => by rw [frS, if_pos hi]
theorem cnt_rt {q : Filt} (hq : isF q = true) {t : Nat} (ht : (t : Int) ≤ q.stages - 1) : cntQ q (t : Int) = (rtQ q t).length := by
  rw [cntQ, compsQ, if_pos (by rw [hq, inR_t.2 ⟨by omega, ht⟩]; rfl)]; rfl
theorem comps_rt {q : Filt} (hq : isF q = true) {t : Int} (h0 : 0 ≤ t) (ht : t ≤ q.stages - 1) : compsQ q t = compQ q t := by
  rw [compsQ, if_pos (by rw [hq, inR_t.2 ⟨h0, ht⟩]; rfl)]
theorem least_rt {q : Filt} (hq : isF q = true) {t : Int} (h0 : 0 ≤ t) (ht : t ≤ q.stages - 1) : leastL (compQ q t) = rootsC (compQ q t) := by
  have := leastL_comps q t
  rwa [comps_rt hq h0 ht] at this
end Go.Proofs.Ytcmlflppndfdcaa

/- The program's FiltrationRep. -/
namespace Go.Proofs.Ytcmlflppndfdcaa
set_option linter.unusedVariables false
set_option linter.unusedSimpArgs false
open Go.RowKit

theorem cell_chg {w w' : World} {g i lo hi : Nat} {v : Value} {t : TypeId} {cs : Array Value} (h : Chg lo hi w w') (hb : Blk w g t cs) (hg : g < lo ∨ hi ≤ g) (hc : w.cell? ⟨g, i, none⟩ = some v) : w'.cell? ⟨g, i, none⟩ = some v := by
  rw [(hb.chg h hg).cell]
  rwa [hb.cell] at hc
theorem ixR {i k r c P : Nat} (hi : i < r) (hk : k < c) (hr : r ≤ 4) (hc : c ≤ 4) (hP : P = i * c) : wrap64 ((i : Int) * (c : Int)) = (P : Int) ∧ wrap64 (((i : Int) + 1) * (c : Int)) = ((P + c : Nat) : Int) ∧ P + c ≤ r * c ∧ P + k < r * c ∧ r * c ≤ 16 := by
  have h1 : (i + 1) * c ≤ r * c := Nat.mul_le_mul_right _ hi
  have h2 : r * c ≤ 4 * 4 := Nat.mul_le_mul hr hc
  have h3 : (i + 1) * c = i * c + c := by rw [Nat.add_mul, Nat.one_mul]
  refine ⟨?_, ?_, by omega, by omega, by omega⟩
  · rw [show ((i : Int) * (c : Int)) = ((i * c : Nat) : Int) by simp, ← hP]
    exact IntWalk.wrap64_in _ ⟨by omega, by omega⟩
  · rw [show (((i : Int) + 1) * (c : Int)) = (((i + 1) * c : Nat) : Int) by simp, h3, ← hP]
    exact IntWalk.wrap64_in _ ⟨by omega, by omega⟩
theorem RepO.mForm {w : World} {lo hi n hm : Nat} {p v : Int} {f t d : Value} {HM : Option Addr} {x : Rp} (h : RepO w lo hi (.agg #[.int .i64 p, .int .i64 v, f, t, d, .slice HM n hm]) x) : x.m.length ≤ hm ∧ hm ≤ 9223372036854775807 := by
  obtain ⟨f1, t1, d1, m1, vs, e, hO, _⟩ := h
  simp only [Value.agg.injEq, Array.mk.injEq, List.cons.injEq, and_true] at e
  obtain ⟨_, _, rfl, rfl, rfl, rfl⟩ := e
  obtain ⟨A, c, e, h1, h2⟩ := RowO.form hO
  injection e with _ _ e3
  subst e3
  exact ⟨h1, h2⟩
set_option maxHeartbeats 6400000 in
set_option maxRecDepth 100000 in
theorem implFiltrationRep_any (p : Int) (u : Value) (q : Filt) (w0 : World) (hp : I64 p) (hu : FiR w0 w0.heap.size u q) :
    Calls Try.prog 29 #[.int .i64 p, u] w0 fun e w' => ∃ r, e = .returned (.tuple #[r, .bool (frP p q).2]) ∧ RepO w' w0.heap.size w'.heap.size r (frP p q).1 ∧ Below w0.heap.size w0 w' := by
  have hu' := hu
  obtain ⟨A, c, C, d, rfl, hf, hT, hr, lf, lt⟩ := hu.open_
  clear hu hf hT
  obtain ⟨W, hW⟩ : ∃ W, W = (w0.alloc (.cells #[.int .i64 q.stages, .slice A q.birth.length c, .slice C q.ends.length d] 56)).alloc (.cells #[.int .i64 0, .int .i64 0, .slice none 0 0, .slice none 0 0, .slice none 0 0, .slice none 0 0] 31) := ⟨_, rfl⟩
  have g0 : Below w0.heap.size w0 W := by rw [hW]; exact ((Below.refl _ _).alloc (Nat.le_refl _) _).alloc (by simp) _
  have k1 : Blk W w0.heap.size 56 #[.int .i64 q.stages, .slice A q.birth.length c, .slice C q.ends.length d] := by rw [hW]; exact (Blk.new _ _ _).alloc _
  have k2 : Blk W (w0.heap.size + 1) 31 #[.int .i64 0, .int .i64 0, .slice none 0 0, .slice none 0 0, .slice none 0 0, .slice none 0 0] := by
    rw [hW]
    have := Blk.new (w0.alloc (.cells #[.int .i64 q.stages, .slice A q.birth.length c, .slice C q.ends.length d] 56)) 31 #[.int .i64 0, .int .i64 0, .slice none 0 0, .slice none 0 0, .slice none 0 0, .slice none 0 0]
    simpa only [World.size_alloc] using this
  have sz : W.heap.size = w0.heap.size + 1 + 1 := by rw [hW]; simp
  have SZ := Lib.hid sz
  have HFI := Lib.hid (FiR.next g0 hu')
  have c0 := k1.cell' (i := 0) rfl
  have c1 := k1.cell' (i := 1) rfl
  have c2 := k1.cell' (i := 2) rfl
  clear hu' sz
  rcases h1 : isFld p with _ | _
  · have HE := Lib.hid (frP_no (p := p) (q := q) (by rw [frOk, h1]; rfl))
    have H1 := Lib.hid h1
    have GW := Lib.hid (Below.refl W.heap.size W)
    clear h1
    go_enter Try.func29, Try.ntmps29
    go_wp2_with fail
    rw [← hW]; clear hW
    refine (implIsField_any _ _).mono ?_; rintro e w3 ⟨rfl, hww⟩
    replace hww := hww.symm
    subst hww
    rw [H1.out]
    have kz := k2.call GW.out
    have fr := kz.frozen
    have s0 := kz.cell' (i := 0) rfl
    have s1 := kz.cell' (i := 1) rfl
    have s2 := kz.cell' (i := 2) rfl
    have s3 := kz.cell' (i := 3) rfl
    have s4 := kz.cell' (i := 4) rfl
    have s5 := kz.cell' (i := 5) rfl
    have gf := g0.trans (GW.out.mono g0.size)
    have GF := Lib.hid gf
    clear kz gf
    go_wp2
    have gf := GF.out
    have hE := HE.out
    exact bodyPost_ret (v := .tuple #[.agg #[.int .i64 0, .int .i64 0, .slice none 0 0, .slice none 0 0, .slice none 0 0, .slice none 0 0], .bool false]) (by simp [results, go_sem, s0, s1, s2, s3, s4, s5]) rfl ⟨_, by rw [hE], by rw [hE]; exact RepO.zero _ _ _, (((((gf.setCell (by simp) _).setCell (by simp) _).setCell (by simp) _).setCell (by simp) _).setCell (by simp) _).setCell (by simp) _⟩
  rcases h2 : isF q with _ | _
  · have HE := Lib.hid (frP_no (p := p) (q := q) (by rw [frOk, h1, h2]; rfl))
    have H1 := Lib.hid h1
    have H2 := Lib.hid h2
    clear h1 h2
    go_enter Try.func29, Try.ntmps29
    go_wp2_with fail
    rw [← hW]; clear hW
    refine (implIsField_any _ _).mono ?_; rintro e w3 ⟨rfl, hww⟩
    replace hww := hww.symm
    subst hww
    rw [H1.out]
    go_wp2_with fail
    refine (implIsFiltration_any _ q _ HFI.out).mono ?_; rintro e w3 ⟨rfl, hb3⟩
    rw [H2.out]
    have GW := Lib.hid hb3
    clear hb3 c0 c1 c2
    have kz := k2.call GW.out
    have fr := kz.frozen
    have s0 := kz.cell' (i := 0) rfl
    have s1 := kz.cell' (i := 1) rfl
    have s2 := kz.cell' (i := 2) rfl
    have s3 := kz.cell' (i := 3) rfl
    have s4 := kz.cell' (i := 4) rfl
    have s5 := kz.cell' (i := 5) rfl
    have gf := g0.trans (GW.out.mono g0.size)
    have GF := Lib.hid gf
    clear kz gf
    go_wp2
    have gf := GF.out
    have hE := HE.out
    exact bodyPost_ret (v := .tuple #[.agg #[.int .i64 0, .int .i64 0, .slice none 0 0, .slice none 0 0, .slice none 0 0, .slice none 0 0], .bool false]) (by simp [results, go_sem, s0, s1, s2, s3, s4, s5]) rfl ⟨_, by rw [hE], by rw [hE]; exact RepO.zero _ _ _, (((((gf.setCell (by simp) _).setCell (by simp) _).setCell (by simp) _).setCell (by simp) _).setCell (by simp) _).setCell (by simp) _⟩
  have hok : frOk p q = true := by rw [frOk, h1, h2]; rfl
  obtain ⟨hl1, hl2, hl3, hl4, hl5⟩ := isF_lens h2
  have hS : inR q.stages 1 5 = true := inR_t.2 ⟨hl4, hl5⟩
  obtain ⟨ll1, ll2, ll3⟩ := line_len hS
  obtain ⟨S, hSS⟩ : ∃ S, q.stages.toNat = S := ⟨_, rfl⟩
  have hSv : q.stages = (S : Int) := by omega
  have H1 := Lib.hid h1
  have H2 := Lib.hid h2
  have HOK := Lib.hid hok
  have HS := Lib.hid hS
  have HSV := Lib.hid hSv
  have HSS := Lib.hid hSS
  have HLEN := Lib.hid (show (lineQ q.stages).f.length + 1 = S from by rw [← hSS]; exact ll1)
  have HLT := Lib.hid ll2
  have HLV := Lib.hid ll3
  have hS5 : S ≤ 5 := by omega
  have hS1 : 1 ≤ S := by omega
  clear h1 h2 hok hS ll1 ll2 ll3 hSS hSv
  go_enter Try.func29, Try.ntmps29
  go_wp2_with fail
  rw [← hW]; clear hW
  refine (implIsField_any _ _).mono ?_; rintro e w3 ⟨rfl, hww⟩
  replace hww := hww.symm
  subst hww
  rw [H1.out]
  go_wp2_with fail
  refine (implIsFiltration_any _ q _ HFI.out).mono ?_; rintro e wf ⟨rfl, hbf⟩
  rw [H2.out]
  have kf := k1.call hbf
  clear c0 c1 c2
  have c0 := kf.cell' (i := 0) rfl
  go_wp2_with fail
  refine (implLineOf_any q.stages _ hr).mono ?_; rintro e w1 ⟨v1, rfl, hL, hb1⟩
  obtain ⟨QA, qa, QB, qb, ev⟩ := hL.form
  rw [HLT.out, HLV.out] at ev
  obtain ⟨n, hn⟩ : ∃ n, (lineQ q.stages).f.length = n := ⟨_, rfl⟩
  rw [hn] at ev
  have hnS : n + 1 = S := by rw [← hn]; exact HLEN.out
  have HN := Lib.hid hn
  subst ev
  obtain ⟨W2, hW2⟩ : ∃ u, w1.alloc (.cells #[.int .i64 q.stages, .slice QA n qa, .slice QB n qb] 28) = u := ⟨_, rfl⟩
  have ga : Below w1.heap.size w1 W2 := by rw [← hW2]; exact below_alloc _ _
  have kq : Blk W2 w1.heap.size 28 #[.int .i64 q.stages, .slice QA n qa, .slice QB n qb] := by rw [← hW2]; exact Blk.new _ _ _
  have gW2 := (bthen hbf hb1).trans (ga.mono (bthen hbf hb1).size)
  have HL := Lib.hid (hL.below ga).rd
  have G2 := Lib.hid gW2
  have HNS := Lib.hid hnS
  have hnS1 : n + 1 ≤ S := Nat.le_of_eq hnS
  have hnS2 : S ≤ n + 1 := Nat.le_of_eq hnS.symm
  have k12 := k1.call gW2
  clear c0 kf hbf hb1 ga hL gW2 hn hnS
  have c0 := k12.cell' (i := 0) rfl
  have lq := kq.lt
  rw [HSV.out] at c0
  go_wp2
  clear hW2
  go_loopw [8, 34] (fun out i wr => ∃ t : Nat, t ≤ S ∧ i = .int .i64 t ∧ OwnI wr W2.heap.size out (rowF t fun t => ((rtQ q t).length : Int)) ∧ Below W2.heap.size W2 wr) (fun _ i _ => S - (intOf i).toNat)
  case atStart => exact ⟨0, Nat.zero_le _, rfl, by simpa [rowF] using OwnI.nil W2 W2.heap.size, Below.refl _ _⟩
  case round =>
    clear c0
    obtain ⟨t, ht, rfl, ho, hb⟩ := hrel
    have hbs := hb.size
    by_cases htS : t < S
    · have gWr := G2.out.trans (hb.mono G2.out.size)
      have kr := k1.call gWr
      have c0 := kr.cell' (i := 0) rfl
      have c1 := kr.cell' (i := 1) rfl
      have c2 := kr.cell' (i := 2) rfl
      obtain ⟨OA, oc, eo, _, _⟩ := ho.form
      rw [rowF_length] at eo
      subst eo
      have HO := Lib.hid ho
      have HB := Lib.hid hb
      have HF := Lib.hid (FiR.next gWr HFI.out)
      clear ho hb kr gWr
      go_wp2_with fail
      refine (implCountComponents_any _ q t _ HF.out (by unfold I64; omega)).mono ?_; rintro e w3 ⟨rfl, hb3⟩
      rw [cnt_rt H2.out (t := t) (by have := HSV.out; omega)]
      have hcl := rtQ_le q t
      have ho3 := HO.out.below hb3
      have hB3 := HB.out.trans (hb3.mono hbs)
      have s3 := hb3.size
      obtain ⟨cn, hcn⟩ : ∃ z, (rtQ q t).length = z := ⟨_, rfl⟩
      rw [hcn] at hcl ⊢
      have HCN := Lib.hid hcn
      have HO3 := Lib.hid ho3
      have HB3 := Lib.hid hB3
      have hlo3 := ho3.lt
      clear c0 c1 c2 ho3 hB3 hb3 hcn
      (go_wp2_with (at_builtin; refine Hold.stop ?_)); unfold Hold
      obtain ⟨X, hX⟩ : ∃ X, X = w3.alloc (.cells #[.int .i64 (cn : Int)] 3) := ⟨_, rfl⟩
      have gn : Below w3.heap.size w3 X := by rw [hX]; exact below_alloc _ _
      have h1x : SlI X X.heap.size (.slice (some ⟨w3.heap.size, 0, none⟩) 1 1) [(cn : Int)] := by rw [hX]; exact SlI.one _ _ _ (by simp only [I64]; omega)
      have ho3 := (HO3.out).below gn
      have gns := gn.size
      rw [← hX]
      clear hX
      refine wpList_appI rfl (.tmp 37) (.tmp 41) rfl W2.heap.size X.heap.size _ _ rfl ho3 _ 1 1 [(cn : Int)] rfl rfl h1x (by simp [rowF_length]; omega) (by omega) ?_
      intro v' w' h1 h2 h3
      have hrow : rowF (t + 1) (fun t => ((rtQ q t).length : Int)) = rowF t (fun t => ((rtQ q t).length : Int)) ++ [(cn : Int)] := by
        rw [← HCN.out]; simp [rowF, List.range_succ]
      rw [← hrow] at h1
      have hbX := below_grown h2 (B := W2.heap.size) (fun k hk => (hlo3 k hk).1) (by omega)
      have H1' := Lib.hid h1
      have G1 := Lib.hid ((HB3.out).trans ((gn.mono (by omega)).trans hbX))
      clear h1 h2 h3 hbX gn ho3 h1x hrow hlo3
      go_wp2
      go_roundw
      case rel => exact ⟨t + 1, by omega, by go_num, H1'.out, G1.out⟩
      case measure => simp [intOf]; omega
    · obtain rfl : t = S := by omega
      obtain ⟨DA, dc, ed, _, _⟩ := ho.form
      rw [rowF_length] at ed
      subst ed
      obtain ⟨w5, hw5⟩ : ∃ z, z = wr := ⟨_, rfl⟩
      subst hw5
      have hfr : frD q = rowF t fun t => ((rtQ q t).length : Int) := by rw [frD, HSS.out]
      have HD := Lib.hid (show SlI w5 w5.heap.size (.slice DA t dc) (frD q) by rw [hfr]; exact ho.rd)
      have kq5 := kq.call hb
      have q0 := kq5.cell' (i := 0) rfl
      have q1 := kq5.cell' (i := 1) rfl
      have q2 := kq5.cell' (i := 2) rfl
      have HLr := Lib.hid (QvR.next hb HL.out)
      have GW5 := Lib.hid (G2.out.trans (hb.mono G2.out.size))
      clear ho hb hfr
      go_wp2_with fail
      refine (implAreDims_any _ _ (lineQ q.stages) (frD q) _ HLr.out HD.out).mono ?_; rintro e w6 ⟨rfl, hb6⟩
      have GW6 := Lib.hid (GW5.out.trans (hb6.mono GW5.out.size))
      rcases hA : areDims (lineQ q.stages) (frD q) with _ | _
      · have HE := Lib.hid (frP_big (p := p) hA)
        clear hA hb6 q0 q1 q2
        have kz := k2.call GW6.out
        have fr := kz.frozen
        have s0 := kz.cell' (i := 0) rfl
        have s1 := kz.cell' (i := 1) rfl
        have s2 := kz.cell' (i := 2) rfl
        have s3 := kz.cell' (i := 3) rfl
        have s4 := kz.cell' (i := 4) rfl
        have s5 := kz.cell' (i := 5) rfl
        have gf := g0.trans (GW6.out.mono g0.size)
        have GF := Lib.hid gf
        clear kz gf
        go_wp2
        have gf := GF.out
        have hE := HE.out
        exact bodyPost_ret (v := .tuple #[.agg #[.int .i64 0, .int .i64 0, .slice none 0 0, .slice none 0 0, .slice none 0 0, .slice none 0 0], .bool false]) (by simp [results, go_sem, s0, s1, s2, s3, s4, s5]) rfl ⟨_, by rw [hE], by rw [hE]; exact RepO.zero _ _ _, (((((gf.setCell (by simp) _).setCell (by simp) _).setCell (by simp) _).setCell (by simp) _).setCell (by simp) _).setCell (by simp) _⟩
      · have HE := Lib.hid (frP_yes HOK.out hA)
        have HA := Lib.hid hA
        have kq6 := kq5.call hb6
        clear q0 q1 q2
        have q0 := kq6.cell' (i := 0) rfl
        have q1 := kq6.cell' (i := 1) rfl
        have q2 := kq6.cell' (i := 2) rfl
        have HL6 := Lib.hid (QvR.next hb6 HLr.out)
        have HD6 := Lib.hid (SlI.next hb6 HD.out)
        clear hA hb6 kq5
        go_wp2_with fail
        refine (zeroRep_any p _ _ (lineQ q.stages) (frD q) _ hp HL6.out HD6.out HA.out).mono ?_; rintro e w7 ⟨v7, rfl, hO7, hb7⟩
        obtain ⟨QA, qa, QB, qb, DA, dc, HM, hm, ev⟩ := hO7.form
        have e1 : (zRep p (lineQ q.stages) (frD q)).q.f.length = n := HN.out
        have e2 : (zRep p (lineQ q.stages) (frD q)).q.t.length = n := HLT.out.trans HN.out
        have e3 : (zRep p (lineQ q.stages) (frD q)).d.length = t := by rw [← HSS.out]; exact rowF_length _ _
        have e4 : (zRep p (lineQ q.stages) (frD q)).m.length = n := by rw [zRep, zms_F, msF_length]; exact HN.out
        have e5 : (zRep p (lineQ q.stages) (frD q)).q.v = q.stages := HLV.out
        have e6 : (zRep p (lineQ q.stages) (frD q)).p = p := rfl
        rw [e1, e2, e3, e4, e5, e6] at ev
        subst ev
        have hz : zRep p (lineQ q.stages) (frD q) = ⟨p, lineQ q.stages, frD q, msF n (frS q 0 (frJ q 0 0))⟩ := by
          rw [zRep, frZ HS.out (g := frJ q 0 0) (frJ_0 q 0), HN.out]
        rw [hz] at hO7
        obtain ⟨W8, hW8⟩ : ∃ z, w7.alloc (.cells #[.int .i64 p, .int .i64 q.stages, .slice QA n qa, .slice QB n qb, .slice DA t dc, .slice HM n hm] 31) = z := ⟨_, rfl⟩
        have ga : Below w7.heap.size w7 W8 := by rw [← hW8]; exact below_alloc _ _
        have kO : Blk W8 w7.heap.size 31 #[.int .i64 p, .int .i64 q.stages, .slice QA n qa, .slice QB n qb, .slice DA t dc, .slice HM n hm] := by rw [← hW8]; exact Blk.new _ _ _
        have hO8 := hO7.below ga
        have hb68 := bthen hb7 ga
        have lO := kO.lt
        have s7 := hb7.size
        have o5 := kO.cell' (i := 5) rfl
        have hHM : Hid (∀ j, j < n → ∃ gH, HM = some ⟨gH, 0, none⟩ ∧ gH < w7.heap.size ∧ n ≤ hm ∧ hm ≤ 9223372036854775807) := fun j hj => by
          obtain ⟨g, c0', s', e', k1', k2', _⟩ := hO7.mxAt (j := j) (List.getElem?_eq_getElem (by rw [msF_length]; exact hj))
          simp only [Value.slice.injEq, true_and] at e'
          obtain ⟨h1', h2'⟩ := hO7.mForm
          rw [msF_length] at h1'
          exact ⟨g, e'.1, k2', h1', h2'⟩
        clear e1 e2 e3 e4 e5 e6 hz hO7 hb7 ga q0 q1 q2 kq6
        go_wp2
        clear hW8 o5
        go_loopw [56] (fun i wr => ∃ k : Nat, k ≤ n ∧ i = .int .i64 k ∧ Below w6.heap.size w6 wr ∧ Blk wr w7.heap.size 31 #[.int .i64 p, .int .i64 q.stages, .slice QA n qa, .slice QB n qb, .slice DA t dc, .slice HM n hm] ∧ RepO wr w6.heap.size w7.heap.size (.agg #[.int .i64 p, .int .i64 q.stages, .slice QA n qa, .slice QB n qb, .slice DA t dc, .slice HM n hm]) ⟨p, lineQ q.stages, frD q, msF n (frS q k (frJ q k 0))⟩ ∧ w7.heap.size < wr.heap.size) (fun i _ => n - (intOf i).toNat)
        case atStart => exact ⟨0, Nat.zero_le _, rfl, hb68, kO, hO8, lO⟩
        case round =>
          clear hb68 kO hO8 lO
          obtain ⟨k, hk, rfl, hb, hB, hO, hl⟩ := hrel
          have hbs := hb.size
          by_cases hkn : k < n
          · obtain ⟨gH, eHM, hgHl, hnm, hmc⟩ := hHM.out k hkn
            subst eHM
            have hat := frS_at q k (frJ q k 0) hkn
            obtain ⟨g, c', sv, e, _, _, z0, z1, z2, hs, _⟩ := hO.mxAt hat
            simp only [Value.slice.injEq, Option.some.injEq, Addr.mk.injEq, and_true, true_and] at e
            obtain ⟨eg, el, ec⟩ := e
            clear el
            subst eg
            subst ec
            obtain ⟨R, hR⟩ : ∃ R, (rtQ q (k + 1)).length = R := ⟨_, rfl⟩
            obtain ⟨Cc, hC⟩ : ∃ C, (rtQ q k).length = C := ⟨_, rfl⟩
            have hR4 := rtQ_le q (k + 1)
            have hC4 := rtQ_le q k
            simp only [mxF] at z0 z1 hs
            rw [hR] at z0 hs hR4
            rw [hC] at z1 hs hC4
            obtain ⟨GA, gc, es⟩ := hs.form
            rw [flat_length] at es
            obtain ⟨Lk, hLk⟩ : ∃ z, R * Cc = z := ⟨_, rfl⟩
            rw [hLk] at es
            subst es
            have hcap : Lk ≤ gc ∧ gc ≤ 9223372036854775807 := by
              obtain ⟨_, _, e, h1, h2⟩ := hs.1.form
              rw [flat_length, hLk] at e h1
              injection e with _ _ e3
              subst e3
              exact ⟨h1, h2⟩
            have HR := Lib.hid hR
            have HC := Lib.hid hC
            have HLk := Lib.hid hLk
            obtain ⟨wa, hwa⟩ : ∃ z, z = wr := ⟨_, rfl⟩
            subst hwa
            obtain ⟨Xm, hXm⟩ : ∃ z, wa.alloc (.cells #[.int .i64 R, .int .i64 Cc, .slice GA Lk gc] 84) = z := ⟨_, rfl⟩
            have gx : Below wa.heap.size wa Xm := by rw [← hXm]; exact below_alloc _ _
            have km : Blk Xm wa.heap.size 84 #[.int .i64 R, .int .i64 Cc, .slice GA Lk gc] := by rw [← hXm]; exact Blk.new _ _ _
            have lm := km.lt
            have hB1 := hB.call gx
            have hO1 := Lib.hid (hO.below gx)
            have hb1 := hb.trans (gx.mono hbs)
            have gW1 := GW6.out.trans (hb1.mono GW6.out.size)
            have Z2 := Lib.hid (bcell gx (b := gH) (by omega) z2)
            have k1x := k1.call gW1
            have HFX := Lib.hid (FiR.next gW1 HFI.out)
            have gxs := gx.size
            have hb1s := hb1.size
            have HB1 := Lib.hid hB1
            have Hb1 := Lib.hid hb1
            clear hat hR hC hLk hs hB hO hb gx hB1 hb1 gW1
            go_wp2
            clear hXm z0 z1 z2
            refine wp_region_net (by kernel_rfl) [.eq (.agg #[.int .i64 q.stages, .slice A q.birth.length c, .slice C q.ends.length d]), .eq (.int .i64 k), rel 2 (fun u lo hi w => IntsO w lo hi u (compQ q k)), .eq (.agg #[.int .i64 q.stages, .slice A q.birth.length c, .slice C q.ends.length d]), .eq (.int .i64 k), .eq (.int .i64 ((k : Int) + 1)), rel 6 (fun u lo hi w => IntsO w lo hi u (compQ q ((k : Int) + 1)))] [[], [], [0, 1], [], [], [4], [0, 1, 2, 3, 4, 5], [0, 1, 2, 3, 4, 5, 6], [0, 1, 2, 3, 4, 5, 6, 7]] 7 (by kernel_rfl) ⟨trivial, trivial, rel_stable (fun u lo hi w w' h hb => h.below hb), trivial, trivial, trivial, rel_stable (fun u lo hi w w' h hb => h.below hb), trivial⟩ ⟨?_, ?_, ?_, ?_, ?_, ?_, ?_, trivial⟩ ?_
            · intro x w hb hk Q' hQ
              clear hk
              simp only [netAct, dstAt, List.getElem?_toArray, List.getElem?_cons_zero, List.getElem?_cons_succ, Option.bind_some, Act.put, List.setIfInBounds_toArray, List.set_cons_zero, List.set_cons_succ] at hQ ⊢
              have z0 := (k1x.call hb).cell' (i := 0) rfl
              have z1 := (k1x.call hb).cell' (i := 1) rfl
              have z2 := (k1x.call hb).cell' (i := 2) rfl
              go_wp2
              exact hQ (.agg #[.int .i64 q.stages, .slice A q.birth.length c, .slice C q.ends.length d]) _ (Below.refl _ _) rfl
            · intro x w hb hk Q' hQ
              clear hk
              simp only [netAct, dstAt, List.getElem?_toArray, List.getElem?_cons_zero, List.getElem?_cons_succ, Option.bind_some, Act.put, List.setIfInBounds_toArray, List.set_cons_zero, List.set_cons_succ] at hQ ⊢
              go_wp2
              exact hQ (.int .i64 k) _ (Below.refl _ _) rfl
            · intro x w hb hk Q' hQ
              have h0 : x.v 0 = .agg #[.int .i64 q.stages, .slice A q.birth.length c, .slice C q.ends.length d] := (hk 0 (by decide)).1
              have h1 : x.v 1 = .int .i64 k := (hk 1 (by decide)).1
              clear hk
              simp only [netAct, dstAt, List.getElem?_toArray, List.getElem?_cons_zero, List.getElem?_cons_succ, Option.bind_some, Act.put, List.setIfInBounds_toArray, List.set_cons_zero, List.set_cons_succ] at hQ ⊢
              simp only [h0, h1] at hQ ⊢
              clear h0 h1
              go_wp2_with fail
              refine (components_any _ q k _ (FiR.next hb HFX.out) H2.out).mono ?_; rintro e w9 ⟨v9, rfl, ho9, hb9⟩
              go_wp2
              exact hQ _ _ hb9 ho9
            · intro x w hb hk Q' hQ
              clear hk
              simp only [netAct, dstAt, List.getElem?_toArray, List.getElem?_cons_zero, List.getElem?_cons_succ, Option.bind_some, Act.put, List.setIfInBounds_toArray, List.set_cons_zero, List.set_cons_succ] at hQ ⊢
              have z0 := (k1x.call hb).cell' (i := 0) rfl
              have z1 := (k1x.call hb).cell' (i := 1) rfl
              have z2 := (k1x.call hb).cell' (i := 2) rfl
              go_wp2
              exact hQ (.agg #[.int .i64 q.stages, .slice A q.birth.length c, .slice C q.ends.length d]) _ (Below.refl _ _) rfl
            · intro x w hb hk Q' hQ
              clear hk
              simp only [netAct, dstAt, List.getElem?_toArray, List.getElem?_cons_zero, List.getElem?_cons_succ, Option.bind_some, Act.put, List.setIfInBounds_toArray, List.set_cons_zero, List.set_cons_succ] at hQ ⊢
              go_wp2
              exact hQ (.int .i64 k) _ (Below.refl _ _) rfl
            · intro x w hb hk Q' hQ
              have h4 : x.v 4 = .int .i64 k := (hk 4 (by decide)).1
              clear hk
              simp only [netAct, dstAt, List.getElem?_toArray, List.getElem?_cons_zero, List.getElem?_cons_succ, Option.bind_some, Act.put, List.setIfInBounds_toArray, List.set_cons_zero, List.set_cons_succ] at hQ ⊢
              simp only [h4] at hQ ⊢
              clear h4
              go_wp2
              exact hQ (.int .i64 ((k : Int) + 1)) _ (Below.refl _ _) rfl
            · intro x w hb hk Q' hQ
              have h0 : x.v 0 = .agg #[.int .i64 q.stages, .slice A q.birth.length c, .slice C q.ends.length d] := (hk 0 (by decide)).1
              have h1 : x.v 1 = .int .i64 k := (hk 1 (by decide)).1
              have h2 : IntsO w (x.lo 2) (x.hi 2) (x.v 2) (compQ q k) := (hk 2 (by decide)).1
              have h3 : x.v 3 = .agg #[.int .i64 q.stages, .slice A q.birth.length c, .slice C q.ends.length d] := (hk 3 (by decide)).1
              have h4 : x.v 4 = .int .i64 k := (hk 4 (by decide)).1
              have h5 : x.v 5 = .int .i64 ((k : Int) + 1) := (hk 5 (by decide)).1
              have s2 := (hk 2 (by decide)).2
              clear hk
              simp only [netAct, dstAt, List.getElem?_toArray, List.getElem?_cons_zero, List.getElem?_cons_succ, Option.bind_some, Act.put, List.setIfInBounds_toArray, List.set_cons_zero, List.set_cons_succ] at hQ ⊢
              simp only [h0, h1, h3, h4, h5] at hQ ⊢
              clear h0 h1 h3 h4 h5
              go_wp2_with fail
              refine (components_any _ q ((k : Int) + 1) _ (FiR.next hb HFX.out) H2.out).mono ?_; rintro e w9 ⟨v9, rfl, ho9, hb9⟩
              go_wp2
              exact hQ _ _ hb9 ho9
            · intro x w hb hk hiv hdj
              have h0 : x.v 0 = .agg #[.int .i64 q.stages, .slice A q.birth.length c, .slice C q.ends.length d] := hk 0 (by decide)
              have h1 : x.v 1 = .int .i64 k := hk 1 (by decide)
              have h2 : IntsO w (x.lo 2) (x.hi 2) (x.v 2) (compQ q k) := hk 2 (by decide)
              have h3 : x.v 3 = .agg #[.int .i64 q.stages, .slice A q.birth.length c, .slice C q.ends.length d] := hk 3 (by decide)
              have h4 : x.v 4 = .int .i64 k := hk 4 (by decide)
              have h5 : x.v 5 = .int .i64 ((k : Int) + 1) := hk 5 (by decide)
              have h6 : IntsO w (x.lo 6) (x.hi 6) (x.v 6) (compQ q ((k : Int) + 1)) := hk 6 (by decide)
              clear hk
              simp only [netAct, dstAt, List.getElem?_toArray, List.getElem?_cons_zero, List.getElem?_cons_succ, Option.bind_some, Act.put, List.setIfInBounds_toArray, List.set_cons_zero, List.set_cons_succ]
              simp only [List.drop_succ_cons, List.drop_zero, h0, h1, h3, h4, h5]
              clear h0 h1 h3 h4 h5
              obtain ⟨NA, nc, e2⟩ := h2.form
              obtain ⟨XA, xc, e6⟩ := h6.form
              rw [compQ_length] at e2 e6
              have HNW := Lib.hid h2.rd
              have i6 := hiv 6 (by decide)
              have HNX := Lib.hid (h6.wider i6.1 (Nat.le_refl _))
              have hi6 := i6.2.2
              obtain ⟨hi6x, hhi6⟩ : ∃ z, z = x.hi 6 := ⟨_, rfl⟩
              rw [← hhi6] at HNX hi6
              rw [e2] at HNW ⊢
              rw [e6] at HNX ⊢
              have hbsx := hb.size
              have HB2 := Lib.hid (HB1.out.call hb)
              have Hb2 := Lib.hid (Hb1.out.trans (hb.mono hb1s))
              have HO2 := Lib.hid (hO1.out.below hb)
              have Z22 := Lib.hid (bcell hb (b := gH) (by omega) Z2.out)
              have KM2 := Lib.hid (km.call hb)
              obtain ⟨w10, hw10⟩ : ∃ z, z = w := ⟨_, rfl⟩
              subst hw10
              clear h2 h6 e2 e6 hiv hdj hb i6 hhi6
              go_wp2_with fail
              refine (leasts_any _ (compQ q k) _ HNW.out).mono ?_; rintro e w9 ⟨v9, rfl, hLs, hb9⟩
              have hleast := least_rt H2.out (t := (k : Int)) (by omega) (by have := HSV.out; omega)
              rw [hleast] at hLs
              obtain ⟨LA, lc, e9⟩ := hLs.form
              have HLS := Lib.hid (show IntsO w9 w10.heap.size w9.heap.size v9 (rtQ q k) from hLs)
              rw [show (rootsC (compQ q (k : Int))).length = Cc from HC.out] at e9
              subst e9
              have hb9s := hb9.size
              have HB9 := Lib.hid (HB2.out.call hb9)
              have Hb9 := Lib.hid (Hb2.out.trans (hb9.mono (by omega)))
              have HO9 := Lib.hid (HO2.out.below hb9)
              have Z29 := Lib.hid (bcell hb9 (b := gH) (by omega) Z22.out)
              have KM9 := Lib.hid (KM2.out.call hb9)
              have HNX9 := Lib.hid (HNX.out.below hb9)
              clear hLs hb9 hleast
              go_wp2
              go_loopw [71] (fun i wr => ∃ m : Nat, m ≤ Cc ∧ i = .int .i64 m ∧ Below w6.heap.size w6 wr ∧ Chg w6.heap.size w7.heap.size w9 wr ∧ wr.cell? ⟨gH, k * 3 + 2, none⟩ = some (.slice GA Lk gc) ∧ RepO wr w6.heap.size w7.heap.size (.agg #[.int .i64 p, .int .i64 q.stages, .slice QA n qa, .slice QB n qb, .slice DA t dc, .slice (some ⟨gH, 0, none⟩) n hm]) ⟨p, lineQ q.stages, frD q, msF n (frS q k (frJ q k m))⟩) (fun i _ => Cc - (intOf i).toNat)
              case atStart => exact ⟨0, Nat.zero_le _, rfl, Hb9.out, Chg.refl _ _ _, Z29.out, HO9.out⟩
              case round =>
                obtain ⟨m, hm', rfl, hb, hch, hz, hO⟩ := hrel
                have hcs := hch.size
                by_cases hmC : m < Cc
                · obtain ⟨pt, r, hx, hpl, hnx, hrr, hfi, hfr⟩ := fr_row H2.out (t := k) (i := m) (by rw [HC.out]; exact hmC)
                  have hrR : r < R := by rw [← HR.out]; exact lt_of_some hrr
                  have hLr := HLS.out.chg hch (.inr (by omega))
                  have hNr := HNX9.out.chg hch (.inr (by omega))
                  obtain ⟨gL, cL, eL, _, _, _⟩ := hLr.at_ (by rw [HC.out]; omega)
                  obtain ⟨gN, cN, eN, _, _, _⟩ := hNr.at_ (by rw [compQ_length]; omega)
                  simp only [Value.slice.injEq] at eL eN
                  obtain ⟨eL, eL2, eL3⟩ := eL
                  obtain ⟨eN, eN2, eN3⟩ := eN
                  clear eL2 eN2 eL3 eN3
                  subst eL
                  subst eN
                  have lc := (hLr.1.cellG (j := m) (by rw [HC.out]; exact hmC)).1
                  rw [List.getD_eq_getElem?_getD, hx] at lc
                  simp only [Option.getD_some] at lc
                  obtain ⟨nx, hnxe⟩ : ∃ z, nxQ q k m = z := ⟨_, rfl⟩
                  have ncl := hNr.1.cellG (j := pt) (by rw [compQ_length]; exact hpl)
                  rw [List.getD_eq_getElem?_getD, hnx, hnxe] at ncl
                  simp only [Option.getD_some] at ncl
                  rw [hnxe] at hfi hrr
                  obtain ⟨P, hP⟩ : ∃ P, P = r * Cc := ⟨_, rfl⟩
                  obtain ⟨p1, p2, p3, p4, p5⟩ := ixR hrR hmC (by omega) (by omega) hP
                  rw [HLk.out] at p3 p4 p5
                  have HP1 := Lib.hid p1
                  have HP2 := Lib.hid p2
                  clear p1 p2
                  have hat := frS_at q k (frJ q k m) hkn
                  have hput := hO.putMx (i := P + m) (z := 1) hat (by simp only [mxF]; rw [flat_length, HR.out, HC.out, HLk.out]; exact p4) (by unfold I64; omega)
                  obtain ⟨g, cg, gr, cr, eg, _, _, z2, ⟨u0, z3⟩, z4, _, _, ⟨hgr1, hgr2⟩, hapart, _⟩ := hput
                  simp only [mxF] at z2
                  rw [flat_length, HR.out, HC.out, HLk.out] at z2
                  simp only [Value.slice.injEq, Option.some.injEq, Addr.mk.injEq, and_true, true_and] at eg
                  obtain ⟨eg1, el, eg2⟩ := eg
                  clear el
                  subst eg1
                  subst eg2
                  rw [hz] at z2
                  simp only [Option.some.injEq, Value.slice.injEq, true_and] at z2
                  obtain ⟨z2a, z2b⟩ := z2
                  subst z2a
                  subst z2b
                  have hst := frS_set q k n (frJ q k m) (g' := frJ q k (m + 1)) (l := (flat (rtQ q (k + 1)).length (rtQ q k).length (frJ q k m)).set (P + m) 1) (by
                    rw [hP, ← HC.out]
                    exact frJ_put (by rw [HC.out]; exact hmC) (by rw [HR.out]; exact hrR) hfr)
                  have HST := Lib.hid hst
                  have HAT := Lib.hid hat
                  have HLEN2 := Lib.hid (show P + m < (mxF (rtQ q (k + 1)).length (rtQ q k).length (frJ q k m)).a.length by simp only [mxF]; rw [flat_length, HR.out, HC.out, HLk.out]; exact p4)
                  have HFI2 := Lib.hid hfi
                  have HNr := Lib.hid hNr.rd
                  have KMr := Lib.hid (KM9.out.chg hch (.inr (by omega)))
                  have NC := Lib.hid ncl.1
                  have hgN : gN < wr.heap.size := (hNr.1.lt gN rfl).2
                  have hn9 := ncl.2
                  obtain ⟨csH, hbH⟩ := hO.mBlk
                  have hgHr := hapart _ _ _ hbH (by decide)
                  have HbH := Lib.hid hbH
                  have HZ := Lib.hid hz
                  have HO1 := Lib.hid hO
                  have Hb1' := Lib.hid hb
                  have HCH1 := Lib.hid hch
                  have hbws := hb.size
                  have hI9 : I64 nx := hn9
                  have hgHw : gH < wr.heap.size := by omega
                  obtain ⟨wb, hwb⟩ : ∃ z, z = wr := ⟨_, rfl⟩
                  subst hwb
                  clear hx hnx hrr hfi hfr hLr hNr ncl hnxe hst hat hapart hbH hz hO hb hch z3 z4 hP hI9 hn9
                  go_wp2
                  clear lc
                  refine wp_region_net (by kernel_rfl) [.eq (.agg #[.int .i64 R, .int .i64 Cc, .slice (some ⟨gr, 0, none⟩) Lk gc]), .eq (.slice (some ⟨gN, 0, none⟩) q.birth.length xc), rel 2 (fun u lo hi w => IntsO w lo hi u (rtQ q (k + 1))), .eq (.slice (some ⟨gN, 0, none⟩) q.birth.length xc), .eq (.int .i64 pt), .eq (.pointer (some ⟨gN, pt, none⟩)), .eq (.int .i64 nx), .eq (.int .i64 r), rel 8 (fun u lo hi w => u = .slice (some ⟨gr, P, none⟩) Cc (gc - P)), .eq (.int .i64 m), .eq (.pointer (some ⟨gr, P + m, none⟩))] [[], [], [1], [], [], [3, 4], [3, 4, 5], [1, 2, 3, 4, 5, 6], [0, 1, 2, 3, 4, 5, 6, 7], [], [0, 1, 2, 3, 4, 5, 6, 7, 8, 9], [0, 1, 2, 3, 4, 5, 6, 7, 8, 9, 10]] 11 (by kernel_rfl) ⟨trivial, trivial, rel_stable (fun u lo hi w w' h hb => h.below hb), trivial, trivial, trivial, trivial, trivial, rel_stable (fun u lo hi w w' h hb => h), trivial, trivial, trivial⟩ ⟨?_, ?_, ?_, ?_, ?_, ?_, ?_, ?_, ?_, ?_, ?_, trivial⟩ ?_
                  · intro x w hb hk Q' hQ
                    clear hk
                    simp only [netAct, dstAt, List.getElem?_toArray, List.getElem?_cons_zero, List.getElem?_cons_succ, Option.bind_some, Act.put, List.setIfInBounds_toArray, List.set_cons_zero, List.set_cons_succ] at hQ ⊢
                    have q0 := (KMr.out.call hb).cell' (i := 0) rfl
                    have q1 := (KMr.out.call hb).cell' (i := 1) rfl
                    have q2 := (KMr.out.call hb).cell' (i := 2) rfl
                    go_wp2
                    exact hQ (.agg #[.int .i64 R, .int .i64 Cc, .slice (some ⟨gr, 0, none⟩) Lk gc]) _ (Below.refl _ _) rfl
                  · intro x w hb hk Q' hQ
                    clear hk
                    simp only [netAct, dstAt, List.getElem?_toArray, List.getElem?_cons_zero, List.getElem?_cons_succ, Option.bind_some, Act.put, List.setIfInBounds_toArray, List.set_cons_zero, List.set_cons_succ] at hQ ⊢
                    go_wp2
                    exact hQ (.slice (some ⟨gN, 0, none⟩) q.birth.length xc) _ (Below.refl _ _) rfl
                  · intro x w hb hk Q' hQ
                    have h1 : x.v 1 = .slice (some ⟨gN, 0, none⟩) q.birth.length xc := (hk 1 (by decide)).1
                    clear hk
                    simp only [netAct, dstAt, List.getElem?_toArray, List.getElem?_cons_zero, List.getElem?_cons_succ, Option.bind_some, Act.put, List.setIfInBounds_toArray, List.set_cons_zero, List.set_cons_succ] at hQ ⊢
                    simp only [h1] at hQ ⊢
                    clear h1
                    go_wp2_with fail
                    refine (leasts_any _ (compQ q ((k : Int) + 1)) _ (SlI.next hb HNr.out)).mono ?_; rintro e w11 ⟨v11, rfl, ho11, hb11⟩
                    rw [least_rt H2.out (t := (k : Int) + 1) (by omega) (by have := HSV.out; omega), ← rtQ_next] at ho11
                    go_wp2
                    exact hQ _ _ hb11 ho11
                  · intro x w hb hk Q' hQ
                    clear hk
                    simp only [netAct, dstAt, List.getElem?_toArray, List.getElem?_cons_zero, List.getElem?_cons_succ, Option.bind_some, Act.put, List.setIfInBounds_toArray, List.set_cons_zero, List.set_cons_succ] at hQ ⊢
                    go_wp2
                    exact hQ (.slice (some ⟨gN, 0, none⟩) q.birth.length xc) _ (Below.refl _ _) rfl
                  · intro x w hb hk Q' hQ
                    clear hk
                    simp only [netAct, dstAt, List.getElem?_toArray, List.getElem?_cons_zero, List.getElem?_cons_succ, Option.bind_some, Act.put, List.setIfInBounds_toArray, List.set_cons_zero, List.set_cons_succ] at hQ ⊢
                    go_wp2
                    exact hQ (.int .i64 pt) _ (Below.refl _ _) rfl
                  · intro x w hb hk Q' hQ
                    have h3 : x.v 3 = .slice (some ⟨gN, 0, none⟩) q.birth.length xc := (hk 3 (by decide)).1
                    have h4 : x.v 4 = .int .i64 pt := (hk 4 (by decide)).1
                    clear hk
                    simp only [netAct, dstAt, List.getElem?_toArray, List.getElem?_cons_zero, List.getElem?_cons_succ, Option.bind_some, Act.put, List.setIfInBounds_toArray, List.set_cons_zero, List.set_cons_succ] at hQ ⊢
                    simp only [h3, h4] at hQ ⊢
                    clear h3 h4
                    go_wp2
                    exact hQ (.pointer (some ⟨gN, pt, none⟩)) _ (Below.refl _ _) rfl
                  · intro x w hb hk Q' hQ
                    have h5 : x.v 5 = .pointer (some ⟨gN, pt, none⟩) := (hk 5 (by decide)).1
                    clear hk
                    simp only [netAct, dstAt, List.getElem?_toArray, List.getElem?_cons_zero, List.getElem?_cons_succ, Option.bind_some, Act.put, List.setIfInBounds_toArray, List.set_cons_zero, List.set_cons_succ] at hQ ⊢
                    simp only [h5] at hQ ⊢
                    clear h5
                    have q0 := bcell hb hgN NC.out
                    go_wp2
                    exact hQ (.int .i64 nx) _ (Below.refl _ _) rfl
                  · intro x w hb hk Q' hQ
                    have h2 : IntsO w (x.lo 2) (x.hi 2) (x.v 2) (rtQ q (k + 1)) := (hk 2 (by decide)).1
                    have h6 : x.v 6 = .int .i64 nx := (hk 6 (by decide)).1
                    clear hk
                    simp only [netAct, dstAt, List.getElem?_toArray, List.getElem?_cons_zero, List.getElem?_cons_succ, Option.bind_some, Act.put, List.setIfInBounds_toArray, List.set_cons_zero, List.set_cons_succ] at hQ ⊢
                    simp only [h6] at hQ ⊢
                    clear h6
                    obtain ⟨A2, c2, e2⟩ := h2.form
                    have H2' := Lib.hid h2.rd
                    rw [e2] at H2' hQ ⊢
                    go_wp2_with fail
                    refine (index_any _ (rtQ q (k + 1)) nx _ H2'.out).mono ?_; rintro e w11 ⟨rfl, hww⟩; replace hww := hww.symm; subst hww
                    rw [HFI2.out]
                    go_wp2
                    exact hQ (.int .i64 r) _ (Below.refl _ _) rfl
                  · intro x w hb hk Q' hQ
                    have h0 : x.v 0 = .agg #[.int .i64 R, .int .i64 Cc, .slice (some ⟨gr, 0, none⟩) Lk gc] := (hk 0 (by decide)).1
                    have h1 : x.v 1 = .slice (some ⟨gN, 0, none⟩) q.birth.length xc := (hk 1 (by decide)).1
                    have h2 : IntsO w (x.lo 2) (x.hi 2) (x.v 2) (rtQ q (k + 1)) := (hk 2 (by decide)).1
                    have h3 : x.v 3 = .slice (some ⟨gN, 0, none⟩) q.birth.length xc := (hk 3 (by decide)).1
                    have h4 : x.v 4 = .int .i64 pt := (hk 4 (by decide)).1
                    have h5 : x.v 5 = .pointer (some ⟨gN, pt, none⟩) := (hk 5 (by decide)).1
                    have h6 : x.v 6 = .int .i64 nx := (hk 6 (by decide)).1
                    have h7 : x.v 7 = .int .i64 r := (hk 7 (by decide)).1
                    have s2 := (hk 2 (by decide)).2
                    clear hk
                    simp only [netAct, dstAt, List.getElem?_toArray, List.getElem?_cons_zero, List.getElem?_cons_succ, Option.bind_some, Act.put, List.setIfInBounds_toArray, List.set_cons_zero, List.set_cons_succ] at hQ ⊢
                    simp only [h0, h1, h3, h4, h5, h6, h7] at hQ ⊢
                    clear h0 h1 h3 h4 h5 h6 h7
                    go_wp2_with fail
                    refine (row_at R Cc r P Lk gc gr _ HP1.out HP2.out p3 hcap.1 hcap.2 (by omega) (by omega)).mono ?_; rintro e w11 ⟨rfl, hb11⟩
                    go_wp2
                    exact hQ _ _ hb11 rfl
                  · intro x w hb hk Q' hQ
                    clear hk
                    simp only [netAct, dstAt, List.getElem?_toArray, List.getElem?_cons_zero, List.getElem?_cons_succ, Option.bind_some, Act.put, List.setIfInBounds_toArray, List.set_cons_zero, List.set_cons_succ] at hQ ⊢
                    go_wp2
                    exact hQ (.int .i64 m) _ (Below.refl _ _) rfl
                  · intro x w hb hk Q' hQ
                    have h8 : (x.v 8) = .slice (some ⟨gr, P, none⟩) Cc (gc - P) := (hk 8 (by decide)).1
                    have h9 : x.v 9 = .int .i64 m := (hk 9 (by decide)).1
                    clear hk
                    simp only [netAct, dstAt, List.getElem?_toArray, List.getElem?_cons_zero, List.getElem?_cons_succ, Option.bind_some, Act.put, List.setIfInBounds_toArray, List.set_cons_zero, List.set_cons_succ] at hQ ⊢
                    simp only [h9] at hQ ⊢
                    clear h9
                    rw [h8] at hQ ⊢
                    go_wp2
                    exact hQ (.pointer (some ⟨gr, P + m, none⟩)) _ (Below.refl _ _) rfl
                  · intro x w hb hk hiv hdj
                    have h0 : x.v 0 = .agg #[.int .i64 R, .int .i64 Cc, .slice (some ⟨gr, 0, none⟩) Lk gc] := hk 0 (by decide)
                    have h1 : x.v 1 = .slice (some ⟨gN, 0, none⟩) q.birth.length xc := hk 1 (by decide)
                    have h2 : IntsO w (x.lo 2) (x.hi 2) (x.v 2) (rtQ q (k + 1)) := hk 2 (by decide)
                    have h3 : x.v 3 = .slice (some ⟨gN, 0, none⟩) q.birth.length xc := hk 3 (by decide)
                    have h4 : x.v 4 = .int .i64 pt := hk 4 (by decide)
                    have h5 : x.v 5 = .pointer (some ⟨gN, pt, none⟩) := hk 5 (by decide)
                    have h6 : x.v 6 = .int .i64 nx := hk 6 (by decide)
                    have h7 : x.v 7 = .int .i64 r := hk 7 (by decide)
                    have h8 : (x.v 8) = .slice (some ⟨gr, P, none⟩) Cc (gc - P) := hk 8 (by decide)
                    have h9 : x.v 9 = .int .i64 m := hk 9 (by decide)
                    have h10 : x.v 10 = .pointer (some ⟨gr, P + m, none⟩) := hk 10 (by decide)
                    clear hk
                    simp only [netAct, dstAt, List.getElem?_toArray, List.getElem?_cons_zero, List.getElem?_cons_succ, Option.bind_some, Act.put, List.setIfInBounds_toArray, List.set_cons_zero, List.set_cons_succ]
                    simp only [List.drop_succ_cons, List.drop_zero, h0, h1, h3, h4, h5, h6, h7, h9, h10]
                    clear h0 h1 h3 h4 h5 h6 h7 h9 h10
                    have hOw := HO1.out.below hb
                    have hput := hOw.putMx (i := P + m) (z := 1) HAT.out HLEN2.out (by unfold I64; omega)
                    obtain ⟨g, cg, gr2, cr2, eg, _, _, z2, ⟨u0, z3⟩, z4, _, _, ⟨hg1, hg2⟩, _, hnew⟩ := hput
                    simp only [mxF] at z2
                    rw [flat_length, HR.out, HC.out, HLk.out] at z2
                    simp only [Value.slice.injEq, Option.some.injEq, Addr.mk.injEq, and_true, true_and] at eg
                    obtain ⟨eg1, el, eg2⟩ := eg
                    clear el
                    subst eg1
                    subst eg2
                    have hz := bcell hb hgHw HZ.out
                    rw [hz] at z2
                    simp only [Option.some.injEq, Value.slice.injEq, Addr.mk.injEq, and_true, true_and] at z2
                    obtain ⟨z2a, z2b⟩ := z2
                    subst z2a
                    subst z2b
                    simp only [mxF] at hnew
                    rw [HST.out] at hnew
                    obtain ⟨W14, hW14⟩ : ∃ u, w.setCell ⟨gr, P + m, none⟩ (.int .i64 1) = u := ⟨_, rfl⟩
                    rw [hW14] at hnew
                    have hch3 : Chg gr (gr + 1) w W14 := by rw [← hW14]; exact chg_set1 _ _ _ _
                    have hbsw := hb.size
                    have HREP := Lib.hid hnew
                    have hb14 := Lib.hid ((Hb1'.out.trans (hb.mono (by omega))).trans (hch3.below (B := w6.heap.size) hg1 (by omega)))
                    have HCH14 := Lib.hid ((HCH1.out.trans (Chg.of_below hb)).trans (hch3.wider hg1 (by omega)))
                    have HZ14 := Lib.hid (cell_chg hch3 (HbH.out.call hb) (by omega) hz)
                    clear hnew hch3 hOw hiv hdj hz h2 h8
                    go_wp2
                    clear hW14 z3 z4
                    refine ⟨⟨m + 1, by omega, by go_num, hb14.out, HCH14.out, HZ14.out, HREP.out⟩, ?_⟩
                    simp [intOf]; omega
                · obtain rfl : m = Cc := by omega
                  have hnext := frS_next q k n (g := frJ q k m) (g' := frJ q (k + 1) 0) (fun a i _ hi => by rw [frJ, if_pos (by have := HC.out; omega)]) (frJ_0 q (k + 1))
                  rw [hnext] at hO
                  have HO1 := Lib.hid hO
                  have Hb1' := Lib.hid hb
                  have HBr := Lib.hid (HB9.out.chg hch (.inr (Nat.le_refl _)))
                  have hl' : w7.heap.size < wr.heap.size := by omega
                  clear hO hb hch hnext hz
                  go_wp2
                  go_roundw
                  case rel => exact ⟨k + 1, by omega, by go_num, Hb1'.out, HBr.out, HO1.out, hl'⟩
                  case measure => simp [intOf]; omega
          · obtain rfl : k = n := by omega
            have gWr := GW6.out.trans (hb.mono GW6.out.size)
            have hw6 := GW6.out.size
            have kz := k2.call gWr
            have fr := kz.frozen
            have s0 := kz.cell' (i := 0) rfl
            have s1 := kz.cell' (i := 1) rfl
            have s2 := kz.cell' (i := 2) rfl
            have s3 := kz.cell' (i := 3) rfl
            have s4 := kz.cell' (i := 4) rfl
            have s5 := kz.cell' (i := 5) rfl
            have r0 := hB.cell' (i := 0) rfl
            have r1 := hB.cell' (i := 1) rfl
            have r2 := hB.cell' (i := 2) rfl
            have r3 := hB.cell' (i := 3) rfl
            have r4 := hB.cell' (i := 4) rfl
            have r5 := hB.cell' (i := 5) rfl
            have gf := g0.trans (gWr.mono g0.size)
            have hc6 := chg6 wr (w0.heap.size + 1) (.int .i64 p) (.int .i64 q.stages) (.slice QA k qa) (.slice QB k qb) (.slice DA t dc) (.slice HM k hm)
            have OF := Lib.hid ((hO.chg hc6 (.inr (by have := SZ.out; omega))).wider (lo' := w0.heap.size) (hi' := wr.heap.size) (by have := SZ.out; omega) (by omega))
            have GF := Lib.hid (gf.trans (hc6.below (by omega) gf.size))
            have HRS := Lib.hid (frS_end q k (frJ q k 0))
            clear hO hB kz gf hc6 hb gWr
            go_wp2
            have hE := HE.out
            exact bodyPost_ret (v := .tuple #[.agg #[.int .i64 p, .int .i64 q.stages, .slice QA k qa, .slice QB k qb, .slice DA t dc, .slice HM k hm], .bool true]) (by simp [results, go_sem, s0, s1, s2, s3, s4, s5]) rfl ⟨_, by rw [hE], by rw [hE, frR, HN.out, ← HRS.out]; have := OF.out; simpa using this, GF.out⟩
end Go.Proofs.Ytcmlflppndfdcaa

/- The reference's FiltrationRep. -/
namespace Go.Proofs.Ytcmlflppndfdcaa
set_option linter.unusedVariables false
set_option linter.unusedSimpArgs false
open Go.RowKit

set_option maxHeartbeats 6400000 in
set_option maxRecDepth 100000 in
theorem specFiltrationRep_any (p : Int) (u : Value) (q : Filt) (w0 : World) (hp : I64 p) (hu : FiR w0 w0.heap.size u q) :
    Calls Try.prog 27 #[.int .i64 p, u] w0 fun e w' => ∃ r, e = .returned (.tuple #[r, .bool (frP p q).2]) ∧ RpR w' w'.heap.size r (frP p q).1 ∧ Below w0.heap.size w0 w' := by
  have hu' := hu
  obtain ⟨A, c, C, d, rfl, hf, hT, hr, lf, lt⟩ := hu.open_
  clear hu hf hT
  obtain ⟨W, hW⟩ : ∃ W, W = (w0.alloc (.cells #[.int .i64 q.stages, .slice A q.birth.length c, .slice C q.ends.length d] 56)).alloc (.cells #[.int .i64 0, .int .i64 0, .slice none 0 0, .slice none 0 0, .slice none 0 0, .slice none 0 0] 31) := ⟨_, rfl⟩
  have g0 : Below w0.heap.size w0 W := by rw [hW]; exact ((Below.refl _ _).alloc (Nat.le_refl _) _).alloc (by simp) _
  have k1 : Blk W w0.heap.size 56 #[.int .i64 q.stages, .slice A q.birth.length c, .slice C q.ends.length d] := by rw [hW]; exact (Blk.new _ _ _).alloc _
  have k2 : Blk W (w0.heap.size + 1) 31 #[.int .i64 0, .int .i64 0, .slice none 0 0, .slice none 0 0, .slice none 0 0, .slice none 0 0] := by
    rw [hW]
    have := Blk.new (w0.alloc (.cells #[.int .i64 q.stages, .slice A q.birth.length c, .slice C q.ends.length d] 56)) 31 #[.int .i64 0, .int .i64 0, .slice none 0 0, .slice none 0 0, .slice none 0 0, .slice none 0 0]
    simpa only [World.size_alloc] using this
  have sz : W.heap.size = w0.heap.size + 1 + 1 := by rw [hW]; simp
  have SZ := Lib.hid sz
  have HFI := Lib.hid (FiR.next g0 hu')
  have c0 := k1.cell' (i := 0) rfl
  have c1 := k1.cell' (i := 1) rfl
  have c2 := k1.cell' (i := 2) rfl
  clear hu' sz
  rcases h1 : isFld p with _ | _
  · have HE := Lib.hid (frP_no (p := p) (q := q) (by rw [frOk, h1]; rfl))
    have H1 := Lib.hid h1
    have GW := Lib.hid (Below.refl W.heap.size W)
    clear h1
    go_enter Try.func27, Try.ntmps27
    go_wp2_with fail
    rw [← hW]; clear hW
    refine (specIsField_any _ _).mono ?_; rintro e w3 ⟨rfl, hww⟩
    replace hww := hww.symm
    subst hww
    rw [H1.out]
    have kz := k2.call GW.out
    have fr := kz.frozen
    have s0 := kz.cell' (i := 0) rfl
    have s1 := kz.cell' (i := 1) rfl
    have s2 := kz.cell' (i := 2) rfl
    have s3 := kz.cell' (i := 3) rfl
    have s4 := kz.cell' (i := 4) rfl
    have s5 := kz.cell' (i := 5) rfl
    have gf := g0.trans (GW.out.mono g0.size)
    have GF := Lib.hid gf
    clear kz gf
    go_wp2
    have gf := GF.out
    have hE := HE.out
    exact bodyPost_ret (v := .tuple #[.agg #[.int .i64 0, .int .i64 0, .slice none 0 0, .slice none 0 0, .slice none 0 0, .slice none 0 0], .bool false]) (by simp [results, go_sem, s0, s1, s2, s3, s4, s5]) rfl ⟨_, by rw [hE], by rw [hE]; exact (RepO.zero _ 0 0).rd, (((((gf.setCell (by simp) _).setCell (by simp) _).setCell (by simp) _).setCell (by simp) _).setCell (by simp) _).setCell (by simp) _⟩
  rcases h2 : isF q with _ | _
  · have HE := Lib.hid (frP_no (p := p) (q := q) (by rw [frOk, h1, h2]; rfl))
    have H1 := Lib.hid h1
    have H2 := Lib.hid h2
    clear h1 h2
    go_enter Try.func27, Try.ntmps27
    go_wp2_with fail
    rw [← hW]; clear hW
    refine (specIsField_any _ _).mono ?_; rintro e w3 ⟨rfl, hww⟩
    replace hww := hww.symm
    subst hww
    rw [H1.out]
    go_wp2_with fail
    refine (specIsFiltration_any _ q _ HFI.out).mono ?_; rintro e w3 ⟨rfl, hb3⟩
    rw [H2.out]
    have GW := Lib.hid hb3
    clear hb3 c0 c1 c2
    have kz := k2.call GW.out
    have fr := kz.frozen
    have s0 := kz.cell' (i := 0) rfl
    have s1 := kz.cell' (i := 1) rfl
    have s2 := kz.cell' (i := 2) rfl
    have s3 := kz.cell' (i := 3) rfl
    have s4 := kz.cell' (i := 4) rfl
    have s5 := kz.cell' (i := 5) rfl
    have gf := g0.trans (GW.out.mono g0.size)
    have GF := Lib.hid gf
    clear kz gf
    go_wp2
    have gf := GF.out
    have hE := HE.out
    exact bodyPost_ret (v := .tuple #[.agg #[.int .i64 0, .int .i64 0, .slice none 0 0, .slice none 0 0, .slice none 0 0, .slice none 0 0], .bool false]) (by simp [results, go_sem, s0, s1, s2, s3, s4, s5]) rfl ⟨_, by rw [hE], by rw [hE]; exact (RepO.zero _ 0 0).rd, (((((gf.setCell (by simp) _).setCell (by simp) _).setCell (by simp) _).setCell (by simp) _).setCell (by simp) _).setCell (by simp) _⟩
  have hok : frOk p q = true := by rw [frOk, h1, h2]; rfl
  obtain ⟨hl1, hl2, hl3, hl4, hl5⟩ := isF_lens h2
  have hS : inR q.stages 1 5 = true := inR_t.2 ⟨hl4, hl5⟩
  obtain ⟨ll1, ll2, ll3⟩ := line_len hS
  obtain ⟨S, hSS⟩ : ∃ S, q.stages.toNat = S := ⟨_, rfl⟩
  have hSv : q.stages = (S : Int) := by omega
  have H1 := Lib.hid h1
  have H2 := Lib.hid h2
  have HOK := Lib.hid hok
  have HS := Lib.hid hS
  have HSV := Lib.hid hSv
  have HSS := Lib.hid hSS
  have HLEN := Lib.hid (show (lineQ q.stages).f.length + 1 = S from by rw [← hSS]; exact ll1)
  have HLT := Lib.hid ll2
  have HLV := Lib.hid ll3
  have hS5 : S ≤ 5 := by omega
  have hS1 : 1 ≤ S := by omega
  clear h1 h2 hok hS ll1 ll2 ll3 hSS hSv
  go_enter Try.func27, Try.ntmps27
  go_wp2_with fail
  rw [← hW]; clear hW
  refine (specIsField_any _ _).mono ?_; rintro e w3 ⟨rfl, hww⟩
  replace hww := hww.symm
  subst hww
  rw [H1.out]
  go_wp2_with fail
  refine (specIsFiltration_any _ q _ HFI.out).mono ?_; rintro e wf ⟨rfl, hbf⟩
  rw [H2.out]
  have kf := k1.call hbf
  clear c0 c1 c2
  have c0 := kf.cell' (i := 0) rfl
  go_wp2_with fail
  refine (specLineOf_any q.stages _ hr).mono ?_; rintro e w1 ⟨v1, rfl, hL, hb1⟩
  obtain ⟨QA, qa, QB, qb, ev⟩ := hL.form
  rw [HLT.out, HLV.out] at ev
  obtain ⟨n, hn⟩ : ∃ n, (lineQ q.stages).f.length = n := ⟨_, rfl⟩
  rw [hn] at ev
  have hnS : n + 1 = S := by rw [← hn]; exact HLEN.out
  have HN := Lib.hid hn
  subst ev
  obtain ⟨W2, hW2⟩ : ∃ u, w1.alloc (.cells #[.int .i64 q.stages, .slice QA n qa, .slice QB n qb] 28) = u := ⟨_, rfl⟩
  have ga : Below w1.heap.size w1 W2 := by rw [← hW2]; exact below_alloc _ _
  have kq : Blk W2 w1.heap.size 28 #[.int .i64 q.stages, .slice QA n qa, .slice QB n qb] := by rw [← hW2]; exact Blk.new _ _ _
  have gW2 := (bthen hbf hb1).trans (ga.mono (bthen hbf hb1).size)
  have HL := Lib.hid (hL.below ga).rd
  have G2 := Lib.hid gW2
  have HNS := Lib.hid hnS
  have hnS1 : n + 1 ≤ S := Nat.le_of_eq hnS
  have hnS2 : S ≤ n + 1 := Nat.le_of_eq hnS.symm
  have k12 := k1.call gW2
  clear c0 kf hbf hb1 ga hL gW2 hn hnS
  have c0 := k12.cell' (i := 0) rfl
  have lq := kq.lt
  rw [HSV.out] at c0
  obtain ⟨X0, hX0⟩ : ∃ z, W2.alloc (.cells #[] 3) = z := ⟨_, rfl⟩
  have bX0 : Below W2.heap.size W2 X0 := by rw [← hX0]; exact below_alloc _ _
  have oX0 : OwnI X0 W2.heap.size (.slice (some ⟨W2.heap.size, 0, none⟩) 0 0) [] := by rw [← hX0]; exact OwnI.made 3 rfl (Nat.le_refl _)
  obtain ⟨g2, hg2⟩ : ∃ z, W2.heap.size = z := ⟨_, rfl⟩
  rw [hg2] at oX0
  clear c0
  go_wp2
  clear hW2 hX0
  go_loopw [8, 9] (fun out i wr => ∃ (t : Nat), t ≤ S ∧ i = .int .i64 t ∧ OwnI wr g2 out (rowF t fun t => ((rtQ q t).length : Int)) ∧ Below W2.heap.size W2 wr) (fun _ i _ => S - (intOf i).toNat)
  case atStart => exact ⟨0, Nat.zero_le _, rfl, by first | (simpa [rowF] using oX0) | (rw [hg2]; simpa [rowF] using oX0) | (have := oX0; simp only [rowF, List.range_zero, List.map_nil]; rw [hg2]; exact this), bX0⟩
  case round =>
    clear oX0 bX0
    obtain ⟨t, ht, rfl, ho, hb⟩ := hrel
    rw [← hg2] at ho
    have hbs := hb.size
    have gWr := G2.out.trans (hb.mono G2.out.size)
    have kr := k1.call gWr
    have c0 := kr.cell' (i := 0) rfl
    have c1 := kr.cell' (i := 1) rfl
    have c2 := kr.cell' (i := 2) rfl
    by_cases htS : t < S
    · have htS' : (t : Int) < q.stages := by have := HSV.out; omega
      obtain ⟨OA, oc, eo, _, _⟩ := ho.form
      rw [rowF_length] at eo
      subst eo
      have HO := Lib.hid ho
      have HB := Lib.hid hb
      have HF := Lib.hid (FiR.next gWr HFI.out)
      have HG2 := Lib.hid hg2
      clear ho hb kr gWr hg2
      go_wp2_with fail
      refine (specCountComponents_any _ q t _ HF.out (by unfold I64; omega)).mono ?_; rintro e w3 ⟨rfl, hb3⟩
      rw [cnt_rt H2.out (t := t) (by have := HSV.out; omega)]
      have hcl := rtQ_le q t
      have ho3 := HO.out.below hb3
      have hB3 := HB.out.trans (hb3.mono hbs)
      have s3 := hb3.size
      obtain ⟨cn, hcn⟩ : ∃ z, (rtQ q t).length = z := ⟨_, rfl⟩
      rw [hcn] at hcl ⊢
      have HCN := Lib.hid hcn
      have HO3 := Lib.hid ho3
      have HB3 := Lib.hid hB3
      have hlo3 := ho3.lt
      clear c0 c1 c2 ho3 hB3 hb3 hcn
      (go_wp2_with (at_builtin; refine Hold.stop ?_)); unfold Hold
      obtain ⟨X, hX⟩ : ∃ X, X = w3.alloc (.cells #[.int .i64 (cn : Int)] 3) := ⟨_, rfl⟩
      have gn : Below w3.heap.size w3 X := by rw [hX]; exact below_alloc _ _
      have h1x : SlI X X.heap.size (.slice (some ⟨w3.heap.size, 0, none⟩) 1 1) [(cn : Int)] := by rw [hX]; exact SlI.one _ _ _ (by simp only [I64]; omega)
      have ho3 := (HO3.out).below gn
      have gns := gn.size
      rw [← hX]
      clear hX
      refine wpList_appI rfl (.tmp 39) (.tmp 43) rfl W2.heap.size X.heap.size _ _ rfl ho3 _ 1 1 [(cn : Int)] rfl rfl h1x (by simp [rowF_length]; omega) (by omega) ?_
      intro v' w' h1 h2 h3
      have hrow : rowF (t + 1) (fun t => ((rtQ q t).length : Int)) = rowF t (fun t => ((rtQ q t).length : Int)) ++ [(cn : Int)] := by
        rw [← HCN.out]; simp [rowF, List.range_succ]
      rw [← hrow] at h1
      have hbX := below_grown h2 (B := W2.heap.size) (fun k hk => (hlo3 k hk).1) (by omega)
      have H1' := Lib.hid h1
      have G1 := Lib.hid ((HB3.out).trans ((gn.mono (by omega)).trans hbX))
      clear h1 h2 h3 hbX gn ho3 h1x hrow hlo3 htS'
      go_wp2
      go_roundw
      case rel => exact ⟨t + 1, by omega, by go_num, by rw [← HG2.out]; exact H1'.out, G1.out⟩
      case measure => simp [intOf]; omega
    · obtain rfl : t = S := by omega
      have htS' : ¬ (t : Int) < q.stages := by have := HSV.out; omega
      obtain ⟨DA, dc, ed, _, _⟩ := ho.form
      rw [rowF_length] at ed
      subst ed
      obtain ⟨w5, hw5⟩ : ∃ z, z = wr := ⟨_, rfl⟩
      subst hw5
      have hfr : frD q = rowF t fun t => ((rtQ q t).length : Int) := by rw [frD, HSS.out]
      have HD := Lib.hid (show SlI w5 w5.heap.size (.slice DA t dc) (frD q) by rw [hfr]; exact ho.rd)
      have kq5 := kq.call hb
      have q0 := kq5.cell' (i := 0) rfl
      have q1 := kq5.cell' (i := 1) rfl
      have q2 := kq5.cell' (i := 2) rfl
      have HLr := Lib.hid (QvR.next hb HL.out)
      have GW5 := Lib.hid (G2.out.trans (hb.mono G2.out.size))
      clear ho hb hfr hg2
      go_wp2_with fail
      clear htS' c0 c1 c2
      refine (specAreDims_any _ _ (lineQ q.stages) (frD q) _ HLr.out HD.out).mono ?_; rintro e w6 ⟨rfl, hb6⟩
      have GW6 := Lib.hid (GW5.out.trans (hb6.mono GW5.out.size))
      rcases hA : areDims (lineQ q.stages) (frD q) with _ | _
      · have HE := Lib.hid (frP_big (p := p) hA)
        clear hA hb6 q0 q1 q2
        have kz := k2.call GW6.out
        have fr := kz.frozen
        have s0 := kz.cell' (i := 0) rfl
        have s1 := kz.cell' (i := 1) rfl
        have s2 := kz.cell' (i := 2) rfl
        have s3 := kz.cell' (i := 3) rfl
        have s4 := kz.cell' (i := 4) rfl
        have s5 := kz.cell' (i := 5) rfl
        have gf := g0.trans (GW6.out.mono g0.size)
        have GF := Lib.hid gf
        clear kz gf
        go_wp2
        have gf := GF.out
        have hE := HE.out
        exact bodyPost_ret (v := .tuple #[.agg #[.int .i64 0, .int .i64 0, .slice none 0 0, .slice none 0 0, .slice none 0 0, .slice none 0 0], .bool false]) (by simp [results, go_sem, s0, s1, s2, s3, s4, s5]) rfl ⟨_, by rw [hE], by rw [hE]; exact (RepO.zero _ 0 0).rd, (((((gf.setCell (by simp) _).setCell (by simp) _).setCell (by simp) _).setCell (by simp) _).setCell (by simp) _).setCell (by simp) _⟩
      · have HE := Lib.hid (frP_yes HOK.out hA)
        have HA := Lib.hid hA
        have kq6 := kq5.call hb6
        clear q0 q1 q2
        have q0 := kq6.cell' (i := 0) rfl
        have q1 := kq6.cell' (i := 1) rfl
        have q2 := kq6.cell' (i := 2) rfl
        have HL6 := Lib.hid (QvR.next hb6 HLr.out)
        have HD6 := Lib.hid (SlI.next hb6 HD.out)
        clear hA hb6 kq5
        go_wp2_with fail
        refine (l8Zero_any p _ _ (lineQ q.stages) (frD q) _ hp HL6.out HD6.out HA.out).mono ?_; rintro e w7 ⟨v7, rfl, hO7, hb7⟩
        obtain ⟨QA, qa, QB, qb, DA, dc, HM, hm, ev⟩ := hO7.rd.form
        have e1 : (zRep p (lineQ q.stages) (frD q)).q.f.length = n := HN.out
        have e2 : (zRep p (lineQ q.stages) (frD q)).q.t.length = n := HLT.out.trans HN.out
        have e3 : (zRep p (lineQ q.stages) (frD q)).d.length = t := by rw [← HSS.out]; exact rowF_length _ _
        have e4 : (zRep p (lineQ q.stages) (frD q)).m.length = n := by rw [zRep, zms_F, msF_length]; exact HN.out
        have e5 : (zRep p (lineQ q.stages) (frD q)).q.v = q.stages := HLV.out
        have e6 : (zRep p (lineQ q.stages) (frD q)).p = p := rfl
        rw [e1, e2, e3, e4, e5, e6] at ev
        subst ev
        have hz : zRep p (lineQ q.stages) (frD q) = ⟨p, lineQ q.stages, frD q, msF n (frS q 0 (frI q 0 0 0))⟩ := by
          rw [zRep, frZ HS.out (g := frI q 0 0 0) (frI_0 q 0), HN.out]
        rw [hz] at hO7
        obtain ⟨W8, hW8⟩ : ∃ z, w7.alloc (.cells #[.int .i64 p, .int .i64 q.stages, .slice QA n qa, .slice QB n qb, .slice DA t dc, .slice HM n hm] 31) = z := ⟨_, rfl⟩
        have ga : Below w7.heap.size w7 W8 := by rw [← hW8]; exact below_alloc _ _
        have kO : Blk W8 w7.heap.size 31 #[.int .i64 p, .int .i64 q.stages, .slice QA n qa, .slice QB n qb, .slice DA t dc, .slice HM n hm] := by rw [← hW8]; exact Blk.new _ _ _
        have hO8 := hO7.below ga
        have hb68 := bthen hb7 ga
        have lO := kO.lt
        have s7 := hb7.size
        clear e1 e2 e3 e4 e5 e6 hz hO7 hb7 ga q0 q1 q2 kq6
        go_wp2
        clear hW8
        go_loopw [11] (fun i wr => ∃ k : Nat, k ≤ n ∧ i = .int .i64 k ∧ Below w6.heap.size w6 wr ∧ Blk wr w7.heap.size 31 #[.int .i64 p, .int .i64 q.stages, .slice QA n qa, .slice QB n qb, .slice DA t dc, .slice HM n hm] ∧ RepI wr w6.heap.size w7.heap.size (.agg #[.int .i64 p, .int .i64 q.stages, .slice QA n qa, .slice QB n qb, .slice DA t dc, .slice HM n hm]) ⟨p, lineQ q.stages, frD q, msF n (frS q k (frI q k 0 0))⟩ ∧ w7.heap.size < wr.heap.size) (fun i _ => n - (intOf i).toNat)
        case atStart => exact ⟨0, Nat.zero_le _, rfl, hb68, kO, hO8, lO⟩
        case round =>
          clear hb68 kO hO8 lO
          obtain ⟨k, hk, rfl, hb, hB, hO, hl⟩ := hrel
          have hbs := hb.size
          have gWr := GW6.out.trans (hb.mono GW6.out.size)
          have kr := k1.call gWr
          have c0 := kr.cell' (i := 0) rfl
          by_cases hkn : k < n
          · have hkS : (k : Int) + 1 < q.stages := by have := HSV.out; omega
            have c1 := kr.cell' (i := 1) rfl
            have c2 := kr.cell' (i := 2) rfl
            have HF := Lib.hid (FiR.next gWr HFI.out)
            have HB := Lib.hid hB
            have HO := Lib.hid hO
            have Hb := Lib.hid hb
            clear hB hO hb
            go_wp2_with fail
            clear c0 c1 c2 hkS
            refine (specComponentsAt_any _ q k _ HF.out (by unfold I64; omega)).mono ?_; rintro e wa ⟨va, rfl, hCa, hba⟩
            rw [comps_rt H2.out (by omega) (by have := HSV.out; omega)] at hCa
            obtain ⟨A1, a1, ea⟩ := hCa.form
            subst ea
            have HCa := Lib.hid hCa.rd
            clear hCa
            go_wp2_with fail
            refine (l24Roots_any _ (compQ q (k : Int)) _ HCa.out).mono ?_; rintro e wb ⟨vb, rfl, hRa, hbb⟩
            obtain ⟨AL, ac, eb⟩ := hRa.form
            obtain ⟨Cc, hC⟩ : ∃ C, (rtQ q k).length = C := ⟨_, rfl⟩
            rw [show (rootsC (compQ q (k : Int))).length = Cc from hC] at eb
            subst eb
            have hab := bthen hba hbb
            have hwab := hba.size
            have kb := kr.call hab
            have c0 := kb.cell' (i := 0) rfl
            have c1 := kb.cell' (i := 1) rfl
            have c2 := kb.cell' (i := 2) rfl
            have HFb := Lib.hid (FiR.next hab HF.out)
            have HRa := Lib.hid (show IntsO wb wa.heap.size wb.heap.size (.slice AL Cc ac) (rtQ q k) from hRa)
            have hab1 := hab.size
            have hbb1 := hbb.size
            have Hab := Lib.hid hab
            have HC := Lib.hid hC
            clear hRa hba hbb hC kr HCa
            go_wp2_with fail
            clear c0 c1 c2
            refine (specComponentsAt_any _ q ((k : Int) + 1) _ HFb.out (by unfold I64; omega)).mono ?_; rintro e wc ⟨vc, rfl, hNx, hbc⟩
            rw [comps_rt H2.out (t := (k : Int) + 1) (by omega) (by have := HSV.out; omega)] at hNx
            obtain ⟨NL, nc, en⟩ := hNx.form
            rw [compQ_length] at en
            subst en
            have HNx := Lib.hid hNx
            have HNr := Lib.hid hNx.rd
            have hbc1 := hbc.size
            have HRc := Lib.hid (HRa.out.below hbc)
            have Hac := Lib.hid (Hab.out.trans (hbc.mono hab1))
            clear hNx hbc
            go_wp2_with fail
            refine (l24Roots_any _ (compQ q ((k : Int) + 1)) _ HNr.out).mono ?_; rintro e wd ⟨vd, rfl, hRb, hbd⟩
            rw [← rtQ_next] at hRb
            obtain ⟨BL, bc, ed⟩ := hRb.form
            obtain ⟨R, hR⟩ : ∃ R, (rtQ q (k + 1)).length = R := ⟨_, rfl⟩
            rw [hR] at ed
            subst ed
            have HRb := Lib.hid hRb
            have HR := Lib.hid hR
            have hbd1 := hbd.size
            have HRd := Lib.hid (HRc.out.below hbd)
            have HNd := Lib.hid (HNx.out.below hbd)
            have Had := Lib.hid (Hac.out.trans (hbd.mono (by omega)))
            have HOd := Lib.hid (HO.out.below Had.out)
            have HBd := Lib.hid (HB.out.call Had.out)
            have Hbd := Lib.hid (Hb.out.trans (Had.out.mono hbs))
            have hC4 := rtQ_le q k
            have hR4 := rtQ_le q (k + 1)
            rw [HC.out] at hC4
            rw [hR] at hR4
            obtain ⟨Lk, hLk⟩ : ∃ z, R * Cc = z := ⟨_, rfl⟩
            have HLk := Lib.hid hLk
            clear hRb hbd hR hLk kb
            go_wp2
            go_loopw [15] (fun i wr => ∃ ja : Nat, ja ≤ Cc ∧ i = .int .i64 ja ∧ Below w6.heap.size w6 wr ∧ Chg w6.heap.size w7.heap.size wd wr ∧ RepI wr w6.heap.size w7.heap.size (.agg #[.int .i64 p, .int .i64 q.stages, .slice QA n qa, .slice QB n qb, .slice DA t dc, .slice HM n hm]) ⟨p, lineQ q.stages, frD q, msF n (frS q k (frI q k ja 0))⟩) (fun i _ => Cc - (intOf i).toNat)
            case atStart => exact ⟨0, Nat.zero_le _, rfl, Hbd.out, Chg.refl _ _ _, HOd.out⟩
            case round =>
              clear Hbd HOd
              obtain ⟨ja, hja, rfl, hb, hch, hO⟩ := hrel
              have hcs := hch.size
              by_cases hjC : ja < Cc
              · obtain ⟨pt, r, hx, hpl, hnx, hrr, hfi, hfr⟩ := fr_row H2.out (t := k) (i := ja) (by rw [HC.out]; exact hjC)
                obtain ⟨nx, hnxe⟩ : ∃ z, nxQ q k ja = z := ⟨_, rfl⟩
                rw [hnxe] at hnx
                have HX := Lib.hid hx
                have HNX := Lib.hid hnx
                have HNE := Lib.hid hnxe
                have HJC := Lib.hid hjC
                have HO1 := Lib.hid hO
                have Hb1 := Lib.hid hb
                have HCH1 := Lib.hid hch
                obtain ⟨we, hwe⟩ : ∃ z, z = wr := ⟨_, rfl⟩
                subst hwe
                clear hx hnx hnxe hrr hfi hfr hO hb hch
                go_wp2
                go_loopw [16] (fun i wr => ∃ jb : Nat, jb ≤ R ∧ i = .int .i64 jb ∧ Below w6.heap.size w6 wr ∧ Chg w6.heap.size w7.heap.size wd wr ∧ RepI wr w6.heap.size w7.heap.size (.agg #[.int .i64 p, .int .i64 q.stages, .slice QA n qa, .slice QB n qb, .slice DA t dc, .slice HM n hm]) ⟨p, lineQ q.stages, frD q, msF n (frS q k (frI q k ja jb))⟩) (fun i _ => R - (intOf i).toNat)
                case atStart => exact ⟨0, Nat.zero_le _, rfl, Hb1.out, HCH1.out, HO1.out⟩
                case round =>
                  clear Hb1 HCH1 HO1
                  obtain ⟨jb, hjb, rfl, hb, hch, hO⟩ := hrel
                  have hcs2 := hch.size
                  by_cases hjR : jb < R
                  · have hLr := HRd.out.chg hch (.inr (by omega))
                    have hNr := HNd.out.chg hch (.inr (by omega))
                    have hBr := HRb.out.chg hch (.inr (by omega))
                    obtain ⟨gL, cL, eL, _, _, _⟩ := hLr.at_ (by rw [HC.out]; omega)
                    obtain ⟨gN, cN, eN, _, _, _⟩ := hNr.at_ (by rw [compQ_length]; omega)
                    obtain ⟨gB, cB, eB, _, _, _⟩ := hBr.at_ (by rw [HR.out]; omega)
                    simp only [Value.slice.injEq] at eL eN eB
                    obtain ⟨eL, eL2, eL3⟩ := eL
                    obtain ⟨eN, eN2, eN3⟩ := eN
                    obtain ⟨eB, eB2, eB3⟩ := eB
                    clear eL2 eN2 eB2 eL3 eN3 eB3
                    subst eL
                    subst eN
                    subst eB
                    have lc := (hLr.1.cellG (j := ja) (by rw [HC.out]; exact hjC)).1
                    rw [List.getD_eq_getElem?_getD, HX.out] at lc
                    simp only [Option.getD_some] at lc
                    have ncl := (hNr.1.cellG (j := pt) (by rw [compQ_length]; exact hpl)).1
                    rw [List.getD_eq_getElem?_getD, HNX.out] at ncl
                    simp only [Option.getD_some] at ncl
                    have bcl := (hBr.1.cellG (j := jb) (by rw [HR.out]; exact hjR)).1
                    obtain ⟨bv, hbv⟩ : ∃ z, (rtQ q (k + 1)).getD jb 0 = z := ⟨_, rfl⟩
                    rw [hbv] at bcl
                    have HBV := Lib.hid hbv
                    have LC := Lib.hid lc
                    have NC := Lib.hid ncl
                    have BC := Lib.hid bcl
                    have hgl := (hLr.1.lt gL rfl).2
                    have hgn := (hNr.1.lt gN rfl).2
                    have hgb := (hBr.1.lt gB rfl).2
                    have HO1 := Lib.hid hO
                    have Hb1 := Lib.hid hb
                    have HCH1 := Lib.hid hch
                    have HB1 := Lib.hid (HBd.out.chg hch (.inr (Nat.le_refl _)))
                    have hbws := hb.size
                    obtain ⟨wg, hwg⟩ : ∃ z, z = wr := ⟨_, rfl⟩
                    subst hwg
                    clear hLr hNr hBr lc ncl bcl hbv hO hb hch
                    go_wp2
                    refine wp_region_net (by kernel_rfl) [.eq (.slice (some ⟨gN, 0, none⟩) q.birth.length nc), .eq (.slice (some ⟨gL, 0, none⟩) Cc ac), .eq (.int .i64 ja), .eq (.pointer (some ⟨gL, ja, none⟩)), .eq (.int .i64 pt), .eq (.pointer (some ⟨gN, pt, none⟩)), .eq (.int .i64 nx), .eq (.slice (some ⟨gB, 0, none⟩) R bc), .eq (.int .i64 jb), .eq (.pointer (some ⟨gB, jb, none⟩)), .eq (.int .i64 bv)] [[], [], [], [1, 2], [1, 2, 3], [0, 1, 2, 3, 4], [0, 1, 2, 3, 4, 5], [], [], [7, 8], [7, 8, 9], [0, 1, 2, 3, 4, 5, 6, 7, 8, 9, 10]] 11 (by kernel_rfl) ⟨trivial, trivial, trivial, trivial, trivial, trivial, trivial, trivial, trivial, trivial, trivial, trivial⟩ ⟨?_, ?_, ?_, ?_, ?_, ?_, ?_, ?_, ?_, ?_, ?_, trivial⟩ ?_
                    · intro x w hb hk Q' hQ
                      clear hk
                      simp only [netAct, dstAt, List.getElem?_toArray, List.getElem?_cons_zero, List.getElem?_cons_succ, Option.bind_some, Act.put, List.setIfInBounds_toArray, List.set_cons_zero, List.set_cons_succ] at hQ ⊢
                      go_wp2
                      exact hQ (.slice (some ⟨gN, 0, none⟩) q.birth.length nc) _ (Below.refl _ _) rfl
                    · intro x w hb hk Q' hQ
                      clear hk
                      simp only [netAct, dstAt, List.getElem?_toArray, List.getElem?_cons_zero, List.getElem?_cons_succ, Option.bind_some, Act.put, List.setIfInBounds_toArray, List.set_cons_zero, List.set_cons_succ] at hQ ⊢
                      go_wp2
                      exact hQ (.slice (some ⟨gL, 0, none⟩) Cc ac) _ (Below.refl _ _) rfl
                    · intro x w hb hk Q' hQ
                      clear hk
                      simp only [netAct, dstAt, List.getElem?_toArray, List.getElem?_cons_zero, List.getElem?_cons_succ, Option.bind_some, Act.put, List.setIfInBounds_toArray, List.set_cons_zero, List.set_cons_succ] at hQ ⊢
                      go_wp2
                      exact hQ (.int .i64 ja) _ (Below.refl _ _) rfl
                    · intro x w hb hk Q' hQ
                      have h1 : x.v 1 = .slice (some ⟨gL, 0, none⟩) Cc ac := (hk 1 (by decide)).1
                      have h2 : x.v 2 = .int .i64 ja := (hk 2 (by decide)).1
                      clear hk
                      simp only [netAct, dstAt, List.getElem?_toArray, List.getElem?_cons_zero, List.getElem?_cons_succ, Option.bind_some, Act.put, List.setIfInBounds_toArray, List.set_cons_zero, List.set_cons_succ] at hQ ⊢
                      simp only [h1, h2] at hQ ⊢
                      clear h1 h2
                      go_wp2
                      exact hQ (.pointer (some ⟨gL, ja, none⟩)) _ (Below.refl _ _) rfl
                    · intro x w hb hk Q' hQ
                      have h3 : x.v 3 = .pointer (some ⟨gL, ja, none⟩) := (hk 3 (by decide)).1
                      clear hk
                      simp only [netAct, dstAt, List.getElem?_toArray, List.getElem?_cons_zero, List.getElem?_cons_succ, Option.bind_some, Act.put, List.setIfInBounds_toArray, List.set_cons_zero, List.set_cons_succ] at hQ ⊢
                      simp only [h3] at hQ ⊢
                      clear h3
                      have z := bcell hb hgl LC.out
                      go_wp2
                      exact hQ (.int .i64 pt) _ (Below.refl _ _) rfl
                    · intro x w hb hk Q' hQ
                      have h0 : x.v 0 = .slice (some ⟨gN, 0, none⟩) q.birth.length nc := (hk 0 (by decide)).1
                      have h4 : x.v 4 = .int .i64 pt := (hk 4 (by decide)).1
                      clear hk
                      simp only [netAct, dstAt, List.getElem?_toArray, List.getElem?_cons_zero, List.getElem?_cons_succ, Option.bind_some, Act.put, List.setIfInBounds_toArray, List.set_cons_zero, List.set_cons_succ] at hQ ⊢
                      simp only [h0, h4] at hQ ⊢
                      clear h0 h4
                      go_wp2
                      exact hQ (.pointer (some ⟨gN, pt, none⟩)) _ (Below.refl _ _) rfl
                    · intro x w hb hk Q' hQ
                      have h5 : x.v 5 = .pointer (some ⟨gN, pt, none⟩) := (hk 5 (by decide)).1
                      clear hk
                      simp only [netAct, dstAt, List.getElem?_toArray, List.getElem?_cons_zero, List.getElem?_cons_succ, Option.bind_some, Act.put, List.setIfInBounds_toArray, List.set_cons_zero, List.set_cons_succ] at hQ ⊢
                      simp only [h5] at hQ ⊢
                      clear h5
                      have z := bcell hb hgn NC.out
                      go_wp2
                      exact hQ (.int .i64 nx) _ (Below.refl _ _) rfl
                    · intro x w hb hk Q' hQ
                      clear hk
                      simp only [netAct, dstAt, List.getElem?_toArray, List.getElem?_cons_zero, List.getElem?_cons_succ, Option.bind_some, Act.put, List.setIfInBounds_toArray, List.set_cons_zero, List.set_cons_succ] at hQ ⊢
                      go_wp2
                      exact hQ (.slice (some ⟨gB, 0, none⟩) R bc) _ (Below.refl _ _) rfl
                    · intro x w hb hk Q' hQ
                      clear hk
                      simp only [netAct, dstAt, List.getElem?_toArray, List.getElem?_cons_zero, List.getElem?_cons_succ, Option.bind_some, Act.put, List.setIfInBounds_toArray, List.set_cons_zero, List.set_cons_succ] at hQ ⊢
                      go_wp2
                      exact hQ (.int .i64 jb) _ (Below.refl _ _) rfl
                    · intro x w hb hk Q' hQ
                      have h7 : x.v 7 = .slice (some ⟨gB, 0, none⟩) R bc := (hk 7 (by decide)).1
                      have h8 : x.v 8 = .int .i64 jb := (hk 8 (by decide)).1
                      clear hk
                      simp only [netAct, dstAt, List.getElem?_toArray, List.getElem?_cons_zero, List.getElem?_cons_succ, Option.bind_some, Act.put, List.setIfInBounds_toArray, List.set_cons_zero, List.set_cons_succ] at hQ ⊢
                      simp only [h7, h8] at hQ ⊢
                      clear h7 h8
                      go_wp2
                      exact hQ (.pointer (some ⟨gB, jb, none⟩)) _ (Below.refl _ _) rfl
                    · intro x w hb hk Q' hQ
                      have h9 : x.v 9 = .pointer (some ⟨gB, jb, none⟩) := (hk 9 (by decide)).1
                      clear hk
                      simp only [netAct, dstAt, List.getElem?_toArray, List.getElem?_cons_zero, List.getElem?_cons_succ, Option.bind_some, Act.put, List.setIfInBounds_toArray, List.set_cons_zero, List.set_cons_succ] at hQ ⊢
                      simp only [h9] at hQ ⊢
                      clear h9
                      have z := bcell hb hgb BC.out
                      go_wp2
                      exact hQ (.int .i64 bv) _ (Below.refl _ _) rfl
                    · intro x w hb hk hiv hdj
                      have h0 : x.v 0 = .slice (some ⟨gN, 0, none⟩) q.birth.length nc := hk 0 (by decide)
                      have h1 : x.v 1 = .slice (some ⟨gL, 0, none⟩) Cc ac := hk 1 (by decide)
                      have h2 : x.v 2 = .int .i64 ja := hk 2 (by decide)
                      have h3 : x.v 3 = .pointer (some ⟨gL, ja, none⟩) := hk 3 (by decide)
                      have h4 : x.v 4 = .int .i64 pt := hk 4 (by decide)
                      have h5 : x.v 5 = .pointer (some ⟨gN, pt, none⟩) := hk 5 (by decide)
                      have h6 : x.v 6 = .int .i64 nx := hk 6 (by decide)
                      have h7 : x.v 7 = .slice (some ⟨gB, 0, none⟩) R bc := hk 7 (by decide)
                      have h8 : x.v 8 = .int .i64 jb := hk 8 (by decide)
                      have h9 : x.v 9 = .pointer (some ⟨gB, jb, none⟩) := hk 9 (by decide)
                      have h10 : x.v 10 = .int .i64 bv := hk 10 (by decide)
                      clear hk
                      simp only [netAct, dstAt, List.getElem?_toArray, List.getElem?_cons_zero, List.getElem?_cons_succ, Option.bind_some, Act.put, List.setIfInBounds_toArray, List.set_cons_zero, List.set_cons_succ]
                      simp only [List.drop_succ_cons, List.drop_zero, h0, h1, h2, h3, h4, h5, h6, h7, h8, h9, h10]
                      clear h0 h1 h2 h3 h4 h5 h6 h7 h8 h9 h10
                      have hbs3 := hb.size
                      have HOw := Lib.hid (HO1.out.below hb)
                      have HBw := Lib.hid (HB1.out.call hb)
                      have Hbw := Lib.hid (Hb1.out.trans (hb.mono (by omega)))
                      have HCHw := Lib.hid (HCH1.out.trans (Chg.of_below hb))
                      obtain ⟨wh, hwh⟩ : ∃ z, z = w := ⟨_, rfl⟩
                      subst hwh
                      clear hiv hdj hb
                      by_cases hnb : nx = bv
                      · have hd : (nx == bv) = true := by rw [hnb]; exact beq_self_eq_true bv
                        have hF1 : frF q k jb ja = 1 := by rw [frF, HNE.out, HBV.out, if_pos hnb]
                        obtain ⟨P, hP⟩ : ∃ P, P = jb * Cc := ⟨_, rfl⟩
                        obtain ⟨p1, p2, p3, p4, p5⟩ := ixR hjR hjC (by omega) (by omega) hP
                        clear p2
                        rw [HLk.out] at p3 p4 p5
                        have hat := frS_at q k (frI q k ja jb) hkn
                        have hput := HOw.out.putMx (i := P + ja) (z := 1) hat (by simp only [mxF]; rw [flat_length, HR.out, HC.out, HLk.out]; exact p4) (by unfold I64; omega)
                        obtain ⟨g, cg, gr, cr, eg, _, z2, ⟨u0, z3⟩, z4, hcg, hcr, ⟨hgr1, hgr2⟩, _, hnew⟩ := hput
                        simp only [mxF] at z2 hcr hnew
                        rw [flat_length, HR.out, HC.out, HLk.out] at z2 hcr
                        simp only [Value.slice.injEq] at eg
                        rw [msF_length] at eg hcg
                        obtain ⟨eg1, el, eg2⟩ := eg
                        clear el
                        subst eg1
                        subst eg2
                        have hst := frS_set q k n (frI q k ja jb) (g' := frI q k ja (jb + 1)) (l := (flat (rtQ q (k + 1)).length (rtQ q k).length (frI q k ja jb)).set (P + ja) 1) (by
                          rw [hP, ← HC.out]
                          exact frI_put (by rw [HC.out]; exact hjC) (by rw [HR.out]; exact hjR) hF1)
                        rw [hst] at hnew
                        have o5 := HBw.out.cell' (i := 5) rfl
                        obtain ⟨W14, hW14⟩ : ∃ u, wh.setCell ⟨gr, P + ja, none⟩ (.int .i64 1) = u := ⟨_, rfl⟩
                        rw [hW14] at hnew
                        have hch3 : Chg gr (gr + 1) wh W14 := by rw [← hW14]; exact chg_set1 _ _ _ _
                        have HREP := Lib.hid hnew
                        have hb14 := Lib.hid (Hbw.out.trans (hch3.below (B := w6.heap.size) hgr1 (by omega)))
                        have HCH14 := Lib.hid (HCHw.out.trans (hch3.wider hgr1 (by omega)))
                        clear hnew hch3 hst hat hF1 hnb hP
                        go_wp2
                        clear hW14 z3 z4 z2 o5 p1
                        refine ⟨⟨jb + 1, by omega, by go_num, hb14.out, HCH14.out, HREP.out⟩, ?_⟩
                        simp [intOf]; omega
                      · have hd : (nx == bv) = false := by rw [beq_eq_false_iff_ne]; exact hnb
                        have hF0 : frF q k jb ja = 0 := by rw [frF, HNE.out, HBV.out, if_neg hnb]
                        have hst := Lib.hid (frS_congr q k n (frI_no (q := q) (t := k) (a := ja) (b := jb) (R := (rtQ q (k + 1)).length) (C := (rtQ q k).length) hF0))
                        clear hF0 hnb
                        go_wp2
                        refine ⟨⟨jb + 1, by omega, by go_num, Hbw.out, HCHw.out, by rw [← hst.out]; exact HOw.out⟩, ?_⟩
                        simp [intOf]; omega
                  · obtain rfl : jb = R := by omega
                    have hst := frS_congr q k n (g := frI q k ja jb) (g' := frI q k (ja + 1) 0) (by
                      have := frI_next q k ja (rtQ q (k + 1)).length (rtQ q k).length
                      rwa [HR.out] at this ⊢)
                    rw [hst] at hO
                    have HO1 := Lib.hid hO
                    have Hb1 := Lib.hid hb
                    have HCH1 := Lib.hid hch
                    have hjC := HJC.out
                    clear hO hb hch hst
                    go_wp2
                    go_roundw
                    case rel => exact ⟨ja + 1, by omega, by go_num, Hb1.out, HCH1.out, HO1.out⟩
                    case measure => simp [intOf]; omega
              · obtain rfl : ja = Cc := by omega
                have hnext := frS_next q k n (g := frI q k ja 0) (g' := frI q (k + 1) 0 0) (fun a i _ hi => by rw [frI, if_pos (.inl (by have := HC.out; omega))]) (frI_0 q (k + 1))
                rw [hnext] at hO
                have HO1 := Lib.hid hO
                have Hb1 := Lib.hid hb
                have HBr := Lib.hid (HBd.out.chg hch (.inr (Nat.le_refl _)))
                have hl' : w7.heap.size < wr.heap.size := by omega
                clear hO hb hch hnext
                go_wp2
                go_roundw
                case rel => exact ⟨k + 1, by omega, by go_num, Hb1.out, HBr.out, HO1.out, hl'⟩
                case measure => simp [intOf]; omega
          · obtain rfl : k = n := by omega
            have hkS : ¬ (k : Int) + 1 < q.stages := by have := HSV.out; omega
            have hw6 := GW6.out.size
            have kz := k2.call gWr
            have fr := kz.frozen
            have s0 := kz.cell' (i := 0) rfl
            have s1 := kz.cell' (i := 1) rfl
            have s2 := kz.cell' (i := 2) rfl
            have s3 := kz.cell' (i := 3) rfl
            have s4 := kz.cell' (i := 4) rfl
            have s5 := kz.cell' (i := 5) rfl
            have r0 := hB.cell' (i := 0) rfl
            have r1 := hB.cell' (i := 1) rfl
            have r2 := hB.cell' (i := 2) rfl
            have r3 := hB.cell' (i := 3) rfl
            have r4 := hB.cell' (i := 4) rfl
            have r5 := hB.cell' (i := 5) rfl
            have gf := g0.trans (gWr.mono g0.size)
            have hc6 := chg6 wr (w0.heap.size + 1) (.int .i64 p) (.int .i64 q.stages) (.slice QA k qa) (.slice QB k qb) (.slice DA t dc) (.slice HM k hm)
            have OF := Lib.hid ((hO.chg hc6 (.inr (by have := SZ.out; omega))).rd)
            have GF := Lib.hid (gf.trans (hc6.below (by omega) gf.size))
            have HRS := Lib.hid (frS_end q k (frI q k 0 0))
            clear hO hB kz gf hc6 hb gWr kr
            go_wp2
            have hE := HE.out
            exact bodyPost_ret (v := .tuple #[.agg #[.int .i64 p, .int .i64 q.stages, .slice QA k qa, .slice QB k qb, .slice DA t dc, .slice HM k hm], .bool true]) (by simp [results, go_sem, s0, s1, s2, s3, s4, s5]) rfl ⟨_, by rw [hE], by rw [hE, frR, HN.out, ← HRS.out]; exact OF.out, GF.out⟩
end Go.Proofs.Ytcmlflppndfdcaa

/- Sizes of representations of graphs that grow. -/
namespace Go.Proofs.Ytcmlflppndfdcaa
set_option linter.unusedVariables false
set_option linter.unusedSimpArgs false
open Go.RowKit

theorem frP_size (p : Int) (q : Filt) : (frP p q).1.size ≤ 1000 := by
  unfold frP
  split
  · rename_i h
    simp only [Bool.and_eq_true, frOk] at h
    have hq := h.1.2
    obtain ⟨hl1, hl2, hl3, hl4, hl5⟩ := isF_lens hq
    have hS : inR q.stages 1 5 = true := inR_t.2 ⟨hl4, hl5⟩
    obtain ⟨ll1, ll2, ll3⟩ := line_len hS
    have hm : ∀ m ∈ (frR p q).m, m.a.length ≤ 16 := by
      intro m hm
      obtain ⟨i, hi, rfl⟩ := msF_mem hm
      simp only [mxF, flat_length]
      have h1 := rtQ_le q (i + 1)
      have h2 := rtQ_le q i
      exact Nat.le_trans (Nat.mul_le_mul (show (rtQ q (i + 1)).length ≤ 4 by omega) (show (rtQ q i).length ≤ 4 by omega)) (by decide)
    have h5 := totA_le (ms := (frR p q).m) (n := 16) hm
    have hl : (frR p q).m.length = (lineQ q.stages).f.length := msF_length _ _
    have hd : (frR p q).d.length = q.stages.toNat := rowF_length _ _
    have hf : (frR p q).q = lineQ q.stages := rfl
    simp only [Rp.size, Qv.size, szM]
    rw [hd, hf, hl]
    rw [hl] at h5
    omega
  · decide
end Go.Proofs.Ytcmlflppndfdcaa
