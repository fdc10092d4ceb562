/- FnFiltrations: the law holds for every argument. Part 12 of 18 of the proof: StbS, StbK, ElA, ElB, ElC, FltA, FltB. No condition. -/
import Derived.Test.YtgabmemalaklbaaGreatBFiltrations11
import Derived.Shelf.SlSortCmp.Insertion
import Derived.Ground.SlsfProg
import Derived.Lib.OwnBridge
/- slices.SortStableFunc at [][]int: at most 20 rows. -/
namespace Go.Proofs
open Go.Shelf
def Tryz.laysIns_ren : Go.Shelf.Ren := ⟨fun | 20 => 85 | n => n, fun | 24 => 24 | 22 => 25 | 3 => 3 | 25 => 68 | 4 => 4 | 0 => 0 | n => n, fun | n => n⟩
theorem Tryz.laysIns : Go.Proofs.SlLaysF.n20 Tryz.prog Tryz.laysIns_ren := {
  mixed := by kernel_rfl
  f20 := ⟨Tryz.f85.name, by decide, Tryz.func85.trans (congrArg some (by kernel_rfl))⟩
  t0 := Tryz.underlying0
  a0 := Tryz.isAgg0
  z0 := Tryz.sizeOf0
  v0 := Tryz.zeroValue0
  t3 := Tryz.underlying3
  a3 := Tryz.isAgg3
  z3 := Tryz.sizeOf3
  v3 := Tryz.zeroValue3
  t4 := Tryz.underlying4
  a4 := Tryz.isAgg4
  z4 := Tryz.sizeOf4
  v4 := Tryz.zeroValue4
  t22 := Tryz.underlying25
  a22 := Tryz.isAgg25
  z22 := Tryz.sizeOf25
  v22 := Tryz.zeroValue25
  a24 := Tryz.isAgg24
  z24 := Tryz.sizeOf24
  t25 := Tryz.underlying68
  a25 := Tryz.isAgg68
  z25 := Tryz.sizeOf68
  v25 := Tryz.zeroValue68 }
end Go.Proofs
namespace Go.Proofs.YtgabmemalaklbaaGreat
set_option linter.unusedVariables false
set_option linter.unusedSimpArgs false
open Go.RowKit Go.Sort

theorem insS_self (lt : Nat → Nat → Bool) (d : Array Nat) (n : Nat) : insertionSort lt d n n = d := by
  rw [insertionSort, oStop _ _ _ _ _ (by omega)]
theorem insI_size (lt : Nat → Nat → Bool) (a : Nat) : ∀ (j : Nat) (d : Array Nat), (insInner lt a j d).size = d.size
  | 0, d => rfl
  | j + 1, d => by
    rw [insInner]
    split
    · rw [insI_size lt a j]; exact swp_size _ _ _
    · rfl
theorem insO_size (lt : Nat → Nat → Bool) (a b : Nat) : ∀ (m i : Nat) (d : Array Nat), b - i ≤ m → (insOuter lt a b i d).size = d.size
  | 0, i, d, h => by rw [oStop _ _ _ _ _ (by omega)]
  | m + 1, i, d, h => by
    by_cases hi : i < b
    · rw [oGo _ _ _ _ _ hi, insO_size lt a b m _ _ (by omega), insI_size]
    · rw [oStop _ _ _ _ _ hi]
theorem insS_size (lt : Nat → Nat → Bool) (d : Array Nat) (a b : Nat) : (insertionSort lt d a b).size = d.size := insO_size lt a b _ _ _ (Nat.le_refl _)

set_option maxRecDepth 100000 in
set_option maxHeartbeats 1600000 in
theorem stable20 (enc : Nat → Value) (hO : OneCell enc) (cf : Nat → Nat → Int) (g blk cap N : Nat) (d : Array Nat) (w : World) (hN : d.size = N) (eg : ∀ args w, (callFunc g args).run Tryz.prog w = .ok (.enter g args) w)
    (hcmp : CmpReads Tryz.prog g #[] enc cf blk 0 d.size w) (hH : Holds enc w blk 0 d) (hblk : blk < w.heap.size) (h20 : N ≤ 20) :
    Calls Tryz.prog 71 #[.slice (some ⟨blk, 0, none⟩) N cap, .int .i64 N, .func (.func g) #[] #[]] w fun e w' => e = .returned (.tuple #[]) ∧ ∃ n, w' = sortWorld enc w blk 0 n (insertionSort (ltOf cf) d 0 N) #[] := by
  have h1 := Any.insertionSortCmpFunc_one Tryz.laysIns enc hO cf g #[] blk 0 cap 0 N d w eg hcmp hH (Nat.zero_le _) (by omega) (by omega)
  change Calls Tryz.prog 85 _ _ _ at h1
  rw [hN] at h1
  by_cases h : N = 20
  · subst h
    have h2 : Hid (∀ n : Nat, Calls Tryz.prog 85 #[.slice (some ⟨blk, 0, none⟩) 20 cap, .int .i64 (20 : Nat), .int .i64 (20 : Nat), .func (.func g) #[] #[]] ((putRow enc w blk 0 (insertionSort (ltOf cf) d 0 20)).drewN n) fun e w' => e = .returned (.tuple #[]) ∧ ∃ m, w' = sortWorld enc w blk 0 m (insertionSort (ltOf cf) d 0 20) #[]) := by
      intro n
      have hs : (insertionSort (ltOf cf) d 0 20).size = 20 := by rw [insS_size, hN]
      obtain ⟨d', hd'⟩ : ∃ d', insertionSort (ltOf cf) d 0 20 = d' := ⟨_, rfl⟩
      rw [hd'] at hs ⊢
      have hw := sortWorld_none enc w blk 0 n d'
      have hH' : Holds enc (sortWorld enc w blk 0 n d' #[]) blk 0 d' := holds_sortWorld enc w blk 0 n d d' #[] hblk hH (by omega)
      have hc' : CmpReads Tryz.prog g #[] enc cf blk 0 d'.size (sortWorld enc w blk 0 n d' #[]) := by
        intro m os dk hdk x y
        rw [sortWorld_on enc w blk 0 n m d' dk #[] os hblk hdk]
        exact hcmp _ _ dk (by omega) x y
      have h3 := Any.insertionSortCmpFunc_one Tryz.laysIns enc hO cf g #[] blk 0 cap 20 20 d' _ eg hc' hH' (Nat.le_refl _) (by omega) (by omega)
      change Calls Tryz.prog 85 _ _ _ at h3
      rw [hs] at h3
      rw [← hw]
      refine h3.mono ?_
      rintro e w' ⟨rfl, m, rfl⟩
      refine ⟨rfl, n + m, ?_⟩
      rw [insS_self, putRow_self enc _ blk 0 d' hH', sortWorld_none, sortWorld_none, World.drewN_drewN]
    clear hH hcmp eg hN
    go_enter Tryz.func71, Tryz.ntmps71
    go_wp2
    refine wp_loop_rounds 2 ?_
    rw [rounds_succ]
    go_wp2_with fail
    refine h1.mono ?_; rintro e w1 ⟨rfl, n, rfl⟩
    clear h1
    obtain ⟨W, hW⟩ : ∃ W, (putRow enc w blk 0 (insertionSort (ltOf cf) d 0 20)).drewN n = W := ⟨_, rfl⟩
    have h3 := h2.out n
    rw [hW] at h3 ⊢
    clear hW h2
    go_wp2
    rw [rounds_succ]
    go_wp2_with fail
    refine h3.mono ?_; rintro e w2 ⟨rfl, m, hm⟩
    have HM := Lib.hid hm
    clear h3 hm
    go_wp2
    refine wp_loop_rounds 1 ?_
    rw [rounds_succ]
    go_wp2
    go_end0
    exact ⟨rfl, m, HM.out⟩
  · have hlt : ¬ (20 : Int) ≤ (N : Int) := by omega
    have hlt2 : ¬ (20 : Int) < (N : Int) := by omega
    clear hH hcmp eg
    have HN := Lib.hid hN
    clear hN h
    go_enter Tryz.func71, Tryz.ntmps71
    go_wp2
    refine wp_loop_rounds 1 ?_
    rw [rounds_succ]
    go_wp2_with fail
    refine h1.mono ?_; rintro e w1 ⟨rfl, n, hn⟩
    have HW := Lib.hid hn
    clear h1 hn
    go_wp2
    refine wp_loop_rounds 1 ?_
    rw [rounds_succ]
    go_wp2
    go_end0
    exact ⟨rfl, n, by rw [HW.out, sortWorld_none]⟩
set_option maxHeartbeats 400000 in
theorem sortStable20 (enc : Nat → Value) (hO : OneCell enc) (cf : Nat → Nat → Int) (g blk cap N : Nat) (d : Array Nat) (w : World) (hN : d.size = N) (eg : ∀ args w, (callFunc g args).run Tryz.prog w = .ok (.enter g args) w)
    (hcmp : CmpReads Tryz.prog g #[] enc cf blk 0 d.size w) (hH : Holds enc w blk 0 d) (hblk : blk < w.heap.size) (h20 : N ≤ 20) :
    Calls Tryz.prog 43 #[.slice (some ⟨blk, 0, none⟩) N cap, .func (.func g) #[] #[]] w fun e w' => e = .returned (.tuple #[]) ∧ ∃ n, w' = sortWorld enc w blk 0 n (insertionSort (ltOf cf) d 0 N) #[] := by
  have h1 := stable20 enc hO cf g blk cap N d w hN eg hcmp hH hblk h20
  clear hH hcmp eg hN
  go_enter Tryz.func43, Tryz.ntmps43
  go_wp2_with fail
  refine h1.mono ?_; rintro e w1 ⟨rfl, n, hn⟩
  have HW := Lib.hid hn
  clear h1 hn
  go_wp2
  go_end0
  exact ⟨rfl, n, HW.out⟩
theorem grownBy_sortWorld (enc : Nat → Value) (w : World) (q g : Nat) (d : Array Nat) (os : Array Obj) : w.grownBy (sortWorld enc w g 0 q d os) (some g) := by
  refine ⟨rfl, rfl, rfl, by simp [sortWorld, putRow, mapBlock, Sort.ahead], fun k hk hne => ?_⟩
  unfold sortWorld
  rw [heap_grow_old _ _ (by simpa [putRow, mapBlock, Sort.ahead] using hk)]
  have : g ≠ k := fun e => hne (by rw [e])
  simp [putRow, mapBlock, Sort.ahead, Array.getElem?_modify, this]
end Go.Proofs.YtgabmemalaklbaaGreat

/- A stable sort of at most twenty rows by a number of each. -/
namespace Go.Proofs.YtgabmemalaklbaaGreat
set_option linter.unusedVariables false
set_option linter.unusedSimpArgs false
open Go.RowKit Go.Sort Go.Shelf

def ltK (K : Nat → Int) (i j : Nat) : Bool := decide (K i < K j)
def ltKT (K : Nat → Int) (i j : Nat) : Bool := decide (K i < K j ∨ (K i = K j ∧ i < j))
theorem insI_eqK (K : Nat → Int) (n i : Nat) (hin : i < n) : ∀ (j : Nat) (d : Array Nat), j ≤ i → d.size = n → d[j]! = i → (∀ k, k < j → d[k]! < i) → (∀ k, k ≤ i → d[k]! ≤ i) → (∀ k, i < k → k < n → d[k]! = k) →
    insInner (ltK K) 0 j d = insInner (ltKT K) 0 j d ∧ StIx n (i + 1) (insInner (ltK K) 0 j d)
  | 0, d, _, hs, _, _, h1, h2 => ⟨rfl, hs, fun k hk => by have := h1 k (by omega); show (insInner (ltK K) 0 0 d)[k]! < _; simp only [insInner]; omega, fun k h h' => h2 k (by omega) h'⟩
  | j + 1, d, hj, hs, he, hlt, h1, h2 => by
    have h3 := hlt j (by omega)
    have hc : ltK K d[j + 1]! d[j]! = ltKT K d[j + 1]! d[j]! := by
      simp only [ltK, ltKT, he]
      congr 1
      apply propext
      constructor
      · intro h; exact .inl h
      · rintro (h | ⟨_, h⟩)
        · exact h
        · omega
    simp only [insInner, hc]
    split
    · refine insI_eqK K n i hin j (swp d (j + 1) j) (by omega) (by rw [swp_size]; exact hs) ?_ (fun k hk => ?_) (fun k hk => ?_) (fun k hk hk2 => ?_)
      · rw [swp_at _ _ _ _ (by omega) (by omega), if_pos rfl, he]
      · rw [swp_at _ _ _ _ (by omega) (by omega), if_neg (by omega), if_neg (by omega)]; exact hlt k (by omega)
      · rw [swp_at _ _ _ _ (by omega) (by omega)]
        split
        · omega
        · split
          · omega
          · exact h1 k hk
      · rw [swp_at _ _ _ _ (by omega) (by omega), if_neg (by omega), if_neg (by omega)]; exact h2 k hk hk2
    · exact ⟨rfl, hs, fun k hk => by have := h1 k (by omega); omega, fun k h h' => h2 k (by omega) h'⟩
theorem insO_eqK (K : Nat → Int) (n : Nat) : ∀ (m i : Nat) (d : Array Nat), n - i ≤ m → StIx n i d → insOuter (ltK K) 0 n i d = insOuter (ltKT K) 0 n i d
  | 0, i, d, hm, h => by rw [oStop _ _ _ _ _ (by omega), oStop _ _ _ _ _ (by omega)]
  | m + 1, i, d, hm, h => by
    by_cases hi : i < n
    · rw [oGo _ _ _ _ _ hi, oGo _ _ _ _ _ hi]
      have h4 := insI_eqK K n i hi i d (Nat.le_refl _) h.size (h.hi i (Nat.le_refl _) hi) h.lo (fun k hk => by
        rcases Nat.lt_or_ge k i with h5 | h5
        · have := h.lo k h5; omega
        · have := h.hi k h5 (by omega); omega) (fun k hk hk2 => h.hi k (by omega) hk2)
      rw [← h4.1]
      exact insO_eqK K n m (i + 1) _ (by omega) h4.2
    · rw [oStop _ _ _ _ _ hi, oStop _ _ _ _ _ hi]
theorem ltKT_swo (K : Nat → Int) : SWO (ltKT K) := by
  refine ⟨fun x => ?_, fun x y z h k => ?_, fun x y z h k => ?_⟩
  · simp [ltKT]
  · simp [ltKT] at h k ⊢; omega
  · simp [ltKT] at h k ⊢; omega
def srtK (K : Nat → Int) (n : Nat) : List Nat := (insertionSort (ltK K) (rngA n) 0 n).toList
theorem srtK_spec (K : Nat → Int) (n : Nat) : (srtK K n).Perm (List.range n) ∧ (srtK K n).Pairwise fun i j => ltKT K i j = true := by
  have h0 : ∀ k, k < n → (rngA n)[k]! = k := fun k hk => by simp [rngA, hk]
  have e : insertionSort (ltK K) (rngA n) 0 n = insertionSort (ltKT K) (rngA n) 0 n := by
    rcases Nat.eq_zero_or_pos n with h | h
    · subst h; simp [insertionSort, insOuter]
    · exact insO_eqK K n n 1 _ (by omega) ⟨by simp [rngA], fun k hk => by rw [h0 k (by omega)]; exact hk, fun k _ hk => h0 k hk⟩
  obtain ⟨⟨hs, _, hp⟩, hso⟩ := insertionSort_holds (lt := ltKT K) (ltKT_swo K) (rngA n) 0 n (Nat.zero_le _) (by simp [rngA])
  rw [← e] at hs hp hso
  have hs' : (insertionSort (ltK K) (rngA n) 0 n).size = n := by rw [hs]; simp [rngA]
  have hp' : (srtK K n).Perm (List.range n) := by
    rw [srtK]
    have e1 : (insertionSort (ltK K) (rngA n) 0 n).extract 0 n = insertionSort (ltK K) (rngA n) 0 n := Array.extract_eq_self_of_le (by omega)
    have e2 : (rngA n).extract 0 n = rngA n := Array.extract_eq_self_of_le (by simp [rngA])
    rw [e1, e2] at hp
    simpa [rngA] using hp
  refine ⟨hp', ?_⟩
  have hnd : (srtK K n).Nodup := hp'.nodup_iff.2 List.nodup_range
  rw [List.pairwise_iff_getElem]
  intro i j hi hj hij
  have hne : (srtK K n)[i] ≠ (srtK K n)[j] := fun h => by
    exact (List.pairwise_iff_getElem.1 hnd) i j hi hj hij h
  have hz : (srtK K n).length = n := by simp [srtK, hs']
  have := hso i j (Nat.zero_le _) hij (by omega)
  have g1 : (insertionSort (ltK K) (rngA n) 0 n)[i]! = (srtK K n)[i] := by simp only [srtK, Array.getElem_toList]; exact getElem!_pos _ i (by omega)
  have g2 : (insertionSort (ltK K) (rngA n) 0 n)[j]! = (srtK K n)[j] := by simp only [srtK, Array.getElem_toList]; exact getElem!_pos _ j (by omega)
  rw [g1, g2] at this
  simp [ltKT] at this ⊢
  omega
end Go.Proofs.YtgabmemalaklbaaGreat

/- Bars counted, plain: inserting one by one gives the sorted list of the different ones with their numbers. -/
namespace Go.Proofs.YtgabmemalaklbaaGreat
set_option linter.unusedVariables false
set_option linter.unusedSimpArgs false
open Go.RowKit

def keyLt (x y : Bar) : Bool := decide (x.1 < y.1 ∨ x.1 = y.1 ∧ x.2.1 < y.2.1)
theorem keyLt_irrefl (x : Bar) : keyLt x x = false := by simp [keyLt]
theorem keyLt_asymm (x y : Bar) (h : keyLt x y = true) : keyLt y x = false := by simp [keyLt] at h ⊢; omega
/-- one more bar -/
def cbIns : List Bar → Bar → List Bar
  | [], b => [(b.1, b.2.1, 1)]
  | x :: r, b => if cmpB x b < 0 then x :: cbIns r b else if cmpB x b = 0 then (x.1, x.2.1, x.2.2 + 1) :: r else (b.1, b.2.1, 1) :: x :: r
def look (l : List Bar) (v w : Int) : Int := (l.map fun x => if x.1 = v ∧ x.2.1 = w then x.2.2 else 0).sum
theorem look_nil (v w : Int) : look [] v w = 0 := rfl
theorem look_cons (x : Bar) (l : List Bar) (v w : Int) : look (x :: l) v w = (if x.1 = v ∧ x.2.1 = w then x.2.2 else 0) + look l v w := by simp [look]
theorem look_ins (b : Bar) (v w : Int) : ∀ l : List Bar, look (cbIns l b) v w = look l v w + if b.1 = v ∧ b.2.1 = w then 1 else 0
  | [] => by rw [cbIns, look_cons, look_nil]; simp
  | x :: r => by
    rw [cbIns]
    split
    · rw [look_cons, look_cons, look_ins b v w r]; omega
    · split
      · rename_i h
        rw [cmpB_0] at h
        rw [look_cons, look_cons]
        simp only [h.1, h.2]
        split <;> omega
      · rw [look_cons, look_cons]
        simp only
        omega
theorem ins_mem {b y : Bar} : ∀ {l : List Bar}, y ∈ cbIns l b → (y.1 = b.1 ∧ y.2.1 = b.2.1) ∨ ∃ z ∈ l, z.1 = y.1 ∧ z.2.1 = y.2.1
  | [], h => by simp [cbIns] at h; subst h; exact .inl ⟨rfl, rfl⟩
  | x :: r, h => by
    rw [cbIns] at h
    split at h
    · rcases List.mem_cons.1 h with rfl | h
      · exact .inr ⟨y, by simp, rfl, rfl⟩
      · rcases ins_mem h with h | ⟨z, hz, h⟩
        · exact .inl h
        · exact .inr ⟨z, by simp [hz], h⟩
    · split at h
      · rcases List.mem_cons.1 h with rfl | h
        · exact .inr ⟨x, by simp, rfl, rfl⟩
        · exact .inr ⟨y, by simp [h], rfl, rfl⟩
      · rcases List.mem_cons.1 h with rfl | h
        · exact .inl ⟨rfl, rfl⟩
        · exact .inr ⟨y, h, rfl, rfl⟩
def srtB (l : List Bar) : Prop := l.Pairwise fun x y => keyLt x y = true
theorem ins_sorted {b : Bar} : ∀ {l : List Bar}, srtB l → srtB (cbIns l b)
  | [], _ => by simp [cbIns, srtB]
  | x :: r, h => by
    have h' := h
    rw [srtB, List.pairwise_cons] at h'
    rw [cbIns]
    split
    · rename_i hc
      rw [cmpB_neg] at hc
      rw [srtB, List.pairwise_cons]
      refine ⟨fun y hy => ?_, ins_sorted h'.2⟩
      rcases ins_mem hy with e | ⟨z, hz, e⟩
      · simp only [keyLt, decide_eq_true_eq, e.1, e.2]; exact hc
      · have := h'.1 z hz
        simp only [keyLt, decide_eq_true_eq] at this ⊢
        rw [← e.1, ← e.2]; exact this
    · split
      · rw [srtB, List.pairwise_cons]
        exact ⟨fun y hy => h'.1 y hy, h'.2⟩
      · rename_i h1 h2
        rw [cmpB_neg] at h1
        rw [cmpB_0] at h2
        have hbx : keyLt (b.1, b.2.1, 1) x = true := by simp only [keyLt, decide_eq_true_eq]; omega
        rw [srtB, List.pairwise_cons]
        refine ⟨fun y hy => ?_, h⟩
        rcases List.mem_cons.1 hy with rfl | hy
        · exact hbx
        · have := h'.1 y hy
          simp only [keyLt, decide_eq_true_eq] at this hbx ⊢
          omega
def posB (l : List Bar) : Prop := ∀ x ∈ l, 0 < x.2.2
theorem ins_pos {b : Bar} : ∀ {l : List Bar}, posB l → posB (cbIns l b)
  | [], _ => by intro y hy; simp [cbIns] at hy; subst hy; show (0 : Int) < 1; omega
  | x :: r, h => by
    intro y hy
    rw [cbIns] at hy
    have hx := h x (by simp)
    have hr : posB r := fun z hz => h z (by simp [hz])
    split at hy
    · rcases List.mem_cons.1 hy with rfl | hy
      · exact hx
      · exact ins_pos hr y hy
    · split at hy
      · rcases List.mem_cons.1 hy with rfl | hy
        · show 0 < x.2.2 + 1; omega
        · exact hr y hy
      · rcases List.mem_cons.1 hy with rfl | hy
        · show (0 : Int) < 1; omega
        · exact h y hy
theorem look_out {v w : Int} : ∀ {l : List Bar}, (∀ x ∈ l, ¬ (x.1 = v ∧ x.2.1 = w)) → look l v w = 0
  | [], _ => rfl
  | x :: r, h => by rw [look_cons, if_neg (h x (by simp)), look_out fun y hy => h y (by simp [hy])]; rfl
theorem look_mem : ∀ {l : List Bar}, srtB l → posB l → ∀ y : Bar, (y ∈ l ↔ look l y.1 y.2.1 = y.2.2 ∧ 0 < y.2.2)
  | [], _, _, y => by rw [look_nil]; constructor
                      · intro h; simp at h
                      · intro h; omega
  | x :: r, hs, hp, y => by
    rw [srtB, List.pairwise_cons] at hs
    have hr : posB r := fun z hz => hp z (by simp [hz])
    have hx := hp x (by simp)
    have ih := look_mem hs.2 hr y
    rw [look_cons, List.mem_cons]
    by_cases hk : x.1 = y.1 ∧ x.2.1 = y.2.1
    · have h0 : look r y.1 y.2.1 = 0 := look_out fun z hz hzk => by
        have := hs.1 z hz
        simp only [keyLt, decide_eq_true_eq] at this
        omega
      rw [if_pos hk, h0]
      constructor
      · rintro (rfl | h)
        · exact ⟨by omega, hx⟩
        · rw [ih, h0] at h; omega
      · rintro ⟨h1, h2⟩
        left
        obtain ⟨x1, x2, x3⟩ := x
        obtain ⟨y1, y2, y3⟩ := y
        simp only at hk h1
        rw [hk.1, hk.2, show x3 = y3 by omega]
    · rw [if_neg hk, Int.zero_add, ← ih]
      constructor
      · rintro (rfl | h)
        · exact absurd ⟨rfl, rfl⟩ hk
        · exact h
      · intro h; exact .inr h
def cbAll (L : List Bar) : List Bar := L.foldl cbIns []
def cntB (L : List Bar) (v w : Int) : Int := (L.map fun b => if b.1 = v ∧ b.2.1 = w then (1 : Int) else 0).sum
theorem cntB_nil (v w : Int) : cntB [] v w = 0 := rfl
theorem cntB_cons (b : Bar) (L : List Bar) (v w : Int) : cntB (b :: L) v w = (if b.1 = v ∧ b.2.1 = w then 1 else 0) + cntB L v w := by simp [cntB]
theorem cntB_app (L M : List Bar) (v w : Int) : cntB (L ++ M) v w = cntB L v w + cntB M v w := by simp [cntB]
theorem cntB_pos {v w : Int} : ∀ {L : List Bar}, 0 < cntB L v w → ∃ b ∈ L, b.1 = v ∧ b.2.1 = w
  | [], h => by rw [cntB_nil] at h; omega
  | b :: L, h => by
    by_cases hk : b.1 = v ∧ b.2.1 = w
    · exact ⟨b, by simp, hk⟩
    · rw [cntB_cons, if_neg hk, Int.zero_add] at h
      obtain ⟨c, hc, h⟩ := cntB_pos h
      exact ⟨c, by simp [hc], h⟩
theorem fold_ins : ∀ (L l : List Bar), srtB l → posB l → srtB (L.foldl cbIns l) ∧ posB (L.foldl cbIns l) ∧ ∀ v w, look (L.foldl cbIns l) v w = look l v w + cntB L v w
  | [], l, hs, hp => ⟨hs, hp, fun v w => by rw [cntB_nil, Int.add_zero]; rfl⟩
  | b :: L, l, hs, hp => by
    obtain ⟨h1, h2, h3⟩ := fold_ins L (cbIns l b) (ins_sorted hs) (ins_pos hp)
    exact ⟨h1, h2, fun v w => by rw [List.foldl_cons, h3, look_ins, cntB_cons]; omega⟩
/-- what is told by its numbers -/
theorem cbAll_eq {L M : List Bar} (hs : srtB M) (hm : ∀ y : Bar, y ∈ M ↔ cntB L y.1 y.2.1 = y.2.2 ∧ 0 < y.2.2) : cbAll L = M := by
  obtain ⟨h1, h2, h3⟩ := fold_ins L [] (by simp [srtB]) (by intro x hx; simp at hx)
  refine strict_unique keyLt_irrefl keyLt_asymm _ _ h1 hs fun y => ?_
  have := look_mem h1 h2 y
  rw [h3, look_nil, Int.zero_add] at this
  rw [hm]
  exact this
theorem ins_len (b : Bar) : ∀ l : List Bar, (cbIns l b).length ≤ l.length + 1
  | [] => by simp [cbIns]
  | x :: r => by
    rw [cbIns]
    have := ins_len b r
    split
    · simp; omega
    · split <;> simp
end Go.Proofs.YtgabmemalaklbaaGreat

/- ElderBars, plain: the rule of the elder. -/
namespace Go.Proofs.YtgabmemalaklbaaGreat
set_option linter.unusedVariables false
set_option linter.unusedSimpArgs false
open Go.RowKit

structure EbS where
  head : List Int
  last : List Int
  out : List Bar
/-- whether b is older than a -/
def ebX (bi : List Int) (a b : Int) : Bool := decide (vx bi b.toNat < vx bi a.toNat ∨ (vx bi b.toNat = vx bi a.toNat ∧ b < a))
def ebElder (bi : List Int) (a b : Int) : Int := if ebX bi a b then b else a
def ebOther (bi : List Int) (a b : Int) : Int := if ebX bi a b then a else b
def ebJoin (bi : List Int) (t : Int) (s : EbS) (x y : Int) : EbS :=
  ⟨s.head.map fun h => if h = y then x else h, s.last.set y.toNat (t - 1), if vx bi y.toNat ≤ t - 1 then s.out ++ [(vx bi y.toNat, t - 1, 0)] else s.out⟩
def ebA (s : EbS) (e : List Int) : Int := vx s.head (vx e 0).toNat
def ebB (s : EbS) (e : List Int) : Int := vx s.head (vx e 1).toNat
def ebStep (bi : List Int) (s : EbS) (e : List Int) : EbS :=
  if ebA s e = ebB s e then s else ebJoin bi (vx e 2) s (ebElder bi (ebA s e) (ebB s e)) (ebOther bi (ebA s e) (ebB s e))
def ebInit (n : Nat) (S : Int) : EbS := ⟨(List.range n).map fun i : Nat => (i : Int), List.replicate n (S - 1), []⟩
def sortE (S : Int) (l : List (List Int)) : List (List Int) := (List.range S.toNat).flatMap fun t : Nat => l.filter fun e => vx e 2 == (t : Int)
def ebRun (f : Filt) : EbS := (sortE f.stages f.ends).foldl (ebStep f.birth) (ebInit f.birth.length f.stages)
def ebFin (f : Filt) (s : EbS) : List Bar := s.out ++ ((List.range f.birth.length).filter fun i => vx s.head i == (i : Int)).map fun i => (vx f.birth i, f.stages - 1, 0)
def spCnt (f : Filt) (s : EbS) (v w : Int) : Int := sm f.birth.length fun i => if vx f.birth i = v ∧ vx s.last i = w then 1 else 0
def spEl (f : Filt) (s : EbS) (v w : Nat) : List Bar := if 0 < spCnt f s v w then [((v : Int), (w : Int), spCnt f s v w)] else []
def spRow (f : Filt) (s : EbS) (v k : Nat) : List Bar := (List.range k).flatMap fun d => spEl f s v (v + d)
def spTo (f : Filt) (s : EbS) (k : Nat) : List Bar := (List.range k).flatMap fun v => spRow f s v (f.stages.toNat - v)
def spBars (f : Filt) (s : EbS) : List Bar := spTo f s f.stages.toNat
/-! ### small things -/
theorem vx_memE {l : List Int} {k : Nat} (h : k < l.length) : vx l k ∈ l := by
  simp only [vx, List.getD_eq_getElem?_getD, List.getElem?_eq_getElem h, Option.getD_some]; exact List.getElem_mem h
theorem vx_map (g : Int → Int) {l : List Int} {i : Nat} (h : i < l.length) : vx (l.map g) i = g (vx l i) := by
  simp [vx, List.getD_eq_getElem?_getD, h]
theorem vx_set {l : List Int} {j : Nat} (hj : j < l.length) (x : Int) (i : Nat) : vx (l.set j x) i = if i = j then x else vx l i := by
  simp only [vx, List.getD_eq_getElem?_getD, List.getElem?_set]
  by_cases h : j = i
  · subst h; simp [hj]
  · rw [if_neg h, if_neg (fun e => h e.symm)]
theorem sm_ind (n : Nat) (y : Nat) (hy : y < n) (c : Int) : (sm n fun i => if i = y then c else 0) = c := by
  rw [sm_one (k := y) n hy fun i _ hi => by rw [if_neg hi], if_pos rfl]
structure EbI (n : Nat) (S : Int) (bi : List Int) (s : EbS) : Prop where
  hl : s.head.length = n
  ll : s.last.length = n
  hr : ∀ i, i < n → 0 ≤ vx s.head i ∧ vx s.head i < n ∧ vx s.head (vx s.head i).toNat = vx s.head i
  lr : ∀ i, i < n → vx s.head i = i → vx s.last i = S - 1
  oc : ∀ v w : Int, v ≤ w → cntB s.out v w = sm n fun i => if vx s.head i ≠ i ∧ vx bi i = v ∧ vx s.last i = w then 1 else 0
  orn : ∀ b ∈ s.out, 0 ≤ b.1 ∧ b.1 ≤ b.2.1 ∧ b.2.1 ≤ S - 1
theorem EbI.init (n : Nat) (S : Int) (bi : List Int) : EbI n S bi (ebInit n S) := by
  have hh : ∀ i, i < n → vx (ebInit n S).head i = i := fun i hi => by simp [ebInit, vx, hi]
  refine ⟨by simp [ebInit], by simp [ebInit], fun i hi => ?_, fun i hi _ => ?_, fun v w _ => ?_, fun b hb => by simp [ebInit] at hb⟩
  · rw [hh i hi]
    exact ⟨by omega, by omega, by rw [show ((i : Nat) : Int).toNat = i by omega]; exact hh i hi⟩
  · simp [ebInit, vx, List.getD_eq_getElem?_getD, hi]
  · rw [sm_congr (g := fun _ => 0) n fun i hi => by rw [if_neg (by rw [hh i hi]; simp)], sm_zero]
    rfl
theorem EbI.join {n : Nat} {S : Int} {bi : List Int} {s : EbS} (h : EbI n S bi s) (hbi : ∀ i, i < n → 0 ≤ vx bi i) {t x y : Int} (ht : t ≤ S - 1) (hx0 : 0 ≤ x) (hxn : x < n) (hy0 : 0 ≤ y) (hyn : y < n) (hxy : x ≠ y)
    (hxr : vx s.head x.toNat = x) (hyr : vx s.head y.toNat = y) : EbI n S bi (ebJoin bi t s x y) := by
  have hm : ∀ i, i < n → vx (ebJoin bi t s x y).head i = if vx s.head i = y then x else vx s.head i := fun i hi => vx_map _ (by rw [h.hl]; exact hi)
  have hlt : ∀ i, vx (ebJoin bi t s x y).last i = if i = y.toNat then t - 1 else vx s.last i := fun i => vx_set (by rw [h.ll]; omega) _ i
  refine ⟨by simp [ebJoin, h.hl], by simp [ebJoin, h.ll], fun i hi => ?_, fun i hi hri => ?_, fun v w hvw => ?_, fun b hb => ?_⟩
  · rw [hm i hi]
    obtain ⟨h1, h2, h3⟩ := h.hr i hi
    by_cases e : vx s.head i = y
    · rw [if_pos e]
      refine ⟨hx0, hxn, ?_⟩
      rw [hm _ (by omega), hxr, if_neg hxy]
    · rw [if_neg e]
      refine ⟨h1, h2, ?_⟩
      rw [hm _ (by omega), h3, if_neg e]
  · rw [hm i hi] at hri
    have hne : i ≠ y.toNat := by
      rintro rfl
      rw [hyr, if_pos rfl] at hri
      omega
    rw [hlt, if_neg hne]
    by_cases e : vx s.head i = y
    · rw [if_pos e] at hri
      have : vx s.head i = x := by rw [show i = x.toNat by omega]; exact hxr
      omega
    · rw [if_neg e] at hri
      exact h.lr i hi hri
  · have hsum : (sm n fun i => if vx (ebJoin bi t s x y).head i ≠ i ∧ vx bi i = v ∧ vx (ebJoin bi t s x y).last i = w then (1 : Int) else 0) = (sm n fun i => if vx s.head i ≠ i ∧ vx bi i = v ∧ vx s.last i = w then (1 : Int) else 0) + if vx bi y.toNat = v ∧ t - 1 = w then 1 else 0 := by
      rw [← sm_ind n y.toNat (by omega) (if vx bi y.toNat = v ∧ t - 1 = w then 1 else 0), ← sm_add]
      apply sm_congr; intro i hi
      rw [hm i hi, hlt]
      by_cases e : i = y.toNat
      · subst e
        rw [hyr, if_pos rfl, if_pos rfl, if_pos rfl, if_neg (c := y ≠ ((y.toNat : Nat) : Int) ∧ _) (by intro hc; exact hc.1 (by omega)), Int.zero_add]
        congr 1
        apply propext
        constructor
        · rintro ⟨_, h1, h2⟩; exact ⟨h1, h2⟩
        · rintro ⟨h1, h2⟩; exact ⟨by omega, h1, h2⟩
      · rw [if_neg e, if_neg e, Int.add_zero]
        congr 1
        apply propext
        by_cases e2 : vx s.head i = y
        · rw [if_pos e2, e2]
          have : (x ≠ (i : Int)) := by
            rintro rfl
            rw [show ((i : Nat) : Int).toNat = i by omega] at hxr
            omega
          constructor
          · rintro ⟨_, h⟩; exact ⟨by omega, h⟩
          · rintro ⟨_, h⟩; exact ⟨this, h⟩
        · rw [if_neg e2]
    rw [hsum, ← h.oc v w hvw]
    show cntB (if vx bi y.toNat ≤ t - 1 then s.out ++ [(vx bi y.toNat, t - 1, 0)] else s.out) v w = _
    by_cases e : vx bi y.toNat ≤ t - 1
    · rw [if_pos e, cntB_app, cntB_cons, cntB_nil, Int.add_zero]
    · rw [if_neg e, if_neg (by rintro ⟨h1, h2⟩; omega), Int.add_zero]
  · have hb' : b ∈ (if vx bi y.toNat ≤ t - 1 then s.out ++ [(vx bi y.toNat, t - 1, 0)] else s.out) := hb
    split at hb'
    · rcases List.mem_append.1 hb' with hb' | hb'
      · exact h.orn b hb'
      · rw [List.mem_singleton] at hb'
        subst hb'
        exact ⟨hbi _ (by omega), by assumption, by show t - 1 ≤ S - 1; omega⟩
    · exact h.orn b hb'
theorem ebX_two (bi : List Int) (a b : Int) : (ebElder bi a b = b ∧ ebOther bi a b = a) ∨ (ebElder bi a b = a ∧ ebOther bi a b = b) := by
  unfold ebElder ebOther
  by_cases h : ebX bi a b = true
  · left; rw [if_pos h, if_pos h]; exact ⟨rfl, rfl⟩
  · right; rw [if_neg h, if_neg h]; exact ⟨rfl, rfl⟩
def okE (n : Nat) (S : Int) (e : List Int) : Prop := 0 ≤ vx e 0 ∧ vx e 0 < n ∧ 0 ≤ vx e 1 ∧ vx e 1 < n ∧ 0 ≤ vx e 2 ∧ vx e 2 ≤ S - 1 ∧ e.length = 3
theorem EbI.step {n : Nat} {S : Int} {bi : List Int} {s : EbS} (h : EbI n S bi s) (hbi : ∀ i, i < n → 0 ≤ vx bi i) {e : List Int} (he : okE n S e) : EbI n S bi (ebStep bi s e) := by
  obtain ⟨h1, h2, h3, h4, h5, h6, _⟩ := he
  obtain ⟨a1, a2, a3⟩ := h.hr (vx e 0).toNat (by omega)
  obtain ⟨b1, b2, b3⟩ := h.hr (vx e 1).toNat (by omega)
  rw [ebStep]
  split
  · exact h
  · rename_i hne
    rcases ebX_two bi (ebA s e) (ebB s e) with ⟨e1, e2⟩ | ⟨e1, e2⟩
    · rw [e1, e2]; exact h.join hbi h6 b1 b2 a1 a2 (Ne.symm hne) b3 a3
    · rw [e1, e2]; exact h.join hbi h6 a1 a2 b1 b2 hne a3 b3
theorem EbI.fold {n : Nat} {S : Int} {bi : List Int} (hbi : ∀ i, i < n → 0 ≤ vx bi i) : ∀ (L : List (List Int)) (s : EbS), EbI n S bi s → (∀ e ∈ L, okE n S e) → EbI n S bi (L.foldl (ebStep bi) s)
  | [], _, h, _ => h
  | e :: L, s, h, hL => EbI.fold hbi L _ (h.step hbi (hL e (by simp))) fun x hx => hL x (by simp [hx])
theorem isF_ok {f : Filt} (h : isF f = true) : (1 ≤ f.stages ∧ f.stages ≤ 5) ∧ (1 ≤ f.birth.length ∧ f.birth.length ≤ 4) ∧ f.ends.length ≤ 8 ∧ (∀ i, i < f.birth.length → 0 ≤ vx f.birth i ∧ vx f.birth i ≤ f.stages - 1) ∧ ∀ e ∈ f.ends, okE f.birth.length f.stages e := by
  simp only [isF, Bool.and_eq_true, inR_t, allR_t, decide_eq_true_eq, List.all_eq_true] at h
  obtain ⟨⟨⟨⟨h1, h2⟩, h3⟩, h4⟩, h5⟩ := h
  refine ⟨h1, ⟨by omega, by omega⟩, h4, fun i hi => h3 _ (vx_memE hi), fun e he => ?_⟩
  have := h5 e he
  rcases endC e with hl | ⟨a, b, t, rfl⟩
  · rw [okEnd_len hl] at this; cases this
  · have hab : allR [a, b] 0 ((f.birth.length : Int) - 1) = true := by
      cases hc : allR [a, b] 0 ((f.birth.length : Int) - 1) with
      | true => rfl
      | false => rw [okEnd_ab hc] at this; cases this
    have hne : a ≠ b := fun e => by rw [okEnd_eq e] at this; cases this
    rw [allR_t] at hab
    have ha := hab a (by simp)
    have hb := hab b (by simp)
    obtain ⟨i, rfl⟩ := Int.eq_ofNat_of_zero_le ha.1
    obtain ⟨j, rfl⟩ := Int.eq_ofNat_of_zero_le hb.1
    have hi : f.birth[i]? = some (f.birth[i]'(by omega)) := List.getElem?_eq_getElem _
    have hj : f.birth[j]? = some (f.birth[j]'(by omega)) := List.getElem?_eq_getElem _
    have hg := okEnd_go (s := f.stages) (t := t) (allR_t.2 hab) hne hi hj
    rw [this] at hg
    have hb0 := h3 _ (List.mem_of_getElem? hi)
    have ht := hg.symm
    simp only [inR_t] at ht
    refine ⟨by simp [vx], by simp [vx]; omega, by simp [vx], by simp [vx]; omega, ?_, ?_, rfl⟩
    · simp [vx]; omega
    · simp [vx]; omega
end Go.Proofs.YtgabmemalaklbaaGreat

/- ElderBars, plain: both ways to tell the bars agree; the stable order of the edges. -/
namespace Go.Proofs.YtgabmemalaklbaaGreat
set_option linter.unusedVariables false
set_option linter.unusedSimpArgs false
open Go.RowKit

theorem cntB_filter (p : Nat → Bool) (g : Nat → Bar) (v w : Int) : ∀ k, cntB (((List.range k).filter p).map g) v w = sm k fun i => if p i = true ∧ (g i).1 = v ∧ (g i).2.1 = w then 1 else 0
  | 0 => rfl
  | k + 1 => by
    rw [List.range_succ, List.filter_append, List.map_append, cntB_app, cntB_filter p g v w k, sm]
    congr 1
    by_cases h : p k = true
    · simp [h, cntB]
    · simp [h, cntB]
theorem fin_cnt {f : Filt} {s : EbS} (h : EbI f.birth.length f.stages f.birth s) {v w : Int} (hvw : v ≤ w) : cntB (ebFin f s) v w = spCnt f s v w := by
  rw [ebFin, cntB_app, h.oc v w hvw, cntB_filter, ← sm_add, spCnt]
  apply sm_congr; intro i hi
  by_cases hr : vx s.head i = (i : Int)
  · have hl := h.lr i hi hr
    rw [if_neg (fun hc => hc.1 hr), Int.zero_add, hl]
    congr 1
    apply propext
    simp [hr]
  · rw [if_neg (c := ((vx s.head i == (i : Int)) = true ∧ _)) (fun hc => hr (by simpa using hc.1)), Int.add_zero]
    congr 1
    apply propext
    constructor
    · rintro ⟨_, h⟩; exact h
    · intro h; exact ⟨hr, h⟩
theorem fin_rng {f : Filt} {s : EbS} (h : EbI f.birth.length f.stages f.birth s) (hb : ∀ i, i < f.birth.length → 0 ≤ vx f.birth i ∧ vx f.birth i ≤ f.stages - 1) : ∀ b ∈ ebFin f s, 0 ≤ b.1 ∧ b.1 ≤ b.2.1 ∧ b.2.1 ≤ f.stages - 1 := by
  intro b hb'
  rcases List.mem_append.1 hb' with hb' | hb'
  · exact h.orn b hb'
  · obtain ⟨i, hi, rfl⟩ := List.mem_map.1 hb'
    have := hb i (List.mem_range.1 (List.mem_filter.1 hi).1)
    exact ⟨this.1, this.2, Int.le_refl _⟩
theorem spEl_mem {f : Filt} {s : EbS} {v w : Nat} {y : Bar} : y ∈ spEl f s v w ↔ y = ((v : Int), (w : Int), spCnt f s v w) ∧ 0 < spCnt f s v w := by
  rw [spEl]
  split
  · rename_i h; simp [h]
  · rename_i h; simp [h]
theorem spBars_mem {f : Filt} {s : EbS} {y : Bar} : y ∈ spBars f s ↔ ∃ v d : Nat, v < f.stages.toNat ∧ d < f.stages.toNat - v ∧ y = ((v : Int), ((v + d : Nat) : Int), spCnt f s v ((v + d : Nat) : Int)) ∧ 0 < spCnt f s v ((v + d : Nat) : Int) := by
  simp only [spBars, spTo, spRow, List.mem_flatMap, List.mem_range, spEl_mem]
  constructor
  · rintro ⟨v, hv, d, hd, h⟩; exact ⟨v, d, hv, hd, h⟩
  · rintro ⟨v, d, hv, hd, h⟩; exact ⟨v, hv, d, hd, h⟩
theorem spBars_sorted (f : Filt) (s : EbS) : srtB (spBars f s) := by
  rw [srtB, spBars, spTo, List.pairwise_flatMap]
  refine ⟨fun v _ => ?_, ?_⟩
  · rw [spRow, List.pairwise_flatMap]
    refine ⟨fun d _ => ?_, ?_⟩
    · rw [spEl]; split
      · simp
      · simp
    · refine List.pairwise_lt_range.imp fun {a b} hab x hx y hy => ?_
      obtain ⟨rfl, _⟩ := spEl_mem.1 hx
      obtain ⟨rfl, _⟩ := spEl_mem.1 hy
      refine decide_eq_true (.inr ⟨rfl, ?_⟩)
      show ((v + a : Nat) : Int) < ((v + b : Nat) : Int)
      omega
  · refine List.pairwise_lt_range.imp fun {a b} hab x hx y hy => ?_
    simp only [spRow, List.mem_flatMap, List.mem_range, spEl_mem] at hx hy
    obtain ⟨_, _, rfl, _⟩ := hx
    obtain ⟨_, _, rfl, _⟩ := hy
    simp only [keyLt, decide_eq_true_eq]; omega
theorem eb_eq {f : Filt} {s : EbS} (h : EbI f.birth.length f.stages f.birth s) (hb : ∀ i, i < f.birth.length → 0 ≤ vx f.birth i ∧ vx f.birth i ≤ f.stages - 1) : cbAll (ebFin f s) = spBars f s := by
  refine cbAll_eq (spBars_sorted f s) fun y => ?_
  rw [spBars_mem]
  constructor
  · rintro ⟨v, d, hv, hd, rfl, hp⟩
    exact ⟨fin_cnt h (show (v : Int) ≤ ((v + d : Nat) : Int) by omega), hp⟩
  · rintro ⟨h1, h2⟩
    obtain ⟨b, hbm, e1, e2⟩ := cntB_pos (L := ebFin f s) (v := y.1) (w := y.2.1) (by omega)
    obtain ⟨r1, r2, r3⟩ := fin_rng h hb b hbm
    have hc := fin_cnt h (v := y.1) (w := y.2.1) (by omega)
    refine ⟨y.1.toNat, (y.2.1 - y.1).toNat, by omega, by omega, ?_, ?_⟩
    · obtain ⟨y1, y2, y3⟩ := y
      simp only at *
      have ea : ((y1.toNat : Nat) : Int) = y1 := by omega
      have eb : ((y1.toNat + (y2 - y1).toNat : Nat) : Int) = y2 := by omega
      rw [ea, eb]
      rw [show y3 = spCnt f s y1 y2 by omega]
    · have ea : ((y.1.toNat : Nat) : Int) = y.1 := by omega
      have eb : ((y.1.toNat + (y.2.1 - y.1).toNat : Nat) : Int) = y.2.1 := by omega
      rw [ea, eb]; omega
/-! ### the stable order -/
theorem ltKT_irrefl (K : Nat → Int) (x : Nat) : ltKT K x x = false := by simp [ltKT]
theorem ltKT_asymm (K : Nat → Int) (x y : Nat) (h : ltKT K x y = true) : ltKT K y x = false := by simp [ltKT] at h ⊢; omega
theorem srtK_eq {K : Nat → Int} {n S : Nat} (hK : ∀ i, i < n → 0 ≤ K i ∧ K i < S) : srtK K n = (List.range S).flatMap fun t : Nat => (List.range n).filter fun i => K i == (t : Int) := by
  obtain ⟨hp, hs⟩ := srtK_spec K n
  refine strict_unique (ltKT_irrefl K) (ltKT_asymm K) _ _ hs ?_ fun i => ?_
  · rw [List.pairwise_flatMap]
    refine ⟨fun t _ => ?_, ?_⟩
    · have h1 : (List.range n).Pairwise fun a b => a < b := List.pairwise_lt_range
      refine (h1.filter _).imp_of_mem fun {a b} ha hb hab => ?_
      have h2 := (List.mem_filter.1 ha).2
      have h3 := (List.mem_filter.1 hb).2
      simp only [beq_iff_eq] at h2 h3
      simp only [ltKT, decide_eq_true_eq]; omega
    · refine List.pairwise_lt_range.imp fun {a b} hab x hx y hy => ?_
      have h2 := (List.mem_filter.1 hx).2
      have h3 := (List.mem_filter.1 hy).2
      simp only [beq_iff_eq] at h2 h3
      simp only [ltKT, decide_eq_true_eq]; omega
  · rw [hp.mem_iff, List.mem_range]
    simp only [List.mem_flatMap, List.mem_range, List.mem_filter, beq_iff_eq]
    constructor
    · intro h
      have := hK i h
      exact ⟨(K i).toNat, by omega, h, by omega⟩
    · rintro ⟨_, _, h, _⟩; exact h
theorem range_rows {ll : List (List Int)} (d : List Int) : (List.range ll.length).map (fun i => ll.getD i d) = ll := by
  apply List.ext_getElem (by simp)
  intro i h1 h2
  simp [List.getD_eq_getElem?_getD, h2]
def keyE (ll : List (List Int)) (i : Nat) : Int := vx (ll.getD i (ll.getD 0 [])) 2
theorem sortE_eq {ll : List (List Int)} {S : Int} (hS : 0 ≤ S) (h : ∀ e ∈ ll, 0 ≤ vx e 2 ∧ vx e 2 ≤ S - 1) : (srtK (keyE ll) ll.length).map (fun i => ll.getD i (ll.getD 0 [])) = sortE S ll := by
  rw [srtK_eq (K := keyE ll) (n := ll.length) (S := S.toNat) fun i hi => ?_]
  · rw [List.map_flatMap, sortE]
    congr 1
    funext t
    have := range_rows (ll := ll) (ll.getD 0 [])
    conv => rhs; rw [← this]
    rw [List.filter_map]
    rfl
  · have he : ll.getD i (ll.getD 0 []) ∈ ll := by
      simp only [List.getD_eq_getElem?_getD, List.getElem?_eq_getElem hi, Option.getD_some]; exact List.getElem_mem hi
    have := h _ he
    rw [keyE]; omega
theorem sortE_mem {S : Int} {l : List (List Int)} {e : List Int} (h : e ∈ sortE S l) : e ∈ l := by
  simp only [sortE, List.mem_flatMap] at h
  obtain ⟨_, _, h⟩ := h
  exact (List.mem_filter.1 h).1
theorem ebRun_I {f : Filt} (h : isF f = true) : EbI f.birth.length f.stages f.birth (ebRun f) := by
  obtain ⟨_, _, _, hb, he⟩ := isF_ok h
  exact EbI.fold (fun i hi => (hb i hi).1) _ _ (EbI.init _ _ _) fun e hm => he e (sortE_mem hm)
def ebQ (f : Filt) : List Bar × Bool := if isF f = true then (spBars f (ebRun f), true) else ([], false)
theorem ebQ_impl {f : Filt} (h : isF f = true) : ebQ f = (cbAll (ebFin f (ebRun f)), true) := by
  rw [ebQ, if_pos h, eb_eq (ebRun_I h) (isF_ok h).2.2.2.1]
end Go.Proofs.YtgabmemalaklbaaGreat

/- Graphs that grow, plain: labels are equal just where a walk leads; the elder's rule up to a stage. -/
namespace Go.Proofs.YtgabmemalaklbaaGreat
set_option linter.unusedVariables false
set_option linter.unusedSimpArgs false
open Go.RowKit

def conn (t : Int) (ends : List (List Int)) (i j : Nat) : Prop := ∃ l, isW t ends i l j
theorem conn_refl (t : Int) (ends : List (List Int)) (i : Nat) : conn t ends i i := ⟨[], rfl⟩
theorem conn_symm {t : Int} {ends : List (List Int)} {i j : Nat} (h : conn t ends i j) : conn t ends j i := by
  obtain ⟨l, h⟩ := h
  exact isW_symm h
theorem conn_trans {t : Int} {ends : List (List Int)} {i j k : Nat} (h : conn t ends i j) (h2 : conn t ends j k) : conn t ends i k := by
  obtain ⟨l, h⟩ := h
  obtain ⟨m, h2⟩ := h2
  exact ⟨_, isW_trans h h2⟩
theorem conn_alive {t : Int} {q : Filt} (hq : isF q = true) {i j : Nat} (h : conn t q.ends i j) : (q.birth.getD i 0 ≤ t ↔ q.birth.getD j 0 ≤ t) ∧ (i < q.birth.length ↔ j < q.birth.length) := by
  obtain ⟨l, hw⟩ := h
  cases l with
  | nil => obtain rfl := hw; exact ⟨Iff.rfl, Iff.rfl⟩
  | cons k r =>
    obtain ⟨m, hm⟩ := isW_symm hw
    cases m with
    | nil => obtain rfl := hm; exact ⟨Iff.rfl, Iff.rfl⟩
    | cons k' r' => exact ⟨⟨fun _ => (adjE_lt hq hm.1).2.2.1, fun _ => (adjE_lt hq hw.1).2.2.1⟩, ⟨fun _ => (adjE_lt hq hm.1).1, fun _ => (adjE_lt hq hw.1).1⟩⟩
theorem comp_up {t : Int} {q : Filt} (hq : isF q = true) {i j : Nat} (hi : i < q.birth.length) (h : conn t q.ends i j) : gt (compQ q t) i ≤ gt (comp0 q.birth t) j := by
  obtain ⟨l, hw⟩ := h
  obtain ⟨m, h1, h2, h3⟩ := isW_short l.length (Nat.le_refl _) hw
  have h4 := nodup_len q.birth.length (i :: m) h2 fun x hx => by
    rcases List.mem_cons.1 hx with rfl | hx
    · exact hi
    · exact isW_lt hq h1 x hx
  exact (it_gt hq (t := t) (comp0 q.birth t) (comp0_length _ _) q.birth.length).2.1 i m j h1 (by simp at h4; omega)
/-- the label of a point that is born: the least point of its part -/
theorem comp_lab {t : Int} {q : Filt} (hq : isF q = true) {i : Nat} (hi : i < q.birth.length) (ht : q.birth.getD i 0 ≤ t) : ∃ l : Nat, gt (compQ q t) i = (l : Int) ∧ conn t q.ends i l ∧ l < q.birth.length ∧ q.birth.getD l 0 ≤ t := by
  obtain ⟨h1, h2, h3⟩ := it_gt hq (t := t) (comp0 q.birth t) (comp0_length _ _) q.birth.length
  obtain ⟨l, j, hw, hv⟩ := h3 i
  have hc : conn t q.ends i j := ⟨l, hw⟩
  have ha := conn_alive hq hc
  have hj := ha.2.1 hi
  have hb := ha.1.1 ht
  refine ⟨j, ?_, hc, hj, hb⟩
  rw [compQ, hv, comp0_gt _ _ _ hj, if_neg (by omega)]
theorem comp_conn {t : Int} {q : Filt} (hq : isF q = true) {i j : Nat} (hi : i < q.birth.length) (hj : j < q.birth.length) (hti : q.birth.getD i 0 ≤ t) (htj : q.birth.getD j 0 ≤ t) : gt (compQ q t) i = gt (compQ q t) j ↔ conn t q.ends i j := by
  obtain ⟨l, hl, hcl, hln, hlt⟩ := comp_lab hq hi hti
  obtain ⟨m, hm, hcm, hmn, hmt⟩ := comp_lab hq hj htj
  constructor
  · intro e
    rw [hl, hm] at e
    obtain rfl : l = m := by omega
    exact conn_trans hcl (conn_symm hcm)
  · intro h
    have u1 := comp_up hq hi (conn_trans h hcm)
    have u2 := comp_up hq hj (conn_trans (conn_symm h) hcl)
    rw [comp0_gt _ _ _ hmn, if_neg (by omega)] at u1
    rw [comp0_gt _ _ _ hln, if_neg (by omega)] at u2
    omega

/-! ### walks over edges met so far -/
theorem adj_app {t : Int} {E : List (List Int)} {a b s : Int} (hs : s ≤ t) {i j : Nat} : adjE t (E ++ [[a, b, s]]) i j ↔ adjE t E i j ∨ (i = a.toNat ∧ j = b.toNat) ∨ (i = b.toNat ∧ j = a.toNat) := by
  constructor
  · rintro ⟨x, y, z, hm, hz, h⟩
    rcases List.mem_append.1 hm with hm | hm
    · exact .inl ⟨x, y, z, hm, hz, h⟩
    · rw [List.mem_singleton] at hm
      simp only [List.cons.injEq, and_true] at hm
      obtain ⟨rfl, rfl, rfl⟩ := hm
      exact .inr h
  · rintro (⟨x, y, z, hm, hz, h⟩ | h)
    · exact ⟨x, y, z, List.mem_append_left _ hm, hz, h⟩
    · exact ⟨a, b, s, List.mem_append_right _ (by simp), hs, h⟩
theorem conn_mono {t : Int} {E : List (List Int)} {a b s : Int} (hs : s ≤ t) {i j : Nat} (h : conn t E i j) : conn t (E ++ [[a, b, s]]) i j := by
  obtain ⟨l, h⟩ := h
  refine ⟨l, ?_⟩
  induction l generalizing i with
  | nil => exact h
  | cons k r ih => exact ⟨(adj_app hs).2 (.inl h.1), ih h.2⟩
theorem conn_edge {t : Int} {E : List (List Int)} {a b s : Int} (hs : s ≤ t) : conn t (E ++ [[a, b, s]]) a.toNat b.toNat := ⟨[b.toNat], (adj_app hs).2 (.inr (.inl ⟨rfl, rfl⟩)), rfl⟩
theorem conn_add {t : Int} {E : List (List Int)} {a b s : Int} (hs : s ≤ t) {i j : Nat} : conn t (E ++ [[a, b, s]]) i j ↔ conn t E i j ∨ (conn t E i a.toNat ∧ conn t E b.toNat j) ∨ (conn t E i b.toNat ∧ conn t E a.toNat j) := by
  constructor
  · rintro ⟨l, h⟩
    induction l generalizing i with
    | nil => obtain rfl := h; exact .inl (conn_refl _ _ _)
    | cons k r ih =>
      have h2 := ih h.2
      rcases (adj_app hs).1 h.1 with h1 | ⟨rfl, rfl⟩ | ⟨rfl, rfl⟩
      · have hik : conn t E i k := ⟨[k], h1, rfl⟩
        rcases h2 with h2 | ⟨h2, h3⟩ | ⟨h2, h3⟩
        · exact .inl (conn_trans hik h2)
        · exact .inr (.inl ⟨conn_trans hik h2, h3⟩)
        · exact .inr (.inr ⟨conn_trans hik h2, h3⟩)
      · rcases h2 with h2 | ⟨h2, h3⟩ | ⟨h2, h3⟩
        · exact .inr (.inl ⟨conn_refl _ _ _, h2⟩)
        · exact .inr (.inl ⟨conn_refl _ _ _, h3⟩)
        · exact .inl h3
      · rcases h2 with h2 | ⟨h2, h3⟩ | ⟨h2, h3⟩
        · exact .inr (.inr ⟨conn_refl _ _ _, h2⟩)
        · exact .inl h3
        · exact .inr (.inr ⟨conn_refl _ _ _, h3⟩)
  · rintro (h | ⟨h, h2⟩ | ⟨h, h2⟩)
    · exact conn_mono hs h
    · exact conn_trans (conn_mono hs h) (conn_trans (conn_edge hs) (conn_mono hs h2))
    · exact conn_trans (conn_mono hs h) (conn_trans (conn_symm (conn_edge hs)) (conn_mono hs h2))
/-- edges that an earlier stage has -/
theorem conn_perm {t t' : Int} {E E' : List (List Int)} (h : ∀ a b s, ([a, b, s] ∈ E ∧ s ≤ t) ↔ ([a, b, s] ∈ E' ∧ s ≤ t')) {i j : Nat} : conn t E i j ↔ conn t' E' i j := by
  have adj : ∀ i j, adjE t E i j ↔ adjE t' E' i j := fun i j => by
    constructor
    · rintro ⟨a, b, s, h1, h2, h3⟩
      obtain ⟨h4, h5⟩ := (h a b s).1 ⟨h1, h2⟩
      exact ⟨a, b, s, h4, h5, h3⟩
    · rintro ⟨a, b, s, h1, h2, h3⟩
      obtain ⟨h4, h5⟩ := (h a b s).2 ⟨h1, h2⟩
      exact ⟨a, b, s, h4, h5, h3⟩
  have one : ∀ l i j, isW t E i l j ↔ isW t' E' i l j := by
    intro l
    induction l with
    | nil => intro i j; exact Iff.rfl
    | cons k r ih => intro i j; simp only [isW, adj, ih]
  exact ⟨fun ⟨l, h⟩ => ⟨l, (one l i j).1 h⟩, fun ⟨l, h⟩ => ⟨l, (one l i j).2 h⟩⟩
end Go.Proofs.YtgabmemalaklbaaGreat

/- Graphs that grow, plain: which points are the eldest of their parts at a stage. -/
namespace Go.Proofs.YtgabmemalaklbaaGreat
set_option linter.unusedVariables false
set_option linter.unusedSimpArgs false
open Go.RowKit

/-- the elder's rule behind some edges -/
structure ElInv (n : Nat) (S : Int) (bi : List Int) (E : List (List Int)) (s : EbS) : Prop where
  I : EbI n S bi s
  hc : ∀ i j, i < n → j < n → (vx s.head i = vx s.head j ↔ conn S E i j)
  he : ∀ i, i < n → vx bi (vx s.head i).toNat < vx bi i ∨ (vx bi (vx s.head i).toNat = vx bi i ∧ vx s.head i ≤ i)
theorem ElInv.init (n : Nat) (S : Int) (bi : List Int) : ElInv n S bi [] (ebInit n S) := by
  have hh : ∀ i, i < n → vx (ebInit n S).head i = i := fun i hi => by simp [ebInit, vx, hi]
  refine ⟨EbI.init n S bi, fun i j hi hj => ?_, fun i hi => ?_⟩
  · rw [hh i hi, hh j hj]
    constructor
    · intro e
      obtain rfl : i = j := by omega
      exact conn_refl _ _ _
    · rintro ⟨l, h⟩
      cases l with
      | nil => obtain rfl := h; rfl
      | cons k r =>
        obtain ⟨⟨a, b, s, hm, _⟩, _⟩ := h
        simp at hm
  · rw [hh i hi]
    refine .inr ⟨by rw [Int.toNat_natCast], Int.le_refl _⟩
theorem ElInv.step {n : Nat} {S : Int} {bi : List Int} {E : List (List Int)} {s : EbS} (h : ElInv n S bi E s) (hbi : ∀ i, i < n → 0 ≤ vx bi i) {a b t : Int} (he : okE n S [a, b, t]) : ElInv n S bi (E ++ [[a, b, t]]) (ebStep bi s [a, b, t]) := by
  have hI := h.I.step hbi he
  obtain ⟨h1, h2, h3, h4, h5, h6, _⟩ := he
  have v0 : vx [a, b, t] 0 = a := rfl
  have v1 : vx [a, b, t] 1 = b := rfl
  rw [v0] at h1 h2
  rw [v1] at h3 h4
  have v2 : vx [a, b, t] 2 = t := rfl
  rw [v2] at h5 h6
  have hts : t ≤ S := by omega
  have an : a.toNat < n := by omega
  have bn : b.toNat < n := by omega
  obtain ⟨A, hA⟩ : ∃ A, vx s.head a.toNat = A := ⟨_, rfl⟩
  obtain ⟨B, hB⟩ : ∃ B, vx s.head b.toNat = B := ⟨_, rfl⟩
  have ca : ∀ i, i < n → (conn S E i a.toNat ↔ vx s.head i = A) := fun i hi => by rw [← hA]; exact (h.hc i _ hi an).symm
  have cb : ∀ i, i < n → (conn S E i b.toNat ↔ vx s.head i = B) := fun i hi => by rw [← hB]; exact (h.hc i _ hi bn).symm
  have ca' : ∀ i, i < n → (conn S E a.toNat i ↔ vx s.head i = A) := fun i hi => by rw [← ca i hi]; exact ⟨conn_symm, conn_symm⟩
  have cb' : ∀ i, i < n → (conn S E b.toNat i ↔ vx s.head i = B) := fun i hi => by rw [← cb i hi]; exact ⟨conn_symm, conn_symm⟩
  have eA : ebA s [a, b, t] = A := hA
  have eB : ebB s [a, b, t] = B := hB
  by_cases hab : A = B
  · have hs : ebStep bi s [a, b, t] = s := by rw [ebStep, eA, eB, if_pos hab]
    rw [hs] at hI ⊢
    refine ⟨hI, fun i j hi hj => ?_, h.he⟩
    rw [conn_add hts, ca i hi, cb i hi, ca' j hj, cb' j hj, ← h.hc i j hi hj]
    constructor
    · exact .inl
    · rintro (h | ⟨h, h'⟩ | ⟨h, h'⟩) <;> omega
  · obtain ⟨x, hx⟩ : ∃ x, ebElder bi A B = x := ⟨_, rfl⟩
    obtain ⟨y, hy⟩ : ∃ y, ebOther bi A B = y := ⟨_, rfl⟩
    have hs : ebStep bi s [a, b, t] = ebJoin bi t s x y := by rw [ebStep, eA, eB, if_neg hab, hx, hy]; rfl
    have hm : ∀ i, i < n → vx (ebStep bi s [a, b, t]).head i = if vx s.head i = y then x else vx s.head i := fun i hi => by rw [hs]; exact vx_map _ (by rw [h.I.hl]; exact hi)
    have hxy : (x = A ∧ y = B) ∨ (x = B ∧ y = A) := by
      rcases ebX_two bi A B with ⟨e1, e2⟩ | ⟨e1, e2⟩
      · right; omega
      · left; omega
    have hel : vx bi x.toNat < vx bi y.toNat ∨ (vx bi x.toNat = vx bi y.toNat ∧ x ≤ y) := by
      rw [← hx, ← hy]
      unfold ebElder ebOther
      rcases hX : ebX bi A B with _ | _
      · simp only [Bool.false_eq_true, if_false]
        simp only [ebX, decide_eq_false_iff_not, not_or, not_and] at hX
        omega
      · simp only [if_true]
        simp only [ebX, decide_eq_true_eq] at hX
        omega
    refine ⟨hI, fun i j hi hj => ?_, fun i hi => ?_⟩
    · rw [conn_add hts, ca i hi, cb i hi, ca' j hj, cb' j hj, ← h.hc i j hi hj, hm i hi, hm j hj]
      obtain ⟨Hi, hHi⟩ : ∃ z, vx s.head i = z := ⟨_, rfl⟩
      obtain ⟨Hj, hHj⟩ : ∃ z, vx s.head j = z := ⟨_, rfl⟩
      rw [hHi, hHj]
      split <;> split <;> omega
    · rw [hm i hi]
      have h0 := h.he i hi
      by_cases e : vx s.head i = y
      · rw [if_pos e]
        rw [e] at h0
        omega
      · rw [if_neg e]; exact h0
/-- what one edge of stage t does to the points -/
def Lifes (n : Nat) (lo : Int) (s s' : EbS) : Prop := ∀ i, i < n → (vx s.head i ≠ i → vx s'.head i ≠ i ∧ vx s'.last i = vx s.last i) ∧ (vx s.head i = i → (vx s'.head i = i ∧ vx s'.last i = vx s.last i) ∨ (vx s'.head i ≠ i ∧ lo ≤ vx s'.last i))
theorem Lifes.refl (n : Nat) (lo : Int) (s : EbS) : Lifes n lo s s := fun i _ => ⟨fun h => ⟨h, rfl⟩, fun h => .inl ⟨h, rfl⟩⟩
theorem Lifes.trans {n : Nat} {lo lo2 : Int} {a b c : EbS} (h : Lifes n lo a b) (k : Lifes n lo2 b c) (hl : lo ≤ lo2) : Lifes n lo a c := fun i hi => by
  obtain ⟨h1, h2⟩ := h i hi
  obtain ⟨k1, k2⟩ := k i hi
  refine ⟨fun e => ?_, fun e => ?_⟩
  · obtain ⟨h3, h4⟩ := h1 e
    obtain ⟨k3, k4⟩ := k1 h3
    exact ⟨k3, by rw [k4, h4]⟩
  · rcases h2 e with ⟨h3, h4⟩ | ⟨h3, h4⟩
    · rcases k2 h3 with ⟨k3, k4⟩ | ⟨k3, k4⟩
      · exact .inl ⟨k3, by rw [k4, h4]⟩
      · exact .inr ⟨k3, by omega⟩
    · obtain ⟨k3, k4⟩ := k1 h3
      exact .inr ⟨k3, by omega⟩
/-- .. and what it bounds -/
def Deads (n : Nat) (hi : Int) (s : EbS) : Prop := ∀ i, i < n → vx s.head i ≠ i → vx s.last i ≤ hi
theorem step_life {n : Nat} {S : Int} {bi : List Int} {s : EbS} (h : EbI n S bi s) {a b t : Int} (he : okE n S [a, b, t]) : Lifes n (t - 1) s (ebStep bi s [a, b, t]) ∧ ∀ hi, t - 1 ≤ hi → Deads n hi s → Deads n hi (ebStep bi s [a, b, t]) := by
  obtain ⟨h1, h2, h3, h4, h5, h6, _⟩ := he
  have v0 : vx [a, b, t] 0 = a := rfl
  have v1 : vx [a, b, t] 1 = b := rfl
  rw [v0] at h1 h2
  rw [v1] at h3 h4
  obtain ⟨A, hA⟩ : ∃ A, vx s.head a.toNat = A := ⟨_, rfl⟩
  obtain ⟨B, hB⟩ : ∃ B, vx s.head b.toNat = B := ⟨_, rfl⟩
  have eA : ebA s [a, b, t] = A := hA
  have eB : ebB s [a, b, t] = B := hB
  by_cases hab : A = B
  · have hs : ebStep bi s [a, b, t] = s := by rw [ebStep, eA, eB, if_pos hab]
    rw [hs]
    exact ⟨Lifes.refl _ _ _, fun _ _ h => h⟩
  · obtain ⟨x, hx⟩ : ∃ x, ebElder bi A B = x := ⟨_, rfl⟩
    obtain ⟨y, hy⟩ : ∃ y, ebOther bi A B = y := ⟨_, rfl⟩
    have hs : ebStep bi s [a, b, t] = ebJoin bi t s x y := by rw [ebStep, eA, eB, if_neg hab, hx, hy]; rfl
    have hm : ∀ i, i < n → vx (ebStep bi s [a, b, t]).head i = if vx s.head i = y then x else vx s.head i := fun i hi => by rw [hs]; exact vx_map _ (by rw [h.hl]; exact hi)
    have hxy : (x = A ∧ y = B) ∨ (x = B ∧ y = A) := by
      rcases ebX_two bi A B with ⟨e1, e2⟩ | ⟨e1, e2⟩
      · right; omega
      · left; omega
    obtain ⟨a1, a2, a3⟩ := h.hr a.toNat (by omega)
    obtain ⟨b1, b2, b3⟩ := h.hr b.toNat (by omega)
    rw [hA] at a1 a2 a3
    rw [hB] at b1 b2 b3
    have hyr : 0 ≤ y ∧ y < n ∧ vx s.head y.toNat = y ∧ 0 ≤ x ∧ x < n ∧ vx s.head x.toNat = x ∧ x ≠ y := by
      rcases hxy with ⟨rfl, rfl⟩ | ⟨rfl, rfl⟩
      · exact ⟨b1, b2, b3, a1, a2, a3, hab⟩
      · exact ⟨a1, a2, a3, b1, b2, b3, fun e => hab e.symm⟩
    obtain ⟨y1, y2, y3, x1, x2, x3, hne⟩ := hyr
    have hlt : ∀ i, vx (ebStep bi s [a, b, t]).last i = if i = y.toNat then t - 1 else vx s.last i := fun i => by rw [hs]; exact vx_set (by rw [h.ll]; omega) _ i
    have dead : ∀ i, i < n → vx s.head i ≠ i → i ≠ y.toNat := by
      rintro i hi e rfl
      rw [y3] at e
      omega
    have keepd : ∀ i, i < n → vx s.head i ≠ i → vx (ebStep bi s [a, b, t]).head i ≠ i := by
      intro i hi e
      rw [hm i hi]
      by_cases e2 : vx s.head i = y
      · rw [if_pos e2]
        intro e3
        apply e
        have : i = x.toNat := by omega
        rw [this, x3]
        omega
      · rw [if_neg e2]; exact e
    refine ⟨fun i hi => ⟨fun e => ⟨keepd i hi e, ?_⟩, fun e => ?_⟩, fun hi2 hle hd i hi e => ?_⟩
    · rw [hlt, if_neg (dead i hi e)]
    · by_cases e2 : i = y.toNat
      · right
        subst e2
        rw [hm _ hi, hlt, if_pos y3, if_pos rfl]
        exact ⟨by omega, Int.le_refl _⟩
      · left
        rw [hm i hi, hlt, if_neg (by omega), if_neg e2]
        exact ⟨e, rfl⟩
    · rw [hlt]
      by_cases e2 : i = y.toNat
      · rw [if_pos e2]; exact hle
      · rw [if_neg e2]
        refine hd i hi fun e3 => e ?_
        rw [hm i hi, if_neg (by omega)]
        exact e3
/-- the edges of a stage; the state behind the stages below k -/
def grpE (f : Filt) (t : Nat) : List (List Int) := f.ends.filter fun e => vx e 2 == (t : Int)
def ebPre (f : Filt) : Nat → EbS
  | 0 => ebInit f.birth.length f.stages
  | k + 1 => (grpE f k).foldl (ebStep f.birth) (ebPre f k)
def edPre (f : Filt) : Nat → List (List Int)
  | 0 => []
  | k + 1 => edPre f k ++ grpE f k
theorem edPre_eq (f : Filt) : ∀ k, (List.range k).flatMap (grpE f) = edPre f k
  | 0 => rfl
  | k + 1 => by rw [List.range_succ, List.flatMap_append, edPre_eq f k]; simp [edPre]
theorem ebPre_eq (f : Filt) : ∀ k, ebPre f k = (edPre f k).foldl (ebStep f.birth) (ebInit f.birth.length f.stages)
  | 0 => rfl
  | k + 1 => by rw [ebPre, ebPre_eq f k, edPre, List.foldl_append]
theorem ebRun_pre (f : Filt) : ebRun f = ebPre f f.stages.toNat := by
  rw [ebRun, sortE, ebPre_eq, ← edPre_eq]
  rfl
theorem grpE_mem {f : Filt} {t : Nat} {e : List Int} : e ∈ grpE f t ↔ e ∈ f.ends ∧ vx e 2 = (t : Int) := by
  simp [grpE]
theorem edPre_mem {f : Filt} {e : List Int} : ∀ {k : Nat}, e ∈ edPre f k ↔ e ∈ f.ends ∧ ∃ t : Nat, t < k ∧ vx e 2 = (t : Int)
  | 0 => by simp [edPre]
  | k + 1 => by
    rw [edPre, List.mem_append, edPre_mem, grpE_mem]
    constructor
    · rintro (⟨h, t, ht, e⟩ | ⟨h, e⟩)
      · exact ⟨h, t, by omega, e⟩
      · exact ⟨h, k, by omega, e⟩
    · rintro ⟨h, t, ht, e⟩
      by_cases e2 : t = k
      · subst e2; exact .inr ⟨h, e⟩
      · exact .inl ⟨h, t, by omega, e⟩
theorem okE_abc {n : Nat} {S : Int} {e : List Int} (h : okE n S e) : ∃ a b t, e = [a, b, t] := by
  have := h.2.2.2.2.2.2
  match e, this with
  | [a, b, t], _ => exact ⟨a, b, t, rfl⟩
theorem pre_fold {n : Nat} {S : Int} {bi : List Int} (hbi : ∀ i, i < n → 0 ≤ vx bi i) (t : Int) : ∀ (L : List (List Int)) (E : List (List Int)) (s : EbS), (∀ e ∈ L, okE n S e ∧ vx e 2 = t) → ElInv n S bi E s →
    ElInv n S bi (E ++ L) (L.foldl (ebStep bi) s) ∧ Lifes n (t - 1) s (L.foldl (ebStep bi) s) ∧ ∀ hi, t - 1 ≤ hi → Deads n hi s → Deads n hi (L.foldl (ebStep bi) s)
  | [], E, s, _, h => by
    rw [List.append_nil]
    exact ⟨h, Lifes.refl _ _ _, fun _ _ h => h⟩
  | e :: L, E, s, hL, h => by
    obtain ⟨hok, he2⟩ := hL e (by simp)
    obtain ⟨a, b, t', rfl⟩ := okE_abc hok
    have : t' = t := he2
    subst this
    have h1 := h.step hbi hok
    obtain ⟨l1, d1⟩ := step_life h.I hok
    obtain ⟨h2, l2, d2⟩ := pre_fold hbi t' L _ _ (fun x hx => hL x (by simp [hx])) h1
    rw [List.append_assoc] at h2
    exact ⟨h2, l1.trans l2 (Int.le_refl _), fun hi h3 h4 => d2 hi h3 (d1 hi h3 h4)⟩
theorem pre_all {f : Filt} (hf : isF f = true) : ∀ k : Nat, ElInv f.birth.length f.stages f.birth (edPre f k) (ebPre f k) ∧ Deads f.birth.length ((k : Int) - 2) (ebPre f k)
  | 0 => ⟨ElInv.init _ _ _, fun i hi e => absurd (by simp [ebPre, ebInit, vx, hi] : vx (ebPre f 0).head i = i) e⟩
  | k + 1 => by
    obtain ⟨h1, h2⟩ := pre_all hf k
    obtain ⟨_, _, _, hb, ho⟩ := isF_ok hf
    obtain ⟨h3, h4, h5⟩ := pre_fold (fun i hi => (hb i hi).1) (k : Int) (grpE f k) _ _ (fun e he => ⟨ho e (grpE_mem.1 he).1, (grpE_mem.1 he).2⟩) h1
    exact ⟨h3, h5 _ (by omega) fun i hi e => by have := h2 i hi e; omega⟩
theorem pre_life {f : Filt} (hf : isF f = true) (k : Nat) : ∀ m, Lifes f.birth.length ((k : Int) - 1) (ebPre f k) (ebPre f (k + m))
  | 0 => Lifes.refl _ _ _
  | m + 1 => by
    obtain ⟨h1, _⟩ := pre_all hf (k + m)
    obtain ⟨_, _, _, hb, ho⟩ := isF_ok hf
    obtain ⟨_, h4, _⟩ := pre_fold (fun i hi => (hb i hi).1) ((k + m : Nat) : Int) (grpE f (k + m)) _ _ (fun e he => ⟨ho e (grpE_mem.1 he).1, (grpE_mem.1 he).2⟩) h1
    exact (pre_life hf k m).trans h4 (by omega)
/-- a point lives at stage w just if it is the eldest of its part there -/
theorem alive_iff {f : Filt} (hf : isF f = true) {w i : Nat} (hw : (w : Int) ≤ f.stages - 1) (hi : i < f.birth.length) : (w : Int) ≤ vx (ebRun f).last i ↔ vx (ebPre f (w + 1)).head i = i := by
  obtain ⟨m, hm⟩ : ∃ m, f.stages.toNat = (w + 1) + m := ⟨f.stages.toNat - (w + 1), by omega⟩
  obtain ⟨h1, h2⟩ := pre_all hf (w + 1)
  have hl := pre_life hf (w + 1) m i hi
  rw [ebRun_pre, hm]
  constructor
  · intro h
    apply Classical.byContradiction
    intro e
    have h3 := h2 i hi e
    have h4 := (hl.1 e).2
    omega
  · intro e
    rcases hl.2 e with ⟨_, h4⟩ | ⟨_, h4⟩
    · have := h1.I.lr i hi e
      omega
    · omega
end Go.Proofs.YtgabmemalaklbaaGreat
