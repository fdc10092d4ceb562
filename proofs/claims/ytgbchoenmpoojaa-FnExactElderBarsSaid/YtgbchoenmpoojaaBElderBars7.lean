/- FnExactElderBars: for every argument the program's function returns what the reference's returns. Part 7 of 10 of the proof: StbS, StbK, ElA, ElB, ElC, BsB. No condition. -/
import Derived.Test.YtgbchoenmpoojaaBElderBars6
import Derived.Shelf.SlSortCmp.Insertion
import Derived.Ground.SlsfProg
import Derived.Lib.OwnBridge
/- slices.SortStableFunc at [][]int: at most 20 rows. -/
namespace Go.Proofs
open Go.Shelf
def Try.laysIns_ren : Go.Shelf.Ren := ⟨fun | 20 => 119 | n => n, fun | 24 => 22 | 22 => 36 | 3 => 3 | 25 => 73 | 4 => 4 | 0 => 0 | n => n, fun | n => n⟩
theorem Try.laysIns : Go.Proofs.SlLaysF.n20 Try.prog Try.laysIns_ren := {
  mixed := by kernel_rfl
  f20 := ⟨Try.f119.name, by decide, Try.func119.trans (congrArg some (by kernel_rfl))⟩
  t0 := Try.underlying0
  a0 := Try.isAgg0
  z0 := Try.sizeOf0
  v0 := Try.zeroValue0
  t3 := Try.underlying3
  a3 := Try.isAgg3
  z3 := Try.sizeOf3
  v3 := Try.zeroValue3
  t4 := Try.underlying4
  a4 := Try.isAgg4
  z4 := Try.sizeOf4
  v4 := Try.zeroValue4
  t22 := Try.underlying36
  a22 := Try.isAgg36
  z22 := Try.sizeOf36
  v22 := Try.zeroValue36
  a24 := Try.isAgg22
  z24 := Try.sizeOf22
  t25 := Try.underlying73
  a25 := Try.isAgg73
  z25 := Try.sizeOf73
  v25 := Try.zeroValue73 }
end Go.Proofs
namespace Go.Proofs.Ytgbchoenmpoojaa
set_option linter.unusedVariables false
set_option linter.unusedSimpArgs false
open Go.RowKit Go.Sort

theorem insS_self (lt : Nat → Nat → Bool) (d : Array Nat) (n : Nat) : insertionSort lt d n n = d := by
  rw [insertionSort, oStop _ _ _ _ _ (by omega)]
theorem insI_size (lt : Nat → Nat → Bool) (a : Nat) : ∀ (j : Nat) (d : Array Nat), (insInner lt a j d).size = d.size
  | 0, d => rfl
  | j + 1, d => by
    rw [insInner]
    split
    · rw [insI_size lt a j]; exact swp_size _ _ _
    · rfl
theorem insO_size (lt : Nat → Nat → Bool) (a b : Nat) : ∀ (m i : Nat) (d : Array Nat), b - i ≤ m → (insOuter lt a b i d).size = d.size
  | 0, i, d, h => by rw [oStop _ _ _ _ _ (by omega)]
  | m + 1, i, d, h => by
    by_cases hi : i < b
    · rw [oGo _ _ _ _ _ hi, insO_size lt a b m _ _ (by omega), insI_size]
    · rw [oStop _ _ _ _ _ hi]
theorem insS_size (lt : Nat → Nat → Bool) (d : Array Nat) (a b : Nat) : (insertionSort lt d a b).size = d.size := insO_size lt a b _ _ _ (Nat.le_refl _)

set_option maxRecDepth 100000 in
set_option maxHeartbeats 1600000 in
theorem stable20 (enc : Nat → Value) (hO : OneCell enc) (cf : Nat → Nat → Int) (g blk cap N : Nat) (d : Array Nat) (w : World) (hN : d.size = N) (eg : ∀ args w, (callFunc g args).run Try.prog w = .ok (.enter g args) w)
    (hcmp : CmpReads Try.prog g #[] enc cf blk 0 d.size w) (hH : Holds enc w blk 0 d) (hblk : blk < w.heap.size) (h20 : N ≤ 20) :
    Calls Try.prog 99 #[.slice (some ⟨blk, 0, none⟩) N cap, .int .i64 N, .func (.func g) #[] #[]] w fun e w' => e = .returned (.tuple #[]) ∧ ∃ n, w' = sortWorld enc w blk 0 n (insertionSort (ltOf cf) d 0 N) #[] := by
  have h1 := Any.insertionSortCmpFunc_one Try.laysIns enc hO cf g #[] blk 0 cap 0 N d w eg hcmp hH (Nat.zero_le _) (by omega) (by omega)
  change Calls Try.prog 119 _ _ _ at h1
  rw [hN] at h1
  by_cases h : N = 20
  · subst h
    have h2 : Hid (∀ n : Nat, Calls Try.prog 119 #[.slice (some ⟨blk, 0, none⟩) 20 cap, .int .i64 (20 : Nat), .int .i64 (20 : Nat), .func (.func g) #[] #[]] ((putRow enc w blk 0 (insertionSort (ltOf cf) d 0 20)).drewN n) fun e w' => e = .returned (.tuple #[]) ∧ ∃ m, w' = sortWorld enc w blk 0 m (insertionSort (ltOf cf) d 0 20) #[]) := by
      intro n
      have hs : (insertionSort (ltOf cf) d 0 20).size = 20 := by rw [insS_size, hN]
      obtain ⟨d', hd'⟩ : ∃ d', insertionSort (ltOf cf) d 0 20 = d' := ⟨_, rfl⟩
      rw [hd'] at hs ⊢
      have hw := sortWorld_none enc w blk 0 n d'
      have hH' : Holds enc (sortWorld enc w blk 0 n d' #[]) blk 0 d' := holds_sortWorld enc w blk 0 n d d' #[] hblk hH (by omega)
      have hc' : CmpReads Try.prog g #[] enc cf blk 0 d'.size (sortWorld enc w blk 0 n d' #[]) := by
        intro m os dk hdk x y
        rw [sortWorld_on enc w blk 0 n m d' dk #[] os hblk hdk]
        exact hcmp _ _ dk (by omega) x y
      have h3 := Any.insertionSortCmpFunc_one Try.laysIns enc hO cf g #[] blk 0 cap 20 20 d' _ eg hc' hH' (Nat.le_refl _) (by omega) (by omega)
      change Calls Try.prog 119 _ _ _ at h3
      rw [hs] at h3
      rw [← hw]
      refine h3.mono ?_
      rintro e w' ⟨rfl, m, rfl⟩
      refine ⟨rfl, n + m, ?_⟩
      rw [insS_self, putRow_self enc _ blk 0 d' hH', sortWorld_none, sortWorld_none, World.drewN_drewN]
    clear hH hcmp eg hN
    go_enter Try.func99, Try.ntmps99
    go_wp2
    refine wp_loop_rounds 2 ?_
    rw [rounds_succ]
    go_wp2_with fail
    refine h1.mono ?_; rintro e w1 ⟨rfl, n, rfl⟩
    clear h1
    obtain ⟨W, hW⟩ : ∃ W, (putRow enc w blk 0 (insertionSort (ltOf cf) d 0 20)).drewN n = W := ⟨_, rfl⟩
    have h3 := h2.out n
    rw [hW] at h3 ⊢
    clear hW h2
    go_wp2
    rw [rounds_succ]
    go_wp2_with fail
    refine h3.mono ?_; rintro e w2 ⟨rfl, m, hm⟩
    have HM := Lib.hid hm
    clear h3 hm
    go_wp2
    refine wp_loop_rounds 1 ?_
    rw [rounds_succ]
    go_wp2
    go_end0
    exact ⟨rfl, m, HM.out⟩
  · have hlt : ¬ (20 : Int) ≤ (N : Int) := by omega
    have hlt2 : ¬ (20 : Int) < (N : Int) := by omega
    clear hH hcmp eg
    have HN := Lib.hid hN
    clear hN h
    go_enter Try.func99, Try.ntmps99
    go_wp2
    refine wp_loop_rounds 1 ?_
    rw [rounds_succ]
    go_wp2_with fail
    refine h1.mono ?_; rintro e w1 ⟨rfl, n, hn⟩
    have HW := Lib.hid hn
    clear h1 hn
    go_wp2
    refine wp_loop_rounds 1 ?_
    rw [rounds_succ]
    go_wp2
    go_end0
    exact ⟨rfl, n, by rw [HW.out, sortWorld_none]⟩
set_option maxHeartbeats 400000 in
theorem sortStable20 (enc : Nat → Value) (hO : OneCell enc) (cf : Nat → Nat → Int) (g blk cap N : Nat) (d : Array Nat) (w : World) (hN : d.size = N) (eg : ∀ args w, (callFunc g args).run Try.prog w = .ok (.enter g args) w)
    (hcmp : CmpReads Try.prog g #[] enc cf blk 0 d.size w) (hH : Holds enc w blk 0 d) (hblk : blk < w.heap.size) (h20 : N ≤ 20) :
    Calls Try.prog 65 #[.slice (some ⟨blk, 0, none⟩) N cap, .func (.func g) #[] #[]] w fun e w' => e = .returned (.tuple #[]) ∧ ∃ n, w' = sortWorld enc w blk 0 n (insertionSort (ltOf cf) d 0 N) #[] := by
  have h1 := stable20 enc hO cf g blk cap N d w hN eg hcmp hH hblk h20
  clear hH hcmp eg hN
  go_enter Try.func65, Try.ntmps65
  go_wp2_with fail
  refine h1.mono ?_; rintro e w1 ⟨rfl, n, hn⟩
  have HW := Lib.hid hn
  clear h1 hn
  go_wp2
  go_end0
  exact ⟨rfl, n, HW.out⟩
theorem grownBy_sortWorld (enc : Nat → Value) (w : World) (q g : Nat) (d : Array Nat) (os : Array Obj) : w.grownBy (sortWorld enc w g 0 q d os) (some g) := by
  refine ⟨rfl, rfl, rfl, by simp [sortWorld, putRow, mapBlock, Sort.ahead], fun k hk hne => ?_⟩
  unfold sortWorld
  rw [heap_grow_old _ _ (by simpa [putRow, mapBlock, Sort.ahead] using hk)]
  have : g ≠ k := fun e => hne (by rw [e])
  simp [putRow, mapBlock, Sort.ahead, Array.getElem?_modify, this]
theorem Fam.perm {w : World} {lo hi : Nat} {L M : List (Value × List Int)} (h : Fam w lo hi L) (hp : L.Perm M) : Fam w lo hi M :=
  ⟨fun p hm => h.1 p (hp.mem_iff.2 hm), hp.pairwise h.2 (fun {a b} hab => by
    rcases hab with hab | hab
    · rcases hB : b.1.ownBlock with _ | y
      · exact .inl rfl
      · exact .inr (by rw [hab]; simp)
    · rcases hB : b.1.ownBlock with _ | y
      · exact .inl rfl
      · exact .inr (fun e => hab (by rw [← e, hB])))⟩
/-- rows sorted stably: cf is what the closure hands back for two of them -/
theorem sort_rows (g : Nat) (cf : Nat → Nat → Int) (v : Value) (ll : List (List Int)) (lo hi : Nat) (w : World) (hv : IntssO w lo hi v ll) (h0 : 0 < ll.length) (h20 : ll.length ≤ 20) (hsw : SWO (ltOf cf)) (eg : ∀ args w, (callFunc g args).run Try.prog w = .ok (.enter g args) w)
    (hcl : ∀ (W : World) (a b : Value) (i j : Nat), SlI W W.heap.size a (ll.getD i []) → SlI W W.heap.size b (ll.getD j []) → Calls Try.prog g #[a, b] W fun e w' => e = .returned (.int .i64 (cf i j)) ∧ ∃ q, w' = W.drewN q) :
    Calls Try.prog 65 #[v, .func (.func g) #[] #[]] w fun e w' => e = .returned (.tuple #[]) ∧ IntssO w' lo hi v ((insertionSort (ltOf cf) (rngA ll.length) 0 ll.length).toList.map fun i => ll.getD i []) ∧ w.grownBy w' v.ownBlock := by
  obtain ⟨vs, ho, hl, hF⟩ := hv
  obtain ⟨enc, henc⟩ : ∃ enc : Nat → Value, enc = fun i => vs.getD i (.slice none 0 0) := ⟨_, rfl⟩
  have hvs : (List.range vs.length).map enc = vs := by
    rw [henc]
    apply List.ext_getElem (by simp)
    intro i h1 h2
    simp [List.getD_eq_getElem?_getD, h2]
  have hrd : ∀ (W : World), Fam W lo hi (vs.zip ll) → ∀ i, SlI W W.heap.size (enc i) (ll.getD i []) := by
    intro W hFW i
    rw [henc]
    by_cases hi : i < vs.length
    · have := (hFW.1 (vs[i], ll[i]'(by omega)) (by rw [List.mem_iff_getElem]; exact ⟨i, by simp; omega, by simp⟩)).rd
      simpa [List.getD_eq_getElem?_getD, hi, show i < ll.length by omega] using this
    · have e1 : vs[i]? = none := List.getElem?_eq_none (by omega)
      have e2 : ll[i]? = none := List.getElem?_eq_none (by omega)
      simp only [List.getD_eq_getElem?_getD, e1, e2, Option.getD_none]
      exact SlG.nil
  have hO : OneCell enc := by
    intro i
    obtain ⟨A, c, e, _⟩ := hrd w hF i
    rw [e]; rfl
  have hown : w.ownsRow lo 22 1 v vs.length ((List.range vs.length).map enc) := by rw [hvs]; exact ho.1
  obtain ⟨g', cap, rfl, hg, hgl, hnc, hcm, _, hH⟩ := Lib.holds_of_ownsRow hown (by
    rintro rfl
    rcases ho.1.2 with ⟨_, h⟩ | ⟨_, _, _, h, _⟩
    · omega
    · cases h)
  have hsz : (rngA vs.length).size = vs.length := by simp [rngA]
  have hgr : ∀ q d os, w.grownBy (sortWorld enc w g' 0 q d os) (some g') := fun q d os => grownBy_sortWorld enc w q g' d os
  have hFW : ∀ q d os, Fam (sortWorld enc w g' 0 q d os) lo hi (vs.zip ll) := fun q d os => hF.grownO ho.1 (hgr q d os)
  refine (sortStable20 enc hO cf g g' cap vs.length (rngA vs.length) w hsz eg (fun m os dk hdk x y => hcl _ _ _ x y (hrd _ (hFW m dk os) x) (hrd _ (hFW m dk os) y)) hH hgl (by omega)).mono ?_
  rintro e w' ⟨rfl, n, rfl⟩
  obtain ⟨S, hS⟩ : ∃ S, insertionSort (ltOf cf) (rngA vs.length) 0 vs.length = S := ⟨_, rfl⟩
  have hSs : S.size = vs.length := by rw [← hS, insS_size, hsz]
  have hSp : S.toList.Perm (List.range vs.length) := by
    obtain ⟨⟨_, _, hp⟩, _⟩ := insertionSort_holds (lt := ltOf cf) hsw (rngA vs.length) 0 vs.length (Nat.zero_le _) (by omega)
    rw [hS] at hp
    have e1 : S.extract 0 vs.length = S := Array.extract_eq_self_of_le (by omega)
    have e2 : (rngA vs.length).extract 0 vs.length = rngA vs.length := Array.extract_eq_self_of_le (by omega)
    rw [e1, e2] at hp
    simpa [rngA] using hp
  rw [← hl, hS]
  refine ⟨rfl, ⟨S.toList.map enc, ?_, by simp, ?_⟩, hgr _ _ _⟩
  · have h1 := Lib.ownsRow_putRow (q := n) (k := vs.length) (ys := S.toList) hown (by simpa using hSs) (Nat.le_refl _)
    rw [List.take_of_length_le (by simp; omega)] at h1
    refine ⟨?_, fun k hk => ho.2.1 k hk, by simp; have := ho.2.2; omega⟩
    have e : (S.toList.map enc).length = vs.length := by simp [hSs]
    rw [e]
    have : sortWorld enc w g' 0 n S #[] = putRow enc (Sort.ahead w n) g' 0 S.toList.toArray := by unfold sortWorld; rw [grow_empty]
    rw [this]; exact h1
  · have hz : (S.toList.map enc).zip (S.toList.map fun i => ll.getD i []) = S.toList.map fun i => (enc i, ll.getD i []) := by rw [List.zip_map']
    rw [hz]
    refine (hFW n S #[]).perm ?_
    have e2 : vs.zip ll = (List.range vs.length).map fun i => (enc i, ll.getD i []) := by
      apply List.ext_getElem (by simp; omega)
      intro i h1 h2
      have hi : i < vs.length := by simpa using h2
      simp [henc, List.getD_eq_getElem?_getD, hi, show i < ll.length by omega]
    rw [e2]
    exact (hSp.map _).symm
end Go.Proofs.Ytgbchoenmpoojaa

/- A stable sort of at most twenty rows by a number of each. -/
namespace Go.Proofs.Ytgbchoenmpoojaa
set_option linter.unusedVariables false
set_option linter.unusedSimpArgs false
open Go.RowKit Go.Sort Go.Shelf

def ltK (K : Nat → Int) (i j : Nat) : Bool := decide (K i < K j)
def ltKT (K : Nat → Int) (i j : Nat) : Bool := decide (K i < K j ∨ (K i = K j ∧ i < j))
theorem insI_eqK (K : Nat → Int) (n i : Nat) (hin : i < n) : ∀ (j : Nat) (d : Array Nat), j ≤ i → d.size = n → d[j]! = i → (∀ k, k < j → d[k]! < i) → (∀ k, k ≤ i → d[k]! ≤ i) → (∀ k, i < k → k < n → d[k]! = k) →
    insInner (ltK K) 0 j d = insInner (ltKT K) 0 j d ∧ StIx n (i + 1) (insInner (ltK K) 0 j d)
  | 0, d, _, hs, _, _, h1, h2 => ⟨rfl, hs, fun k hk => by have := h1 k (by omega); show (insInner (ltK K) 0 0 d)[k]! < _; simp only [insInner]; omega, fun k h h' => h2 k (by omega) h'⟩
  | j + 1, d, hj, hs, he, hlt, h1, h2 => by
    have h3 := hlt j (by omega)
    have hc : ltK K d[j + 1]! d[j]! = ltKT K d[j + 1]! d[j]! := by
      simp only [ltK, ltKT, he]
      congr 1
      apply propext
      constructor
      · intro h; exact .inl h
      · rintro (h | ⟨_, h⟩)
        · exact h
        · omega
    simp only [insInner, hc]
    split
    · refine insI_eqK K n i hin j (swp d (j + 1) j) (by omega) (by rw [swp_size]; exact hs) ?_ (fun k hk => ?_) (fun k hk => ?_) (fun k hk hk2 => ?_)
      · rw [swp_at _ _ _ _ (by omega) (by omega), if_pos rfl, he]
      · rw [swp_at _ _ _ _ (by omega) (by omega), if_neg (by omega), if_neg (by omega)]; exact hlt k (by omega)
      · rw [swp_at _ _ _ _ (by omega) (by omega)]
        split
        · omega
        · split
          · omega
          · exact h1 k hk
      · rw [swp_at _ _ _ _ (by omega) (by omega), if_neg (by omega), if_neg (by omega)]; exact h2 k hk hk2
    · exact ⟨rfl, hs, fun k hk => by have := h1 k (by omega); omega, fun k h h' => h2 k (by omega) h'⟩
theorem insO_eqK (K : Nat → Int) (n : Nat) : ∀ (m i : Nat) (d : Array Nat), n - i ≤ m → StIx n i d → insOuter (ltK K) 0 n i d = insOuter (ltKT K) 0 n i d
  | 0, i, d, hm, h => by rw [oStop _ _ _ _ _ (by omega), oStop _ _ _ _ _ (by omega)]
  | m + 1, i, d, hm, h => by
    by_cases hi : i < n
    · rw [oGo _ _ _ _ _ hi, oGo _ _ _ _ _ hi]
      have h4 := insI_eqK K n i hi i d (Nat.le_refl _) h.size (h.hi i (Nat.le_refl _) hi) h.lo (fun k hk => by
        rcases Nat.lt_or_ge k i with h5 | h5
        · have := h.lo k h5; omega
        · have := h.hi k h5 (by omega); omega) (fun k hk hk2 => h.hi k (by omega) hk2)
      rw [← h4.1]
      exact insO_eqK K n m (i + 1) _ (by omega) h4.2
    · rw [oStop _ _ _ _ _ hi, oStop _ _ _ _ _ hi]
theorem ltKT_swo (K : Nat → Int) : SWO (ltKT K) := by
  refine ⟨fun x => ?_, fun x y z h k => ?_, fun x y z h k => ?_⟩
  · simp [ltKT]
  · simp [ltKT] at h k ⊢; omega
  · simp [ltKT] at h k ⊢; omega
def srtK (K : Nat → Int) (n : Nat) : List Nat := (insertionSort (ltK K) (rngA n) 0 n).toList
theorem srtK_spec (K : Nat → Int) (n : Nat) : (srtK K n).Perm (List.range n) ∧ (srtK K n).Pairwise fun i j => ltKT K i j = true := by
  have h0 : ∀ k, k < n → (rngA n)[k]! = k := fun k hk => by simp [rngA, hk]
  have e : insertionSort (ltK K) (rngA n) 0 n = insertionSort (ltKT K) (rngA n) 0 n := by
    rcases Nat.eq_zero_or_pos n with h | h
    · subst h; simp [insertionSort, insOuter]
    · exact insO_eqK K n n 1 _ (by omega) ⟨by simp [rngA], fun k hk => by rw [h0 k (by omega)]; exact hk, fun k _ hk => h0 k hk⟩
  obtain ⟨⟨hs, _, hp⟩, hso⟩ := insertionSort_holds (lt := ltKT K) (ltKT_swo K) (rngA n) 0 n (Nat.zero_le _) (by simp [rngA])
  rw [← e] at hs hp hso
  have hs' : (insertionSort (ltK K) (rngA n) 0 n).size = n := by rw [hs]; simp [rngA]
  have hp' : (srtK K n).Perm (List.range n) := by
    rw [srtK]
    have e1 : (insertionSort (ltK K) (rngA n) 0 n).extract 0 n = insertionSort (ltK K) (rngA n) 0 n := Array.extract_eq_self_of_le (by omega)
    have e2 : (rngA n).extract 0 n = rngA n := Array.extract_eq_self_of_le (by simp [rngA])
    rw [e1, e2] at hp
    simpa [rngA] using hp
  refine ⟨hp', ?_⟩
  have hnd : (srtK K n).Nodup := hp'.nodup_iff.2 List.nodup_range
  rw [List.pairwise_iff_getElem]
  intro i j hi hj hij
  have hne : (srtK K n)[i] ≠ (srtK K n)[j] := fun h => by
    exact (List.pairwise_iff_getElem.1 hnd) i j hi hj hij h
  have hz : (srtK K n).length = n := by simp [srtK, hs']
  have := hso i j (Nat.zero_le _) hij (by omega)
  have g1 : (insertionSort (ltK K) (rngA n) 0 n)[i]! = (srtK K n)[i] := by simp only [srtK, Array.getElem_toList]; exact getElem!_pos _ i (by omega)
  have g2 : (insertionSort (ltK K) (rngA n) 0 n)[j]! = (srtK K n)[j] := by simp only [srtK, Array.getElem_toList]; exact getElem!_pos _ j (by omega)
  rw [g1, g2] at this
  simp [ltKT] at this ⊢
  omega
set_option maxHeartbeats 400000 in
/-- rows sorted stably: cf is what the closure hands back for two of them (a place too far reads as the first row) -/
theorem sort_rows0 (g : Nat) (cf : Nat → Nat → Int) (v : Value) (ll : List (List Int)) (lo hi : Nat) (w : World) (hv : IntssO w lo hi v ll) (h0 : 0 < ll.length) (h20 : ll.length ≤ 20) (hsw : SWO (ltOf cf)) (eg : ∀ args w, (callFunc g args).run Try.prog w = .ok (.enter g args) w)
    (hcl : ∀ (W : World) (a b : Value) (i j : Nat), SlI W W.heap.size a (ll.getD i (ll.getD 0 [])) → SlI W W.heap.size b (ll.getD j (ll.getD 0 [])) → Calls Try.prog g #[a, b] W fun e w' => e = .returned (.int .i64 (cf i j)) ∧ ∃ q, w' = W.drewN q) :
    Calls Try.prog 65 #[v, .func (.func g) #[] #[]] w fun e w' => e = .returned (.tuple #[]) ∧ IntssO w' lo hi v ((insertionSort (ltOf cf) (rngA ll.length) 0 ll.length).toList.map fun i => ll.getD i (ll.getD 0 [])) ∧ w.grownBy w' v.ownBlock := by
  obtain ⟨vs, ho, hl, hF⟩ := hv
  obtain ⟨enc, henc⟩ : ∃ enc : Nat → Value, enc = fun i => vs.getD i (vs.getD 0 (.slice none 0 0)) := ⟨_, rfl⟩
  have hvs : (List.range vs.length).map enc = vs := by
    rw [henc]
    apply List.ext_getElem (by simp)
    intro i h1 h2
    simp [List.getD_eq_getElem?_getD, h2]
  have hrd : ∀ (W : World), Fam W lo hi (vs.zip ll) → ∀ i, SlI W W.heap.size (enc i) (ll.getD i (ll.getD 0 [])) := by
    intro W hFW i
    rw [henc]
    by_cases hi : i < vs.length
    · have := (hFW.1 (vs[i], ll[i]'(by omega)) (by rw [List.mem_iff_getElem]; exact ⟨i, by simp; omega, by simp⟩)).rd
      simpa [List.getD_eq_getElem?_getD, hi, show i < ll.length by omega] using this
    · have e1 : vs[i]? = none := List.getElem?_eq_none (by omega)
      have e2 : ll[i]? = none := List.getElem?_eq_none (by omega)
      have h00 : 0 < vs.length := by omega
      have := (hFW.1 (vs[0], ll[0]'(by omega)) (by rw [List.mem_iff_getElem]; exact ⟨0, by simp; omega, by simp⟩)).rd
      simpa [List.getD_eq_getElem?_getD, e1, e2, h00, show 0 < ll.length by omega] using this
  have hO : OneCell enc := by
    intro i
    obtain ⟨A, c, e, _⟩ := hrd w hF i
    rw [e]; rfl
  have hown : w.ownsRow lo 22 1 v vs.length ((List.range vs.length).map enc) := by rw [hvs]; exact ho.1
  obtain ⟨g', cap, rfl, hg, hgl, hnc, hcm, _, hH⟩ := Lib.holds_of_ownsRow hown (by
    rintro rfl
    rcases ho.1.2 with ⟨_, h⟩ | ⟨_, _, _, h, _⟩
    · omega
    · cases h)
  have hsz : (rngA vs.length).size = vs.length := by simp [rngA]
  have hgr : ∀ q d os, w.grownBy (sortWorld enc w g' 0 q d os) (some g') := fun q d os => grownBy_sortWorld enc w q g' d os
  have hFW : ∀ q d os, Fam (sortWorld enc w g' 0 q d os) lo hi (vs.zip ll) := fun q d os => hF.grownO ho.1 (hgr q d os)
  refine (sortStable20 enc hO cf g g' cap vs.length (rngA vs.length) w hsz eg (fun m os dk hdk x y => hcl _ _ _ x y (hrd _ (hFW m dk os) x) (hrd _ (hFW m dk os) y)) hH hgl (by omega)).mono ?_
  rintro e w' ⟨rfl, n, rfl⟩
  obtain ⟨S, hS⟩ : ∃ S, insertionSort (ltOf cf) (rngA vs.length) 0 vs.length = S := ⟨_, rfl⟩
  have hSs : S.size = vs.length := by rw [← hS, insS_size, hsz]
  have hSp : S.toList.Perm (List.range vs.length) := by
    obtain ⟨⟨_, _, hp⟩, _⟩ := insertionSort_holds (lt := ltOf cf) hsw (rngA vs.length) 0 vs.length (Nat.zero_le _) (by omega)
    rw [hS] at hp
    have e1 : S.extract 0 vs.length = S := Array.extract_eq_self_of_le (by omega)
    have e2 : (rngA vs.length).extract 0 vs.length = rngA vs.length := Array.extract_eq_self_of_le (by omega)
    rw [e1, e2] at hp
    simpa [rngA] using hp
  rw [← hl, hS]
  refine ⟨rfl, ⟨S.toList.map enc, ?_, by simp, ?_⟩, hgr _ _ _⟩
  · have h1 := Lib.ownsRow_putRow (q := n) (k := vs.length) (ys := S.toList) hown (by simpa using hSs) (Nat.le_refl _)
    rw [List.take_of_length_le (by simp; omega)] at h1
    refine ⟨?_, fun k hk => ho.2.1 k hk, by simp; have := ho.2.2; omega⟩
    have e : (S.toList.map enc).length = vs.length := by simp [hSs]
    rw [e]
    have : sortWorld enc w g' 0 n S #[] = putRow enc (Sort.ahead w n) g' 0 S.toList.toArray := by unfold sortWorld; rw [grow_empty]
    rw [this]; exact h1
  · have hz : (S.toList.map enc).zip (S.toList.map fun i => ll.getD i (ll.getD 0 [])) = S.toList.map fun i => (enc i, ll.getD i (ll.getD 0 [])) := by rw [List.zip_map']
    rw [hz]
    refine (hFW n S #[]).perm ?_
    have e2 : vs.zip ll = (List.range vs.length).map fun i => (enc i, ll.getD i (ll.getD 0 [])) := by
      apply List.ext_getElem (by simp; omega)
      intro i h1 h2
      have hi : i < vs.length := by simpa using h2
      simp [henc, List.getD_eq_getElem?_getD, hi, show i < ll.length by omega]
    rw [e2]
    exact (hSp.map _).symm
end Go.Proofs.Ytgbchoenmpoojaa

/- Bars counted, plain: inserting one by one gives the sorted list of the different ones with their numbers. -/
namespace Go.Proofs.Ytgbchoenmpoojaa
set_option linter.unusedVariables false
set_option linter.unusedSimpArgs false
open Go.RowKit

def keyLt (x y : Bar) : Bool := decide (x.1 < y.1 ∨ x.1 = y.1 ∧ x.2.1 < y.2.1)
theorem keyLt_cmp (x y : Bar) : keyLt x y = decide (cmpB x y < 0) := by rw [keyLt]; congr 1; rw [cmpB_neg]
theorem keyLt_irrefl (x : Bar) : keyLt x x = false := by simp [keyLt]
theorem keyLt_asymm (x y : Bar) (h : keyLt x y = true) : keyLt y x = false := by simp [keyLt] at h ⊢; omega
/-- one more bar -/
def cbIns : List Bar → Bar → List Bar
  | [], b => [(b.1, b.2.1, 1)]
  | x :: r, b => if cmpB x b < 0 then x :: cbIns r b else if cmpB x b = 0 then (x.1, x.2.1, x.2.2 + 1) :: r else (b.1, b.2.1, 1) :: x :: r
def look (l : List Bar) (v w : Int) : Int := (l.map fun x => if x.1 = v ∧ x.2.1 = w then x.2.2 else 0).sum
theorem look_nil (v w : Int) : look [] v w = 0 := rfl
theorem look_cons (x : Bar) (l : List Bar) (v w : Int) : look (x :: l) v w = (if x.1 = v ∧ x.2.1 = w then x.2.2 else 0) + look l v w := by simp [look]
theorem look_ins (b : Bar) (v w : Int) : ∀ l : List Bar, look (cbIns l b) v w = look l v w + if b.1 = v ∧ b.2.1 = w then 1 else 0
  | [] => by rw [cbIns, look_cons, look_nil]; simp
  | x :: r => by
    rw [cbIns]
    split
    · rw [look_cons, look_cons, look_ins b v w r]; omega
    · split
      · rename_i h
        rw [cmpB_0] at h
        rw [look_cons, look_cons]
        simp only [h.1, h.2]
        split <;> omega
      · rw [look_cons, look_cons]
        simp only
        omega
theorem ins_mem {b y : Bar} : ∀ {l : List Bar}, y ∈ cbIns l b → (y.1 = b.1 ∧ y.2.1 = b.2.1) ∨ ∃ z ∈ l, z.1 = y.1 ∧ z.2.1 = y.2.1
  | [], h => by simp [cbIns] at h; subst h; exact .inl ⟨rfl, rfl⟩
  | x :: r, h => by
    rw [cbIns] at h
    split at h
    · rcases List.mem_cons.1 h with rfl | h
      · exact .inr ⟨y, by simp, rfl, rfl⟩
      · rcases ins_mem h with h | ⟨z, hz, h⟩
        · exact .inl h
        · exact .inr ⟨z, by simp [hz], h⟩
    · split at h
      · rcases List.mem_cons.1 h with rfl | h
        · exact .inr ⟨x, by simp, rfl, rfl⟩
        · exact .inr ⟨y, by simp [h], rfl, rfl⟩
      · rcases List.mem_cons.1 h with rfl | h
        · exact .inl ⟨rfl, rfl⟩
        · exact .inr ⟨y, h, rfl, rfl⟩
def srtB (l : List Bar) : Prop := l.Pairwise fun x y => keyLt x y = true
theorem ins_sorted {b : Bar} : ∀ {l : List Bar}, srtB l → srtB (cbIns l b)
  | [], _ => by simp [cbIns, srtB]
  | x :: r, h => by
    have h' := h
    rw [srtB, List.pairwise_cons] at h'
    rw [cbIns]
    split
    · rename_i hc
      rw [cmpB_neg] at hc
      rw [srtB, List.pairwise_cons]
      refine ⟨fun y hy => ?_, ins_sorted h'.2⟩
      rcases ins_mem hy with e | ⟨z, hz, e⟩
      · simp only [keyLt, decide_eq_true_eq, e.1, e.2]; exact hc
      · have := h'.1 z hz
        simp only [keyLt, decide_eq_true_eq] at this ⊢
        rw [← e.1, ← e.2]; exact this
    · split
      · rw [srtB, List.pairwise_cons]
        exact ⟨fun y hy => h'.1 y hy, h'.2⟩
      · rename_i h1 h2
        rw [cmpB_neg] at h1
        rw [cmpB_0] at h2
        have hbx : keyLt (b.1, b.2.1, 1) x = true := by simp only [keyLt, decide_eq_true_eq]; omega
        rw [srtB, List.pairwise_cons]
        refine ⟨fun y hy => ?_, h⟩
        rcases List.mem_cons.1 hy with rfl | hy
        · exact hbx
        · have := h'.1 y hy
          simp only [keyLt, decide_eq_true_eq] at this hbx ⊢
          omega
def posB (l : List Bar) : Prop := ∀ x ∈ l, 0 < x.2.2
theorem ins_pos {b : Bar} : ∀ {l : List Bar}, posB l → posB (cbIns l b)
  | [], _ => by intro y hy; simp [cbIns] at hy; subst hy; show (0 : Int) < 1; omega
  | x :: r, h => by
    intro y hy
    rw [cbIns] at hy
    have hx := h x (by simp)
    have hr : posB r := fun z hz => h z (by simp [hz])
    split at hy
    · rcases List.mem_cons.1 hy with rfl | hy
      · exact hx
      · exact ins_pos hr y hy
    · split at hy
      · rcases List.mem_cons.1 hy with rfl | hy
        · show 0 < x.2.2 + 1; omega
        · exact hr y hy
      · rcases List.mem_cons.1 hy with rfl | hy
        · show (0 : Int) < 1; omega
        · exact h y hy
theorem look_out {v w : Int} : ∀ {l : List Bar}, (∀ x ∈ l, ¬ (x.1 = v ∧ x.2.1 = w)) → look l v w = 0
  | [], _ => rfl
  | x :: r, h => by rw [look_cons, if_neg (h x (by simp)), look_out fun y hy => h y (by simp [hy])]; rfl
theorem look_mem : ∀ {l : List Bar}, srtB l → posB l → ∀ y : Bar, (y ∈ l ↔ look l y.1 y.2.1 = y.2.2 ∧ 0 < y.2.2)
  | [], _, _, y => by rw [look_nil]; constructor
                      · intro h; simp at h
                      · intro h; omega
  | x :: r, hs, hp, y => by
    rw [srtB, List.pairwise_cons] at hs
    have hr : posB r := fun z hz => hp z (by simp [hz])
    have hx := hp x (by simp)
    have ih := look_mem hs.2 hr y
    rw [look_cons, List.mem_cons]
    by_cases hk : x.1 = y.1 ∧ x.2.1 = y.2.1
    · have h0 : look r y.1 y.2.1 = 0 := look_out fun z hz hzk => by
        have := hs.1 z hz
        simp only [keyLt, decide_eq_true_eq] at this
        omega
      rw [if_pos hk, h0]
      constructor
      · rintro (rfl | h)
        · exact ⟨by omega, hx⟩
        · rw [ih, h0] at h; omega
      · rintro ⟨h1, h2⟩
        left
        obtain ⟨x1, x2, x3⟩ := x
        obtain ⟨y1, y2, y3⟩ := y
        simp only at hk h1
        rw [hk.1, hk.2, show x3 = y3 by omega]
    · rw [if_neg hk, Int.zero_add, ← ih]
      constructor
      · rintro (rfl | h)
        · exact absurd ⟨rfl, rfl⟩ hk
        · exact h
      · intro h; exact .inr h
def cbAll (L : List Bar) : List Bar := L.foldl cbIns []
def cntB (L : List Bar) (v w : Int) : Int := (L.map fun b => if b.1 = v ∧ b.2.1 = w then (1 : Int) else 0).sum
theorem cntB_nil (v w : Int) : cntB [] v w = 0 := rfl
theorem cntB_cons (b : Bar) (L : List Bar) (v w : Int) : cntB (b :: L) v w = (if b.1 = v ∧ b.2.1 = w then 1 else 0) + cntB L v w := by simp [cntB]
theorem cntB_app (L M : List Bar) (v w : Int) : cntB (L ++ M) v w = cntB L v w + cntB M v w := by simp [cntB]
theorem cntB_nonneg (v w : Int) : ∀ L : List Bar, 0 ≤ cntB L v w
  | [] => by rw [cntB_nil]; omega
  | b :: L => by rw [cntB_cons]; have := cntB_nonneg v w L; split <;> omega
theorem cntB_pos {v w : Int} : ∀ {L : List Bar}, 0 < cntB L v w → ∃ b ∈ L, b.1 = v ∧ b.2.1 = w
  | [], h => by rw [cntB_nil] at h; omega
  | b :: L, h => by
    by_cases hk : b.1 = v ∧ b.2.1 = w
    · exact ⟨b, by simp, hk⟩
    · rw [cntB_cons, if_neg hk, Int.zero_add] at h
      obtain ⟨c, hc, h⟩ := cntB_pos h
      exact ⟨c, by simp [hc], h⟩
theorem fold_ins : ∀ (L l : List Bar), srtB l → posB l → srtB (L.foldl cbIns l) ∧ posB (L.foldl cbIns l) ∧ ∀ v w, look (L.foldl cbIns l) v w = look l v w + cntB L v w
  | [], l, hs, hp => ⟨hs, hp, fun v w => by rw [cntB_nil, Int.add_zero]; rfl⟩
  | b :: L, l, hs, hp => by
    obtain ⟨h1, h2, h3⟩ := fold_ins L (cbIns l b) (ins_sorted hs) (ins_pos hp)
    exact ⟨h1, h2, fun v w => by rw [List.foldl_cons, h3, look_ins, cntB_cons]; omega⟩
/-- what is told by its numbers -/
theorem cbAll_eq {L M : List Bar} (hs : srtB M) (hm : ∀ y : Bar, y ∈ M ↔ cntB L y.1 y.2.1 = y.2.2 ∧ 0 < y.2.2) : cbAll L = M := by
  obtain ⟨h1, h2, h3⟩ := fold_ins L [] (by simp [srtB]) (by intro x hx; simp at hx)
  refine strict_unique keyLt_irrefl keyLt_asymm _ _ h1 hs fun y => ?_
  have := look_mem h1 h2 y
  rw [h3, look_nil, Int.zero_add] at this
  rw [hm]
  exact this
theorem ins_len (b : Bar) : ∀ l : List Bar, (cbIns l b).length ≤ l.length + 1
  | [] => by simp [cbIns]
  | x :: r => by
    rw [cbIns]
    have := ins_len b r
    split
    · simp; omega
    · split <;> simp
end Go.Proofs.Ytgbchoenmpoojaa

/- ElderBars, plain: the rule of the elder. -/
namespace Go.Proofs.Ytgbchoenmpoojaa
set_option linter.unusedVariables false
set_option linter.unusedSimpArgs false
open Go.RowKit

structure EbS where
  head : List Int
  last : List Int
  out : List Bar
/-- whether b is older than a -/
def ebX (bi : List Int) (a b : Int) : Bool := decide (vx bi b.toNat < vx bi a.toNat ∨ (vx bi b.toNat = vx bi a.toNat ∧ b < a))
def ebElder (bi : List Int) (a b : Int) : Int := if ebX bi a b then b else a
def ebOther (bi : List Int) (a b : Int) : Int := if ebX bi a b then a else b
def ebJoin (bi : List Int) (t : Int) (s : EbS) (x y : Int) : EbS :=
  ⟨s.head.map fun h => if h = y then x else h, s.last.set y.toNat (t - 1), if vx bi y.toNat ≤ t - 1 then s.out ++ [(vx bi y.toNat, t - 1, 0)] else s.out⟩
def ebA (s : EbS) (e : List Int) : Int := vx s.head (vx e 0).toNat
def ebB (s : EbS) (e : List Int) : Int := vx s.head (vx e 1).toNat
def ebStep (bi : List Int) (s : EbS) (e : List Int) : EbS :=
  if ebA s e = ebB s e then s else ebJoin bi (vx e 2) s (ebElder bi (ebA s e) (ebB s e)) (ebOther bi (ebA s e) (ebB s e))
def ebInit (n : Nat) (S : Int) : EbS := ⟨(List.range n).map fun i : Nat => (i : Int), List.replicate n (S - 1), []⟩
def sortE (S : Int) (l : List (List Int)) : List (List Int) := (List.range S.toNat).flatMap fun t : Nat => l.filter fun e => vx e 2 == (t : Int)
def ebRun (f : Filt) : EbS := (sortE f.stages f.ends).foldl (ebStep f.birth) (ebInit f.birth.length f.stages)
def ebFin (f : Filt) (s : EbS) : List Bar := s.out ++ ((List.range f.birth.length).filter fun i => vx s.head i == (i : Int)).map fun i => (vx f.birth i, f.stages - 1, 0)
def spCnt (f : Filt) (s : EbS) (v w : Int) : Int := sm f.birth.length fun i => if vx f.birth i = v ∧ vx s.last i = w then 1 else 0
def spEl (f : Filt) (s : EbS) (v w : Nat) : List Bar := if 0 < spCnt f s v w then [((v : Int), (w : Int), spCnt f s v w)] else []
def spRow (f : Filt) (s : EbS) (v k : Nat) : List Bar := (List.range k).flatMap fun d => spEl f s v (v + d)
def spTo (f : Filt) (s : EbS) (k : Nat) : List Bar := (List.range k).flatMap fun v => spRow f s v (f.stages.toNat - v)
def spBars (f : Filt) (s : EbS) : List Bar := spTo f s f.stages.toNat
/-! ### small things -/
theorem vx_memE {l : List Int} {k : Nat} (h : k < l.length) : vx l k ∈ l := by
  simp only [vx, List.getD_eq_getElem?_getD, List.getElem?_eq_getElem h, Option.getD_some]; exact List.getElem_mem h
theorem vx_map (g : Int → Int) {l : List Int} {i : Nat} (h : i < l.length) : vx (l.map g) i = g (vx l i) := by
  simp [vx, List.getD_eq_getElem?_getD, h]
theorem vx_set {l : List Int} {j : Nat} (hj : j < l.length) (x : Int) (i : Nat) : vx (l.set j x) i = if i = j then x else vx l i := by
  simp only [vx, List.getD_eq_getElem?_getD, List.getElem?_set]
  by_cases h : j = i
  · subst h; simp [hj]
  · rw [if_neg h, if_neg (fun e => h e.symm)]
theorem sm_ind (n : Nat) (y : Nat) (hy : y < n) (c : Int) : (sm n fun i => if i = y then c else 0) = c := by
  rw [sm_one (k := y) n hy fun i _ hi => by rw [if_neg hi], if_pos rfl]
structure EbI (n : Nat) (S : Int) (bi : List Int) (s : EbS) : Prop where
  hl : s.head.length = n
  ll : s.last.length = n
  hr : ∀ i, i < n → 0 ≤ vx s.head i ∧ vx s.head i < n ∧ vx s.head (vx s.head i).toNat = vx s.head i
  lr : ∀ i, i < n → vx s.head i = i → vx s.last i = S - 1
  oc : ∀ v w : Int, v ≤ w → cntB s.out v w = sm n fun i => if vx s.head i ≠ i ∧ vx bi i = v ∧ vx s.last i = w then 1 else 0
  orn : ∀ b ∈ s.out, 0 ≤ b.1 ∧ b.1 ≤ b.2.1 ∧ b.2.1 ≤ S - 1
theorem EbI.init (n : Nat) (S : Int) (bi : List Int) : EbI n S bi (ebInit n S) := by
  have hh : ∀ i, i < n → vx (ebInit n S).head i = i := fun i hi => by simp [ebInit, vx, hi]
  refine ⟨by simp [ebInit], by simp [ebInit], fun i hi => ?_, fun i hi _ => ?_, fun v w _ => ?_, fun b hb => by simp [ebInit] at hb⟩
  · rw [hh i hi]
    exact ⟨by omega, by omega, by rw [show ((i : Nat) : Int).toNat = i by omega]; exact hh i hi⟩
  · simp [ebInit, vx, List.getD_eq_getElem?_getD, hi]
  · rw [sm_congr (g := fun _ => 0) n fun i hi => by rw [if_neg (by rw [hh i hi]; simp)], sm_zero]
    rfl
theorem EbI.join {n : Nat} {S : Int} {bi : List Int} {s : EbS} (h : EbI n S bi s) (hbi : ∀ i, i < n → 0 ≤ vx bi i) {t x y : Int} (ht : t ≤ S - 1) (hx0 : 0 ≤ x) (hxn : x < n) (hy0 : 0 ≤ y) (hyn : y < n) (hxy : x ≠ y)
    (hxr : vx s.head x.toNat = x) (hyr : vx s.head y.toNat = y) : EbI n S bi (ebJoin bi t s x y) := by
  have hm : ∀ i, i < n → vx (ebJoin bi t s x y).head i = if vx s.head i = y then x else vx s.head i := fun i hi => vx_map _ (by rw [h.hl]; exact hi)
  have hlt : ∀ i, vx (ebJoin bi t s x y).last i = if i = y.toNat then t - 1 else vx s.last i := fun i => vx_set (by rw [h.ll]; omega) _ i
  refine ⟨by simp [ebJoin, h.hl], by simp [ebJoin, h.ll], fun i hi => ?_, fun i hi hri => ?_, fun v w hvw => ?_, fun b hb => ?_⟩
  · rw [hm i hi]
    obtain ⟨h1, h2, h3⟩ := h.hr i hi
    by_cases e : vx s.head i = y
    · rw [if_pos e]
      refine ⟨hx0, hxn, ?_⟩
      rw [hm _ (by omega), hxr, if_neg hxy]
    · rw [if_neg e]
      refine ⟨h1, h2, ?_⟩
      rw [hm _ (by omega), h3, if_neg e]
  · rw [hm i hi] at hri
    have hne : i ≠ y.toNat := by
      rintro rfl
      rw [hyr, if_pos rfl] at hri
      omega
    rw [hlt, if_neg hne]
    by_cases e : vx s.head i = y
    · rw [if_pos e] at hri
      have : vx s.head i = x := by rw [show i = x.toNat by omega]; exact hxr
      omega
    · rw [if_neg e] at hri
      exact h.lr i hi hri
  · have hsum : (sm n fun i => if vx (ebJoin bi t s x y).head i ≠ i ∧ vx bi i = v ∧ vx (ebJoin bi t s x y).last i = w then (1 : Int) else 0) = (sm n fun i => if vx s.head i ≠ i ∧ vx bi i = v ∧ vx s.last i = w then (1 : Int) else 0) + if vx bi y.toNat = v ∧ t - 1 = w then 1 else 0 := by
      rw [← sm_ind n y.toNat (by omega) (if vx bi y.toNat = v ∧ t - 1 = w then 1 else 0), ← sm_add]
      apply sm_congr; intro i hi
      rw [hm i hi, hlt]
      by_cases e : i = y.toNat
      · subst e
        rw [hyr, if_pos rfl, if_pos rfl, if_pos rfl, if_neg (c := y ≠ ((y.toNat : Nat) : Int) ∧ _) (by intro hc; exact hc.1 (by omega)), Int.zero_add]
        congr 1
        apply propext
        constructor
        · rintro ⟨_, h1, h2⟩; exact ⟨h1, h2⟩
        · rintro ⟨h1, h2⟩; exact ⟨by omega, h1, h2⟩
      · rw [if_neg e, if_neg e, Int.add_zero]
        congr 1
        apply propext
        by_cases e2 : vx s.head i = y
        · rw [if_pos e2, e2]
          have : (x ≠ (i : Int)) := by
            rintro rfl
            rw [show ((i : Nat) : Int).toNat = i by omega] at hxr
            omega
          constructor
          · rintro ⟨_, h⟩; exact ⟨by omega, h⟩
          · rintro ⟨_, h⟩; exact ⟨this, h⟩
        · rw [if_neg e2]
    rw [hsum, ← h.oc v w hvw]
    show cntB (if vx bi y.toNat ≤ t - 1 then s.out ++ [(vx bi y.toNat, t - 1, 0)] else s.out) v w = _
    by_cases e : vx bi y.toNat ≤ t - 1
    · rw [if_pos e, cntB_app, cntB_cons, cntB_nil, Int.add_zero]
    · rw [if_neg e, if_neg (by rintro ⟨h1, h2⟩; omega), Int.add_zero]
  · have hb' : b ∈ (if vx bi y.toNat ≤ t - 1 then s.out ++ [(vx bi y.toNat, t - 1, 0)] else s.out) := hb
    split at hb'
    · rcases List.mem_append.1 hb' with hb' | hb'
      · exact h.orn b hb'
      · rw [List.mem_singleton] at hb'
        subst hb'
        exact ⟨hbi _ (by omega), by assumption, by show t - 1 ≤ S - 1; omega⟩
    · exact h.orn b hb'
theorem ebX_two (bi : List Int) (a b : Int) : (ebElder bi a b = b ∧ ebOther bi a b = a) ∨ (ebElder bi a b = a ∧ ebOther bi a b = b) := by
  unfold ebElder ebOther
  by_cases h : ebX bi a b = true
  · left; rw [if_pos h, if_pos h]; exact ⟨rfl, rfl⟩
  · right; rw [if_neg h, if_neg h]; exact ⟨rfl, rfl⟩
def okE (n : Nat) (S : Int) (e : List Int) : Prop := 0 ≤ vx e 0 ∧ vx e 0 < n ∧ 0 ≤ vx e 1 ∧ vx e 1 < n ∧ 0 ≤ vx e 2 ∧ vx e 2 ≤ S - 1 ∧ e.length = 3
theorem EbI.step {n : Nat} {S : Int} {bi : List Int} {s : EbS} (h : EbI n S bi s) (hbi : ∀ i, i < n → 0 ≤ vx bi i) {e : List Int} (he : okE n S e) : EbI n S bi (ebStep bi s e) := by
  obtain ⟨h1, h2, h3, h4, h5, h6, _⟩ := he
  obtain ⟨a1, a2, a3⟩ := h.hr (vx e 0).toNat (by omega)
  obtain ⟨b1, b2, b3⟩ := h.hr (vx e 1).toNat (by omega)
  rw [ebStep]
  split
  · exact h
  · rename_i hne
    rcases ebX_two bi (ebA s e) (ebB s e) with ⟨e1, e2⟩ | ⟨e1, e2⟩
    · rw [e1, e2]; exact h.join hbi h6 b1 b2 a1 a2 (Ne.symm hne) b3 a3
    · rw [e1, e2]; exact h.join hbi h6 a1 a2 b1 b2 hne a3 b3
theorem EbI.fold {n : Nat} {S : Int} {bi : List Int} (hbi : ∀ i, i < n → 0 ≤ vx bi i) : ∀ (L : List (List Int)) (s : EbS), EbI n S bi s → (∀ e ∈ L, okE n S e) → EbI n S bi (L.foldl (ebStep bi) s)
  | [], _, h, _ => h
  | e :: L, s, h, hL => EbI.fold hbi L _ (h.step hbi (hL e (by simp))) fun x hx => hL x (by simp [hx])
theorem isF_ok {f : Filt} (h : isF f = true) : (1 ≤ f.stages ∧ f.stages ≤ 5) ∧ (1 ≤ f.birth.length ∧ f.birth.length ≤ 4) ∧ f.ends.length ≤ 8 ∧ (∀ i, i < f.birth.length → 0 ≤ vx f.birth i ∧ vx f.birth i ≤ f.stages - 1) ∧ ∀ e ∈ f.ends, okE f.birth.length f.stages e := by
  simp only [isF, Bool.and_eq_true, inR_t, allR_t, decide_eq_true_eq, List.all_eq_true] at h
  obtain ⟨⟨⟨⟨h1, h2⟩, h3⟩, h4⟩, h5⟩ := h
  refine ⟨h1, ⟨by omega, by omega⟩, h4, fun i hi => h3 _ (vx_memE hi), fun e he => ?_⟩
  have := h5 e he
  rcases endC e with hl | ⟨a, b, t, rfl⟩
  · rw [okEnd_len hl] at this; cases this
  · have hab : allR [a, b] 0 ((f.birth.length : Int) - 1) = true := by
      cases hc : allR [a, b] 0 ((f.birth.length : Int) - 1) with
      | true => rfl
      | false => rw [okEnd_ab hc] at this; cases this
    have hne : a ≠ b := fun e => by rw [okEnd_eq e] at this; cases this
    rw [allR_t] at hab
    have ha := hab a (by simp)
    have hb := hab b (by simp)
    obtain ⟨i, rfl⟩ := Int.eq_ofNat_of_zero_le ha.1
    obtain ⟨j, rfl⟩ := Int.eq_ofNat_of_zero_le hb.1
    have hi : f.birth[i]? = some (f.birth[i]'(by omega)) := List.getElem?_eq_getElem _
    have hj : f.birth[j]? = some (f.birth[j]'(by omega)) := List.getElem?_eq_getElem _
    have hg := okEnd_go (s := f.stages) (t := t) (allR_t.2 hab) hne hi hj
    rw [this] at hg
    have hb0 := h3 _ (List.mem_of_getElem? hi)
    have ht := hg.symm
    simp only [inR_t] at ht
    refine ⟨by simp [vx], by simp [vx]; omega, by simp [vx], by simp [vx]; omega, ?_, ?_, rfl⟩
    · simp [vx]; omega
    · simp [vx]; omega
end Go.Proofs.Ytgbchoenmpoojaa

/- ElderBars, plain: both ways to tell the bars agree; the stable order of the edges. -/
namespace Go.Proofs.Ytgbchoenmpoojaa
set_option linter.unusedVariables false
set_option linter.unusedSimpArgs false
open Go.RowKit

theorem cntB_filter (p : Nat → Bool) (g : Nat → Bar) (v w : Int) : ∀ k, cntB (((List.range k).filter p).map g) v w = sm k fun i => if p i = true ∧ (g i).1 = v ∧ (g i).2.1 = w then 1 else 0
  | 0 => rfl
  | k + 1 => by
    rw [List.range_succ, List.filter_append, List.map_append, cntB_app, cntB_filter p g v w k, sm]
    congr 1
    by_cases h : p k = true
    · simp [h, cntB]
    · simp [h, cntB]
theorem fin_cnt {f : Filt} {s : EbS} (h : EbI f.birth.length f.stages f.birth s) {v w : Int} (hvw : v ≤ w) : cntB (ebFin f s) v w = spCnt f s v w := by
  rw [ebFin, cntB_app, h.oc v w hvw, cntB_filter, ← sm_add, spCnt]
  apply sm_congr; intro i hi
  by_cases hr : vx s.head i = (i : Int)
  · have hl := h.lr i hi hr
    rw [if_neg (fun hc => hc.1 hr), Int.zero_add, hl]
    congr 1
    apply propext
    simp [hr]
  · rw [if_neg (c := ((vx s.head i == (i : Int)) = true ∧ _)) (fun hc => hr (by simpa using hc.1)), Int.add_zero]
    congr 1
    apply propext
    constructor
    · rintro ⟨_, h⟩; exact h
    · intro h; exact ⟨hr, h⟩
theorem fin_rng {f : Filt} {s : EbS} (h : EbI f.birth.length f.stages f.birth s) (hb : ∀ i, i < f.birth.length → 0 ≤ vx f.birth i ∧ vx f.birth i ≤ f.stages - 1) : ∀ b ∈ ebFin f s, 0 ≤ b.1 ∧ b.1 ≤ b.2.1 ∧ b.2.1 ≤ f.stages - 1 := by
  intro b hb'
  rcases List.mem_append.1 hb' with hb' | hb'
  · exact h.orn b hb'
  · obtain ⟨i, hi, rfl⟩ := List.mem_map.1 hb'
    have := hb i (List.mem_range.1 (List.mem_filter.1 hi).1)
    exact ⟨this.1, this.2, Int.le_refl _⟩
theorem spEl_mem {f : Filt} {s : EbS} {v w : Nat} {y : Bar} : y ∈ spEl f s v w ↔ y = ((v : Int), (w : Int), spCnt f s v w) ∧ 0 < spCnt f s v w := by
  rw [spEl]
  split
  · rename_i h; simp [h]
  · rename_i h; simp [h]
theorem spBars_mem {f : Filt} {s : EbS} {y : Bar} : y ∈ spBars f s ↔ ∃ v d : Nat, v < f.stages.toNat ∧ d < f.stages.toNat - v ∧ y = ((v : Int), ((v + d : Nat) : Int), spCnt f s v ((v + d : Nat) : Int)) ∧ 0 < spCnt f s v ((v + d : Nat) : Int) := by
  simp only [spBars, spTo, spRow, List.mem_flatMap, List.mem_range, spEl_mem]
  constructor
  · rintro ⟨v, hv, d, hd, h⟩; exact ⟨v, d, hv, hd, h⟩
  · rintro ⟨v, d, hv, hd, h⟩; exact ⟨v, hv, d, hd, h⟩
theorem spBars_sorted (f : Filt) (s : EbS) : srtB (spBars f s) := by
  rw [srtB, spBars, spTo, List.pairwise_flatMap]
  refine ⟨fun v _ => ?_, ?_⟩
  · rw [spRow, List.pairwise_flatMap]
    refine ⟨fun d _ => ?_, ?_⟩
    · rw [spEl]; split
      · simp
      · simp
    · refine List.pairwise_lt_range.imp fun {a b} hab x hx y hy => ?_
      obtain ⟨rfl, _⟩ := spEl_mem.1 hx
      obtain ⟨rfl, _⟩ := spEl_mem.1 hy
      refine decide_eq_true (.inr ⟨rfl, ?_⟩)
      show ((v + a : Nat) : Int) < ((v + b : Nat) : Int)
      omega
  · refine List.pairwise_lt_range.imp fun {a b} hab x hx y hy => ?_
    simp only [spRow, List.mem_flatMap, List.mem_range, spEl_mem] at hx hy
    obtain ⟨_, _, rfl, _⟩ := hx
    obtain ⟨_, _, rfl, _⟩ := hy
    simp only [keyLt, decide_eq_true_eq]; omega
theorem eb_eq {f : Filt} {s : EbS} (h : EbI f.birth.length f.stages f.birth s) (hb : ∀ i, i < f.birth.length → 0 ≤ vx f.birth i ∧ vx f.birth i ≤ f.stages - 1) : cbAll (ebFin f s) = spBars f s := by
  refine cbAll_eq (spBars_sorted f s) fun y => ?_
  rw [spBars_mem]
  constructor
  · rintro ⟨v, d, hv, hd, rfl, hp⟩
    exact ⟨fin_cnt h (show (v : Int) ≤ ((v + d : Nat) : Int) by omega), hp⟩
  · rintro ⟨h1, h2⟩
    obtain ⟨b, hbm, e1, e2⟩ := cntB_pos (L := ebFin f s) (v := y.1) (w := y.2.1) (by omega)
    obtain ⟨r1, r2, r3⟩ := fin_rng h hb b hbm
    have hc := fin_cnt h (v := y.1) (w := y.2.1) (by omega)
    refine ⟨y.1.toNat, (y.2.1 - y.1).toNat, by omega, by omega, ?_, ?_⟩
    · obtain ⟨y1, y2, y3⟩ := y
      simp only at *
      have ea : ((y1.toNat : Nat) : Int) = y1 := by omega
      have eb : ((y1.toNat + (y2 - y1).toNat : Nat) : Int) = y2 := by omega
      rw [ea, eb]
      rw [show y3 = spCnt f s y1 y2 by omega]
    · have ea : ((y.1.toNat : Nat) : Int) = y.1 := by omega
      have eb : ((y.1.toNat + (y.2.1 - y.1).toNat : Nat) : Int) = y.2.1 := by omega
      rw [ea, eb]; omega
/-! ### the stable order -/
theorem ltKT_irrefl (K : Nat → Int) (x : Nat) : ltKT K x x = false := by simp [ltKT]
theorem ltKT_asymm (K : Nat → Int) (x y : Nat) (h : ltKT K x y = true) : ltKT K y x = false := by simp [ltKT] at h ⊢; omega
theorem srtK_eq {K : Nat → Int} {n S : Nat} (hK : ∀ i, i < n → 0 ≤ K i ∧ K i < S) : srtK K n = (List.range S).flatMap fun t : Nat => (List.range n).filter fun i => K i == (t : Int) := by
  obtain ⟨hp, hs⟩ := srtK_spec K n
  refine strict_unique (ltKT_irrefl K) (ltKT_asymm K) _ _ hs ?_ fun i => ?_
  · rw [List.pairwise_flatMap]
    refine ⟨fun t _ => ?_, ?_⟩
    · have h1 : (List.range n).Pairwise fun a b => a < b := List.pairwise_lt_range
      refine (h1.filter _).imp_of_mem fun {a b} ha hb hab => ?_
      have h2 := (List.mem_filter.1 ha).2
      have h3 := (List.mem_filter.1 hb).2
      simp only [beq_iff_eq] at h2 h3
      simp only [ltKT, decide_eq_true_eq]; omega
    · refine List.pairwise_lt_range.imp fun {a b} hab x hx y hy => ?_
      have h2 := (List.mem_filter.1 hx).2
      have h3 := (List.mem_filter.1 hy).2
      simp only [beq_iff_eq] at h2 h3
      simp only [ltKT, decide_eq_true_eq]; omega
  · rw [hp.mem_iff, List.mem_range]
    simp only [List.mem_flatMap, List.mem_range, List.mem_filter, beq_iff_eq]
    constructor
    · intro h
      have := hK i h
      exact ⟨(K i).toNat, by omega, h, by omega⟩
    · rintro ⟨_, _, h, _⟩; exact h
theorem range_rows {ll : List (List Int)} (d : List Int) : (List.range ll.length).map (fun i => ll.getD i d) = ll := by
  apply List.ext_getElem (by simp)
  intro i h1 h2
  simp [List.getD_eq_getElem?_getD, h2]
def keyE (ll : List (List Int)) (i : Nat) : Int := vx (ll.getD i (ll.getD 0 [])) 2
theorem sortE_eq {ll : List (List Int)} {S : Int} (hS : 0 ≤ S) (h : ∀ e ∈ ll, 0 ≤ vx e 2 ∧ vx e 2 ≤ S - 1) : (srtK (keyE ll) ll.length).map (fun i => ll.getD i (ll.getD 0 [])) = sortE S ll := by
  rw [srtK_eq (K := keyE ll) (n := ll.length) (S := S.toNat) fun i hi => ?_]
  · rw [List.map_flatMap, sortE]
    congr 1
    funext t
    have := range_rows (ll := ll) (ll.getD 0 [])
    conv => rhs; rw [← this]
    rw [List.filter_map]
    rfl
  · have he : ll.getD i (ll.getD 0 []) ∈ ll := by
      simp only [List.getD_eq_getElem?_getD, List.getElem?_eq_getElem hi, Option.getD_some]; exact List.getElem_mem hi
    have := h _ he
    rw [keyE]; omega
theorem sortE_mem {S : Int} {l : List (List Int)} {e : List Int} (h : e ∈ sortE S l) : e ∈ l := by
  simp only [sortE, List.mem_flatMap] at h
  obtain ⟨_, _, h⟩ := h
  exact (List.mem_filter.1 h).1
theorem ebRun_I {f : Filt} (h : isF f = true) : EbI f.birth.length f.stages f.birth (ebRun f) := by
  obtain ⟨_, _, _, hb, he⟩ := isF_ok h
  exact EbI.fold (fun i hi => (hb i hi).1) _ _ (EbI.init _ _ _) fun e hm => he e (sortE_mem hm)
def ebQ (f : Filt) : List Bar × Bool := if isF f = true then (spBars f (ebRun f), true) else ([], false)
theorem ebQ_impl {f : Filt} (h : isF f = true) : ebQ f = (cbAll (ebFin f (ebRun f)), true) := by
  rw [ebQ, if_pos h, eb_eq (ebRun_I h) (isF_ok h).2.2.2.1]
end Go.Proofs.Ytgbchoenmpoojaa

/- slices.BinarySearchFunc at bars. -/
namespace Go.Proofs.Ytgbchoenmpoojaa
set_option linter.unusedVariables false
set_option linter.unusedSimpArgs false
open Go.RowKit

/-- how many bars of l come before b; whether b is there -/
def bsK (l : List Bar) (b : Bar) : Nat := (l.takeWhile fun x => decide (cmpB x b < 0)).length
def bsF (l : List Bar) (b : Bar) : Bool := match l[bsK l b]? with
  | some x => decide (cmpB x b = 0)
  | none => false
theorem bsK_eq {b : Bar} : ∀ {l : List Bar} {k : Nat}, k ≤ l.length → (∀ (t : Nat) (x : Bar), t < k → l[t]? = some x → cmpB x b < 0) → (∀ x, l[k]? = some x → ¬ cmpB x b < 0) → bsK l b = k
  | [], k, hk, _, _ => by simp at hk; subst hk; rfl
  | x :: r, 0, _, _, h2 => by
    have := h2 x rfl
    simp [bsK, this]
  | x :: r, k + 1, hk, h1, h2 => by
    have h0 := h1 0 x (by omega) rfl
    have ih : bsK r b = k := bsK_eq (l := r) (k := k) (by simpa using hk) (fun t y ht hy => h1 (t + 1) y (by omega) (by simpa using hy)) (fun y hy => h2 y (by simpa using hy))
    rw [bsK, List.takeWhile_cons, if_pos (by simpa using h0), List.length_cons]
    have : (r.takeWhile fun x => decide (cmpB x b < 0)).length = k := ih
    omega
theorem srt_down {l : List Bar} (hs : srtB l) {a c : Nat} {x y b : Bar} (hac : a ≤ c) (hx : l[a]? = some x) (hy : l[c]? = some y) (h : cmpB y b < 0) : cmpB x b < 0 := by
  rcases Nat.eq_or_lt_of_le hac with rfl | hlt
  · rw [hx] at hy; injection hy with hy; subst hy; exact h
  · have h1 := (List.pairwise_iff_getElem.1 hs) a c (lt_of_some hx) (lt_of_some hy) hlt
    have e1 : l[a]'(lt_of_some hx) = x := by rw [List.getElem?_eq_getElem (lt_of_some hx)] at hx; injection hx
    have e2 : l[c]'(lt_of_some hy) = y := by rw [List.getElem?_eq_getElem (lt_of_some hy)] at hy; injection hy
    rw [e1, e2] at h1
    rw [cmpB_neg] at h ⊢
    simp only [keyLt, decide_eq_true_eq] at h1
    omega
set_option maxRecDepth 100000 in
set_option maxHeartbeats 1600000 in
theorem bsearch_any (u : Value) (l : List Bar) (t1 t2 t3 : Int) (w : World) (hu : SlB w w.heap.size u l) (hs : srtB l) (hn : l.length ≤ 1000) :
    Calls Try.prog 100 #[u, .agg #[.int .i64 t1, .int .i64 t2, .int .i64 t3], .func (Fn.func 101) #[] #[]] w fun e w' => e = .returned (.tuple #[.int .i64 (bsK l (t1, t2, t3) : Nat), .bool (bsF l (t1, t2, t3))]) ∧ Below w.heap.size w w' := by
  obtain ⟨A, c, rfl, hx⟩ : ∃ A c, u = .slice A l.length c ∧ SlB w w.heap.size (.slice A l.length c) l := by
    obtain ⟨A, c, e, h⟩ := hu
    exact ⟨A, c, e, A, c, rfl, h⟩
  clear hu
  obtain ⟨b, hb⟩ : ∃ b : Bar, (t1, t2, t3) = b := ⟨_, rfl⟩
  rw [hb]
  have HB := Lib.hid hb
  clear hb
  obtain ⟨W, hW⟩ : ∃ W, w.alloc (.cells #[.int .i64 t1, .int .i64 t2, .int .i64 t3] 70) = W := ⟨_, rfl⟩
  have g0 : Below w.heap.size w W := by rw [← hW]; exact below_alloc _ _
  have KB : Hid (Blk W w.heap.size 70 #[.int .i64 t1, .int .i64 t2, .int .i64 t3]) := by show Blk _ _ _ _; rw [← hW]; exact Blk.new _ _ _
  obtain ⟨K, hK⟩ : ∃ K, bsK l b = K := ⟨_, rfl⟩
  obtain ⟨F, hF⟩ : ∃ F, bsF l b = F := ⟨_, rfl⟩
  rw [hK, hF]
  have HK := Lib.hid hK
  have HF := Lib.hid hF
  have HS := Lib.hid hs
  clear hK hF hs
  go_enter Try.func100, Try.ntmps100
  go_wp2
  clear hW
  go_loopw [9, 10] (fun i j wr => ∃ lo hi : Nat, lo ≤ hi ∧ hi ≤ l.length ∧ i = .int .i64 lo ∧ j = .int .i64 hi ∧ Below W.heap.size W wr ∧ Hid (∀ (t : Nat) (x : Bar), t < lo → l[t]? = some x → cmpB x b < 0) ∧ Hid (∀ (t : Nat) (x : Bar), hi ≤ t → l[t]? = some x → 0 ≤ cmpB x b)) (fun i j _ => (intOf j).toNat - (intOf i).toNat)
  case atStart => exact ⟨0, l.length, Nat.zero_le _, Nat.le_refl _, rfl, rfl, Below.refl _ _, fun t x ht => absurd ht (Nat.not_lt_zero _), fun t x ht hx => by have := lt_of_some hx; omega⟩
  case round =>
    obtain ⟨lo, hi, hlh, hil, rfl, rfl, hbel, hI1, hI2⟩ := hrel
    have kr := KB.out.call hbel
    have gr := bthen g0 hbel
    have k0 := InB.cell kr.lt (kr.cell' (i := 0) rfl)
    have k1 := InB.cell kr.lt (kr.cell' (i := 1) rfl)
    have k2 := InB.cell kr.lt (kr.cell' (i := 2) rfl)
    have HBE := Lib.hid hbel
    by_cases hlt : lo < hi
    · obtain ⟨M, hM⟩ : ∃ M, (lo + hi) / 2 = M := ⟨_, rfl⟩
      have hM2 : ((lo : Int) + (hi : Int)) / 2 = (M : Int) := by omega
      have hM3 : lo ≤ M := by omega
      have hM4 : M < hi := by omega
      obtain ⟨bb, o, x, y, z, rfl, hbb, HX, y1, y2, y3, _⟩ := SlB.at_ (k := M) hx (by omega)
      have hbr : bb < wr.heap.size := by have := gr.size; omega
      have d1 := InB.cell hbr (bcell gr hbb y1)
      have d2 := InB.cell hbr (bcell gr hbb y2)
      have d3 := InB.cell hbr (bcell gr hbb y3)
      have HC : Hid (∀ X, Calls Try.prog 101 #[.agg #[.int .i64 x, .int .i64 y, .int .i64 z], .agg #[.int .i64 t1, .int .i64 t2, .int .i64 t3]] X fun e w' => e = .returned (.int .i64 (cmpB (x, y, z) b)) ∧ Below X.heap.size X w') := fun X => by rw [← HB.out]; exact compareBars_any x y z t1 t2 t3 X
      obtain ⟨cv, hcv⟩ : ∃ cv, cmpB (x, y, z) b = cv := ⟨_, rfl⟩
      have hcr := cmpB_r (x, y, z) b
      rw [hcv] at HC hcr
      have HCV := Lib.hid hcv
      clear hM hcv y1 y2 y3 hx kr hbel
      by_cases hc0 : cv < 0
      · have hd : decide (cv < 0) = true := decide_eq_true hc0
        have HN : Hid (∀ (t : Nat) (x : Bar), t < M + 1 → l[t]? = some x → cmpB x b < 0) := fun t x' ht hx' => srt_down HS.out (show t ≤ M by omega) hx' HX.out (by rw [HCV.out]; exact hc0)
        go_wp2
        (refine wp_region_inB (by kernel_rfl) (by kernel_rfl) ?_; (repeat (go_big_quiet_step ((go_at_call 101; exact InB.call (HC.out _))))); refine wpQuiet_nil ?_; intro w1 hw'; obtain ⟨s1, hw1⟩ := hw'; have hb1 := s1.below; rw [← hw1] at hb1; clear hw1 s1)
        have HB1 := Lib.hid (HBE.out.trans (hb1.mono HBE.out.size))
        clear hb1
        go_wp2
        go_roundw
        case rel => exact ⟨M + 1, hi, by omega, hil, by go_num, rfl, HB1.out, HN, hI2⟩
        case measure => simp [intOf]; omega
      · have hd : decide (cv < 0) = false := decide_eq_false hc0
        have HN : Hid (∀ (t : Nat) (x : Bar), M ≤ t → l[t]? = some x → 0 ≤ cmpB x b) := fun t x' ht hx' => Int.not_lt.1 fun hcn => hc0 (by rw [← HCV.out]; exact srt_down HS.out ht HX.out hx' hcn)
        go_wp2
        (refine wp_region_inB (by kernel_rfl) (by kernel_rfl) ?_; (repeat (go_big_quiet_step ((go_at_call 101; exact InB.call (HC.out _))))); refine wpQuiet_nil ?_; intro w1 hw'; obtain ⟨s1, hw1⟩ := hw'; have hb1 := s1.below; rw [← hw1] at hb1; clear hw1 s1)
        have HB1 := Lib.hid (HBE.out.trans (hb1.mono HBE.out.size))
        clear hb1
        go_wp2
        go_roundw
        case rel => exact ⟨lo, M, by omega, by omega, rfl, rfl, HB1.out, hI1, HN⟩
        case measure => simp [intOf]; omega
    · have hhl : hi = lo := by omega
      subst hhl
      have HKE : Hid (K = hi) := by show _ = _; rw [← HK.out]; exact bsK_eq hil hI1.out fun x hx' => Int.not_lt.2 (hI2.out hi x (Nat.le_refl _) hx')
      by_cases hnl : hi < l.length
      · have hdn : decide ((hi : Int) < (l.length : Int)) = true := decide_eq_true (by omega)
        obtain ⟨bb, o, x, y, z, rfl, hbb, HX, y1, y2, y3, _⟩ := SlB.at_ (k := hi) hx hnl
        have hbr : bb < wr.heap.size := by have := gr.size; omega
        have d1 := InB.cell hbr (bcell gr hbb y1)
        have d2 := InB.cell hbr (bcell gr hbb y2)
        have d3 := InB.cell hbr (bcell gr hbb y3)
        have HC : Hid (∀ X, Calls Try.prog 101 #[.agg #[.int .i64 x, .int .i64 y, .int .i64 z], .agg #[.int .i64 t1, .int .i64 t2, .int .i64 t3]] X fun e w' => e = .returned (.int .i64 (cmpB (x, y, z) b)) ∧ Below X.heap.size X w') := fun X => by rw [← HB.out]; exact compareBars_any x y z t1 t2 t3 X
        have HFE : Hid (F = decide (cmpB (x, y, z) b = 0)) := by
          show _ = _
          rw [← HF.out, bsF, HK.out, HKE.out, HX.out]
        obtain ⟨cv, hcv⟩ : ∃ cv, cmpB (x, y, z) b = cv := ⟨_, rfl⟩
        rw [hcv] at HC HFE
        clear hcv y1 y2 y3 hx kr hbel
        rcases hc0 : cv == 0 with _ | _
        · have HFF : Hid (F = false) := by show _ = _; rw [HFE.out]; exact decide_eq_false (by simpa using hc0)
          go_wp2
          (refine wp_region_inB (by kernel_rfl) (by kernel_rfl) ?_; (repeat (go_big_quiet_step ((go_at_call 101; exact InB.call (HC.out _))))); refine wpQuiet_nil ?_; intro w1 hw'; obtain ⟨s1, hw1⟩ := hw'; have hb1 := s1.below; rw [← hw1] at hb1; clear hw1 s1)
          go_wp2
          go_ret2
          exact ⟨by rw [HFF.out, HKE.out]; rfl, bthen gr hb1⟩
        · have HFF : Hid (F = true) := by show _ = _; rw [HFE.out]; exact decide_eq_true (by simpa using hc0)
          go_wp2
          (refine wp_region_inB (by kernel_rfl) (by kernel_rfl) ?_; (repeat (go_big_quiet_step ((go_at_call 101; exact InB.call (HC.out _))))); refine wpQuiet_nil ?_; intro w1 hw'; obtain ⟨s1, hw1⟩ := hw'; have hb1 := s1.below; rw [← hw1] at hb1; clear hw1 s1)
          go_wp2
          go_ret2
          exact ⟨by rw [HFF.out, HKE.out]; rfl, bthen gr hb1⟩
      · have hdn : decide ((hi : Int) < (l.length : Int)) = false := decide_eq_false (by omega)
        have HFF : Hid (F = false) := by
          show _ = _
          rw [← HF.out, bsF, HK.out, HKE.out, List.getElem?_eq_none (by omega)]
        clear kr hbel
        go_wp2
        (refine wp_region_inB (by kernel_rfl) (by kernel_rfl) ?_; (repeat (go_big_quiet_step ((go_at_call 101; fail)))); refine wpQuiet_nil ?_; intro w1 hw'; obtain ⟨s1, hw1⟩ := hw'; have hb1 := s1.below; rw [← hw1] at hb1; clear hw1 s1)
        go_wp2
        go_ret2
        exact ⟨by rw [HFF.out, HKE.out]; rfl, bthen gr hb1⟩
end Go.Proofs.Ytgbchoenmpoojaa
