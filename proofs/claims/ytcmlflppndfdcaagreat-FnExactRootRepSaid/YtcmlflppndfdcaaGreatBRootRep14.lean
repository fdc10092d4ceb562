/- FnExactRootRep: the law holds for every argument. Part 14 of 18 of the proof: StbS, RtI, RtA, RtA2, RtX. No condition. -/
import Derived.Test.YtcmlflppndfdcaaGreatBRootRep13
import Derived.Shelf.SlSortCmp.Insertion
import Derived.Ground.SlsfProg
import Derived.Lib.OwnBridge
set_option linter.unusedVariables false
set_option linter.unusedSimpArgs false
namespace Go.Proofs
open Go.Shelf
def Tryz.laysIns_ren : Go.Shelf.Ren := ⟨fun | 20 => 159 | n => n, fun | 24 => 22 | 22 => 57 | 3 => 3 | 25 => 146 | 4 => 4 | 0 => 0 | n => n, fun | n => n⟩
theorem Tryz.laysIns : Go.Proofs.SlLaysF.n20 Tryz.prog Tryz.laysIns_ren := {
 mixed := by kernel_rfl
 f20 := ⟨Tryz.f159.name, by decide, Tryz.func159.trans (congrArg some (by kernel_rfl))⟩
 t0 := Tryz.underlying0
 a0 := Tryz.isAgg0
 z0 := Tryz.sizeOf0
 v0 := Tryz.zeroValue0
 t3 := Tryz.underlying3
 a3 := Tryz.isAgg3
 z3 := Tryz.sizeOf3
 v3 := Tryz.zeroValue3
 t4 := Tryz.underlying4
 a4 := Tryz.isAgg4
 z4 := Tryz.sizeOf4
 v4 := Tryz.zeroValue4
 t22 := Tryz.underlying57
 a22 := Tryz.isAgg57
 z22 := Tryz.sizeOf57
 v22 := Tryz.zeroValue57
 a24 := Tryz.isAgg22
 z24 := Tryz.sizeOf22
 t25 := Tryz.underlying146
 a25 := Tryz.isAgg146
 z25 := Tryz.sizeOf146
 v25 := Tryz.zeroValue146 }
end Go.Proofs
namespace Go.Proofs.YtcmlflppndfdcaaGreat
open Go.RowKit Go.Sort
theorem insS_self (lt : Nat → Nat → Bool) (d : Array Nat) (n : Nat) : insertionSort lt d n n = d := by
 rw [insertionSort, oStop _ _ _ _ _ (by omega)]
theorem insI_size (lt : Nat → Nat → Bool) (a : Nat) : ∀ (j : Nat) (d : Array Nat), (insInner lt a j d).size = d.size
 | 0, d => rfl
 | j + 1, d => by
  rw [insInner]
  split
  ·rw [insI_size lt a j]; exact swp_size _ _ _
  ·rfl
theorem insO_size (lt : Nat → Nat → Bool) (a b : Nat) : ∀ (m i : Nat) (d : Array Nat), b - i ≤ m → (insOuter lt a b i d).size = d.size
 | 0, i, d, h => by rw [oStop _ _ _ _ _ (by omega)]
 | m + 1, i, d, h => by
  by_cases hi : i < b
  ·rw [oGo _ _ _ _ _ hi, insO_size lt a b m _ _ (by omega), insI_size]
  ·rw [oStop _ _ _ _ _ hi]
theorem insS_size (lt : Nat → Nat → Bool) (d : Array Nat) (a b : Nat) : (insertionSort lt d a b).size = d.size := insO_size lt a b _ _ _ (Nat.le_refl _)
set_option maxRecDepth 100000 in
set_option maxHeartbeats 1600000 in
theorem stable20 (enc : Nat → Value) (hO : OneCell enc) (cf : Nat → Nat → Int) (g blk cap N : Nat) (d : Array Nat) (w : World) (hN : d.size = N) (eg : ∀ args w, (callFunc g args).run Tryz.prog w = .ok (.enter g args) w)
  (hcmp : CmpReads Tryz.prog g #[] enc cf blk 0 d.size w) (hH : Holds enc w blk 0 d) (hblk : blk < w.heap.size) (h20 : N ≤ 20) :
  Calls Tryz.prog 158 #[.slice (some ⟨blk, 0, none⟩) N cap, .int .i64 N, .func (.func g) #[] #[]] w fun e w' => e = .returned (.tuple #[]) ∧ ∃ n, w' = sortWorld enc w blk 0 n (insertionSort (ltOf cf) d 0 N) #[] := by
 have h1 := Any.insertionSortCmpFunc_one Tryz.laysIns enc hO cf g #[] blk 0 cap 0 N d w eg hcmp hH (Nat.zero_le _) (by omega) (by omega)
 change Calls Tryz.prog 159 _ _ _ at h1
 rw [hN] at h1
 by_cases h : N = 20
 ·subst h
  have h2 : Hid (∀ n : Nat, Calls Tryz.prog 159 #[.slice (some ⟨blk, 0, none⟩) 20 cap, .int .i64 (20 : Nat), .int .i64 (20 : Nat), .func (.func g) #[] #[]] ((putRow enc w blk 0 (insertionSort (ltOf cf) d 0 20)).drewN n) fun e w' => e = .returned (.tuple #[]) ∧ ∃ m, w' = sortWorld enc w blk 0 m (insertionSort (ltOf cf) d 0 20) #[]) := by
   intro n
   have hs : (insertionSort (ltOf cf) d 0 20).size = 20 := by rw [insS_size, hN]
   obtain ⟨d', hd'⟩ : ∃ d', insertionSort (ltOf cf) d 0 20 = d' := ⟨_, rfl⟩
   rw [hd'] at hs ⊢
   have hw := sortWorld_none enc w blk 0 n d'
   have hH' : Holds enc (sortWorld enc w blk 0 n d' #[]) blk 0 d' := holds_sortWorld enc w blk 0 n d d' #[] hblk hH (by omega)
   have hc' : CmpReads Tryz.prog g #[] enc cf blk 0 d'.size (sortWorld enc w blk 0 n d' #[]) := by
    intro m os dk hdk x y
    rw [sortWorld_on enc w blk 0 n m d' dk #[] os hblk hdk]
    exact hcmp _ _ dk (by omega) x y
   have h3 := Any.insertionSortCmpFunc_one Tryz.laysIns enc hO cf g #[] blk 0 cap 20 20 d' _ eg hc' hH' (Nat.le_refl _) (by omega) (by omega)
   change Calls Tryz.prog 159 _ _ _ at h3
   rw [hs] at h3
   rw [← hw]
   refine h3.mono ?_
   rintro e w' ⟨rfl, m, rfl⟩
   refine ⟨rfl, n + m, ?_⟩
   rw [insS_self, putRow_self enc _ blk 0 d' hH', sortWorld_none, sortWorld_none, World.drewN_drewN]
  clear hH hcmp eg hN
  go_enter Tryz.func158, Tryz.ntmps158
  go_wp2
  refine wp_loop_rounds 2 ?_
  rw [rounds_succ]
  go_wp2_with fail
  refine h1.mono ?_; rintro e w1 ⟨rfl, n, rfl⟩
  clear h1
  obtain ⟨W, hW⟩ : ∃ W, (putRow enc w blk 0 (insertionSort (ltOf cf) d 0 20)).drewN n = W := ⟨_, rfl⟩
  have h3 := h2.out n
  rw [hW] at h3 ⊢
  clear hW h2
  go_wp2
  rw [rounds_succ]
  go_wp2_with fail
  refine h3.mono ?_; rintro e w2 ⟨rfl, m, hm⟩
  have HM := Lib.hid hm
  clear h3 hm
  go_wp2
  refine wp_loop_rounds 1 ?_
  rw [rounds_succ]
  go_wp2
  go_end0
  exact ⟨rfl, m, HM.out⟩
 ·have hlt : ¬ (20 : Int) ≤ (N : Int) := by omega
  have hlt2 : ¬ (20 : Int) < (N : Int) := by omega
  clear hH hcmp eg
  have HN := Lib.hid hN
  clear hN h
  go_enter Tryz.func158, Tryz.ntmps158
  go_wp2
  refine wp_loop_rounds 1 ?_
  rw [rounds_succ]
  go_wp2_with fail
  refine h1.mono ?_; rintro e w1 ⟨rfl, n, hn⟩
  have HW := Lib.hid hn
  clear h1 hn
  go_wp2
  refine wp_loop_rounds 1 ?_
  rw [rounds_succ]
  go_wp2
  go_end0
  exact ⟨rfl, n, by rw [HW.out, sortWorld_none]⟩
set_option maxHeartbeats 400000 in
theorem sortStable20 (enc : Nat → Value) (hO : OneCell enc) (cf : Nat → Nat → Int) (g blk cap N : Nat) (d : Array Nat) (w : World) (hN : d.size = N) (eg : ∀ args w, (callFunc g args).run Tryz.prog w = .ok (.enter g args) w)
  (hcmp : CmpReads Tryz.prog g #[] enc cf blk 0 d.size w) (hH : Holds enc w blk 0 d) (hblk : blk < w.heap.size) (h20 : N ≤ 20) :
  Calls Tryz.prog 156 #[.slice (some ⟨blk, 0, none⟩) N cap, .func (.func g) #[] #[]] w fun e w' => e = .returned (.tuple #[]) ∧ ∃ n, w' = sortWorld enc w blk 0 n (insertionSort (ltOf cf) d 0 N) #[] := by
 have h1 := stable20 enc hO cf g blk cap N d w hN eg hcmp hH hblk h20
 clear hH hcmp eg hN
 go_enter Tryz.func156, Tryz.ntmps156
 go_wp2_with fail
 refine h1.mono ?_; rintro e w1 ⟨rfl, n, hn⟩
 have HW := Lib.hid hn
 clear h1 hn
 go_wp2
 go_end0
 exact ⟨rfl, n, HW.out⟩
theorem grownBy_sortWorld (enc : Nat → Value) (w : World) (q g : Nat) (d : Array Nat) (os : Array Obj) : w.grownBy (sortWorld enc w g 0 q d os) (some g) := by
 refine ⟨rfl, rfl, rfl, by simp [sortWorld, putRow, mapBlock, Sort.ahead], fun k hk hne => ?_⟩
 unfold sortWorld
 rw [heap_grow_old _ _ (by simpa [putRow, mapBlock, Sort.ahead] using hk)]
 have : g ≠ k := fun e => hne (by rw [e])
 simp [putRow, mapBlock, Sort.ahead, Array.getElem?_modify, this]
theorem Fam.perm {w : World} {lo hi : Nat} {L M : List (Value × List Int)} (h : Fam w lo hi L) (hp : L.Perm M) : Fam w lo hi M :=
 ⟨fun p hm => h.1 p (hp.mem_iff.2 hm), hp.pairwise h.2 (fun {a b} hab => by
  rcases hab with hab | hab
  ·rcases hB : b.1.ownBlock with _ | y
   ·exact .inl rfl
   ·exact .inr (by rw [hab]; simp)
  ·rcases hB : b.1.ownBlock with _ | y
   ·exact .inl rfl
   ·exact .inr (fun e => hab (by rw [← e, hB])))⟩
theorem sort_rows (g : Nat) (cf : Nat → Nat → Int) (v : Value) (ll : List (List Int)) (lo hi : Nat) (w : World) (hv : IntssO w lo hi v ll) (h0 : 0 < ll.length) (h20 : ll.length ≤ 20) (hsw : SWO (ltOf cf)) (eg : ∀ args w, (callFunc g args).run Tryz.prog w = .ok (.enter g args) w)
  (hcl : ∀ (W : World) (a b : Value) (i j : Nat), SlI W W.heap.size a (ll.getD i []) → SlI W W.heap.size b (ll.getD j []) → Calls Tryz.prog g #[a, b] W fun e w' => e = .returned (.int .i64 (cf i j)) ∧ ∃ q, w' = W.drewN q) :
  Calls Tryz.prog 156 #[v, .func (.func g) #[] #[]] w fun e w' => e = .returned (.tuple #[]) ∧ IntssO w' lo hi v ((insertionSort (ltOf cf) (rngA ll.length) 0 ll.length).toList.map fun i => ll.getD i []) ∧ w.grownBy w' v.ownBlock := by
 obtain ⟨vs, ho, hl, hF⟩ := hv
 obtain ⟨enc, henc⟩ : ∃ enc : Nat → Value, enc = fun i => vs.getD i (.slice none 0 0) := ⟨_, rfl⟩
 have hvs : (List.range vs.length).map enc = vs := by
  rw [henc]
  apply List.ext_getElem (by simp)
  intro i h1 h2
  simp [List.getD_eq_getElem?_getD, h2]
 have hrd : ∀ (W : World), Fam W lo hi (vs.zip ll) → ∀ i, SlI W W.heap.size (enc i) (ll.getD i []) := by
  intro W hFW i
  rw [henc]
  by_cases hi : i < vs.length
  ·have := (hFW.1 (vs[i], ll[i]'(by omega)) (by rw [List.mem_iff_getElem]; exact ⟨i, by simp; omega, by simp⟩)).rd
   simpa [List.getD_eq_getElem?_getD, hi, show i < ll.length by omega] using this
  ·have e1 : vs[i]? = none := List.getElem?_eq_none (by omega)
   have e2 : ll[i]? = none := List.getElem?_eq_none (by omega)
   simp only [List.getD_eq_getElem?_getD, e1, e2, Option.getD_none]
   exact SlG.nil
 have hO : OneCell enc := by
  intro i
  obtain ⟨A, c, e, _⟩ := hrd w hF i
  rw [e]; rfl
 have hown : w.ownsRow lo 22 1 v vs.length ((List.range vs.length).map enc) := by rw [hvs]; exact ho.1
 obtain ⟨g', cap, rfl, hg, hgl, hnc, hcm, _, hH⟩ := Lib.holds_of_ownsRow hown (by
  rintro rfl
  rcases ho.1.2 with ⟨_, h⟩ | ⟨_, _, _, h, _⟩
  ·omega
  ·cases h)
 have hsz : (rngA vs.length).size = vs.length := by simp [rngA]
 have hgr : ∀ q d os, w.grownBy (sortWorld enc w g' 0 q d os) (some g') := fun q d os => grownBy_sortWorld enc w q g' d os
 have hFW : ∀ q d os, Fam (sortWorld enc w g' 0 q d os) lo hi (vs.zip ll) := fun q d os => hF.grownO ho.1 (hgr q d os)
 refine (sortStable20 enc hO cf g g' cap vs.length (rngA vs.length) w hsz eg (fun m os dk hdk x y => hcl _ _ _ x y (hrd _ (hFW m dk os) x) (hrd _ (hFW m dk os) y)) hH hgl (by omega)).mono ?_
 rintro e w' ⟨rfl, n, rfl⟩
 obtain ⟨S, hS⟩ : ∃ S, insertionSort (ltOf cf) (rngA vs.length) 0 vs.length = S := ⟨_, rfl⟩
 have hSs : S.size = vs.length := by rw [← hS, insS_size, hsz]
 have hSp : S.toList.Perm (List.range vs.length) := by
  obtain ⟨⟨_, _, hp⟩, _⟩ := insertionSort_holds (lt := ltOf cf) hsw (rngA vs.length) 0 vs.length (Nat.zero_le _) (by omega)
  rw [hS] at hp
  have e1 : S.extract 0 vs.length = S := Array.extract_eq_self_of_le (by omega)
  have e2 : (rngA vs.length).extract 0 vs.length = rngA vs.length := Array.extract_eq_self_of_le (by omega)
  rw [e1, e2] at hp
  simpa [rngA] using hp
 rw [← hl, hS]
 refine ⟨rfl, ⟨S.toList.map enc, ?_, by simp, ?_⟩, hgr _ _ _⟩
 ·have h1 := Lib.ownsRow_putRow (q := n) (k := vs.length) (ys := S.toList) hown (by simpa using hSs) (Nat.le_refl _)
  rw [List.take_of_length_le (by simp; omega)] at h1
  refine ⟨?_, fun k hk => ho.2.1 k hk, by simp; have := ho.2.2; omega⟩
  have e : (S.toList.map enc).length = vs.length := by simp [hSs]
  rw [e]
  have : sortWorld enc w g' 0 n S #[] = putRow enc (Sort.ahead w n) g' 0 S.toList.toArray := by unfold sortWorld; rw [grow_empty]
  rw [this]; exact h1
 ·have hz : (S.toList.map enc).zip (S.toList.map fun i => ll.getD i []) = S.toList.map fun i => (enc i, ll.getD i []) := by rw [List.zip_map']
  rw [hz]
  refine (hFW n S #[]).perm ?_
  have e2 : vs.zip ll = (List.range vs.length).map fun i => (enc i, ll.getD i []) := by
   apply List.ext_getElem (by simp; omega)
   intro i h1 h2
   have hi : i < vs.length := by simpa using h2
   simp [henc, List.getD_eq_getElem?_getD, hi, show i < ll.length by omega]
  rw [e2]
  exact (hSp.map _).symm
end Go.Proofs.YtcmlflppndfdcaaGreat
namespace Go.Proofs.YtcmlflppndfdcaaGreat
open Go.RowKit Go.Shelf Go.Sort
attribute [local go_sem] Oper.semAt_some
theorem ltOf_sum (L : List (List Int)) : ltOf (fun i j => (L.getD i []).sum - (L.getD j []).sum) = ltS L := by
 funext i j
 simp only [ltOf, ltS]
 congr 1
 apply propext
 constructor <;> intro h <;> omega
theorem ltS_swo (L : List (List Int)) : SWO (ltS L) := by
 refine ⟨fun x => ?_, fun x y z h k => ?_, fun x y z h k => ?_⟩
 ·simp [ltS]
 ·simp [ltS] at h k ⊢; omega
 ·simp [ltS] at h k ⊢; omega
theorem rootsCmp_any (a b : Value) (x y : List Int) (w : World) (ha : SlI w w.heap.size a x) (hb : SlI w w.heap.size b y) (sx : smallV 100 x) (lx : x.length ≤ 1000) (sy : smallV 100 y) (ly : y.length ≤ 1000) :
  Calls Tryz.prog 157 #[a, b] w fun e w' => e = .returned (.int .i64 (x.sum - y.sum)) ∧ ∃ q, w' = w.drewN q := by
 have h1 := sumOf_any a x w ha
 have h2 := sumOf_any b y w hb
 rw [sumW_of sx lx] at h1
 rw [sumW_of sy ly] at h2
 have r1 : -100000 ≤ x.sum ∧ x.sum ≤ 100000 := by
  have := (sumW_small x (-100) 100 (by omega) (by omega) sx (by omega) (by omega)).2; omega
 have r2 : -100000 ≤ y.sum ∧ y.sum ≤ 100000 := by
  have := (sumW_small y (-100) 100 (by omega) (by omega) sy (by omega) (by omega)).2; omega
 obtain ⟨S, hS⟩ : ∃ S, x.sum = S := ⟨_, rfl⟩
 obtain ⟨T, hT⟩ : ∃ T, y.sum = T := ⟨_, rfl⟩
 rw [hS] at h1 r1 ⊢
 rw [hT] at h2 r2 ⊢
 clear ha hb hS hT sx sy
 go_enter Tryz.func157, Tryz.ntmps157
 go_wp2_with fail
 refine h1.mono ?_; rintro e w1 ⟨rfl, rfl⟩
 clear h1
 go_wp2_with fail
 refine h2.mono ?_; rintro e w1 ⟨rfl, rfl⟩
 clear h2
 go_wp2
 go_ret
 exact ⟨rfl, 0, rfl⟩
theorem rtB_sm (q : Qv) (V k : Nat) : ∀ x ∈ rtB q V k, smallV 100 x ∧ x.length = V := by
 intro x hx
 rw [rtB, List.mem_filter] at hx
 obtain ⟨j, _, rfl⟩ := List.mem_map.1 hx.1
 exact ⟨bxV_small 4 V j (by omega), bxV_length 4 V j⟩
theorem rtB_pos {q : Qv} (hk : kindQ q = 1) : 0 < (rtB q q.v.toNat (5 ^ q.v.toNat)).length := by
 have hv := (isQ_t.1 (fin_isQ hk)).1
 exact List.length_pos_of_mem (rtB_all hk (isRt_uni hk (v := 0) (by omega)))
set_option maxRecDepth 100000 in
set_option maxHeartbeats 3200000 in
theorem implRoots_any (u : Value) (q : Qv) (w0 : World) (hu : QvR w0 w0.heap.size u q) (hkq : kindQ q = 1) :
  Calls Tryz.prog 148 #[u] w0 fun e w' => ∃ v, e = .returned v ∧ IntssO w' w0.heap.size w'.heap.size v (rtsQ q) ∧ Below w0.heap.size w0 w' := by
 have hu' := hu
 obtain ⟨A, c, C, d, rfl, hf, ht, hr, _⟩ := hu.open_
 clear hu hf ht
 have hq := fin_isQ hkq
 have hv := (isQ_t.1 hq).1
 obtain ⟨V, hV⟩ := Int.eq_ofNat_of_zero_le (show 0 ≤ q.v by omega)
 have hVn : q.v.toNat = V := by omega
 have hV5 : V ≤ 5 := by omega
 have hV1 : 1 ≤ V := by omega
 have HN := Lib.hid (fun k => (by have := isNum_bx hq k; rwa [hVn] at this : isNum q (bxV 4 V k) = true))
 have HL := Lib.hid (fun k (hk : k ≤ 5 ^ V) => (by have := rtB_len hkq k (by rw [hVn]; exact hk); rwa [hVn] at this : (rtB q V k).length ≤ 20))
 have HP := Lib.hid (by have := rtB_pos hkq; rwa [hVn] at this : 0 < (rtB q V (5 ^ V)).length)
 have HR := Lib.hid (by have := srt_rts hkq; rwa [hVn] at this : (srtA (rtB q V (5 ^ V)) (rtB q V (5 ^ V)).length).map (fun i => (rtB q V (5 ^ V)).getD i []) = rtsQ q)
 have HVQ := Lib.hid hVn
 have HQ := Lib.hid hq
 have HU := Lib.hid (show QvR w0 w0.heap.size (.agg #[.int .i64 (V : Int), .slice A q.f.length c, .slice C q.t.length d]) q by rw [← hV]; exact hu')
 rw [hV]
 clear hq hv hV hVn hkq hu'
 obtain ⟨W, hW⟩ : ∃ W, w0.alloc (.cells #[.int .i64 (V : Int), .slice A q.f.length c, .slice C q.t.length d] 29) = W := ⟨_, rfl⟩
 obtain ⟨W2, hW2⟩ : ∃ W2, W.alloc (.cells #[.slice none 0 0] 57) = W2 := ⟨_, rfl⟩
 obtain ⟨W3, hW3⟩ : ∃ W3, W2.alloc (.cells #[.int .i64 4] 3) = W3 := ⟨_, rfl⟩
 have z1 : W.heap.size = w0.heap.size + 1 := by rw [← hW]; simp
 have z2 : W2.heap.size = w0.heap.size + 2 := by rw [← hW2]; simp [z1]
 have z3 : W3.heap.size = w0.heap.size + 3 := by rw [← hW3]; simp [z2]
 have g3 : Below w0.heap.size w0 W3 := by rw [← hW3, ← hW2, ← hW]; exact (((Below.refl _ _).alloc (Nat.le_refl _) _).alloc (by simp) _).alloc (by simp; omega) _
 have kO3 : Blk W3 W.heap.size 57 #[.slice none 0 0] := by rw [← hW3, ← hW2]; exact (Blk.new _ _ _).alloc _
 have kB3 : Blk W3 w0.heap.size 29 #[.int .i64 (V : Int), .slice A q.f.length c, .slice C q.t.length d] := by rw [← hW3, ← hW2, ← hW]; exact ((Blk.new _ _ _).alloc _).alloc _
 have hs4 : SlI W3 W3.heap.size (.slice (some ⟨W2.heap.size, 0, none⟩) 1 1) [4] := by rw [← hW3]; exact SlI.one W2 _ 4 ⟨by omega, by omega⟩
 have c0 := kB3.cell' (i := 0) rfl
 have Z1 := Lib.hid z1
 have Z2 := Lib.hid z2
 have Z3 := Lib.hid z3
 clear z1 z2 z3
 refine (callsIn_wide (n := 3)).1 ?_
 refine callsIn_of_wp_marks Tryz.func148 rfl trivial ?_ rfl
 simp only [Tryz.ntmps148, List.size_toArray, List.length_cons, List.length_nil, Nat.reduceAdd, Nat.reduceSub, Array.replicate_succ, Array.replicate_zero, List.push_toArray, List.append_toArray, List.nil_append, List.cons_append]
 gi_wp2_with fail
 clear hW hW2 hW3
 refine ⟨trivial, (callsIn_wide.2 (repeat1_any _ 4 V _ hs4 (by omega))).mono ?_⟩; rintro e w4 ⟨mv, rfl, ho4, hb4⟩
 obtain ⟨MA, mc, hmv, hmc⟩ := ho4.form
 rw [List.length_replicate] at hmv
 subst hmv
 have hf4 := boxes_any (.slice MA V mc) w4 ⟨_, _, _, rfl, by have := hmc.1; rw [List.length_replicate] at this; exact this⟩
 have kO4 := kO3.call hb4
 have kB4 := kB3.call hb4
 have g4 := bthen g3 hb4
 have hmr := ho4.rd
 have hrow : ∀ b o, MA = some ⟨b, o, none⟩ → b ≠ W.heap.size := by
  rintro b o rfl
  have := (ho4.lt b rfl).1
  have := Z3.out
  have := Z1.out
  omega
 have s34 := hb4.size
 clear c0 kO3 kB3 g3 hs4 hb4 ho4 hmc
 obtain ⟨w5, hw5⟩ : ∃ w5, w4.alloc (.cells #[.slice MA V mc] 22) = w5 := ⟨_, rfl⟩
 have kO5 : Blk w5 W.heap.size 57 #[.slice none 0 0] := by rw [← hw5]; exact kO4.alloc _
 have kB5 := by have := kB4.alloc (.cells #[.slice MA V mc] 22); rw [hw5] at this; exact this
 have b45 : Below w4.heap.size w4 w5 := by rw [← hw5]; exact below_alloc _ _
 have g5 := bthen g4 b45
 have kM5 : Blk w5 w4.heap.size 22 #[.slice MA V mc] := by rw [← hw5]; exact Blk.new _ _ _
 have hm5 := SlI.next b45 hmr
 have z5 : w5.heap.size = w4.heap.size + 1 := by rw [← hw5]; simp
 have hseq := boxes1_seq 2 (by omega) w4.heap.size W.heap.size 4 V w5.heap.size mc MA w5 (by omega) (Nat.le_refl _) (by have := Z3.out; have := Z1.out; omega) (by have := Z3.out; have := Z1.out; omega) (by omega) (by omega) (kM5.cell' (i := 0) rfl) hm5 hrow
 have hBo : W.heap.size < w5.heap.size := by have := Z3.out; have := Z1.out; omega
 rw [hw5] at hf4
 clear hm5 hrow kM5 b45 kO4 kB4 g4 z5 hmr hw5
 gi_wp2_with fail
 refine ⟨trivial, (callsIn_wide.2 hf4).mono ?_⟩; rintro e w6 ⟨rfl, rfl⟩
 clear hf4
 gi_wp2_with fail
 refine wpIn_rangeBx (n := 3) (by omega) rfl (enters_of Tryz.func96 (by kernel_rfl) rfl) hseq rfl hBo
  (fun k W' => ∃ v, Blk W' W.heap.size 57 #[v] ∧ IntssO W' (w6.heap.size + 3) W'.heap.size v (rtB q V k) ∧ Below w0.heap.size w0 W' ∧ Blk W' w0.heap.size 29 #[.int .i64 (V : Int), .slice A q.f.length c, .slice C q.t.length d])
  (fun _ _ _ => False) ?hI (fun _ _ _ _ h _ => h) ?h0 ?a1 ?assign ?body ?done (fun _ _ _ _ h _ => h.elim)
 case assign =>
  intro l W' K' hK
  gi_wp2
  exact hK
 case hI =>
  rintro k A' B' ⟨v, h1, h2, h4, h5⟩ hc
  exact ⟨v, h1.chg hc (.inl hBo), (h2.chg hc (.inr (Nat.le_refl _))).wider (Nat.le_refl _) hc.size, h4.trans (hc.below (by have := Z1.out; omega) h4.size), h5.chg hc (.inl (by have := Z1.out; omega))⟩
 case h0 => exact ⟨_, kO5, IntssO.nil _ _ _, g5, kB5⟩
 case body =>
  rintro l k W' hsz ⟨v, hO, hown, hbel, hkB⟩ hbx hkM
  have hqW : QvR W' W'.heap.size (.agg #[.int .i64 (V : Int), .slice A q.f.length c, .slice C q.t.length d]) q := QvR.more hbel.size (QvR.below hbel HU.out)
  have hnum := HN.out k
  have hxr : SlI W' W'.heap.size (.slice (some ⟨w6.heap.size + 2, 0, none⟩) V V) (bxV 4 V k) := hbx.rd
  have hyes := rtB_yes (q := q) (V := V) (k := k)
  have hno := rtB_no (q := q) (V := V) (k := k)
  have hl20 := HL.out k (by show k ≤ (4 + 1) ^ V; omega)
  have hz1 : w0.heap.size < W.heap.size := by have := Z1.out; omega
  have hw6 := g5.size
  obtain ⟨X, hX⟩ : ∃ X, bxV 4 V k = X := ⟨_, rfl⟩
  obtain ⟨L, hL⟩ : ∃ L, rtB q V k = L := ⟨_, rfl⟩
  rw [hX] at hnum hxr hyes hno
  rw [hL] at hown hyes hno hl20
  have hsx := isNum_small hnum
  have CE := euler_any _ _ _ q X X W' hqW hxr hxr HQ.out (isNum_len hnum) (isNum_len hnum) hsx hsx
  obtain ⟨E, hE⟩ : ∃ E, eul q X X = E := ⟨_, rfl⟩
  rw [hE] at CE hyes hno
  obtain ⟨BA, bc, hvE, hbl1, hbl2, _⟩ := hown.form2
  subst hvE
  have c0 := hkB.cell' (i := 0) rfl
  have c1 := hkB.cell' (i := 1) rfl
  have c2 := hkB.cell' (i := 2) rfl
  obtain ⟨LN, hLN⟩ : ∃ n, L.length = n := ⟨_, rfl⟩
  rw [hLN] at hO hown hbl1 hl20
  have HLN := Lib.hid hLN
  clear hE hX hL hbx hnum hqW hLN
  by_cases he : E = 1
  ·have HY := Lib.hid (hyes he)
   subst he
   clear hyes hno
   gi_wp2_with fail
   refine ⟨trivial, (CallsIn.inRound l (callsIn_wide.2 CE)).mono ?_⟩; rintro e w7 ⟨rfl, hb7⟩
   have hO7 := hO.call hb7
   have hown7 := hown.below hb7
   have hxr7 := SlI.next hb7 hxr
   have hbel7 := bthen hbel hb7
   have hkB7 := hkB.call hb7
   have s7 := hb7.size
   clear CE c0 c1 c2
   gi_wp2_with fail
   refine wpIn_region_netR (by kernel_rfl) (by kernel_rfl) (by rintro ⟨_, _, h⟩; exact h) [.eq (.slice BA LN bc), .eq (.slice (some ⟨w6.heap.size + 2, 0, none⟩) V V), rel 2 (fun u lo hi w => IntsO w lo hi u X), .rel (fun x w => ∃ g, x.v 3 = .slice (some ⟨g, 0, none⟩) 1 1 ∧ w.cell? ⟨g, 0, none⟩ = some (x.v 2) ∧ g < w.heap.size)] [[], [], [1], [1, 2], [0, 1, 2, 3], [0, 1, 2, 3, 4]] 4 (by kernel_rfl) ⟨trivial, trivial, rel_stable (fun u lo hi w w' h hb => h.below hb), fun x w w' ⟨g, e, h, hl⟩ hb => ⟨g, e, bcell hb hl h, Nat.lt_of_lt_of_le hl hb.size⟩, trivial⟩ ⟨?_, ?_, ?_, ?_, trivial⟩ ?_
   ·intro x w hb hk Q' hQ
    clear hk
    simp only [netE] at hQ ⊢
    have z0 := (hO7.call hb).cell' (i := 0) rfl
    go_wp2
    exact hQ _ _ (Below.refl _ _) rfl
   ·intro x w hb hk Q' hQ
    clear hk
    simp only [netE] at hQ ⊢
    go_wp2
    exact hQ _ _ (Below.refl _ _) rfl
   ·intro x w hb hk Q' hQ
    have h1 : x.v 1 = .slice (some ⟨w6.heap.size + 2, 0, none⟩) V V := (hk 1 (by decide)).1
    clear hk
    simp only [netE] at hQ ⊢
    simp only [h1] at hQ ⊢
    clear h1
    go_wp2_with fail
    refine (clone_own _ X _ (SlI.more hb.size (SlI.below hb hxr7))).mono ?_; rintro e w8 ⟨v8, rfl, ho8, hb8⟩
    go_wp2
    exact hQ _ _ hb8 ho8
   ·intro x w hb hk Q' hQ
    have h1 : x.v 1 = .slice (some ⟨w6.heap.size + 2, 0, none⟩) V V := (hk 1 (by decide)).1
    have h2 : IntsO w (x.lo 2) (x.hi 2) (x.v 2) X := (hk 2 (by decide)).1
    have s2 := (hk 2 (by decide)).2
    clear hk
    simp only [netE] at hQ ⊢
    simp only [h1] at hQ ⊢
    clear h1
    obtain ⟨Aq, cq, e2, _, _⟩ := h2.1.form
    rw [e2] at h2 hQ ⊢
    go_wp2
    exact hQ _ _ (below_alloc _ _) ⟨_, rfl, by simp [restr, Gh.set, e2], by simp⟩
   ·intro x w hb hk hiv hdj
    have h0 : x.v 0 = .slice BA LN bc := hk 0 (by decide)
    have h1 : x.v 1 = .slice (some ⟨w6.heap.size + 2, 0, none⟩) V V := hk 1 (by decide)
    have h2 : IntsO w (x.lo 2) (x.hi 2) (x.v 2) X := hk 2 (by decide)
    have h3 : ∃ g, x.v 3 = .slice (some ⟨g, 0, none⟩) 1 1 ∧ w.cell? ⟨g, 0, none⟩ = some (x.v 2) ∧ g < w.heap.size := hk 3 (by decide)
    clear hk
    simp only [netE]
    simp only [List.drop_succ_cons, List.drop_zero, h0, h1]
    clear h0 h1
    obtain ⟨g3, e3, c3, l3⟩ := h3
    obtain ⟨A2, cc2, e2, _, _⟩ := h2.1.form
    have i2 := hiv 2 (by decide)
    rw [e3]
    rw [e2] at c3 h2
    have hO8 := hO7.call hb
    have hown8 := hown7.below hb
    have hbel8 := bthen hbel7 hb
    have hkB8 := hkB7.call hb
    have s8 := hb.size
    have hbb : Below W'.heap.size W' w := hb7.trans (hb.mono s7)
    clear hiv hdj e3 e2 hO7 hown7 hbel7 hkB7 hb
    refine wpList_appR rfl (.tmp 16) (.tmp 19) rfl (w6.heap.size + 3) W'.heap.size (x.lo 2) (x.hi 2) _ L X rfl hown8 (some ⟨g3, 0, none⟩) 1 _ rfl ⟨_, _, rfl, c3⟩ h2 (by omega) i2.2.1 (by omega) (by have := HLN.out; omega) (by omega) i2.2.2 ?_
    intro v9 w9 ho9 hb9 hg9
    have hO9 := hO8.below hb9 (by omega)
    have hkB9 := hkB8.below hb9 (by omega)
    have d0 := hO9.cell' (i := 0) rfl
    have f0 := hO9.frozen 0
    obtain ⟨A9, c9, hv9, _, _⟩ := ho9.form2
    subst hv9
    rw [← HY.out] at ho9 ⊢
    have s9 := hb9.size
    have hfin : Hid (RoundK W.heap.size w6.heap.size W' (w9.setCell ⟨W.heap.size, 0, none⟩ (.slice A9 (rtB q V (k + 1)).length c9)) ∧ ∃ v, Blk (w9.setCell ⟨W.heap.size, 0, none⟩ (.slice A9 (rtB q V (k + 1)).length c9)) W.heap.size 57 #[v] ∧ IntssO (w9.setCell ⟨W.heap.size, 0, none⟩ (.slice A9 (rtB q V (k + 1)).length c9)) (w6.heap.size + 3) (w9.setCell ⟨W.heap.size, 0, none⟩ (.slice A9 (rtB q V (k + 1)).length c9)).heap.size v (rtB q V (k + 1)) ∧ Below w0.heap.size w0 (w9.setCell ⟨W.heap.size, 0, none⟩ (.slice A9 (rtB q V (k + 1)).length c9)) ∧ Blk (w9.setCell ⟨W.heap.size, 0, none⟩ (.slice A9 (rtB q V (k + 1)).length c9)) w0.heap.size 29 #[.int .i64 (V : Int), .slice A q.f.length c, .slice C q.t.length d]) := by
     refine ⟨((RoundK.of_below hbb hsz).trans ⟨hb9.size, fun r hr _ => hb9.block r (by omega)⟩).trans (RoundK.set _ _), _, hO9.set_ 0 _, ?_, ((hbel8.trans (hb9.mono (by omega))).setCell (by show w0.heap.size ≤ W.heap.size; omega) _), hkB9.far (by show w0.heap.size ≠ W.heap.size; omega) _⟩
     have hcs : Chg W.heap.size (W.heap.size + 1) w9 (w9.setCell ⟨W.heap.size, 0, none⟩ (.slice A9 (rtB q V (k + 1)).length c9)) := chg_set (Nat.le_refl _) (Nat.lt_succ_self _)
     exact (ho9.chg hcs (.inr (by omega))).wider (Nat.le_refl _) hcs.size
    clear hO8 hown8 hbel8 hkB8 hO9 hkB9 ho9 hb9 hg9 hbb c3 h2 l3
    go_wp2
    exact hfin.out
  ·have HY := Lib.hid (hno he)
   have he1 : (E == 1) = false := by simpa using he
   clear hyes hno he
   gi_wp2_with fail
   refine ⟨trivial, (CallsIn.inRound l (callsIn_wide.2 CE)).mono ?_⟩; rintro e w7 ⟨rfl, hb7⟩
   have hfin : Hid (RoundK W.heap.size w6.heap.size W' w7 ∧ ∃ v, Blk w7 W.heap.size 57 #[v] ∧ IntssO w7 (w6.heap.size + 3) w7.heap.size v (rtB q V (k + 1)) ∧ Below w0.heap.size w0 w7 ∧ Blk w7 w0.heap.size 29 #[.int .i64 (V : Int), .slice A q.f.length c, .slice C q.t.length d]) := by
    rw [HY.out]
    exact ⟨RoundK.of_below hb7 hsz, _, hO.call hb7, (hown.below hb7).wider (Nat.le_refl _) hb7.size, bthen hbel hb7, hkB.call hb7⟩
   clear CE c0 c1 c2 hO hown hbel hkB hb7
   gi_wp2
   exact hfin.out
 case done =>
  rintro W' ⟨v, hO, hown, hbel, hkB⟩ hD
  have e54 : rtB q V ((4 + 1) ^ V) = rtB q V (5 ^ V) := rfl
  rw [e54] at hown
  have hpos := HP.out
  have h20 := HL.out (5 ^ V) (Nat.le_refl _)
  have hsm := rtB_sm q V (5 ^ V)
  have hres := HR.out
  obtain ⟨L, hL⟩ : ∃ L, rtB q V (5 ^ V) = L := ⟨_, rfl⟩
  rw [hL] at hown hpos h20 hsm hres
  clear hL e54
  have hgs : ∀ i, smallV 100 (L.getD i []) ∧ (L.getD i []).length ≤ 1000 := by
   intro i
   rw [List.getD_eq_getElem?_getD]
   rcases hi : L[i]? with _ | y
   ·exact ⟨fun y hy => by simp at hy, by simp⟩
   ·have := hsm y (List.mem_of_getElem? hi)
    exact ⟨this.1, by simp; omega⟩
  have hsort := sort_rows 157 (fun i j => (L.getD i []).sum - (L.getD j []).sum) v L (w6.heap.size + 3) W'.heap.size W' hown hpos h20 (by rw [ltOf_sum]; exact ltS_swo L) (enters_of Tryz.func157 (by kernel_rfl) rfl)
   (fun Wx a b i j ha hb => rootsCmp_any a b _ _ Wx ha hb (hgs i).1 (hgs i).2 (hgs j).1 (hgs j).2)
  rw [ltOf_sum] at hsort
  have hres2 : ((insertionSort (ltS L) (rngA L.length) 0 L.length).toList.map fun i => L.getD i []) = rtsQ q := hres
  rw [hres2] at hsort
  obtain ⟨g, cp, hvE, hg1, hg2, hg3, hc1, hc2⟩ := hown.at_ hpos
  subst hvE
  have hws6 : w0.heap.size ≤ w6.heap.size := g5.size
  have hz1 : w0.heap.size < W.heap.size := by have := Z1.out; omega
  have d0 := hO.cell' (i := 0) rfl
  clear hres hres2 hgs hsm
  gi_wp2_with fail
  refine ⟨trivial, (callsIn_wide.2 hsort).mono ?_⟩; rintro e w7 ⟨rfl, ho7, hgr⟩
  have hgr' : W'.grownBy w7 (some g) := hgr
  have hO7 : Blk w7 W.heap.size 57 #[.slice (some ⟨g, 0, none⟩) L.length cp] := hO.grown hgr' (by intro e; injection e with e; omega)
  have hD7 : w7.heap[w6.heap.size]? = some (.deferred (some [])) := (hgr'.block _ (Array.getElem?_eq_some_iff.1 hD).1 (by intro e; injection e with e; omega)).trans hD
  have hb7 : Below w0.heap.size w0 w7 := hbel.trans (below_grown hgr' (by intro j hj; injection hj with hj; omega) hbel.size)
  have d7 := hO7.cell' (i := 0) rfl
  have ho7' : IntssO w7 (w6.heap.size + 3) w7.heap.size (.slice (some ⟨g, 0, none⟩) L.length cp) (rtsQ q) := ho7.wider (Nat.le_refl _) hgr'.size
  clear d0 hsort hO7 hO hown hbel hkB hgr hgr' ho7
  have hch := chg_obj w6.heap.size w7 w6.heap.size (.deferred none) (Nat.le_refl _) (by omega)
  have hfin : Hid (IntssO (w7.putObj w6.heap.size (.deferred none)) w0.heap.size (w7.putObj w6.heap.size (.deferred none)).heap.size (.slice (some ⟨g, 0, none⟩) L.length cp) (rtsQ q) ∧ Below w0.heap.size w0 (w7.putObj w6.heap.size (.deferred none))) :=
   ⟨(ho7'.chg hch (.inr (Nat.le_refl _))).wider (by omega) hch.size, hb7.trans (hch.below hws6 hb7.size)⟩
  clear ho7' hb7 hch
  gi_wp2
  refine ⟨by simp, .inl ⟨_, _, rfl, run_takeDeferred (w := w7) hD7, ?_⟩⟩
  exact ⟨_, results_tmp rfl _ _ _, .slice (some ⟨g, 0, none⟩) L.length cp, rfl, hfin.out.1, hfin.out.2⟩
end Go.Proofs.YtcmlflppndfdcaaGreat
namespace Go.Proofs.YtcmlflppndfdcaaGreat
open Go.RowKit
set_option maxRecDepth 100000 in
set_option maxHeartbeats 1600000 in
theorem implPositiveRoots_any (u : Value) (q : Qv) (w0 : World) (hu : QvR w0 w0.heap.size u q) :
  Calls Tryz.prog 122 #[u] w0 fun e w' => ∃ v, e = .returned (.tuple #[v, .bool (rtsA q).2]) ∧ IntssO w' w0.heap.size w'.heap.size v (rtsA q).1 ∧ Below w0.heap.size w0 w' := by
 have hu' := hu
 obtain ⟨A, c, C, d, rfl, hf, ht, hr, _⟩ := hu.open_
 clear hu hf ht
 obtain ⟨W, hW⟩ : ∃ W, W = w0.alloc (.cells #[.int .i64 q.v, .slice A q.f.length c, .slice C q.t.length d] 29) := ⟨_, rfl⟩
 have kB : Blk W w0.heap.size 29 #[.int .i64 q.v, .slice A q.f.length c, .slice C q.t.length d] := by rw [hW]; exact Blk.new _ _ _
 have g0 : Below w0.heap.size w0 W := by rw [hW]; exact below_alloc _ _
 have hq1 := QvR.next g0 hu'
 have c0 := kB.cell' (i := 0) rfl
 have c1 := kB.cell' (i := 1) rfl
 have c2 := kB.cell' (i := 2) rfl
 have hdf : rtsA q = if kindQ q = 1 then (rtsQ q, true) else ([], false) := rfl
 have hri := fun w hu h => implRoots_any (.agg #[.int .i64 q.v, .slice A q.f.length c, .slice C q.t.length d]) q w hu h
 obtain ⟨K, hK⟩ : ∃ k, kindQ q = k := ⟨_, rfl⟩
 have hkr := kindQ_rng q
 rw [hK] at hdf hkr hri
 have HK := Lib.hid hK
 clear hK hu'
 by_cases h1 : K = 1
 ·subst h1
  have HF : Hid (rtsA q = (rtsQ q, true)) := by show _ = _; rw [hdf, if_pos rfl]
  have HRI := Lib.hid hri
  clear hdf hri
  go_enter Tryz.func122, Tryz.ntmps122
  go_wp2_with fail
  rw [← hW]; clear hW
  refine (implKind_any _ q _ hq1).mono ?_; rintro e w1 ⟨rfl, hb1⟩
  rw [HK.out]
  have kB1 := kB.call hb1
  have hq2 := QvR.next hb1 hq1
  have g1 := bthen g0 hb1
  clear c0 c1 c2 kB hq1 g0
  have c0 := kB1.cell' (i := 0) rfl
  have c1 := kB1.cell' (i := 1) rfl
  have c2 := kB1.cell' (i := 2) rfl
  go_wp2_with fail
  refine (HRI.out _ hq2 (by first | rfl | trivial)).mono ?_; rintro e w2 ⟨v, rfl, hO, hb2⟩
  have g2 := bthen g1 hb2
  have s1 := g1.size
  obtain ⟨RA, rc, hve, _⟩ := hO.form2
  subst hve
  go_wp2
  go_ret2
  rw [HF.out]
  exact ⟨_, rfl, hO.wider s1 (Nat.le_refl _), g2⟩
 ·have HF : Hid (rtsA q = ([], false)) := by show _ = _; rw [hdf, if_neg h1]
  have hK2 : (K != 1) = true := by simpa using h1
  clear hdf hri
  go_enter Tryz.func122, Tryz.ntmps122
  go_wp2_with fail
  rw [← hW]; clear hW
  refine (implKind_any _ q _ hq1).mono ?_; rintro e w1 ⟨rfl, hb1⟩
  rw [HK.out]
  go_wp2
  go_ret2
  rw [HF.out]
  exact ⟨_, rfl, IntssO.nil _ _ _, bthen g0 hb1⟩
end Go.Proofs.YtcmlflppndfdcaaGreat
namespace Go.Proofs.YtcmlflppndfdcaaGreat
open Go.RowKit
theorem SlV.atG {w : World} {B g c k N : Nat} {vs : List Value} (h : SlV w B (.slice (some ⟨g, 0, none⟩) N c) vs) (hk : k < vs.length) : ∃ u, vs[k]? = some u ∧ g < B ∧ w.cell? ⟨g, k, none⟩ = some u := by
 obtain ⟨A', c', e, h1, h2, h3, h4⟩ := h
 injection e with e1 _ _
 obtain ⟨b, o, e2, hb, hc⟩ := h4 (by omega)
 rw [← e1] at e2
 injection e2 with e2
 injection e2 with e3 e4
 subst e3 e4
 have hv : vs[k]? = some (vs[k]'hk) := List.getElem?_eq_getElem hk
 exact ⟨_, hv, hb, by simpa using (hc k _ hv).1⟩
theorem SlV.n_eq {w : World} {B N c : Nat} {A : Option Addr} {vs : List Value} (h : SlV w B (.slice A N c) vs) : vs.length = N ∧ N ≤ c ∧ c ≤ 9223372036854775807 := by
 obtain ⟨A', c', e, h1, h2, h3, h4⟩ := h
 injection e with e1 e2 e3
 exact ⟨e2.symm, by omega, by omega⟩
theorem SlV.takeN {w : World} {B N c k : Nat} {A : Option Addr} {vs : List Value} (h : SlV w B (.slice A N c) vs) (hk : k ≤ N) : SlV w B (.slice A k c) (vs.take k) := by
 obtain ⟨e, _⟩ := h.n_eq
 subst e
 exact SlV.takeS h hk
theorem ins_get {vs : List Value} {L : List (List Int)} {R : Value → List Int → Prop} {k : Nat} {xv : Value} {x : List Int} (hl : vs.length = L.length) (hx : R xv x) (h : ∀ (j : Nat) u l, vs[j]? = some u → L[j]? = some l → R u l) (hk : k ≤ L.length) :
  ∀ (j : Nat) u l, (vs.take k ++ [xv] ++ vs.drop k)[j]? = some u → (L.take k ++ [x] ++ L.drop k)[j]? = some l → R u l := by
 intro j u l hu hll
 have l1 : (vs.take k).length = k := by rw [List.length_take]; omega
 have l2 : (L.take k).length = k := by rw [List.length_take]; omega
 rw [List.append_assoc] at hu hll
 rcases Nat.lt_trichotomy j k with hj | hj | hj
 ·rw [List.getElem?_append_left (by omega), List.getElem?_take, if_pos hj] at hu hll
  exact h j u l hu hll
 ·rw [List.getElem?_append_right (by omega)] at hu hll
  rw [l1] at hu
  rw [l2] at hll
  subst hj
  simp at hu hll
  subst hu hll
  exact hx
 ·rw [List.getElem?_append_right (by omega)] at hu hll
  rw [l1] at hu
  rw [l2] at hll
  obtain ⟨r, hr⟩ : ∃ r, j - k = r + 1 := ⟨j - k - 1, by omega⟩
  rw [hr] at hu hll
  simp only [List.singleton_append, List.getElem?_cons_succ, List.getElem?_drop] at hu hll
  exact h _ u l hu hll
set_option maxRecDepth 100000 in
set_option maxHeartbeats 6400000 in
theorem specPositiveRoots_any (u : Value) (q : Qv) (w0 : World) (hu : QvR w0 w0.heap.size u q) :
  Calls Tryz.prog 88 #[u] w0 fun e w' => ∃ v, e = .returned (.tuple #[v, .bool (rtsA q).2]) ∧ SlII w' w'.heap.size v (rtsA q).1 ∧ Below w0.heap.size w0 w' := by
 have hu' := hu
 obtain ⟨A, c, C, d, rfl, hf, ht, hr, _⟩ := hu.open_
 clear hu hf ht
 obtain ⟨W, hW⟩ : ∃ W, W = (w0.alloc (.cells #[.int .i64 q.v, .slice A q.f.length c, .slice C q.t.length d] 29)).alloc (.cells #[] 22) := ⟨_, rfl⟩
 have kB : Blk W w0.heap.size 29 #[.int .i64 q.v, .slice A q.f.length c, .slice C q.t.length d] := by rw [hW]; exact (Blk.new _ _ _).alloc _
 have hO0 : Blk W (w0.heap.size + 1) 22 #[] := by
  rw [hW]
  have := Blk.new (w0.alloc (.cells #[.int .i64 q.v, .slice A q.f.length c, .slice C q.t.length d] 29)) 22 #[]
  simpa only [World.size_alloc] using this
 have g0 : Below w0.heap.size w0 W := by rw [hW]; exact ((Below.refl _ _).alloc (Nat.le_refl _) _).alloc (by simp) _
 have hq1 := QvR.next g0 hu'
 have hdf : rtsA q = if kindQ q = 1 then (rtsQ q, true) else ([], false) := rfl
 obtain ⟨K, hK⟩ : ∃ k, kindQ q = k := ⟨_, rfl⟩
 have hkr := kindQ_rng q
 rw [hK] at hdf hkr
 have HK := Lib.hid hK
 by_cases h1 : K = 1
 ·subst h1
  have HF : Hid (rtsA q = (rtsQ q, true)) := by show _ = _; rw [hdf, if_pos rfl]
  have hq := fin_isQ hK
  have hv := (isQ_t.1 hq).1
  obtain ⟨V, hV⟩ := Int.eq_ofNat_of_zero_le (show 0 ≤ q.v by omega)
  have hV5 : V ≤ 5 := by omega
  have hV1 : 1 ≤ V := by omega
  have HV := Lib.hid (show q.v.toNat = V by omega)
  have HQ := Lib.hid hq
  have HU := Lib.hid (show QvR w0 w0.heap.size (.agg #[.int .i64 (V : Int), .slice A q.f.length c, .slice C q.t.length d]) q by rw [← hV]; exact hu')
  replace hq1 : QvR W W.heap.size (.agg #[.int .i64 (V : Int), .slice A q.f.length c, .slice C q.t.length d]) q := by rw [← hV]; exact hq1
  rw [hV] at kB hW ⊢
  have c0 := kB.cell' (i := 0) rfl
  have c1 := kB.cell' (i := 1) rfl
  have c2 := kB.cell' (i := 2) rfl
  clear hdf hq hv hV hK hu'
  go_enter Tryz.func88, Tryz.ntmps88
  go_wp2_with fail
  rw [← hW]; clear hW
  refine (specKind_any _ q _ hq1).mono ?_; rintro e w1 ⟨rfl, hb1⟩
  rw [HK.out]
  have kB1 := kB.call hb1
  have hO1 := hO0.call hb1
  have hq2 := QvR.next hb1 hq1
  have g1 := bthen g0 hb1
  clear c0 c1 c2 kB hq1 g0 hO0
  have c0 := kB1.cell' (i := 0) rfl
  have c1 := kB1.cell' (i := 1) rfl
  have c2 := kB1.cell' (i := 2) rfl
  go_wp2_with fail
  refine (symmetricForm_any _ q _ hq2 HQ.out).mono ?_; rintro e w2 ⟨mv, rfl, hM, hb2⟩
  have kB2 := kB1.call hb2
  have hO2 := hO1.call hb2
  have g2 := bthen g1 hb2
  have hq3 := QvR.next hb2 hq2
  have hm := hM.rd
  clear c0 c1 c2 kB1 hq2 g1 hO1 hM hb2 hb1
  obtain ⟨MA, mn, mc, hmv⟩ : ∃ A n c, mv = .slice A n c := by obtain ⟨A, c, h, _⟩ := hm.open_; exact ⟨A, _, c, h⟩
  subst hmv
  obtain ⟨w3, hw3⟩ : ∃ z, z = w2.alloc (.cells #[] 22) := ⟨_, rfl⟩
  have hA3 : IntssO w3 w2.heap.size w3.heap.size (.slice (some ⟨w2.heap.size, 0, none⟩) 0 0) (unis V 0) := by rw [hw3]; exact IntssO.made0 w2 (Nat.le_refl _)
  have b3 : Below w2.heap.size w2 w3 := by rw [hw3]; exact below_alloc _ _
  have hO2s := hO2.lt
  have hB2s := kB2.lt
  have c0 := (kB2.call b3).cell' (i := 0) rfl
  go_wp2
  rw [← hw3]
  clear hw3 c0
  go_loopw [6, 7] (fun va vi wr => ∃ k : Nat, k ≤ V ∧ vi = .int .i64 k ∧ IntssO wr w2.heap.size wr.heap.size va (unis V k) ∧ Below w2.heap.size w2 wr) (fun _ vi _ => V - (intOf vi).toNat)
  case atStart => exact ⟨0, Nat.zero_le _, rfl, hA3, b3⟩
  case round =>
   clear hA3 b3
   obtain ⟨k, hk, rfl, hA, hB⟩ := hrel
   obtain ⟨wa, hwa⟩ : ∃ z, z = wr := ⟨_, rfl⟩
   subst hwa
   have c0 := (kB2.below hB hB2s).cell' (i := 0) rfl
   have hsB := hB.size
   by_cases hlt : k < V
   ·have hmk := run_mkI wa (n := V) (by omega)
    obtain ⟨wx, hwx⟩ : ∃ z, wa.alloc (.cells (mkCells (.int .i64 0) V) 3) = z := ⟨_, rfl⟩
    have hox : OwnI wx wa.heap.size (.slice (some ⟨wa.heap.size, 0, none⟩) V V) (List.replicate V 0) := by rw [← hwx]; exact OwnI.made0 (Nat.le_refl _) (by omega)
    have bx : Below wa.heap.size wa wx := by rw [← hwx]; exact below_alloc _ _
    have x0 := (hox.cellG (j := k) (by simpa using hlt)).1
    have xf := hox.frozenG k
    have hp := (hox.put (j := k) (x := 1) ⟨by omega, by omega⟩).1
    rw [uniV_set] at hp
    have hch : Chg wa.heap.size wx.heap.size wx (wx.setCell ⟨wa.heap.size, k, none⟩ (.int .i64 1)) := chg_set (Nat.le_refl _) (hox.lt _ rfl).2
    have hA2 := (hA.below bx).chg hch (.inl (Nat.le_refl _))
    have hB2' : Below wa.heap.size wa (wx.setCell ⟨wa.heap.size, k, none⟩ (.int .i64 1)) := bx.setCell (Nat.le_refl _) _
    have c0' := (kB2.below (hB.trans (bx.mono hsB)) hB2s).cell' (i := 0) rfl
    obtain ⟨wy, hwy⟩ : ∃ z, wx.setCell ⟨wa.heap.size, k, none⟩ (.int .i64 1) = z := ⟨_, rfl⟩
    rw [hwy] at hp hA2 hB2'
    have hY : IntsO wy wa.heap.size wy.heap.size (.slice (some ⟨wa.heap.size, 0, none⟩) V V) (uniV V k) := IntsO.of_own hp
    obtain ⟨X, hX⟩ : ∃ z, wy.alloc (.cells #[.slice (some ⟨wa.heap.size, 0, none⟩) V V] 22) = z := ⟨_, rfl⟩
    have bX : Below wy.heap.size wy X := by rw [← hX]; exact below_alloc _ _
    have hYX := hY.below bX
    have hAX := hA2.below bX
    have cX : X.cell? ⟨wy.heap.size, 0, none⟩ = some (.slice (some ⟨wa.heap.size, 0, none⟩) V V) := by rw [← hX]; exact (Blk.new _ _ _).cell' (i := 0) rfl
    have hBX := hB2'.trans (bX.mono hB2'.size)
    have sX := bX.size
    have sy := hB2'.size
    have hul := unis_length V k
    obtain ⟨AA, ac, hve, _⟩ := hAX.form2
    subst hve
    have HN := Lib.hid (unis_succ V k)
    have HULN := Lib.hid hul
    clear hA hox bx hp hch hA2 hB2' hY bX hul
    (go_wp2_with (at_builtin; refine Hold.stop ?_)); unfold Hold
    clear hwx hwy hX c0 x0 xf c0' hmk
    refine wpList_appR rfl (.tmp 34) (.tmp 36) rfl w2.heap.size wa.heap.size wa.heap.size wy.heap.size _ (unis V k) (uniV V k) rfl hAX (some ⟨wy.heap.size, 0, none⟩) 1 _ rfl ⟨_, _, rfl, cX⟩ hYX (Nat.le_refl _) sy hsB (by have := HULN.out; omega) (by omega) sX ?_
    intro v' w' hA' hb' _
    rw [← HN.out] at hA'
    obtain ⟨AA', ac', hve', _⟩ := hA'.form2
    subst hve'
    have hB' := hB.trans ((hBX.mono hsB).trans hb')
    clear hAX cX hYX hBX hb' hB
    go_wp2
    go_roundw
    case rel => exact ⟨k + 1, by omega, by go_num, hA', hB'⟩
    case measure => simp [intOf]; omega
   ·obtain rfl : V = k := by omega
    have hC0 := Lib.hid (by have := clOk_0 (q := q) HK.out; rwa [HV.out] at this : ClOk q (unis V V) 0 0)
    obtain ⟨AA, ac, hve, _⟩ := hA.form2
    subst hve
    go_wp2
    clear c0
    go_loopw [6, 9] (fun va vi wr => ∃ (i : Nat) (s : List (List Int)), vi = .int .i64 i ∧ i ≤ s.length ∧ Hid (ClOk q s i 0) ∧ IntssO wr w2.heap.size wr.heap.size va s ∧ Below w2.heap.size w2 wr) (fun _ vi _ => 21 - (intOf vi).toNat)
    case atStart => exact ⟨0, unis V V, rfl, by simp, hC0, hA, hB⟩
    case round =>
     clear hA hB hC0 hsB
     obtain ⟨i, s1, rfl, his, HC, hA, hB⟩ := hrel
     obtain ⟨wb, hwb⟩ : ∃ z, z = wr := ⟨_, rfl⟩
     subst hwb
     have hs20 := HC.out.len HK.out
     obtain ⟨AB, ab, hve2, _⟩ := hA.form2
     subst hve2
     by_cases hlt2 : i < s1.length
     ·go_wp2
      go_loopw [6, 10] (fun va vv wr => ∃ (v : Nat) (s : List (List Int)), vv = .int .i64 v ∧ v ≤ V ∧ i < s.length ∧ Hid (ClOk q s i v) ∧ IntssO wr w2.heap.size wr.heap.size va s ∧ Below w2.heap.size w2 wr) (fun _ vv _ => V - (intOf vv).toNat)
      case atStart => exact ⟨0, s1, rfl, Nat.zero_le _, hlt2, HC, hA, hB⟩
      case round =>
       clear hA hB HC hlt2 his
       obtain ⟨v, s, rfl, hvV, hil, HC, hA, hB⟩ := hrel
       obtain ⟨wc, hwc⟩ : ∃ z, z = wr := ⟨_, rfl⟩
       subst hwc
       have hsB := hB.size
       have hs20 := HC.out.len HK.out
       have c0 := (kB2.below hB hB2s).cell' (i := 0) rfl
       by_cases hlt3 : v < V
       ·obtain ⟨ga, ca, hva, hg1, hg2, hg3, hg4, hg5⟩ := hA.at_ (show 0 < s.length by omega)
        have hxe : s[i]? = some s[i] := List.getElem?_eq_getElem hil
        obtain ⟨x, hx⟩ : ∃ x, s[i] = x := ⟨_, rfl⟩
        rw [hx] at hxe
        subst hva
        obtain ⟨ux, cux, oux, _⟩ := hA.row hxe
        obtain ⟨UA, uc, hue, _, _⟩ := oux.1.form
        subst hue
        have hvq : v < q.v.toNat := by rw [HV.out]; exact hlt3
        have hxrt := HC.out.rt x (List.mem_of_getElem? hxe)
        have hxn := hxrt.num HK.out
        have hyn := refl_num HK.out hxrt hvq
        have hadd := fun a b c => ClOk.add (v := v) HC.out hxe hvq a b c
        have hskip := fun a => ClOk.skip (v := v) HC.out hxe a
        have hyl : (reflL q x v).length = V := by rw [reflL_length, hxrt.len, HV.out]
        clear hx hxe
        go_wp2_with fail
        refine (l20Reflect_any _ _ q x v wc (SlII.more hsB (SlII.below hB hm)) oux.rd hxn hvq).mono ?_; rintro e w5 ⟨yv, rfl, hY, hb5⟩
        have hA5 := hA.below hb5
        have hB5 := hB.trans (hb5.mono hsB)
        have hs5 := hb5.size
        clear hA hB c0 cux oux hb5 hxrt hxn hvq
        obtain ⟨Y, hYe⟩ : ∃ Y, reflL q x v = Y := ⟨_, rfl⟩
        rw [hYe] at hY hyn hadd hskip hyl
        clear hYe
        obtain ⟨YA, yc, hye, _, _⟩ := hY.1.form
        subst hye
        have hYr := hY.rd
        obtain ⟨by1, oy, y0, hya, hby, HY0, cy, hyr1, hyr2⟩ := SlI.at_ (k := v) hYr (by omega)
        subst hya
        have hgd : Y.getD v 0 = y0 := by rw [List.getD_eq_getElem?_getD, HY0.out]; rfl
        rw [hgd] at hadd hskip
        have HYL := Lib.hid hyl
        have hvY : v < Y.length := by omega
        clear hgd HY0 hyl
        by_cases hy0 : 0 ≤ y0
        ·have hy0d : decide (0 ≤ y0) = true := decide_eq_true hy0
         rcases hd : decide (Y ∈ s) with _ | _
         ·obtain ⟨E, hE⟩ : ∃ E, eul q Y Y = E := ⟨_, rfl⟩
          rw [hE] at hadd hskip
          have HE := Lib.hid hE
          have HD := Lib.hid hd
          have HADD := Lib.hid hadd
          have HSKIP := Lib.hid hskip
          clear hE hd hadd hskip
          go_wp2_with fail
          refine (l20Has_any _ _ s Y w5 hA5.rd hYr).mono ?_; rintro e w6 ⟨rfl, hb6⟩
          rw [HD.out]
          have hA6 := hA5.below hb6
          have hY6 := hY.below hb6
          have hB6 := hB5.trans (hb6.mono hB5.size)
          have hs6 := hb6.size
          have kB6 := kB2.below hB6 hB2s
          have c0 := kB6.cell' (i := 0) rfl
          have c1 := kB6.cell' (i := 1) rfl
          have c2 := kB6.cell' (i := 2) rfl
          clear hA5 hY hB5 hb6 hYr
          go_wp2_with fail
          refine (titsForm_any _ _ q Y w6 (QvR.more hB6.size (QvR.below hB6 hq3)) hY6.rd hyn).mono ?_; rintro e w7 ⟨rfl, hb7⟩
          rw [HE.out]
          have hA7 := hA6.below hb7
          have hY7 := hY6.below hb7
          have hB7 := hB6.trans (hb7.mono hB6.size)
          have hs7 : wc.heap.size ≤ w7.heap.size := by have := hb7.size; omega
          have hs57 : w5.heap.size ≤ w7.heap.size := by have := hb7.size; omega
          clear hA6 hY6 hB6 hb7 kB6 c0 c1 c2
          by_cases hE1 : E = 1
          ·have hYn : Y ∉ s := of_decide_eq_false HD.out
           have HC1 := Lib.hid (HADD.out hy0 hYn hE1)
           subst hE1
           clear HADD HSKIP hYn
           obtain ⟨X, hX⟩ : ∃ z, w7.alloc (.cells #[.slice (some ⟨by1, oy, none⟩) Y.length yc] 22) = z := ⟨_, rfl⟩
           have bX : Below w7.heap.size w7 X := by rw [← hX]; exact below_alloc _ _
           have hYX := hY7.below bX
           have hAX := hA7.below bX
           have cX : X.cell? ⟨w7.heap.size, 0, none⟩ = some (.slice (some ⟨by1, oy, none⟩) Y.length yc) := by rw [← hX]; exact (Blk.new _ _ _).cell' (i := 0) rfl
           have hBX := hB7.trans (bX.mono hB7.size)
           have sX := bX.size
           clear hY7 hA7 hB7 bX
           (go_wp2_with (at_builtin; refine Hold.stop ?_)); unfold Hold
           clear hX
           refine wpList_appR rfl (.tmp 74) (.tmp 76) rfl w2.heap.size wc.heap.size wc.heap.size w5.heap.size _ s Y rfl hAX (some ⟨w7.heap.size, 0, none⟩) 1 _ rfl ⟨_, _, rfl, cX⟩ hYX (Nat.le_refl _) hs5 hsB (by omega) (by omega) (by omega) ?_
           intro v' w' hA' hb' _
           obtain ⟨AA', ac', hve', _⟩ := hA'.form2
           subst hve'
           have hB' := hBX.trans hb'
           have hil' : i < (s ++ [Y]).length := by simp; omega
           obtain ⟨S2, hS2⟩ : ∃ z, s ++ [Y] = z := ⟨_, rfl⟩
           rw [hS2] at hA' hil' HC1 ⊢
           clear hS2
           clear hAX cX hYX hBX hb'
           go_wp2
           go_roundw
           case rel => exact ⟨v + 1, S2, by go_num, by omega, hil', HC1, hA', hB'⟩
           case measure => simp [intOf]; omega
          ·have HC1 := Lib.hid (HSKIP.out (fun _ h => absurd h hE1))
           have hE2 : (E == 1) = false := by simpa using hE1
           clear HADD HSKIP hE1
           go_wp2
           go_roundw
           case rel => exact ⟨v + 1, s, rfl, by omega, hil, HC1.out, hA7.wider (Nat.le_refl _) hs7, hB7⟩
           case measure => simp [intOf]; omega
         ·have HC1 := Lib.hid (hskip (fun _ _ => of_decide_eq_true hd))
          have HD := Lib.hid hd
          clear hd hadd hskip
          go_wp2_with fail
          refine (l20Has_any _ _ s Y w5 hA5.rd hYr).mono ?_; rintro e w6 ⟨rfl, hb6⟩
          rw [HD.out]
          have hA7 := hA5.below hb6
          have hB7 := hB5.trans (hb6.mono hB5.size)
          have hs7 : wc.heap.size ≤ w6.heap.size := by have := hb6.size; omega
          clear hA5 hY hB5 hb6 hYr
          go_wp2
          go_roundw
          case rel => exact ⟨v + 1, s, rfl, by omega, hil, HC1.out, hA7.wider (Nat.le_refl _) hs7, hB7⟩
          case measure => simp [intOf]; omega
        ·have HC1 := Lib.hid (hskip (fun h _ => absurd h hy0))
         have hy0d : decide (0 ≤ y0) = false := decide_eq_false hy0
         have hA7 := hA5
         have hB7 := hB5
         have hs7 : wc.heap.size ≤ w5.heap.size := hs5
         clear hadd hskip hA5 hB5
         go_wp2
         go_roundw
         case rel => exact ⟨v + 1, s, rfl, by omega, hil, HC1.out, hA7.wider (Nat.le_refl _) hs7, hB7⟩
         case measure => simp [intOf]; omega
       ·obtain rfl : V = v := by omega
        have HN := Lib.hid ((by rw [HV.out]; exact HC.out : ClOk q s i q.v.toNat).next)
        obtain ⟨AC, cc, hve3, _⟩ := hA.form2
        subst hve3
        go_wp2
        go_roundw
        case rel => exact ⟨i + 1, s, by go_num, by omega, HN, hA, hB⟩
        case measure => simp [intOf]; omega
     ·have HFIN := Lib.hid (HC.out.fin HK.out (show s1.length ≤ i by omega))
      have hSr : SlII wb wb.heap.size (.slice AB s1.length ab) s1 := hA.rd
      have hOb := hO2.below hB hO2s
      have hgO : w0.heap.size + 1 < wb.heap.size := hOb.lt
      have gB := g2.trans (hB.mono g2.size)
      have hV0 : SlV wb wb.heap.size (.slice (some ⟨w0.heap.size + 1, 0, none⟩) 0 0) [] := ⟨_, 0, rfl, by simp, by omega, by simp, fun h => absurd h (by simp)⟩
      clear hA hB kB2 hO2 hm hq3
      go_wp2
      go_loopw [4, 12] (fun vo vi wr => ∃ (i : Nat) (L : List (List Int)) (vs : List Value) (g N cp : Nat), vi = .int .i64 i ∧ i ≤ s1.length ∧ vo = .slice (some ⟨g, 0, none⟩) N cp ∧ SlV wr wr.heap.size (.slice (some ⟨g, 0, none⟩) N cp) vs ∧ Hid ((vs.length = N ∧ L.length = N) ∧ SrtI s1 i L ∧ (∀ (j : Nat) u l, vs[j]? = some u → L[j]? = some l → SlI wb wb.heap.size u l)) ∧ Below wb.heap.size wb wr) (fun _ vi _ => s1.length - (intOf vi).toNat)
      case atStart => exact ⟨0, [], [], _, 0, 0, rfl, Nat.zero_le _, rfl, hV0, ⟨⟨rfl, rfl⟩, srtI_0 s1, fun j u l h => by simp at h⟩, Below.refl _ _⟩
      case round =>
       clear hV0
       obtain ⟨i, L, vs, g, N, cp, rfl, hi, rfl, hVw, HS, hbw⟩ := hrel
       obtain ⟨wd, hwd⟩ : ∃ z, z = wr := ⟨_, rfl⟩
       subst hwd
       have HVN := Lib.hid HS.out.1.1
       have HLE := Lib.hid HS.out.1.2
       have hN20 : N ≤ 20 := by have := HS.out.2.1.len; have := HLE.out; omega
       have hNc := hVw.n_eq.2.1
       have hNc2 := hVw.n_eq.2.2
       by_cases hlt4 : i < s1.length
       ·obtain ⟨ba, oa, xe, XA, xc, hABe, hba, HX, cx, hx⟩ := SlII.at_ hSr hlt4
        subst hABe
        have hxrt : isRt q xe := (HFIN.out xe).1 (List.mem_of_getElem? HX.out)
        have hxl : xe.length = V := by rw [hxrt.len, HV.out]
        have hxle := hxrt.le HK.out
        have HXL := Lib.hid hxl
        have HXLE := Lib.hid hxle
        clear hxl hxle
        go_wp2
        go_loopw [13] (fun vk w' => ∃ k : Nat, k ≤ N ∧ vk = .int .i64 k ∧ Below wd.heap.size wd w' ∧ Hid (∀ (j : Nat) y, k ≤ j → L[j]? = some y → ltR xe y = true)) (fun vk _ => (intOf vk).toNat)
        case atStart => exact ⟨N, Nat.le_refl _, rfl, Below.refl _ _, fun j y hj hy => absurd (lt_of_some hy) (by have := HLE.out; omega)⟩
        case round =>
         obtain ⟨k, hk, rfl, hb5, HK5⟩ := hrel
         obtain ⟨we, hwe⟩ : ∃ z, z = wr := ⟨_, rfl⟩
         subst hwe
         have hbe : Below wb.heap.size wb we := hbw.trans (hb5.mono hbw.size)
         have hse := hbe.size
         have cxe := bcell hbe hba cx
         have HVE := Lib.hid (SlV.next hb5 hVw)
         have qqx := InB.cell (Nat.lt_of_lt_of_le hba hse) cxe
         by_cases hk0 : 0 < k
         ·have hk0z : (0 : Int) < (k : Int) := by omega
          obtain ⟨kp, hkp⟩ : ∃ kp : Nat, (k : Int) - 1 = (kp : Int) := ⟨k - 1, by omega⟩
          have hkpN : kp < N := by omega
          obtain ⟨u, hu, hgl, cu⟩ := SlV.atG HVE.out (k := kp) (by rw [HVN.out]; exact hkpN)
          have hy : L[kp]? = some (L[kp]'(by rw [HLE.out]; exact hkpN)) := List.getElem?_eq_getElem _
          obtain ⟨y, hye⟩ : ∃ y, L[kp]'(by rw [HLE.out]; exact hkpN) = y := ⟨_, rfl⟩
          rw [hye] at hy
          have hyR := HS.out.2.2 kp u y hu hy
          have hyR2 := hyR
          obtain ⟨UA, uc, hue, _⟩ := hyR.open_
          subst hue
          have hyrt : isRt q y := (HFIN.out y).1 (List.mem_of_mem_take ((HS.out.2.1.mem y).1 (List.mem_of_getElem? hy)))
          have CL0 := fun (t : World) (ht : Below we.heap.size we t) => l20Less_any (.slice XA xe.length xc) (.slice UA y.length uc) xe y V t (SlI.more (by have := ht.size; omega) (SlI.below (hbe.trans (ht.mono hse)) hx)) (SlI.more (by have := ht.size; omega) (SlI.below (hbe.trans (ht.mono hse)) hyR2)) HXL.out (by rw [hyrt.len, HV.out]) hV5 HXLE.out (hyrt.le HK.out)
          have qqu := InB.cell hgl cu
          have HY := Lib.hid hy
          have HKP := Lib.hid (show k - 1 = kp by omega)
          clear hu hy hye hyR hyR2 hyrt
          rcases hd : ltR xe y with _ | _
          ·have CL : Hid (∀ t : InB we, Calls Tryz.prog 116 #[.slice XA xe.length xc, .slice UA y.length uc] t.val fun e w' => e = .returned (.bool false) ∧ Below t.val.heap.size t.val w') := by
            intro t
            refine (CL0 t.val t.below).mono ?_
            rintro e w' ⟨rfl, m, rfl⟩
            exact ⟨by rw [hd], drewN_below _ _ _⟩
           have H1 := Lib.hid (show k = 0 ∨ ∃ y, L[k - 1]? = some y ∧ ltR xe y = false from .inr ⟨y, by rw [HKP.out]; exact HY.out, hd⟩)
           clear hd CL0
           go_wp2_with fail
           (refine wp_region_inB (by kernel_rfl) (by kernel_rfl) ?_; (repeat (go_big_quiet_step ((go_at_call 116; exact InB.call (CL.out _))))); refine wpQuiet_nil ?_; intro w1 hw'; obtain ⟨s1, hw1⟩ := hw'; have hb1 := s1.below; rw [← hw1] at hb1; clear hw1 s1)
           have hbe2 := hbe.trans (hb1.mono hse)
           have cxe2 := bcell hbe2 hba cx
           have HVE2 := Lib.hid (SlV.next hb1 HVE.out)
           have hse2 := hbe2.size
           clear hbe cxe HVE qqx qqu CL hb1 cu hkp
           have hxk : k ≤ L.length := by have := HLE.out; omega
           have HSI := Lib.hid (HS.out.2.1.step (HC.out.nd) (fun y hy => ((HFIN.out y).1 hy).len) HX.out hxk H1.out HK5.out)
           have HGET := Lib.hid (ins_get (R := fun u l => SlI wb wb.heap.size u l) (k := k) (xv := .slice XA xe.length xc) (x := xe) (by rw [HVN.out]; exact HLE.out.symm) hx HS.out.2.2 hxk)
           have HLL := Lib.hid (show (L.take k ++ [xe] ++ L.drop k).length = N + 1 by have := HLE.out; simp; omega)
           by_cases hck : cp = k
           ·have hck2 : k = cp := hck.symm
            have hnk : k = N := by omega
            clear hck
            subst hck2
            subst hnk
            have HDRP : Hid (SlV w1 w1.heap.size (.slice (some ⟨g, 0, none⟩) 0 0) (vs.drop k)) := by
             show SlV _ _ _ _
             rw [List.drop_of_length_le (by rw [HVN.out]; omega)]
             exact ⟨_, 0, rfl, by simp, by omega, by simp, fun h => absurd h (by simp)⟩
            go_wp2_with fail
            refine wp_region_netC (by kernel_rfl) [rel 0 (fun u lo hi w => FreshV w w1.heap.size u), .eq (.slice (some ⟨g, 0, none⟩) k k), .eq (.int .i64 k), .eq (.slice (some ⟨g, 0, none⟩) k k), rel 4 (fun u lo hi w => OwnV w w1.heap.size u (vs.take k)), .eq (.slice (some ⟨ba, oa, none⟩) s1.length ab), .eq (.int .i64 i), .eq (.pointer (some ⟨ba, oa + i, none⟩)), .eq (.slice XA xe.length xc), rel 9 (fun u lo hi w => ∃ g9, u = .slice (some ⟨g9, 0, none⟩) 1 1 ∧ SlV w w.heap.size u [.slice XA xe.length xc]), rel 10 (fun u lo hi w => OwnV w w1.heap.size u (vs.take k ++ [.slice XA xe.length xc])), .eq (.slice (some ⟨g, 0, none⟩) k k), .eq (.int .i64 k), .eq (.slice (some ⟨g, 0, none⟩) 0 0)] [[], [], [], [1, 2], [0, 1, 2, 3], [], [], [5, 6], [5, 6, 7], [5, 6, 7, 8], [0, 1, 2, 3, 4, 5, 6, 7, 8, 9], [], [], [11, 12], [0, 1, 2, 3, 4, 5, 6, 7, 8, 9, 10, 11, 12, 13], [0, 1, 2, 3, 4, 5, 6, 7, 8, 9, 10, 11, 12, 13, 14]] [[], [], [], [1, 2], [0, 1, 2, 3], [], [], [5, 6], [5, 6, 7], [5, 6, 7, 8], [0, 1, 2, 3, 4, 5, 6, 7, 8, 9], [], [], [11, 12]] [1, 2, 3, 5, 6, 7, 8, 10, 11, 12, 13] 14 10 (by kernel_rfl) (by kernel_rfl) ⟨.inr (.inr ⟨_, rfl⟩), .inr (.inr ⟨_, rfl⟩), .inr (.inr ⟨_, rfl⟩), .inr (.inr ⟨_, rfl⟩), .inr (.inr ⟨_, rfl⟩), .inr (.inr ⟨_, rfl⟩), .inr (.inr ⟨_, rfl⟩), .inl rfl, .inr (.inr ⟨_, rfl⟩), .inr (.inr ⟨_, rfl⟩), .inr (.inr ⟨_, rfl⟩), trivial⟩ ⟨rel_stable (fun u lo hi w w' h hb => h.below hb), trivial, trivial, trivial, rel_stable (fun u lo hi w w' h hb => h.below hb), trivial, trivial, trivial, trivial, rel_stable (fun u lo hi w w' ⟨g9, e, h⟩ hb => ⟨g9, e, SlV.next hb h⟩), rel_stable (fun u lo hi w w' h hb => h.below hb), trivial, trivial, trivial, trivial⟩ ⟨?_, ?_, ?_, ?_, ?_, ?_, ?_, ?_, ?_, ?_, ?_, ?_, ?_, ?_, trivial⟩ ?_
            ·intro x w hb hk Q' hQ
             clear hk
             simp only [netE] at hQ ⊢
             go_wp2
             exact hQ _ _ (below_alloc _ _) (FreshV.new _ hb.size)
            ·intro x w hb hk Q' hQ
             clear hk
             simp only [netE] at hQ ⊢
             go_wp2
             exact hQ _ _ (Below.refl _ _) rfl
            ·intro x w hb hk Q' hQ
             clear hk
             simp only [netE] at hQ ⊢
             go_wp2
             exact hQ _ _ (Below.refl _ _) rfl
            ·intro x w hb hk Q' hQ
             have h1 : x.v 1 = .slice (some ⟨g, 0, none⟩) k k := (hk 1 (by decide)).1
             have h2 : x.v 2 = .int .i64 k := (hk 2 (by decide)).1
             clear hk
             simp only [netE] at hQ ⊢
             simp only [h1, h2] at hQ ⊢
             clear h1 h2
             go_wp2
             exact hQ _ _ (Below.refl _ _) rfl
            ·intro x w hb hk Q' hQ
             have h0 : FreshV w w1.heap.size (x.v 0) := (hk 0 (by decide)).1
             have h1 : x.v 1 = .slice (some ⟨g, 0, none⟩) k k := (hk 1 (by decide)).1
             have h2 : x.v 2 = .int .i64 k := (hk 2 (by decide)).1
             have h3 : x.v 3 = .slice (some ⟨g, 0, none⟩) k k := (hk 3 (by decide)).1
             have s0 := (hk 0 (by decide)).2
             clear hk
             simp only [netE] at hQ ⊢
             simp only [h1, h2, h3] at hQ ⊢
             clear h1 h2 h3
             obtain ⟨g7, e7, hg7, hB7⟩ := h0
             have hV2 := SlV.below hb (HVE2.out)
             have hT := SlV.takeN (k := k) hV2 (by omega)
             have hk2 : (vs.take k).length = k := by rw [List.length_take, HVN.out]; omega
             rw [e7] at hQ ⊢
             refine wpList_append_freshV (by rfl) (.tmp 102) (.tmp 105) (by rfl) g7 w1.heap.size w1.heap.size #[] (by rfl) hB7 rfl hg7 _ _ _ (vs.take k) (by rfl) hk2.symm (by rw [hk2]; exact hT) (by omega) ?_
             intro v' w' ho hb'
             exact hQ _ _ hb' ho
            ·intro x w hb hk Q' hQ
             clear hk
             simp only [netE] at hQ ⊢
             go_wp2
             exact hQ _ _ (Below.refl _ _) rfl
            ·intro x w hb hk Q' hQ
             clear hk
             simp only [netE] at hQ ⊢
             go_wp2
             exact hQ _ _ (Below.refl _ _) rfl
            ·intro x w hb hk Q' hQ
             have h5 : x.v 5 = .slice (some ⟨ba, oa, none⟩) s1.length ab := (hk 5 (by decide)).1
             have h6 : x.v 6 = .int .i64 i := (hk 6 (by decide)).1
             clear hk
             simp only [netE] at hQ ⊢
             simp only [h5, h6] at hQ ⊢
             clear h5 h6
             go_wp2
             exact hQ _ _ (Below.refl _ _) rfl
            ·intro x w hb hk Q' hQ
             have h7 : x.v 7 = .pointer (some ⟨ba, oa + i, none⟩) := (hk 7 (by decide)).1
             clear hk
             simp only [netE] at hQ ⊢
             simp only [h7] at hQ ⊢
             clear h7
             have q0 := bcell hb (show ba < w1.heap.size by omega) cxe2
             go_wp2
             exact hQ _ _ (Below.refl _ _) rfl
            ·intro x w hb hk Q' hQ
             have h5 : x.v 5 = .slice (some ⟨ba, oa, none⟩) s1.length ab := (hk 5 (by decide)).1
             have h6 : x.v 6 = .int .i64 i := (hk 6 (by decide)).1
             have h7 : x.v 7 = .pointer (some ⟨ba, oa + i, none⟩) := (hk 7 (by decide)).1
             have h8 : x.v 8 = .slice XA xe.length xc := (hk 8 (by decide)).1
             clear hk
             simp only [netE] at hQ ⊢
             simp only [h5, h6, h7, h8] at hQ ⊢
             clear h5 h6 h7 h8
             go_wp2
             exact hQ _ _ (below_alloc _ _) ⟨_, rfl, SlV.new _ _ _ rfl⟩
            ·intro x w hb hk Q' hQ
             have h0 : FreshV w w1.heap.size (x.v 0) := (hk 0 (by decide)).1
             have h1 : x.v 1 = .slice (some ⟨g, 0, none⟩) k k := (hk 1 (by decide)).1
             have h2 : x.v 2 = .int .i64 k := (hk 2 (by decide)).1
             have h3 : x.v 3 = .slice (some ⟨g, 0, none⟩) k k := (hk 3 (by decide)).1
             have h4 : OwnV w w1.heap.size (x.v 4) (vs.take k) := (hk 4 (by decide)).1
             have h5 : x.v 5 = .slice (some ⟨ba, oa, none⟩) s1.length ab := (hk 5 (by decide)).1
             have h6 : x.v 6 = .int .i64 i := (hk 6 (by decide)).1
             have h7 : x.v 7 = .pointer (some ⟨ba, oa + i, none⟩) := (hk 7 (by decide)).1
             have h8 : x.v 8 = .slice XA xe.length xc := (hk 8 (by decide)).1
             have h9 : ∃ g9, (x.v 9) = .slice (some ⟨g9, 0, none⟩) 1 1 ∧ SlV w w.heap.size (x.v 9) [.slice XA xe.length xc] := (hk 9 (by decide)).1
             have s0 := (hk 0 (by decide)).2
             have s4 := (hk 4 (by decide)).2
             have s9 := (hk 9 (by decide)).2
             clear hk
             simp only [netE] at hQ ⊢
             simp only [h1, h2, h3, h5, h6, h7, h8] at hQ ⊢
             clear h1 h2 h3 h5 h6 h7 h8
             obtain ⟨A4, c4, e4, _, _⟩ := h4.form
             obtain ⟨g9, e9, h9⟩ := h9
             rw [e4] at h4
             rw [e9] at h9
             have hk2 : (vs.take k).length = k := by rw [List.length_take, HVN.out]; omega
             have hlo := h4.lt
             rw [e4, e9] at hQ ⊢
             refine wpList_appV (by rfl) (.tmp 106) (.tmp 111) (by rfl) w1.heap.size w.heap.size _ _ (by rfl) h4 _ 1 1 [.slice XA xe.length xc] (by rfl) rfl h9 (by rw [hk2]; simp; omega) hb.size ?_
             intro v' w' h1 h2 h3
             exact hQ v' w' (below_grown h2 (fun k hk => (hlo k hk).1) hb.size) h1
            ·intro x w hb hk Q' hQ
             clear hk
             simp only [netE] at hQ ⊢
             go_wp2
             exact hQ _ _ (Below.refl _ _) rfl
            ·intro x w hb hk Q' hQ
             clear hk
             simp only [netE] at hQ ⊢
             go_wp2
             exact hQ _ _ (Below.refl _ _) rfl
            ·intro x w hb hk Q' hQ
             have h11 : x.v 11 = .slice (some ⟨g, 0, none⟩) k k := (hk 11 (by decide)).1
             have h12 : x.v 12 = .int .i64 k := (hk 12 (by decide)).1
             clear hk
             simp only [netE] at hQ ⊢
             simp only [h11, h12] at hQ ⊢
             clear h11 h12
             go_wp2
             exact hQ _ _ (Below.refl _ _) rfl
            ·intro x w hb hk hiv hdj
             have h1 : x.v 1 = .slice (some ⟨g, 0, none⟩) k k := hk 1 (by decide) (by decide)
             have h2 : x.v 2 = .int .i64 k := hk 2 (by decide) (by decide)
             have h3 : x.v 3 = .slice (some ⟨g, 0, none⟩) k k := hk 3 (by decide) (by decide)
             have h5 : x.v 5 = .slice (some ⟨ba, oa, none⟩) s1.length ab := hk 5 (by decide) (by decide)
             have h6 : x.v 6 = .int .i64 i := hk 6 (by decide) (by decide)
             have h7 : x.v 7 = .pointer (some ⟨ba, oa + i, none⟩) := hk 7 (by decide) (by decide)
             have h8 : x.v 8 = .slice XA xe.length xc := hk 8 (by decide) (by decide)
             have h10 : OwnV w w1.heap.size (x.v 10) (vs.take k ++ [.slice XA xe.length xc]) := hk 10 (by decide) (by decide)
             have h11 : x.v 11 = .slice (some ⟨g, 0, none⟩) k k := hk 11 (by decide) (by decide)
             have h12 : x.v 12 = .int .i64 k := hk 12 (by decide) (by decide)
             have h13 : x.v 13 = .slice (some ⟨g, 0, none⟩) 0 0 := hk 13 (by decide) (by decide)
             clear hk
             simp only [netE]
             simp only [List.drop_succ_cons, List.drop_zero, h1, h2, h3, h5, h6, h7, h8, h11, h12, h13]
             clear h1 h2 h3 h5 h6 h7 h8 h11 h12 h13
             obtain ⟨A4, c4, e4, _, _⟩ := h10.form
             rw [e4] at h10 ⊢
             have hlo := h10.lt
             have hk2 : (vs.take k ++ [Value.slice XA xe.length xc]).length = k + 1 := by rw [List.length_append, List.length_take, HVN.out]; simp; try omega
             have hk3 : (vs.drop k).length = k - k := by rw [List.length_drop, HVN.out]
             clear hiv hdj e4
             refine wpList_appV rfl (.tmp 112) (.tmp 115) rfl w1.heap.size w1.heap.size _ _ rfl h10 _ _ _ (vs.drop k) rfl (by rw [hk3]; try omega) (by rw [hk3]; first | exact SlV.below hb HDRP.out | (rw [Nat.sub_self]; exact SlV.below hb HDRP.out)) (by rw [hk2, hk3]; omega) hb.size ?_
             intro v9 w9 h1 h2 _
             have hb9 := hb.trans (below_grown h2 (fun k hk => (hlo k hk).1) hb.size)
             have hln : (vs.take k ++ [Value.slice XA xe.length xc] ++ vs.drop k).length = k + 1 := by rw [List.length_append, hk2, hk3]; omega
             obtain ⟨g', c', hv9, hg', hcc⟩ : ∃ g' c', v9 = .slice (some ⟨g', 0, none⟩) (k + 1) c' ∧ g' < w9.heap.size ∧ k + 1 ≤ c' := by
              rcases h1.1.2 with ⟨_, h0⟩ | ⟨g', cap, cur, e, _, hh, hnc, _⟩
              ·omega
              ·exact ⟨g', cap, by rw [e, hln], (Array.getElem?_eq_some_iff.1 hh).1, by omega⟩
             subst hv9
             have hrd := h1.rd
             have HRD := Lib.hid hrd
             have HI := Lib.hid (HSI.out)
             have HG := Lib.hid (HGET.out)
             have HLN := Lib.hid hln
             have hbz := hbe2.trans (hb9.mono hbe2.size)
             clear h1 h2 hb hb9 hlo hk2 hk3 h10 hrd hln
             go_wp2
             go_roundw
             case rel => exact ⟨i + 1, _, _, g', k + 1, c', by go_num, by omega, rfl, HRD.out, ⟨⟨HLN.out, HLL.out⟩, HI.out, HG.out⟩, hbz⟩
             case measure => simp [intOf]; omega
           ·have HDRP : Hid (SlV w1 w1.heap.size (.slice (some ⟨g, k, none⟩) (N - k) (cp - k)) (vs.drop k)) := by
             show SlV _ _ _ _
             have hd2 := HVE2.out
             have hvn := HVN.out
             rw [← hvn] at hd2 ⊢
             have := SlV.dropS (k := k) hd2 (by omega)
             rwa [Nat.zero_add] at this
            go_wp2_with fail
            refine wp_region_netC (by kernel_rfl) [rel 0 (fun u lo hi w => FreshV w w1.heap.size u), .eq (.slice (some ⟨g, 0, none⟩) N cp), .eq (.int .i64 k), .eq (.slice (some ⟨g, 0, none⟩) k cp), rel 4 (fun u lo hi w => OwnV w w1.heap.size u (vs.take k)), .eq (.slice (some ⟨ba, oa, none⟩) s1.length ab), .eq (.int .i64 i), .eq (.pointer (some ⟨ba, oa + i, none⟩)), .eq (.slice XA xe.length xc), rel 9 (fun u lo hi w => ∃ g9, u = .slice (some ⟨g9, 0, none⟩) 1 1 ∧ SlV w w.heap.size u [.slice XA xe.length xc]), rel 10 (fun u lo hi w => OwnV w w1.heap.size u (vs.take k ++ [.slice XA xe.length xc])), .eq (.slice (some ⟨g, 0, none⟩) N cp), .eq (.int .i64 k), .eq (.slice (some ⟨g, k, none⟩) (N - k) (cp - k))] [[], [], [], [1, 2], [0, 1, 2, 3], [], [], [5, 6], [5, 6, 7], [5, 6, 7, 8], [0, 1, 2, 3, 4, 5, 6, 7, 8, 9], [], [], [11, 12], [0, 1, 2, 3, 4, 5, 6, 7, 8, 9, 10, 11, 12, 13], [0, 1, 2, 3, 4, 5, 6, 7, 8, 9, 10, 11, 12, 13, 14]] [[], [], [], [1, 2], [0, 1, 2, 3], [], [], [5, 6], [5, 6, 7], [5, 6, 7, 8], [0, 1, 2, 3, 4, 5, 6, 7, 8, 9], [], [], [11, 12]] [1, 2, 3, 5, 6, 7, 8, 10, 11, 12, 13] 14 10 (by kernel_rfl) (by kernel_rfl) ⟨.inr (.inr ⟨_, rfl⟩), .inr (.inr ⟨_, rfl⟩), .inr (.inr ⟨_, rfl⟩), .inr (.inr ⟨_, rfl⟩), .inr (.inr ⟨_, rfl⟩), .inr (.inr ⟨_, rfl⟩), .inr (.inr ⟨_, rfl⟩), .inl rfl, .inr (.inr ⟨_, rfl⟩), .inr (.inr ⟨_, rfl⟩), .inr (.inr ⟨_, rfl⟩), trivial⟩ ⟨rel_stable (fun u lo hi w w' h hb => h.below hb), trivial, trivial, trivial, rel_stable (fun u lo hi w w' h hb => h.below hb), trivial, trivial, trivial, trivial, rel_stable (fun u lo hi w w' ⟨g9, e, h⟩ hb => ⟨g9, e, SlV.next hb h⟩), rel_stable (fun u lo hi w w' h hb => h.below hb), trivial, trivial, trivial, trivial⟩ ⟨?_, ?_, ?_, ?_, ?_, ?_, ?_, ?_, ?_, ?_, ?_, ?_, ?_, ?_, trivial⟩ ?_
            ·intro x w hb hk Q' hQ
             clear hk
             simp only [netE] at hQ ⊢
             go_wp2
             exact hQ _ _ (below_alloc _ _) (FreshV.new _ hb.size)
            ·intro x w hb hk Q' hQ
             clear hk
             simp only [netE] at hQ ⊢
             go_wp2
             exact hQ _ _ (Below.refl _ _) rfl
            ·intro x w hb hk Q' hQ
             clear hk
             simp only [netE] at hQ ⊢
             go_wp2
             exact hQ _ _ (Below.refl _ _) rfl
            ·intro x w hb hk Q' hQ
             have h1 : x.v 1 = .slice (some ⟨g, 0, none⟩) N cp := (hk 1 (by decide)).1
             have h2 : x.v 2 = .int .i64 k := (hk 2 (by decide)).1
             clear hk
             simp only [netE] at hQ ⊢
             simp only [h1, h2] at hQ ⊢
             clear h1 h2
             go_wp2
             exact hQ _ _ (Below.refl _ _) rfl
            ·intro x w hb hk Q' hQ
             have h0 : FreshV w w1.heap.size (x.v 0) := (hk 0 (by decide)).1
             have h1 : x.v 1 = .slice (some ⟨g, 0, none⟩) N cp := (hk 1 (by decide)).1
             have h2 : x.v 2 = .int .i64 k := (hk 2 (by decide)).1
             have h3 : x.v 3 = .slice (some ⟨g, 0, none⟩) k cp := (hk 3 (by decide)).1
             have s0 := (hk 0 (by decide)).2
             clear hk
             simp only [netE] at hQ ⊢
             simp only [h1, h2, h3] at hQ ⊢
             clear h1 h2 h3
             obtain ⟨g7, e7, hg7, hB7⟩ := h0
             have hV2 := SlV.below hb (HVE2.out)
             have hT := SlV.takeN (k := k) hV2 (by omega)
             have hk2 : (vs.take k).length = k := by rw [List.length_take, HVN.out]; omega
             rw [e7] at hQ ⊢
             refine wpList_append_freshV (by rfl) (.tmp 102) (.tmp 105) (by rfl) g7 w1.heap.size w1.heap.size #[] (by rfl) hB7 rfl hg7 _ _ _ (vs.take k) (by rfl) hk2.symm (by rw [hk2]; exact hT) (by omega) ?_
             intro v' w' ho hb'
             exact hQ _ _ hb' ho
            ·intro x w hb hk Q' hQ
             clear hk
             simp only [netE] at hQ ⊢
             go_wp2
             exact hQ _ _ (Below.refl _ _) rfl
            ·intro x w hb hk Q' hQ
             clear hk
             simp only [netE] at hQ ⊢
             go_wp2
             exact hQ _ _ (Below.refl _ _) rfl
            ·intro x w hb hk Q' hQ
             have h5 : x.v 5 = .slice (some ⟨ba, oa, none⟩) s1.length ab := (hk 5 (by decide)).1
             have h6 : x.v 6 = .int .i64 i := (hk 6 (by decide)).1
             clear hk
             simp only [netE] at hQ ⊢
             simp only [h5, h6] at hQ ⊢
             clear h5 h6
             go_wp2
             exact hQ _ _ (Below.refl _ _) rfl
            ·intro x w hb hk Q' hQ
             have h7 : x.v 7 = .pointer (some ⟨ba, oa + i, none⟩) := (hk 7 (by decide)).1
             clear hk
             simp only [netE] at hQ ⊢
             simp only [h7] at hQ ⊢
             clear h7
             have q0 := bcell hb (show ba < w1.heap.size by omega) cxe2
             go_wp2
             exact hQ _ _ (Below.refl _ _) rfl
            ·intro x w hb hk Q' hQ
             have h5 : x.v 5 = .slice (some ⟨ba, oa, none⟩) s1.length ab := (hk 5 (by decide)).1
             have h6 : x.v 6 = .int .i64 i := (hk 6 (by decide)).1
             have h7 : x.v 7 = .pointer (some ⟨ba, oa + i, none⟩) := (hk 7 (by decide)).1
             have h8 : x.v 8 = .slice XA xe.length xc := (hk 8 (by decide)).1
             clear hk
             simp only [netE] at hQ ⊢
             simp only [h5, h6, h7, h8] at hQ ⊢
             clear h5 h6 h7 h8
             go_wp2
             exact hQ _ _ (below_alloc _ _) ⟨_, rfl, SlV.new _ _ _ rfl⟩
            ·intro x w hb hk Q' hQ
             have h0 : FreshV w w1.heap.size (x.v 0) := (hk 0 (by decide)).1
             have h1 : x.v 1 = .slice (some ⟨g, 0, none⟩) N cp := (hk 1 (by decide)).1
             have h2 : x.v 2 = .int .i64 k := (hk 2 (by decide)).1
             have h3 : x.v 3 = .slice (some ⟨g, 0, none⟩) k cp := (hk 3 (by decide)).1
             have h4 : OwnV w w1.heap.size (x.v 4) (vs.take k) := (hk 4 (by decide)).1
             have h5 : x.v 5 = .slice (some ⟨ba, oa, none⟩) s1.length ab := (hk 5 (by decide)).1
             have h6 : x.v 6 = .int .i64 i := (hk 6 (by decide)).1
             have h7 : x.v 7 = .pointer (some ⟨ba, oa + i, none⟩) := (hk 7 (by decide)).1
             have h8 : x.v 8 = .slice XA xe.length xc := (hk 8 (by decide)).1
             have h9 : ∃ g9, (x.v 9) = .slice (some ⟨g9, 0, none⟩) 1 1 ∧ SlV w w.heap.size (x.v 9) [.slice XA xe.length xc] := (hk 9 (by decide)).1
             have s0 := (hk 0 (by decide)).2
             have s4 := (hk 4 (by decide)).2
             have s9 := (hk 9 (by decide)).2
             clear hk
             simp only [netE] at hQ ⊢
             simp only [h1, h2, h3, h5, h6, h7, h8] at hQ ⊢
             clear h1 h2 h3 h5 h6 h7 h8
             obtain ⟨A4, c4, e4, _, _⟩ := h4.form
             obtain ⟨g9, e9, h9⟩ := h9
             rw [e4] at h4
             rw [e9] at h9
             have hk2 : (vs.take k).length = k := by rw [List.length_take, HVN.out]; omega
             have hlo := h4.lt
             rw [e4, e9] at hQ ⊢
             refine wpList_appV (by rfl) (.tmp 106) (.tmp 111) (by rfl) w1.heap.size w.heap.size _ _ (by rfl) h4 _ 1 1 [.slice XA xe.length xc] (by rfl) rfl h9 (by rw [hk2]; simp; omega) hb.size ?_
             intro v' w' h1 h2 h3
             exact hQ v' w' (below_grown h2 (fun k hk => (hlo k hk).1) hb.size) h1
            ·intro x w hb hk Q' hQ
             clear hk
             simp only [netE] at hQ ⊢
             go_wp2
             exact hQ _ _ (Below.refl _ _) rfl
            ·intro x w hb hk Q' hQ
             clear hk
             simp only [netE] at hQ ⊢
             go_wp2
             exact hQ _ _ (Below.refl _ _) rfl
            ·intro x w hb hk Q' hQ
             have h11 : x.v 11 = .slice (some ⟨g, 0, none⟩) N cp := (hk 11 (by decide)).1
             have h12 : x.v 12 = .int .i64 k := (hk 12 (by decide)).1
             clear hk
             simp only [netE] at hQ ⊢
             simp only [h11, h12] at hQ ⊢
             clear h11 h12
             go_wp2
             exact hQ _ _ (Below.refl _ _) rfl
            ·intro x w hb hk hiv hdj
             have h1 : x.v 1 = .slice (some ⟨g, 0, none⟩) N cp := hk 1 (by decide) (by decide)
             have h2 : x.v 2 = .int .i64 k := hk 2 (by decide) (by decide)
             have h3 : x.v 3 = .slice (some ⟨g, 0, none⟩) k cp := hk 3 (by decide) (by decide)
             have h5 : x.v 5 = .slice (some ⟨ba, oa, none⟩) s1.length ab := hk 5 (by decide) (by decide)
             have h6 : x.v 6 = .int .i64 i := hk 6 (by decide) (by decide)
             have h7 : x.v 7 = .pointer (some ⟨ba, oa + i, none⟩) := hk 7 (by decide) (by decide)
             have h8 : x.v 8 = .slice XA xe.length xc := hk 8 (by decide) (by decide)
             have h10 : OwnV w w1.heap.size (x.v 10) (vs.take k ++ [.slice XA xe.length xc]) := hk 10 (by decide) (by decide)
             have h11 : x.v 11 = .slice (some ⟨g, 0, none⟩) N cp := hk 11 (by decide) (by decide)
             have h12 : x.v 12 = .int .i64 k := hk 12 (by decide) (by decide)
             have h13 : x.v 13 = .slice (some ⟨g, k, none⟩) (N - k) (cp - k) := hk 13 (by decide) (by decide)
             clear hk
             simp only [netE]
             simp only [List.drop_succ_cons, List.drop_zero, h1, h2, h3, h5, h6, h7, h8, h11, h12, h13]
             clear h1 h2 h3 h5 h6 h7 h8 h11 h12 h13
             obtain ⟨A4, c4, e4, _, _⟩ := h10.form
             rw [e4] at h10 ⊢
             have hlo := h10.lt
             have hk2 : (vs.take k ++ [Value.slice XA xe.length xc]).length = k + 1 := by rw [List.length_append, List.length_take, HVN.out]; simp; try omega
             have hk3 : (vs.drop k).length = N - k := by rw [List.length_drop, HVN.out]
             clear hiv hdj e4
             refine wpList_appV rfl (.tmp 112) (.tmp 115) rfl w1.heap.size w1.heap.size _ _ rfl h10 _ _ _ (vs.drop k) rfl (by rw [hk3]; try omega) (by rw [hk3]; first | exact SlV.below hb HDRP.out | (rw [Nat.sub_self]; exact SlV.below hb HDRP.out)) (by rw [hk2, hk3]; omega) hb.size ?_
             intro v9 w9 h1 h2 _
             have hb9 := hb.trans (below_grown h2 (fun k hk => (hlo k hk).1) hb.size)
             have hln : (vs.take k ++ [Value.slice XA xe.length xc] ++ vs.drop k).length = N + 1 := by rw [List.length_append, hk2, hk3]; omega
             obtain ⟨g', c', hv9, hg', hcc⟩ : ∃ g' c', v9 = .slice (some ⟨g', 0, none⟩) (N + 1) c' ∧ g' < w9.heap.size ∧ N + 1 ≤ c' := by
              rcases h1.1.2 with ⟨_, h0⟩ | ⟨g', cap, cur, e, _, hh, hnc, _⟩
              ·omega
              ·exact ⟨g', cap, by rw [e, hln], (Array.getElem?_eq_some_iff.1 hh).1, by omega⟩
             subst hv9
             have hrd := h1.rd
             have HRD := Lib.hid hrd
             have HI := Lib.hid (HSI.out)
             have HG := Lib.hid (HGET.out)
             have HLN := Lib.hid hln
             have hbz := hbe2.trans (hb9.mono hbe2.size)
             clear h1 h2 hb hb9 hlo hk2 hk3 h10 hrd hln
             go_wp2
             go_roundw
             case rel => exact ⟨i + 1, _, _, g', N + 1, c', by go_num, by omega, rfl, HRD.out, ⟨⟨HLN.out, HLL.out⟩, HI.out, HG.out⟩, hbz⟩
             case measure => simp [intOf]; omega
          ·have CL : Hid (∀ t : InB we, Calls Tryz.prog 116 #[.slice XA xe.length xc, .slice UA y.length uc] t.val fun e w' => e = .returned (.bool true) ∧ Below t.val.heap.size t.val w') := by
            intro t
            refine (CL0 t.val t.below).mono ?_
            rintro e w' ⟨rfl, m, rfl⟩
            exact ⟨by rw [hd], drewN_below _ _ _⟩
           have HK6 := Lib.hid (show ∀ (j : Nat) y, kp ≤ j → L[j]? = some y → ltR xe y = true from fun j y' hj hy' => by
            by_cases e : j = kp
            ·subst e; rw [HY.out] at hy'; injection hy' with hy'; rw [← hy']; exact hd
            ·exact HK5.out j y' (by omega) hy')
           clear hd CL0
           go_wp2_with fail
           (refine wp_region_inB (by kernel_rfl) (by kernel_rfl) ?_; (repeat (go_big_quiet_step ((go_at_call 116; exact InB.call (CL.out _))))); refine wpQuiet_nil ?_; intro w1 hw'; obtain ⟨s1, hw1⟩ := hw'; have hb1 := s1.below; rw [← hw1] at hb1; clear hw1 s1)
           have hb6 := hb5.trans (hb1.mono hb5.size)
           clear hbe cxe HVE qqx qqu CL hb1 cu
           go_wp2
           go_roundw
           case rel => exact ⟨kp, by omega, by first | rfl | go_num, hb6, HK6⟩
           case measure => simp [intOf]; omega
         ·have hk0d : decide ((0 : Int) < (k : Int)) = false := decide_eq_false (by omega)
          have hk0z : ¬ (0 : Int) < (k : Int) := by omega
          have H1 := Lib.hid (show k = 0 ∨ ∃ y, L[k - 1]? = some y ∧ ltR xe y = false from .inl (by omega))
          go_wp2_with fail
          (refine wp_region_inB (by kernel_rfl) (by kernel_rfl) ?_; (repeat (go_big_quiet_step (fail))); refine wpQuiet_nil ?_; intro w1 hw'; obtain ⟨s1, hw1⟩ := hw'; have hb1 := s1.below; rw [← hw1] at hb1; clear hw1 s1)
          have hbe2 := hbe.trans (hb1.mono hse)
          have cxe2 := bcell hbe2 hba cx
          have HVE2 := Lib.hid (SlV.next hb1 HVE.out)
          have hse2 := hbe2.size
          clear hbe cxe HVE qqx hb1
          have hxk : k ≤ L.length := by have := HLE.out; omega
          have HSI := Lib.hid (HS.out.2.1.step (HC.out.nd) (fun y hy => ((HFIN.out y).1 hy).len) HX.out hxk H1.out HK5.out)
          have HGET := Lib.hid (ins_get (R := fun u l => SlI wb wb.heap.size u l) (k := k) (xv := .slice XA xe.length xc) (x := xe) (by rw [HVN.out]; exact HLE.out.symm) hx HS.out.2.2 hxk)
          have HLL := Lib.hid (show (L.take k ++ [xe] ++ L.drop k).length = N + 1 by have := HLE.out; simp; omega)
          by_cases hck : cp = k
          ·have hck2 : k = cp := hck.symm
           have hnk : k = N := by omega
           clear hck
           subst hck2
           subst hnk
           have HDRP : Hid (SlV w1 w1.heap.size (.slice (some ⟨g, 0, none⟩) 0 0) (vs.drop k)) := by
            show SlV _ _ _ _
            rw [List.drop_of_length_le (by rw [HVN.out]; omega)]
            exact ⟨_, 0, rfl, by simp, by omega, by simp, fun h => absurd h (by simp)⟩
           go_wp2_with fail
           refine wp_region_netC (by kernel_rfl) [rel 0 (fun u lo hi w => FreshV w w1.heap.size u), .eq (.slice (some ⟨g, 0, none⟩) k k), .eq (.int .i64 k), .eq (.slice (some ⟨g, 0, none⟩) k k), rel 4 (fun u lo hi w => OwnV w w1.heap.size u (vs.take k)), .eq (.slice (some ⟨ba, oa, none⟩) s1.length ab), .eq (.int .i64 i), .eq (.pointer (some ⟨ba, oa + i, none⟩)), .eq (.slice XA xe.length xc), rel 9 (fun u lo hi w => ∃ g9, u = .slice (some ⟨g9, 0, none⟩) 1 1 ∧ SlV w w.heap.size u [.slice XA xe.length xc]), rel 10 (fun u lo hi w => OwnV w w1.heap.size u (vs.take k ++ [.slice XA xe.length xc])), .eq (.slice (some ⟨g, 0, none⟩) k k), .eq (.int .i64 k), .eq (.slice (some ⟨g, 0, none⟩) 0 0)] [[], [], [], [1, 2], [0, 1, 2, 3], [], [], [5, 6], [5, 6, 7], [5, 6, 7, 8], [0, 1, 2, 3, 4, 5, 6, 7, 8, 9], [], [], [11, 12], [0, 1, 2, 3, 4, 5, 6, 7, 8, 9, 10, 11, 12, 13], [0, 1, 2, 3, 4, 5, 6, 7, 8, 9, 10, 11, 12, 13, 14]] [[], [], [], [1, 2], [0, 1, 2, 3], [], [], [5, 6], [5, 6, 7], [5, 6, 7, 8], [0, 1, 2, 3, 4, 5, 6, 7, 8, 9], [], [], [11, 12]] [1, 2, 3, 5, 6, 7, 8, 10, 11, 12, 13] 14 10 (by kernel_rfl) (by kernel_rfl) ⟨.inr (.inr ⟨_, rfl⟩), .inr (.inr ⟨_, rfl⟩), .inr (.inr ⟨_, rfl⟩), .inr (.inr ⟨_, rfl⟩), .inr (.inr ⟨_, rfl⟩), .inr (.inr ⟨_, rfl⟩), .inr (.inr ⟨_, rfl⟩), .inl rfl, .inr (.inr ⟨_, rfl⟩), .inr (.inr ⟨_, rfl⟩), .inr (.inr ⟨_, rfl⟩), trivial⟩ ⟨rel_stable (fun u lo hi w w' h hb => h.below hb), trivial, trivial, trivial, rel_stable (fun u lo hi w w' h hb => h.below hb), trivial, trivial, trivial, trivial, rel_stable (fun u lo hi w w' ⟨g9, e, h⟩ hb => ⟨g9, e, SlV.next hb h⟩), rel_stable (fun u lo hi w w' h hb => h.below hb), trivial, trivial, trivial, trivial⟩ ⟨?_, ?_, ?_, ?_, ?_, ?_, ?_, ?_, ?_, ?_, ?_, ?_, ?_, ?_, trivial⟩ ?_
           ·intro x w hb hk Q' hQ
            clear hk
            simp only [netE] at hQ ⊢
            go_wp2
            exact hQ _ _ (below_alloc _ _) (FreshV.new _ hb.size)
           ·intro x w hb hk Q' hQ
            clear hk
            simp only [netE] at hQ ⊢
            go_wp2
            exact hQ _ _ (Below.refl _ _) rfl
           ·intro x w hb hk Q' hQ
            clear hk
            simp only [netE] at hQ ⊢
            go_wp2
            exact hQ _ _ (Below.refl _ _) rfl
           ·intro x w hb hk Q' hQ
            have h1 : x.v 1 = .slice (some ⟨g, 0, none⟩) k k := (hk 1 (by decide)).1
            have h2 : x.v 2 = .int .i64 k := (hk 2 (by decide)).1
            clear hk
            simp only [netE] at hQ ⊢
            simp only [h1, h2] at hQ ⊢
            clear h1 h2
            go_wp2
            exact hQ _ _ (Below.refl _ _) rfl
           ·intro x w hb hk Q' hQ
            have h0 : FreshV w w1.heap.size (x.v 0) := (hk 0 (by decide)).1
            have h1 : x.v 1 = .slice (some ⟨g, 0, none⟩) k k := (hk 1 (by decide)).1
            have h2 : x.v 2 = .int .i64 k := (hk 2 (by decide)).1
            have h3 : x.v 3 = .slice (some ⟨g, 0, none⟩) k k := (hk 3 (by decide)).1
            have s0 := (hk 0 (by decide)).2
            clear hk
            simp only [netE] at hQ ⊢
            simp only [h1, h2, h3] at hQ ⊢
            clear h1 h2 h3
            obtain ⟨g7, e7, hg7, hB7⟩ := h0
            have hV2 := SlV.below hb (HVE2.out)
            have hT := SlV.takeN (k := k) hV2 (by omega)
            have hk2 : (vs.take k).length = k := by rw [List.length_take, HVN.out]; omega
            rw [e7] at hQ ⊢
            refine wpList_append_freshV (by rfl) (.tmp 102) (.tmp 105) (by rfl) g7 w1.heap.size w1.heap.size #[] (by rfl) hB7 rfl hg7 _ _ _ (vs.take k) (by rfl) hk2.symm (by rw [hk2]; exact hT) (by omega) ?_
            intro v' w' ho hb'
            exact hQ _ _ hb' ho
           ·intro x w hb hk Q' hQ
            clear hk
            simp only [netE] at hQ ⊢
            go_wp2
            exact hQ _ _ (Below.refl _ _) rfl
           ·intro x w hb hk Q' hQ
            clear hk
            simp only [netE] at hQ ⊢
            go_wp2
            exact hQ _ _ (Below.refl _ _) rfl
           ·intro x w hb hk Q' hQ
            have h5 : x.v 5 = .slice (some ⟨ba, oa, none⟩) s1.length ab := (hk 5 (by decide)).1
            have h6 : x.v 6 = .int .i64 i := (hk 6 (by decide)).1
            clear hk
            simp only [netE] at hQ ⊢
            simp only [h5, h6] at hQ ⊢
            clear h5 h6
            go_wp2
            exact hQ _ _ (Below.refl _ _) rfl
           ·intro x w hb hk Q' hQ
            have h7 : x.v 7 = .pointer (some ⟨ba, oa + i, none⟩) := (hk 7 (by decide)).1
            clear hk
            simp only [netE] at hQ ⊢
            simp only [h7] at hQ ⊢
            clear h7
            have q0 := bcell hb (show ba < w1.heap.size by omega) cxe2
            go_wp2
            exact hQ _ _ (Below.refl _ _) rfl
           ·intro x w hb hk Q' hQ
            have h5 : x.v 5 = .slice (some ⟨ba, oa, none⟩) s1.length ab := (hk 5 (by decide)).1
            have h6 : x.v 6 = .int .i64 i := (hk 6 (by decide)).1
            have h7 : x.v 7 = .pointer (some ⟨ba, oa + i, none⟩) := (hk 7 (by decide)).1
            have h8 : x.v 8 = .slice XA xe.length xc := (hk 8 (by decide)).1
            clear hk
            simp only [netE] at hQ ⊢
            simp only [h5, h6, h7, h8] at hQ ⊢
            clear h5 h6 h7 h8
            go_wp2
            exact hQ _ _ (below_alloc _ _) ⟨_, rfl, SlV.new _ _ _ rfl⟩
           ·intro x w hb hk Q' hQ
            have h0 : FreshV w w1.heap.size (x.v 0) := (hk 0 (by decide)).1
            have h1 : x.v 1 = .slice (some ⟨g, 0, none⟩) k k := (hk 1 (by decide)).1
            have h2 : x.v 2 = .int .i64 k := (hk 2 (by decide)).1
            have h3 : x.v 3 = .slice (some ⟨g, 0, none⟩) k k := (hk 3 (by decide)).1
            have h4 : OwnV w w1.heap.size (x.v 4) (vs.take k) := (hk 4 (by decide)).1
            have h5 : x.v 5 = .slice (some ⟨ba, oa, none⟩) s1.length ab := (hk 5 (by decide)).1
            have h6 : x.v 6 = .int .i64 i := (hk 6 (by decide)).1
            have h7 : x.v 7 = .pointer (some ⟨ba, oa + i, none⟩) := (hk 7 (by decide)).1
            have h8 : x.v 8 = .slice XA xe.length xc := (hk 8 (by decide)).1
            have h9 : ∃ g9, (x.v 9) = .slice (some ⟨g9, 0, none⟩) 1 1 ∧ SlV w w.heap.size (x.v 9) [.slice XA xe.length xc] := (hk 9 (by decide)).1
            have s0 := (hk 0 (by decide)).2
            have s4 := (hk 4 (by decide)).2
            have s9 := (hk 9 (by decide)).2
            clear hk
            simp only [netE] at hQ ⊢
            simp only [h1, h2, h3, h5, h6, h7, h8] at hQ ⊢
            clear h1 h2 h3 h5 h6 h7 h8
            obtain ⟨A4, c4, e4, _, _⟩ := h4.form
            obtain ⟨g9, e9, h9⟩ := h9
            rw [e4] at h4
            rw [e9] at h9
            have hk2 : (vs.take k).length = k := by rw [List.length_take, HVN.out]; omega
            have hlo := h4.lt
            rw [e4, e9] at hQ ⊢
            refine wpList_appV (by rfl) (.tmp 106) (.tmp 111) (by rfl) w1.heap.size w.heap.size _ _ (by rfl) h4 _ 1 1 [.slice XA xe.length xc] (by rfl) rfl h9 (by rw [hk2]; simp; omega) hb.size ?_
            intro v' w' h1 h2 h3
            exact hQ v' w' (below_grown h2 (fun k hk => (hlo k hk).1) hb.size) h1
           ·intro x w hb hk Q' hQ
            clear hk
            simp only [netE] at hQ ⊢
            go_wp2
            exact hQ _ _ (Below.refl _ _) rfl
           ·intro x w hb hk Q' hQ
            clear hk
            simp only [netE] at hQ ⊢
            go_wp2
            exact hQ _ _ (Below.refl _ _) rfl
           ·intro x w hb hk Q' hQ
            have h11 : x.v 11 = .slice (some ⟨g, 0, none⟩) k k := (hk 11 (by decide)).1
            have h12 : x.v 12 = .int .i64 k := (hk 12 (by decide)).1
            clear hk
            simp only [netE] at hQ ⊢
            simp only [h11, h12] at hQ ⊢
            clear h11 h12
            go_wp2
            exact hQ _ _ (Below.refl _ _) rfl
           ·intro x w hb hk hiv hdj
            have h1 : x.v 1 = .slice (some ⟨g, 0, none⟩) k k := hk 1 (by decide) (by decide)
            have h2 : x.v 2 = .int .i64 k := hk 2 (by decide) (by decide)
            have h3 : x.v 3 = .slice (some ⟨g, 0, none⟩) k k := hk 3 (by decide) (by decide)
            have h5 : x.v 5 = .slice (some ⟨ba, oa, none⟩) s1.length ab := hk 5 (by decide) (by decide)
            have h6 : x.v 6 = .int .i64 i := hk 6 (by decide) (by decide)
            have h7 : x.v 7 = .pointer (some ⟨ba, oa + i, none⟩) := hk 7 (by decide) (by decide)
            have h8 : x.v 8 = .slice XA xe.length xc := hk 8 (by decide) (by decide)
            have h10 : OwnV w w1.heap.size (x.v 10) (vs.take k ++ [.slice XA xe.length xc]) := hk 10 (by decide) (by decide)
            have h11 : x.v 11 = .slice (some ⟨g, 0, none⟩) k k := hk 11 (by decide) (by decide)
            have h12 : x.v 12 = .int .i64 k := hk 12 (by decide) (by decide)
            have h13 : x.v 13 = .slice (some ⟨g, 0, none⟩) 0 0 := hk 13 (by decide) (by decide)
            clear hk
            simp only [netE]
            simp only [List.drop_succ_cons, List.drop_zero, h1, h2, h3, h5, h6, h7, h8, h11, h12, h13]
            clear h1 h2 h3 h5 h6 h7 h8 h11 h12 h13
            obtain ⟨A4, c4, e4, _, _⟩ := h10.form
            rw [e4] at h10 ⊢
            have hlo := h10.lt
            have hk2 : (vs.take k ++ [Value.slice XA xe.length xc]).length = k + 1 := by rw [List.length_append, List.length_take, HVN.out]; simp; try omega
            have hk3 : (vs.drop k).length = k - k := by rw [List.length_drop, HVN.out]
            clear hiv hdj e4
            refine wpList_appV rfl (.tmp 112) (.tmp 115) rfl w1.heap.size w1.heap.size _ _ rfl h10 _ _ _ (vs.drop k) rfl (by rw [hk3]; try omega) (by rw [hk3]; first | exact SlV.below hb HDRP.out | (rw [Nat.sub_self]; exact SlV.below hb HDRP.out)) (by rw [hk2, hk3]; omega) hb.size ?_
            intro v9 w9 h1 h2 _
            have hb9 := hb.trans (below_grown h2 (fun k hk => (hlo k hk).1) hb.size)
            have hln : (vs.take k ++ [Value.slice XA xe.length xc] ++ vs.drop k).length = k + 1 := by rw [List.length_append, hk2, hk3]; omega
            obtain ⟨g', c', hv9, hg', hcc⟩ : ∃ g' c', v9 = .slice (some ⟨g', 0, none⟩) (k + 1) c' ∧ g' < w9.heap.size ∧ k + 1 ≤ c' := by
             rcases h1.1.2 with ⟨_, h0⟩ | ⟨g', cap, cur, e, _, hh, hnc, _⟩
             ·omega
             ·exact ⟨g', cap, by rw [e, hln], (Array.getElem?_eq_some_iff.1 hh).1, by omega⟩
            subst hv9
            have hrd := h1.rd
            have HRD := Lib.hid hrd
            have HI := Lib.hid (HSI.out)
            have HG := Lib.hid (HGET.out)
            have HLN := Lib.hid hln
            have hbz := hbe2.trans (hb9.mono hbe2.size)
            clear h1 h2 hb hb9 hlo hk2 hk3 h10 hrd hln
            go_wp2
            go_roundw
            case rel => exact ⟨i + 1, _, _, g', k + 1, c', by go_num, by omega, rfl, HRD.out, ⟨⟨HLN.out, HLL.out⟩, HI.out, HG.out⟩, hbz⟩
            case measure => simp [intOf]; omega
          ·have HDRP : Hid (SlV w1 w1.heap.size (.slice (some ⟨g, k, none⟩) (N - k) (cp - k)) (vs.drop k)) := by
            show SlV _ _ _ _
            have hd2 := HVE2.out
            have hvn := HVN.out
            rw [← hvn] at hd2 ⊢
            have := SlV.dropS (k := k) hd2 (by omega)
            rwa [Nat.zero_add] at this
           go_wp2_with fail
           refine wp_region_netC (by kernel_rfl) [rel 0 (fun u lo hi w => FreshV w w1.heap.size u), .eq (.slice (some ⟨g, 0, none⟩) N cp), .eq (.int .i64 k), .eq (.slice (some ⟨g, 0, none⟩) k cp), rel 4 (fun u lo hi w => OwnV w w1.heap.size u (vs.take k)), .eq (.slice (some ⟨ba, oa, none⟩) s1.length ab), .eq (.int .i64 i), .eq (.pointer (some ⟨ba, oa + i, none⟩)), .eq (.slice XA xe.length xc), rel 9 (fun u lo hi w => ∃ g9, u = .slice (some ⟨g9, 0, none⟩) 1 1 ∧ SlV w w.heap.size u [.slice XA xe.length xc]), rel 10 (fun u lo hi w => OwnV w w1.heap.size u (vs.take k ++ [.slice XA xe.length xc])), .eq (.slice (some ⟨g, 0, none⟩) N cp), .eq (.int .i64 k), .eq (.slice (some ⟨g, k, none⟩) (N - k) (cp - k))] [[], [], [], [1, 2], [0, 1, 2, 3], [], [], [5, 6], [5, 6, 7], [5, 6, 7, 8], [0, 1, 2, 3, 4, 5, 6, 7, 8, 9], [], [], [11, 12], [0, 1, 2, 3, 4, 5, 6, 7, 8, 9, 10, 11, 12, 13], [0, 1, 2, 3, 4, 5, 6, 7, 8, 9, 10, 11, 12, 13, 14]] [[], [], [], [1, 2], [0, 1, 2, 3], [], [], [5, 6], [5, 6, 7], [5, 6, 7, 8], [0, 1, 2, 3, 4, 5, 6, 7, 8, 9], [], [], [11, 12]] [1, 2, 3, 5, 6, 7, 8, 10, 11, 12, 13] 14 10 (by kernel_rfl) (by kernel_rfl) ⟨.inr (.inr ⟨_, rfl⟩), .inr (.inr ⟨_, rfl⟩), .inr (.inr ⟨_, rfl⟩), .inr (.inr ⟨_, rfl⟩), .inr (.inr ⟨_, rfl⟩), .inr (.inr ⟨_, rfl⟩), .inr (.inr ⟨_, rfl⟩), .inl rfl, .inr (.inr ⟨_, rfl⟩), .inr (.inr ⟨_, rfl⟩), .inr (.inr ⟨_, rfl⟩), trivial⟩ ⟨rel_stable (fun u lo hi w w' h hb => h.below hb), trivial, trivial, trivial, rel_stable (fun u lo hi w w' h hb => h.below hb), trivial, trivial, trivial, trivial, rel_stable (fun u lo hi w w' ⟨g9, e, h⟩ hb => ⟨g9, e, SlV.next hb h⟩), rel_stable (fun u lo hi w w' h hb => h.below hb), trivial, trivial, trivial, trivial⟩ ⟨?_, ?_, ?_, ?_, ?_, ?_, ?_, ?_, ?_, ?_, ?_, ?_, ?_, ?_, trivial⟩ ?_
           ·intro x w hb hk Q' hQ
            clear hk
            simp only [netE] at hQ ⊢
            go_wp2
            exact hQ _ _ (below_alloc _ _) (FreshV.new _ hb.size)
           ·intro x w hb hk Q' hQ
            clear hk
            simp only [netE] at hQ ⊢
            go_wp2
            exact hQ _ _ (Below.refl _ _) rfl
           ·intro x w hb hk Q' hQ
            clear hk
            simp only [netE] at hQ ⊢
            go_wp2
            exact hQ _ _ (Below.refl _ _) rfl
           ·intro x w hb hk Q' hQ
            have h1 : x.v 1 = .slice (some ⟨g, 0, none⟩) N cp := (hk 1 (by decide)).1
            have h2 : x.v 2 = .int .i64 k := (hk 2 (by decide)).1
            clear hk
            simp only [netE] at hQ ⊢
            simp only [h1, h2] at hQ ⊢
            clear h1 h2
            go_wp2
            exact hQ _ _ (Below.refl _ _) rfl
           ·intro x w hb hk Q' hQ
            have h0 : FreshV w w1.heap.size (x.v 0) := (hk 0 (by decide)).1
            have h1 : x.v 1 = .slice (some ⟨g, 0, none⟩) N cp := (hk 1 (by decide)).1
            have h2 : x.v 2 = .int .i64 k := (hk 2 (by decide)).1
            have h3 : x.v 3 = .slice (some ⟨g, 0, none⟩) k cp := (hk 3 (by decide)).1
            have s0 := (hk 0 (by decide)).2
            clear hk
            simp only [netE] at hQ ⊢
            simp only [h1, h2, h3] at hQ ⊢
            clear h1 h2 h3
            obtain ⟨g7, e7, hg7, hB7⟩ := h0
            have hV2 := SlV.below hb (HVE2.out)
            have hT := SlV.takeN (k := k) hV2 (by omega)
            have hk2 : (vs.take k).length = k := by rw [List.length_take, HVN.out]; omega
            rw [e7] at hQ ⊢
            refine wpList_append_freshV (by rfl) (.tmp 102) (.tmp 105) (by rfl) g7 w1.heap.size w1.heap.size #[] (by rfl) hB7 rfl hg7 _ _ _ (vs.take k) (by rfl) hk2.symm (by rw [hk2]; exact hT) (by omega) ?_
            intro v' w' ho hb'
            exact hQ _ _ hb' ho
           ·intro x w hb hk Q' hQ
            clear hk
            simp only [netE] at hQ ⊢
            go_wp2
            exact hQ _ _ (Below.refl _ _) rfl
           ·intro x w hb hk Q' hQ
            clear hk
            simp only [netE] at hQ ⊢
            go_wp2
            exact hQ _ _ (Below.refl _ _) rfl
           ·intro x w hb hk Q' hQ
            have h5 : x.v 5 = .slice (some ⟨ba, oa, none⟩) s1.length ab := (hk 5 (by decide)).1
            have h6 : x.v 6 = .int .i64 i := (hk 6 (by decide)).1
            clear hk
            simp only [netE] at hQ ⊢
            simp only [h5, h6] at hQ ⊢
            clear h5 h6
            go_wp2
            exact hQ _ _ (Below.refl _ _) rfl
           ·intro x w hb hk Q' hQ
            have h7 : x.v 7 = .pointer (some ⟨ba, oa + i, none⟩) := (hk 7 (by decide)).1
            clear hk
            simp only [netE] at hQ ⊢
            simp only [h7] at hQ ⊢
            clear h7
            have q0 := bcell hb (show ba < w1.heap.size by omega) cxe2
            go_wp2
            exact hQ _ _ (Below.refl _ _) rfl
           ·intro x w hb hk Q' hQ
            have h5 : x.v 5 = .slice (some ⟨ba, oa, none⟩) s1.length ab := (hk 5 (by decide)).1
            have h6 : x.v 6 = .int .i64 i := (hk 6 (by decide)).1
            have h7 : x.v 7 = .pointer (some ⟨ba, oa + i, none⟩) := (hk 7 (by decide)).1
            have h8 : x.v 8 = .slice XA xe.length xc := (hk 8 (by decide)).1
            clear hk
            simp only [netE] at hQ ⊢
            simp only [h5, h6, h7, h8] at hQ ⊢
            clear h5 h6 h7 h8
            go_wp2
            exact hQ _ _ (below_alloc _ _) ⟨_, rfl, SlV.new _ _ _ rfl⟩
           ·intro x w hb hk Q' hQ
            have h0 : FreshV w w1.heap.size (x.v 0) := (hk 0 (by decide)).1
            have h1 : x.v 1 = .slice (some ⟨g, 0, none⟩) N cp := (hk 1 (by decide)).1
            have h2 : x.v 2 = .int .i64 k := (hk 2 (by decide)).1
            have h3 : x.v 3 = .slice (some ⟨g, 0, none⟩) k cp := (hk 3 (by decide)).1
            have h4 : OwnV w w1.heap.size (x.v 4) (vs.take k) := (hk 4 (by decide)).1
            have h5 : x.v 5 = .slice (some ⟨ba, oa, none⟩) s1.length ab := (hk 5 (by decide)).1
            have h6 : x.v 6 = .int .i64 i := (hk 6 (by decide)).1
            have h7 : x.v 7 = .pointer (some ⟨ba, oa + i, none⟩) := (hk 7 (by decide)).1
            have h8 : x.v 8 = .slice XA xe.length xc := (hk 8 (by decide)).1
            have h9 : ∃ g9, (x.v 9) = .slice (some ⟨g9, 0, none⟩) 1 1 ∧ SlV w w.heap.size (x.v 9) [.slice XA xe.length xc] := (hk 9 (by decide)).1
            have s0 := (hk 0 (by decide)).2
            have s4 := (hk 4 (by decide)).2
            have s9 := (hk 9 (by decide)).2
            clear hk
            simp only [netE] at hQ ⊢
            simp only [h1, h2, h3, h5, h6, h7, h8] at hQ ⊢
            clear h1 h2 h3 h5 h6 h7 h8
            obtain ⟨A4, c4, e4, _, _⟩ := h4.form
            obtain ⟨g9, e9, h9⟩ := h9
            rw [e4] at h4
            rw [e9] at h9
            have hk2 : (vs.take k).length = k := by rw [List.length_take, HVN.out]; omega
            have hlo := h4.lt
            rw [e4, e9] at hQ ⊢
            refine wpList_appV (by rfl) (.tmp 106) (.tmp 111) (by rfl) w1.heap.size w.heap.size _ _ (by rfl) h4 _ 1 1 [.slice XA xe.length xc] (by rfl) rfl h9 (by rw [hk2]; simp; omega) hb.size ?_
            intro v' w' h1 h2 h3
            exact hQ v' w' (below_grown h2 (fun k hk => (hlo k hk).1) hb.size) h1
           ·intro x w hb hk Q' hQ
            clear hk
            simp only [netE] at hQ ⊢
            go_wp2
            exact hQ _ _ (Below.refl _ _) rfl
           ·intro x w hb hk Q' hQ
            clear hk
            simp only [netE] at hQ ⊢
            go_wp2
            exact hQ _ _ (Below.refl _ _) rfl
           ·intro x w hb hk Q' hQ
            have h11 : x.v 11 = .slice (some ⟨g, 0, none⟩) N cp := (hk 11 (by decide)).1
            have h12 : x.v 12 = .int .i64 k := (hk 12 (by decide)).1
            clear hk
            simp only [netE] at hQ ⊢
            simp only [h11, h12] at hQ ⊢
            clear h11 h12
            go_wp2
            exact hQ _ _ (Below.refl _ _) rfl
           ·intro x w hb hk hiv hdj
            have h1 : x.v 1 = .slice (some ⟨g, 0, none⟩) N cp := hk 1 (by decide) (by decide)
            have h2 : x.v 2 = .int .i64 k := hk 2 (by decide) (by decide)
            have h3 : x.v 3 = .slice (some ⟨g, 0, none⟩) k cp := hk 3 (by decide) (by decide)
            have h5 : x.v 5 = .slice (some ⟨ba, oa, none⟩) s1.length ab := hk 5 (by decide) (by decide)
            have h6 : x.v 6 = .int .i64 i := hk 6 (by decide) (by decide)
            have h7 : x.v 7 = .pointer (some ⟨ba, oa + i, none⟩) := hk 7 (by decide) (by decide)
            have h8 : x.v 8 = .slice XA xe.length xc := hk 8 (by decide) (by decide)
            have h10 : OwnV w w1.heap.size (x.v 10) (vs.take k ++ [.slice XA xe.length xc]) := hk 10 (by decide) (by decide)
            have h11 : x.v 11 = .slice (some ⟨g, 0, none⟩) N cp := hk 11 (by decide) (by decide)
            have h12 : x.v 12 = .int .i64 k := hk 12 (by decide) (by decide)
            have h13 : x.v 13 = .slice (some ⟨g, k, none⟩) (N - k) (cp - k) := hk 13 (by decide) (by decide)
            clear hk
            simp only [netE]
            simp only [List.drop_succ_cons, List.drop_zero, h1, h2, h3, h5, h6, h7, h8, h11, h12, h13]
            clear h1 h2 h3 h5 h6 h7 h8 h11 h12 h13
            obtain ⟨A4, c4, e4, _, _⟩ := h10.form
            rw [e4] at h10 ⊢
            have hlo := h10.lt
            have hk2 : (vs.take k ++ [Value.slice XA xe.length xc]).length = k + 1 := by rw [List.length_append, List.length_take, HVN.out]; simp; try omega
            have hk3 : (vs.drop k).length = N - k := by rw [List.length_drop, HVN.out]
            clear hiv hdj e4
            refine wpList_appV rfl (.tmp 112) (.tmp 115) rfl w1.heap.size w1.heap.size _ _ rfl h10 _ _ _ (vs.drop k) rfl (by rw [hk3]; try omega) (by rw [hk3]; first | exact SlV.below hb HDRP.out | (rw [Nat.sub_self]; exact SlV.below hb HDRP.out)) (by rw [hk2, hk3]; omega) hb.size ?_
            intro v9 w9 h1 h2 _
            have hb9 := hb.trans (below_grown h2 (fun k hk => (hlo k hk).1) hb.size)
            have hln : (vs.take k ++ [Value.slice XA xe.length xc] ++ vs.drop k).length = N + 1 := by rw [List.length_append, hk2, hk3]; omega
            obtain ⟨g', c', hv9, hg', hcc⟩ : ∃ g' c', v9 = .slice (some ⟨g', 0, none⟩) (N + 1) c' ∧ g' < w9.heap.size ∧ N + 1 ≤ c' := by
             rcases h1.1.2 with ⟨_, h0⟩ | ⟨g', cap, cur, e, _, hh, hnc, _⟩
             ·omega
             ·exact ⟨g', cap, by rw [e, hln], (Array.getElem?_eq_some_iff.1 hh).1, by omega⟩
            subst hv9
            have hrd := h1.rd
            have HRD := Lib.hid hrd
            have HI := Lib.hid (HSI.out)
            have HG := Lib.hid (HGET.out)
            have HLN := Lib.hid hln
            have hbz := hbe2.trans (hb9.mono hbe2.size)
            clear h1 h2 hb hb9 hlo hk2 hk3 h10 hrd hln
            go_wp2
            go_roundw
            case rel => exact ⟨i + 1, _, _, g', N + 1, c', by go_num, by omega, rfl, HRD.out, ⟨⟨HLN.out, HLL.out⟩, HI.out, HG.out⟩, hbz⟩
            case measure => simp [intOf]; omega
       ·have hLe := HS.out.2.1.fin HK.out (by omega) HFIN.out
        have hfin : SlII wd wd.heap.size (.slice (some ⟨g, 0, none⟩) N cp) (rtsQ q) := by
         rw [← hLe]
         exact hVw.ii (by rw [HVN.out]; exact HLE.out.symm) (fun j u l hu hl => SlI.more hbw.size (SlI.below hbw (HS.out.2.2 j u l hu hl)))
        have HFI := Lib.hid hfin
        have gF := gB.trans (hbw.mono gB.size)
        clear hLe hfin hVw hbw
        go_wp2
        go_ret2
        rw [HF.out]
        exact ⟨_, rfl, HFI.out, gF⟩
 ·have HF : Hid (rtsA q = ([], false)) := by show _ = _; rw [hdf, if_neg h1]
  have hK2 : (K != 1) = true := by simpa using h1
  have c0 := kB.cell' (i := 0) rfl
  have c1 := kB.cell' (i := 1) rfl
  have c2 := kB.cell' (i := 2) rfl
  clear hdf hK hu'
  go_enter Tryz.func88, Tryz.ntmps88
  go_wp2_with fail
  rw [← hW]; clear hW
  refine (specKind_any _ q _ hq1).mono ?_; rintro e w1 ⟨rfl, hb1⟩
  rw [HK.out]
  go_wp2
  go_ret2
  rw [HF.out]
  exact ⟨_, rfl, ⟨_, 0, rfl, by simp, by omega, by simp, fun h => absurd h (by simp)⟩, bthen g0 hb1⟩
end Go.Proofs.YtcmlflppndfdcaaGreat
namespace Go.Proofs.YtcmlflppndfdcaaGreat
open Go.RowKit
def cntRt (q : Qv) : Int := if (rtsA q).2 = true then ((rtsA q).1.length : Int) else -1
def hiR (q : Qv) : List Int × Bool := if (rtsA q).2 = true ∧ conQ q = true then ((rtsA q).1.getD ((rtsA q).1.length - 1) [], true) else ([], false)
def isRtB (q : Qv) (x : List Int) : Bool := decide (x ∈ (rtsA q).1)
theorem rtsA_nil {q : Qv} (h : (rtsA q).2 = false) : (rtsA q).1 = [] := by
 rw [rtsA] at h ⊢
 split at h
 ·cases h
 ·rename_i hk; rw [if_neg hk]
end Go.Proofs.YtcmlflppndfdcaaGreat
