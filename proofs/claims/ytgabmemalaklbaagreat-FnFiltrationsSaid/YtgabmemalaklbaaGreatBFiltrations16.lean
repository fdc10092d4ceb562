/- FnFiltrations: the law holds for every argument. Part 16 of 18 of the proof: StbV, ElI. No condition. -/
import Derived.Test.YtgabmemalaklbaaGreatBFiltrations15
import Derived.Lib.SliceRun
/- slices.Clone and slices.SortStableFunc at rows whose numbers lie in older memory. -/
namespace Go.Proofs.YtgabmemalaklbaaGreat
set_option linter.unusedVariables false
set_option linter.unusedSimpArgs false
open Go.RowKit Go.Sort Go.Shelf

theorem SlII.vs {w : World} {B : Nat} {v : Value} {ll : List (List Int)} (h : SlII w B v ll) : ∃ vs : List Value, SlV w B v vs ∧ vs.length = ll.length ∧ ∀ (j : Nat) (u : Value) (l : List Int), vs[j]? = some u → ll[j]? = some l → SlI w B u l := by
  obtain ⟨A, c, rfl, h1, h2, h3, h4⟩ := h
  rcases Nat.eq_zero_or_pos ll.length with h0 | hp
  · refine ⟨[], ⟨A, c, by rw [h0]; rfl, by simp, h2, by simp, fun hp => by simp at hp⟩, by rw [h0]; rfl, by simp⟩
  · obtain ⟨b, o, rfl, hb, hc⟩ := h4 hp
    obtain ⟨f, hf⟩ : ∃ f : Nat → Value, ∀ j l, ll[j]? = some l → w.cell? ⟨b, o + j * 1, none⟩ = some (f j) ∧ SlI w B (f j) l := by
      refine ⟨fun j => (w.cell? ⟨b, o + j * 1, none⟩).getD (.slice none 0 0), fun j l hj => ?_⟩
      obtain ⟨a, ha, hs⟩ := hc j l hj
      have e : (fun j => (w.cell? ⟨b, o + j * 1, none⟩).getD (Value.slice none 0 0)) j = a := by show Option.getD _ _ = a; rw [ha]; rfl
      rw [e]
      exact ⟨ha, hs⟩
    refine ⟨(List.range ll.length).map f, ⟨some ⟨b, o, none⟩, c, by simp, by simpa using h1, h2, by simpa using h3, fun _ => ⟨b, o, rfl, hb, fun j u hj => ?_⟩⟩, by simp, fun j u l hj hl => ?_⟩
    · have hjl := lt_of_some hj
      simp only [List.length_map, List.length_range] at hjl
      simp only [List.getElem?_map, List.getElem?_range hjl, Option.map_some, Option.some.injEq] at hj
      subst hj
      obtain ⟨a1, a2⟩ := hf j _ (List.getElem?_eq_getElem hjl)
      exact ⟨a1, SlI.oneC a2⟩
    · have hjl := lt_of_some hl
      simp only [List.getElem?_map, List.getElem?_range hjl, Option.map_some, Option.some.injEq] at hj
      subst hj
      exact (hf j l hl).2
set_option maxHeartbeats 400000 in
/-- rows sorted stably, the cells of which lie in older memory (a place too far reads as the first row) -/
theorem sort_rowsV (g : Nat) (cf : Nat → Nat → Int) (v : Value) (vs : List Value) (ll : List (List Int)) (lo B : Nat) (w : World) (ho : OwnV w lo v vs) (hl : vs.length = ll.length) (hB : B ≤ lo) (hBs : B ≤ w.heap.size)
    (hr : ∀ (j : Nat) (u : Value) (l : List Int), vs[j]? = some u → ll[j]? = some l → SlI w B u l) (h0 : 0 < ll.length) (h20 : ll.length ≤ 20) (hsw : SWO (ltOf cf)) (eg : ∀ args w, (callFunc g args).run Tryz.prog w = .ok (.enter g args) w)
    (hcl : ∀ (W : World) (a b : Value) (i j : Nat), SlI W W.heap.size a (ll.getD i (ll.getD 0 [])) → SlI W W.heap.size b (ll.getD j (ll.getD 0 [])) → Calls Tryz.prog g #[a, b] W fun e w' => e = .returned (.int .i64 (cf i j)) ∧ ∃ q, w' = W.drewN q) :
    Calls Tryz.prog 43 #[v, .func (.func g) #[] #[]] w fun e w' => e = .returned (.tuple #[]) ∧ OwnV w' lo v ((insertionSort (ltOf cf) (rngA ll.length) 0 ll.length).toList.map fun i => vs.getD i (vs.getD 0 (.slice none 0 0))) ∧ w.grownBy w' v.ownBlock := by
  obtain ⟨enc, henc⟩ : ∃ enc : Nat → Value, enc = fun i => vs.getD i (vs.getD 0 (.slice none 0 0)) := ⟨_, rfl⟩
  have hvs : (List.range vs.length).map enc = vs := by
    rw [henc]
    apply List.ext_getElem (by simp)
    intro i h1 h2
    simp [List.getD_eq_getElem?_getD, h2]
  have hrd : ∀ (W : World), Below B w W → ∀ i, SlI W W.heap.size (enc i) (ll.getD i (ll.getD 0 [])) := by
    intro W hFW i
    rw [henc]
    by_cases hi : i < vs.length
    · have := SlI.more (Nat.le_trans hBs hFW.size) (SlI.below hFW (hr i _ _ (List.getElem?_eq_getElem hi) (List.getElem?_eq_getElem (by omega))))
      simpa [List.getD_eq_getElem?_getD, hi, show i < ll.length by omega] using this
    · have e1 : vs[i]? = none := List.getElem?_eq_none (by omega)
      have e2 : ll[i]? = none := List.getElem?_eq_none (by omega)
      have h00 : 0 < vs.length := by omega
      have := SlI.more (Nat.le_trans hBs hFW.size) (SlI.below hFW (hr 0 _ _ (List.getElem?_eq_getElem h00) (List.getElem?_eq_getElem (by omega))))
      simpa [List.getD_eq_getElem?_getD, e1, e2, h00, show 0 < ll.length by omega] using this
  have hO : OneCell enc := by
    intro i
    obtain ⟨A, c, e, _⟩ := hrd w (Below.refl _ _) i
    rw [e]; rfl
  have hown : w.ownsRow lo 24 1 v vs.length ((List.range vs.length).map enc) := by rw [hvs]; exact ho.1
  obtain ⟨g', cap, rfl, hg, hgl, hnc, hcm, _, hH⟩ := Lib.holds_of_ownsRow hown (by
    rintro rfl
    rcases ho.1.2 with ⟨_, h⟩ | ⟨_, _, _, h, _⟩
    · omega
    · cases h)
  have hsz : (rngA vs.length).size = vs.length := by simp [rngA]
  have hgr : ∀ q d os, w.grownBy (sortWorld enc w g' 0 q d os) (some g') := fun q d os => grownBy_sortWorld enc w q g' d os
  have hlg : lo ≤ g' := (ho.lt g' rfl).1
  have hFW : ∀ q d os, Below B w (sortWorld enc w g' 0 q d os) := fun q d os => below_grown (hgr q d os) (fun k hk => by injection hk with hk; omega) hBs
  refine (sortStable20 enc hO cf g g' cap vs.length (rngA vs.length) w hsz eg (fun m os dk hdk x y => hcl _ _ _ x y (hrd _ (hFW m dk os) x) (hrd _ (hFW m dk os) y)) hH hgl (by omega)).mono ?_
  rintro e w' ⟨rfl, n, rfl⟩
  obtain ⟨S, hS⟩ : ∃ S, insertionSort (ltOf cf) (rngA vs.length) 0 vs.length = S := ⟨_, rfl⟩
  have hSs : S.size = vs.length := by rw [← hS, insS_size, hsz]
  have hSp : S.toList.Perm (List.range vs.length) := by
    obtain ⟨⟨_, _, hp⟩, _⟩ := insertionSort_holds (lt := ltOf cf) hsw (rngA vs.length) 0 vs.length (Nat.zero_le _) (by omega)
    rw [hS] at hp
    have e1 : S.extract 0 vs.length = S := Array.extract_eq_self_of_le (by omega)
    have e2 : (rngA vs.length).extract 0 vs.length = rngA vs.length := Array.extract_eq_self_of_le (by omega)
    rw [e1, e2] at hp
    simpa [rngA] using hp
  rw [← hl, hS]
  have hS2 : S.toList.map (fun i => vs.getD i (vs.getD 0 (.slice none 0 0))) = S.toList.map enc := by rw [henc]
  rw [hS2]
  have h1 := Lib.ownsRow_putRow (q := n) (k := vs.length) (ys := S.toList) hown (by simpa using hSs) (Nat.le_refl _)
  rw [List.take_of_length_le (by simp; omega)] at h1
  have e : (S.toList.map enc).length = vs.length := by simp [hSs]
  have e3 : sortWorld enc w g' 0 n S #[] = putRow enc (Sort.ahead w n) g' 0 S.toList.toArray := by unfold sortWorld; rw [grow_empty]
  refine ⟨rfl, ⟨?_, by rw [e]; exact ho.2.1, fun u hu => ?_⟩, hgr _ _ _⟩
  · rw [e, e3]; exact h1
  · obtain ⟨i, _, rfl⟩ := List.mem_map.1 hu
    exact hO i
set_option maxRecDepth 100000 in
set_option maxHeartbeats 800000 in
theorem cloneV_any (u : Value) (vs : List Value) (w : World) (hu : SlV w w.heap.size u vs) (hn : vs.length ≤ 1048576) :
    Calls Tryz.prog 42 #[u] w fun e w' => ∃ v, e = .returned v ∧ OwnV w' w.heap.size v vs ∧ Below w.heap.size w w' := by
  obtain ⟨A, c, rfl, h1, h2, h3, h4⟩ := hu
  have hu : SlV w w.heap.size (.slice A vs.length c) vs := ⟨A, c, rfl, h1, h2, h3, h4⟩
  rcases A with _ | a
  · have h0 : vs = [] := by
      apply List.eq_nil_of_length_eq_zero
      rcases Nat.eq_zero_or_pos vs.length with h | h
      · exact h
      · obtain ⟨b, o, e, _⟩ := h4 h
        cases e
    subst h0
    clear h4 hu
    have hnil : ∀ w, (binOp .eql 25 (.slice none 0 c) (.slice none 0 0)).run Tryz.prog w = .ok (.bool true) w := fun w => Lib.run_eql_slice_nil w _ _ none 0 c 0 0 Tryz.underlying25
    simp only [List.length_nil]
    go_enter Tryz.func42, Tryz.ntmps42
    go_wp2
    go_ret
    exact ⟨_, rfl, ⟨World.ownsRow_nil _ _ _ _, by simp, by simp⟩, Below.refl _ _⟩
  · have hs := SlV.more (below_alloc w (.cells #[] 24)).size (SlV.below (below_alloc w (.cells #[] 24)) hu)
    obtain ⟨n, hnn⟩ : ∃ n, vs.length = n := ⟨_, rfl⟩
    have HS := Lib.hid hs
    rw [hnn]
    clear hu h4 hs
    have HN := Lib.hid hnn
    clear hnn
    have hnil : ∀ w, (binOp .eql 25 (.slice (some a) n c) (.slice none 0 0)).run Tryz.prog w = .ok (.bool false) w := fun w => Lib.run_eql_slice_nil w _ _ (some a) n c 0 0 Tryz.underlying25
    go_enter Tryz.func42, Tryz.ntmps42
    (go_wp2_with (at_builtin; refine Hold.stop ?_)); unfold Hold
    refine wpList_append_freshV rfl (.tmp 5) (.tmp 6) rfl w.heap.size w.heap.size _ #[] rfl (Blk.new _ _ _) rfl (Nat.le_refl _) _ _ _ vs rfl HN.out.symm HS.out hn ?_
    intro v' w' ho hb
    have HO := Lib.hid ho
    have HB := Lib.hid (bthen (below_alloc w (.cells #[] 24)) hb)
    clear ho hb
    go_wp2
    go_ret
    exact ⟨_, rfl, HO.out, HB.out⟩
set_option maxRecDepth 100000 in
set_option maxHeartbeats 800000 in
theorem insSort0_any (A : Option Addr) (c : Nat) (f : Value) (w : World) :
    Calls Tryz.prog 85 #[.slice A 0 c, .int .i64 0, .int .i64 0, f] w fun e w' => e = .returned (.tuple #[]) ∧ w' = w := by
  go_enter Tryz.func85, Tryz.ntmps85
  go_wp2
  refine wp_loop_rounds 1 ?_
  rw [rounds_succ]
  go_wp2
  go_end0
  exact ⟨rfl, rfl⟩
set_option maxRecDepth 100000 in
set_option maxHeartbeats 800000 in
theorem stable0_any (A : Option Addr) (c : Nat) (f : Value) (w : World) :
    Calls Tryz.prog 71 #[.slice A 0 c, .int .i64 0, f] w fun e w' => e = .returned (.tuple #[]) ∧ w' = w := by
  have h1 := insSort0_any A c f w
  go_enter Tryz.func71, Tryz.ntmps71
  go_wp2
  refine wp_loop_rounds 1 ?_
  rw [rounds_succ]
  go_wp2_with fail
  refine h1.mono ?_; rintro e w1 ⟨rfl, hw⟩
  subst hw
  clear h1
  go_wp2
  refine wp_loop_rounds 1 ?_
  rw [rounds_succ]
  go_wp2
  go_end0
  exact ⟨rfl, rfl⟩
set_option maxRecDepth 100000 in
set_option maxHeartbeats 800000 in
theorem sortStable0_any (A : Option Addr) (c : Nat) (f : Value) (w : World) :
    Calls Tryz.prog 43 #[.slice A 0 c, f] w fun e w' => e = .returned (.tuple #[]) ∧ w' = w := by
  have h1 := stable0_any A c f w
  go_enter Tryz.func43, Tryz.ntmps43
  go_wp2_with fail
  refine h1.mono ?_; rintro e w1 ⟨rfl, hw⟩
  subst hw
  clear h1
  go_wp2
  go_end0
  exact ⟨rfl, rfl⟩
end Go.Proofs.YtgabmemalaklbaaGreat

/- ElderBars: the program's, up to the loop over the edges. -/
namespace Go.Proofs.YtgabmemalaklbaaGreat
set_option linter.unusedVariables false
set_option linter.unusedSimpArgs false
open Go.RowKit Go.Sort

theorem BarsO.grownFar {w w' : World} {lo hi g : Nat} {v : Value} {l : List Bar} (h : BarsO w lo hi v l) (hg : w.grownBy w' (some g)) (hlt : g < lo) : BarsO w' lo hi v l := by
  refine ⟨⟨h.1.1.kept hg ?_, h.1.2⟩, h.2⟩
  rcases e : v.ownBlock with _ | k
  · exact .inl rfl
  · right
    intro e2
    injection e2 with e2
    have := (h.1.1.lt k e).1
    omega
/-- the comparison of two edges -/
theorem edgeCmp_any (u v : Value) (x y : List Int) (w : World) (hu : SlI w w.heap.size u x) (hv : SlI w w.heap.size v y) (hx : x.length = 3) (hy : y.length = 3) (rx : -100 ≤ vx x 2 ∧ vx x 2 ≤ 100) (ry : -100 ≤ vx y 2 ∧ vx y 2 ≤ 100) :
    Calls Tryz.prog 44 #[u, v] w fun e w' => e = .returned (.int .i64 (vx x 2 - vx y 2)) ∧ ∃ q, w' = w.drewN q := by
  obtain ⟨A, c, rfl, hA, hn1, _, _⟩ := hu.open_
  obtain ⟨C, d, rfl, hC, hn2, _, _⟩ := hv.open_
  obtain ⟨b1, o1, a, rfl, _, HA, y1, _⟩ := SlI.at_ (k := 2) (by assumption : SlI w w.heap.size (.slice A x.length c) x) (by omega)
  obtain ⟨b2, o2, b, rfl, _, HB, y2, _⟩ := SlI.at_ (k := 2) (by assumption : SlI w w.heap.size (.slice C y.length d) y) (by omega)
  have ea : vx x 2 = a := by rw [vx, List.getD_eq_getElem?_getD, HA.out]; rfl
  have eb : vx y 2 = b := by rw [vx, List.getD_eq_getElem?_getD, HB.out]; rfl
  rw [ea] at rx ⊢
  rw [eb] at ry ⊢
  rw [hx, hy]
  clear hu hv hA hC ea eb hx hy HA HB
  go_enter Tryz.func44, Tryz.ntmps44
  go_wp2_with fail
  go_quiet (fail)
  go_wp2
  go_ret
  exact ⟨rfl, _, rfl⟩
theorem keyE_lt (ll : List (List Int)) : ltOf (fun i j => keyE ll i - keyE ll j) = ltK (keyE ll) := by
  funext i j
  simp only [ltOf, ltK]
  congr 1
  apply propext
  omega
theorem keyE_swo (ll : List (List Int)) : SWO (ltOf (fun i j => keyE ll i - keyE ll j)) := by
  rw [keyE_lt]
  refine ⟨fun x => ?_, fun x y z h k => ?_, fun x y z h k => ?_⟩
  · simp [ltK]
  · simp [ltK] at h k ⊢; omega
  · simp [ltK] at h k ⊢; omega
theorem getD_mem {ll : List (List Int)} (h : 0 < ll.length) (i : Nat) : ll.getD i (ll.getD 0 []) ∈ ll := by
  by_cases hi : i < ll.length
  · simp only [List.getD_eq_getElem?_getD, List.getElem?_eq_getElem hi, Option.getD_some]; exact List.getElem_mem hi
  · simp only [List.getD_eq_getElem?_getD, List.getElem?_eq_none (show ll.length ≤ i by omega), List.getElem?_eq_getElem h, Option.getD_none, Option.getD_some]; exact List.getElem_mem h
/-- the edges in order: a row of the call's own, whose numbers lie in older memory -/
theorem sortEdges_any (v : Value) (vs : List Value) (ll : List (List Int)) (S : Int) (lo B : Nat) (w : World) (ho : OwnV w lo v vs) (hl : vs.length = ll.length) (hB : B ≤ lo) (hBs : B ≤ w.heap.size) (hlo : lo ≤ w.heap.size)
    (hr : ∀ (j : Nat) (u : Value) (l : List Int), vs[j]? = some u → ll[j]? = some l → SlI w B u l) (h20 : ll.length ≤ 8) (hS : 0 ≤ S ∧ S ≤ 5) (he : ∀ e ∈ ll, e.length = 3 ∧ 0 ≤ vx e 2 ∧ vx e 2 ≤ S - 1) :
    Calls Tryz.prog 43 #[v, .func (.func 44) #[] #[]] w fun e w' => e = .returned (.tuple #[]) ∧ SlII w' w'.heap.size v (sortE S ll) ∧ Below lo w w' := by
  rcases Nat.eq_zero_or_pos ll.length with h0 | h0
  · obtain rfl := List.eq_nil_of_length_eq_zero h0
    obtain rfl := List.eq_nil_of_length_eq_zero (show vs.length = 0 by rw [hl]; rfl)
    obtain ⟨A, c, rfl, h1, h2⟩ := ho.form
    refine (sortStable0_any A c _ w).mono ?_
    rintro e w' ⟨rfl, rfl⟩
    refine ⟨rfl, ?_, Below.refl _ _⟩
    have : sortE S [] = [] := by simp [sortE]
    rw [this]
    exact ⟨A, c, rfl, by simp, h2, by simp, fun hp => by simp at hp⟩
  · have eg : ∀ args w, (callFunc 44 args).run Tryz.prog w = .ok (.enter 44 args) w := enters_of Tryz.func44 (by kernel_rfl) rfl
    refine (sort_rowsV 44 (fun i j => keyE ll i - keyE ll j) v vs ll lo B w ho hl hB hBs hr h0 (by omega) (keyE_swo ll) eg (fun W a b i j ha hb => ?_)).mono ?_
    · have hi := he _ (getD_mem h0 i)
      have hj := he _ (getD_mem h0 j)
      exact edgeCmp_any a b _ _ W ha hb hi.1 hj.1 (by omega) (by omega)
    · rintro e w' ⟨rfl, ho', hg⟩
      have hb : Below B w w' := below_grown hg (fun k hk => by have := (ho.lt k hk).1; omega) hBs
      refine ⟨rfl, ?_, below_grown hg (fun k hk => (ho.lt k hk).1) hlo⟩
      rw [keyE_lt] at ho'
      rw [← sortE_eq hS.1 fun e hm => (he e hm).2, srtK]
      have hperm := (srtK_spec (keyE ll) ll.length).1
      refine SlV.ii ho'.rd (by simp) fun j u l hj hl2 => ?_
      have hjl := lt_of_some hj
      rw [List.getElem?_map] at hj hl2
      rcases hx : (insertionSort (ltK (keyE ll)) (rngA ll.length) 0 ll.length).toList[j]? with _ | i
      · rw [hx] at hj; simp at hj
      · rw [hx] at hj hl2
        simp only [Option.map_some, Option.some.injEq] at hj hl2
        have hi : i < ll.length := List.mem_range.1 (hperm.mem_iff.1 (List.mem_of_getElem? hx))
        have e1 : vs[i]? = some u := by
          rw [← hj, List.getD_eq_getElem?_getD, List.getElem?_eq_getElem (show i < vs.length by omega)]; rfl
        have e2 : ll[i]? = some l := by
          rw [← hl2, List.getD_eq_getElem?_getD, List.getElem?_eq_getElem hi]; rfl
        exact SlI.more (Nat.le_trans hBs hb.size) (SlI.below hb (hr i u l e1 e2))
end Go.Proofs.YtgabmemalaklbaaGreat
