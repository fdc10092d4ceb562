/- FnFiltrations: the law holds for every argument. Part 15 of 18 of the proof: InsB, InsC, InsD, CntB. No condition. -/
import Derived.Test.YtgabmemalaklbaaGreatBFiltrations14
import Derived.Shelf.Spec.SlicesInsertGrow
/- slices.Insert of one bar. -/
namespace Go.Proofs.YtgabmemalaklbaaGreat
set_option linter.unusedVariables false
set_option linter.unusedSimpArgs false
open Go.RowKit

theorem run_copy_sz (w : World) (dT sT ty elem : TypeId) (sz b o dLen dCap : Nat) (a : Addr) (sLen sCap : Nat) (cs : List Value)
    (hu : Tryz.prog.underlying dT = some (.slice elem)) (hs : (Tryz.prog.info? elem).map (·.size) = some sz) (hn : cs.length = Nat.min sLen dLen * sz)
    (hsrc : ∀ (j : Nat) v, cs[j]? = some v → w.cell? (a.add j) = some v) (hc : ∀ j, j < cs.length → (w.cell? ⟨b, o + j, none⟩).isSome = true) (hf : ∀ j, j < cs.length → w.frozen? ⟨b, o + j, none⟩ = false) (h1 : ∀ v ∈ cs, v.oneCell' = true) :
    (Builtin.copy_ #[dT, sT] ty #[.slice (some ⟨b, o, none⟩) dLen dCap, .slice (some a) sLen sCap]).run Tryz.prog w = .ok (goInt (Nat.min sLen dLen)) (w.setCells b o cs) := by
  have hl := run_loadCells_list (P := Tryz.prog) w a cs hsrc
  have hst := run_storeCells_cells (P := Tryz.prog) b o cs 0 w (by simpa using hc) (by simpa using hf) h1
  cases hq : Tryz.prog.info? elem with
  | none => simp [hq] at hs
  | some i =>
    have hi : i.size = sz := by simpa [hq] using hs
    simp [Builtin.copy_, run_underlying hu, Builtin.lenOf, Builtin.firstCells, sizeOf, typeInfo, hq, hi, ← hn, hl, hst]
theorem Blk.setCells {g : Nat} {t : TypeId} : ∀ (us : List Value) (o : Nat) (w : World) (cs : Array Value), Blk w g t cs → ∃ cs', Blk (w.setCells g o us) g t cs' ∧ cs'.size = cs.size
  | [], _, _, cs, h => ⟨cs, h, rfl⟩
  | u :: us, o, w, cs, h => by
    obtain ⟨cs', h1, h2⟩ := Blk.setCells us (o + 1) _ _ (h.set_ o u)
    exact ⟨cs', h1, by rw [h2]; simp⟩
theorem below_setCellsB {B b : Nat} {a : World} (hb : B ≤ b) : ∀ (vs : List Value) (o : Nat) (w : World), Below B a w → Below B a (w.setCells b o vs)
  | [], _, _, h => h
  | v :: vs, o, w, h => below_setCellsB hb vs (o + 1) _ (h.setCell hb v)
/-- a row of bars out of its cells -/
theorem BarsO.of_cells {w : World} {lo g c : Nat} {cur : Array Value} {l : List Bar} (hb : Blk w g 70 cur) (hlo : lo ≤ g) (hs : cur.size = c * 3) (hnc : l.length ≤ c) (hc : c ≤ 9223372036854775807) (hn : l.length ≤ 17592186044416) (hi : ∀ x ∈ l, IBar x)
    (hcell : ∀ j v, (barCs l)[j]? = some v → w.cell? ⟨g, j, none⟩ = some v) : BarsO w lo w.heap.size (.slice (some ⟨g, 0, none⟩) l.length c) l := by
  have h := hb.own (base := lo) (n := l.length) (cap := c) (size := 3) hlo hnc (by simp only [maxLen]; omega) hs
  have e : (cur.toList.take (l.length * 3)) = barCs l := by
    apply List.ext_getElem?
    intro j
    have hl := barCs_length l
    by_cases hj : j < l.length * 3
    · rw [List.getElem?_take_of_lt hj]
      have h1 := hcell j _ (List.getElem?_eq_getElem (show j < (barCs l).length by omega))
      rw [hb.cell] at h1
      rw [Array.getElem?_toList, h1, List.getElem?_eq_getElem]
    · rw [List.getElem?_take_eq_none (by omega), List.getElem?_eq_none (by omega)]
  refine ⟨⟨by simpa [e] using h, fun k hk => ?_, hn⟩, hi⟩
  simp only [Value.ownBlock, Option.some.injEq] at hk
  subst hk
  exact hb.lt
theorem overlaps_no (w : World) (g2 g o : Nat) (cs cs2 : Array Value) (lb cb : Nat) (hb : Blk w g 70 cs) (hb2 : Blk w g2 70 cs2) (hne : g2 ≠ g) (h0 : cs.size ≠ 0) :
    (callFunc 89 #[.slice (some ⟨g2, 0, none⟩) 1 1, .slice (some ⟨g, o, none⟩) lb cb]).run Tryz.prog w = .ok (.value (.bool false)) w := by
  rw [run_callFunc_extern (fn := Tryz.f89) (by kernel_rfl) (by kernel_rfl) (by kernel_rfl) (by kernel_rfl) (e := Extern.SlicesOverlaps.overlaps #[37, 37] #[4]) (by kernel_rfl)]
  obtain ⟨i0, hi, hz0, hz1, hz2⟩ := info_parts infoBar
  rw [Lib.run_overlaps_apart w 37 4 70 Tryz.underlying37 3 (fun w => by simp [sizeOf, typeInfo, hi, hz1]) ⟨g2, 0, none⟩ ⟨g, o, none⟩ 1 1 lb cb hne 70 70 cs2.size cs.size (by simp [World.shape?, show w.heap[g2]? = _ from hb2]) (by simp [World.shape?, show w.heap[g]? = _ from hb]) h0 (hb2.frozen 0) (hb2.frozen cs2.size)]
  rfl
def insAt (l : List Bar) (k : Nat) (b : Bar) : List Bar := l.take k ++ b :: l.drop k
set_option maxRecDepth 100000 in
set_option maxHeartbeats 1600000 in
theorem insEnd_any (lo hi : Nat) (v : Value) (l : List Bar) (b : Bar) (g2 : Nat) (w : World) (hv : BarsO w lo hi v l) (hlo : lo ≤ w.heap.size) (hn : l.length ≤ 1000) (hb : IBar b) (hg2 : Blk w g2 70 #[.int .i64 b.1, .int .i64 b.2.1, .int .i64 b.2.2]) :
    Calls Tryz.prog 74 #[v, .int .i64 (l.length : Nat), .slice (some ⟨g2, 0, none⟩) 1 1] w fun e w' => ∃ v', e = .returned v' ∧ BarsO w' lo w'.heap.size v' (l ++ [b]) ∧ Below lo w w' := by
  obtain ⟨A, c, rfl, hnc, hcm⟩ := hv.form
  obtain ⟨n, hnl⟩ : ∃ n, l.length = n := ⟨_, rfl⟩
  rw [hnl] at hv hnc hn ⊢
  have HV := Lib.hid hv
  have HN := Lib.hid hnl
  clear hv hnl
  by_cases hcn : c = n
  · rw [hcn] at HV ⊢
    clear hcn hnc hcm
    go_enter Tryz.func74, Tryz.ntmps74
    (go_wp2_with (at_builtin; refine Hold.stop ?_)); unfold Hold
    refine wpList_appB rfl (.tmp 23) (.tmp 24) rfl lo hi (.slice A n n) l rfl HV.out g2 1 b rfl hg2 hb (by rw [HN.out]; omega) hlo ?_
    intro v' w' ho hb' hg'
    have HO := Lib.hid ho
    clear ho hg'
    go_wp2
    go_ret
    exact ⟨_, rfl, HO.out, hb'⟩
  · go_enter Tryz.func74, Tryz.ntmps74
    (go_wp2_with (at_builtin; refine Hold.stop ?_)); unfold Hold
    refine wpList_appB rfl (.tmp 23) (.tmp 24) rfl lo hi (.slice A n c) l rfl HV.out g2 1 b rfl hg2 hb (by rw [HN.out]; omega) hlo ?_
    intro v' w' ho hb' hg'
    have HO := Lib.hid ho
    clear ho hg'
    go_wp2
    go_ret
    exact ⟨_, rfl, HO.out, hb'⟩
end Go.Proofs.YtgabmemalaklbaaGreat

/- slices.Insert of one bar: in the middle, with room. -/
namespace Go.Proofs.YtgabmemalaklbaaGreat
set_option linter.unusedVariables false
set_option linter.unusedSimpArgs false
open Go.RowKit

theorem barCs_mid {l : List Bar} {k j : Nat} {b : Bar} {u : Value} (hk : k ≤ l.length) (h : (barCs (insAt l k b))[j]? = some u) :
    (j < k * 3 ∧ (barCs l)[j]? = some u) ∨ (k * 3 ≤ j ∧ j < k * 3 + 3 ∧ (barCs [b])[j - k * 3]? = some u) ∨ (k * 3 + 3 ≤ j ∧ (barCs (l.drop k))[j - (k + 1) * 3]? = some u) := by
  have e : barCs (insAt l k b) = barCs (l.take k) ++ (barCs [b] ++ barCs (l.drop k)) := by
    rw [← barCs_append, ← barCs_append]; rfl
  have h1 : (barCs (l.take k)).length = k * 3 := by rw [barCs_length, List.length_take]; omega
  have h2 : (barCs [b]).length = 3 := by rw [barCs_length]; rfl
  rw [e] at h
  by_cases hj : j < k * 3
  · left
    rw [List.getElem?_append_left (by omega)] at h
    refine ⟨hj, ?_⟩
    have e2 : barCs l = barCs (l.take k) ++ barCs (l.drop k) := by rw [← barCs_append, List.take_append_drop]
    rw [e2, List.getElem?_append_left (by omega)]; exact h
  · rw [List.getElem?_append_right (by omega), h1] at h
    by_cases hj2 : j < k * 3 + 3
    · rw [List.getElem?_append_left (by omega)] at h
      exact .inr (.inl ⟨by omega, hj2, h⟩)
    · rw [List.getElem?_append_right (by omega), h2] at h
      exact .inr (.inr ⟨by omega, by rw [show j - (k + 1) * 3 = j - k * 3 - 3 by omega]; exact h⟩)
set_option maxRecDepth 100000 in
set_option maxHeartbeats 1600000 in
theorem insMid_any (lo hi : Nat) (g n c : Nat) (l : List Bar) (k : Nat) (b : Bar) (g2 : Nat) (w : World) (hv : BarsO w lo hi (.slice (some ⟨g, 0, none⟩) n c) l) (hn2 : l.length = n) (hk : k < n) (hroom : n + 1 ≤ c) (hg : hi ≤ g2) (hlo : lo ≤ w.heap.size) (hn : n ≤ 1000) (hb : IBar b) (hg2 : Blk w g2 70 #[.int .i64 b.1, .int .i64 b.2.1, .int .i64 b.2.2]) :
    Calls Tryz.prog 74 #[.slice (some ⟨g, 0, none⟩) n c, .int .i64 k, .slice (some ⟨g2, 0, none⟩) 1 1] w fun e w' => ∃ v', e = .returned v' ∧ BarsO w' lo w'.heap.size v' (insAt l k b) ∧ Below lo w w' := by
  have hmo : Tryz.prog.follows .mixedOrders = true := by kernel_rfl
  obtain ⟨i0, hi', hz0, hz1, hz2⟩ := info_parts infoBar
  have hsz : (Tryz.prog.info? 70).map (·.size) = some 3 := by rw [hi']; simp [hz1]
  have hgl : g < hi := hv.1.2.1 g rfl
  obtain ⟨cur, hB, hcs, hlg, hcm, hcell⟩ : ∃ cur, Blk w g 70 cur ∧ cur.size = c * 3 ∧ lo ≤ g ∧ c ≤ 9223372036854775807 ∧ ∀ j u, (barCs l)[j]? = some u → w.cell? ⟨g, j, none⟩ = some u := by
    have h1 := hv.1.1
    rw [hn2] at h1
    rcases h1.2 with ⟨e, h0⟩ | ⟨g', cap, cur, e, hlg, hg', hnc, hcm, hcs, htake⟩
    · injection e with e1 e2 e3; omega
    · injection e with e1 e2 e3
      injection e1 with e1
      injection e1 with e1 _ _
      subst e1 e3
      refine ⟨cur, hg', hcs, hlg, by simp only [maxLen] at hcm; omega, fun j u hj => ?_⟩
      have hl := barCs_length l
      have := lt_of_some hj
      have hj3 : j < n * 3 := by rw [← hn2, ← hl]; exact this
      rw [h1.cellAt j hj3]; exact hj
  have hdl : (barCs (l.drop k)).length = (n - k) * 3 := by rw [barCs_length, List.length_drop, hn2]
  have hbl : (barCs [b]).length = 3 := by rw [barCs_length]; rfl
  have hsp : ∀ j, j < (n + 1) * 3 → (w.cell? ⟨g, j, none⟩).isSome = true := fun j hj => by rw [hB.cell, Array.getElem?_eq_getElem (by omega)]; rfl
  have hne : g2 ≠ g := by omega
  have hov : ∀ o lb cb, (callFunc 89 #[.slice (some ⟨g2, 0, none⟩) 1 1, .slice (some ⟨g, o, none⟩) lb cb]).run Tryz.prog w = .ok (.value (.bool false)) w := fun o lb cb => overlaps_no w g2 g o cur _ lb cb hB hg2 hne (by omega)
  obtain ⟨W1, hW1⟩ : ∃ W1, W1 = w.drew.setCells g ((k + 1) * 3) (barCs (l.drop k)) := ⟨_, rfl⟩
  have hcp1 : ∀ ty dl dc sl sc, dl = n - k → sl = n + 1 - k → (Builtin.copy_ #[37, 37] ty #[.slice (some ⟨g, (k + 1) * 3, none⟩) dl dc, .slice (some ⟨g, k * 3, none⟩) sl sc]).run Tryz.prog w.drew = .ok (goInt (Nat.min sl dl)) W1 := fun ty dl dc sl sc h1 h2 => by
    rw [hW1]
    refine run_copy_sz w.drew _ _ ty 70 3 g ((k + 1) * 3) dl dc ⟨g, k * 3, none⟩ sl sc (barCs (l.drop k)) Tryz.underlying37 hsz (by rw [hdl]; show (n - k) * 3 = min sl dl * 3; rw [Nat.min_eq_right (show dl ≤ sl by omega), h1]) (fun j v hj => ?_) (fun j hj => ?_) (fun j _ => hB.frozen _) (barCs_oneCell _)
    · rw [Addr.add_lit]
      refine hcell (k * 3 + j) v ?_
      have e2 : barCs l = barCs (l.take k) ++ barCs (l.drop k) := by rw [← barCs_append, List.take_append_drop]
      have e3 : (barCs (l.take k)).length = k * 3 := by rw [barCs_length, List.length_take]; omega
      rw [e2, List.getElem?_append_right (by omega), e3, Nat.add_sub_cancel_left]
      exact hj
    · exact hsp _ (by omega)
  have hB1 : ∃ cur1, Blk W1 g 70 cur1 ∧ cur1.size = c * 3 := by
    obtain ⟨cur1, h1, h2⟩ := Blk.setCells (barCs (l.drop k)) ((k + 1) * 3) w.drew cur hB
    exact ⟨cur1, by rw [hW1]; exact h1, by rw [h2, hcs]⟩
  obtain ⟨cur1, hB1, hcs1⟩ := hB1
  have hg21 : ∀ j u, (barCs [b])[j]? = some u → W1.cell? ⟨g2, j, none⟩ = some u := fun j u hj => by
    rw [hW1, World.cell?_setCells_out _ _ _ _ _ (fun h _ => absurd h hne)]
    have hg2' : Blk w.drew g2 70 #[.int .i64 b.1, .int .i64 b.2.1, .int .i64 b.2.2] := hg2
    rw [hg2'.cell]
    have hj3 := lt_of_some hj
    rw [hbl] at hj3
    match j, hj with
    | 0, hj => exact hj
    | 1, hj => exact hj
    | 2, hj => exact hj
    | j + 3, hj => omega
  have hcp2 : ∀ ty dl dc, 1 ≤ dl → (Builtin.copy_ #[37, 37] ty #[.slice (some ⟨g, k * 3, none⟩) dl dc, .slice (some ⟨g2, 0, none⟩) 1 1]).run Tryz.prog W1 = .ok (goInt (Nat.min 1 dl)) (W1.setCells g (k * 3) (barCs [b])) := fun ty dl dc h1 => by
    refine run_copy_sz W1 _ _ ty 70 3 g (k * 3) dl dc ⟨g2, 0, none⟩ 1 1 (barCs [b]) Tryz.underlying37 hsz (by rw [hbl]; show 3 = min 1 dl * 3; rw [Nat.min_eq_left h1]) (fun j v hj => by rw [Addr.add_lit, Nat.zero_add]; exact hg21 j v hj) (fun j hj => ?_) (fun j _ => hB1.frozen _) (barCs_oneCell _)
    rw [hbl] at hj
    rw [hB1.cell, Array.getElem?_eq_getElem (by omega)]; rfl
  have hfin : Hid (BarsO (W1.setCells g (k * 3) (barCs [b])) lo (W1.setCells g (k * 3) (barCs [b])).heap.size (.slice (some ⟨g, 0, none⟩) (n + 1) c) (insAt l k b) ∧ Below lo w (W1.setCells g (k * 3) (barCs [b]))) := by
    obtain ⟨cur2, h2, h3⟩ := Blk.setCells (barCs [b]) (k * 3) W1 cur1 hB1
    have hil : (insAt l k b).length = n + 1 := by simp [insAt]; omega
    constructor
    · rw [← hil]
      refine BarsO.of_cells h2 hlg (by rw [h3, hcs1]) (by omega) hcm (by omega) (fun x hx => ?_) (fun j u hj => ?_)
      · rcases List.mem_append.1 hx with hx | hx
        · exact hv.2 x (List.mem_of_mem_take hx)
        · rcases List.mem_cons.1 hx with rfl | hx
          · exact hb
          · exact hv.2 x (List.mem_of_mem_drop hx)
      · have hs1 : ∀ i, i < (barCs (l.drop k)).length → (w.drew.cell? ⟨g, (k + 1) * 3 + i, none⟩).isSome = true := fun i hi => hsp _ (by omega)
        have hs2 : ∀ i, i < (barCs [b]).length → (W1.cell? ⟨g, k * 3 + i, none⟩).isSome = true := fun i hi => by rw [hB1.cell, Array.getElem?_eq_getElem (by omega)]; rfl
        rcases barCs_mid (by omega) hj with ⟨hj1, h⟩ | ⟨hj1, hj2, h⟩ | ⟨hj1, h⟩
        · rw [World.cell?_setCells_out _ _ _ _ _ (fun _ _ => .inl (by show j < k * 3; omega)), hW1, World.cell?_setCells_out _ _ _ _ _ (fun _ _ => .inl (by show j < (k + 1) * 3; omega))]
          exact hcell j u h
        · have := World.cell?_setCells_in g (barCs [b]) (k * 3) W1 hs2 (j - k * 3) (by omega)
          rw [show k * 3 + (j - k * 3) = j by omega] at this
          rw [this, ← h, List.getElem?_eq_getElem]
        · rw [World.cell?_setCells_out _ _ _ _ _ (fun _ _ => .inr (by show k * 3 + (barCs [b]).length ≤ j; omega)), hW1]
          have hjl := lt_of_some h
          have := World.cell?_setCells_in g (barCs (l.drop k)) ((k + 1) * 3) w.drew hs1 (j - (k + 1) * 3) hjl
          rw [show (k + 1) * 3 + (j - (k + 1) * 3) = j by omega] at this
          rw [this, ← h, List.getElem?_eq_getElem]
    · refine below_setCellsB hlg _ _ _ ?_
      rw [hW1]
      exact below_setCellsB hlg _ _ _ (below_drewN (Below.refl _ _) 1)
  have HFIN := hfin
  have hcp2a := fun ty => hcp2 ty (n + 1 - k) (c - k) (by omega)
  clear hcp2
  have hz1' : ¬ ((k : Int) = (n : Int)) := by omega
  have hw1 : IntKind.i64.wrap ((k : Int) + 1) = (k : Int) + 1 := by rw [IntKind.wrap_i64]; omega
  have hb1 : (0 : Int) ≤ (k : Int) + 1 := by omega
  have htn : ((k : Int) + 1).toNat = k + 1 := by omega
  have hb2 : ¬ (c = k + 1) := by omega
  have hb3 : (k : Int) ≤ (n : Int) + 1 := by omega
  have hb4 : ¬ (c = k) := by omega
  have hkn : k ≤ n := by omega
  clear hW1 hfin hg21 hB1 hcs1 hsp hdl hbl hcell hB hcs hsz hz0 hz1 hz2 hi' hv hn2
  go_enter Tryz.func74, Tryz.ntmps74
  go_wp2_with (simp only [hov])
  go_region_law_o (refine step_copy_runI rfl _ _ 37 37 rfl _ _ (by simp [Act.eval, Act.put]) (by simp [Act.eval, Act.put]) (hcp1 _ _ _ _ _ (by omega) (by omega)) ?_)
  go_wp2_with (at_builtin; refine wpList_copy_runI _ rfl _ _ 37 37 rfl _ _ rfl rfl (hcp2a _) ?_)
  go_ret
  exact ⟨_, rfl, HFIN.out.1, HFIN.out.2⟩
end Go.Proofs.YtgabmemalaklbaaGreat

/- slices.Insert of one bar: in the middle, without room; all cases together. -/
namespace Go.Proofs.YtgabmemalaklbaaGreat
set_option linter.unusedVariables false
set_option linter.unusedSimpArgs false
open Go.RowKit

set_option maxRecDepth 100000 in
set_option maxHeartbeats 1600000 in
theorem insGrow_any (lo hi : Nat) (g n c : Nat) (l : List Bar) (k : Nat) (b : Bar) (g2 : Nat) (w : World) (hv : BarsO w lo hi (.slice (some ⟨g, 0, none⟩) n c) l) (hn2 : l.length = n) (hk : k < n) (hroom : c < n + 1) (hlo : lo ≤ w.heap.size) (hn : n ≤ 1000) (hb : IBar b) (hg2 : Blk w g2 70 #[.int .i64 b.1, .int .i64 b.2.1, .int .i64 b.2.2]) :
    Calls Tryz.prog 74 #[.slice (some ⟨g, 0, none⟩) n c, .int .i64 k, .slice (some ⟨g2, 0, none⟩) 1 1] w fun e w' => ∃ v', e = .returned v' ∧ BarsO w' lo w'.heap.size v' (insAt l k b) ∧ Below lo w w' := by
  have hmo : Tryz.prog.follows .mixedOrders = true := by kernel_rfl
  obtain ⟨i0, hi', hz0, hz1, hz2⟩ := info_parts infoBar
  have hsz : (Tryz.prog.info? 70).map (·.size) = some 3 := by rw [hi']; simp [hz1]
  obtain ⟨cur, hB, hnc, hcell⟩ : ∃ cur, Blk w g 70 cur ∧ n ≤ c ∧ ∀ j u, (barCs l)[j]? = some u → w.cell? ⟨g, j, none⟩ = some u := by
    have h1 := hv.1.1
    rw [hn2] at h1
    rcases h1.2 with ⟨e, h0⟩ | ⟨g', cap, cur, e, hlg, hg', hnc, hcm, hcs, htake⟩
    · injection e with e1 e2 e3; omega
    · injection e with e1 e2 e3
      injection e1 with e1
      injection e1 with e1 _ _
      subst e1 e3
      refine ⟨cur, hg', hnc, fun j u hj => ?_⟩
      have hl := barCs_length l
      have := lt_of_some hj
      have hj3 : j < n * 3 := by rw [← hn2, ← hl]; exact this
      rw [h1.cellAt j hj3]; exact hj
  have hgw := hB.lt
  have hg2w := hg2.lt
  have hcl : (barCs l).length = n * 3 := by rw [barCs_length, hn2]
  have htl : (barCs (l.take k)).length = k * 3 := by rw [barCs_length, List.length_take]; omega
  have hdl : (barCs (l.drop k)).length = (n - k) * 3 := by rw [barCs_length, List.length_drop, hn2]
  have hbl : (barCs [b]).length = 3 := by rw [barCs_length]; rfl
  have esp : barCs l = barCs (l.take k) ++ barCs (l.drop k) := by rw [← barCs_append, List.take_append_drop]
  have hold : (Builtin.firstCells i0.size k (.slice (some ⟨g, 0, none⟩) k c)).run Tryz.prog w.drew = .ok (barCs (l.take k)).toArray w.drew := by
    rw [hz1]
    exact run_firstCells_some w.drew 3 k ⟨g, 0, none⟩ k c (barCs (l.take k)) (by rw [htl]) fun j v hj => by
      rw [Addr.add_lit, Nat.zero_add]
      refine hcell j v ?_
      rw [esp, List.getElem?_append_left (lt_of_some hj)]; exact hj
  obtain ⟨G, hG⟩ : ∃ G, G = grownCap w (n + 1) c 70 := ⟨_, rfl⟩
  obtain ⟨ROW, hROW⟩ : ∃ ROW : Array Value, ROW = (barCs (l.take k)).toArray ++ Builtin.zeroCells (Value.agg #[.int .i64 0, .int .i64 0, .int .i64 0]).cells (n + 1 - k) ++ Builtin.zeroCells (Value.agg #[.int .i64 0, .int .i64 0, .int .i64 0]).cells (G - (n + 1)) := ⟨_, rfl⟩
  have hrz : ∀ ty, (Builtin.append_ #[37, 3] ty #[.slice (some ⟨g, 0, none⟩) k c, .int .i64 ((n : Int) + 1 - (k : Int))]).run Tryz.prog w =
      .ok (.slice (some ⟨w.heap.size, 0, none⟩) (n + 1) G) (w.drew.alloc (.cells ROW 70)) := fun ty => by
    have hik : k + (n + 1 - k) = n + 1 := by omega
    have h := Lib.run_append_grow_zeros w 37 3 ty 70 i0 _ .i64 .i64 Tryz.underlying37 Tryz.underlying3 hi' hz0 (some ⟨g, 0, none⟩) k c (barCs (l.take k)) hold (n + 1 - k) (by omega) (by omega) (by omega) (by omega) (by rw [hz2]; omega) (by rw [hz2, hik]; exact growslice_fits hroom (by omega))
    rw [hik, ← hG, ← hROW] at h
    rw [show (n : Int) + 1 - (k : Int) = ((n + 1 - k : Nat) : Int) by omega]
    exact h
  have hGn : n + 1 ≤ G := by rw [hG]; exact grownCap_ge w _ _ _
  have hG63 : G ≤ 9223372036854775807 := by
    have := grownCap_le_maxLen w (n + 1) c 70 (by unfold maxLen; omega)
    rw [← hG] at this
    unfold maxLen at this
    omega
  have hRs : ROW.size = G * 3 := by
    have : ∀ m, (Builtin.zeroCells (Value.agg #[.int .i64 0, .int .i64 0, .int .i64 0]).cells m).size = m * 3 := fun m => by simp [Builtin.zeroCells, Value.cells]
    rw [hROW, Array.size_append, Array.size_append, this, this]
    simp only [List.size_toArray, htl]
    omega
  have hRt : ∀ j u, (barCs (l.take k))[j]? = some u → ROW[j]? = some u := fun j u hj => by
    have := lt_of_some hj
    rw [hROW, Array.getElem?_append_left (by simp; omega), Array.getElem?_append_left (by simpa using this)]
    simpa using hj
  obtain ⟨W1, hW1⟩ : ∃ W1, W1 = w.drew.alloc (.cells ROW 70) := ⟨_, rfl⟩
  have hB1 : Blk W1 w.heap.size 70 ROW := by rw [hW1]; exact Blk.new w.drew _ _
  have b1 : Below w.heap.size w W1 := by rw [hW1]; exact (below_drewN (Below.refl _ _) 1).alloc (Nat.le_refl _) _
  have hcpA : ∀ ty dl dc, 1 ≤ dl → (Builtin.copy_ #[37, 37] ty #[.slice (some ⟨w.heap.size, k * 3, none⟩) dl dc, .slice (some ⟨g2, 0, none⟩) 1 1]).run Tryz.prog W1 = .ok (goInt (Nat.min 1 dl)) (W1.setCells w.heap.size (k * 3) (barCs [b])) := fun ty dl dc h1 => by
    refine run_copy_sz W1 _ _ ty 70 3 w.heap.size (k * 3) dl dc ⟨g2, 0, none⟩ 1 1 (barCs [b]) Tryz.underlying37 hsz (by rw [hbl]; show 3 = min 1 dl * 3; rw [Nat.min_eq_left h1]) (fun j v hj => ?_) (fun j hj => ?_) (fun j _ => hB1.frozen _) (barCs_oneCell _)
    · rw [Addr.add_lit, Nat.zero_add, (hg2.call b1).cell]
      have hj3 := lt_of_some hj
      rw [hbl] at hj3
      match j, hj with
      | 0, hj => exact hj
      | 1, hj => exact hj
      | 2, hj => exact hj
      | j + 3, hj => omega
    · rw [hbl] at hj
      rw [hB1.cell, Array.getElem?_eq_getElem (by omega)]; rfl
  obtain ⟨cur2, hB2, hcs2⟩ := Blk.setCells (barCs [b]) (k * 3) W1 ROW hB1
  obtain ⟨W2, hW2⟩ : ∃ W2, W2 = W1.setCells w.heap.size (k * 3) (barCs [b]) := ⟨_, rfl⟩
  rw [← hW2] at hB2
  have hW2c : ∀ j u, (barCs (l.drop k))[j]? = some u → W2.cell? ⟨g, k * 3 + j, none⟩ = some u := fun j u hj => by
    rw [hW2, World.cell?_setCells_out _ _ _ _ _ (fun h _ => absurd h (by show g ≠ w.heap.size; omega))]
    refine bcell b1 hgw (hcell _ _ ?_)
    rw [esp, List.getElem?_append_right (by omega), htl, Nat.add_sub_cancel_left]; exact hj
  have hcpB : ∀ ty dl dc sl sc, dl = n - k → sl = n - k → (Builtin.copy_ #[37, 37] ty #[.slice (some ⟨w.heap.size, (k + 1) * 3, none⟩) dl dc, .slice (some ⟨g, k * 3, none⟩) sl sc]).run Tryz.prog W2.drew = .ok (goInt (Nat.min sl dl)) (W2.drew.setCells w.heap.size ((k + 1) * 3) (barCs (l.drop k))) := fun ty dl dc sl sc h1 h2 => by
    have hB2' : Blk W2.drew w.heap.size 70 cur2 := hB2
    refine run_copy_sz W2.drew _ _ ty 70 3 w.heap.size ((k + 1) * 3) dl dc ⟨g, k * 3, none⟩ sl sc (barCs (l.drop k)) Tryz.underlying37 hsz (by rw [hdl]; show (n - k) * 3 = min sl dl * 3; rw [Nat.min_eq_right (show dl ≤ sl by omega), h1]) (fun j v hj => by rw [Addr.add_lit]; exact hW2c j v hj) (fun j hj => ?_) (fun j _ => hB2'.frozen _) (barCs_oneCell _)
    rw [hB2'.cell, Array.getElem?_eq_getElem (by omega)]; rfl
  have HFIN : Hid (BarsO (W2.drew.setCells w.heap.size ((k + 1) * 3) (barCs (l.drop k))) lo (W2.drew.setCells w.heap.size ((k + 1) * 3) (barCs (l.drop k))).heap.size (.slice (some ⟨w.heap.size, 0, none⟩) (n + 1) G) (insAt l k b) ∧ Below lo w (W2.drew.setCells w.heap.size ((k + 1) * 3) (barCs (l.drop k)))) := by
    have hB2' : Blk W2.drew w.heap.size 70 cur2 := hB2
    obtain ⟨cur3, h2, h3⟩ := Blk.setCells (barCs (l.drop k)) ((k + 1) * 3) W2.drew cur2 hB2'
    have hil : (insAt l k b).length = n + 1 := by simp [insAt]; omega
    constructor
    · rw [← hil]
      refine BarsO.of_cells h2 hlo (by rw [h3, hcs2, hRs]) (by omega) hG63 (by omega) (fun x hx => ?_) (fun j u hj => ?_)
      · rcases List.mem_append.1 hx with hx | hx
        · exact hv.2 x (List.mem_of_mem_take hx)
        · rcases List.mem_cons.1 hx with rfl | hx
          · exact hb
          · exact hv.2 x (List.mem_of_mem_drop hx)
      · have hs1 : ∀ i, i < (barCs (l.drop k)).length → (W2.drew.cell? ⟨w.heap.size, (k + 1) * 3 + i, none⟩).isSome = true := fun i hi => by rw [hB2'.cell, Array.getElem?_eq_getElem (by omega)]; rfl
        have hs2 : ∀ i, i < (barCs [b]).length → (W1.cell? ⟨w.heap.size, k * 3 + i, none⟩).isSome = true := fun i hi => by rw [hB1.cell, Array.getElem?_eq_getElem (by omega)]; rfl
        have hd : ∀ x, W2.drew.cell? x = W2.cell? x := fun _ => rfl
        have hm : (j < k * 3 ∧ (barCs (l.take k))[j]? = some u) ∨ (k * 3 ≤ j ∧ j < k * 3 + 3 ∧ (barCs [b])[j - k * 3]? = some u) ∨ (k * 3 + 3 ≤ j ∧ (barCs (l.drop k))[j - (k + 1) * 3]? = some u) := by
          rcases barCs_mid (by omega) hj with ⟨hj1, h⟩ | h
          · rw [esp, List.getElem?_append_left (by omega)] at h
            exact .inl ⟨hj1, h⟩
          · exact .inr h
        rcases hm with ⟨hj1, h⟩ | ⟨hj1, hj2, h⟩ | ⟨hj1, h⟩
        · rw [World.cell?_setCells_out _ _ _ _ _ (fun _ _ => .inl (by show j < (k + 1) * 3; omega)), hd, hW2, World.cell?_setCells_out _ _ _ _ _ (fun _ _ => .inl (by show j < k * 3; omega)), hB1.cell]
          exact hRt j u h
        · rw [World.cell?_setCells_out _ _ _ _ _ (fun _ _ => .inl (by show j < (k + 1) * 3; omega)), hd, hW2]
          have := World.cell?_setCells_in w.heap.size (barCs [b]) (k * 3) W1 hs2 (j - k * 3) (by omega)
          rw [show k * 3 + (j - k * 3) = j by omega] at this
          rw [this, ← h, List.getElem?_eq_getElem]
        · have hjl := lt_of_some h
          have := World.cell?_setCells_in w.heap.size (barCs (l.drop k)) ((k + 1) * 3) W2.drew hs1 (j - (k + 1) * 3) hjl
          rw [show (k + 1) * 3 + (j - (k + 1) * 3) = j by omega] at this
          rw [this, ← h, List.getElem?_eq_getElem]
    · refine below_setCellsB hlo _ _ _ ?_
      refine below_drewN (n := 1) ?_
      rw [hW2]
      exact below_setCellsB hlo _ _ _ (b1.mono hlo)
  have hcpAa := fun ty => hcpA ty (n + 1 - k) (G - k) (by omega)
  rw [← hW2] at hcpAa
  have hz1' : ¬ ((k : Int) = (n : Int)) := by omega
  have hz3 : (c : Int) < (n : Int) + 1 := by omega
  have hw1 : IntKind.i64.wrap ((k : Int) + 1) = (k : Int) + 1 := by rw [IntKind.wrap_i64]; omega
  have hb1 : (0 : Int) ≤ (k : Int) + 1 := by omega
  have htn : ((k : Int) + 1).toNat = k + 1 := by omega
  have hb3 : (k : Int) ≤ (n : Int) := by omega
  have hGi : ¬ (G = k) := by omega
  have hGim : ¬ (G = k + 1) := by omega
  have hci : ¬ (c = k) := by omega
  have hb4 : (k : Int) ≤ (n : Int) + 1 := by omega
  rw [← hW1] at hrz
  clear hW1 hW2 hW2c hB1 hB2 hcs2 hRt hRs hROW hG hcpA hold esp hbl hdl htl hcl hcell hB hsz hz0 hz1 hz2 hi' hv hn2 b1
  go_enter Tryz.func74, Tryz.ntmps74
  go_wp2_with (first
    | (at_builtin; refine Lib.wpList_append_run _ rfl _ _ _ _ rfl _ _ rfl rfl _ _ (hrz _) ?_)
    | (at_builtin; refine wpList_copy_runI _ rfl _ _ 37 37 rfl _ _ rfl rfl (hcpAa _) ?_))
  go_region_law_o (refine step_copy_runI rfl _ _ 37 37 rfl _ _ (by simp [Act.eval, Act.put]) (by simp [Act.eval, Act.put]) (hcpB _ _ _ _ _ (by omega) (by omega)) ?_)
  go_wp2
  go_ret
  exact ⟨_, rfl, HFIN.out.1, HFIN.out.2⟩
theorem insert_any (lo hi : Nat) (v : Value) (l : List Bar) (k : Nat) (b : Bar) (g2 : Nat) (w : World) (hv : BarsO w lo hi v l) (hk : k ≤ l.length) (hg : hi ≤ g2) (hlo : lo ≤ w.heap.size) (hn : l.length ≤ 1000) (hb : IBar b) (hg2 : Blk w g2 70 #[.int .i64 b.1, .int .i64 b.2.1, .int .i64 b.2.2]) :
    Calls Tryz.prog 74 #[v, .int .i64 k, .slice (some ⟨g2, 0, none⟩) 1 1] w fun e w' => ∃ v', e = .returned v' ∧ BarsO w' lo w'.heap.size v' (insAt l k b) ∧ Below lo w w' := by
  by_cases he : k = l.length
  · subst he
    have h := insEnd_any lo hi v l b g2 w hv hlo hn hb hg2
    rw [show insAt l l.length b = l ++ [b] by simp [insAt]]
    exact h
  · obtain ⟨A, c, rfl, hnc, hcm⟩ := hv.form
    obtain ⟨g, rfl⟩ : ∃ g, A = some ⟨g, 0, none⟩ := by
      rcases hv.1.1.2 with ⟨e, h0⟩ | ⟨g', cap, cur, e, _⟩
      · injection e with e1 e2 e3; omega
      · injection e with e1 e2 e3; exact ⟨g', e1⟩
    obtain ⟨n, hn2⟩ : ∃ n, l.length = n := ⟨_, rfl⟩
    rw [hn2] at hv hnc hn he hk ⊢
    by_cases hr : n + 1 ≤ c
    · exact insMid_any lo hi g n c l k b g2 w hv hn2 (by omega) hr hg hlo hn hb hg2
    · exact insGrow_any lo hi g n c l k b g2 w hv hn2 (by omega) (by omega) hlo hn hb hg2
end Go.Proofs.YtgabmemalaklbaaGreat

/- countBars. -/
namespace Go.Proofs.YtgabmemalaklbaaGreat
set_option linter.unusedVariables false
set_option linter.unusedSimpArgs false
open Go.RowKit

theorem bsK_cons_lt {x b : Bar} {r : List Bar} (h : cmpB x b < 0) : bsK (x :: r) b = bsK r b + 1 := by
  rw [bsK, List.takeWhile_cons, if_pos (decide_eq_true h), List.length_cons]; rfl
theorem bsK_cons_ge {x b : Bar} {r : List Bar} (h : ¬ cmpB x b < 0) : bsK (x :: r) b = 0 := by
  rw [bsK, List.takeWhile_cons, if_neg (by simpa using h)]; rfl
theorem bsK_le (b : Bar) : ∀ l : List Bar, bsK l b ≤ l.length
  | [] => Nat.le_refl _
  | x :: r => by
    by_cases h : cmpB x b < 0
    · rw [bsK_cons_lt h]; have := bsK_le b r; simp; omega
    · rw [bsK_cons_ge h]; omega
theorem bsF_t {l : List Bar} {b : Bar} (h : bsBF l b = true) : ∃ x, l[bsK l b]? = some x ∧ cmpB x b = 0 := by
  rw [bsBF] at h
  rcases hx : l[bsK l b]? with _ | x
  · rw [hx] at h; cases h
  · rw [hx] at h; exact ⟨x, rfl, by simpa using h⟩
/-- one more bar: at its place -/
theorem cbIns_yes {b : Bar} : ∀ {l : List Bar} {x : Bar}, l[bsK l b]? = some x → cmpB x b = 0 → cbIns l b = l.set (bsK l b) (x.1, x.2.1, x.2.2 + 1)
  | [], x, h, _ => by simp at h
  | y :: r, x, h, h0 => by
    by_cases hy : cmpB y b < 0
    · rw [bsK_cons_lt hy] at h ⊢
      rw [cbIns, if_pos hy, List.set_cons_succ, cbIns_yes (l := r) (x := x) (by simpa using h) h0]
    · rw [bsK_cons_ge hy] at h ⊢
      simp at h
      subst h
      rw [cbIns, if_neg hy, if_pos h0, List.set_cons_zero]
theorem cbIns_no {b : Bar} : ∀ {l : List Bar}, bsBF l b = false → cbIns l b = insAt l (bsK l b) (b.1, b.2.1, 1)
  | [], _ => rfl
  | y :: r, h => by
    by_cases hy : cmpB y b < 0
    · have hr : bsBF r b = false := by
        rw [bsBF, bsK_cons_lt hy] at h
        rw [bsBF]
        simpa using h
      rw [bsK_cons_lt hy, cbIns, if_pos hy, cbIns_no hr]
      rfl
    · rw [bsK_cons_ge hy, cbIns, if_neg hy, if_neg]
      · rfl
      · rw [bsBF, bsK_cons_ge hy] at h
        simpa using h
theorem barCs_set3 : ∀ {xs : List Bar} {j : Nat} {x : Bar}, xs[j]? = some x → ∀ z : Int, (barCs xs).set (j * 3 + 2) (.int .i64 z) = barCs (xs.set j (x.1, x.2.1, z))
  | [], j, x, h, _ => by simp at h
  | y :: ys, 0, x, h, z => by simp at h; subst h; rfl
  | y :: ys, j + 1, x, h, z => by
    have := barCs_set3 (xs := ys) (j := j) (x := x) (by simpa using h) z
    simp only [barCs, show (j + 1) * 3 + 2 = (j * 3 + 2) + 1 + 1 + 1 by omega, List.set_cons_succ, this]
theorem BarsO.setN {w : World} {lo hi g n c j : Nat} {l : List Bar} {x : Bar} {z : Int} (h : BarsO w lo hi (.slice (some ⟨g, 0, none⟩) n c) l) (hn : l.length = n) (hx : l[j]? = some x) (hz : I64 z) :
    BarsO (w.setCell ⟨g, j * 3 + 2, none⟩ (.int .i64 z)) lo hi (.slice (some ⟨g, 0, none⟩) n c) (l.set j (x.1, x.2.1, z)) := by
  subst hn
  have h1 := (h.1.stored (j * 3 + 2) (.int .i64 z)).1
  rw [barCs_set3 hx z] at h1
  refine ⟨by rw [List.length_set]; exact h1, fun y hy => ?_⟩
  rcases List.mem_or_eq_of_mem_set hy with hy | rfl
  · exact h.2 y hy
  · have := h.2 x (List.mem_of_getElem? hx)
    exact ⟨this.1, this.2.1, hz⟩
theorem BarsO.cell2 {w : World} {lo hi j : Nat} {v : Value} {l : List Bar} {x : Bar} (h : BarsO w lo hi v l) (hx : l[j]? = some x) : ∃ g c, v = .slice (some ⟨g, 0, none⟩) l.length c ∧ lo ≤ g ∧ w.cell? ⟨g, j * 3 + 2, none⟩ = some (.int .i64 x.2.2) ∧ (∀ i, w.frozen? ⟨g, i, none⟩ = false) ∧ l.length ≤ c := by
  have hl := barCs_length l
  have hj := lt_of_some hx
  have h1 := h.1.1
  rcases h1.2 with ⟨e, h0⟩ | ⟨g, cap, cur, rfl, hlo, hg, hnc, hcm, hcs, htk⟩
  · omega
  · have hB : Blk w g 70 cur := hg
    refine ⟨g, cap, rfl, hlo, ?_, hB.frozen, hnc⟩
    rw [h1.cellAt (j * 3 + 2) (by omega)]
    exact (barCs_get hx).2.2
theorem cntB_le (v w : Int) : ∀ L : List Bar, cntB L v w ≤ L.length
  | [] => by rw [cntB_nil]; simp
  | b :: L => by
    have := cntB_le v w L
    rw [cntB_cons, List.length_cons]
    split <;> omega
theorem cbAll_ok (L : List Bar) : srtB (cbAll L) ∧ (cbAll L).length ≤ L.length ∧ ∀ x ∈ cbAll L, 0 < x.2.2 ∧ x.2.2 ≤ L.length := by
  obtain ⟨h1, h2, h3⟩ := fold_ins L [] (by simp [srtB]) (by intro x hx; simp at hx)
  refine ⟨h1, ?_, fun x hx => ⟨h2 x hx, ?_⟩⟩
  · have : ∀ (L l : List Bar), (L.foldl cbIns l).length ≤ l.length + L.length := by
      intro L
      induction L with
      | nil => intro l; simp
      | cons b L ih =>
        intro l
        have h1 := ih (cbIns l b)
        have h2 := ins_len b l
        rw [List.foldl_cons, List.length_cons]; omega
    have := this L []
    rw [List.length_nil, Nat.zero_add] at this
    exact this
  · have := ((look_mem h1 h2 x).1 hx).1
    rw [h3, look_nil, Int.zero_add] at this
    rw [← this]
    exact cntB_le _ _ _
theorem cbAll_snoc (L : List Bar) (b : Bar) : cbAll (L ++ [b]) = cbIns (cbAll L) b := by simp [cbAll]
set_option maxRecDepth 100000 in
set_option maxHeartbeats 3200000 in
theorem countBars_any (u : Value) (L : List Bar) (w : World) (hu : SlB w w.heap.size u L) (hn : L.length ≤ 1000) :
    Calls Tryz.prog 45 #[u] w fun e w' => ∃ v, e = .returned v ∧ BarsO w' w.heap.size w'.heap.size v (cbAll L) ∧ Below w.heap.size w w' := by
  obtain ⟨A, c, rfl, hx⟩ : ∃ A c, u = .slice A L.length c ∧ SlB w w.heap.size (.slice A L.length c) L := by
    obtain ⟨A, c, e, h⟩ := hu
    exact ⟨A, c, e, A, c, rfl, h⟩
  clear hu
  go_enter Tryz.func45, Tryz.ntmps45
  go_wp2
  go_loopw [3, 5, 6, 7, 10] (fun o _ _ _ i wr => ∃ k : Nat, k ≤ L.length ∧ i = .int .i64 k ∧ BarsO wr w.heap.size wr.heap.size o (cbAll (L.take k)) ∧ Below w.heap.size w wr) (fun _ _ _ _ i _ => L.length - (intOf i).toNat)
  case atStart => exact ⟨0, Nat.zero_le _, rfl, BarsO.nil _ _ _, Below.refl _ _⟩
  case round =>
    obtain ⟨k, hk, rfl, hO, hbel⟩ := hrel
    by_cases hlt : k < L.length
    · obtain ⟨bb, o, b1, b2, b3, rfl, hbb, HX, y1, y2, y3, i1, i2, _⟩ := SlB.at_ (k := k) hx hlt
      have d1 := bcell hbel hbb y1
      have d2 := bcell hbel hbb y2
      have d3 := bcell hbel hbb y3
      have hcb := cbAll_ok (L.take k)
      have hSN := cbAll_snoc (L.take k) (b1, b2, b3)
      rw [← take_snoc HX.out] at hSN
      obtain ⟨l, hl⟩ : ∃ l, cbAll (L.take k) = l := ⟨_, rfl⟩
      rw [hl] at hcb hSN hO
      have htk : (L.take k).length ≤ 1000 := by rw [List.length_take]; omega
      obtain ⟨q1, q2, q3⟩ := hcb
      have hln : l.length ≤ 1000 := by omega
      have HQ3 := Lib.hid q3
      have HSN := Lib.hid hSN
      obtain ⟨OA, oc, rfl, _, _⟩ := hO.form
      obtain ⟨W3, hW3⟩ : ∃ W3, wr.alloc (.cells #[.int .i64 b1, .int .i64 b2, .int .i64 b3] 70) = W3 := ⟨_, rfl⟩
      have g3 : Below wr.heap.size wr W3 := by rw [← hW3]; exact below_alloc _ _
      have k3 : Blk W3 wr.heap.size 70 #[.int .i64 b1, .int .i64 b2, .int .i64 b3] := by rw [← hW3]; exact Blk.new _ _ _
      have z0 := k3.cell' (i := 0) rfl
      have z1 := k3.cell' (i := 1) rfl
      have z2 := k3.cell' (i := 2) rfl
      have HO3 := Lib.hid (hO.below g3)
      have HB3 := Lib.hid (hbel.trans (g3.mono hbel.size))
      have hwr := hbel.size
      have hs3 := g3.size
      have HBS := Lib.hid (bsearch_any (.slice OA l.length oc) l b1 b2 b3 W3 HO3.out.rd q1 hln)
      have hKle := bsK_le (b1, b2, b3) l
      obtain ⟨K, hK⟩ : ∃ K, bsK l (b1, b2, b3) = K := ⟨_, rfl⟩
      rw [hK] at HBS hKle
      have HK := Lib.hid hK
      have HKT := Lib.hid k3
      clear q1 q2 q3 hl hSN hO hbel g3 hx y1 y2 y3 hK k3
      rcases hF : bsBF l (b1, b2, b3) with _ | _
      · rw [hF] at HBS
        have HI := Lib.hid (cbIns_no hF)
        rw [HK.out] at HI
        clear hF
        go_wp2_with fail
        clear hW3 z0 z1 z2
        refine HBS.out.mono ?_; rintro e w4 ⟨rfl, hb4⟩
        have k4 := HKT.out.call hb4
        have z0 := k4.cell' (i := 0) rfl
        have z1 := k4.cell' (i := 1) rfl
        have z2 := k4.cell' (i := 2) rfl
        have HO4 := Lib.hid (HO3.out.below hb4)
        have HB4 := Lib.hid (HB3.out.trans (hb4.mono (by omega)))
        have hs4 := hb4.size
        obtain ⟨W5, hW5⟩ : ∃ W5, w4.alloc (.cells #[.int .i64 b1, .int .i64 b2, .int .i64 0] 70) = W5 := ⟨_, rfl⟩
        have g5 : Below w4.heap.size w4 W5 := by rw [← hW5]; exact below_alloc _ _
        have HG2 := Lib.hid (show Blk W5 w4.heap.size 70 #[.int .i64 b1, .int .i64 b2, .int .i64 0] by rw [← hW5]; exact Blk.new _ _ _)
        have HO5 := Lib.hid (HO4.out.below g5)
        have HB5 := Lib.hid (HB4.out.trans (g5.mono (by omega)))
        have hs5 := g5.size
        have HINS := Lib.hid (insert_any w.heap.size wr.heap.size (.slice OA l.length oc) l K (b1, b2, 0) w4.heap.size W5 HO5.out hKle (by omega) (by omega) hln ⟨i1, i2, by constructor <;> (show _ ≤ _) <;> simp⟩ HG2.out)
        clear HBS k4 hb4 g5 d1 d2 d3
        go_wp2_with fail
        clear hW5 z0 z1 z2
        refine HINS.out.mono ?_; rintro e w6 ⟨v6, rfl, ho6, hb6⟩
        have hil : (insAt l K (b1, b2, 0)).length = l.length + 1 := by simp [insAt]; omega
        have hat : (insAt l K (b1, b2, 0))[K]? = some (b1, b2, 0) := by
          have h1 : (l.take K).length = K := by rw [List.length_take]; omega
          rw [insAt, List.getElem?_append_right (by omega), h1, Nat.sub_self]; rfl
        obtain ⟨g6, c6, e6, hg6, cc, fr, hc6⟩ := ho6.cell2 hat
        subst e6
        rw [hil] at ho6 hc6 ⊢
        have HST := Lib.hid (ho6.setN hil hat (z := 1) (by constructor <;> decide))
        have HEQ : Hid ((insAt l K (b1, b2, 0)).set K (b1, b2, 1) = cbAll (L.take (k + 1))) := by
          show _ = _
          rw [HSN.out, HI.out, insAt, insAt]
          have h1 : (l.take K).length = K := by rw [List.length_take]; omega
          rw [List.set_append_right _ _ (by omega), h1, Nat.sub_self, List.set_cons_zero]
        have HBF := Lib.hid ((HB5.out.trans hb6).setCell (p := ⟨g6, K * 3 + 2, none⟩) hg6 (.int .i64 1))
        have hKn : K < l.length + 1 := by omega
        clear HINS ho6 hb6 hat
        go_wp2
        go_roundw
        case rel => exact ⟨k + 1, by omega, by go_num, by rw [← HEQ.out]; exact HST.out.wider (Nat.le_refl _) (by simp [World.setCell]), HBF.out⟩
        case measure => simp [intOf]; omega
      · rw [hF] at HBS
        obtain ⟨x, hxk, hx0⟩ := bsF_t hF
        have HI := Lib.hid (cbIns_yes hxk hx0)
        rw [HK.out] at HI hxk
        have hxr := HQ3.out x (List.mem_of_getElem? hxk)
        clear hF hx0
        go_wp2_with fail
        clear hW3 z0 z1 z2
        refine HBS.out.mono ?_; rintro e w4 ⟨rfl, hb4⟩
        have ho4 := HO3.out.below hb4
        have HB4 := Lib.hid (HB3.out.trans (hb4.mono (by omega)))
        have hs4 := hb4.size
        obtain ⟨g6, c6, e6, hg6, cc, fr, hc6⟩ := ho4.cell2 hxk
        injection e6 with e61 _ e62
        subst e61 e62
        obtain ⟨x1, x2, x3⟩ := x
        have HST := Lib.hid (ho4.setN rfl hxk (z := x3 + 1) (by constructor <;> (simp only at hxr; omega)))
        have HEQ : Hid (l.set K (x1, x2, x3 + 1) = cbAll (L.take (k + 1))) := by
          show _ = _
          rw [HSN.out, HI.out]
        have HBF := Lib.hid (HB4.out.setCell (p := ⟨g6, K * 3 + 2, none⟩) hg6 (.int .i64 (x3 + 1)))
        have hKn : K < l.length := lt_of_some hxk
        have hx3a := hxr.1
        have hx3b := hxr.2
        simp only at hx3a hx3b
        clear HBS ho4 hb4 hxk hxr d1 d2 d3 HI
        go_wp2
        go_roundw
        case rel => exact ⟨k + 1, by omega, by go_num, by rw [← HEQ.out]; exact HST.out.wider (Nat.le_refl _) (by simp [World.setCell]; omega), HBF.out⟩
        case measure => simp [intOf]; omega
    · have hkl : k = L.length := by omega
      have HE : Hid (cbAll (L.take k) = cbAll L) := by show _ = _; rw [hkl, List.take_length]
      have HO := Lib.hid hO
      clear hkl hO
      go_wp2
      go_ret
      exact ⟨_, rfl, by rw [← HE.out]; exact HO.out, hbel⟩
end Go.Proofs.YtgabmemalaklbaaGreat
