/- FnExactRootRep: the law holds for every argument. Part 2 of 18 of the proof: KitM2, KitR, Small, Find, IsQ, Mat, Mat2, Mat3, RepSz, Chgs, SS, AppS, Net2. No condition. -/
import Derived.Test.YtcmlflppndfdcaaGreatBRootRep1
set_option linter.unusedVariables false
set_option linter.unusedSimpArgs false
namespace Go.Proofs.YtcmlflppndfdcaaGreat
open Go.RowKit
theorem infoMx : (Tryz.prog.info? 50).map (fun i => (i.zero, i.size, i.bytes)) = some (some (.agg #[.int .i64 0, .int .i64 0, .slice none 0 0]), 3, 40) := by kernel_rfl
def totA (ms : List Mx) : Nat := tot (ms.map Mx.a)
def szM (ms : List Mx) : Nat := ms.length + totA ms
def totM (ms : List Mx) : Nat := (ms.map fun m => 2 + m.a.length).sum
theorem totM_eq (ms : List Mx) : totM ms = 2 * ms.length + totA ms := by
 induction ms with
 | nil => rfl
 | cons m ms ih =>
  simp only [totM, totA, tot, List.map_cons, List.sum_cons, List.length_cons] at ih ⊢
  omega
theorem totM_snoc (ms : List Mx) (m : Mx) : totM (ms ++ [m]) = totM ms + (2 + m.a.length) := by simp [totM]
theorem totM_take_le (ms : List Mx) (k : Nat) : totM (ms.take k) ≤ totM ms := by
 have : totM ms = totM (ms.take k) + totM (ms.drop k) := by simp only [totM, ← List.sum_append, ← List.map_append, List.take_append_drop]
 omega
def mkMS : Int → List Mx → List Mx
 | _, [] => []
 | k, m :: r => ⟨k, k + 1, mkI (k + 1 + 1) m.a.length⟩ :: mkMS (k + 1 + 1 + m.a.length) r
theorem mkMS_length : ∀ (ms : List Mx) (k : Int), (mkMS k ms).length = ms.length
 | [], _ => rfl
 | _ :: r, _ => by simp [mkMS, mkMS_length r]
theorem mkMS_get : ∀ (ms : List Mx) (k : Int) (j : Nat) (m : Mx), ms[j]? = some m → (mkMS k ms)[j]? = some ⟨k + totM (ms.take j), k + totM (ms.take j) + 1, mkI (k + totM (ms.take j) + 1 + 1) m.a.length⟩
 | [], _, _, _, h => by simp at h
 | a :: r, k, 0, m, h => by
  simp at h
  subst h
  simp [mkMS, totM]
 | a :: r, k, j + 1, m, h => by
  simp only [List.getElem?_cons_succ] at h
  have e : k + 1 + 1 + (a.a.length : Int) + (totM (r.take j) : Int) = k + (totM ((a :: r).take (j + 1)) : Int) := by simp only [totM, List.take_succ_cons, List.map_cons, List.sum_cons]; omega
  simp only [mkMS, List.getElem?_cons_succ, mkMS_get r (k + 1 + 1 + a.a.length) j m h, e]
theorem mkMS_snoc : ∀ (ms : List Mx) (k : Int) (m : Mx), mkMS k (ms ++ [m]) = mkMS k ms ++ [⟨k + totM ms, k + totM ms + 1, mkI (k + totM ms + 1 + 1) m.a.length⟩]
 | [], k, m => by simp [mkMS, totM]
 | a :: r, k, m => by
  have e : k + 1 + 1 + (a.a.length : Int) + (totM r : Int) = k + (totM (a :: r) : Int) := by simp only [totM, List.map_cons, List.sum_cons]; omega
  simp only [List.cons_append, mkMS, mkMS_snoc r, e]
def mkMTo (k : Int) (ms : List Mx) (j : Nat) : List Mx := mkMS k (ms.take j) ++ ms.drop j
theorem mkMTo_length (k : Int) (ms : List Mx) (j : Nat) (hj : j ≤ ms.length) : (mkMTo k ms j).length = ms.length := by
 rw [mkMTo, List.length_append, mkMS_length]; simp; omega
theorem mkMTo_get {k : Int} {ms : List Mx} {j : Nat} {m : Mx} (h : ms[j]? = some m) : (mkMTo k ms j)[j]? = some m := by
 have hj := lt_of_some h
 rw [mkMTo, List.getElem?_append_right (by rw [mkMS_length]; simp; omega), mkMS_length, List.getElem?_drop, List.length_take, Nat.min_eq_left (by omega)]
 simpa using h
theorem mkMTo_succ {k : Int} {ms : List Mx} {j : Nat} {m : Mx} (h : ms[j]? = some m) : (mkMTo k ms j).set j ⟨k + totM (ms.take j), k + totM (ms.take j) + 1, mkI (k + totM (ms.take j) + 1 + 1) m.a.length⟩ = mkMTo k ms (j + 1) := by
 have hj := lt_of_some h
 have hlen : (mkMS k (ms.take j)).length = j := by rw [mkMS_length]; simp; omega
 rw [mkMTo, List.set_append, hlen, if_neg (by omega), Nat.sub_self, List.drop_eq_getElem_cons hj]
 rw [mkMTo, take_snoc h, mkMS_snoc, List.append_assoc]
 rfl
set_option maxHeartbeats 800000 in
theorem eqMatrixS_any (u v : Value) (xs ys : List Mx) (w : World) (hu : SlM w w.heap.size u xs) (hv : SlM w w.heap.size v ys) :
  Calls Tryz.prog 38 #[u, v] w fun e w' => e = .returned (.bool (decide (xs = ys))) ∧ Below w.heap.size w w' := by
 obtain ⟨A, c, rfl, _, _, hn, hx⟩ := hu.open_
 obtain ⟨C, d, rfl, _, _, hm, hy⟩ := hv.open_
 clear hu hv
 by_cases hnm : xs.length = ys.length
 ·have heq : ((xs.length : Int) != ys.length) = false := by rw [bne_eq_false_iff_eq]; omega
  have HN := Lib.hid hnm
  clear hnm
  go_enter Tryz.func38, Tryz.ntmps38
  go_wp2
  go_loopw [5] (fun i wr => ∃ k : Nat, k ≤ xs.length ∧ i = .int .i64 k ∧ Below w.heap.size w wr ∧ Hid (xs.take k = ys.take k)) (fun i _ => xs.length - (intOf i).toNat)
  case atStart => exact ⟨0, Nat.zero_le _, rfl, Below.refl _ _, rfl⟩
  case round =>
   obtain ⟨k, hk, rfl, hbel, hxy⟩ := hrel
   by_cases hlt : k < xs.length
   ·have hlt' : k < ys.length := by have := HN.out; omega
    obtain ⟨b, o, x, A', c', rfl, hb, HX, x1, x2, x3, hsx, hx4, hx5, _⟩ := SlM.at_ hx hlt
    obtain ⟨b', o', y, C', d', rfl, hb', HY, y1, y2, y3, hsy, hy4, hy5, _⟩ := SlM.at_ hy hlt'
    clear hx hy
    have s := hbel.size
    have d1 := InB.cell (w := wr) (by omega) (bcell hbel hb x1)
    have d2 := InB.cell (w := wr) (by omega) (bcell hbel hb x2)
    have d3 := InB.cell (w := wr) (by omega) (bcell hbel hb x3)
    have e1 := InB.cell (w := wr) (by omega) (bcell hbel hb' y1)
    have e2 := InB.cell (w := wr) (by omega) (bcell hbel hb' y2)
    have e3 := InB.cell (w := wr) (by omega) (bcell hbel hb' y3)
    have hsx' : ∀ s : InB wr, MxR s.val s.val.heap.size (.agg #[.int .i64 x.r, .int .i64 x.c, .slice A' x.a.length c']) x := fun t => ⟨_, rfl, SlI.next t.below (SlI.more s (SlI.below hbel hsx)), hx4, hx5⟩
    have hsy' : ∀ s : InB wr, MxR s.val s.val.heap.size (.agg #[.int .i64 y.r, .int .i64 y.c, .slice C' y.a.length d']) y := fun t => ⟨_, rfl, SlI.next t.below (SlI.more s (SlI.below hbel hsy)), hy4, hy5⟩
    have HSX := Lib.hid hsx'
    have HSY := Lib.hid hsy'
    clear x1 x2 x3 y1 y2 y3 hsx hsy hsx' hsy' hx4 hx5 hy4 hy5
    by_cases hE : x = y
    ·have hdE : decide (x = y) = true := by simpa using hE
     have hst := Lib.hid (show xs.take (k + 1) = ys.take (k + 1) by rw [take_snoc HX.out, take_snoc HY.out, hxy.out, hE])
     clear hE
     go_wp2
     (refine wp_region_inB (by kernel_rfl) (by kernel_rfl) ?_; (repeat (go_big_quiet_step ((go_at_call 87; exact InB.call (eqMatrix_any _ _ x y _ (HSX.out _) (HSY.out _)))))); refine wpQuiet_nil ?_; intro w1 hw'; obtain ⟨s1, hw1⟩ := hw'; have hb1 := s1.below; rw [← hw1] at hb1; clear hw1 s1)
     go_wp2
     go_roundw
     case rel => exact ⟨k + 1, by omega, by go_num, hbel.trans (hb1.mono s), hst.out⟩
     case measure => simp [intOf]; omega
    ·have hdE : decide (x = y) = false := by simpa using hE
     have hne : Hid (xs ≠ ys) := by
      rintro rfl
      have h2 := HX.out
      rw [HY.out] at h2
      exact hE (by injection h2 with h2; exact h2.symm)
     clear hE
     go_wp2
     (refine wp_region_inB (by kernel_rfl) (by kernel_rfl) ?_; (repeat (go_big_quiet_step ((go_at_call 87; exact InB.call (eqMatrix_any _ _ x y _ (HSX.out _) (HSY.out _)))))); refine wpQuiet_nil ?_; intro w1 hw'; obtain ⟨s1, hw1⟩ := hw'; have hb1 := s1.below; rw [← hw1] at hb1; clear hw1 s1)
     go_wp2
     go_ret
     exact ⟨by rw [decide_eq_false hne.out]; rfl, hbel.trans (hb1.mono s)⟩
   ·go_wp2
    go_ret
    refine ⟨?_, hbel⟩
    have h1 := hxy.out
    rw [List.take_of_length_le (by omega), List.take_of_length_le (by have := HN.out; omega)] at h1
    simp [h1]
 ·have hne : ((xs.length : Int) != ys.length) = true := by rw [bne_iff_ne]; omega
  go_enter Tryz.func38, Tryz.ntmps38
  go_wp2
  go_ret
  refine ⟨?_, Below.refl _ _⟩
  rw [decide_eq_false (by rintro rfl; omega)]; rfl
def MatCs (cs : Array Value) (n : Nat) (vs : List Value) (ms : List Mx) : Prop := cs.size = n * 3 ∧ vs.length ≤ n ∧ ∀ (j : Nat) (v : Value) (m : Mx), vs[j]? = some v → ms[j]? = some m → cs[j * 3]? = some (.int .i64 m.r) ∧ cs[j * 3 + 1]? = some (.int .i64 m.c) ∧ cs[j * 3 + 2]? = some v
theorem MatCs.step {cs : Array Value} {n : Nat} {vs : List Value} {ms : List Mx} {v : Value} {m : Mx} (h : MatCs cs n vs ms) (hn : vs.length < n) (hm : ms[vs.length]? = some m) :
  MatCs (((cs.setIfInBounds (vs.length * 3) (.int .i64 m.r)).setIfInBounds (vs.length * 3 + 1) (.int .i64 m.c)).setIfInBounds (vs.length * 3 + 2) v) n (vs ++ [v]) ms := by
 obtain ⟨h1, h2, h3⟩ := h
 refine ⟨by simpa using h1, by simp; omega, fun j u x hu hx => ?_⟩
 by_cases e : j = vs.length
 ·subst e
  rw [List.getElem?_append_right (Nat.le_refl _)] at hu
  simp at hu
  subst hu
  rw [hm] at hx
  injection hx with hx
  subst hx
  refine ⟨?_, ?_, ?_⟩ <;> simp [Array.getElem?_setIfInBounds] <;> omega
 ·have hj : j < vs.length := by have := lt_of_some hu; simp at this; omega
  rw [List.getElem?_append_left hj] at hu
  obtain ⟨a, b, c⟩ := h3 j u x hu hx
  refine ⟨?_, ?_, ?_⟩ <;> simp only [Array.getElem?_setIfInBounds] <;> (repeat rw [if_neg (by omega)]) <;> assumption
theorem MatCs.own {w : World} {g lo : Nat} {cs : Array Value} {vs : List Value} {ms : List Mx} (h : MatCs cs ms.length vs ms) (hl : vs.length = ms.length) (hb : Blk w g 50 cs) (hlo : lo ≤ g) (hn : ms.length ≤ 17592186044416) : OutM w lo w.heap.size (.slice (some ⟨g, 0, none⟩) ms.length ms.length) vs ms := by
 have e : cs.toList.take (ms.length * 3) = mxCs vs ms := by
  apply List.ext_getElem?
  intro i
  by_cases hi : i < ms.length * 3
  ·obtain ⟨k, r, rfl, hr⟩ : ∃ k r, i = k * 3 + r ∧ r < 3 := ⟨i / 3, i % 3, by omega, by omega⟩
   have hj : k < ms.length := by omega
   obtain ⟨a, b, c⟩ := h.2.2 k _ _ (List.getElem?_eq_getElem (by omega : k < vs.length)) (List.getElem?_eq_getElem hj)
   obtain ⟨a', b', c'⟩ := mxCs_get (List.getElem?_eq_getElem (by omega : k < vs.length)) (List.getElem?_eq_getElem hj)
   rw [List.getElem?_take, if_pos hi, Array.getElem?_toList]
   rcases (show r = 0 ∨ r = 1 ∨ r = 2 by omega) with rfl | rfl | rfl
   ·rw [Nat.add_zero, a, a']
   ·rw [b, b']
   ·rw [c, c']
  ·rw [List.getElem?_take, if_neg hi, List.getElem?_eq_none (by rw [mxCs_length _ _ hl]; omega)]
 have := hb.own (base := lo) (n := ms.length) (cap := ms.length) (size := 3) hlo (Nat.le_refl _) (by simp only [maxLen]; omega) (by rw [h.1])
 rw [e] at this
 exact ⟨this, fun k hk => by simp [Value.ownBlock] at hk; subst hk; exact hb.lt, hn⟩
theorem Fam.setAt {w w' : World} {lo hi : Nat} {L0 : List (Value × List Int)} {vs : List Value} {ll : List (List Int)} {j : Nat} {v : Value} {l l' : List Int} (h : Fam w lo hi (L0 ++ vs.zip ll)) (hv : vs[j]? = some v) (hl : ll[j]? = some l) (ho : OwnI w' lo v l') (hg : w.grownBy w' v.ownBlock) :
  Fam w' lo hi (L0 ++ vs.zip (ll.set j l')) := by
 have h1 := zip_split hv hl
 have hj := lt_of_some hl
 have h2 : (ll.set j l')[j]? = some l' := by simp [hj]
 have h3 := zip_split hv h2
 rw [h1, ← List.append_assoc] at h
 rw [h3, ← List.append_assoc]
 have e1 : (ll.set j l').take j = ll.take j := by rw [List.take_set_of_le (by omega)]
 have e2 : (ll.set j l').drop (j + 1) = ll.drop (j + 1) := by rw [List.drop_set_of_lt (by omega)]
 rw [e1, e2]
 exact h.turn ho hg
theorem Fam.getAt {w : World} {lo hi : Nat} {L0 : List (Value × List Int)} {vs : List Value} {ll : List (List Int)} {j : Nat} {v : Value} {l : List Int} (h : Fam w lo hi (L0 ++ vs.zip ll)) (hv : vs[j]? = some v) (hl : ll[j]? = some l) : IntsO w lo hi v l :=
 h.1 (v, l) (List.mem_append_right _ (by rw [List.mem_iff_getElem?]; exact ⟨j, by rw [List.getElem?_zip_eq_some]; exact ⟨hv, hl⟩⟩))
set_option maxHeartbeats 1600000 in
theorem markMatrixS_fam (v : Value) (vs : List Value) (ms : List Mx) (L0 : List (Value × List Int)) (k : Int) (lo hi : Nat) (w : World) (ho : OutM w lo hi v vs ms) (hl : vs.length = ms.length) (hF : Fam w lo hi (L0 ++ vs.zip (ms.map Mx.a))) (h0 : 0 ≤ k) (h1 : k ≤ 1125899906842624) (ht : totM ms ≤ 17592186044416) :
  Calls Tryz.prog 39 #[v, .int .i64 k] w fun e w' => e = .returned (.int .i64 (k + totM ms)) ∧ OutM w' lo hi v vs (mkMS k ms) ∧ Fam w' lo hi (L0 ++ vs.zip ((mkMS k ms).map Mx.a)) ∧ Chg lo hi w w' := by
 obtain ⟨A, c, rfl, _, _⟩ := ho.form
 have hn := ho.2.2
 have HL := Lib.hid hl
 clear hl
 go_enter Tryz.func39, Tryz.ntmps39
 go_wp2
 go_loopw [1, 5] (fun q i wr => ∃ j : Nat, j ≤ ms.length ∧ i = .int .i64 j ∧ q = .int .i64 (k + totM (ms.take j)) ∧ RowO 50 3 wr lo hi (.slice A ms.length c) ms.length (mxCs vs (mkMTo k ms j)) ∧ Fam wr lo hi (L0 ++ vs.zip ((mkMTo k ms j).map Mx.a)) ∧ Chg lo hi w wr) (fun _ i _ => ms.length - (intOf i).toNat)
 case atStart => exact ⟨0, Nat.zero_le _, rfl, by simp [totM], ho, by simpa [mkMTo, mkMS] using hF, Chg.refl _ _ _⟩
 case round =>
  clear ho hF
  obtain ⟨j, hj, rfl, rfl, ho, hF, hc⟩ := hrel
  have HSUC := fun (m : Mx) (hm : ms[j]? = some m) => Lib.hid (mkMTo_succ (k := k) hm)
  have HTSU := fun (m : Mx) (hm : ms[j]? = some m) => Lib.hid (show totM (ms.take (j + 1)) = totM (ms.take j) + (2 + m.a.length) by rw [take_snoc hm, totM_snoc])
  obtain ⟨t, htt⟩ : ∃ t, totM (ms.take j) = t := ⟨_, rfl⟩
  have htle := totM_take_le ms j
  have HTT := Lib.hid htt
  rw [htt] at htle HSUC HTSU ⊢
  clear htt
  by_cases hlt : j < ms.length
  ·obtain ⟨g, c', cur, hval, hlg, hgh, hgs, hblk⟩ := ho.at_ (by omega)
   injection hval with e1 e2 e3
   subst e1 e3
   clear e2
   have hvj : vs[j]? = some (vs[j]'(by have := HL.out; omega)) := List.getElem?_eq_getElem _
   have hmj : ms[j]? = some ms[j] := List.getElem?_eq_getElem hlt
   obtain ⟨u, hu⟩ : ∃ u, vs[j]'(by have := HL.out; omega) = u := ⟨_, rfl⟩
   obtain ⟨m, hm⟩ : ∃ m, ms[j] = m := ⟨_, rfl⟩
   rw [hu] at hvj
   rw [hm] at hmj
   clear hu hm
   have HSU := HSUC m hmj
   have HTS := HTSU m hmj
   clear HSUC HTSU
   have hlen := mkMTo_length k ms j (by omega)
   have hget := mxCs_get hvj (mkMTo_get (k := k) hmj)
   have c0 := ho.1.cellAt (j * 3) (by omega)
   have c1 := ho.1.cellAt (j * 3 + 1) (by omega)
   have c2 := ho.1.cellAt (j * 3 + 2) (by omega)
   rw [hget.1] at c0
   rw [hget.2.1] at c1
   rw [hget.2.2] at c2
   have f0 := fun i => ho.1.frozenAt i
   have hI := hF.getAt hvj (l := m.a) (by rw [List.getElem?_map, mkMTo_get hmj]; rfl)
   have hml := hI.1.2.1
   obtain ⟨A', c'', rfl, _, _⟩ := hI.1.form
   have st1 := ho.stored (j * 3) (.int .i64 (k + t))
   have st2 := st1.1.stored (j * 3 + 1) (.int .i64 (k + t + 1))
   have hF1 := (hF.setBlk (i := j * 3) hblk (by decide) (.int .i64 (k + t))).setBlk (i := j * 3 + 1) (hblk.set_ _ _) (by decide) (.int .i64 (k + t + 1))
   have ho2 := st2.1
   rw [mxCs_set (by rw [hlen]; omega) (by rw [hlen]; exact HL.out) (k + t) (k + t + 1) (mkI (k + t + 1 + 1) m.a.length), HSU.out] at ho2
   have hc2 := hc.trans (st1.2.trans st2.2)
   have hI2 := hF1.getAt hvj (l := m.a) (by rw [List.getElem?_map, mkMTo_get hmj]; rfl)
   have HI2 := Lib.hid hI2
   have HF1 := Lib.hid hF1
   have HO2 := Lib.hid ho2
   have HVJ := Lib.hid hvj
   have HMJ := Lib.hid hmj
   clear hF hF1 hI hI2 ho2 st1 st2 ho hget hlen hvj hmj hblk
   go_wp2_with fail
   refine (markIntS_any _ m.a _ lo _ HI2.out.1 (by omega) (by omega)).mono ?_; rintro e w1 ⟨rfl, ho1, hg1⟩
   have hF2 := HF1.out.setAt HVJ.out (by rw [List.getElem?_map, mkMTo_get HMJ.out]; rfl) ho1 hg1
   have hc3 := chg_of_grown HI2.out hg1
   have ho3 := HO2.out.grown (by decide) HI2.out.1 hg1
   have e9 : ((mkMTo k ms j).map Mx.a).set j (mkI (k + t + 1 + 1) m.a.length) = (mkMTo k ms (j + 1)).map Mx.a := by
    rw [← HSU.out, List.map_set]
   rw [e9] at hF2
   clear e9
   go_wp2
   go_roundw
   case rel => exact ⟨j + 1, by omega, by go_num, by rw [HTS.out]; congr 1; omega, ho3, hF2, hc2.trans hc3⟩
   case measure => simp [intOf]; omega
  ·have e2 : mkMTo k ms j = mkMS k ms := by rw [mkMTo, List.take_of_length_le (by omega), List.drop_of_length_le (by omega), List.append_nil]
   rw [e2] at hF ho
   clear e2 HSUC HTSU
   have e3 := mkMS_length ms k
   have ho' : OutM wr lo hi (.slice A ms.length c) vs (mkMS k ms) := by rw [OutM, e3]; exact ho
   have HE := Lib.hid (show totM ms = t by rw [← HTT.out, List.take_of_length_le (by omega)])
   have HO := Lib.hid ho'
   have HF := Lib.hid hF
   clear e3 ho' hF ho
   go_wp2
   go_ret
   exact ⟨by rw [HE.out]; rfl, HO.out, HF.out, hc⟩
end Go.Proofs.YtcmlflppndfdcaaGreat
namespace Go.Proofs.YtcmlflppndfdcaaGreat
open Go.RowKit
theorem chg_set {w : World} {lo hi : Nat} {p : Addr} {u : Value} (h1 : lo ≤ p.block) (h2 : p.block < hi) : Chg lo hi w (w.setCell p u) :=
 ⟨rfl, rfl, rfl, by simp [World.setCell], fun k hk hne => Below.heap_setCell _ _ _ _ (by intro e; omega)⟩
theorem Fam.join {w : World} {lo mi hi : Nat} {L1 L2 : List (Value × List Int)} (h : Fam w lo mi L1) (k : Fam w mi hi L2) (h1 : lo ≤ mi) (h2 : mi ≤ hi) : Fam w lo hi (L1 ++ L2) := by
 refine ⟨fun p hp => ?_, ?_⟩
 ·rcases List.mem_append.1 hp with hp | hp
  ·exact (h.1 p hp).wider (Nat.le_refl _) h2
  ·exact (k.1 p hp).wider h1 (Nat.le_refl _)
 ·rw [List.pairwise_append]
  refine ⟨h.2, k.2, fun a ha b hb => ?_⟩
  rcases hA : a.1.ownBlock with _ | x
  ·exact .inl rfl
  ·right
   intro e
   have := (h.1 a ha).2 x hA
   have := ((k.1 b hb).1.lt x e.symm).1
   omega
theorem Fam.one {w : World} {lo hi : Nat} {v : Value} {l : List Int} (h : IntsO w lo hi v l) : Fam w lo hi [(v, l)] := ⟨fun p hp => by rw [List.mem_singleton] at hp; subst hp; exact h, by simp⟩
structure Rp where
 p : Int
 q : Qv
 d : List Int
 m : List Mx
deriving DecidableEq
theorem rp_ext (x y : Rp) : (x = y) ↔ (x.p = y.p ∧ x.q = y.q ∧ x.d = y.d ∧ x.m = y.m) := by
 cases x; cases y; simp
def Rp.size (x : Rp) : Nat := x.q.size + x.d.length + szM x.m
def RpR (w : World) (B : Nat) (val : Value) (x : Rp) : Prop := ∃ f t d m, val = .agg #[.int .i64 x.p, .int .i64 x.q.v, f, t, d, m] ∧ SlI w B f x.q.f ∧ SlI w B t x.q.t ∧ SlI w B d x.d ∧ SlM w B m x.m ∧ I64 x.p ∧ I64 x.q.v
theorem RpR.below {w w' : World} {B : Nat} {v : Value} {x : Rp} (hb : Below B w w') (h : RpR w B v x) : RpR w' B v x := by
 obtain ⟨f, t, d, m, e, h1, h2, h3, h4, h5⟩ := h
 exact ⟨f, t, d, m, e, SlI.below hb h1, SlI.below hb h2, SlI.below hb h3, SlM.below hb h4, h5⟩
theorem RpR.more {w : World} {B B' : Nat} {v : Value} {x : Rp} (hB : B ≤ B') (h : RpR w B v x) : RpR w B' v x := by
 obtain ⟨f, t, d, m, e, h1, h2, h3, h4, h5⟩ := h
 exact ⟨f, t, d, m, e, SlI.more hB h1, SlI.more hB h2, SlI.more hB h3, SlM.more hB h4, h5⟩
theorem RpR.next {w w' : World} {v : Value} {x : Rp} (hb : Below w.heap.size w w') (h : RpR w w.heap.size v x) : RpR w' w'.heap.size v x := RpR.more hb.size (RpR.below hb h)
theorem RpR.chg {w w' : World} {B lo hi : Nat} {v : Value} {x : Rp} (h : RpR w B v x) (hc : Chg lo hi w w') (hB : B ≤ lo) (hs : B ≤ w.heap.size) : RpR w' B v x := RpR.below (hc.below hB hs) h
theorem RpR.open_ {w : World} {B : Nat} {v : Value} {x : Rp} (h : RpR w B v x) : ∃ A a C c E e H h, v = .agg #[.int .i64 x.p, .int .i64 x.q.v, .slice A x.q.f.length a, .slice C x.q.t.length c, .slice E x.d.length e, .slice H x.m.length h] ∧
  QvR w B (.agg #[.int .i64 x.q.v, .slice A x.q.f.length a, .slice C x.q.t.length c]) x.q ∧ SlI w B (.slice E x.d.length e) x.d ∧ SlM w B (.slice H x.m.length h) x.m ∧ I64 x.p ∧ x.d.length ≤ 17592186044416 ∧ x.m.length ≤ 17592186044416 := by
 obtain ⟨f, t, d, m, rfl, h1, h2, h3, h4, h5, h6⟩ := h
 obtain ⟨A, a, rfl, _, _, _, h1⟩ := h1.open_
 obtain ⟨C, c, rfl, _, _, _, h2⟩ := h2.open_
 obtain ⟨E, e, rfl, _, _, l1, h3⟩ := h3.open_
 obtain ⟨H, h, rfl, _, _, l2, h4⟩ := h4.open_
 exact ⟨A, a, C, c, E, e, H, h, rfl, ⟨_, _, rfl, h1, h2, h6⟩, h3, h4, h5, l1, l2⟩
theorem RpR.form {w : World} {B : Nat} {v : Value} {x : Rp} (h : RpR w B v x) : ∃ A a C c E e H h, v = .agg #[.int .i64 x.p, .int .i64 x.q.v, .slice A x.q.f.length a, .slice C x.q.t.length c, .slice E x.d.length e, .slice H x.m.length h] := by
 obtain ⟨A, a, C, c, E, e, H, h, e, _⟩ := h.open_
 exact ⟨A, a, C, c, E, _, H, h, e⟩
theorem RpR.lens {w : World} {B : Nat} {v : Value} {x : Rp} (h : RpR w B v x) : x.q.f.length ≤ 17592186044416 ∧ x.q.t.length ≤ 17592186044416 ∧ x.d.length ≤ 17592186044416 ∧ x.m.length ≤ 17592186044416 := by
 obtain ⟨A, a, C, c, E, e, H, h, _, hq, _, _, _, l1, l2⟩ := h.open_
 obtain ⟨l3, l4⟩ := hq.lens
 exact ⟨l3, l4, l1, l2⟩
def RepO (w : World) (lo hi : Nat) (val : Value) (x : Rp) : Prop := ∃ f t d m vs, val = .agg #[.int .i64 x.p, .int .i64 x.q.v, f, t, d, m] ∧ OutM w lo hi m vs x.m ∧ vs.length = x.m.length ∧
 Fam w lo hi ([(f, x.q.f), (t, x.q.t), (d, x.d)] ++ vs.zip (x.m.map Mx.a)) ∧ (I64 x.p ∧ I64 x.q.v) ∧ ∀ m ∈ x.m, I64 m.r ∧ I64 m.c
theorem RepO.rd {w : World} {lo hi : Nat} {v : Value} {x : Rp} (h : RepO w lo hi v x) : RpR w w.heap.size v x := by
 obtain ⟨f, t, d, m, vs, e, h1, h2, h3, h4, h5⟩ := h
 exact ⟨f, t, d, m, e, (h3.1 (f, _) (by simp)).rd, (h3.1 (t, _) (by simp)).rd, (h3.1 (d, _) (by simp)).rd, OutM.rd h1 h2 (fun p hp => (h3.1 p (by simp [hp])).rd) h5, h4⟩
theorem RepO.form {w : World} {lo hi : Nat} {v : Value} {x : Rp} (h : RepO w lo hi v x) : ∃ A a C c E e H h, v = .agg #[.int .i64 x.p, .int .i64 x.q.v, .slice A x.q.f.length a, .slice C x.q.t.length c, .slice E x.d.length e, .slice H x.m.length h] := h.rd.form
theorem RepO.chg {w w' : World} {lo hi lo' hi' : Nat} {v : Value} {x : Rp} (h : RepO w lo hi v x) (hc : Chg lo' hi' w w') (hd : hi ≤ lo' ∨ hi' ≤ lo) : RepO w' lo hi v x := by
 obtain ⟨f, t, d, m, vs, e, h1, h2, h3, h4⟩ := h
 exact ⟨f, t, d, m, vs, e, h1.chg hc hd, h2, h3.chg hc hd, h4⟩
theorem RepO.below {w w' : World} {lo hi : Nat} {v : Value} {x : Rp} (h : RepO w lo hi v x) (hb : Below w.heap.size w w') : RepO w' lo hi v x := by
 obtain ⟨f, t, d, m, vs, e, h1, h2, h3, h4⟩ := h
 exact ⟨f, t, d, m, vs, e, h1.below hb, h2, h3.below hb, h4⟩
theorem RepO.wider {w : World} {lo hi lo' hi' : Nat} {v : Value} {x : Rp} (h : RepO w lo hi v x) (k1 : lo' ≤ lo) (k2 : hi ≤ hi') : RepO w lo' hi' v x := by
 obtain ⟨f, t, d, m, vs, e, h1, h2, h3, h4⟩ := h
 exact ⟨f, t, d, m, vs, e, h1.mono k1 k2, h2, h3.mono k1 k2, h4⟩
def RepO.mk (k : Int) (x : Rp) : Rp := ⟨x.p, QuivO.mk k x.q, mkI (k + x.q.size) x.d.length, mkMS (k + x.q.size + x.d.length) x.m⟩
def Rp.marks (x : Rp) : Nat := x.q.size + x.d.length + totM x.m
def rp0 : Rp := ⟨0, ⟨0, [], []⟩, [], []⟩
theorem RepO.zero (w : World) (lo hi : Nat) : RepO w lo hi (.agg #[.int .i64 0, .int .i64 0, .slice none 0 0, .slice none 0 0, .slice none 0 0, .slice none 0 0]) rp0 :=
 ⟨_, _, _, _, [], rfl, RowO.nil _ w lo hi, rfl, ⟨fun p hp => by
  simp only [rp0, List.zip_nil_left, List.append_nil, List.mem_cons, List.not_mem_nil, or_false] at hp
  rcases hp with rfl | rfl | rfl <;> exact ⟨OwnI.nil _ _, by simp [Value.ownBlock]⟩, by simp [Value.ownBlock]⟩, by simp [rp0, I64], fun m hm => by simp [rp0] at hm⟩
set_option maxHeartbeats 800000 in
theorem heldMatrixS_any (v : Value) (ms : List Mx) (k : Int) (w : World) (hv : SlM w w.heap.size v (mkMS k ms)) (h0 : 0 ≤ k) (h1 : k ≤ 1125899906842624) (ht : totM ms ≤ 17592186044416) :
  Calls Tryz.prog 42 #[v, .int .i64 k] w fun e w' => e = .returned (.int .i64 (k + totM ms)) ∧ Below w.heap.size w w' := by
 obtain ⟨A, c, rfl, _, _, hn, hx⟩ := hv.open_
 have HL := Lib.hid (mkMS_length ms k)
 obtain ⟨n, hnl⟩ : ∃ n, (mkMS k ms).length = n := ⟨_, rfl⟩
 have HNL := Lib.hid hnl
 rw [hnl] at hn ⊢
 clear hv hnl
 go_enter Tryz.func42, Tryz.ntmps42
 go_wp2
 go_loopw [1, 5] (fun q i wr => ∃ (j : Nat), j ≤ n ∧ i = .int .i64 j ∧ q = .int .i64 (k + totM (ms.take j)) ∧ Below w.heap.size w wr) (fun _ i _ => n - (intOf i).toNat)
 case atStart => exact ⟨0, Nat.zero_le _, rfl, by simp [totM], Below.refl _ _⟩
 case round =>
  obtain ⟨j, hj, rfl, rfl, hbel⟩ := hrel
  obtain ⟨t, htt⟩ : ∃ t, totM (ms.take j) = t := ⟨_, rfl⟩
  have htle := totM_take_le ms j
  rw [htt] at htle ⊢
  by_cases hlt : j < n
  ·obtain ⟨b, o, x, A', c', rfl, hb, HX, x1, x2, x3, hsl, _, _, _⟩ := SlM.at_ hx (by rw [HNL.out]; exact hlt)
   have hmj : ms[j]? = some (ms[j]'(by have := HL.out; have := HNL.out; omega)) := List.getElem?_eq_getElem _
   obtain ⟨m, hm⟩ : ∃ m, ms[j]'(by have := HL.out; have := HNL.out; omega) = m := ⟨_, rfl⟩
   rw [hm] at hmj
   clear hm
   have hx' := mkMS_get ms k j m hmj
   rw [HX.out] at hx'
   injection hx' with hx'
   rw [htt] at hx'
   subst hx'
   have HTS := Lib.hid (show totM (ms.take (j + 1)) = t + (2 + m.a.length) by rw [take_snoc hmj, totM_snoc, htt])
   have htle2 := totM_take_le ms (j + 1)
   rw [HTS.out] at htle2
   have d1 := bcell hbel hb x1
   have d2 := bcell hbel hb x2
   have d3 := bcell hbel hb x3
   have hs := SlI.more hbel.size (SlI.below hbel hsl)
   simp only at d1 d2 d3 hs
   have e1 : (k + (t : Int) != k + t) = false := by simp
   have e2 : (k + (t : Int) + 1 != k + t + 1) = false := by simp
   have e3 : ¬ (k + (t : Int) + 1 + 1 + m.a.length < 0) := by omega
   have HM := Lib.hid hmj
   clear x1 x2 x3 hx hsl htt hmj
   go_wp2_with fail
   refine (heldIntS_any _ m.a.length (k + t + 1 + 1) _ _ hs (by omega) (by omega)).mono ?_; rintro e w1 ⟨rfl, hb1⟩
   go_wp2
   go_roundw
   case rel => exact ⟨j + 1, by omega, by go_num, by rw [HTS.out]; congr 1; omega, hbel.trans (hb1.mono hbel.size)⟩
   case measure => simp [intOf]; omega
  ·have HE := Lib.hid (show totM ms = t by rw [← htt, List.take_of_length_le (by have := HL.out; have := HNL.out; omega)])
   clear htt
   go_wp2
   go_ret
   exact ⟨by rw [HE.out]; rfl, hbel⟩
set_option maxHeartbeats 800000 in
theorem eqRep_any (u v : Value) (x y : Rp) (w : World) (hu : RpR w w.heap.size u x) (hv : RpR w w.heap.size v y) :
  Calls Tryz.prog 9 #[u, v] w fun e w' => e = .returned (.bool (decide (x = y))) ∧ Below w.heap.size w w' := by
 obtain ⟨A, a, C, c, E, e, H, h, rfl, hq, hd, hm, _, _, _⟩ := hu.open_
 obtain ⟨A', a', C', c', E', e', H', h', rfl, hq', hd', hm', _, _, _⟩ := hv.open_
 clear hu hv
 obtain ⟨W, hW⟩ : ∃ W, W = (w.alloc (.cells #[.int .i64 x.p, .int .i64 x.q.v, .slice A x.q.f.length a, .slice C x.q.t.length c, .slice E x.d.length e, .slice H x.m.length h] 32)).alloc (.cells #[.int .i64 y.p, .int .i64 y.q.v, .slice A' y.q.f.length a', .slice C' y.q.t.length c', .slice E' y.d.length e', .slice H' y.m.length h'] 32) := ⟨_, rfl⟩
 have g0 : Below w.heap.size w W := by rw [hW]; exact ((Below.refl _ _).alloc (Nat.le_refl _) _).alloc (by simp) _
 have k1 : Blk W w.heap.size 32 #[.int .i64 x.p, .int .i64 x.q.v, .slice A x.q.f.length a, .slice C x.q.t.length c, .slice E x.d.length e, .slice H x.m.length h] := by rw [hW]; exact (Blk.new _ _ _).alloc _
 have k2 : Blk W (w.heap.size + 1) 32 #[.int .i64 y.p, .int .i64 y.q.v, .slice A' y.q.f.length a', .slice C' y.q.t.length c', .slice E' y.d.length e', .slice H' y.m.length h'] := by
  rw [hW]
  have := Blk.new (w.alloc (.cells #[.int .i64 x.p, .int .i64 x.q.v, .slice A x.q.f.length a, .slice C x.q.t.length c, .slice E x.d.length e, .slice H x.m.length h] 32)) 32 #[.int .i64 y.p, .int .i64 y.q.v, .slice A' y.q.f.length a', .slice C' y.q.t.length c', .slice E' y.d.length e', .slice H' y.m.length h']
  simpa only [World.size_alloc] using this
 replace hq := QvR.next g0 hq
 replace hq' := QvR.next g0 hq'
 replace hd := SlI.next g0 hd
 replace hd' := SlI.next g0 hd'
 replace hm := SlM.next g0 hm
 replace hm' := SlM.next g0 hm'
 by_cases h1 : x.p = y.p
 ·have e1 : (x.p != y.p) = false := by rw [h1]; simp
  have H1 := Lib.hid h1
  clear h1
  by_cases h2 : x.q = y.q
  ·have e2 : decide (x.q = y.q) = true := by simpa using h2
   have H2 := Lib.hid h2
   clear h2
   by_cases h3 : x.d = y.d
   ·have e3 : decide (x.d = y.d) = true := by simpa using h3
    have H3 := Lib.hid h3
    clear h3
    obtain ⟨B, hB⟩ : ∃ B, decide (x.m = y.m) = B := ⟨_, rfl⟩
    have hfin : decide (x = y) = B := by
     rw [← hB, decide_eq_decide, rp_ext]
     exact ⟨fun h => h.2.2.2, fun h => ⟨H1.out, H2.out, H3.out, h⟩⟩
    rw [hfin]
    have HB := Lib.hid hB
    clear hfin hB
    go_enter Tryz.func9, Tryz.ntmps9
    go_wp2_with fail
    rw [← hW]; clear hW
    refine (eqQuiver_any _ _ _ _ _ hq hq').mono ?_; rintro e w1 ⟨rfl, hb1⟩
    clear hq hq'
    replace g0 := bthen g0 hb1
    replace hd := SlI.next hb1 hd
    replace hd' := SlI.next hb1 hd'
    replace hm := SlM.next hb1 hm
    replace hm' := SlM.next hb1 hm'
    replace k1 := k1.call hb1
    replace c0 := k1.cell' (i := 0) rfl
    replace c1 := k1.cell' (i := 1) rfl
    replace c2 := k1.cell' (i := 2) rfl
    replace c3 := k1.cell' (i := 3) rfl
    replace c4 := k1.cell' (i := 4) rfl
    replace c5 := k1.cell' (i := 5) rfl
    replace k2 := k2.call hb1
    replace d0 := k2.cell' (i := 0) rfl
    replace d1 := k2.cell' (i := 1) rfl
    replace d2 := k2.cell' (i := 2) rfl
    replace d3 := k2.cell' (i := 3) rfl
    replace d4 := k2.cell' (i := 4) rfl
    replace d5 := k2.cell' (i := 5) rfl
    clear hb1
    go_wp2_with fail
    refine (eqIntS_any _ _ _ _ _ hd hd').mono ?_; rintro e w_1 ⟨rfl, hb_1⟩
    replace g0 := bthen g0 hb_1
    replace hd := SlI.next hb_1 hd
    replace hd' := SlI.next hb_1 hd'
    replace hm := SlM.next hb_1 hm
    replace hm' := SlM.next hb_1 hm'
    replace k1 := k1.call hb_1
    replace c0 := k1.cell' (i := 0) rfl
    replace c1 := k1.cell' (i := 1) rfl
    replace c2 := k1.cell' (i := 2) rfl
    replace c3 := k1.cell' (i := 3) rfl
    replace c4 := k1.cell' (i := 4) rfl
    replace c5 := k1.cell' (i := 5) rfl
    replace k2 := k2.call hb_1
    replace d0 := k2.cell' (i := 0) rfl
    replace d1 := k2.cell' (i := 1) rfl
    replace d2 := k2.cell' (i := 2) rfl
    replace d3 := k2.cell' (i := 3) rfl
    replace d4 := k2.cell' (i := 4) rfl
    replace d5 := k2.cell' (i := 5) rfl
    go_wp2_with fail
    refine (eqMatrixS_any _ _ _ _ _ hm hm').mono ?_; rintro e w_2 ⟨rfl, hb_2⟩
    replace g0 := bthen g0 hb_2
    replace hd := SlI.next hb_2 hd
    replace hd' := SlI.next hb_2 hd'
    replace hm := SlM.next hb_2 hm
    replace hm' := SlM.next hb_2 hm'
    replace k1 := k1.call hb_2
    replace c0 := k1.cell' (i := 0) rfl
    replace c1 := k1.cell' (i := 1) rfl
    replace c2 := k1.cell' (i := 2) rfl
    replace c3 := k1.cell' (i := 3) rfl
    replace c4 := k1.cell' (i := 4) rfl
    replace c5 := k1.cell' (i := 5) rfl
    replace k2 := k2.call hb_2
    replace d0 := k2.cell' (i := 0) rfl
    replace d1 := k2.cell' (i := 1) rfl
    replace d2 := k2.cell' (i := 2) rfl
    replace d3 := k2.cell' (i := 3) rfl
    replace d4 := k2.cell' (i := 4) rfl
    replace d5 := k2.cell' (i := 5) rfl
    rw [HB.out]
    clear hd hd' hm hm' k1 k2
    go_wp2
    all_goals (go_ret; simp_all)
   ·have e3 : decide (x.d = y.d) = false := by simpa using h3
    have hfin : decide (x = y) = false := by
     simp only [decide_eq_false_iff_not, rp_ext]
     exact fun h => h3 h.2.2.1
    rw [hfin]
    clear hfin h3
    go_enter Tryz.func9, Tryz.ntmps9
    go_wp2_with fail
    rw [← hW]; clear hW
    refine (eqQuiver_any _ _ _ _ _ hq hq').mono ?_; rintro e w1 ⟨rfl, hb1⟩
    clear hq hq'
    replace g0 := bthen g0 hb1
    replace hd := SlI.next hb1 hd
    replace hd' := SlI.next hb1 hd'
    replace k1 := k1.call hb1
    replace c0 := k1.cell' (i := 0) rfl
    replace c1 := k1.cell' (i := 1) rfl
    replace c2 := k1.cell' (i := 2) rfl
    replace c3 := k1.cell' (i := 3) rfl
    replace c4 := k1.cell' (i := 4) rfl
    replace c5 := k1.cell' (i := 5) rfl
    replace k2 := k2.call hb1
    replace d0 := k2.cell' (i := 0) rfl
    replace d1 := k2.cell' (i := 1) rfl
    replace d2 := k2.cell' (i := 2) rfl
    replace d3 := k2.cell' (i := 3) rfl
    replace d4 := k2.cell' (i := 4) rfl
    replace d5 := k2.cell' (i := 5) rfl
    clear hb1
    go_wp2_with fail
    refine (eqIntS_any _ _ _ _ _ hd hd').mono ?_; rintro e w_3 ⟨rfl, hb_3⟩
    replace g0 := bthen g0 hb_3
    replace hd := SlI.next hb_3 hd
    replace hd' := SlI.next hb_3 hd'
    replace k1 := k1.call hb_3
    replace c0 := k1.cell' (i := 0) rfl
    replace c1 := k1.cell' (i := 1) rfl
    replace c2 := k1.cell' (i := 2) rfl
    replace c3 := k1.cell' (i := 3) rfl
    replace c4 := k1.cell' (i := 4) rfl
    replace c5 := k1.cell' (i := 5) rfl
    replace k2 := k2.call hb_3
    replace d0 := k2.cell' (i := 0) rfl
    replace d1 := k2.cell' (i := 1) rfl
    replace d2 := k2.cell' (i := 2) rfl
    replace d3 := k2.cell' (i := 3) rfl
    replace d4 := k2.cell' (i := 4) rfl
    replace d5 := k2.cell' (i := 5) rfl
    go_wp2
    go_ret
    exact ⟨rfl, g0⟩
  ·have e2 : decide (x.q = y.q) = false := by simpa using h2
   have hfin : decide (x = y) = false := by
    simp only [decide_eq_false_iff_not, rp_ext]
    exact fun h => h2 h.2.1
   rw [hfin]
   clear hfin h2
   go_enter Tryz.func9, Tryz.ntmps9
   go_wp2_with fail
   rw [← hW]; clear hW
   refine (eqQuiver_any _ _ _ _ _ hq hq').mono ?_; rintro e w1 ⟨rfl, hb1⟩
   go_wp2
   go_ret
   exact ⟨rfl, bthen g0 hb1⟩
 ·have e1 : (x.p != y.p) = true := by simpa using h1
  have hfin : decide (x = y) = false := by
   simp only [decide_eq_false_iff_not, rp_ext]
   exact fun h => h1 h.1
  rw [hfin]
  clear hfin h1
  go_enter Tryz.func9, Tryz.ntmps9
  go_wp2
  rw [← hW]
  go_ret
  exact ⟨rfl, g0⟩
end Go.Proofs.YtcmlflppndfdcaaGreat
namespace Go.Proofs.YtcmlflppndfdcaaGreat
open Go.RowKit
def inR (n lo hi : Int) : Bool := decide (lo ≤ n ∧ n ≤ hi)
theorem inR_t {n lo hi : Int} : inR n lo hi = true ↔ lo ≤ n ∧ n ≤ hi := by simp [inR]
theorem inR_f {n lo hi : Int} : inR n lo hi = false ↔ ¬ (lo ≤ n ∧ n ≤ hi) := by simp [inR]
theorem within_any (n lo hi : Int) (w : World) : Calls Tryz.prog 126 #[.int .i64 n, .int .i64 lo, .int .i64 hi] w fun e w' => e = .returned (.bool (inR n lo hi)) ∧ w' = w := by
 by_cases h1 : n < lo
 ·go_enter Tryz.func126, Tryz.ntmps126
  go_wp2
  go_ret
  exact ⟨by rw [inR_f.2 (by omega)]; rfl, rfl⟩
 ·have h1' : lo ≤ n := by omega
  by_cases h2 : n ≤ hi
  ·go_enter Tryz.func126, Tryz.ntmps126
   go_wp2
   go_ret
   exact ⟨by rw [inR_t.2 (by omega)]; rfl, rfl⟩
  ·have h2' : hi < n := by omega
   go_enter Tryz.func126, Tryz.ntmps126
   go_wp2
   go_ret
   exact ⟨by rw [inR_f.2 (by omega)]; rfl, rfl⟩
theorem l1In_any (n lo hi : Int) (w : World) : Calls Tryz.prog 68 #[.int .i64 n, .int .i64 lo, .int .i64 hi] w fun e w' => e = .returned (.bool (inR n lo hi)) ∧ w' = w := by
 by_cases h1 : n < lo
 ·go_enter Tryz.func68, Tryz.ntmps68
  go_wp2
  go_ret
  exact ⟨by rw [inR_f.2 (by omega)]; rfl, rfl⟩
 ·have h1' : lo ≤ n := by omega
  by_cases h2 : n ≤ hi
  ·go_enter Tryz.func68, Tryz.ntmps68
   go_wp2
   go_ret
   exact ⟨by rw [inR_t.2 (by omega)]; rfl, rfl⟩
  ·have h2' : hi < n := by omega
   go_enter Tryz.func68, Tryz.ntmps68
   go_wp2
   go_ret
   exact ⟨by rw [inR_f.2 (by omega)]; rfl, rfl⟩
end Go.Proofs.YtcmlflppndfdcaaGreat
namespace Go.Proofs.YtcmlflppndfdcaaGreat
open Go.RowKit
def fidx (p : Int → Bool) (l : List Int) : Int := if l.findIdx p < l.length then (l.findIdx p : Int) else -1
theorem fidx_none {p : Int → Bool} {l : List Int} (h : ∀ x ∈ l, p x = false) : fidx p l = -1 := by
 unfold fidx
 rw [if_neg]
 intro hlt
 have h1 := List.findIdx_getElem (w := hlt)
 have h2 := h _ (List.getElem_mem hlt)
 rw [h1] at h2
 cases h2
theorem fidx_some {p : Int → Bool} {l : List Int} {k : Nat} {x : Int} (hx : l[k]? = some x) (hp : p x = true) (hb : ∀ y ∈ l.take k, p y = false) : fidx p l = k := by
 have hk := lt_of_some hx
 have hxk : l[k] = x := by rw [List.getElem?_eq_getElem hk] at hx; injection hx
 have e : l.findIdx p = k := by
  rw [List.findIdx_eq hk]
  refine ⟨by rw [hxk]; exact hp, fun j hj => ?_⟩
  have := hb l[j] (by rw [List.mem_take_iff_getElem]; exact ⟨j, by omega, rfl⟩)
  simp [this]
 unfold fidx
 rw [e, if_pos hk]
theorem fidx_any (p : Int → Bool) (l : List Int) : decide (0 ≤ fidx p l) = l.any p := by
 unfold fidx
 by_cases h : l.findIdx p < l.length
 ·rw [if_pos h]
  have h1 := List.findIdx_getElem (w := h)
  have : l.any p = true := List.any_eq_true.2 ⟨_, List.getElem_mem h, h1⟩
  rw [this]
  simp
 ·rw [if_neg h]
  have : l.any p = false := by
   rw [List.any_eq_false]
   intro x hx hpx
   exact h (List.findIdx_lt_length_of_exists ⟨x, hx, hpx⟩)
  rw [this]
  simp
set_option maxHeartbeats 400000 in
theorem indexFunc_any (p1 p2 : Value) (p : Int → Bool) (u : Value) (xs : List Int) (w : World) (hu : SlI w w.heap.size u xs)
  (hF : ∀ (W : World) (x : Int), Below w.heap.size w W → Calls Tryz.prog 128 #[.int .i64 x, p1, p2] W fun e w' => e = .returned (.bool (p x)) ∧ Below W.heap.size W w') :
  Calls Tryz.prog 139 #[u, .func (Fn.func 128) #[] #[p1, p2]] w fun e w' => e = .returned (.int .i64 (fidx p xs)) ∧ Below w.heap.size w w' := by
 obtain ⟨A, c, rfl, _, _, hn, hx⟩ := hu.open_
 clear hu
 have HF := Lib.hid hF
 clear hF
 go_enter Tryz.func139, Tryz.ntmps139
 go_wp2
 go_loopw [8] (fun i wr => ∃ k : Nat, k ≤ xs.length ∧ i = .int .i64 k ∧ Below w.heap.size w wr ∧ Hid (∀ y ∈ xs.take k, p y = false)) (fun i _ => xs.length - (intOf i).toNat)
 case atStart => exact ⟨0, Nat.zero_le _, rfl, Below.refl _ _, by intro y hy; simp at hy⟩
 case round =>
  obtain ⟨k, hk, rfl, hbel, hno⟩ := hrel
  by_cases hlt : k < xs.length
  ·obtain ⟨b, o, x, rfl, hb, HX, c1, _⟩ := SlI.at_ hx hlt
   have d1 := bcell hbel hb c1
   clear hx c1
   have HC := HF.out wr x hbel
   obtain ⟨B, hB⟩ : ∃ B, p x = B := ⟨_, rfl⟩
   rw [hB] at HC
   have HC := Lib.hid HC
   have HB := Lib.hid hB
   clear hB
   cases B
   ·go_wp2_with fail
    refine (unhide HC).mono ?_; rintro e w1 ⟨rfl, hb1⟩
    go_wp2
    go_roundw
    case rel =>
     refine ⟨k + 1, by omega, by go_num, hbel.trans (hb1.mono hbel.size), fun y hy => ?_⟩
     rw [take_snoc HX.out, List.mem_append, List.mem_singleton] at hy
     rcases hy with hy | rfl
     ·exact hno.out y hy
     ·exact HB.out
    case measure => simp [intOf]; omega
   ·have hfin := Lib.hid (fidx_some HX.out HB.out hno.out)
    go_wp2_with fail
    refine (unhide HC).mono ?_; rintro e w1 ⟨rfl, hb1⟩
    go_wp2
    go_ret
    exact ⟨by rw [hfin.out]; rfl, hbel.trans (hb1.mono hbel.size)⟩
  ·go_wp2
   go_ret
   have h1 := hno.out
   rw [List.take_of_length_le (by omega)] at h1
   exact ⟨by rw [fidx_none h1]; rfl, hbel⟩
theorem containsFunc_any (p1 p2 : Value) (p : Int → Bool) (u : Value) (xs : List Int) (w : World) (hu : SlI w w.heap.size u xs)
  (hF : ∀ (W : World) (x : Int), Below w.heap.size w W → Calls Tryz.prog 128 #[.int .i64 x, p1, p2] W fun e w' => e = .returned (.bool (p x)) ∧ Below W.heap.size W w') :
  Calls Tryz.prog 127 #[u, .func (Fn.func 128) #[] #[p1, p2]] w fun e w' => e = .returned (.bool (xs.any p)) ∧ Below w.heap.size w w' := by
 have hd := fidx_any p xs
 have HC := indexFunc_any p1 p2 p u xs w hu hF
 rw [← hd]
 generalize fidx p xs = r at *
 clear hd hF
 have HC := Lib.hid HC
 by_cases h : 0 ≤ r
 ·have e : decide (0 ≤ r) = true := by simpa using h
  rw [e]
  go_enter Tryz.func127, Tryz.ntmps127
  go_wp2_with fail
  refine (unhide HC).mono ?_; rintro e w1 ⟨rfl, hb1⟩
  go_wp2
  go_ret
  exact ⟨rfl, hb1⟩
 ·have e : decide (0 ≤ r) = false := by simpa using h
  rw [e]
  go_enter Tryz.func127, Tryz.ntmps127
  go_wp2_with fail
  refine (unhide HC).mono ?_; rintro e w1 ⟨rfl, hb1⟩
  go_wp2
  go_ret
  exact ⟨rfl, hb1⟩
theorem allWithin1_any (g1 g2 : Nat) (lo hi x : Int) (W : World) (h1 : W.cell? ⟨g1, 0, none⟩ = some (.int .i64 lo)) (h2 : W.cell? ⟨g2, 0, none⟩ = some (.int .i64 hi)) :
  Calls Tryz.prog 128 #[.int .i64 x, .pointer (some ⟨g1, 0, none⟩), .pointer (some ⟨g2, 0, none⟩)] W fun e w' => e = .returned (.bool (!inR x lo hi)) ∧ Below W.heap.size W w' := by
 go_enter Tryz.func128, Tryz.ntmps128
 go_wp2_with fail
 refine (within_any _ _ _ _).mono ?_; rintro e w' ⟨rfl, rfl⟩
 go_wp2
 go_ret
 exact ⟨rfl, Below.refl _ _⟩
def allR (l : List Int) (lo hi : Int) : Bool := l.all fun x => inR x lo hi
theorem allR_t {l : List Int} {lo hi : Int} : allR l lo hi = true ↔ ∀ x ∈ l, lo ≤ x ∧ x ≤ hi := by simp [allR, inR]
theorem allWithin_any (u : Value) (xs : List Int) (lo hi : Int) (w : World) (hu : SlI w w.heap.size u xs) :
  Calls Tryz.prog 93 #[u, .int .i64 lo, .int .i64 hi] w fun e w' => e = .returned (.bool (allR xs lo hi)) ∧ Below w.heap.size w w' := by
 obtain ⟨W, hW⟩ : ∃ W, W = (w.alloc (.cells #[.int .i64 lo] 3)).alloc (.cells #[.int .i64 hi] 3) := ⟨_, rfl⟩
 have g0 : Below w.heap.size w W := by rw [hW]; exact ((Below.refl _ _).alloc (Nat.le_refl _) _).alloc (by simp) _
 have k1 : Blk W w.heap.size 3 #[.int .i64 lo] := by rw [hW]; exact (Blk.new _ _ _).alloc _
 have k2 : Blk W (w.heap.size + 1) 3 #[.int .i64 hi] := by
  rw [hW]
  have := Blk.new (w.alloc (.cells #[.int .i64 lo] 3)) 3 #[.int .i64 hi]
  simpa only [World.size_alloc] using this
 have HC := containsFunc_any (.pointer (some ⟨w.heap.size, 0, none⟩)) (.pointer (some ⟨w.heap.size + 1, 0, none⟩)) (fun x => !inR x lo hi) u xs W (SlI.next g0 hu) (fun W' x hb =>
  allWithin1_any _ _ lo hi x W' ((k1.below hb k1.lt).cell' (i := 0) rfl) ((k2.below hb k2.lt).cell' (i := 0) rfl))
 have e : allR xs lo hi = !(xs.any fun x => !inR x lo hi) := by simp [allR, List.any_eq_not_all_not]
 rw [e]
 generalize (xs.any fun x => !inR x lo hi) = B at *
 obtain ⟨A, c, rfl, _, _, _, _⟩ := hu.open_
 clear hu e k1 k2
 have HC := Lib.hid HC
 have hmf : ∀ (fn : Fn) (first cap : Array Value) (w : World), (Instr.makeFunc fn first cap).run Tryz.prog w = .ok (.func fn first cap) w := fun _ _ _ _ => rfl
 go_enter Tryz.func93, Tryz.ntmps93
 go_wp2_with fail
 rw [← hW]
 refine (unhide HC).mono ?_; rintro e w1 ⟨rfl, hb1⟩
 go_wp2
 go_ret
 exact ⟨rfl, bthen g0 hb1⟩
def sumW (l : List Int) : Int := l.foldl (fun s x => wrap64 (s + x)) 0
theorem sumW_snoc (l : List Int) (x : Int) : sumW (l ++ [x]) = wrap64 (sumW l + x) := by simp [sumW]
theorem foldW (lo hi : Int) (h0 : lo ≤ 0) (h1 : 0 ≤ hi) : ∀ (l : List Int) (acc : Int) (m : Nat), (∀ x ∈ l, lo ≤ x ∧ x ≤ hi) → lo * m ≤ acc → acc ≤ hi * m → hi * ((m + l.length : Nat) : Int) ≤ 9223372036854775807 → -9223372036854775808 ≤ lo * ((m + l.length : Nat) : Int) →
  l.foldl (fun s x => wrap64 (s + x)) acc = acc + l.sum ∧ lo * ((m + l.length : Nat) : Int) ≤ acc + l.sum ∧ acc + l.sum ≤ hi * ((m + l.length : Nat) : Int)
 | [], acc, m, _, ha, hb, _, _ => by simp; exact ⟨ha, hb⟩
 | x :: l, acc, m, hl, ha, hb, hc, hd => by
  obtain ⟨hx1, hx2⟩ := hl x (by simp)
  have e : ((m + (x :: l).length : Nat) : Int) = (((m + 1) + l.length : Nat) : Int) := by simp; omega
  rw [e] at hc hd ⊢
  have m1 : lo * ((m + 1 : Nat) : Int) = lo * m + lo := by rw [Int.natCast_add, Int.mul_add]; simp
  have m2 : hi * ((m + 1 : Nat) : Int) = hi * m + hi := by rw [Int.natCast_add, Int.mul_add]; simp
  have n1 : lo * (((m + 1) + l.length : Nat) : Int) ≤ lo * ((m + 1 : Nat) : Int) := Int.mul_le_mul_of_nonpos_left h0 (by omega)
  have n2 : hi * ((m + 1 : Nat) : Int) ≤ hi * (((m + 1) + l.length : Nat) : Int) := Int.mul_le_mul_of_nonneg_left (by omega) h1
  have hw : wrap64 (acc + x) = acc + x := IntWalk.wrap64_in _ ⟨by omega, by omega⟩
  have ih := foldW lo hi h0 h1 l (acc + x) (m + 1) (fun y hy => hl y (by simp [hy])) (by omega) (by omega) hc hd
  rw [List.foldl_cons, hw, List.sum_cons]
  rw [← Int.add_assoc]
  exact ih
theorem sumW_small (l : List Int) (lo hi : Int) (h0 : lo ≤ 0) (h1 : 0 ≤ hi) (hl : ∀ x ∈ l, lo ≤ x ∧ x ≤ hi) (hb : hi * l.length ≤ 9223372036854775807) (hb' : -9223372036854775808 ≤ lo * l.length) : sumW l = l.sum ∧ lo * l.length ≤ l.sum ∧ l.sum ≤ hi * l.length := by
 have := foldW lo hi h0 h1 l 0 0 hl (by simp) (by simp) (by simpa using hb) (by simpa using hb')
 simpa [sumW] using this
set_option maxHeartbeats 400000 in
theorem sumOf_any (u : Value) (xs : List Int) (w : World) (hu : SlI w w.heap.size u xs) :
  Calls Tryz.prog 94 #[u] w fun e w' => e = .returned (.int .i64 (sumW xs)) ∧ w' = w := by
 obtain ⟨A, c, rfl, _, _, hn, hx⟩ := hu.open_
 clear hu
 go_enter Tryz.func94, Tryz.ntmps94
 go_wp2
 go_loop [3, 8] (fun s i => ∃ k : Nat, k ≤ xs.length ∧ i = .int .i64 k ∧ s = .int .i64 (sumW (xs.take k))) (fun _ i => xs.length - (intOf i).toNat)
 case atStart => exact ⟨0, Nat.zero_le _, rfl, rfl⟩
 case round =>
  obtain ⟨k, hk, rfl, rfl⟩ := hrel
  by_cases hlt : k < xs.length
  ·obtain ⟨b, o, x, rfl, hb, HX, c1, _⟩ := SlI.at_ hx hlt
   clear hx
   have HS := Lib.hid (show sumW (xs.take (k + 1)) = wrap64 (sumW (xs.take k) + x) by rw [take_snoc HX.out, sumW_snoc])
   generalize sumW (xs.take k) = s at *
   go_wp2
   go_round
   case rel => exact ⟨k + 1, by omega, by go_num, by rw [HS.out]⟩
   case measure => simp [intOf]; omega
  ·go_wp2
   go_ret
   exact ⟨by rw [List.take_of_length_le (by omega)]; rfl, rfl⟩
end Go.Proofs.YtcmlflppndfdcaaGreat
namespace Go.Proofs.YtcmlflppndfdcaaGreat
open Go.RowKit
def isQ (q : Qv) : Bool := inR q.v 1 5 && decide (q.f.length = q.t.length) && decide (q.f.length ≤ 6) && allR q.f 0 (q.v - 1) && allR q.t 0 (q.v - 1)
theorem isQ_t {q : Qv} : isQ q = true ↔ (1 ≤ q.v ∧ q.v ≤ 5) ∧ q.f.length = q.t.length ∧ q.f.length ≤ 6 ∧ (∀ x ∈ q.f, 0 ≤ x ∧ x ≤ q.v - 1) ∧ (∀ x ∈ q.t, 0 ≤ x ∧ x ≤ q.v - 1) := by
 simp only [isQ, Bool.and_eq_true, inR_t, allR_t, decide_eq_true_eq, and_assoc]
set_option maxHeartbeats 800000 in
theorem implIsQuiver_any (u : Value) (q : Qv) (w : World) (hu : QvR w w.heap.size u q) :
  Calls Tryz.prog 92 #[u] w fun e w' => e = .returned (.bool (isQ q)) ∧ Below w.heap.size w w' := by
 obtain ⟨A, c, C, d, rfl, hf, ht, hr, lf, lt⟩ := hu.open_
 clear hu
 obtain ⟨W, hW⟩ : ∃ W, W = w.alloc (.cells #[.int .i64 q.v, .slice A q.f.length c, .slice C q.t.length d] 29) := ⟨_, rfl⟩
 have g0 : Below w.heap.size w W := by rw [hW]; exact below_alloc _ _
 have kB : Blk W w.heap.size 29 #[.int .i64 q.v, .slice A q.f.length c, .slice C q.t.length d] := by rw [hW]; exact Blk.new _ _ _
 have c0 := kB.cell' (i := 0) rfl
 have c1 := kB.cell' (i := 1) rfl
 have c2 := kB.cell' (i := 2) rfl
 unfold isQ
 rcases h1 : inR q.v 1 5 with _ | _
 ·go_enter Tryz.func92, Tryz.ntmps92
  go_wp2_with fail
  rw [← hW]; clear hW
  refine (within_any _ _ _ _).mono ?_; rintro e w' ⟨rfl, rfl⟩
  rw [h1]
  go_wp2
  go_ret
  exact ⟨rfl, g0⟩
 have hb := inR_t.1 h1
 obtain ⟨hb1, hb2⟩ := hb
 by_cases h2 : q.f.length = q.t.length
 ·have e2 : ((q.f.length : Int) == q.t.length) = true := by rw [beq_iff_eq]; omega
  by_cases h3 : q.f.length ≤ 6
  ·have e3 : decide (q.f.length ≤ 6) = true := by simpa using h3
   have e2' : decide (q.f.length = q.t.length) = true := by simpa using h2
   rw [e2', e3]
   clear h2 e2' e3
   obtain ⟨B1, hB1⟩ : ∃ B, allR q.f 0 (q.v - 1) = B := ⟨_, rfl⟩
   obtain ⟨B2, hB2⟩ : ∃ B, allR q.t 0 (q.v - 1) = B := ⟨_, rfl⟩
   rw [hB1, hB2]
   have HB1 := Lib.hid hB1
   have HB2 := Lib.hid hB2
   clear hB1 hB2
   cases B1
   ·go_enter Tryz.func92, Tryz.ntmps92
    go_wp2_with fail
    rw [← hW]; clear hW
    refine (within_any _ _ _ _).mono ?_; rintro e w' ⟨rfl, rfl⟩
    rw [h1]
    go_wp2_with fail
    refine (allWithin_any _ q.f _ _ _ (SlI.next g0 hf)).mono ?_; rintro e w1 ⟨rfl, hb1⟩
    rw [HB1.out]
    go_wp2
    go_ret
    exact ⟨rfl, bthen g0 hb1⟩
   ·go_enter Tryz.func92, Tryz.ntmps92
    go_wp2_with fail
    rw [← hW]; clear hW
    refine (within_any _ _ _ _).mono ?_; rintro e w' ⟨rfl, rfl⟩
    rw [h1]
    go_wp2_with fail
    refine (allWithin_any _ q.f _ _ _ (SlI.next g0 hf)).mono ?_; rintro e w1 ⟨rfl, hb1⟩
    rw [HB1.out]
    have d0 := (kB.call hb1).cell' (i := 0) rfl
    have d2 := (kB.call hb1).cell' (i := 2) rfl
    have g1 := bthen g0 hb1
    clear c0 c1 c2
    go_wp2_with fail
    refine (allWithin_any _ q.t _ _ _ (SlI.next g1 ht)).mono ?_; rintro e w2 ⟨rfl, hb2⟩
    rw [HB2.out]
    go_wp2
    go_ret
    exact ⟨rfl, bthen g1 hb2⟩
  ·have e3 : decide (q.f.length ≤ 6) = false := by simpa using h3
   rw [e3]
   have e3' : ¬ ((q.f.length : Int) ≤ 6) := by omega
   clear h2
   simp only [Bool.and_false, Bool.false_and]
   go_enter Tryz.func92, Tryz.ntmps92
   go_wp2_with fail
   rw [← hW]; clear hW
   refine (within_any _ _ _ _).mono ?_; rintro e w' ⟨rfl, rfl⟩
   rw [h1]
   go_wp2
   go_ret
   exact ⟨rfl, g0⟩
 ·have e2 : ((q.f.length : Int) == q.t.length) = false := by rw [beq_eq_false_iff_ne]; omega
  have e2' : decide (q.f.length = q.t.length) = false := by simpa using h2
  rw [e2']
  simp only [Bool.and_false, Bool.false_and]
  go_enter Tryz.func92, Tryz.ntmps92
  go_wp2_with fail
  rw [← hW]; clear hW
  refine (within_any _ _ _ _).mono ?_; rintro e w' ⟨rfl, rfl⟩
  rw [h1]
  go_wp2
  go_ret
  exact ⟨rfl, g0⟩
def okTo (q : Qv) (k : Nat) : Prop := (∀ x ∈ q.f.take k, inR x 0 (wrap64 (q.v - 1)) = true) ∧ ∀ x ∈ q.t.take k, inR x 0 (wrap64 (q.v - 1)) = true
theorem isQ_bad {q : Qv} {x : Int} (hx : x ∈ q.f ∨ x ∈ q.t) (hr : inR x 0 (wrap64 (q.v - 1)) = false) : isQ q = false := by
 by_cases h : isQ q = true
 ·obtain ⟨hv, _, _, hf, ht⟩ := isQ_t.1 h
  have e : wrap64 (q.v - 1) = q.v - 1 := IntWalk.wrap64_in _ ⟨by omega, by omega⟩
  rw [e, inR_f] at hr
  rcases hx with hx | hx
  ·exact absurd (hf x hx) hr
  ·exact absurd (ht x hx) hr
 ·simpa using h
theorem isQ_end {q : Qv} {k : Nat} (h : okTo q k) (hk : ¬ (k < q.f.length ∧ k < q.t.length)) : isQ q = (inR q.v 1 5 && decide (q.f.length ≤ 6) && decide (q.t.length = q.f.length)) := by
 rw [Bool.eq_iff_iff, isQ_t]
 simp only [Bool.and_eq_true, inR_t, decide_eq_true_eq]
 constructor
 ·rintro ⟨h1, h2, h3, _⟩
  exact ⟨⟨h1, h3⟩, h2.symm⟩
 ·rintro ⟨⟨h1, h3⟩, h2⟩
  have e : wrap64 (q.v - 1) = q.v - 1 := IntWalk.wrap64_in _ ⟨by omega, by omega⟩
  unfold okTo at h
  rw [e, List.take_of_length_le (by omega), List.take_of_length_le (by omega)] at h
  exact ⟨h1, h2.symm, h3, fun x hx => inR_t.1 (h.1 x hx), fun x hx => inR_t.1 (h.2 x hx)⟩
theorem okTo_step {q : Qv} {k : Nat} {x y : Int} (h : okTo q k) (hx : q.f[k]? = some x) (hy : q.t[k]? = some y) (h1 : inR x 0 (wrap64 (q.v - 1)) = true) (h2 : inR y 0 (wrap64 (q.v - 1)) = true) : okTo q (k + 1) := by
 refine ⟨fun z hz => ?_, fun z hz => ?_⟩
 ·rw [take_snoc hx, List.mem_append, List.mem_singleton] at hz
  rcases hz with hz | rfl
  ·exact h.1 z hz
  ·exact h1
 ·rw [take_snoc hy, List.mem_append, List.mem_singleton] at hz
  rcases hz with hz | rfl
  ·exact h.2 z hz
  ·exact h2
set_option maxHeartbeats 1600000 in
theorem specIsQuiver_any (u : Value) (q : Qv) (w : World) (hu : QvR w w.heap.size u q) :
  Calls Tryz.prog 67 #[u] w fun e w' => e = .returned (.bool (isQ q)) ∧ Below w.heap.size w w' := by
 obtain ⟨A, c, C, d, rfl, hf, ht, hr, lf, lt⟩ := hu.open_
 clear hu
 have g0 : Below w.heap.size w (w.alloc (.cells #[.int .i64 q.v, .slice A q.f.length c, .slice C q.t.length d] 29)) := below_alloc _ _
 have kB := Blk.new w 29 #[.int .i64 q.v, .slice A q.f.length c, .slice C q.t.length d]
 go_enter Tryz.func67, Tryz.ntmps67
 go_wp2
 go_loopw [3] (fun i wr => ∃ k : Nat, k ≤ q.f.length ∧ i = .int .i64 k ∧ Below w.heap.size w wr ∧ Blk wr w.heap.size 29 #[.int .i64 q.v, .slice A q.f.length c, .slice C q.t.length d] ∧ Hid (okTo q k)) (fun i _ => q.f.length - (intOf i).toNat)
 case atStart => exact ⟨0, Nat.zero_le _, rfl, g0, kB, by intro x hx; simp at hx, by intro x hx; simp at hx⟩
 case round =>
  clear g0 kB
  obtain ⟨k, hk, rfl, hbel, kB, hok⟩ := hrel
  have c0 := kB.cell' (i := 0) rfl
  have c1 := kB.cell' (i := 1) rfl
  have c2 := kB.cell' (i := 2) rfl
  by_cases hlt : k < q.f.length ∧ k < q.t.length
  ·obtain ⟨hlt1, hlt2⟩ := hlt
   obtain ⟨b, o, x, rfl, hb, HX, x1, _⟩ := SlI.at_ hf hlt1
   obtain ⟨b', o', y, rfl, hb', HY, y1, _⟩ := SlI.at_ ht hlt2
   have s := hbel.size
   have d0 := InB.cell kB.lt c0
   have d1 := InB.cell kB.lt c1
   have d2 := InB.cell kB.lt c2
   have d3 := InB.cell (by omega) (bcell hbel hb x1)
   have d4 := InB.cell (by omega) (bcell hbel hb' y1)
   obtain ⟨u, hU⟩ : ∃ u, wrap64 (q.v - 1) = u := ⟨_, rfl⟩
   have HU := Lib.hid hU
   clear x1 y1 hf ht c0
   rcases hB1 : inR x 0 u with _ | _
   ·have hfin := Lib.hid (isQ_bad (q := q) (.inl (List.mem_of_getElem? HX.out)) (by rw [HU.out]; exact hB1))
    go_wp2
    (refine wp_region_inB (by kernel_rfl) (by kernel_rfl) ?_; (repeat (go_big_quiet_step ((go_at_call 68; exact InB.call_same (l1In_any _ _ _ _))))); refine wpQuiet_nil ?_; intro w1 hw'; obtain ⟨s1, hw1⟩ := hw'; have hb1 := s1.below; rw [← hw1] at hb1; clear hw1 s1)
    go_wp2
    go_ret
    exact ⟨by rw [hfin.out]; rfl, hbel.trans (hb1.mono s)⟩
   ·rcases hB2 : inR y 0 u with _ | _
    ·have hfin := Lib.hid (isQ_bad (q := q) (.inr (List.mem_of_getElem? HY.out)) (by rw [HU.out]; exact hB2))
     go_wp2
     (refine wp_region_inB (by kernel_rfl) (by kernel_rfl) ?_; (repeat (go_big_quiet_step ((go_at_call 68; exact InB.call_same (l1In_any _ _ _ _))))); refine wpQuiet_nil ?_; intro w1 hw'; obtain ⟨s1, hw1⟩ := hw'; have hb1 := s1.below; rw [← hw1] at hb1; clear hw1 s1)
     go_wp2
     go_ret
     exact ⟨by rw [hfin.out]; rfl, hbel.trans (hb1.mono s)⟩
    ·go_wp2
     (refine wp_region_inB (by kernel_rfl) (by kernel_rfl) ?_; (repeat (go_big_quiet_step ((go_at_call 68; exact InB.call_same (l1In_any _ _ _ _))))); refine wpQuiet_nil ?_; intro w1 hw'; obtain ⟨s1, hw1⟩ := hw'; have hb1 := s1.below; rw [← hw1] at hb1; clear hw1 s1)
     go_wp2
     go_roundw
     case rel => exact ⟨k + 1, by omega, by go_num, hbel.trans (hb1.mono s), kB.call hb1, okTo_step hok.out HX.out HY.out (by rw [HU.out]; exact hB1) (by rw [HU.out]; exact hB2)⟩
     case measure => simp [intOf]; omega
  ·have hE := isQ_end hok.out hlt
   have hx : k < q.f.length → ¬ k < q.t.length := fun a b => hlt ⟨a, b⟩
   clear hlt hf ht
   rcases hB1 : inR q.v 1 5 with _ | _
   ·rw [hB1] at hE
    have hfin := Lib.hid hE
    clear hE
    by_cases ha : k < q.f.length
    all_goals
     first | have hb := hx ha | skip
     clear hx
     go_wp2_with (go_at_call 68; refine (l1In_any _ _ _ _).mono ?_; rintro e w' ⟨rfl, rfl⟩; rw [hB1])
     go_ret
     exact ⟨by rw [hfin.out]; rfl, hbel⟩
   ·rw [hB1] at hE
    by_cases h6 : q.f.length ≤ 6
    ·by_cases hl : q.t.length = q.f.length
     ·have hfin : Hid (isQ q = true) := by show _ = _; rw [hE]; simp [h6, hl]
      have he : ((q.t.length : Int) == q.f.length) = true := by rw [beq_iff_eq]; omega
      have h6' : (q.f.length : Int) ≤ 6 := by omega
      clear hE hl
      by_cases ha : k < q.f.length
      all_goals
       first | have hb := hx ha | skip
       clear hx
       go_wp2_with (go_at_call 68; refine (l1In_any _ _ _ _).mono ?_; rintro e w' ⟨rfl, rfl⟩; rw [hB1])
       go_ret
       exact ⟨by rw [hfin.out]; rfl, hbel⟩
     ·have hfin : Hid (isQ q = false) := by show _ = _; rw [hE]; simp [hl]
      have he : ((q.t.length : Int) == q.f.length) = false := by rw [beq_eq_false_iff_ne]; omega
      have h6' : (q.f.length : Int) ≤ 6 := by omega
      clear hE hl
      by_cases ha : k < q.f.length
      all_goals
       first | have hb := hx ha | skip
       clear hx
       go_wp2_with (go_at_call 68; refine (l1In_any _ _ _ _).mono ?_; rintro e w' ⟨rfl, rfl⟩; rw [hB1])
       go_ret
       exact ⟨by rw [hfin.out]; rfl, hbel⟩
    ·have hfin : Hid (isQ q = false) := by show _ = _; rw [hE]; simp [h6]
     have h6' : ¬ ((q.f.length : Int) ≤ 6) := by omega
     clear hE h6
     by_cases ha : k < q.f.length
     all_goals
      first | have hb := hx ha | skip
      clear hx
      go_wp2_with (go_at_call 68; refine (l1In_any _ _ _ _).mono ?_; rintro e w' ⟨rfl, rfl⟩; rw [hB1])
      go_ret
      exact ⟨by rw [hfin.out]; rfl, hbel⟩
end Go.Proofs.YtcmlflppndfdcaaGreat
namespace Go.Proofs.YtcmlflppndfdcaaGreat
open Go.RowKit
def isFld (p : Int) : Bool := decide (p = 2 ∨ p = 3 ∨ p = 5)
theorem isFld_t {p : Int} : isFld p = true ↔ p = 2 ∨ p = 3 ∨ p = 5 := by simp [isFld]
theorem isFld_f {p : Int} : isFld p = false ↔ p ≠ 2 ∧ p ≠ 3 ∧ p ≠ 5 := by simp [isFld]
theorem isFld_r {p : Int} (h : isFld p = true) : 2 ≤ p ∧ p ≤ 5 := by have := isFld_t.1 h; omega
def isVec (p : Int) (v : List Int) : Bool := isFld p && decide (v.length ≤ 64) && allR v 0 (p - 1)
theorem isVec_t {p : Int} {v : List Int} : isVec p v = true ↔ isFld p = true ∧ v.length ≤ 64 ∧ ∀ x ∈ v, 0 ≤ x ∧ x ≤ p - 1 := by
 simp only [isVec, Bool.and_eq_true, decide_eq_true_eq, allR_t, and_assoc]
def isMat (p : Int) (m : Mx) : Bool := inR m.r 0 8 && inR m.c 0 8 && decide ((m.a.length : Int) = m.r * m.c) && isVec p m.a
theorem isMat_t {p : Int} {m : Mx} : isMat p m = true ↔ (0 ≤ m.r ∧ m.r ≤ 8) ∧ (0 ≤ m.c ∧ m.c ≤ 8) ∧ (m.a.length : Int) = m.r * m.c ∧ isVec p m.a = true := by
 simp only [isMat, Bool.and_eq_true, inR_t, decide_eq_true_eq, and_assoc]
def areDims (q : Qv) (d : List Int) : Bool := isQ q && decide ((d.length : Int) = q.v) && allR d 0 4 && decide (d.sum ≤ 8)
theorem areDims_t {q : Qv} {d : List Int} : areDims q d = true ↔ isQ q = true ∧ (d.length : Int) = q.v ∧ (∀ x ∈ d, 0 ≤ x ∧ x ≤ 4) ∧ d.sum ≤ 8 := by
 simp only [areDims, Bool.and_eq_true, decide_eq_true_eq, allR_t, and_assoc]
theorem mul_bd {a b : Int} (ha : 0 ≤ a ∧ a ≤ 8) (hb : 0 ≤ b ∧ b ≤ 8) : 0 ≤ a * b ∧ a * b ≤ 64 := by
 obtain ⟨n, rfl⟩ := Int.eq_ofNat_of_zero_le ha.1
 obtain ⟨m, rfl⟩ := Int.eq_ofNat_of_zero_le hb.1
 have h1 : n * m ≤ 8 * 8 := Nat.mul_le_mul (by omega) (by omega)
 have e : (n : Int) * m = ((n * m : Nat) : Int) := by simp
 rw [e]
 omega
theorem implIsField_any (p : Int) (w : World) : Calls Tryz.prog 46 #[.int .i64 p] w fun e w' => e = .returned (.bool (isFld p)) ∧ w' = w := by
 by_cases h2 : p = 2
 ·subst h2
  go_enter Tryz.func46, Tryz.ntmps46
  go_wp2
  go_ret
  exact ⟨rfl, rfl⟩
 by_cases h3 : p = 3
 ·subst h3
  go_enter Tryz.func46, Tryz.ntmps46
  go_wp2
  go_ret
  exact ⟨rfl, rfl⟩
 by_cases h5 : p = 5
 ·subst h5
  go_enter Tryz.func46, Tryz.ntmps46
  go_wp2
  go_ret
  exact ⟨rfl, rfl⟩
 have e : isFld p = false := isFld_f.2 ⟨h2, h3, h5⟩
 have e2 : (p == 2) = false := by rw [beq_eq_false_iff_ne]; exact h2
 have e3 : (p == 3) = false := by rw [beq_eq_false_iff_ne]; exact h3
 have e5 : (p == 5) = false := by rw [beq_eq_false_iff_ne]; exact h5
 rw [e]
 clear e h2 h3 h5
 go_enter Tryz.func46, Tryz.ntmps46
 go_wp2
 go_ret
 exact ⟨rfl, rfl⟩
theorem specIsField_any (p : Int) (w : World) : Calls Tryz.prog 43 #[.int .i64 p] w fun e w' => e = .returned (.bool (isFld p)) ∧ w' = w := by
 by_cases h2 : p = 2
 ·subst h2
  go_enter Tryz.func43, Tryz.ntmps43
  go_wp2
  go_ret
  exact ⟨rfl, rfl⟩
 by_cases h3 : p = 3
 ·subst h3
  go_enter Tryz.func43, Tryz.ntmps43
  go_wp2
  go_ret
  exact ⟨rfl, rfl⟩
 by_cases h5 : p = 5
 ·subst h5
  go_enter Tryz.func43, Tryz.ntmps43
  go_wp2
  go_ret
  exact ⟨rfl, rfl⟩
 have e : isFld p = false := isFld_f.2 ⟨h2, h3, h5⟩
 have e2 : (p == 2) = false := by rw [beq_eq_false_iff_ne]; exact h2
 have e3 : (p == 3) = false := by rw [beq_eq_false_iff_ne]; exact h3
 have e5 : (p == 5) = false := by rw [beq_eq_false_iff_ne]; exact h5
 rw [e]
 clear e h2 h3 h5
 go_enter Tryz.func43, Tryz.ntmps43
 go_wp2
 go_ret
 exact ⟨rfl, rfl⟩
theorem allR_end {v : List Int} {lo hi : Int} {k : Nat} (h : ∀ x ∈ v.take k, inR x lo hi = true) (hk : v.length ≤ k) : allR v lo hi = true := by
 rw [List.take_of_length_le hk] at h
 simpa [allR] using h
theorem allR_bad {v : List Int} {lo hi x : Int} {k : Nat} (h : v[k]? = some x) (hx : inR x lo hi = false) : allR v lo hi = false := by
 rw [Bool.eq_false_iff]
 intro h2
 have := List.all_eq_true.1 h2 x (List.mem_of_getElem? h)
 rw [hx] at this
 cases this
theorem allR_step {v : List Int} {lo hi x : Int} {k : Nat} (h : ∀ x ∈ v.take k, inR x lo hi = true) (hx : v[k]? = some x) (h2 : inR x lo hi = true) : ∀ x ∈ v.take (k + 1), inR x lo hi = true := by
 intro y hy
 rw [take_snoc hx, List.mem_append, List.mem_singleton] at hy
 rcases hy with hy | rfl
 ·exact h y hy
 ·exact h2
set_option maxHeartbeats 400000 in
theorem specIsVector_any (p : Int) (u : Value) (v : List Int) (w : World) (hu : SlI w w.heap.size u v) :
  Calls Tryz.prog 134 #[.int .i64 p, u] w fun e w' => e = .returned (.bool (isVec p v)) ∧ Below w.heap.size w w' := by
 obtain ⟨A, c, rfl, _, _, _, hv⟩ := hu.open_
 clear hu
 unfold isVec
 rcases h1 : isFld p with _ | _
 ·go_enter Tryz.func134, Tryz.ntmps134
  go_wp2_with fail
  refine (specIsField_any _ _).mono ?_; rintro e w ⟨rfl, rfl⟩
  rw [h1]
  go_wp2
  go_ret
  exact ⟨rfl, Below.refl _ _⟩
 have hp := isFld_r h1
 by_cases h2 : v.length ≤ 64
 ·have e2 : decide (v.length ≤ 64) = true := by simpa using h2
  have e2' : ¬ ((64 : Int) < v.length) := by omega
  rw [e2]
  clear e2
  go_enter Tryz.func134, Tryz.ntmps134
  go_wp2_with fail
  refine (specIsField_any _ _).mono ?_; rintro e w ⟨rfl, rfl⟩
  rw [h1]
  go_wp2
  go_loopw [5] (fun i wr => ∃ k : Nat, k ≤ v.length ∧ i = .int .i64 k ∧ Below w.heap.size w wr ∧ Hid (∀ x ∈ v.take k, inR x 0 (p - 1) = true)) (fun i _ => v.length - (intOf i).toNat)
  case atStart => exact ⟨0, Nat.zero_le _, rfl, Below.refl _ _, by show ∀ x ∈ _, _; simp⟩
  case round =>
   obtain ⟨k, hk, rfl, hbel, hall⟩ := hrel
   by_cases hlt : k < v.length
   ·obtain ⟨b, o, x, rfl, hb, HX, x1, _⟩ := SlI.at_ hv hlt
    have x2 := bcell hbel hb x1
    clear x1 hv
    rcases h3 : inR x 0 (p - 1) with _ | _
    ·have HF := Lib.hid (allR_bad HX.out h3)
     have H3 := Lib.hid h3
     clear h3
     go_wp2_with fail
     refine (l1In_any _ _ _ _).mono ?_; rintro e w ⟨rfl, rfl⟩
     rw [H3.out]
     go_wp2
     go_ret
     exact ⟨by rw [HF.out]; rfl, hbel⟩
    ·have HS := Lib.hid (allR_step hall.out HX.out h3)
     have H3 := Lib.hid h3
     clear h3
     go_wp2_with fail
     refine (l1In_any _ _ _ _).mono ?_; rintro e w ⟨rfl, rfl⟩
     rw [H3.out]
     go_wp2
     go_roundw
     case rel => exact ⟨k + 1, by omega, by go_num, hbel, HS.out⟩
     case measure => simp [intOf]; omega
   ·have HF := Lib.hid (allR_end hall.out (by omega))
    go_wp2
    go_ret
    exact ⟨by rw [HF.out]; rfl, hbel⟩
 ·have e2 : decide (v.length ≤ 64) = false := by simpa using h2
  have e2' : (64 : Int) < v.length := by omega
  rw [e2]
  clear e2
  go_enter Tryz.func134, Tryz.ntmps134
  go_wp2_with fail
  refine (specIsField_any _ _).mono ?_; rintro e w ⟨rfl, rfl⟩
  rw [h1]
  go_wp2
  go_ret
  exact ⟨rfl, Below.refl _ _⟩
set_option maxHeartbeats 800000 in
theorem specIsMatrix_any (p : Int) (u : Value) (m : Mx) (w : World) (hu : MxR w w.heap.size u m) :
  Calls Tryz.prog 100 #[.int .i64 p, u] w fun e w' => e = .returned (.bool (isMat p m)) ∧ Below w.heap.size w w' := by
 obtain ⟨A, c, rfl, hf, _, _, lf⟩ := hu.open_
 clear hu
 obtain ⟨W, hW⟩ : ∃ W, W = w.alloc (.cells #[.int .i64 m.r, .int .i64 m.c, .slice A m.a.length c] 50) := ⟨_, rfl⟩
 have g0 : Below w.heap.size w W := by rw [hW]; exact below_alloc _ _
 have kB : Blk W w.heap.size 50 #[.int .i64 m.r, .int .i64 m.c, .slice A m.a.length c] := by rw [hW]; exact Blk.new _ _ _
 have c0 := kB.cell' (i := 0) rfl
 have c1 := kB.cell' (i := 1) rfl
 have c2 := kB.cell' (i := 2) rfl
 replace hf := SlI.next g0 hf
 unfold isMat
 rcases h1 : inR m.r 0 8 with _ | _
 ·go_enter Tryz.func100, Tryz.ntmps100
  go_wp2_with fail
  rw [← hW]; clear hW
  refine (l1In_any _ _ _ _).mono ?_; rintro e w' ⟨rfl, rfl⟩
  rw [h1]
  go_wp2
  go_ret
  exact ⟨rfl, g0⟩
 have b1 := inR_t.1 h1
 rcases h2 : inR m.c 0 8 with _ | _
 ·go_enter Tryz.func100, Tryz.ntmps100
  go_wp2_with fail
  rw [← hW]; clear hW
  refine (l1In_any _ _ _ _).mono ?_; rintro e w' ⟨rfl, rfl⟩
  rw [h1]
  go_wp2_with fail
  refine (l1In_any _ _ _ _).mono ?_; rintro e w' ⟨rfl, rfl⟩
  rw [h2]
  go_wp2
  go_ret
  exact ⟨rfl, g0⟩
 have b2 := inR_t.1 h2
 have b3 := mul_bd b1 b2
 obtain ⟨b11, b12⟩ := b1
 obtain ⟨b21, b22⟩ := b2
 obtain ⟨b31, b32⟩ := b3
 rcases h3 : decide ((m.a.length : Int) = m.r * m.c) with _ | _
 ·have e3 : ((m.a.length : Int) == m.r * m.c) = false := by rw [beq_eq_false_iff_ne]; exact of_decide_eq_false h3
  clear h3
  go_enter Tryz.func100, Tryz.ntmps100
  go_wp2_with fail
  rw [← hW]; clear hW
  refine (l1In_any _ _ _ _).mono ?_; rintro e w' ⟨rfl, rfl⟩
  rw [h1]
  go_wp2_with fail
  refine (l1In_any _ _ _ _).mono ?_; rintro e w' ⟨rfl, rfl⟩
  rw [h2]
  go_wp2
  go_ret
  exact ⟨rfl, g0⟩
 have e3 : ((m.a.length : Int) == m.r * m.c) = true := by rw [beq_iff_eq]; exact of_decide_eq_true h3
 clear h3
 obtain ⟨B, hB⟩ : ∃ B, isVec p m.a = B := ⟨_, rfl⟩
 rw [hB]
 have HB := Lib.hid hB
 clear hB
 go_enter Tryz.func100, Tryz.ntmps100
 go_wp2_with fail
 rw [← hW]; clear hW
 refine (l1In_any _ _ _ _).mono ?_; rintro e w' ⟨rfl, rfl⟩
 rw [h1]
 go_wp2_with fail
 refine (l1In_any _ _ _ _).mono ?_; rintro e w' ⟨rfl, rfl⟩
 rw [h2]
 go_wp2_with fail
 refine (specIsVector_any _ _ m.a _ hf).mono ?_; rintro e w1 ⟨rfl, hb1⟩
 rw [HB.out]
 go_wp2
 go_ret
 exact ⟨rfl, bthen g0 hb1⟩
end Go.Proofs.YtcmlflppndfdcaaGreat
namespace Go.Proofs.YtcmlflppndfdcaaGreat
open Go.RowKit
theorem sumW_dims {d : List Int} (h : ∀ x ∈ d, 0 ≤ x ∧ x ≤ 4) (hl : d.length ≤ 5) : sumW d = d.sum ∧ 0 ≤ d.sum ∧ d.sum ≤ 20 := by
 obtain ⟨h1, h2, h3⟩ := sumW_small d 0 4 (by omega) (by omega) h (by omega) (by omega)
 exact ⟨h1, by omega, by omega⟩
theorem sum_bd : ∀ (l : List Int), (∀ x ∈ l, 0 ≤ x ∧ x ≤ 4) → 0 ≤ l.sum ∧ l.sum ≤ 4 * l.length
 | [], _ => by simp
 | a :: l, h => by
  have := sum_bd l (fun x hx => h x (by simp [hx]))
  have := h a (by simp)
  simp only [List.sum_cons, List.length_cons]
  omega
theorem sum_take_le (d : List Int) (k : Nat) (h : ∀ x ∈ d.take k, 0 ≤ x ∧ x ≤ 4) : 0 ≤ (d.take k).sum ∧ (d.take k).sum ≤ 4 * k := by
 have h1 := sum_bd _ h
 have h2 : (d.take k).length ≤ k := List.length_take_le _ _
 omega
set_option maxHeartbeats 800000 in
theorem implAreDims_any (u xv : Value) (q : Qv) (d : List Int) (w : World) (hu : QvR w w.heap.size u q) (hx : SlI w w.heap.size xv d) :
  Calls Tryz.prog 48 #[u, xv] w fun e w' => e = .returned (.bool (areDims q d)) ∧ Below w.heap.size w w' := by
 obtain ⟨A, c, C, d', eu⟩ := hu.form
 subst eu
 have lx := hx
 obtain ⟨XA, xc, rfl, _, _, lx, _⟩ := lx.open_
 obtain ⟨W, hW⟩ : ∃ W, W = w.alloc (.cells #[.int .i64 q.v, .slice A q.f.length c, .slice C q.t.length d'] 29) := ⟨_, rfl⟩
 have g0 : Below w.heap.size w W := by rw [hW]; exact below_alloc _ _
 have kB : Blk W w.heap.size 29 #[.int .i64 q.v, .slice A q.f.length c, .slice C q.t.length d'] := by rw [hW]; exact Blk.new _ _ _
 have c0 := kB.cell' (i := 0) rfl
 have c1 := kB.cell' (i := 1) rfl
 have c2 := kB.cell' (i := 2) rfl
 replace hu := QvR.next g0 hu
 replace hx := SlI.next g0 hx
 unfold areDims
 rcases hq : isQ q with _ | _
 ·go_enter Tryz.func48, Tryz.ntmps48
  go_wp2_with fail
  rw [← hW]; clear hW
  refine (implIsQuiver_any _ _ _ hu).mono ?_; rintro e w1 ⟨rfl, hb1⟩
  rw [hq]
  clear hu
  replace g0 := bthen g0 hb1
  replace hx := SlI.next hb1 hx
  replace kB := kB.call hb1
  replace c0 := kB.cell' (i := 0) rfl
  replace c1 := kB.cell' (i := 1) rfl
  replace c2 := kB.cell' (i := 2) rfl
  clear hb1
  go_wp2
  go_ret
  exact ⟨rfl, g0⟩
 obtain ⟨hv1, hv2⟩ := (isQ_t.1 hq).1
 rcases h2 : decide ((d.length : Int) = q.v) with _ | _
 ·have e2 : ((d.length : Int) == q.v) = false := by rw [beq_eq_false_iff_ne]; exact of_decide_eq_false h2
  clear h2
  go_enter Tryz.func48, Tryz.ntmps48
  go_wp2_with fail
  rw [← hW]; clear hW
  refine (implIsQuiver_any _ _ _ hu).mono ?_; rintro e w1 ⟨rfl, hb1⟩
  rw [hq]
  clear hu
  replace g0 := bthen g0 hb1
  replace hx := SlI.next hb1 hx
  replace kB := kB.call hb1
  replace c0 := kB.cell' (i := 0) rfl
  replace c1 := kB.cell' (i := 1) rfl
  replace c2 := kB.cell' (i := 2) rfl
  clear hb1
  go_wp2
  go_ret
  exact ⟨rfl, g0⟩
 have e2 : ((d.length : Int) == q.v) = true := by rw [beq_iff_eq]; exact of_decide_eq_true h2
 have hl5 : d.length ≤ 5 := by have := of_decide_eq_true h2; omega
 clear h2
 rcases h3 : allR d 0 4 with _ | _
 ·have H3 := Lib.hid h3
  clear h3
  go_enter Tryz.func48, Tryz.ntmps48
  go_wp2_with fail
  rw [← hW]; clear hW
  refine (implIsQuiver_any _ _ _ hu).mono ?_; rintro e w1 ⟨rfl, hb1⟩
  rw [hq]
  clear hu
  replace g0 := bthen g0 hb1
  replace hx := SlI.next hb1 hx
  replace kB := kB.call hb1
  replace c0 := kB.cell' (i := 0) rfl
  replace c1 := kB.cell' (i := 1) rfl
  replace c2 := kB.cell' (i := 2) rfl
  clear hb1
  go_wp2_with fail
  refine (allWithin_any _ d _ _ _ hx).mono ?_; rintro e w_1 ⟨rfl, hb_1⟩
  replace g0 := bthen g0 hb_1
  replace hx := SlI.next hb_1 hx
  replace kB := kB.call hb_1
  replace c0 := kB.cell' (i := 0) rfl
  replace c1 := kB.cell' (i := 1) rfl
  replace c2 := kB.cell' (i := 2) rfl
  rw [H3.out]
  go_wp2
  go_ret
  exact ⟨rfl, g0⟩
 obtain ⟨s1, s2, s3⟩ := sumW_dims (allR_t.1 h3) hl5
 have H3 := Lib.hid h3
 have H1 := Lib.hid s1
 clear h3 s1
 obtain ⟨s, hs⟩ : ∃ s, d.sum = s := ⟨_, rfl⟩
 rw [hs] at H1 s2 s3 ⊢
 clear hs
 go_enter Tryz.func48, Tryz.ntmps48
 go_wp2_with fail
 rw [← hW]; clear hW
 refine (implIsQuiver_any _ _ _ hu).mono ?_; rintro e w1 ⟨rfl, hb1⟩
 rw [hq]
 clear hu
 replace g0 := bthen g0 hb1
 replace hx := SlI.next hb1 hx
 replace kB := kB.call hb1
 replace c0 := kB.cell' (i := 0) rfl
 replace c1 := kB.cell' (i := 1) rfl
 replace c2 := kB.cell' (i := 2) rfl
 clear hb1
 go_wp2_with fail
 refine (allWithin_any _ d _ _ _ hx).mono ?_; rintro e w_2 ⟨rfl, hb_2⟩
 replace g0 := bthen g0 hb_2
 replace hx := SlI.next hb_2 hx
 replace kB := kB.call hb_2
 replace c0 := kB.cell' (i := 0) rfl
 replace c1 := kB.cell' (i := 1) rfl
 replace c2 := kB.cell' (i := 2) rfl
 rw [H3.out]
 go_wp2_with fail
 refine (sumOf_any _ d _ hx).mono ?_; rintro e w2 ⟨rfl, rfl⟩
 rw [H1.out]
 go_wp2
 go_ret
 exact ⟨by simp, g0⟩
set_option maxHeartbeats 800000 in
theorem specAreDims_any (u xv : Value) (q : Qv) (d : List Int) (w : World) (hu : QvR w w.heap.size u q) (hx : SlI w w.heap.size xv d) :
  Calls Tryz.prog 28 #[u, xv] w fun e w' => e = .returned (.bool (areDims q d)) ∧ Below w.heap.size w w' := by
 obtain ⟨A, c, C, d', eu⟩ := hu.form
 subst eu
 have lx := hx
 obtain ⟨XA, xc, rfl, _, _, lx, _⟩ := lx.open_
 obtain ⟨W, hW⟩ : ∃ W, W = w.alloc (.cells #[.int .i64 q.v, .slice A q.f.length c, .slice C q.t.length d'] 29) := ⟨_, rfl⟩
 have g0 : Below w.heap.size w W := by rw [hW]; exact below_alloc _ _
 have kB : Blk W w.heap.size 29 #[.int .i64 q.v, .slice A q.f.length c, .slice C q.t.length d'] := by rw [hW]; exact Blk.new _ _ _
 have c0 := kB.cell' (i := 0) rfl
 have c1 := kB.cell' (i := 1) rfl
 have c2 := kB.cell' (i := 2) rfl
 replace hu := QvR.next g0 hu
 replace hx := SlI.next g0 hx
 unfold areDims
 rcases hq : isQ q with _ | _
 ·go_enter Tryz.func28, Tryz.ntmps28
  go_wp2_with fail
  rw [← hW]; clear hW
  refine (specIsQuiver_any _ _ _ hu).mono ?_; rintro e w1 ⟨rfl, hb1⟩
  rw [hq]
  clear hu
  replace g0 := bthen g0 hb1
  replace hx := SlI.next hb1 hx
  replace kB := kB.call hb1
  replace c0 := kB.cell' (i := 0) rfl
  replace c1 := kB.cell' (i := 1) rfl
  replace c2 := kB.cell' (i := 2) rfl
  clear hb1
  go_wp2
  go_ret
  exact ⟨rfl, g0⟩
 obtain ⟨hv1, hv2⟩ := (isQ_t.1 hq).1
 rcases h2 : decide ((d.length : Int) = q.v) with _ | _
 ·have e2 : ((d.length : Int) != q.v) = true := by rw [bne_iff_ne]; exact of_decide_eq_false h2
  clear h2
  go_enter Tryz.func28, Tryz.ntmps28
  go_wp2_with fail
  rw [← hW]; clear hW
  refine (specIsQuiver_any _ _ _ hu).mono ?_; rintro e w1 ⟨rfl, hb1⟩
  rw [hq]
  clear hu
  replace g0 := bthen g0 hb1
  replace hx := SlI.next hb1 hx
  replace kB := kB.call hb1
  replace c0 := kB.cell' (i := 0) rfl
  replace c1 := kB.cell' (i := 1) rfl
  replace c2 := kB.cell' (i := 2) rfl
  clear hb1
  go_wp2
  go_ret
  exact ⟨rfl, g0⟩
 have e2 : ((d.length : Int) != q.v) = false := by rw [bne_eq_false_iff_eq]; exact of_decide_eq_true h2
 have hl5 : d.length ≤ 5 := by have := of_decide_eq_true h2; omega
 clear h2
 go_enter Tryz.func28, Tryz.ntmps28
 go_wp2_with fail
 rw [← hW]; clear hW
 refine (specIsQuiver_any _ _ _ hu).mono ?_; rintro e w1 ⟨rfl, hb1⟩
 rw [hq]
 clear hu
 replace g0 := bthen g0 hb1
 replace hx := SlI.next hb1 hx
 replace kB := kB.call hb1
 replace c0 := kB.cell' (i := 0) rfl
 replace c1 := kB.cell' (i := 1) rfl
 replace c2 := kB.cell' (i := 2) rfl
 clear hb1
 go_wp2
 go_loopw [5, 6] (fun n i wr => ∃ k : Nat, k ≤ d.length ∧ i = .int .i64 k ∧ n = .int .i64 (d.take k).sum ∧ wr = w1 ∧ Hid (∀ x ∈ d.take k, inR x 0 4 = true)) (fun _ i _ => d.length - (intOf i).toNat)
 case atStart => exact ⟨0, Nat.zero_le _, rfl, by simp, rfl, by show ∀ x ∈ _, _; simp⟩
 case round =>
  obtain ⟨k, hk, rfl, rfl, rfl, hall⟩ := hrel
  have hsm := sum_take_le d k (fun x hx => inR_t.1 (hall.out x hx))
  obtain ⟨hs1, hs2⟩ := hsm
  obtain ⟨s, hs⟩ : ∃ s, (d.take k).sum = s := ⟨_, rfl⟩
  rw [hs] at hs1 hs2 ⊢
  have HS := Lib.hid hs
  clear hs
  by_cases hlt : k < d.length
  ·obtain ⟨b, o, x, rfl, hb, HX, x1, _⟩ := SlI.at_ hx hlt
   clear hx
   rcases h3 : inR x 0 4 with _ | _
   ·have HF := Lib.hid (allR_bad HX.out h3)
    have H3 := Lib.hid h3
    clear h3
    go_wp2_with fail
    refine (l1In_any _ _ _ _).mono ?_; rintro e w' ⟨rfl, rfl⟩
    rw [H3.out]
    go_wp2
    go_ret
    exact ⟨by rw [HF.out]; rfl, g0⟩
   ·have HT := Lib.hid (allR_step hall.out HX.out h3)
    have HSU := Lib.hid (show (d.take (k + 1)).sum = s + x by rw [take_snoc HX.out, List.sum_append, HS.out]; simp)
    obtain ⟨x3, x4⟩ := inR_t.1 h3
    have H3 := Lib.hid h3
    clear h3
    go_wp2_with fail
    refine (l1In_any _ _ _ _).mono ?_; rintro e w' ⟨rfl, rfl⟩
    rw [H3.out]
    go_wp2
    go_roundw
    case rel => exact ⟨k + 1, by omega, by go_num, by rw [HSU.out], trivial, HT.out⟩
    case measure => simp [intOf]; omega
  ·have HF := Lib.hid (allR_end hall.out (by omega))
   have HE := Lib.hid (show d.sum = s by rw [← HS.out, List.take_of_length_le (by omega)])
   go_wp2
   go_ret
   exact ⟨by rw [HF.out, HE.out]; simp, g0⟩
def dAt (d : List Int) (v : Int) : Int := d.getD v.toNat 0
def okM (x : Rp) (m : Mx) (f t : Int) : Bool := isMat x.p m && decide (m.c = dAt x.d f) && decide (m.r = dAt x.d t)
def okMs (x : Rp) (k : Nat) : Bool := (List.range k).all fun i => okM x (x.m.getD i ⟨0, 0, []⟩) (x.q.f.getD i 0) (x.q.t.getD i 0)
def isRep (x : Rp) : Bool := isFld x.p && areDims x.q x.d && decide (x.m.length = x.q.f.length) && okMs x x.m.length
theorem okMs_succ {x : Rp} {k : Nat} {m : Mx} {f t : Int} (hm : x.m[k]? = some m) (hf : x.q.f[k]? = some f) (ht : x.q.t[k]? = some t) : okMs x (k + 1) = (okMs x k && okM x m f t) := by
 simp [okMs, List.range_succ, List.getD_eq_getElem?_getD, hm, hf, ht]
theorem okMs_mono {x : Rp} {k n : Nat} (h : okMs x k = false) (hk : k ≤ n) : okMs x n = false := by
 simp only [okMs, List.all_eq_false, List.mem_range] at h ⊢
 obtain ⟨i, hi, h⟩ := h
 exact ⟨i, by omega, h⟩
theorem dAt_of {d : List Int} {n : Nat} {y : Int} (h : d[n]? = some y) : dAt d (n : Int) = y := by
 simp [dAt, List.getD_eq_getElem?_getD, h]
theorem rep_at {x : Rp} (hq : areDims x.q x.d = true) {k : Nat} (hk : k < x.q.f.length) : ∃ (nf nt : Nat) (yf yt : Int), x.q.f[k]? = some (nf : Int) ∧ x.q.t[k]? = some (nt : Int) ∧ x.d[nf]? = some yf ∧ x.d[nt]? = some yt ∧ nf < x.d.length ∧ nt < x.d.length ∧ nf ≤ 5 ∧ nt ≤ 5 ∧ k < x.q.t.length := by
 obtain ⟨h1, h2, h3, h4⟩ := areDims_t.1 hq
 obtain ⟨hv, hl, h6, hf, ht⟩ := isQ_t.1 h1
 have ef := List.getElem?_eq_getElem hk
 have et := List.getElem?_eq_getElem (show k < x.q.t.length by omega)
 have bf := hf _ (List.mem_of_getElem? ef)
 have bt := ht _ (List.mem_of_getElem? et)
 obtain ⟨nf, enf⟩ := Int.eq_ofNat_of_zero_le bf.1
 obtain ⟨nt, ent⟩ := Int.eq_ofNat_of_zero_le bt.1
 rw [enf] at ef bf
 rw [ent] at et bt
 exact ⟨nf, nt, x.d[nf]'(by omega), x.d[nt]'(by omega), ef, et, List.getElem?_eq_getElem _, List.getElem?_eq_getElem _, by omega, by omega, by omega, by omega, by omega⟩
end Go.Proofs.YtcmlflppndfdcaaGreat
namespace Go.Proofs.YtcmlflppndfdcaaGreat
open Go.RowKit
theorem QvR.sl {w : World} {B n m a c : Nat} {v : Int} {A C : Option Addr} {q : Qv} (h : QvR w B (.agg #[.int .i64 v, .slice A n a, .slice C m c]) q) : SlI w B (.slice A n a) q.f ∧ SlI w B (.slice C m c) q.t := by
 obtain ⟨s, t, e, h1, h2, _⟩ := h
 simp only [Value.agg.injEq, Array.mk.injEq, List.cons.injEq, and_true] at e
 obtain ⟨_, rfl, rfl⟩ := e
 exact ⟨h1, h2⟩
set_option maxHeartbeats 3200000 in
set_option maxRecDepth 100000 in
theorem specIsRep_any (u : Value) (x : Rp) (w : World) (hu : RpR w w.heap.size u x) :
  Calls Tryz.prog 56 #[u] w fun e w' => e = .returned (.bool (isRep x)) ∧ Below w.heap.size w w' := by
 obtain ⟨A, a, C, c, E, e, H, h, rfl, hq, hd, hm, hp, ld, lm⟩ := hu.open_
 clear hu
 obtain ⟨W, hW⟩ : ∃ W, W = w.alloc (.cells #[.int .i64 x.p, .int .i64 x.q.v, .slice A x.q.f.length a, .slice C x.q.t.length c, .slice E x.d.length e, .slice H x.m.length h] 32) := ⟨_, rfl⟩
 have g0 : Below w.heap.size w W := by rw [hW]; exact below_alloc _ _
 have kB : Blk W w.heap.size 32 #[.int .i64 x.p, .int .i64 x.q.v, .slice A x.q.f.length a, .slice C x.q.t.length c, .slice E x.d.length e, .slice H x.m.length h] := by rw [hW]; exact Blk.new _ _ _
 have c0 := kB.cell' (i := 0) rfl
 have c1 := kB.cell' (i := 1) rfl
 have c2 := kB.cell' (i := 2) rfl
 have c3 := kB.cell' (i := 3) rfl
 have c4 := kB.cell' (i := 4) rfl
 have c5 := kB.cell' (i := 5) rfl
 replace hq := QvR.next g0 hq
 replace hd := SlI.next g0 hd
 replace hm := SlM.next g0 hm
 unfold isRep
 rcases h1 : isFld x.p with _ | _
 ·go_enter Tryz.func56, Tryz.ntmps56
  go_wp2_with fail
  rw [← hW]; clear hW
  refine (specIsField_any _ _).mono ?_; rintro e w1 ⟨rfl, rfl⟩
  rw [h1]
  go_wp2
  go_ret
  exact ⟨rfl, g0⟩
 rcases h2 : areDims x.q x.d with _ | _
 ·have H2 := Lib.hid h2
  clear h2
  go_enter Tryz.func56, Tryz.ntmps56
  go_wp2_with fail
  rw [← hW]; clear hW
  refine (specIsField_any _ _).mono ?_; rintro e w1 ⟨rfl, rfl⟩
  rw [h1]
  go_wp2_with fail
  refine (specAreDims_any _ _ _ _ _ hq hd).mono ?_; rintro e w_3 ⟨rfl, hb_3⟩
  replace g0 := bthen g0 hb_3
  replace hq := QvR.next hb_3 hq
  replace hd := SlI.next hb_3 hd
  replace hm := SlM.next hb_3 hm
  replace kB := kB.call hb_3
  replace c0 := kB.cell' (i := 0) rfl
  replace c1 := kB.cell' (i := 1) rfl
  replace c2 := kB.cell' (i := 2) rfl
  replace c3 := kB.cell' (i := 3) rfl
  replace c4 := kB.cell' (i := 4) rfl
  replace c5 := kB.cell' (i := 5) rfl
  rw [H2.out]
  go_wp2
  go_ret
  exact ⟨rfl, g0⟩
 obtain ⟨lf, lt⟩ := hq.lens
 rcases h3 : decide (x.m.length = x.q.f.length) with _ | _
 ·have e3 : ((x.m.length : Int) != x.q.f.length) = true := by rw [bne_iff_ne]; have := of_decide_eq_false h3; omega
  have H2 := Lib.hid h2
  clear h2 h3
  go_enter Tryz.func56, Tryz.ntmps56
  go_wp2_with fail
  rw [← hW]; clear hW
  refine (specIsField_any _ _).mono ?_; rintro e w1 ⟨rfl, rfl⟩
  rw [h1]
  go_wp2_with fail
  refine (specAreDims_any _ _ _ _ _ hq hd).mono ?_; rintro e w_4 ⟨rfl, hb_4⟩
  replace g0 := bthen g0 hb_4
  replace hq := QvR.next hb_4 hq
  replace hd := SlI.next hb_4 hd
  replace hm := SlM.next hb_4 hm
  replace kB := kB.call hb_4
  replace c0 := kB.cell' (i := 0) rfl
  replace c1 := kB.cell' (i := 1) rfl
  replace c2 := kB.cell' (i := 2) rfl
  replace c3 := kB.cell' (i := 3) rfl
  replace c4 := kB.cell' (i := 4) rfl
  replace c5 := kB.cell' (i := 5) rfl
  rw [H2.out]
  go_wp2
  go_ret
  exact ⟨rfl, g0⟩
 have e3 : ((x.m.length : Int) != x.q.f.length) = false := by rw [bne_eq_false_iff_eq]; have := of_decide_eq_true h3; omega
 have H3 := Lib.hid (of_decide_eq_true h3)
 have H2 := Lib.hid h2
 clear h2 h3
 go_enter Tryz.func56, Tryz.ntmps56
 go_wp2_with fail
 rw [← hW]; clear hW
 refine (specIsField_any _ _).mono ?_; rintro e w1 ⟨rfl, rfl⟩
 rw [h1]
 go_wp2_with fail
 refine (specAreDims_any _ _ _ _ _ hq hd).mono ?_; rintro e W1 ⟨rfl, hb0⟩
 replace g0 := bthen g0 hb0
 replace hq := QvR.next hb0 hq
 replace hd := SlI.next hb0 hd
 replace hm := SlM.next hb0 hm
 replace kB := kB.call hb0
 replace c0 := kB.cell' (i := 0) rfl
 replace c1 := kB.cell' (i := 1) rfl
 replace c2 := kB.cell' (i := 2) rfl
 replace c3 := kB.cell' (i := 3) rfl
 replace c4 := kB.cell' (i := 4) rfl
 replace c5 := kB.cell' (i := 5) rfl
 clear hb0
 rw [H2.out]
 obtain ⟨hf, ht⟩ := hq.sl
 clear hq
 go_wp2
 go_loopw [3] (fun i wr => ∃ k : Nat, k ≤ x.m.length ∧ i = .int .i64 k ∧ Below W1.heap.size W1 wr ∧ Hid (okMs x k = true)) (fun i _ => x.m.length - (intOf i).toNat)
 case atStart => exact ⟨0, Nat.zero_le _, rfl, Below.refl _ _, rfl⟩
 case round =>
  obtain ⟨k, hk, rfl, hbel, hok⟩ := hrel
  clear c0 c1 c2 c3 c4 c5
  have z5 := (kB.call hbel).cell' (i := 5) rfl
  by_cases hlt : k < x.m.length
  ·have hkf : k < x.q.f.length := by have := H3.out; omega
   obtain ⟨nf, nt, yf, yt, ef, et, df, dt, lnf, lnt, lnf5, lnt5, hkt⟩ := rep_at H2.out hkf
   obtain ⟨b, o, m, A', c', rfl, hb, HX, x1, x2, x3, hsl, i1, i2, lml⟩ := SlM.at_ hm hlt
   obtain ⟨bf, of_, xf, rfl, hbf, HXF, f1, _⟩ := SlI.at_ hf hkf
   obtain ⟨bt, ot, xt, rfl, hbt, HXT, t1, _⟩ := SlI.at_ ht hkt
   obtain ⟨bd, od, xdf, rfl, hbd, HXDF, d1, ddf⟩ := SlI.at_ hd lnf
   obtain ⟨bd', od', xdt, ebd, hbd', HXDT, d2, ddt⟩ := SlI.at_ hd lnt
   injection ebd with ebd
   injection ebd with ebd1 ebd2
   subst ebd1 ebd2
   have q1 := HXF.out
   rw [ef] at q1
   injection q1 with q1
   subst q1
   have q2 := HXT.out
   rw [et] at q2
   injection q2 with q2
   subst q2
   have hsucc := okMs_succ HX.out ef et
   rw [hok.out, Bool.true_and, okM, dAt_of HXDF.out, dAt_of HXDT.out] at hsucc
   have HSU := Lib.hid hsucc
   clear hsucc HXDF HXDT HXF HXT ef et df dt hf ht hd hm
   have gx := hbel
   have hm0 := InB.cell (w := wr) (by have := hbel.size; omega) (bcell hbel hb x1)
   have hm1 := InB.cell (w := wr) (by have := hbel.size; omega) (bcell hbel hb x2)
   have hm2 := InB.cell (w := wr) (by have := hbel.size; omega) (bcell hbel hb x3)
   have gx1 := gx.size
   have hF := InB.cell (w := wr) (by omega) (bcell gx hbf f1)
   have hT := InB.cell (w := wr) (by omega) (bcell gx hbt t1)
   have hD1 := InB.cell (w := wr) (by omega) (bcell gx hbd d1)
   have hD2 := InB.cell (w := wr) (by omega) (bcell gx hbd d2)
   have kBx := kB.call gx
   have r0 := fun s : InB wr => (kBx.call s.below).cell' (i := 0) rfl
   have r2 := fun s : InB wr => (kBx.call s.below).cell' (i := 2) rfl
   have r3 := fun s : InB wr => (kBx.call s.below).cell' (i := 3) rfl
   have r4 := fun s : InB wr => (kBx.call s.below).cell' (i := 4) rfl
   have r5 := fun s : InB wr => (kBx.call s.below).cell' (i := 5) rfl
   have HM : Hid (∀ s : InB wr, MxR s.val s.val.heap.size (.agg #[.int .i64 m.r, .int .i64 m.c, .slice A' m.a.length c']) m) := fun s => ⟨_, rfl, SlI.next s.below (SlI.next gx hsl), i1, i2⟩
   have g1 := bthen g0 gx
   have HGX := Lib.hid gx
   have HG1 := Lib.hid g1
   clear x1 x2 x3 f1 t1 d1 d2 hsl i1 i2 kB kBx gx g1 g0
   have a1 : (0 : Int) ≤ (k : Int) := by omega
   have a2 : (k : Int) < x.q.f.length := by omega
   have a3 : (k : Int) < x.q.t.length := by omega
   have a4 : (0 : Int) ≤ (nf : Int) := by omega
   have a5 : (nf : Int) < x.d.length := by omega
   have a6 : (0 : Int) ≤ (nt : Int) := by omega
   have a7 : (nt : Int) < x.d.length := by omega
   have a8 : (k : Int) < x.m.length := by omega
   rcases h4 : isMat x.p m with _ | _
   ·have HF := Lib.hid (okMs_mono (x := x) (k := k + 1) (n := x.m.length) (by rw [HSU.out, h4]; rfl) (by omega))
    go_wp2
    (refine wp_region_inB (by kernel_rfl) (by kernel_rfl) ?_; (repeat (go_big_quiet_step ((go_at_call 100; exact InB.call (specIsMatrix_any _ _ m _ (HM.out _)))))); refine wpQuiet_nil ?_; intro w1 hw'; obtain ⟨s1, hw1⟩ := hw'; have hb1 := s1.below; rw [← hw1] at hb1; clear hw1 s1)
    go_wp2
    go_ret
    exact ⟨by rw [HF.out]; rfl, bthen HG1.out hb1⟩
   rcases h5 : decide (m.c = xdf) with _ | _
   ·have HF := Lib.hid (okMs_mono (x := x) (k := k + 1) (n := x.m.length) (by rw [HSU.out, h5]; simp) (by omega))
    have e5 : (m.c != xdf) = true := by rw [bne_iff_ne]; exact of_decide_eq_false h5
    clear h5
    go_wp2
    (refine wp_region_inB (by kernel_rfl) (by kernel_rfl) ?_; (repeat (go_big_quiet_step ((go_at_call 100; exact InB.call (specIsMatrix_any _ _ m _ (HM.out _)))))); refine wpQuiet_nil ?_; intro w1 hw'; obtain ⟨s1, hw1⟩ := hw'; have hb1 := s1.below; rw [← hw1] at hb1; clear hw1 s1)
    go_wp2
    go_ret
    exact ⟨by rw [HF.out]; rfl, bthen HG1.out hb1⟩
   have e5 : (m.c != xdf) = false := by rw [bne_eq_false_iff_eq]; exact of_decide_eq_true h5
   rcases h6 : decide (m.r = xdt) with _ | _
   ·have HF := Lib.hid (okMs_mono (x := x) (k := k + 1) (n := x.m.length) (by rw [HSU.out, h6]; simp) (by omega))
    have e6 : (m.r != xdt) = true := by rw [bne_iff_ne]; exact of_decide_eq_false h6
    clear h5 h6
    go_wp2
    (refine wp_region_inB (by kernel_rfl) (by kernel_rfl) ?_; (repeat (go_big_quiet_step ((go_at_call 100; exact InB.call (specIsMatrix_any _ _ m _ (HM.out _)))))); refine wpQuiet_nil ?_; intro w1 hw'; obtain ⟨s1, hw1⟩ := hw'; have hb1 := s1.below; rw [← hw1] at hb1; clear hw1 s1)
    go_wp2
    go_ret
    exact ⟨by rw [HF.out]; rfl, bthen HG1.out hb1⟩
   have e6 : (m.r != xdt) = false := by rw [bne_eq_false_iff_eq]; exact of_decide_eq_true h6
   have HF := Lib.hid (show okMs x (k + 1) = true by rw [HSU.out, h4, h5, h6]; rfl)
   clear h5 h6
   go_wp2
   (refine wp_region_inB (by kernel_rfl) (by kernel_rfl) ?_; (repeat (go_big_quiet_step ((go_at_call 100; exact InB.call (specIsMatrix_any _ _ m _ (HM.out _)))))); refine wpQuiet_nil ?_; intro w1 hw'; obtain ⟨s1, hw1⟩ := hw'; have hb1 := s1.below; rw [← hw1] at hb1; clear hw1 s1)
   go_wp2
   go_roundw
   case rel => exact ⟨k + 1, by omega, by go_num, bthen HGX.out hb1, HF.out⟩
   case measure => simp [intOf]; omega
  ·have HF := Lib.hid (show okMs x x.m.length = true by have := hok.out; rwa [show k = x.m.length by omega] at this)
   have g1 := bthen g0 hbel
   go_wp2
   go_ret
   exact ⟨by rw [HF.out]; rfl, g1⟩
end Go.Proofs.YtcmlflppndfdcaaGreat
namespace Go.Proofs.YtcmlflppndfdcaaGreat
open Go.RowKit
theorem okMs_all {x : Rp} (h : okMs x x.m.length = true) : ∀ m ∈ x.m, isMat x.p m = true := by
 intro m hm
 obtain ⟨j, hj⟩ := List.getElem?_of_mem hm
 have hl := lt_of_some hj
 simp only [okMs, List.all_eq_true, List.mem_range] at h
 have := h j hl
 rw [List.getD_eq_getElem?_getD, hj, Option.getD_some] at this
 simp only [okM, Bool.and_eq_true] at this
 exact this.1.1
theorem isRep_t {x : Rp} : isRep x = true ↔ isFld x.p = true ∧ areDims x.q x.d = true ∧ x.m.length = x.q.f.length ∧ okMs x x.m.length = true := by
 simp only [isRep, Bool.and_eq_true, decide_eq_true_eq, and_assoc]
theorem totA_le {ms : List Mx} {n : Nat} (h : ∀ m ∈ ms, m.a.length ≤ n) : totA ms ≤ ms.length * n := by
 induction ms with
 | nil => simp [totA, tot]
 | cons m ms ih =>
  have h1 := h m (by simp)
  have h2 := ih (fun x hx => h x (by simp [hx]))
  simp only [totA, tot, List.map_cons, List.sum_cons, List.length_cons] at h2 ⊢
  rw [Nat.add_mul]
  omega
theorem isRep_size {x : Rp} (h : isRep x = true) : x.size ≤ 1000 := by
 obtain ⟨h1, h2, h3, h4⟩ := isRep_t.1 h
 obtain ⟨k1, k2, k3, k4⟩ := areDims_t.1 h2
 obtain ⟨q1, q2, q3, q4, q5⟩ := isQ_t.1 k1
 have h5 := totA_le (ms := x.m) (n := 64) (fun m hm => (isVec_t.1 (isMat_t.1 (okMs_all h4 m hm)).2.2.2).2.1)
 simp only [Rp.size, Qv.size, szM]
 have : x.m.length * 64 ≤ 6 * 64 := Nat.mul_le_mul_right _ (by omega)
 omega
theorem rp0_size : rp0.size = 0 := rfl
end Go.Proofs.YtcmlflppndfdcaaGreat
namespace Go.Proofs.YtcmlflppndfdcaaGreat
open Go.RowKit
theorem chg3 (w : World) (g : Nat) (u0 u1 u2 : Value) : Chg g (g + 1) w (((w.setCell ⟨g, 0, none⟩ u0).setCell ⟨g, 1, none⟩ u1).setCell ⟨g, 2, none⟩ u2) := by
 have s : ∀ (w : World) (i : Nat) (u : Value), Chg g (g + 1) w (w.setCell ⟨g, i, none⟩ u) := fun w i u => chg_set (Nat.le_refl _) (Nat.lt_succ_self _)
 exact ((s _ _ _).trans (s _ _ _)).trans (s _ _ _)
theorem chg6 (w : World) (g : Nat) (u0 u1 u2 u3 u4 u5 : Value) : Chg g (g + 1) w ((((((w.setCell ⟨g, 0, none⟩ u0).setCell ⟨g, 1, none⟩ u1).setCell ⟨g, 2, none⟩ u2).setCell ⟨g, 3, none⟩ u3).setCell ⟨g, 4, none⟩ u4).setCell ⟨g, 5, none⟩ u5) := by
 have s : ∀ (w : World) (i : Nat) (u : Value), Chg g (g + 1) w (w.setCell ⟨g, i, none⟩ u) := fun w i u => chg_set (Nat.le_refl _) (Nat.lt_succ_self _)
 exact (((((s _ _ _).trans (s _ _ _)).trans (s _ _ _)).trans (s _ _ _)).trans (s _ _ _)).trans (s _ _ _)
end Go.Proofs.YtcmlflppndfdcaaGreat
namespace Go.Proofs.YtcmlflppndfdcaaGreat
open Go.RowKit
def rowF (V : Nat) (g : Nat → Int) : List Int := (List.range V).map g
def matF (V : Nat) (g : Nat → Nat → Int) : List (List Int) := (List.range V).map fun a => rowF V (g a)
theorem rowF_length (V : Nat) (g : Nat → Int) : (rowF V g).length = V := by simp [rowF]
theorem matF_length (V : Nat) (g : Nat → Nat → Int) : (matF V g).length = V := by simp [matF]
theorem rowF_get {V j : Nat} (g : Nat → Int) (h : j < V) : (rowF V g)[j]? = some (g j) := by simp [rowF, h]
theorem matF_get {V j : Nat} (g : Nat → Nat → Int) (h : j < V) : (matF V g)[j]? = some (rowF V (g j)) := by simp [matF, h]
theorem rowF_getD {V j : Nat} (g : Nat → Int) (h : j < V) : (rowF V g).getD j 0 = g j := by rw [List.getD_eq_getElem?_getD, rowF_get g h]; rfl
theorem rowF_congr {V : Nat} {g h : Nat → Int} (e : ∀ a, a < V → g a = h a) : rowF V g = rowF V h := by
 apply List.ext_getElem?
 intro i
 by_cases hi : i < V
 ·rw [rowF_get g hi, rowF_get h hi, e i hi]
 ·rw [List.getElem?_eq_none (by rw [rowF_length]; omega), List.getElem?_eq_none (by rw [rowF_length]; omega)]
theorem matF_congr {V : Nat} {g h : Nat → Nat → Int} (e : ∀ a b, a < V → b < V → g a b = h a b) : matF V g = matF V h := by
 apply List.ext_getElem?
 intro i
 by_cases hi : i < V
 ·rw [matF_get g hi, matF_get h hi, rowF_congr (fun b hb => e i b hi hb)]
 ·rw [List.getElem?_eq_none (by rw [matF_length]; omega), List.getElem?_eq_none (by rw [matF_length]; omega)]
theorem rowF_set {V j : Nat} (g : Nat → Int) (x : Int) : (rowF V g).set j x = rowF V fun b => if b = j then x else g b := by
 apply List.ext_getElem?
 intro i
 rw [List.getElem?_set, rowF_length]
 by_cases hi : i < V
 ·rw [rowF_get (fun b => if b = j then x else g b) hi]
  by_cases e : j = i
  ·rw [if_pos e, if_pos (by omega), if_pos e.symm]
  ·rw [if_neg e, rowF_get _ hi, if_neg (fun h => e h.symm)]
 ·rw [List.getElem?_eq_none (l := rowF V fun b => if b = j then x else g b) (by rw [rowF_length]; omega)]
  split
  ·rw [if_neg (by omega)]
  ·rw [List.getElem?_eq_none (by rw [rowF_length]; omega)]
theorem matF_set {V j : Nat} (g : Nat → Nat → Int) (h : Nat → Int) : (matF V g).set j (rowF V h) = matF V fun a b => if a = j then h b else g a b := by
 apply List.ext_getElem?
 intro i
 rw [List.getElem?_set, matF_length]
 by_cases hi : i < V
 ·rw [matF_get (fun a b => if a = j then h b else g a b) hi]
  by_cases e : j = i
  ·subst e
   rw [if_pos rfl, if_pos hi]
   simp
  ·rw [if_neg e, matF_get _ hi]
   congr 1
   apply rowF_congr
   intro b _
   rw [if_neg (fun h => e h.symm)]
 ·rw [List.getElem?_eq_none (l := matF V fun a b => if a = j then h b else g a b) (by rw [matF_length]; omega)]
  split
  ·rw [if_neg (by omega)]
  ·rw [List.getElem?_eq_none (by rw [matF_length]; omega)]
theorem OutO.cellS {w : World} {lo hi g n c j : Nat} {vs : List Value} {v : Value} (ho : OutO w lo hi (.slice (some ⟨g, 0, none⟩) n c) vs) (hv : vs[j]? = some v) : w.cell? ⟨g, j, none⟩ = some v := by
 have hj := lt_of_some hv
 have hn : n = vs.length := by
  rcases ho.1.2 with ⟨e, _⟩ | ⟨g', cap', cur, e, _⟩
  ·cases e
  ·injection e with _ e _
 subst hn
 have hc := ho.1.cellAt j (by omega)
 rw [hc, hv]
theorem OutO.frozenS {w : World} {lo hi g n c : Nat} {vs : List Value} (ho : OutO w lo hi (.slice (some ⟨g, 0, none⟩) n c) vs) (j : Nat) : w.frozen? ⟨g, j, none⟩ = false := by
 have hn : n = vs.length := by
  rcases ho.1.2 with ⟨e, _⟩ | ⟨g', cap', cur, e, _⟩
  ·cases e
  ·injection e with _ e _
 subst hn
 exact ho.1.frozenAt j
theorem Fam.rowAt {w : World} {lo hi j : Nat} {vs : List Value} {ll : List (List Int)} {l : List Int} (hF : Fam w lo hi (vs.zip ll)) (hvl : vs.length = ll.length) (hl : ll[j]? = some l) (hne : 0 < l.length) :
  ∃ g c, vs[j]? = some (.slice (some ⟨g, 0, none⟩) l.length c) ∧ OwnI w lo (.slice (some ⟨g, 0, none⟩) l.length c) l ∧ l.length ≤ c ∧ c ≤ 9223372036854775807 ∧ lo ≤ g ∧ g < hi := by
 have hj := lt_of_some hl
 have hv : vs[j]? = some (vs[j]'(by omega)) := List.getElem?_eq_getElem (by omega)
 have h := hF.1 (vs[j]'(by omega), l) (by rw [zip_split hv hl]; simp)
 rcases h.1.1.2 with ⟨e, h0⟩ | ⟨g, cap, cur, e, hg, _, hnc, hcm, _⟩
 ·simp only at h0
  omega
 ·simp only at e
  refine ⟨g, cap, by rw [hv, e], by rw [← e]; exact h.1, hnc, by simp only [maxLen] at hcm; omega, hg, h.2 g (by simp [e, Value.ownBlock])⟩
theorem zip_set {vs : List Value} {ll : List (List Int)} {j : Nat} {v : Value} {l l' : List Int} (hv : vs[j]? = some v) (hl : ll[j]? = some l) : vs.zip (ll.set j l') = (vs.take j).zip (ll.take j) ++ (v, l') :: (vs.drop (j + 1)).zip (ll.drop (j + 1)) := by
 have hj := lt_of_some hl
 rw [zip_split hv (l := l') (by rw [List.getElem?_set, if_pos rfl, if_pos hj]), List.take_set_of_le (Nat.le_refl j), List.drop_set_of_lt (by omega)]
theorem Fam.putAt {w : World} {lo hi j i g c : Nat} {vs : List Value} {ll : List (List Int)} {l : List Int} {x : Int} (hF : Fam w lo hi (vs.zip ll)) (hv : vs[j]? = some (.slice (some ⟨g, 0, none⟩) l.length c)) (hl : ll[j]? = some l)
  (ho : OwnI w lo (.slice (some ⟨g, 0, none⟩) l.length c) l) (hx : I64 x) : Fam (w.setCell ⟨g, i, none⟩ (.int .i64 x)) lo hi (vs.zip (ll.set j (l.set i x))) := by
 rw [zip_set hv hl]
 rw [zip_split hv hl] at hF
 have hp := ho.put (j := i) hx
 exact hF.turn hp.1 hp.2
end Go.Proofs.YtcmlflppndfdcaaGreat
namespace Go.Proofs.YtcmlflppndfdcaaGreat
open Go.RowKit
theorem below_grown {B : Nat} {w w' : World} {row : Option Nat} (hg : w.grownBy w' row) (hB : ∀ k, row = some k → B ≤ k) (hs : B ≤ w.heap.size) : Below B w w' :=
 ⟨hg.os, hg.tape, hg.output, hg.size, fun k hk => hg.block k (by omega) (fun e => by have := hB k e.symm; omega)⟩
theorem wpList_appS {w : World} {ops : Array Oper} {rest : List Oper} {o : Oper} {a : Act} {Q : Exit → Act → World → Prop} (hgd : o.guard = none) (s x : Operand)
  (ho : o.op = .call { callee := .builtin .append, args := #[s, x], argTypes := #[57, 57] })
  (base : Nat) (v : Value) (vs : List Value) (hs : a.eval s = v) (hown : w.ownsRow base 22 1 v vs.length vs) (A : Option Addr) (c : Nat) (u : Value) (hx : a.eval x = .slice A 1 c) (hA : ∃ b o, A = some ⟨b, o, none⟩ ∧ w.cell? ⟨b, o, none⟩ = some u) (h1 : u.oneCell' = true)
  (hn : vs.length + 1 ≤ 1048576) (hbase : base ≤ w.heap.size)
  (h : ∀ v' w', w'.ownsRow base 22 1 v' (vs ++ [u]).length (vs ++ [u]) → w.grownBy w' v.ownBlock → (v'.ownBlock = v.ownBlock ∨ v'.ownBlock = some w.heap.size) → wpList Tryz.prog ops Q rest (a.put o.dst v') w') : wpList Tryz.prog ops Q (o :: rest) a w := by
 obtain ⟨i0, hi, hz0, hz1, hz2⟩ := info_parts infoInts
 obtain ⟨b, off, rfl, hc⟩ := hA
 refine wpList_append_G w hgd s x _ ho base 22 i0 _ 1 24 Tryz.underlying57 hi hz0 hz1 hz2 rfl (by decide) v vs.length _ hs hown (some ⟨b, off, none⟩) 1 c [u] hx ⟨by simp, .inr ⟨b, off, rfl, fun j u' hu => ?_⟩⟩ (by simpa using h1) (by simp only [maxLen]; omega) (by omega) hbase fun v' w' h2 h3 h4 => ?_
 ·match j, hu with
  | 0, hu =>
   simp at hu
   subst hu
   exact hc
 ·exact h v' w' (by simpa using h2) h3 h4
theorem Fam.grownO {w w' : World} {lo hi base n : Nat} {L : List (Value × List Int)} {v : Value} {vs : List Value} (hF : Fam w lo hi L) (ho : w.ownsRow base 22 1 v n vs) (hg : w.grownBy w' v.ownBlock) : Fam w' lo hi L := by
 refine ⟨fun p hp => ⟨(hF.1 p hp).1.kept hg ?_, (hF.1 p hp).2⟩, hF.2⟩
 rcases ho.2 with ⟨rfl, _⟩ | ⟨g, cap, cur, rfl, _, hh, _⟩
 ·rcases hA : p.1.ownBlock with _ | x
  ·exact .inl rfl
  ·right
   simp [Value.ownBlock]
 ·right
  exact fun e => (hF.1 p hp).1.blkne (g := g) (t := 22) (cs := cur) hh (by decide) (by rw [e]; rfl)
theorem OutO.blkne {w : World} {lo hi g : Nat} {v : Value} {vs : List Value} {t : TypeId} {cs : Array Value} (h : OutO w lo hi v vs) (hb : Blk w g t cs) (ht : 22 ≠ t) : some g ≠ v.ownBlock := by
 rcases h.1.2 with ⟨rfl, _⟩ | ⟨g', cap, cur, rfl, _, hh, _⟩
 ·simp [Value.ownBlock]
 ·intro he
  have : g = g' := by simpa [Value.ownBlock] using he
  subst this
  unfold Blk at hb
  rw [hh] at hb
  injection hb with hb
  injection hb with _ hb
  exact ht hb
end Go.Proofs.YtcmlflppndfdcaaGreat
namespace Go.Proofs.YtcmlflppndfdcaaGreat
open Go.RowKit
section
variable {P : Program} {ops : Array Oper} {Q : Exit → Act → World → Prop} {sp : List NS} {D : List (List Nat)} {m s : Nat} {a0 : Act} {w0 : World}
theorem set_getD {listed : Array Bool} {i : Nat} (his : i < listed.size) (j : Nat) : (listed.setIfInBounds i true).getD j false = (listed.getD j false || j == i) := by
 by_cases e : i = j
 ·subst e
  simp [Array.getD_eq_getD_getElem?, Array.getElem?_setIfInBounds, his]
 ·rw [getD_set_ne _ e]
  simp [Ne.symm e]
theorem count_set {listed : Array Bool} {i : Nat} (his : i < ops.size) (hli : listed.getD i false = false) (hls : listed.size = ops.size) :
  ((List.range ops.size).filter fun j => !(listed.setIfInBounds i true).getD j false).length + 1 = ((List.range ops.size).filter fun j => !listed.getD j false).length := by
 have hmem : i ∈ (List.range ops.size).filter fun j => !listed.getD j false := by
  rw [List.mem_filter]; exact ⟨List.mem_range.2 his, by rw [hli]; rfl⟩
 have e : (List.range ops.size).filter (fun j => !(listed.setIfInBounds i true).getD j false) = ((List.range ops.size).filter fun j => !listed.getD j false).filter (fun j => j != i) := by
  rw [List.filter_filter]
  congr 1
  funext j
  rw [set_getD (hls ▸ his)]
  simp [Bool.not_or, Bool.and_comm, bne]
 have hnd : ((List.range ops.size).filter fun j => !listed.getD j false).Nodup := List.nodup_range.filter _
 rw [e]
 have := List.length_erase_of_mem hmem
 rw [hnd.erase_eq_filter] at this
 have h1 := List.length_pos_of_mem hmem
 omega
theorem count_from {listed : Array Bool} {k : Nat} (hl : ∀ j, listed.getD j false = decide (j < k)) (hk : k ≤ ops.size) : ((List.range ops.size).filter fun j => !listed.getD j false).length = ops.size - k := by
 have e : (List.range ops.size).filter (fun j => !listed.getD j false) = (List.range' k (ops.size - k)) := by
  have e1 : (List.range ops.size) = List.range k ++ List.range' k (ops.size - k) := by
   have h := List.range'_append_1 (s := 0) (m := k) (n := ops.size - k)
   rw [Nat.zero_add] at h
   rw [List.range_eq_range', List.range_eq_range', h]
   congr 1
   omega
  rw [e1, List.filter_append]
  rw [List.filter_eq_nil_iff.2 (fun j hj => by rw [hl]; simp at hj ⊢; exact hj), List.nil_append]
  rw [List.filter_eq_self.2 (fun j hj => by rw [hl]; simp [List.mem_range'] at hj ⊢; omega)]
 rw [e, List.length_range']
theorem actP_fold (v : Nat → Value) (p : Nat → Bool) : ∀ k, actP ops a0 v p k = ((List.range k).filter p).foldl (fun a k => a.put (dstAt ops k) (v k)) a0
 | 0 => rfl
 | k + 1 => by
  rw [List.range_succ, List.filter_append, List.foldl_append, ← actP_fold v p k]
  conv => lhs; unfold actP
  rcases h : p k with _ | _ <;> simp [h]
theorem net_tail2 (hok : ∀ i o, ops[i]? = some o → NetOk ops D (m + 1) i o) : ∀ (fuel k : Nat) (listed : Array Bool) (a : Act) (w : World), fuel + k = ops.size → m ≤ k → listed.size = ops.size → (∀ j, listed.getD j false = decide (j < k)) →
  wpList P ops Q (ops.toList.drop k) a w → wpAny P .any ops Q fuel listed a w
 | fuel, k, listed, a, w, hf, hm, hls, hl, h => by
  have hld : ∀ j, j < ops.size → listed.getD j true = decide (j < k) := fun j hj => by
   rw [← hl j]
   simp [Array.getD_eq_getD_getElem?, Array.getElem?_eq_getElem (show j < listed.size by omega)]
  have hr : ∀ i ∈ Region.ready .any ops listed, i = k ∧ k < ops.size := fun i hi => by
   obtain ⟨h0, o, ho, hall⟩ := mem_ready.1 hi
   have hin := (Array.getElem?_eq_some_iff.1 ho).1
   rw [hld i hin] at h0
   have hik : k ≤ i := by simpa using h0
   refine ⟨?_, by omega⟩
   have hcl := (hok i o ho).danc (fun j => j < k) (fun e he hb => by have := hall e he hb; rw [hl] at this; simpa using this) (fun j hj x hx => by
    have hjs : j < ops.size := by omega
    have := (hok j _ (Array.getElem?_eq_getElem hjs)).dlt x hx
    omega)
   rcases Nat.lt_or_ge k i with hlt | hge
   ·have := hcl k ((hok i o ho).tail (by omega) k hlt)
    omega
   ·omega
  cases fuel with
  | zero =>
   refine ⟨?_, ?_⟩
   ·apply List.eq_nil_iff_forall_not_mem.2
    intro i hi
    have := hr i hi
    omega
   ·rw [List.drop_of_length_le (by simp; omega)] at h
    exact h
  | succ fuel =>
   have hks : k < ops.size := by omega
   have hke := Array.getElem?_eq_getElem hks
   have hdrop : ops.toList.drop k = ops[k] :: ops.toList.drop (k + 1) := by
    rw [List.drop_eq_getElem_cons (by simpa using hks)]
    simp
   rw [hdrop] at h
   have hready : k ∈ Region.ready .any ops listed := mem_ready.2 ⟨by rw [hld k hks]; simp, _, hke, fun e he hb => by rw [hl]; simpa using (hok k _ hke).direct e he hb⟩
   refine ⟨fun h0 => (by rw [h0] at hready; cases hready), fun i hi => ?_⟩
   obtain ⟨rfl, _⟩ := hr i hi
   unfold wpOp
   simp only [hke]
   have hw : Region.wanted ops[i] (yielded ops a.tmps) = true := by simp [Region.wanted, (hok i _ hke).guard]
   simp only [wpList, hw, if_true] at h ⊢
   have nxt : ∀ a w, wpList P ops Q (ops.toList.drop (i + 1)) a w → wpAny P .any ops Q fuel (listed.setIfInBounds i true) a w := fun a w h =>
    net_tail2 hok fuel (i + 1) _ a w (by omega) (by omega) (by simpa using hls) (fun j => by
     by_cases e : i = j
     ·subst e
      simp [Array.getD_eq_getD_getElem?, Array.getElem?_setIfInBounds, hls, hks]
     ·rw [getD_set_ne _ e, hl]
      congr 1
      rw [eq_iff_iff]
      omega) h
   rcases h with h | h
   ·exact .inl (Oper.wp_mono nxt h)
   ·exact .inr h
theorem net_any2 (hB : netB ops D (m + 1) = true) (hms : m < ops.size) (hsm : s < m) (hD : ∀ j, j < m → j ≠ s → j ∈ D.getD m []) (hst : ∀ s ∈ sp, s.stable) (hdo : ∀ i o, i < m → ops[i]? = some o → netDo P ops sp D a0 w0 i o)
  (hend : ∀ x w, Below w0.heap.size w0 w → (∀ i, i < m → known sp D x i w) → (∀ i, i < m → w0.heap.size ≤ x.lo i ∧ x.lo i ≤ x.hi i ∧ x.hi i ≤ w.heap.size) → (∀ i j, i < m → j < m → i ≠ j → x.hi i ≤ x.lo j ∨ x.hi j ≤ x.lo i) → wpList P ops Q (ops.toList.drop m) (netAct ops a0 x.v m) w)
  (hend2 : ∀ x w, Below w0.heap.size w0 w → (∀ i, i < m ∧ i ≠ s → known sp D x i w) → (∀ i, i < m ∧ i ≠ s → w0.heap.size ≤ x.lo i ∧ x.lo i ≤ x.hi i ∧ x.hi i ≤ w.heap.size) → (∀ i j, i < m ∧ i ≠ s → j < m ∧ j ≠ s → i ≠ j → x.hi i ≤ x.lo j ∨ x.hi j ≤ x.lo i) → ∀ om os, ops[m]? = some om → ops[s]? = some os → wpList P ops Q (om :: os :: ops.toList.drop (m + 1)) (actP ops a0 x.v (fun j => j != s) m) w) :
  ∀ (fuel : Nat) (listed : Array Bool) (x : Gh) (w : World), ((List.range ops.size).filter fun j => !listed.getD j false).length = fuel → listed.size = ops.size → (∀ j, m ≤ j → listed.getD j false = false) →
   (∀ i, listed.getD i false = true → ∀ j ∈ D.getD i [], listed.getD j false = true) → Below w0.heap.size w0 w → (∀ i, listed.getD i false = true → known sp D x i w) → (∀ i, listed.getD i false = true → w0.heap.size ≤ x.lo i ∧ x.lo i ≤ x.hi i ∧ x.hi i ≤ w.heap.size) →
   (∀ i j, listed.getD i false = true → listed.getD j false = true → i ≠ j → x.hi i ≤ x.lo j ∨ x.hi j ≤ x.lo i) →
   wpAny P .any ops Q fuel listed (actP ops a0 x.v (fun j => listed.getD j false) ops.size) w := by
 simp only [netB, Bool.and_eq_true, decide_eq_true_eq] at hB
 obtain ⟨⟨hm, hns⟩, hnf⟩ := hB
 have hok : ∀ i o, ops[i]? = some o → NetOk ops D (m + 1) i o := fun i o ho => netAt_spec (by
  have := netFrom_spec ops.toList 0 hnf i o (by simpa using ho)
  simpa using this)
 have hst' : ∀ i, (sp.getD i (.eq undef)).stable := fun i => by
  rw [List.getD_eq_getElem?_getD]
  rcases h : sp[i]? with _ | s
  ·trivial
  ·exact hst s (List.mem_of_getElem? h)
 intro fuel
 induction fuel with
 | zero =>
  intro listed x w hc hls hlm hcl hb hkn hiv hdj
  exfalso
  rw [List.length_eq_zero_iff, List.filter_eq_nil_iff] at hc
  have := hc m (List.mem_range.2 hms)
  rw [hlm m (Nat.le_refl _)] at this
  simp at this
 | succ fuel ih =>
  intro listed x w hc hls hlm hcl hb hkn hiv hdj
  by_cases hfull : ∀ j, j < m → listed.getD j false = true
  · -- the tail
   have hl : ∀ j, listed.getD j false = decide (j < m) := fun j => by
    by_cases hj : j < m
    ·rw [hfull j hj]; simp [hj]
    ·rw [hlm j (by omega)]; simp [hj]
   have hcnt := count_from (ops := ops) hl (by omega)
   refine net_tail2 hok (fuel + 1) m listed _ w (by omega) (Nat.le_refl _) hls hl ?_
   have := hend x w hb (fun i hi => hkn i (hfull i hi)) (fun i hi => hiv i (hfull i hi)) (fun i j hi hj => hdj i j (hfull i hi) (hfull j hj))
   rw [← actP_net (p := fun j => listed.getD j false) m hfull] at this
   rwa [actP_none (p := fun j => listed.getD j false) ops.size m (by omega) (fun j h1 _ => hlm j h1)]
  · -- one of the net
   have hne : Region.ready .any ops listed ≠ [] := by
    intro h0
    have : ∀ n, ∀ j, j < n → j < m → listed.getD j false = true := by
     intro n
     induction n with
     | zero => intro j hj; omega
     | succ n ihn =>
      intro j hj hjm
      by_cases e : j < n
      ·exact ihn j e hjm
      ·rcases hlj : listed.getD j false with _ | _
       ·exfalso
        have hjs : j < ops.size := by omega
        have hje := Array.getElem?_eq_getElem hjs
        have : j ∈ Region.ready .any ops listed := mem_ready.2 ⟨by
         rw [← hlj]
         simp [Array.getD_eq_getD_getElem?, Array.getElem?_eq_getElem (show j < listed.size by omega)], _, hje, fun e he hb => by
         have := (hok j _ hje).direct e he hb
         exact ihn e.on (by omega) (by omega)⟩
        rw [h0] at this
        cases this
       ·rfl
    exact hfull fun j hj => this (j + 1) j (by omega) hj
   refine ⟨fun h0 => absurd h0 hne, fun i hi => ?_⟩
   obtain ⟨h0, o, ho, hall⟩ := mem_ready.1 hi
   have his := (Array.getElem?_eq_some_iff.1 ho).1
   have hO := hok i o ho
   have hDl : ∀ j ∈ D.getD i [], listed.getD j false = true := hO.danc (fun j => listed.getD j false = true) hall (fun k hk j hj => hcl k hk j hj)
   have hwant : ∀ b : Act, Region.wanted o (yielded ops b.tmps) = true := fun b => by simp [Region.wanted, hO.guard]
   rcases Nat.lt_or_ge i m with him | hge
   case inr =>
    have him : i = m := by
     rcases Nat.lt_or_ge m i with h | h
     ·exact absurd (fun j hj => hDl j (hO.tail (by omega) j (by omega))) hfull
     ·omega
    subst him
    have hls0 : listed.getD s false = false := by
     rcases h : listed.getD s false with _ | _
     ·rfl
     ·exfalso
      refine hfull fun j hj => ?_
      by_cases e : j = s
      ·rw [e, h]
      ·exact hDl j (hD j hj e)
    have hl : ∀ j, listed.getD j false = decide (j < i ∧ j ≠ s) := fun j => by
     by_cases hj : j < i
     ·by_cases e : j = s
      ·rw [e, hls0]; simp
      ·rw [hDl j (hD j hj e)]; simp [hj, e]
     ·rw [hlm j (by omega)]; simp [hj]
    have hT : ∀ k, k < i ∧ k ≠ s → listed.getD k false = true := fun k hk => by rw [hl]; simpa using hk
    have hss : s < ops.size := by omega
    have hse := Array.getElem?_eq_getElem hss
    have h2 := hend2 x w hb (fun k hk => hkn k (hT k hk)) (fun k hk => hiv k (hT k hk)) (fun k j hk hj => hdj k j (hT k hk) (hT j hj)) o ops[s] ho hse
    rw [actP_congr (p := fun j => j != s) (q := fun j => listed.getD j false) (v' := x.v) i (fun j hj => ⟨by rw [hl]; by_cases e : j = s <;> simp [e, hj], fun _ => rfl⟩)] at h2
    rw [actP_none (p := fun j => listed.getD j false) ops.size i (by omega) (fun j h1 _ => hlm j h1)]
    have hli := hlm i (Nat.le_refl _)
    have c1 := count_set (ops := ops) his hli hls
    have hsz1 : (listed.setIfInBounds i true).size = ops.size := by simpa using hls
    have hl1 : ∀ j, (listed.setIfInBounds i true).getD j false = decide (j < i + 1 ∧ j ≠ s) := fun j => by
     rw [set_getD (hls ▸ his), hl]
     by_cases e : j = i
     ·subst e; simp; omega
     ·by_cases e2 : j < i
      ·simp [e, e2, show j < i + 1 by omega]
      ·simp [e, e2, show ¬ j < i + 1 by omega]
    have hs1 : (listed.setIfInBounds i true).getD s false = false := by rw [hl1]; simp
    have c2 := count_set (ops := ops) hss hs1 hsz1
    have hl2 : ∀ j, ((listed.setIfInBounds i true).setIfInBounds s true).getD j false = decide (j < i + 1) := fun j => by
     rw [set_getD (hsz1 ▸ hss), hl1]
     by_cases e : j = s
     ·subst e; simp; omega
     ·simp [e]
    have c3 := count_from (ops := ops) hl2 (by omega)
    have nxt : ∀ a w, wpList P ops Q (ops[s] :: ops.toList.drop (i + 1)) a w → wpAny P .any ops Q fuel (listed.setIfInBounds i true) a w := fun a w h => by
     obtain ⟨f, rfl⟩ : ∃ f, fuel = f + 1 := ⟨fuel - 1, by omega⟩
     have hld : ∀ j, j < ops.size → (listed.setIfInBounds i true).getD j true = (listed.setIfInBounds i true).getD j false := fun j hj => by
      simp only [Array.getD_eq_getD_getElem?, Array.getElem?_eq_getElem (show j < (listed.setIfInBounds i true).size by omega), Option.getD_some]
     have hready : s ∈ Region.ready .any ops (listed.setIfInBounds i true) := mem_ready.2 ⟨by rw [hld s hss, hs1], _, hse, fun e he hb => by
      have := (hok s _ hse).direct e he hb
      rw [hl1]; simp; omega⟩
     refine ⟨fun h0 => (by rw [h0] at hready; cases hready), fun k hk => ?_⟩
     obtain ⟨k0, ok, hok2, hall2⟩ := mem_ready.1 hk
     have hks := (Array.getElem?_eq_some_iff.1 hok2).1
     rw [hld k hks, hl1] at k0
     have hks2 : k = s := by
      by_cases e : k = s
      ·exact e
      ·exfalso
       have hkm : i + 1 ≤ k := by simp at k0; omega
       have hcl2 := (hok k ok hok2).danc (fun j => (listed.setIfInBounds i true).getD j false = true) hall2 (fun y hy j hj => by
        rw [hl1] at hy ⊢
        simp at hy ⊢
        have hyd := (hok y _ (Array.getElem?_eq_getElem (show y < ops.size by omega))).dlt j hj
        refine ⟨by omega, fun e2 => ?_⟩
        subst e2
        rcases Nat.lt_or_ge y i with h3 | h3
        ·have := hcl y (hT y ⟨h3, hy.2⟩) j hj
         rw [hls0] at this
         cases this
        ·have : y = i := by omega
         subst this
         have := hDl j hj
         rw [hls0] at this
         cases this)
       have := hcl2 s ((hok k ok hok2).tail hkm s (by omega))
       rw [hs1] at this
       cases this
     subst hks2
     unfold wpOp
     simp only [hse]
     have hw : Region.wanted ops[k] (yielded ops a.tmps) = true := by simp [Region.wanted, (hok k _ hse).guard]
     simp only [wpList, hw, if_true] at h ⊢
     have nxt2 : ∀ a w, wpList P ops Q (ops.toList.drop (i + 1)) a w → wpAny P .any ops Q f ((listed.setIfInBounds i true).setIfInBounds k true) a w := fun a w h =>
      net_tail2 hok f (i + 1) _ a w (by omega) (by omega) (by simpa using hls) hl2 h
     rcases h with h | h
     ·exact .inl (Oper.wp_mono nxt2 h)
     ·exact .inr h
    unfold wpOp
    simp only [ho]
    simp only [wpList, hwant, if_true] at h2 ⊢
    rcases h2 with h | h
    ·exact .inl (Oper.wp_mono (fun a w h => nxt a w (by simpa only [wpList] using h)) h)
    ·exact .inr h
   have hli : listed.getD i false = false := by
    rw [← h0]
    simp [Array.getD_eq_getD_getElem?, Array.getElem?_eq_getElem (show i < listed.size by omega)]
   have hpre := hdo i o him ho x w hb (fun j hj => ⟨hkn j (hDl j hj), (hiv j (hDl j hj)).2.2⟩) (fun e b w' => e = .normal ∧ ∃ u, b = (netAct ops a0 x.v i).put o.dst u ∧ (Below w.heap.size w w' ∧ (sp.getD i (.eq undef)).holds i (D.getD i []) (x.set i u w.heap.size w'.heap.size) w'))
    (fun u w' h1 h2 => ⟨rfl, u, rfl, h1, h2⟩)
   have hnl : ¬ LetsOut (fun (e : Exit) (b : Act) (w' : World) => e = .normal ∧ ∃ u, b = (netAct ops a0 x.v i).put o.dst u ∧ (Below w.heap.size w w' ∧ (sp.getD i (.eq undef)).holds i (D.getD i []) (x.set i u w.heap.size w'.heap.size) w')) := by
    rintro ⟨b, w', h, _⟩
    cases h
   simp only [wpList, hwant, if_true] at hpre
   rcases hpre with hpre | hpre
   case inr => exact absurd hpre.2 hnl
   simp only [true_and] at hpre
   have hexec : execOp (actP ops a0 x.v (fun j => listed.getD j false) ops.size).eval o = execOp (netAct ops a0 x.v i).eval o := by
    refine execOp_congr o (fun cs b => Region.noSelect_spec hns i o cs b ho) fun y hx => ?_
    by_cases hxt : ∃ t, y = .tmp t
    ·obtain ⟨t, rfl⟩ := hxt
     have hlook : t ∈ o.looksAt ops := List.mem_append_left _ (List.mem_filterMap.2 ⟨.tmp t, by simpa using hx, rfl⟩)
     have e1 : netAct ops a0 x.v i = actP ops a0 x.v (fun j => decide (j < i)) ops.size := by
      rw [actP_none (p := fun j => decide (j < i)) ops.size i (by omega) (fun j h1 _ => by simp; omega)]
      exact (actP_net (p := fun j => decide (j < i)) i (fun j hj => by simp [hj])).symm
     rw [e1]
     refine actP_eval t ops.size fun j hj hd => ?_
     rcases hO.looks j t hd hlook with h | h
     ·rw [hDl j h]; have := hO.dlt j h; simp [this]
     ·have hlt := (hok j _ (Array.getElem?_eq_getElem hj)).dlt i h
      have : listed.getD j false = false := by
       rcases hlj : listed.getD j false with _ | _
       ·rfl
       ·have := hcl j hlj i h
        rw [hli] at this
        cases this
      rw [this]; simp; omega
    ·exact actP_evalC y (fun t h => hxt ⟨t, h⟩) _ _
   have hsz : (netAct ops a0 x.v i).tmps.size = (actP ops a0 x.v (fun j => listed.getD j false) ops.size).tmps.size := by
    rw [actP_size, ← actP_net (p := fun _ => true) i (fun _ _ => rfl), actP_size]
   have hT := wp_transfer (Q2 := Q) hexec hsz (fun c b w' h => by cases h.1) hnl hpre
   unfold wpOp
   simp only [ho, hwant, if_true]
   refine .inl (Oper.wp_mono ?_ hT)
   rintro b w' ⟨u, rfl, hbw, hh⟩
   have hdst : o.dst = dstAt ops i := by simp [dstAt, ho]
   have hlq : ∀ j, (listed.setIfInBounds i true).getD j false = (listed.getD j false || j == i) := fun j => by
    by_cases e : i = j
    ·subst e
     simp [Array.getD_eq_getD_getElem?, Array.getElem?_setIfInBounds, hls, his]
    ·rw [getD_set_ne _ e]
     simp [Ne.symm e]
   rw [hdst, actP_add (v' := (x.set i u w.heap.size w'.heap.size).v) (q := fun j => (listed.setIfInBounds i true).getD j false) (fun j hj _ => by simp [Gh.set, hj]) (by simp [Gh.set]) hli hlq (fun j d hij hlj hdj hdi => by
    rcases hO.dsts j d (by omega) hdj hdi with h | h
    ·have := hO.dlt j h; omega
    ·have := hcl j hlj i h
     rw [hli] at this
     cases this) ops.size his]
   refine ih _ _ _ ?_ (by simpa using hls) (fun j hj => by rw [hlq, hlm j hj]; simp; omega) (fun k hk j hj => ?_) (hb.trans (hbw.mono hb.size)) (fun k hk => ?_) (fun k hk => ?_) (fun k j hk hj hkj => ?_)
   ·have := count_set (ops := ops) his hli hls
    omega
   ·rw [hlq] at hk ⊢
    simp only [Bool.or_eq_true, beq_iff_eq] at hk ⊢
    rcases hk with hk | rfl
    ·exact .inl (hcl k hk j hj)
    ·exact .inl (hDl j hj)
   ·rw [hlq] at hk
    simp only [Bool.or_eq_true, beq_iff_eq] at hk
    unfold known
    by_cases e : k = i
    ·subst e
     exact hh
    ·rcases hk with hk | hk
     ·refine NS.holds_congr (x := x) (fun j hj => ?_) (NS.holds_stable (hst' k) (hkn k hk) hbw)
      have hji : j ≠ i := by
       rcases hj with rfl | hj
       ·exact e
       ·rintro rfl
        have := hcl k hk j hj
        rw [hli] at this
        cases this
      simp [Gh.set, hji]
     ·exact absurd hk e
   ·rw [hlq] at hk
    simp only [Bool.or_eq_true, beq_iff_eq] at hk
    by_cases e : k = i
    ·subst e
     simp only [Gh.set, if_true]
     exact ⟨hb.size, hbw.size, Nat.le_refl _⟩
    ·have := hiv k (hk.resolve_right e)
     have := hbw.size
     simp only [Gh.set, if_neg e]
     omega
   ·rw [hlq] at hk hj
    simp only [Bool.or_eq_true, beq_iff_eq] at hk hj
    by_cases e : k = i
    ·subst e
     have := hiv j (hj.resolve_right (Ne.symm hkj))
     simp only [Gh.set, if_true, if_neg (Ne.symm hkj)]
     exact .inr (by omega)
    ·by_cases e' : j = i
     ·subst e'
      have := hiv k (hk.resolve_right e)
      simp only [Gh.set, if_true, if_neg e]
      exact .inl (by omega)
     ·simp only [Gh.set, if_neg e, if_neg e']
      exact hdj k j (hk.resolve_right e) (hj.resolve_right e') hkj
def netB2 (ops : Array Oper) (D : List (List Nat)) (m s : Nat) : Bool := netB ops D (m + 1) && (decide (m < ops.size) && decide (s < m) && (List.range m).all fun j => j == s || (D.getD m []).contains j)
theorem wp_region_net2 {id : Nat} {l : List Oper} {w : World} (hmo : P.follows .mixedOrders = true) (sp : List NS) (D : List (List Nat)) (m s : Nat) (L : List Nat) (hB : netB2 l.toArray D m s = true) (hL : L = (List.range m).filter (fun j => j != s)) (hst : stableAll sp)
  (hdo : netAll P l.toArray sp D a0 w 0 (l.take m))
  (hend : ∀ x w', Below w.heap.size w w' → (∀ i, i < m → known sp D x i w') → (∀ i, i < m → w.heap.size ≤ x.lo i ∧ x.lo i ≤ x.hi i ∧ x.hi i ≤ w'.heap.size) → (∀ i j, i < m → j < m → i ≠ j → x.hi i ≤ x.lo j ∨ x.hi j ≤ x.lo i) → wpList P l.toArray Q (l.drop m) (netAct l.toArray a0 x.v m) w')
  (hend2 : ∀ x w', Below w.heap.size w w' → (∀ i, i < m ∧ i ≠ s → known sp D x i w') → (∀ i, i < m ∧ i ≠ s → w.heap.size ≤ x.lo i ∧ x.lo i ≤ x.hi i ∧ x.hi i ≤ w'.heap.size) → (∀ i j, i < m ∧ i ≠ s → j < m ∧ j ≠ s → i ≠ j → x.hi i ≤ x.lo j ∨ x.hi j ≤ x.lo i) → ∀ om os, l[m]? = some om → l[s]? = some os → wpList P l.toArray Q (om :: os :: l.drop (m + 1)) (L.foldl (fun a k => a.put (dstAt l.toArray k) (x.v k)) a0) w') : (Code.region id l.toArray true).wp P Q a0 w := by
 replace hst := stableAll_spec hst
 subst hL
 simp only [netB2, Bool.and_eq_true, decide_eq_true_eq, List.all_eq_true, List.mem_range, Bool.or_eq_true, beq_iff_eq, List.contains_iff_mem, List.contains_eq_mem] at hB
 obtain ⟨hB, ⟨hms, hsm⟩, hDm⟩ := hB
 have hdo : ∀ i o, i < m → l[i]? = some o → netDo P l.toArray sp D a0 w.drew i o := fun i o hi ho => by
  have := netAll_spec (l.take m) 0 hdo i o (by rw [List.getElem?_take, if_pos hi]; exact ho)
  rw [Nat.zero_add] at this
  exact fun v w1 hb => this v w1 ⟨hb.os, hb.tape, hb.output, hb.size, hb.block⟩
 refine wp_region_any hmo ?_
 have h := net_any2 (w0 := w.drew) (a0 := a0) (Q := Q) (P := P) (sp := sp) (s := s) hB hms hsm (fun j hj hne => (hDm j hj).resolve_left hne) hst (fun i o hi ho => hdo i o hi (by simpa using ho)) (fun x w' hb hk hiv hdj => by simpa using hend x w' (show Below w.heap.size w w' from ⟨hb.os, hb.tape, hb.output, hb.size, hb.block⟩) hk hiv hdj)
  (fun x w' hb hk hiv hdj om os hom hos => by rw [actP_fold]; simpa using hend2 x w' (show Below w.heap.size w w' from ⟨hb.os, hb.tape, hb.output, hb.size, hb.block⟩) hk hiv hdj om os (by simpa using hom) (by simpa using hos))
  l.toArray.size (Array.replicate l.toArray.size false) ⟨fun _ => undef, fun _ => 0, fun _ => 0⟩ w.drew
  (by rw [List.filter_eq_self.2 (fun j _ => by rw [repl_getD]; rfl), List.length_range])
  (by simp) (fun j _ => repl_getD _ _)
  (fun i hi => by rw [repl_getD] at hi; cases hi)
  (Below.refl _ _)
  (fun i hi => by rw [repl_getD] at hi; cases hi)
  (fun i hi => by rw [repl_getD] at hi; cases hi)
  (fun i j hi => by rw [repl_getD] at hi; cases hi)
 have e : actP l.toArray a0 (fun _ => undef) (fun j => (Array.replicate l.toArray.size false).getD j false) l.toArray.size = a0 :=
  actP_none l.toArray.size 0 (by omega) (fun j _ _ => repl_getD _ _)
 rw [e] at h
 exact h
end
end Go.Proofs.YtcmlflppndfdcaaGreat
