/- FnExactRootRep: the law holds for every argument. Part 10 of 18 of the proof: Hom2b, Hom3, Det0, Kind0, FinA, FinB. No condition. -/
import Derived.Test.YtcmlflppndfdcaaGreatBRootRep9
import Derived.Laws.Bits128
set_option linter.unusedVariables false
set_option linter.unusedSimpArgs false
namespace Go.Proofs.YtcmlflppndfdcaaGreat
open Go.RowKit
set_option maxHeartbeats 12800000 in
set_option maxRecDepth 100000 in
theorem coboundary_any (ua ub fv : Value) (X Y : Rp) (F : Nat → Nat → Nat → Int) (w0 : World) (ha : RpR w0 w0.heap.size ua X) (hb : RpR w0 w0.heap.size ub Y) (hfv : SlM w0 w0.heap.size fv (mvL X Y F X.d.length)) (hf : Fit2 X Y) (hF : ∀ v, v < X.d.length → InF X.p (dmN Y.d v) (dmN X.d v) (F v)) :
  Calls Tryz.prog 132 #[ua, ub, fv] w0 fun e w' => ∃ v, e = .returned v ∧ MatsO w' w0.heap.size w'.heap.size v (cbL X Y F X.q.f.length) ∧ Below w0.heap.size w0 w' := by
 obtain ⟨FA, fc, rfl, _, _, _, hfx⟩ := hfv.open_
 clear hfv
 rw [mvL_length] at hfx ⊢
 have ha' := ha
 have hb' := hb
 obtain ⟨A, a, C, c, Ea, ea, Ha, ha_, rfl, hqa, hda, hma, hpa, lda, lma⟩ := ha.open_
 obtain ⟨A2, a2, C2, c2, Eb, eb, Hb, hb_, rfl, hqb, hdb, hmb, hpb, ldb, lmb⟩ := hb.open_
 clear ha hb
 obtain ⟨W, hW⟩ : ∃ W, W = (w0.alloc (.cells #[.int .i64 X.p, .int .i64 X.q.v, .slice A X.q.f.length a, .slice C X.q.t.length c, .slice Ea X.d.length ea, .slice Ha X.m.length ha_] 32)).alloc (.cells #[.int .i64 Y.p, .int .i64 Y.q.v, .slice A2 Y.q.f.length a2, .slice C2 Y.q.t.length c2, .slice Eb Y.d.length eb, .slice Hb Y.m.length hb_] 32) := ⟨_, rfl⟩
 have g0 : Below w0.heap.size w0 W := by rw [hW]; exact ((Below.refl _ _).alloc (Nat.le_refl _) _).alloc (by simp) _
 have k1 : Blk W w0.heap.size 32 #[.int .i64 X.p, .int .i64 X.q.v, .slice A X.q.f.length a, .slice C X.q.t.length c, .slice Ea X.d.length ea, .slice Ha X.m.length ha_] := by rw [hW]; exact (Blk.new _ _ _).alloc _
 have k2 : Blk W (w0.heap.size + 1) 32 #[.int .i64 Y.p, .int .i64 Y.q.v, .slice A2 Y.q.f.length a2, .slice C2 Y.q.t.length c2, .slice Eb Y.d.length eb, .slice Hb Y.m.length hb_] := by
  rw [hW]
  have := Blk.new (w0.alloc (.cells #[.int .i64 X.p, .int .i64 X.q.v, .slice A X.q.f.length a, .slice C X.q.t.length c, .slice Ea X.d.length ea, .slice Ha X.m.length ha_] 32)) 32 #[.int .i64 Y.p, .int .i64 Y.q.v, .slice A2 Y.q.f.length a2, .slice C2 Y.q.t.length c2, .slice Eb Y.d.length eb, .slice Hb Y.m.length hb_]
  simpa only [World.size_alloc] using this
 have HXA := Lib.hid (RpR.next g0 ha')
 have HXB := Lib.hid (RpR.next g0 hb')
 have HQA := Lib.hid (QvR.next g0 hqa)
 have HDA := Lib.hid (SlI.next g0 hda)
 have HDB := Lib.hid (SlI.next g0 hdb)
 have HMA := Lib.hid (SlM.next g0 hma)
 have HMB := Lib.hid (SlM.next g0 hmb)
 have G0 := Lib.hid g0
 clear ha' hb' hqa hqb hda hdb hma hmb hpa hpb g0
 have HFV := Lib.hid (SlM.next G0.out hfx)
 have HF := Lib.hid hf
 have HFF := Lib.hid hF
 have hp2 := hf.p2
 obtain ⟨hN6, hlm, hlmy, hTl⟩ := hf.arrs
 have HLM := Lib.hid hlm
 have HLMY := Lib.hid hlmy
 obtain ⟨_, _, _, _, eqq, hfs, hts, _⟩ := HQA.out.open_
 simp only [Value.agg.injEq, Array.mk.injEq, List.cons.injEq, and_true, Value.slice.injEq, true_and] at eqq
 obtain ⟨⟨rfl, rfl⟩, rfl, rfl⟩ := eqq
 have HFS := Lib.hid hfs
 have HTS := Lib.hid hts
 have c2_ := k1.cell' (i := 2) rfl
 clear hf hfs hts hfx hF hlm hlmy hTl
 go_enter Tryz.func132, Tryz.ntmps132
 go_wp2
 rw [← hW]; clear hW
 go_loopw [7, 15] (fun out i wr => ∃ k : Nat, k ≤ X.q.f.length ∧ i = .int .i64 k ∧ MatsO wr W.heap.size wr.heap.size out (cbL X Y F k) ∧ Below W.heap.size W wr) (fun _ i _ => X.q.f.length - (intOf i).toNat)
 case atStart => exact ⟨0, Nat.zero_le _, rfl, MatsO.nil _ _ _, Below.refl _ _⟩
 case round =>
  obtain ⟨k, hk, rfl, hO, hbel⟩ := hrel
  have hbs := hbel.size
  obtain ⟨OA, oc, eo, _, _⟩ := hO.form2
  rw [cbL_length] at eo
  subst eo
  by_cases hlt : k < X.q.f.length
  ·obtain ⟨ef, et, lf, lt, hkt, emx, emy, hIx, hIy⟩ := HF.out.arr hlt
   have hIf := HFF.out _ lf
   have hIt := HFF.out _ lt
   have bf4 := HF.out.dims (srN X.q k)
   have bt4 := HF.out.dims (tgN X.q k)
   have gf := mvL_get X Y F lf
   have gt_ := mvL_get X Y F lt
   have HZS := Lib.hid (cbL_succ X Y F k)
   have HCB := Lib.hid (show cbF X Y F k = plF X.p (X.p - 1) (muP X.p (dmN Y.d (srN X.q k)) (arF Y k) (F (srN X.q k))) (muP X.p (dmN X.d (tgN X.q k)) (F (tgN X.q k)) (arF X k)) from rfl)
   obtain ⟨nf, hnf⟩ : ∃ n, srN X.q k = n := ⟨_, rfl⟩
   obtain ⟨nt, hnt⟩ : ∃ n, tgN X.q k = n := ⟨_, rfl⟩
   rw [hnf] at ef lf emx emy hIx hIy hIf bf4 gf HZS HCB
   rw [hnt] at et lt emx emy hIx hIy hIt bt4 gt_ HZS HCB
   obtain ⟨DXF, e1⟩ : ∃ n, dmN X.d nf = n := ⟨_, rfl⟩
   obtain ⟨DYF, e2⟩ : ∃ n, dmN Y.d nf = n := ⟨_, rfl⟩
   obtain ⟨DXT, e3⟩ : ∃ n, dmN X.d nt = n := ⟨_, rfl⟩
   obtain ⟨DYT, e4⟩ : ∃ n, dmN Y.d nt = n := ⟨_, rfl⟩
   simp only [e1, e2, e3, e4] at emx emy hIx hIy hIf hIt bf4 bt4 gf gt_ HZS HCB
   obtain ⟨CF, hCF⟩ : ∃ n, cbF X Y F k = n := ⟨_, rfl⟩
   rw [hCF] at HZS HCB
   clear hnf hnt e1 e2 e3 e4 hCF
   obtain ⟨bf, of_, x1, e1, hbf, HX1, z1, _, _⟩ := SlI.at_ HFS.out hlt
   obtain ⟨bt, ot, x2, e2, hbt, HX2, z2, _, _⟩ := SlI.at_ HTS.out hkt
   subst e1 e2
   have q1 := HX1.out
   rw [ef] at q1
   injection q1 with q1
   subst q1
   have q2 := HX2.out
   rw [et] at q2
   injection q2 with q2
   subst q2
   obtain ⟨bx, ox, AX, LX, cx, e1, hbx, mx0_, mx1, mx2, MX⟩ := SlM.atF HMA.out rfl emx
   obtain ⟨by_, oy, AY, LY, cy, e2, hby, my0, my1, my2, MY⟩ := SlM.atF HMB.out rfl emy
   subst e1 e2
   obtain ⟨bg, og, AF, LF, cf, e1, hbg, mf0, mf1, mf2, MF⟩ := SlM.atF HFV.out (mvL_length _ _ _ _) gf
   obtain ⟨bg', og', AG, LG, cg, e2, _, mg0, mg1, mg2, MG⟩ := SlM.atF HFV.out (mvL_length _ _ _ _) gt_
   rw [e1] at e2
   injection e2 with e2
   injection e2 with e2 e3
   subst e2 e3
   subst e1
   clear HX1 HX2 ef et emx emy gf gt_
   have K1 := Lib.hid (k1.call hbel)
   have K2 := Lib.hid (k2.call hbel)
   have y1 := bcell hbel hbf z1
   have Y2 := Lib.hid (bcell hbel hbt z2)
   have HO := Lib.hid hO
   have HB := Lib.hid hbel
   have MX0 := Lib.hid (bcell hbel hbx mx0_)
   have MX1 := Lib.hid (bcell hbel hbx mx1)
   have MX2 := Lib.hid (bcell hbel hbx mx2)
   have MY0 := Lib.hid (bcell hbel hby my0)
   have MY1 := Lib.hid (bcell hbel hby my1)
   have MY2 := Lib.hid (bcell hbel hby my2)
   have MF0 := Lib.hid (bcell hbel hbg mf0)
   have MF1 := Lib.hid (bcell hbel hbg mf1)
   have MF2 := Lib.hid (bcell hbel hbg mf2)
   have MG0 := Lib.hid (bcell hbel hbg mg0)
   have MG1 := Lib.hid (bcell hbel hbg mg1)
   have MG2 := Lib.hid (bcell hbel hbg mg2)
   have HMX := Lib.hid (MxR.more hbs (MxR.below hbel MX))
   have HMY := Lib.hid (MxR.more hbs (MxR.below hbel MY))
   have HMF := Lib.hid (MxR.more hbs (MxR.below hbel MF))
   have HMG := Lib.hid (MxR.more hbs (MxR.below hbel MG))
   have HIX := Lib.hid hIx
   have HIY := Lib.hid hIy
   have HIF := Lib.hid hIf
   have HIT := Lib.hid hIt
   clear hO hbel z1 z2 c2_ mx0_ mx1 mx2 my0 my1 my2 mf0 mf1 mf2 mg0 mg1 mg2 MX MY MF MG hIx hIy hIf hIt
   have a1' : (k : Int) < Y.m.length := by have := HLMY.out; omega
   have a2' : (k : Int) < X.m.length := by have := HLM.out; omega
   have a3' : (nf : Int) < X.d.length := by omega
   have a4' : (nt : Int) < X.d.length := by omega
   have a5' : (k : Int) < X.q.t.length := by omega
   have a6' : (0 : Int) ≤ (nf : Int) := by omega
   have a7' : (0 : Int) ≤ (nt : Int) := by omega
   go_wp2
   clear y1
   refine wp_region_net (by kernel_rfl) [.eq (.pointer (some ⟨w0.heap.size, 0, none⟩)), .eq (.int .i64 X.p), .eq (.pointer (some ⟨w0.heap.size + 1, 5, none⟩)), .eq (.slice (some ⟨by_, oy, none⟩) Y.m.length hb_), .eq (.int .i64 k), .eq (.pointer (some ⟨by_, oy + k * 3, none⟩)), .eq (.agg #[.int .i64 DYT, .int .i64 DYF, .slice AY LY cy]), .eq (.slice (some ⟨bg, og, none⟩) X.d.length fc), .eq (.int .i64 nf), .eq (.pointer (some ⟨bg, og + nf * 3, none⟩)), .eq (.agg #[.int .i64 DYF, .int .i64 DXF, .slice AF LF cf]), rel 11 (fun u lo hi w => MxO w lo hi u (mxF DYT DXF (muP X.p DYF (arF Y k) (F nf)))), rel 12 (fun u lo hi w => ∃ g, u = .pointer (some ⟨g, 0, none⟩) ∧ lo ≤ g ∧ Blk w g 50 #[.int .i64 0, .int .i64 0, .slice none 0 0])] [[], [0], [], [2], [], [2, 3, 4], [2, 3, 4, 5], [], [], [7, 8], [7, 8, 9], [0, 1, 2, 3, 4, 5, 6, 7, 8, 9, 10], [], [0, 1, 2, 3, 4, 5, 6, 7, 8, 9, 10, 11, 12]] 13 (by kernel_rfl) ⟨trivial, trivial, trivial, trivial, trivial, trivial, trivial, trivial, trivial, trivial, trivial, rel_stable (fun u lo hi w w' h hb => h.below hb), rel_stable (fun u lo hi w w' ⟨g, e, h1, h⟩ hb => ⟨g, e, h1, h.call hb⟩), trivial⟩ ⟨?_, ?_, ?_, ?_, ?_, ?_, ?_, ?_, ?_, ?_, ?_, ?_, ?_, trivial⟩ ?_
   ·intro x w hb hk Q' hQ
    clear hk
    simp only [netE] at hQ ⊢
    go_wp2
    exact hQ _ _ (Below.refl _ _) rfl
   ·intro x w hb hk Q' hQ
    have h0 : x.v 0 = .pointer (some ⟨w0.heap.size, 0, none⟩) := (hk 0 (by decide)).1
    clear hk
    simp only [netE] at hQ ⊢
    simp only [h0] at hQ ⊢
    clear h0
    have z := (K1.out.call hb).cell' (i := 0) rfl
    go_wp2
    exact hQ _ _ (Below.refl _ _) rfl
   ·intro x w hb hk Q' hQ
    clear hk
    simp only [netE] at hQ ⊢
    go_wp2
    exact hQ _ _ (Below.refl _ _) rfl
   ·intro x w hb hk Q' hQ
    have h2 : x.v 2 = .pointer (some ⟨w0.heap.size + 1, 5, none⟩) := (hk 2 (by decide)).1
    clear hk
    simp only [netE] at hQ ⊢
    simp only [h2] at hQ ⊢
    clear h2
    have z := (K2.out.call hb).cell' (i := 5) rfl
    go_wp2
    exact hQ _ _ (Below.refl _ _) rfl
   ·intro x w hb hk Q' hQ
    clear hk
    simp only [netE] at hQ ⊢
    go_wp2
    exact hQ _ _ (Below.refl _ _) rfl
   ·intro x w hb hk Q' hQ
    have h3 : x.v 3 = .slice (some ⟨by_, oy, none⟩) Y.m.length hb_ := (hk 3 (by decide)).1
    have h4 : x.v 4 = .int .i64 k := (hk 4 (by decide)).1
    clear hk
    simp only [netE] at hQ ⊢
    simp only [h3, h4] at hQ ⊢
    clear h3 h4
    go_wp2
    exact hQ _ _ (Below.refl _ _) rfl
   ·intro x w hb hk Q' hQ
    have h5 : x.v 5 = .pointer (some ⟨by_, oy + k * 3, none⟩) := (hk 5 (by decide)).1
    clear hk
    simp only [netE] at hQ ⊢
    simp only [h5] at hQ ⊢
    clear h5
    have q0 := bcell hb (by omega) MY0.out
    have q1 := bcell hb (by omega) MY1.out
    have q2 := bcell hb (by omega) MY2.out
    go_wp2
    exact hQ _ _ (Below.refl _ _) rfl
   ·intro x w hb hk Q' hQ
    clear hk
    simp only [netE] at hQ ⊢
    go_wp2
    exact hQ _ _ (Below.refl _ _) rfl
   ·intro x w hb hk Q' hQ
    clear hk
    simp only [netE] at hQ ⊢
    go_wp2
    exact hQ _ _ (Below.refl _ _) rfl
   ·intro x w hb hk Q' hQ
    have h7 : x.v 7 = .slice (some ⟨bg, og, none⟩) X.d.length fc := (hk 7 (by decide)).1
    have h8 : x.v 8 = .int .i64 nf := (hk 8 (by decide)).1
    clear hk
    simp only [netE] at hQ ⊢
    simp only [h7, h8] at hQ ⊢
    clear h7 h8
    go_wp2
    exact hQ _ _ (Below.refl _ _) rfl
   ·intro x w hb hk Q' hQ
    have h9 : x.v 9 = .pointer (some ⟨bg, og + nf * 3, none⟩) := (hk 9 (by decide)).1
    clear hk
    simp only [netE] at hQ ⊢
    simp only [h9] at hQ ⊢
    clear h9
    have q0 := bcell hb (by omega) MF0.out
    have q1 := bcell hb (by omega) MF1.out
    have q2 := bcell hb (by omega) MF2.out
    go_wp2
    exact hQ _ _ (Below.refl _ _) rfl
   ·intro x w hb hk Q' hQ
    have h0 : x.v 0 = .pointer (some ⟨w0.heap.size, 0, none⟩) := (hk 0 (by decide)).1
    have h1 : x.v 1 = .int .i64 X.p := (hk 1 (by decide)).1
    have h2 : x.v 2 = .pointer (some ⟨w0.heap.size + 1, 5, none⟩) := (hk 2 (by decide)).1
    have h3 : x.v 3 = .slice (some ⟨by_, oy, none⟩) Y.m.length hb_ := (hk 3 (by decide)).1
    have h4 : x.v 4 = .int .i64 k := (hk 4 (by decide)).1
    have h5 : x.v 5 = .pointer (some ⟨by_, oy + k * 3, none⟩) := (hk 5 (by decide)).1
    have h6 : x.v 6 = .agg #[.int .i64 DYT, .int .i64 DYF, .slice AY LY cy] := (hk 6 (by decide)).1
    have h7 : x.v 7 = .slice (some ⟨bg, og, none⟩) X.d.length fc := (hk 7 (by decide)).1
    have h8 : x.v 8 = .int .i64 nf := (hk 8 (by decide)).1
    have h9 : x.v 9 = .pointer (some ⟨bg, og + nf * 3, none⟩) := (hk 9 (by decide)).1
    have h10 : x.v 10 = .agg #[.int .i64 DYF, .int .i64 DXF, .slice AF LF cf] := (hk 10 (by decide)).1
    clear hk
    simp only [netE] at hQ ⊢
    simp only [h0, h1, h2, h3, h4, h5, h6, h7, h8, h9, h10] at hQ ⊢
    clear h0 h1 h2 h3 h4 h5 h6 h7 h8 h9 h10
    have hA := Lib.hid (MxR.next hb HMY.out)
    have hB := Lib.hid (MxR.next hb HMF.out)
    go_wp2_with fail
    refine (times_any X.p _ _ DYT DYF DXF (arF Y k) (F nf) _ hp2 (by omega) (by omega) (by omega) hA.out hB.out HIY.out HIF.out).mono ?_; rintro e w3 ⟨v3, rfl, hZ, hb3⟩
    go_wp2
    exact hQ _ _ hb3 hZ
   ·intro x w hb hk Q' hQ
    clear hk
    simp only [netE] at hQ ⊢
    go_wp2
    exact hQ _ _ (below_alloc _ _) ⟨_, rfl, Nat.le_refl _, Blk.new _ _ _⟩
   ·intro x w hb hk hiv hdj
    have h0 : x.v 0 = .pointer (some ⟨w0.heap.size, 0, none⟩) := hk 0 (by decide)
    have h1 : x.v 1 = .int .i64 X.p := hk 1 (by decide)
    have h2 : x.v 2 = .pointer (some ⟨w0.heap.size + 1, 5, none⟩) := hk 2 (by decide)
    have h3 : x.v 3 = .slice (some ⟨by_, oy, none⟩) Y.m.length hb_ := hk 3 (by decide)
    have h4 : x.v 4 = .int .i64 k := hk 4 (by decide)
    have h5 : x.v 5 = .pointer (some ⟨by_, oy + k * 3, none⟩) := hk 5 (by decide)
    have h6 : x.v 6 = .agg #[.int .i64 DYT, .int .i64 DYF, .slice AY LY cy] := hk 6 (by decide)
    have h7 : x.v 7 = .slice (some ⟨bg, og, none⟩) X.d.length fc := hk 7 (by decide)
    have h8 : x.v 8 = .int .i64 nf := hk 8 (by decide)
    have h9 : x.v 9 = .pointer (some ⟨bg, og + nf * 3, none⟩) := hk 9 (by decide)
    have h10 : x.v 10 = .agg #[.int .i64 DYF, .int .i64 DXF, .slice AF LF cf] := hk 10 (by decide)
    have h11 : MxO w (x.lo 11) (x.hi 11) (x.v 11) (mxF DYT DXF (muP X.p DYF (arF Y k) (F nf))) := hk 11 (by decide)
    have h12 : ∃ g, (x.v 12) = .pointer (some ⟨g, 0, none⟩) ∧ (x.lo 12) ≤ g ∧ Blk w g 50 #[.int .i64 0, .int .i64 0, .slice none 0 0] := hk 12 (by decide)
    clear hk
    simp only [netE]
    simp only [List.drop_succ_cons, List.drop_zero, h0, h1, h2, h3, h4, h5, h6, h7, h8, h9, h10]
    clear h0 h1 h2 h3 h4 h5 h6 h7 h8 h9 h10
    obtain ⟨g5, e12, hg5, k5'⟩ := h12
    have li12 := (hiv 12 (by decide)).1
    rw [e12]
    have hM11 := ((h11.setBlk (i := 0) k5' (by decide) (.int .i64 DYT)).setBlk (i := 1) (k5'.set_ 0 _) (by decide) (.int .i64 DXF))
    obtain ⟨s1, e11, hs, hI1⟩ := h11
    obtain ⟨s1A, s1c, es⟩ := hs.form
    obtain ⟨s1n, hs1n⟩ : ∃ n, (mxF DYT DXF (muP X.p DYF (arF Y k) (F nf))).a.length = n := ⟨_, rfl⟩
    rw [hs1n] at es
    subst es
    simp only [mxF] at e11
    rw [e11] at hM11 ⊢
    have hM12 := hM11.setBlk (i := 2) ((k5'.set_ 0 (.int .i64 DYT)).set_ 1 (.int .i64 DXF)) (by decide) (.slice s1A s1n s1c)
    obtain ⟨W5, hW5⟩ : ∃ z, ((w.setCell ⟨g5, 0, none⟩ (.int .i64 DYT)).setCell ⟨g5, 1, none⟩ (.int .i64 DXF)).setCell ⟨g5, 2, none⟩ (.slice s1A s1n s1c) = z := ⟨_, rfl⟩
    have k5 : Blk W5 g5 50 #[.int .i64 DYT, .int .i64 DXF, .slice s1A s1n s1c] := by rw [← hW5]; exact ((k5'.set_ 0 _).set_ 1 _).set_ 2 _
    have hcs : ∀ (w : World) (i : Nat) (u : Value), Chg g5 (g5 + 1) w (w.setCell ⟨g5, i, none⟩ u) := fun w i u => chg_set (Nat.le_refl _) (Nat.lt_succ_self _)
    have hc5 : Chg g5 (g5 + 1) w W5 := by rw [← hW5]; exact ((hcs _ _ _).trans (hcs _ _ _)).trans (hcs _ _ _)
    clear hcs
    rw [hW5] at hM12
    have hbs5 := hb.size
    have hb5 : Below wr.heap.size wr W5 := hb.trans (hc5.below (by omega) hbs5)
    have K5 := Lib.hid k5
    have HM5 := Lib.hid (show MxR W5 W5.heap.size (.agg #[.int .i64 DYT, .int .i64 DXF, .slice s1A s1n s1c]) (mxF DYT DXF (muP X.p DYF (arF Y k) (F nf))) from hM12.rd)
    have HB5 := Lib.hid hb5
    have hsz5 := hb5.size
    have HO5 := Lib.hid (HO.out.below hb5)
    have fr5 := k5'.frozen
    have z0_ := k5'.cell' (i := 0) rfl
    have z1_ := k5'.cell' (i := 1) rfl
    have z2_ := k5'.cell' (i := 2) rfl
    clear hiv hdj hs e11 hs1n k5 hb5 hI1 hb hc5 hM11 hM12 k5' e12
    go_wp2
    clear hW5 fr5 z0_ z1_ z2_
    have sW := HB.out.size
    have KK1 := Lib.hid (K1.out.call HB5.out)
    have KK2 := Lib.hid (K2.out.call HB5.out)
    have HMX5 := Lib.hid (MxR.next HB5.out HMX.out)
    have HMG5 := Lib.hid (MxR.next HB5.out HMG.out)
    refine wp_region_net (by kernel_rfl) [.eq (.slice OA k oc), .eq (.pointer (some ⟨w0.heap.size, 0, none⟩)), .eq (.int .i64 X.p), .eq (.agg #[.int .i64 DYT, .int .i64 DXF, .slice s1A s1n s1c]), .eq (.pointer (some ⟨w0.heap.size, 0, none⟩)), .eq (.int .i64 X.p), .eq (.int .i64 (X.p - 1)), .eq (.pointer (some ⟨w0.heap.size, 0, none⟩)), .eq (.int .i64 X.p), .eq (.slice (some ⟨bg, og, none⟩) X.d.length fc), .eq (.pointer (some ⟨w0.heap.size, 1, none⟩)), .eq (.pointer (some ⟨w0.heap.size, 3, none⟩)), .eq (.slice (some ⟨bt, ot, none⟩) X.q.t.length c), .eq (.int .i64 k), .eq (.pointer (some ⟨bt, ot + k, none⟩)), .eq (.int .i64 nt), .eq (.pointer (some ⟨bg, og + nt * 3, none⟩)), .eq (.agg #[.int .i64 DYT, .int .i64 DXT, .slice AG LG cg]), .eq (.pointer (some ⟨w0.heap.size, 5, none⟩)), .eq (.slice (some ⟨bx, ox, none⟩) X.m.length ha_), .eq (.int .i64 k), .eq (.pointer (some ⟨bx, ox + k * 3, none⟩)), .eq (.agg #[.int .i64 DXT, .int .i64 DXF, .slice AX LX cx]), rel 23 (fun u lo hi w => MxO w lo hi u (mxF DYT DXF (muP X.p DXT (F nt) (arF X k)))), rel 24 (fun u lo hi w => MxO w lo hi u (mxF DYT DXF CF)), .rel (fun x w => ∃ g s, x.v 25 = .slice (some ⟨g, 0, none⟩) 1 1 ∧ x.v 24 = .agg #[.int .i64 DYT, .int .i64 DXF, s] ∧ Blk w g 50 #[.int .i64 DYT, .int .i64 DXF, s])] [[], [], [1], [], [], [4], [4, 5], [], [7], [], [], [10], [10, 11], [], [10, 11, 12, 13], [10, 11, 12, 13, 14], [9, 10, 11, 12, 13, 14, 15], [9, 10, 11, 12, 13, 14, 15, 16], [], [18], [], [18, 19, 20], [18, 19, 20, 21], [7, 8, 9, 10, 11, 12, 13, 14, 15, 16, 17, 18, 19, 20, 21, 22], [1, 2, 3, 4, 5, 6, 7, 8, 9, 10, 11, 12, 13, 14, 15, 16, 17, 18, 19, 20, 21, 22, 23], [1, 2, 3, 4, 5, 6, 7, 8, 9, 10, 11, 12, 13, 14, 15, 16, 17, 18, 19, 20, 21, 22, 23, 24], [0, 1, 2, 3, 4, 5, 6, 7, 8, 9, 10, 11, 12, 13, 14, 15, 16, 17, 18, 19, 20, 21, 22, 23, 24, 25], [0, 1, 2, 3, 4, 5, 6, 7, 8, 9, 10, 11, 12, 13, 14, 15, 16, 17, 18, 19, 20, 21, 22, 23, 24, 25, 26]] 26 (by kernel_rfl) ⟨trivial, trivial, trivial, trivial, trivial, trivial, trivial, trivial, trivial, trivial, trivial, trivial, trivial, trivial, trivial, trivial, trivial, trivial, trivial, trivial, trivial, trivial, trivial, rel_stable (fun u lo hi w w' h hb => h.below hb), rel_stable (fun u lo hi w w' h hb => h.below hb), fun x w w' ⟨g, s, e1, e2, h⟩ hb => ⟨g, s, e1, e2, h.call hb⟩, trivial⟩ ⟨?_, ?_, ?_, ?_, ?_, ?_, ?_, ?_, ?_, ?_, ?_, ?_, ?_, ?_, ?_, ?_, ?_, ?_, ?_, ?_, ?_, ?_, ?_, ?_, ?_, ?_, trivial⟩ ?_
    ·intro x w hb hk Q' hQ
     clear hk
     simp only [netE] at hQ ⊢
     go_wp2
     exact hQ _ _ (Below.refl _ _) rfl
    ·intro x w hb hk Q' hQ
     clear hk
     simp only [netE] at hQ ⊢
     go_wp2
     exact hQ _ _ (Below.refl _ _) rfl
    ·intro x w hb hk Q' hQ
     have h1 : x.v 1 = .pointer (some ⟨w0.heap.size, 0, none⟩) := (hk 1 (by decide)).1
     clear hk
     simp only [netE] at hQ ⊢
     simp only [h1] at hQ ⊢
     clear h1
     have z := (KK1.out.call hb).cell' (i := 0) rfl
     go_wp2
     exact hQ _ _ (Below.refl _ _) rfl
    ·intro x w hb hk Q' hQ
     clear hk
     simp only [netE] at hQ ⊢
     have q0 := (K5.out.call hb).cell' (i := 0) rfl
     have q1 := (K5.out.call hb).cell' (i := 1) rfl
     have q2 := (K5.out.call hb).cell' (i := 2) rfl
     go_wp2
     exact hQ _ _ (Below.refl _ _) rfl
    ·intro x w hb hk Q' hQ
     clear hk
     simp only [netE] at hQ ⊢
     go_wp2
     exact hQ _ _ (Below.refl _ _) rfl
    ·intro x w hb hk Q' hQ
     have h4 : x.v 4 = .pointer (some ⟨w0.heap.size, 0, none⟩) := (hk 4 (by decide)).1
     clear hk
     simp only [netE] at hQ ⊢
     simp only [h4] at hQ ⊢
     clear h4
     have z := (KK1.out.call hb).cell' (i := 0) rfl
     go_wp2
     exact hQ _ _ (Below.refl _ _) rfl
    ·intro x w hb hk Q' hQ
     have h5 : x.v 5 = .int .i64 X.p := (hk 5 (by decide)).1
     clear hk
     simp only [netE] at hQ ⊢
     simp only [h5] at hQ ⊢
     clear h5
     go_wp2
     exact hQ _ _ (Below.refl _ _) rfl
    ·intro x w hb hk Q' hQ
     clear hk
     simp only [netE] at hQ ⊢
     go_wp2
     exact hQ _ _ (Below.refl _ _) rfl
    ·intro x w hb hk Q' hQ
     have h7 : x.v 7 = .pointer (some ⟨w0.heap.size, 0, none⟩) := (hk 7 (by decide)).1
     clear hk
     simp only [netE] at hQ ⊢
     simp only [h7] at hQ ⊢
     clear h7
     have z := (KK1.out.call hb).cell' (i := 0) rfl
     go_wp2
     exact hQ _ _ (Below.refl _ _) rfl
    ·intro x w hb hk Q' hQ
     clear hk
     simp only [netE] at hQ ⊢
     go_wp2
     exact hQ _ _ (Below.refl _ _) rfl
    ·intro x w hb hk Q' hQ
     clear hk
     simp only [netE] at hQ ⊢
     go_wp2
     exact hQ _ _ (Below.refl _ _) rfl
    ·intro x w hb hk Q' hQ
     have h10 : x.v 10 = .pointer (some ⟨w0.heap.size, 1, none⟩) := (hk 10 (by decide)).1
     clear hk
     simp only [netE] at hQ ⊢
     simp only [h10] at hQ ⊢
     clear h10
     go_wp2
     exact hQ _ _ (Below.refl _ _) rfl
    ·intro x w hb hk Q' hQ
     have h11 : x.v 11 = .pointer (some ⟨w0.heap.size, 3, none⟩) := (hk 11 (by decide)).1
     clear hk
     simp only [netE] at hQ ⊢
     simp only [h11] at hQ ⊢
     clear h11
     have z := (KK1.out.call hb).cell' (i := 3) rfl
     go_wp2
     exact hQ _ _ (Below.refl _ _) rfl
    ·intro x w hb hk Q' hQ
     clear hk
     simp only [netE] at hQ ⊢
     go_wp2
     exact hQ _ _ (Below.refl _ _) rfl
    ·intro x w hb hk Q' hQ
     have h12 : x.v 12 = .slice (some ⟨bt, ot, none⟩) X.q.t.length c := (hk 12 (by decide)).1
     have h13 : x.v 13 = .int .i64 k := (hk 13 (by decide)).1
     clear hk
     simp only [netE] at hQ ⊢
     simp only [h12, h13] at hQ ⊢
     clear h12 h13
     go_wp2
     exact hQ _ _ (Below.refl _ _) rfl
    ·intro x w hb hk Q' hQ
     have h14 : x.v 14 = .pointer (some ⟨bt, ot + k, none⟩) := (hk 14 (by decide)).1
     clear hk
     simp only [netE] at hQ ⊢
     simp only [h14] at hQ ⊢
     clear h14
     have z := bcell (HB5.out.trans (hb.mono hsz5)) (by omega) Y2.out
     go_wp2
     exact hQ _ _ (Below.refl _ _) rfl
    ·intro x w hb hk Q' hQ
     have h9 : x.v 9 = .slice (some ⟨bg, og, none⟩) X.d.length fc := (hk 9 (by decide)).1
     have h15 : x.v 15 = .int .i64 nt := (hk 15 (by decide)).1
     clear hk
     simp only [netE] at hQ ⊢
     simp only [h9, h15] at hQ ⊢
     clear h9 h15
     go_wp2
     exact hQ _ _ (Below.refl _ _) rfl
    ·intro x w hb hk Q' hQ
     have h16 : x.v 16 = .pointer (some ⟨bg, og + nt * 3, none⟩) := (hk 16 (by decide)).1
     clear hk
     simp only [netE] at hQ ⊢
     simp only [h16] at hQ ⊢
     clear h16
     have q0 := bcell (HB5.out.trans (hb.mono hsz5)) (by omega) MG0.out
     have q1 := bcell (HB5.out.trans (hb.mono hsz5)) (by omega) MG1.out
     have q2 := bcell (HB5.out.trans (hb.mono hsz5)) (by omega) MG2.out
     go_wp2
     exact hQ _ _ (Below.refl _ _) rfl
    ·intro x w hb hk Q' hQ
     clear hk
     simp only [netE] at hQ ⊢
     go_wp2
     exact hQ _ _ (Below.refl _ _) rfl
    ·intro x w hb hk Q' hQ
     have h18 : x.v 18 = .pointer (some ⟨w0.heap.size, 5, none⟩) := (hk 18 (by decide)).1
     clear hk
     simp only [netE] at hQ ⊢
     simp only [h18] at hQ ⊢
     clear h18
     have z := (KK1.out.call hb).cell' (i := 5) rfl
     go_wp2
     exact hQ _ _ (Below.refl _ _) rfl
    ·intro x w hb hk Q' hQ
     clear hk
     simp only [netE] at hQ ⊢
     go_wp2
     exact hQ _ _ (Below.refl _ _) rfl
    ·intro x w hb hk Q' hQ
     have h19 : x.v 19 = .slice (some ⟨bx, ox, none⟩) X.m.length ha_ := (hk 19 (by decide)).1
     have h20 : x.v 20 = .int .i64 k := (hk 20 (by decide)).1
     clear hk
     simp only [netE] at hQ ⊢
     simp only [h19, h20] at hQ ⊢
     clear h19 h20
     go_wp2
     exact hQ _ _ (Below.refl _ _) rfl
    ·intro x w hb hk Q' hQ
     have h21 : x.v 21 = .pointer (some ⟨bx, ox + k * 3, none⟩) := (hk 21 (by decide)).1
     clear hk
     simp only [netE] at hQ ⊢
     simp only [h21] at hQ ⊢
     clear h21
     have q0 := bcell (HB5.out.trans (hb.mono hsz5)) (by omega) MX0.out
     have q1 := bcell (HB5.out.trans (hb.mono hsz5)) (by omega) MX1.out
     have q2 := bcell (HB5.out.trans (hb.mono hsz5)) (by omega) MX2.out
     go_wp2
     exact hQ _ _ (Below.refl _ _) rfl
    ·intro x w hb hk Q' hQ
     have h7 : x.v 7 = .pointer (some ⟨w0.heap.size, 0, none⟩) := (hk 7 (by decide)).1
     have h8 : x.v 8 = .int .i64 X.p := (hk 8 (by decide)).1
     have h9 : x.v 9 = .slice (some ⟨bg, og, none⟩) X.d.length fc := (hk 9 (by decide)).1
     have h10 : x.v 10 = .pointer (some ⟨w0.heap.size, 1, none⟩) := (hk 10 (by decide)).1
     have h11 : x.v 11 = .pointer (some ⟨w0.heap.size, 3, none⟩) := (hk 11 (by decide)).1
     have h12 : x.v 12 = .slice (some ⟨bt, ot, none⟩) X.q.t.length c := (hk 12 (by decide)).1
     have h13 : x.v 13 = .int .i64 k := (hk 13 (by decide)).1
     have h14 : x.v 14 = .pointer (some ⟨bt, ot + k, none⟩) := (hk 14 (by decide)).1
     have h15 : x.v 15 = .int .i64 nt := (hk 15 (by decide)).1
     have h16 : x.v 16 = .pointer (some ⟨bg, og + nt * 3, none⟩) := (hk 16 (by decide)).1
     have h17 : x.v 17 = .agg #[.int .i64 DYT, .int .i64 DXT, .slice AG LG cg] := (hk 17 (by decide)).1
     have h18 : x.v 18 = .pointer (some ⟨w0.heap.size, 5, none⟩) := (hk 18 (by decide)).1
     have h19 : x.v 19 = .slice (some ⟨bx, ox, none⟩) X.m.length ha_ := (hk 19 (by decide)).1
     have h20 : x.v 20 = .int .i64 k := (hk 20 (by decide)).1
     have h21 : x.v 21 = .pointer (some ⟨bx, ox + k * 3, none⟩) := (hk 21 (by decide)).1
     have h22 : x.v 22 = .agg #[.int .i64 DXT, .int .i64 DXF, .slice AX LX cx] := (hk 22 (by decide)).1
     clear hk
     simp only [netE] at hQ ⊢
     simp only [h7, h8, h9, h10, h11, h12, h13, h14, h15, h16, h17, h18, h19, h20, h21, h22] at hQ ⊢
     clear h7 h8 h9 h10 h11 h12 h13 h14 h15 h16 h17 h18 h19 h20 h21 h22
     have hA := Lib.hid (MxR.next hb HMG5.out)
     have hB := Lib.hid (MxR.next hb HMX5.out)
     go_wp2_with fail
     refine (times_any X.p _ _ DYT DXT DXF (F nt) (arF X k) _ hp2 (by omega) (by omega) (by omega) hA.out hB.out HIT.out HIX.out).mono ?_; rintro e w3 ⟨v3, rfl, hZ, hb3⟩
     go_wp2
     exact hQ _ _ hb3 hZ
    ·intro x w hb hk Q' hQ
     have h1 : x.v 1 = .pointer (some ⟨w0.heap.size, 0, none⟩) := (hk 1 (by decide)).1
     have h2 : x.v 2 = .int .i64 X.p := (hk 2 (by decide)).1
     have h3 : x.v 3 = .agg #[.int .i64 DYT, .int .i64 DXF, .slice s1A s1n s1c] := (hk 3 (by decide)).1
     have h4 : x.v 4 = .pointer (some ⟨w0.heap.size, 0, none⟩) := (hk 4 (by decide)).1
     have h5 : x.v 5 = .int .i64 X.p := (hk 5 (by decide)).1
     have h6 : x.v 6 = .int .i64 (X.p - 1) := (hk 6 (by decide)).1
     have h7 : x.v 7 = .pointer (some ⟨w0.heap.size, 0, none⟩) := (hk 7 (by decide)).1
     have h8 : x.v 8 = .int .i64 X.p := (hk 8 (by decide)).1
     have h9 : x.v 9 = .slice (some ⟨bg, og, none⟩) X.d.length fc := (hk 9 (by decide)).1
     have h10 : x.v 10 = .pointer (some ⟨w0.heap.size, 1, none⟩) := (hk 10 (by decide)).1
     have h11 : x.v 11 = .pointer (some ⟨w0.heap.size, 3, none⟩) := (hk 11 (by decide)).1
     have h12 : x.v 12 = .slice (some ⟨bt, ot, none⟩) X.q.t.length c := (hk 12 (by decide)).1
     have h13 : x.v 13 = .int .i64 k := (hk 13 (by decide)).1
     have h14 : x.v 14 = .pointer (some ⟨bt, ot + k, none⟩) := (hk 14 (by decide)).1
     have h15 : x.v 15 = .int .i64 nt := (hk 15 (by decide)).1
     have h16 : x.v 16 = .pointer (some ⟨bg, og + nt * 3, none⟩) := (hk 16 (by decide)).1
     have h17 : x.v 17 = .agg #[.int .i64 DYT, .int .i64 DXT, .slice AG LG cg] := (hk 17 (by decide)).1
     have h18 : x.v 18 = .pointer (some ⟨w0.heap.size, 5, none⟩) := (hk 18 (by decide)).1
     have h19 : x.v 19 = .slice (some ⟨bx, ox, none⟩) X.m.length ha_ := (hk 19 (by decide)).1
     have h20 : x.v 20 = .int .i64 k := (hk 20 (by decide)).1
     have h21 : x.v 21 = .pointer (some ⟨bx, ox + k * 3, none⟩) := (hk 21 (by decide)).1
     have h22 : x.v 22 = .agg #[.int .i64 DXT, .int .i64 DXF, .slice AX LX cx] := (hk 22 (by decide)).1
     have h23 : MxO w (x.lo 23) (x.hi 23) (x.v 23) (mxF DYT DXF (muP X.p DXT (F nt) (arF X k))) := (hk 23 (by decide)).1
     have s23 := (hk 23 (by decide)).2
     clear hk
     simp only [netE] at hQ ⊢
     simp only [h1, h2, h3, h4, h5, h6, h7, h8, h9, h10, h11, h12, h13, h14, h15, h16, h17, h18, h19, h20, h21, h22] at hQ ⊢
     clear h1 h2 h3 h4 h5 h6 h7 h8 h9 h10 h11 h12 h13 h14 h15 h16 h17 h18 h19 h20 h21 h22
     have hA := Lib.hid (MxR.next hb HM5.out)
     have hB := Lib.hid h23.rd
     obtain ⟨s2, e23, _⟩ := h23
     rw [e23] at hB hQ ⊢
     go_wp2_with fail
     refine (plus_any X.p (X.p - 1) _ _ DYT DXF (muP X.p DYF (arF Y k) (F nf)) (muP X.p DXT (F nt) (arF X k)) _ hp2 (by omega) hA.out hB.out (by omega) (by omega) (fun i j _ _ => by have := muP_rng hp2.1 DYF (arF Y k) (F nf) i j; omega) (fun i j _ _ => by have := muP_rng hp2.1 DXT (F nt) (arF X k) i j; omega)).mono ?_; rintro e w3 ⟨v3, rfl, hZ, hb3⟩
     rw [← HCB.out] at hZ
     go_wp2
     exact hQ _ _ hb3 hZ
    ·intro x w hb hk Q' hQ
     have h1 : x.v 1 = .pointer (some ⟨w0.heap.size, 0, none⟩) := (hk 1 (by decide)).1
     have h2 : x.v 2 = .int .i64 X.p := (hk 2 (by decide)).1
     have h3 : x.v 3 = .agg #[.int .i64 DYT, .int .i64 DXF, .slice s1A s1n s1c] := (hk 3 (by decide)).1
     have h4 : x.v 4 = .pointer (some ⟨w0.heap.size, 0, none⟩) := (hk 4 (by decide)).1
     have h5 : x.v 5 = .int .i64 X.p := (hk 5 (by decide)).1
     have h6 : x.v 6 = .int .i64 (X.p - 1) := (hk 6 (by decide)).1
     have h7 : x.v 7 = .pointer (some ⟨w0.heap.size, 0, none⟩) := (hk 7 (by decide)).1
     have h8 : x.v 8 = .int .i64 X.p := (hk 8 (by decide)).1
     have h9 : x.v 9 = .slice (some ⟨bg, og, none⟩) X.d.length fc := (hk 9 (by decide)).1
     have h10 : x.v 10 = .pointer (some ⟨w0.heap.size, 1, none⟩) := (hk 10 (by decide)).1
     have h11 : x.v 11 = .pointer (some ⟨w0.heap.size, 3, none⟩) := (hk 11 (by decide)).1
     have h12 : x.v 12 = .slice (some ⟨bt, ot, none⟩) X.q.t.length c := (hk 12 (by decide)).1
     have h13 : x.v 13 = .int .i64 k := (hk 13 (by decide)).1
     have h14 : x.v 14 = .pointer (some ⟨bt, ot + k, none⟩) := (hk 14 (by decide)).1
     have h15 : x.v 15 = .int .i64 nt := (hk 15 (by decide)).1
     have h16 : x.v 16 = .pointer (some ⟨bg, og + nt * 3, none⟩) := (hk 16 (by decide)).1
     have h17 : x.v 17 = .agg #[.int .i64 DYT, .int .i64 DXT, .slice AG LG cg] := (hk 17 (by decide)).1
     have h18 : x.v 18 = .pointer (some ⟨w0.heap.size, 5, none⟩) := (hk 18 (by decide)).1
     have h19 : x.v 19 = .slice (some ⟨bx, ox, none⟩) X.m.length ha_ := (hk 19 (by decide)).1
     have h20 : x.v 20 = .int .i64 k := (hk 20 (by decide)).1
     have h21 : x.v 21 = .pointer (some ⟨bx, ox + k * 3, none⟩) := (hk 21 (by decide)).1
     have h22 : x.v 22 = .agg #[.int .i64 DXT, .int .i64 DXF, .slice AX LX cx] := (hk 22 (by decide)).1
     have h23 : MxO w (x.lo 23) (x.hi 23) (x.v 23) (mxF DYT DXF (muP X.p DXT (F nt) (arF X k))) := (hk 23 (by decide)).1
     have h24 : MxO w (x.lo 24) (x.hi 24) (x.v 24) (mxF DYT DXF CF) := (hk 24 (by decide)).1
     have s23 := (hk 23 (by decide)).2
     have s24 := (hk 24 (by decide)).2
     clear hk
     simp only [netE] at hQ ⊢
     simp only [h1, h2, h3, h4, h5, h6, h7, h8, h9, h10, h11, h12, h13, h14, h15, h16, h17, h18, h19, h20, h21, h22] at hQ ⊢
     clear h1 h2 h3 h4 h5 h6 h7 h8 h9 h10 h11 h12 h13 h14 h15 h16 h17 h18 h19 h20 h21 h22
     obtain ⟨s, e24, hs⟩ := h24
     obtain ⟨sA, sc, es⟩ := hs.1.form
     obtain ⟨sn, hsn⟩ : ∃ n, (mxF DYT DXF CF).a.length = n := ⟨_, rfl⟩
     rw [hsn] at es
     clear hsn hs
     subst es
     have hQ' := hQ (.slice (some ⟨w.heap.size, 0, none⟩) 1 1) (w.alloc (.cells #[.int .i64 (mxF DYT DXF CF).r, .int .i64 (mxF DYT DXF CF).c, .slice sA sn sc] 50)) (below_alloc _ _) ⟨_, _, rfl, e24, Blk.new _ _ _⟩
     simp only [mxF] at e24 hQ'
     rw [e24] at hQ' ⊢
     go_wp2
     exact hQ'
    ·intro x w hb hk hiv hdj
     have h0 : x.v 0 = .slice OA k oc := hk 0 (by decide)
     have h1 : x.v 1 = .pointer (some ⟨w0.heap.size, 0, none⟩) := hk 1 (by decide)
     have h2 : x.v 2 = .int .i64 X.p := hk 2 (by decide)
     have h3 : x.v 3 = .agg #[.int .i64 DYT, .int .i64 DXF, .slice s1A s1n s1c] := hk 3 (by decide)
     have h4 : x.v 4 = .pointer (some ⟨w0.heap.size, 0, none⟩) := hk 4 (by decide)
     have h5 : x.v 5 = .int .i64 X.p := hk 5 (by decide)
     have h6 : x.v 6 = .int .i64 (X.p - 1) := hk 6 (by decide)
     have h7 : x.v 7 = .pointer (some ⟨w0.heap.size, 0, none⟩) := hk 7 (by decide)
     have h8 : x.v 8 = .int .i64 X.p := hk 8 (by decide)
     have h9 : x.v 9 = .slice (some ⟨bg, og, none⟩) X.d.length fc := hk 9 (by decide)
     have h10 : x.v 10 = .pointer (some ⟨w0.heap.size, 1, none⟩) := hk 10 (by decide)
     have h11 : x.v 11 = .pointer (some ⟨w0.heap.size, 3, none⟩) := hk 11 (by decide)
     have h12 : x.v 12 = .slice (some ⟨bt, ot, none⟩) X.q.t.length c := hk 12 (by decide)
     have h13 : x.v 13 = .int .i64 k := hk 13 (by decide)
     have h14 : x.v 14 = .pointer (some ⟨bt, ot + k, none⟩) := hk 14 (by decide)
     have h15 : x.v 15 = .int .i64 nt := hk 15 (by decide)
     have h16 : x.v 16 = .pointer (some ⟨bg, og + nt * 3, none⟩) := hk 16 (by decide)
     have h17 : x.v 17 = .agg #[.int .i64 DYT, .int .i64 DXT, .slice AG LG cg] := hk 17 (by decide)
     have h18 : x.v 18 = .pointer (some ⟨w0.heap.size, 5, none⟩) := hk 18 (by decide)
     have h19 : x.v 19 = .slice (some ⟨bx, ox, none⟩) X.m.length ha_ := hk 19 (by decide)
     have h20 : x.v 20 = .int .i64 k := hk 20 (by decide)
     have h21 : x.v 21 = .pointer (some ⟨bx, ox + k * 3, none⟩) := hk 21 (by decide)
     have h22 : x.v 22 = .agg #[.int .i64 DXT, .int .i64 DXF, .slice AX LX cx] := hk 22 (by decide)
     have h23 : MxO w (x.lo 23) (x.hi 23) (x.v 23) (mxF DYT DXF (muP X.p DXT (F nt) (arF X k))) := hk 23 (by decide)
     have h24 : MxO w (x.lo 24) (x.hi 24) (x.v 24) (mxF DYT DXF CF) := hk 24 (by decide)
     have h25 : ∃ g s, x.v 25 = .slice (some ⟨g, 0, none⟩) 1 1 ∧ x.v 24 = .agg #[.int .i64 DYT, .int .i64 DXF, s] ∧ Blk w g 50 #[.int .i64 DYT, .int .i64 DXF, s] := hk 25 (by decide)
     clear hk
     simp only [netE]
     simp only [List.drop_succ_cons, List.drop_zero, h0, h1, h2, h3, h4, h5, h6, h7, h8, h9, h10, h11, h12, h13, h14, h15, h16, h17, h18, h19, h20, h21, h22]
     clear h0 h1 h2 h3 h4 h5 h6 h7 h8 h9 h10 h11 h12 h13 h14 h15 h16 h17 h18 h19 h20 h21 h22
     obtain ⟨g, s, ej, ei, hg⟩ := h25
     have li2 := (hiv 24 (by decide)).1
     have hi2 := (hiv 24 (by decide)).2.2
     obtain ⟨s', ei', hs, hI⟩ := h24
     rw [ei] at ei'
     simp only [Value.agg.injEq, Array.mk.injEq, List.cons.injEq, and_true, mxF, true_and] at ei'
     subst ei'
     rw [ej]
     have hbs2 := hb.size
     have HOZ := Lib.hid (HO5.out.below hb)
     have HKZ := Lib.hid hg
     have HSZ := Lib.hid (hs.wider li2 hi2)
     have HI := Lib.hid hI
     have HBZ := Lib.hid ((HB.out.trans (HB5.out.mono hbs)).trans (hb.mono (by omega)))
     clear hiv hdj hs hI ej ei hg hb
     refine wpList_appMats (by rfl) (.tmp 32) (.tmp 57) (by rfl) W.heap.size wr.heap.size _ (cbL X Y F k) (by rfl) HOZ.out g 1 W5.heap.size w.heap.size (mxF DYT DXF CF) s (by rfl) HKZ.out HSZ.out HI.out hsz5 hbs (Nat.le_refl _) (by omega) (by rw [cbL_length]; omega) ?_
     intro v' w' h1 h2
     rw [← HZS.out] at h1
     have H1 := Lib.hid h1
     have H2 := Lib.hid (HBZ.out.trans (h2.below (Nat.le_refl _) (by omega)))
     clear h1 h2
     go_wp2
     go_roundw
     case rel => exact ⟨k + 1, by omega, by go_num, H1.out, H2.out⟩
     case measure => simp [intOf]; omega
  ·obtain rfl : k = X.q.f.length := by omega
   have HO := Lib.hid hO
   have GF := Lib.hid (G0.out.trans (hbel.mono G0.out.size))
   have hgs := G0.out.size
   clear hO hbel
   go_wp2
   go_ret
   exact ⟨_, rfl, HO.out.wider hgs (Nat.le_refl _), GF.out⟩
end Go.Proofs.YtcmlflppndfdcaaGreat
namespace Go.Proofs.YtcmlflppndfdcaaGreat
open Go.RowKit
def homN (X Y : Rp) : Nat := hmN X Y - rkF X.p (eqR X Y) (hmN X Y) (eqG X Y)
def extN (X Y : Rp) : Nat := eqR X Y - rkF X.p (eqR X Y) (hmN X Y) (eqG X Y)
theorem mv_unit (X Y : Rp) (j V : Nat) : shF X.d Y.d (unitE j) V = mvL X Y (uF X Y j) V := rfl
theorem uF_in {X Y : Rp} (hp : 2 ≤ X.p) (j v r c : Nat) : InF X.p r c (uF X Y j v) := fun a b _ _ => by
 have := hInd_rng (hOff X.d Y.d v + a * dmN X.d v + b) j
 unfold uF
 omega
set_option maxHeartbeats 12800000 in
set_option maxRecDepth 100000 in
theorem boundaries_any (ua ub : Value) (X Y : Rp) (w0 : World) (ha : RpR w0 w0.heap.size ua X) (hb : RpR w0 w0.heap.size ub Y) (hf : Fit2 X Y) :
  Calls Tryz.prog 98 #[ua, ub] w0 fun e w' => ∃ v, e = .returned v ∧ MxO w' w0.heap.size w'.heap.size v (mxF (eqR X Y) (hmN X Y) (eqG X Y)) ∧ Below w0.heap.size w0 w' := by
 have ha' := ha
 have hb' := hb
 obtain ⟨A, a, C, c, Ea, ea, Ha, ha_, rfl, _⟩ := ha.open_
 obtain ⟨A2, a2, C2, c2, Eb, eb, Hb, hb_, rfl, _⟩ := hb.open_
 clear ha hb
 obtain ⟨W, hW⟩ : ∃ W, W = ((w0.alloc (.cells #[.int .i64 X.p, .int .i64 X.q.v, .slice A X.q.f.length a, .slice C X.q.t.length c, .slice Ea X.d.length ea, .slice Ha X.m.length ha_] 32)).alloc (.cells #[.int .i64 Y.p, .int .i64 Y.q.v, .slice A2 Y.q.f.length a2, .slice C2 Y.q.t.length c2, .slice Eb Y.d.length eb, .slice Hb Y.m.length hb_] 32)).alloc (.cells #[.int .i64 0, .int .i64 0, .slice none 0 0] 50) := ⟨_, rfl⟩
 have g0 : Below w0.heap.size w0 W := by rw [hW]; exact (((Below.refl _ _).alloc (Nat.le_refl _) _).alloc (by simp) _).alloc (by simp; omega) _
 have k1 : Blk W w0.heap.size 32 #[.int .i64 X.p, .int .i64 X.q.v, .slice A X.q.f.length a, .slice C X.q.t.length c, .slice Ea X.d.length ea, .slice Ha X.m.length ha_] := by rw [hW]; exact ((Blk.new _ _ _).alloc _).alloc _
 have k2 : Blk W (w0.heap.size + 1) 32 #[.int .i64 Y.p, .int .i64 Y.q.v, .slice A2 Y.q.f.length a2, .slice C2 Y.q.t.length c2, .slice Eb Y.d.length eb, .slice Hb Y.m.length hb_] := by
  rw [hW]
  have := (Blk.new (w0.alloc (.cells #[.int .i64 X.p, .int .i64 X.q.v, .slice A X.q.f.length a, .slice C X.q.t.length c, .slice Ea X.d.length ea, .slice Ha X.m.length ha_] 32)) 32 #[.int .i64 Y.p, .int .i64 Y.q.v, .slice A2 Y.q.f.length a2, .slice C2 Y.q.t.length c2, .slice Eb Y.d.length eb, .slice Hb Y.m.length hb_]).alloc (.cells #[.int .i64 0, .int .i64 0, .slice none 0 0] 50)
  simpa only [World.size_alloc] using this
 have k3 : Blk W (w0.heap.size + 1 + 1) 50 #[.int .i64 0, .int .i64 0, .slice none 0 0] := by
  rw [hW]
  have := Blk.new ((w0.alloc (.cells #[.int .i64 X.p, .int .i64 X.q.v, .slice A X.q.f.length a, .slice C X.q.t.length c, .slice Ea X.d.length ea, .slice Ha X.m.length ha_] 32)).alloc (.cells #[.int .i64 Y.p, .int .i64 Y.q.v, .slice A2 Y.q.f.length a2, .slice C2 Y.q.t.length c2, .slice Eb Y.d.length eb, .slice Hb Y.m.length hb_] 32)) 50 #[.int .i64 0, .int .i64 0, .slice none 0 0]
  simpa only [World.size_alloc] using this
 have sz : W.heap.size = w0.heap.size + 1 + 1 + 1 := by rw [hW]; simp
 have SZ := Lib.hid sz
 have HXA := Lib.hid (RpR.next g0 ha')
 have HXB := Lib.hid (RpR.next g0 hb')
 have G0 := Lib.hid g0
 have HF := Lib.hid hf
 have hl5 := hf.len.2
 have hN80 := hmN_le hf
 have hR96 := eqR_le hf
 have HN6 := Lib.hid hf.arrs.1
 have c0 := k1.cell' (i := 0) rfl
 have c1 := k1.cell' (i := 1) rfl
 have c2_ := k1.cell' (i := 2) rfl
 have c3 := k1.cell' (i := 3) rfl
 have c4 := k1.cell' (i := 4) rfl
 have c5 := k1.cell' (i := 5) rfl
 have d0 := k2.cell' (i := 0) rfl
 have d1 := k2.cell' (i := 1) rfl
 have d2 := k2.cell' (i := 2) rfl
 have d3 := k2.cell' (i := 3) rfl
 have d4 := k2.cell' (i := 4) rfl
 have d5 := k2.cell' (i := 5) rfl
 obtain ⟨n, hn⟩ : ∃ n, hmN X Y = n := ⟨_, rfl⟩
 have HN' := Lib.hid (show hOff X.d Y.d X.d.length = n from hn)
 obtain ⟨R, hR⟩ : ∃ R, eqR X Y = R := ⟨_, rfl⟩
 obtain ⟨g, hg⟩ : ∃ g, eqG X Y = g := ⟨_, rfl⟩
 have HCOL := Lib.hid (show ∀ j, j < n → rowF R (fun i => g i j) = flM (cbL X Y (uF X Y j) X.q.f.length) from fun j hj => by rw [← hR, ← hg]; exact eqG_col X Y j (by rw [hn]; exact hj))
 have HR := Lib.hid hR
 rw [hn] at hN80 ⊢
 rw [hR] at hR96 ⊢
 rw [hg]
 clear hn hR hg
 clear ha' hb' g0 sz hf
 go_enter Tryz.func98, Tryz.ntmps98
 go_wp2_with fail
 rw [← hW]; clear hW
 refine (zeros_any _ _ X Y _ HXA.out HXB.out HF.out).mono ?_; rintro e w1 ⟨v1, rfl, hZ, hb1⟩
 obtain ⟨ZA, zc, ez, _, _⟩ := hZ.form2
 rw [zrL_length] at ez
 subst ez
 have HZ := Lib.hid hZ
 have s1 := hb1.size
 have B1 := Lib.hid hb1
 clear hZ hb1
 go_wp2_with fail
 refine (flat_any _ (zrL X.d Y.d X.d.length) _ HZ.out.rd (by rw [zrL_length]; omega) (by rw [zrL_tot, HN'.out]; omega)).mono ?_; rintro e w2 ⟨v2, rfl, hFl, hb2⟩
 obtain ⟨FA, fc, ef⟩ := hFl.form
 rw [flM_length, zrL_tot] at ef
 subst ef
 rw [HN'.out]
 have s2 := hb2.size
 have B2 := Lib.hid (B1.out.trans (hb2.mono s1))
 have HZ2 := Lib.hid (HZ.out.below hb2)
 have HXA2 := Lib.hid (RpR.next B2.out HXA.out)
 have HXB2 := Lib.hid (RpR.next B2.out HXB.out)
 have K1 := Lib.hid (k1.call B2.out)
 have K2 := Lib.hid (k2.call B2.out)
 have K3 := Lib.hid (k3.call B2.out)
 clear hFl hb2 c0 c1 c2_ c3 c4 c5 d0 d1 d2 d3 d4 d5 k1 k2 k3
 go_wp2
 go_loopw [7, 17] (fun out i wr => ∃ k : Nat, k ≤ n ∧ i = .int .i64 k ∧ IntssO wr w2.heap.size wr.heap.size out (rowsF k R (fun a b => g b a)) ∧ Below w2.heap.size w2 wr) (fun _ i _ => n - (intOf i).toNat)
 case atStart => exact ⟨0, Nat.zero_le _, rfl, by simpa [rowsF] using IntssO.nil w2 w2.heap.size w2.heap.size, Below.refl _ _⟩
 case round =>
  obtain ⟨k, hk, rfl, hO, hbel⟩ := hrel
  have hbs := hbel.size
  obtain ⟨OA, oc, eo, _, _, _⟩ := hO.form2
  rw [rowsF_length] at eo
  subst eo
  by_cases hlt : k < n
  ·have hmk := run_mkI wr (n := n) (by omega)
   obtain ⟨W4, hW4⟩ : ∃ z, wr.alloc (.cells (mkCells (.int .i64 0) n) 3) = z := ⟨_, rfl⟩
   rw [hW4] at hmk
   have g4 : Below wr.heap.size wr W4 := by rw [← hW4]; exact below_alloc _ _
   have o4 : OwnI W4 wr.heap.size (.slice (some ⟨wr.heap.size, 0, none⟩) n n) (List.replicate n 0) := by
    rw [← hW4]
    exact OwnI.made0 (Nat.le_refl _) (by omega)
   obtain ⟨gr, hgr⟩ : ∃ z, wr.heap.size = z := ⟨_, rfl⟩
   have f4 := o4.frozenG k
   have r4 := (o4.cellG (j := k) (by simpa using hlt)).1
   obtain ⟨W5, hW5⟩ : ∃ z, W4.setCell ⟨wr.heap.size, k, none⟩ (.int .i64 1) = z := ⟨_, rfl⟩
   have hp5 := o4.put (j := k) (x := 1) (by simp [I64])
   rw [unit_row, hW5] at hp5
   have g5 : Below wr.heap.size wr W5 := by rw [← hW5]; exact g4.setCell (Nat.le_refl _) _
   have HE5 := Lib.hid hp5.1.rd
   have HO5 := Lib.hid (hO.below g5)
   have G5 := Lib.hid (hbel.trans (g5.mono hbs))
   have hs5 := g5.size
   have HZ5 := Lib.hid (HZ2.out.rd.next G5.out)
   have HXA5 := Lib.hid (RpR.next G5.out HXA2.out)
   have HXB5 := Lib.hid (RpR.next G5.out HXB2.out)
   have KK1 := Lib.hid (K1.out.call G5.out)
   have KK2 := Lib.hid (K2.out.call G5.out)
   have a1' : (k : Int) < n := by omega
   have a2' : (0 : Int) ≤ (n : Int) := by omega
   have hs52 : w2.heap.size ≤ W5.heap.size := by omega
   clear hO hbel o4 g4 hp5 g5
   rw [hgr] at hmk f4 r4 hW5 HE5 
   clear hW4
   go_wp2
   clear hW5 hmk f4 r4
   refine wp_region_net (by kernel_rfl) [.eq (.slice OA k oc), .eq (.agg #[.int .i64 X.p, .int .i64 X.q.v, .slice A X.q.f.length a, .slice C X.q.t.length c, .slice Ea X.d.length ea, .slice Ha X.m.length ha_]), .eq (.agg #[.int .i64 Y.p, .int .i64 Y.q.v, .slice A2 Y.q.f.length a2, .slice C2 Y.q.t.length c2, .slice Eb Y.d.length eb, .slice Hb Y.m.length hb_]), .eq (.slice ZA X.d.length zc), .eq (.slice (some ⟨gr, 0, none⟩) n n), rel 5 (fun u lo hi w => MatsO w lo hi u (mvL X Y (uF X Y k) X.d.length)), rel 6 (fun u lo hi w => MatsO w lo hi u (cbL X Y (uF X Y k) X.q.f.length)), rel 7 (fun u lo hi w => IntsO w lo hi u (rowF R fun i => g i k)), .rel (fun x w => ∃ g', x.v 8 = .slice (some ⟨g', 0, none⟩) 1 1 ∧ Blk w g' 22 #[x.v 7])] [[], [], [], [], [], [3, 4], [1, 2, 3, 4, 5], [1, 2, 3, 4, 5, 6], [1, 2, 3, 4, 5, 6, 7], [0, 1, 2, 3, 4, 5, 6, 7, 8], [0, 1, 2, 3, 4, 5, 6, 7, 8, 9]] 9 (by kernel_rfl) ⟨trivial, trivial, trivial, trivial, trivial, rel_stable (fun u lo hi w w' h hb => h.below hb), rel_stable (fun u lo hi w w' h hb => h.below hb), rel_stable (fun u lo hi w w' h hb => h.below hb), fun x w w' ⟨g, e1, h⟩ hb => ⟨g, e1, h.call hb⟩, trivial⟩ ⟨?_, ?_, ?_, ?_, ?_, ?_, ?_, ?_, ?_, trivial⟩ ?_
   ·intro x w hb hk Q' hQ
    clear hk
    simp only [netE] at hQ ⊢
    go_wp2
    exact hQ _ _ (Below.refl _ _) rfl
   ·intro x w hb hk Q' hQ
    clear hk
    simp only [netE] at hQ ⊢
    have z0 := (KK1.out.call hb).cell' (i := 0) rfl
    have z1 := (KK1.out.call hb).cell' (i := 1) rfl
    have z2 := (KK1.out.call hb).cell' (i := 2) rfl
    have z3 := (KK1.out.call hb).cell' (i := 3) rfl
    have z4 := (KK1.out.call hb).cell' (i := 4) rfl
    have z5 := (KK1.out.call hb).cell' (i := 5) rfl
    go_wp2
    exact hQ _ _ (Below.refl _ _) rfl
   ·intro x w hb hk Q' hQ
    clear hk
    simp only [netE] at hQ ⊢
    have z0 := (KK2.out.call hb).cell' (i := 0) rfl
    have z1 := (KK2.out.call hb).cell' (i := 1) rfl
    have z2 := (KK2.out.call hb).cell' (i := 2) rfl
    have z3 := (KK2.out.call hb).cell' (i := 3) rfl
    have z4 := (KK2.out.call hb).cell' (i := 4) rfl
    have z5 := (KK2.out.call hb).cell' (i := 5) rfl
    go_wp2
    exact hQ _ _ (Below.refl _ _) rfl
   ·intro x w hb hk Q' hQ
    clear hk
    simp only [netE] at hQ ⊢
    go_wp2
    exact hQ _ _ (Below.refl _ _) rfl
   ·intro x w hb hk Q' hQ
    clear hk
    simp only [netE] at hQ ⊢
    go_wp2
    exact hQ _ _ (Below.refl _ _) rfl
   ·intro x w hb hk Q' hQ
    have h3 : x.v 3 = .slice ZA X.d.length zc := (hk 3 (by decide)).1
    have h4 : x.v 4 = .slice (some ⟨gr, 0, none⟩) n n := (hk 4 (by decide)).1
    clear hk
    simp only [netE] at hQ ⊢
    simp only [h3, h4] at hQ ⊢
    clear h3 h4
    have hA := Lib.hid (SlM.next hb HZ5.out)
    have hE := Lib.hid (SlI.next hb HE5.out)
    go_wp2_with fail
    refine (shaped_any _ _ (zrL X.d Y.d X.d.length) (rowF n (unitE k)) _ hA.out hE.out (by rw [zrL_length]; omega) (by rw [zrL_tot, HN'.out, rowF_length]; exact Nat.le_refl _)).mono ?_; rintro e w3 ⟨v3, rfl, hS, hb3⟩
    rw [shL_zr _ _ _ _ _ (by rw [HN'.out]; exact Nat.le_refl _), mv_unit] at hS
    go_wp2
    exact hQ _ _ hb3 hS
   ·intro x w hb hk Q' hQ
    have h1 : x.v 1 = .agg #[.int .i64 X.p, .int .i64 X.q.v, .slice A X.q.f.length a, .slice C X.q.t.length c, .slice Ea X.d.length ea, .slice Ha X.m.length ha_] := (hk 1 (by decide)).1
    have h2 : x.v 2 = .agg #[.int .i64 Y.p, .int .i64 Y.q.v, .slice A2 Y.q.f.length a2, .slice C2 Y.q.t.length c2, .slice Eb Y.d.length eb, .slice Hb Y.m.length hb_] := (hk 2 (by decide)).1
    have h3 : x.v 3 = .slice ZA X.d.length zc := (hk 3 (by decide)).1
    have h4 : x.v 4 = .slice (some ⟨gr, 0, none⟩) n n := (hk 4 (by decide)).1
    have h5 : MatsO w (x.lo 5) (x.hi 5) (x.v 5) (mvL X Y (uF X Y k) X.d.length) := (hk 5 (by decide)).1
    have s5 := (hk 5 (by decide)).2
    clear hk
    simp only [netE] at hQ ⊢
    simp only [h1, h2, h3, h4] at hQ ⊢
    clear h1 h2 h3 h4
    have hA := Lib.hid (RpR.next hb HXA5.out)
    have hB := Lib.hid (RpR.next hb HXB5.out)
    have H5 := Lib.hid h5.rd
    clear h5
    go_wp2_with fail
    refine (coboundary_any _ _ _ X Y (uF X Y k) _ hA.out hB.out H5.out HF.out (fun v _ => uF_in HF.out.p2.1 _ _ _ _)).mono ?_; rintro e w3 ⟨v3, rfl, hS, hb3⟩
    go_wp2
    exact hQ _ _ hb3 hS
   ·intro x w hb hk Q' hQ
    have h1 : x.v 1 = .agg #[.int .i64 X.p, .int .i64 X.q.v, .slice A X.q.f.length a, .slice C X.q.t.length c, .slice Ea X.d.length ea, .slice Ha X.m.length ha_] := (hk 1 (by decide)).1
    have h2 : x.v 2 = .agg #[.int .i64 Y.p, .int .i64 Y.q.v, .slice A2 Y.q.f.length a2, .slice C2 Y.q.t.length c2, .slice Eb Y.d.length eb, .slice Hb Y.m.length hb_] := (hk 2 (by decide)).1
    have h3 : x.v 3 = .slice ZA X.d.length zc := (hk 3 (by decide)).1
    have h4 : x.v 4 = .slice (some ⟨gr, 0, none⟩) n n := (hk 4 (by decide)).1
    have h5 : MatsO w (x.lo 5) (x.hi 5) (x.v 5) (mvL X Y (uF X Y k) X.d.length) := (hk 5 (by decide)).1
    have h6 : MatsO w (x.lo 6) (x.hi 6) (x.v 6) (cbL X Y (uF X Y k) X.q.f.length) := (hk 6 (by decide)).1
    have s5 := (hk 5 (by decide)).2
    have s6 := (hk 6 (by decide)).2
    clear hk
    simp only [netE] at hQ ⊢
    simp only [h1, h2, h3, h4] at hQ ⊢
    clear h1 h2 h3 h4
    have H6 := Lib.hid h6.rd
    clear h6
    have hcl := HCOL.out k hlt
    go_wp2_with fail
    refine (flat_any _ (cbL X Y (uF X Y k) X.q.f.length) _ H6.out (by rw [cbL_length]; have := HN6.out; omega) (by rw [← flM_length, ← hcl, rowF_length]; omega)).mono ?_; rintro e w3 ⟨v3, rfl, hS, hb3⟩
    rw [← hcl] at hS
    clear hcl
    go_wp2
    exact hQ _ _ hb3 hS
   ·intro x w hb hk Q' hQ
    have h1 : x.v 1 = .agg #[.int .i64 X.p, .int .i64 X.q.v, .slice A X.q.f.length a, .slice C X.q.t.length c, .slice Ea X.d.length ea, .slice Ha X.m.length ha_] := (hk 1 (by decide)).1
    have h2 : x.v 2 = .agg #[.int .i64 Y.p, .int .i64 Y.q.v, .slice A2 Y.q.f.length a2, .slice C2 Y.q.t.length c2, .slice Eb Y.d.length eb, .slice Hb Y.m.length hb_] := (hk 2 (by decide)).1
    have h3 : x.v 3 = .slice ZA X.d.length zc := (hk 3 (by decide)).1
    have h4 : x.v 4 = .slice (some ⟨gr, 0, none⟩) n n := (hk 4 (by decide)).1
    have h5 : MatsO w (x.lo 5) (x.hi 5) (x.v 5) (mvL X Y (uF X Y k) X.d.length) := (hk 5 (by decide)).1
    have h6 : MatsO w (x.lo 6) (x.hi 6) (x.v 6) (cbL X Y (uF X Y k) X.q.f.length) := (hk 6 (by decide)).1
    have h7 : IntsO w (x.lo 7) (x.hi 7) (x.v 7) (rowF R fun i => g i k) := (hk 7 (by decide)).1
    have s5 := (hk 5 (by decide)).2
    have s6 := (hk 6 (by decide)).2
    have s7 := (hk 7 (by decide)).2
    clear hk
    simp only [netE] at hQ ⊢
    simp only [h1, h2, h3, h4] at hQ ⊢
    clear h1 h2 h3 h4
    obtain ⟨sA, sc, es⟩ := h7.form
    rw [rowF_length] at es
    have hQ' := hQ (.slice (some ⟨w.heap.size, 0, none⟩) 1 1) (w.alloc (.cells #[x.v 7] 22)) (below_alloc _ _) ⟨_, rfl, Blk.new _ _ _⟩
    rw [es] at hQ' ⊢
    clear h7 es
    go_wp2
    exact hQ'
   ·intro x w hb hk hiv hdj
    have h0 : x.v 0 = .slice OA k oc := hk 0 (by decide)
    have h1 : x.v 1 = .agg #[.int .i64 X.p, .int .i64 X.q.v, .slice A X.q.f.length a, .slice C X.q.t.length c, .slice Ea X.d.length ea, .slice Ha X.m.length ha_] := hk 1 (by decide)
    have h2 : x.v 2 = .agg #[.int .i64 Y.p, .int .i64 Y.q.v, .slice A2 Y.q.f.length a2, .slice C2 Y.q.t.length c2, .slice Eb Y.d.length eb, .slice Hb Y.m.length hb_] := hk 2 (by decide)
    have h3 : x.v 3 = .slice ZA X.d.length zc := hk 3 (by decide)
    have h4 : x.v 4 = .slice (some ⟨gr, 0, none⟩) n n := hk 4 (by decide)
    have h5 : MatsO w (x.lo 5) (x.hi 5) (x.v 5) (mvL X Y (uF X Y k) X.d.length) := hk 5 (by decide)
    have h6 : MatsO w (x.lo 6) (x.hi 6) (x.v 6) (cbL X Y (uF X Y k) X.q.f.length) := hk 6 (by decide)
    have h7 : IntsO w (x.lo 7) (x.hi 7) (x.v 7) (rowF R fun i => g i k) := hk 7 (by decide)
    have h8 : ∃ g', x.v 8 = .slice (some ⟨g', 0, none⟩) 1 1 ∧ Blk w g' 22 #[x.v 7] := hk 8 (by decide)
    clear hk
    simp only [netE]
    simp only [List.drop_succ_cons, List.drop_zero, h0, h1, h2, h3, h4]
    clear h0 h1 h2 h3 h4
    obtain ⟨g8, e8, kg⟩ := h8
    have li := (hiv 7 (by decide)).1
    have hi_ := (hiv 7 (by decide)).2.2
    rw [e8]
    obtain ⟨v7, hv7⟩ : ∃ z, x.v 7 = z := ⟨_, rfl⟩
    rw [hv7] at h7 kg
    have hbs2 := hb.size
    have HOZ := Lib.hid (HO5.out.below hb)
    have C0 := Lib.hid (kg.cell' (i := 0) rfl)
    have HSZ := Lib.hid (h7.wider li hi_)
    have HBZ := Lib.hid (G5.out.trans (hb.mono hs52))
    clear hiv hdj h7 h6 h5 e8 kg hb hv7
    refine wpList_appR (by rfl) (.tmp 25) (.tmp 33) (by rfl) w2.heap.size wr.heap.size W5.heap.size w.heap.size _ _ _ (by rfl) HOZ.out (some ⟨g8, 0, none⟩) 1 _ (by rfl) ⟨_, _, rfl, C0.out⟩ HSZ.out (by omega) (by omega) (by omega) (by rw [rowsF_length]; omega) (by omega) (by omega) ?_
    intro v' w' h1 h2 h3
    have hsn := rowsF_succ k R (fun a b => g b a)
    rw [← hsn] at h1
    have H1 := Lib.hid h1
    have H2 := Lib.hid (HBZ.out.trans h2)
    clear h1 h2 h3 hsn
    go_wp2
    go_roundw
    case rel => exact ⟨k + 1, by omega, by go_num, H1.out, H2.out⟩
    case measure => simp [intOf]; omega
  ·obtain rfl : k = n := by omega
   have KK1 := K1.out.call hbel
   have KK2 := K2.out.call hbel
   have K3r := Lib.hid (K3.out.call hbel)
   have c0 := KK1.cell' (i := 0) rfl
   have c1 := KK1.cell' (i := 1) rfl
   have c2_ := KK1.cell' (i := 2) rfl
   have c3 := KK1.cell' (i := 3) rfl
   have c4 := KK1.cell' (i := 4) rfl
   have c5 := KK1.cell' (i := 5) rfl
   have d0 := KK2.cell' (i := 0) rfl
   have d1 := KK2.cell' (i := 1) rfl
   have d2 := KK2.cell' (i := 2) rfl
   have d3 := KK2.cell' (i := 3) rfl
   have d4 := KK2.cell' (i := 4) rfl
   have d5 := KK2.cell' (i := 5) rfl
   have HXr := Lib.hid (RpR.next hbel HXA2.out)
   have HYr := Lib.hid (RpR.next hbel HXB2.out)
   have HO := Lib.hid hO.rd
   have GR := Lib.hid (G0.out.trans ((B2.out.trans (hbel.mono (by omega))).mono G0.out.size))
   have hgr := GR.out.size
   clear hO hbel KK1 KK2
   go_wp2_with fail
   refine (cocycleZeros_any _ _ X Y _ HXr.out HYr.out HF.out).mono ?_; rintro e w6 ⟨v6, rfl, hC, hb6⟩
   obtain ⟨ZB, zd, ezb, _, _⟩ := hC.form2
   rw [czL_length] at ezb
   subst ezb
   have HC := Lib.hid hC
   clear hC c0 c1 c2_ c3 c4 c5 d0 d1 d2 d3 d4 d5
   go_wp2_with fail
   refine (flat_any _ (czL X Y X.q.f.length) _ HC.out.rd (by rw [czL_length]; have := HN6.out; omega) (by rw [czL_tot X Y (hmN X Y)]; have := HR.out; unfold eqR at this; omega)).mono ?_; rintro e w7 ⟨v7, rfl, hFl, hb7⟩
   obtain ⟨FB, fd, ef⟩ := hFl.form
   rw [flM_length, czL_tot X Y (hmN X Y), show (eqL X Y (hmN X Y) X.q.f.length).length = R from HR.out] at ef
   subst ef
   have hb67 := bthen hb6 hb7
   have HO7 := Lib.hid (SlII.next hb67 HO.out)
   have HB7 := Lib.hid (GR.out.trans (hb67.mono hgr))
   have K37 := Lib.hid (K3r.out.call hb67)
   have s67 := hb67.size
   clear hFl hb6 hb7 hb67
   go_wp2_with fail
   refine (fromColumns_any _ R k g _ HO7.out (by omega) (by omega)).mono ?_; rintro e w8 ⟨v8, rfl, hM, hb8⟩
   obtain ⟨sM, e8, hs8, hI8⟩ := hM
   obtain ⟨MA, mc, em⟩ := hs8.form
   obtain ⟨ml, hml⟩ : ∃ z, (mxF R k g).a.length = z := ⟨_, rfl⟩
   rw [hml] at em
   subst em
   simp only [mxF] at e8
   subst e8
   have k8 := K37.out.call hb8
   have z0 := k8.cell' (i := 0) rfl
   have z1 := k8.cell' (i := 1) rfl
   have z2 := k8.cell' (i := 2) rfl
   have fr := k8.frozen
   have GF := Lib.hid (HB7.out.trans (hb8.mono (HB7.out.size)))
   have HS8 := Lib.hid hs8
   have HI8 := Lib.hid hI8
   have s8 := hb8.size
   have gs := HB7.out.size
   clear hs8 hI8 hb8 k8 hml
   go_wp2
   have gf := GF.out
   have sz := SZ.out
   have hc : Chg (w0.heap.size + 1 + 1) (w0.heap.size + 1 + 1 + 1) w8 _ := ((chg_set (w := w8) (p := ⟨w0.heap.size + 1 + 1, 0, none⟩) (u := .int .i64 R) (by simp) (by simp)).trans (chg_set (p := ⟨w0.heap.size + 1 + 1, 1, none⟩) (u := .int .i64 k) (by simp) (by simp))).trans (chg_set (p := ⟨w0.heap.size + 1 + 1, 2, none⟩) (u := .slice MA ml mc) (by simp) (by simp))
   refine bodyPost_ret (v := .agg #[.int .i64 R, .int .i64 k, .slice MA ml mc]) (by simp [results, go_sem, z0, z1, z2]) rfl ⟨_, rfl, ⟨_, rfl, (HS8.out.chg hc (.inr (by omega))).wider (by omega) (by simp), HI8.out⟩, ((gf.setCell (by simp; omega) _).setCell (by simp; omega) _).setCell (by simp; omega) _⟩
set_option maxHeartbeats 6400000 in
set_option maxRecDepth 100000 in
theorem homDim_any (ua ub : Value) (X Y : Rp) (w0 : World) (ha : RpR w0 w0.heap.size ua X) (hb : RpR w0 w0.heap.size ub Y) (hf : Fit2 X Y) :
  Calls Tryz.prog 54 #[ua, ub] w0 fun e w' => e = .returned (.int .i64 (homN X Y : Int)) ∧ Below w0.heap.size w0 w' := by
 have hp := (isRep_t.1 hf.hx).1
 have hN80 := hmN_le hf
 have hR96 := eqR_le hf
 have HIF := Lib.hid (eqG_inF (x := X) Y hf.p2.1)
 have HP := Lib.hid hp
 have ha' := ha
 have hb' := hb
 obtain ⟨A, a, C, c, Ea, ea, Ha, ha_, rfl, hqa, hda, hma, hpa, lda, lma⟩ := ha.open_
 obtain ⟨A2, a2, C2, c2, Eb, eb, Hb, hb_, rfl, hqb, hdb, hmb, hpb, ldb, lmb⟩ := hb.open_
 clear ha hb
 obtain ⟨W, hW⟩ : ∃ W, W = (w0.alloc (.cells #[.int .i64 X.p, .int .i64 X.q.v, .slice A X.q.f.length a, .slice C X.q.t.length c, .slice Ea X.d.length ea, .slice Ha X.m.length ha_] 32)).alloc (.cells #[.int .i64 Y.p, .int .i64 Y.q.v, .slice A2 Y.q.f.length a2, .slice C2 Y.q.t.length c2, .slice Eb Y.d.length eb, .slice Hb Y.m.length hb_] 32) := ⟨_, rfl⟩
 have g0 : Below w0.heap.size w0 W := by rw [hW]; exact ((Below.refl _ _).alloc (Nat.le_refl _) _).alloc (by simp) _
 have k1 : Blk W w0.heap.size 32 #[.int .i64 X.p, .int .i64 X.q.v, .slice A X.q.f.length a, .slice C X.q.t.length c, .slice Ea X.d.length ea, .slice Ha X.m.length ha_] := by rw [hW]; exact (Blk.new _ _ _).alloc _
 have k2 : Blk W (w0.heap.size + 1) 32 #[.int .i64 Y.p, .int .i64 Y.q.v, .slice A2 Y.q.f.length a2, .slice C2 Y.q.t.length c2, .slice Eb Y.d.length eb, .slice Hb Y.m.length hb_] := by
  rw [hW]
  have := Blk.new (w0.alloc (.cells #[.int .i64 X.p, .int .i64 X.q.v, .slice A X.q.f.length a, .slice C X.q.t.length c, .slice Ea X.d.length ea, .slice Ha X.m.length ha_] 32)) 32 #[.int .i64 Y.p, .int .i64 Y.q.v, .slice A2 Y.q.f.length a2, .slice C2 Y.q.t.length c2, .slice Eb Y.d.length eb, .slice Hb Y.m.length hb_]
  simpa only [World.size_alloc] using this
 have HXA := Lib.hid (RpR.next g0 ha')
 have HXB := Lib.hid (RpR.next g0 hb')
 have HQA := Lib.hid (QvR.next g0 hqa)
 have HDA := Lib.hid (SlI.next g0 hda)
 have HDB := Lib.hid (SlI.next g0 hdb)
 have HMA := Lib.hid (SlM.next g0 hma)
 have HMB := Lib.hid (SlM.next g0 hmb)
 have G0 := Lib.hid g0
 clear ha' hb' hqa hqb hda hdb hma hmb hpa hpb g0
 have HF := Lib.hid hf
 have c0 := k1.cell' (i := 0) rfl
 have c1 := k1.cell' (i := 1) rfl
 have c2_ := k1.cell' (i := 2) rfl
 have c3 := k1.cell' (i := 3) rfl
 have c4 := k1.cell' (i := 4) rfl
 have c5 := k1.cell' (i := 5) rfl
 have d0 := k2.cell' (i := 0) rfl
 have d1 := k2.cell' (i := 1) rfl
 have d2 := k2.cell' (i := 2) rfl
 have d3 := k2.cell' (i := 3) rfl
 have d4 := k2.cell' (i := 4) rfl
 have d5 := k2.cell' (i := 5) rfl
 have hVV : (homN X Y : Int) = ((hmN X Y : Nat) : Int) - (rkF X.p (eqR X Y) (hmN X Y) (eqG X Y) : Nat) := by
  have := rkF_le X.p (eqR X Y) (hmN X Y) (eqG X Y)
  unfold homN
  omega
 rw [hVV]
 have hrk := (rkF_le X.p (eqR X Y) (hmN X Y) (eqG X Y)).2
 obtain ⟨R, hR⟩ : ∃ R, eqR X Y = R := ⟨_, rfl⟩
 obtain ⟨n, hn⟩ : ∃ n, hmN X Y = n := ⟨_, rfl⟩
 obtain ⟨g, hg⟩ : ∃ g, eqG X Y = g := ⟨_, rfl⟩
 have HRE := Lib.hid hR
 have HNE := Lib.hid hn
 have HGE := Lib.hid hg
 rw [hR, hn, hg] at HIF hrk
 rw [hR] at hR96
 rw [hn] at hN80
 rw [hR, hn, hg]
 obtain ⟨rk, hrk2⟩ : ∃ z, rkF X.p R n g = z := ⟨_, rfl⟩
 have HRK := Lib.hid hrk2
 rw [hrk2] at hrk ⊢
 clear hf hp hR hn hg hrk2 hVV
 go_enter Tryz.func54, Tryz.ntmps54
 go_wp2_with fail
 rw [← hW]; clear hW
 refine (boundaries_any _ _ X Y _ HXA.out HXB.out HF.out).mono ?_; rintro e w1 ⟨v1, rfl, hM, hb1⟩
 rw [HRE.out, HNE.out, HGE.out] at hM
 obtain ⟨MA, mc, em⟩ := hM.form
 subst em
 simp only [mxF] at hM ⊢
 obtain ⟨ML, hML⟩ : ∃ z, (flat R n g).length = z := ⟨_, rfl⟩
 rw [hML] at hM ⊢
 obtain ⟨W2, hW2⟩ : ∃ z, w1.alloc (.cells #[.int .i64 R, .int .i64 n, .slice MA ML mc] 50) = z := ⟨_, rfl⟩
 have ga : Below w1.heap.size w1 W2 := by rw [← hW2]; exact below_alloc _ _
 obtain ⟨g2, hg2⟩ : ∃ z, w1.heap.size = z := ⟨_, rfl⟩
 have kM : Blk W2 g2 50 #[.int .i64 R, .int .i64 n, .slice MA ML mc] := by rw [← hW2, ← hg2]; exact Blk.new _ _ _
 have HM := Lib.hid (MxR.next ga hM.rd)
 have gW := bthen hb1 ga
 have K1 := Lib.hid (k1.call gW)
 have G2 := Lib.hid (bthen G0.out gW)
 clear hM hML hb1 ga gW c0 c1 c2_ c3 c4 c5 d0 d1 d2 d3 d4 d5 k1 k2
 go_wp2
 clear hW2
 try clear hg2
 refine wp_region_net (by kernel_rfl) [.eq (.pointer (some ⟨g2, 1, none⟩)), .eq (.int .i64 n), .eq (.pointer (some ⟨w0.heap.size, 0, none⟩)), .eq (.int .i64 X.p), .eq (.agg #[.int .i64 R, .int .i64 n, .slice MA ML mc]), .eq (.int .i64 rk), .eq (.int .i64 ((n : Int) - rk))] [[], [0], [], [2], [], [2, 3, 4], [0, 1, 2, 3, 4, 5], [0, 1, 2, 3, 4, 5, 6]] 7 (by kernel_rfl) ⟨trivial, trivial, trivial, trivial, trivial, trivial, trivial, trivial⟩ ⟨?_, ?_, ?_, ?_, ?_, ?_, ?_, trivial⟩ ?_
 ·intro x w hb hk Q' hQ
  clear hk
  simp only [netE] at hQ ⊢
  go_wp2
  exact hQ _ _ (Below.refl _ _) rfl
 ·intro x w hb hk Q' hQ
  have h0 : x.v 0 = .pointer (some ⟨g2, 1, none⟩) := (hk 0 (by decide)).1
  clear hk
  simp only [netE] at hQ ⊢
  simp only [h0] at hQ ⊢
  clear h0
  have z := (kM.call hb).cell' (i := 1) rfl
  go_wp2
  exact hQ _ _ (Below.refl _ _) rfl
 ·intro x w hb hk Q' hQ
  clear hk
  simp only [netE] at hQ ⊢
  go_wp2
  exact hQ _ _ (Below.refl _ _) rfl
 ·intro x w hb hk Q' hQ
  have h2 : x.v 2 = .pointer (some ⟨w0.heap.size, 0, none⟩) := (hk 2 (by decide)).1
  clear hk
  simp only [netE] at hQ ⊢
  simp only [h2] at hQ ⊢
  clear h2
  have z := (K1.out.call hb).cell' (i := 0) rfl
  go_wp2
  exact hQ _ _ (Below.refl _ _) rfl
 ·intro x w hb hk Q' hQ
  clear hk
  simp only [netE] at hQ ⊢
  have z0 := (kM.call hb).cell' (i := 0) rfl
  have z1 := (kM.call hb).cell' (i := 1) rfl
  have z2 := (kM.call hb).cell' (i := 2) rfl
  go_wp2
  exact hQ _ _ (Below.refl _ _) rfl
 ·intro x w hb hk Q' hQ
  have h3 : x.v 3 = .int .i64 X.p := (hk 3 (by decide)).1
  have h4 : x.v 4 = .agg #[.int .i64 R, .int .i64 n, .slice MA ML mc] := (hk 4 (by decide)).1
  clear hk
  simp only [netE] at hQ ⊢
  simp only [h3, h4] at hQ ⊢
  clear h3 h4
  have hA := Lib.hid (MxR.next hb HM.out)
  go_wp2_with fail
  refine (implRank_any X.p _ R n g _ HP.out (by omega) (by omega) hA.out HIF.out).mono ?_; rintro e w3 ⟨rfl, hb3⟩
  rw [HRK.out]
  go_wp2
  exact hQ _ _ hb3 rfl
 ·intro x w hb hk Q' hQ
  have h1 : x.v 1 = .int .i64 n := (hk 1 (by decide)).1
  have h5 : x.v 5 = .int .i64 rk := (hk 5 (by decide)).1
  clear hk
  simp only [netE] at hQ ⊢
  simp only [h1, h5] at hQ ⊢
  clear h1 h5
  go_wp2
  exact hQ (.int .i64 ((n : Int) - rk)) _ (Below.refl _ _) rfl
 ·intro x w hb hk hiv hdj
  have h0 : x.v 0 = .pointer (some ⟨g2, 1, none⟩) := hk 0 (by decide)
  have h1 : x.v 1 = .int .i64 n := hk 1 (by decide)
  have h2 : x.v 2 = .pointer (some ⟨w0.heap.size, 0, none⟩) := hk 2 (by decide)
  have h3 : x.v 3 = .int .i64 X.p := hk 3 (by decide)
  have h4 : x.v 4 = .agg #[.int .i64 R, .int .i64 n, .slice MA ML mc] := hk 4 (by decide)
  have h5 : x.v 5 = .int .i64 rk := hk 5 (by decide)
  have h6 : x.v 6 = .int .i64 ((n : Int) - rk) := hk 6 (by decide)
  clear hk
  simp only [netE]
  simp only [List.drop_succ_cons, List.drop_zero, h0, h1, h2, h3, h4, h5, h6]
  clear h0 h1 h2 h3 h4 h5 h6
  have GF := Lib.hid (bthen G2.out hb)
  clear hb hiv hdj
  go_wp2
  go_ret
  exact ⟨rfl, GF.out⟩
end Go.Proofs.YtcmlflppndfdcaaGreat
namespace Go.Proofs.YtcmlflppndfdcaaGreat
open Go.RowKit
def dsF (h : Nat → Int) : Nat → Int
 | 0 => 0
 | n + 1 => dsF h n + h n
def cutR (k : Nat) (r : List Int) : List Int := r.take k ++ r.drop (k + 1)
def mnr (k : Nat) (m : List (List Int)) : List (List Int) := m.tail.map (cutR k)
def sgK (k : Nat) : Int := if k % 2 = 0 then 1 else -1
def fst0 (m : List (List Int)) (k : Nat) : Int := (m.getD 0 []).getD k 0
def detL : Nat → List (List Int) → Int
 | 0, _ => 1
 | n + 1, m => dsF (fun k => sgK k * fst0 m k * detL n (mnr k m)) (n + 1)
def dB : Nat → Int
 | 0 => 1
 | n + 1 => (n + 1 : Nat) * (12 * dB n)
structure Sq (n : Nat) (m : List (List Int)) : Prop where
 len : m.length = n
 row : ∀ r ∈ m, r.length = n
 rng : ∀ r ∈ m, ∀ x ∈ r, -12 ≤ x ∧ x ≤ 12
theorem sgK_succ (k : Nat) : sgK (k + 1) = - sgK k := by
 unfold sgK
 by_cases h : k % 2 = 0
 ·rw [if_pos h, if_neg (by omega)]
 ·rw [if_neg h, if_pos (by omega)]; rfl
theorem sgK_or (k : Nat) : sgK k = 1 ∨ sgK k = -1 := by
 unfold sgK
 split
 ·exact .inl rfl
 ·exact .inr rfl
theorem cutR_length {k : Nat} {r : List Int} {n : Nat} (h : r.length = n + 1) (hk : k ≤ n) : (cutR k r).length = n := by simp [cutR]; omega
theorem cutR_mem {k : Nat} {r : List Int} {x : Int} (h : x ∈ cutR k r) : x ∈ r := by
 rcases List.mem_append.1 h with h | h
 ·exact List.mem_of_mem_take h
 ·exact List.mem_of_mem_drop h
theorem Sq.mnr {n k : Nat} {m : List (List Int)} (h : Sq (n + 1) m) (hk : k ≤ n) : Sq n (mnr k m) := by
 refine ⟨by simp [Go.Proofs.YtcmlflppndfdcaaGreat.mnr, h.len], fun r hr => ?_, fun r hr x hx => ?_⟩
 ·obtain ⟨s, hs, rfl⟩ := List.mem_map.1 hr
  exact cutR_length (h.row s (List.mem_of_mem_tail hs)) hk
 ·obtain ⟨s, hs, rfl⟩ := List.mem_map.1 hr
  exact h.rng s (List.mem_of_mem_tail hs) x (cutR_mem hx)
theorem Sq.fst {n k : Nat} {m : List (List Int)} (h : Sq (n + 1) m) (hk : k < n + 1) : ∃ r, m[0]? = some r ∧ r.length = n + 1 ∧ r[k]? = some (fst0 m k) ∧ -12 ≤ fst0 m k ∧ fst0 m k ≤ 12 := by
 have hl := h.len
 have e := List.getElem?_eq_getElem (show 0 < m.length by omega)
 have hm := List.mem_of_getElem? e
 have hr := h.row _ hm
 have e2 := List.getElem?_eq_getElem (l := m[0]) (show k < m[0].length by omega)
 have e3 : fst0 m k = m[0][k] := by
  rw [fst0, List.getD_eq_getElem?_getD, List.getD_eq_getElem?_getD, e, Option.getD_some, e2, Option.getD_some]
 rw [e3]
 exact ⟨_, e, hr, e2, h.rng _ hm _ (List.mem_of_getElem? e2)⟩
theorem abs_mul {a b A B : Int} (ha : -A ≤ a ∧ a ≤ A) (hb : -B ≤ b ∧ b ≤ B) : -(A * B) ≤ a * b ∧ a * b ≤ A * B := by
 have hA : 0 ≤ A := by omega
 have hB : 0 ≤ B := by omega
 have h1 : 0 ≤ (A - a) * (B + b) := Int.mul_nonneg (by omega) (by omega)
 have h2 : 0 ≤ (A + a) * (B - b) := Int.mul_nonneg (by omega) (by omega)
 have h3 : 0 ≤ (A - a) * (B - b) := Int.mul_nonneg (by omega) (by omega)
 have h4 : 0 ≤ (A + a) * (B + b) := Int.mul_nonneg (by omega) (by omega)
 simp only [Int.sub_mul, Int.add_mul, Int.mul_sub, Int.mul_add] at h1 h2 h3 h4
 omega
theorem dB_pos : ∀ n, 0 ≤ dB n
 | 0 => by simp [dB]
 | n + 1 => by
  have := dB_pos n
  simp only [dB]
  exact Int.mul_nonneg (by omega) (by omega)
theorem term_rng {s x d D : Int} (hs : s = 1 ∨ s = -1) (hx : -12 ≤ x ∧ x ≤ 12) (hd : -D ≤ d ∧ d ≤ D) : -(12 * D) ≤ s * x * d ∧ s * x * d ≤ 12 * D := by
 refine abs_mul ?_ hd
 rcases hs with rfl | rfl <;> omega
theorem dsF_rng {h : Nat → Int} {B : Int} (hB : 0 ≤ B) : ∀ {n}, (∀ k, k < n → -B ≤ h k ∧ h k ≤ B) → -((n : Nat) * B) ≤ dsF h n ∧ dsF h n ≤ (n : Nat) * B
 | 0, _ => by simp [dsF]
 | n + 1, H => by
  have ih := dsF_rng hB (n := n) fun k hk => H k (by omega)
  have h1 := H n (by omega)
  simp only [dsF]
  have e : ((n + 1 : Nat) : Int) * B = (n : Nat) * B + B := by rw [Int.natCast_succ, Int.add_mul, Int.one_mul]
  rw [e]
  omega
theorem det_rng : ∀ {n : Nat} {m : List (List Int)}, Sq n m → -dB n ≤ detL n m ∧ detL n m ≤ dB n
 | 0, _, _ => by simp [detL, dB]
 | n + 1, m, h => by
  simp only [detL, dB]
  have hB := dB_pos n
  refine dsF_rng (by omega) fun k hk => ?_
  obtain ⟨_, _, _, _, hx⟩ := h.fst hk
  exact term_rng (sgK_or k) hx (det_rng (h.mnr (by omega)))
def detS (n : Nat) (m : List (List Int)) (k : Nat) : Int := dsF (fun k => sgK k * fst0 m k * detL n (mnr k m)) k
theorem dB_5 {n : Nat} (h : n ≤ 5) : dB n ≤ 29859840 := by
 have : n = 0 ∨ n = 1 ∨ n = 2 ∨ n = 3 ∨ n = 4 ∨ n = 5 := by omega
 rcases this with rfl | rfl | rfl | rfl | rfl | rfl <;> decide
theorem detS_rng {n k : Nat} {m : List (List Int)} (h : Sq (n + 1) m) (hk : k ≤ n + 1) (hn : n ≤ 4) : -1800000000 ≤ detS n m k ∧ detS n m k ≤ 1800000000 := by
 have hB := dB_pos n
 have h1 := dsF_rng (h := fun k => sgK k * fst0 m k * detL n (mnr k m)) (B := 12 * dB n) (n := k) (by omega) fun j hj => by
  obtain ⟨_, _, _, _, hx⟩ := h.fst (show j < n + 1 by omega)
  exact term_rng (sgK_or j) hx (det_rng (h.mnr (by omega)))
 have h5 := dB_5 (show n ≤ 5 by omega)
 have h6 : (k : Int) * (12 * dB n) ≤ 5 * (12 * dB n) := Int.mul_le_mul_of_nonneg_right (by omega) (by omega)
 unfold detS
 omega
theorem detS_succ (n : Nat) (m : List (List Int)) (k : Nat) : detS n m (k + 1) = detS n m k + sgK k * fst0 m k * detL n (mnr k m) := rfl
theorem SlI.takeS {w : World} {B c k : Nat} {A : Option Addr} {l : List Int} (h : SlI w B (.slice A l.length c) l) (hk : k ≤ l.length) : SlI w B (.slice A k c) (l.take k) := by
 obtain ⟨A', c', e, h1, h2, h3, h4⟩ := h
 injection e with e1 e2 e3
 subst e1 e3
 refine ⟨A, c, by rw [List.length_take]; congr 1; omega, by rw [List.length_take]; omega, h2, by rw [List.length_take]; omega, fun hp => ?_⟩
 rw [List.length_take] at hp
 obtain ⟨b, o, e, hb, hc⟩ := h4 (by omega)
 refine ⟨b, o, e, hb, fun j x hj => hc j x ?_⟩
 rw [List.getElem?_take] at hj
 split at hj
 ·exact hj
 ·cases hj
theorem SlI.dropS {w : World} {B c k g o : Nat} {l : List Int} (h : SlI w B (.slice (some ⟨g, o, none⟩) l.length c) l) (hk : k ≤ l.length) : SlI w B (.slice (some ⟨g, o + k, none⟩) (l.length - k) (c - k)) (l.drop k) := by
 have h' := h
 obtain ⟨A', c', e, h1, h2, h3, h4⟩ := h'
 injection e with e1 e2 e3
 subst e3
 refine ⟨some ⟨g, o + k, none⟩, c - k, by rw [List.length_drop], by rw [List.length_drop]; omega, by omega, by rw [List.length_drop]; omega, fun hp => ?_⟩
 rw [List.length_drop] at hp
 obtain ⟨b, o', e, hb, hc⟩ := h4 (by omega)
 rw [← e1] at e
 injection e with e
 injection e with e5 e6
 subst e5 e6
 refine ⟨g, o + k, rfl, hb, fun j x hj => ?_⟩
 rw [List.getElem?_drop] at hj
 have := hc _ x hj
 rw [show o + (k + j) * 1 = o + k + j * 1 by omega] at this
 exact this
theorem SlI.zeroS {w : World} {B : Nat} {A : Option Addr} {c : Nat} (hc : c ≤ 9223372036854775807) : SlI w B (.slice A 0 c) [] := ⟨A, c, rfl, by simp, hc, by simp, fun h => absurd h (by simp)⟩
theorem SlII.two {w : World} {t : TypeId} {a b : Value} {l m : List Int} (ha : SlI w w.heap.size a l) (hb : SlI w w.heap.size b m) :
  SlII (w.alloc (.cells #[a, b] t)) (w.alloc (.cells #[a, b] t)).heap.size (.slice (some ⟨w.heap.size, 0, none⟩) 2 2) [l, m] := by
 have hbel := below_alloc w (.cells #[a, b] t)
 have hk := Blk.new w t #[a, b]
 refine ⟨some ⟨w.heap.size, 0, none⟩, 2, rfl, by simp, by omega, by simp, fun _ => ⟨w.heap.size, 0, rfl, hk.lt, fun j x hj => ?_⟩⟩
 match j, hj with
 | 0, hj => injection hj with hj; subst hj; exact ⟨a, hk.cell' rfl, SlI.next hbel ha⟩
 | 1, hj => injection hj with hj; subst hj; exact ⟨b, hk.cell' rfl, SlI.next hbel hb⟩
theorem SlI.elt {w : World} {B b o c k : Nat} {xs : List Int} (h : SlI w B (.slice (some ⟨b, o, none⟩) xs.length c) xs) (hk : k < xs.length) : ∃ x, xs[k]? = some x ∧ b < B ∧ w.cell? ⟨b, o + k, none⟩ = some (.int .i64 x) ∧ -9223372036854775808 ≤ x ∧ x ≤ 9223372036854775807 := by
 obtain ⟨b', o', x, e, h1, h2, h3, h4⟩ := SlI.at_ h hk
 injection e with e
 injection e with e1 e2
 subst e1 e2
 exact ⟨x, h2.out, h1, h3, h4⟩
theorem SlII.elt {w : World} {B b o c k : Nat} {xs : List (List Int)} (h : SlII w B (.slice (some ⟨b, o, none⟩) xs.length c) xs) (hk : k < xs.length) : ∃ l A' c', xs[k]? = some l ∧ b < B ∧ w.cell? ⟨b, o + k, none⟩ = some (.slice A' l.length c') ∧ SlI w B (.slice A' l.length c') l ∧ l.length ≤ c' ∧ c' ≤ 9223372036854775807 := by
 obtain ⟨b', o', l, A', c', e, h1, h2, h3, h4⟩ := SlII.at_ h hk
 injection e with e
 injection e with e1 e2
 subst e1 e2
 have h5 := h4
 obtain ⟨_, _, e, h6, h7, _⟩ := h5
 injection e with _ _ e
 subst e
 exact ⟨l, A', c', h2.out, h1, h3, h4, h6, h7⟩
theorem SlI.addr {w : World} {B c : Nat} {A : Option Addr} {xs : List Int} (h : SlI w B (.slice A xs.length c) xs) (h0 : 0 < xs.length) : ∃ b o, A = some ⟨b, o, none⟩ ∧ b < B := by
 obtain ⟨b, o, _, e, h1, _⟩ := SlI.at_ (k := 0) h h0
 exact ⟨b, o, e, h1⟩
theorem SlII.addr {w : World} {B c : Nat} {A : Option Addr} {xs : List (List Int)} (h : SlII w B (.slice A xs.length c) xs) (h0 : 0 < xs.length) : ∃ b o, A = some ⟨b, o, none⟩ ∧ b < B := by
 obtain ⟨b, o, _, _, _, e, h1, _⟩ := SlII.at_ (k := 0) h h0
 exact ⟨b, o, e, h1⟩
theorem SlI.form2 {w : World} {B : Nat} {v : Value} {l : List Int} (h : SlI w B v l) : ∃ A c, v = .slice A l.length c := by
 obtain ⟨A, c, e, _⟩ := h
 exact ⟨A, c, e⟩
end Go.Proofs.YtcmlflppndfdcaaGreat
namespace Go.Proofs.YtcmlflppndfdcaaGreat
open Go.RowKit
theorem band1 (x : Int) : bits .and .i64 x 1 = x % 2 := by
 have h1 : (BitVec.ofInt 64 1).toNat = 2 ^ 1 - 1 := by decide
 have key : (BitVec.ofInt 64 x &&& BitVec.ofInt 64 1).toNat = (x % ((2 ^ 64 : Nat) : Int)).toNat % 2 ^ 1 := by
  rw [BitVec.toNat_and, BitVec.toNat_ofInt, h1, Nat.and_two_pow_sub_one_eq_mod]
 show IntKind.i64.wrap ((BitVec.ofInt 64 x &&& BitVec.ofInt 64 1).toNat : Nat) = x % 2
 rw [key, IntKind.wrap_i64]
 omega
def bitT (s v : Nat) : Bool := s / 2 ^ v % 2 == 1
def bitL (s n : Nat) : List Nat := (List.range n).filter (bitT s)
def mnRow (s n : Nat) (g : Nat → Int) : List Int := (bitL s n).map g
def mnTo (s n : Nat) (g : Nat → Nat → Int) (k : Nat) : List (List Int) := (bitL s k).map fun v => mnRow s n (g v)
def mnL (s n : Nat) (g : Nat → Nat → Int) : List (List Int) := mnTo s n g n
def dtS (s n : Nat) (g : Nat → Nat → Int) : Int := detL (bitL s n).length (mnL s n g)
def kdGo (n : Nat) (g : Nat → Nat → Int) : Nat → Nat → Int → Int
 | 0, _, k => k
 | m + 1, s, k => if dtS s n g < 0 then 3 else kdGo n g m (s + 1) (if dtS s n g = 0 then 2 else k)
def kindQ (q : Qv) : Int := if isQ q then kdGo q.v.toNat (ent q q.f.length) (2 ^ q.v.toNat - 1) 1 1 else 0
theorem bitL_succ_t {s k : Nat} (h : bitT s k = true) : bitL s (k + 1) = bitL s k ++ [k] := by
 simp [bitL, List.range_succ, List.filter_append, h]
theorem bitL_succ_f {s k : Nat} (h : bitT s k = false) : bitL s (k + 1) = bitL s k := by
 simp [bitL, List.range_succ, List.filter_append, h]
theorem bitL_length (s n : Nat) : (bitL s n).length ≤ n := by
 have := List.length_filter_le (bitT s) (List.range n)
 rw [List.length_range] at this
 exact this
theorem bitT_0 {s v : Nat} (h : bitT s v = false) : (s : Int) / 2 ^ v % 2 = 0 := by
 simp only [bitT, beq_eq_false_iff_ne, ne_eq] at h
 have h2 : s / 2 ^ v % 2 = 0 := by omega
 have : ((s / 2 ^ v % 2 : Nat) : Int) = 0 := by omega
 simpa using this
theorem bitT_1 {s v : Nat} (h : bitT s v = true) : (s : Int) / 2 ^ v % 2 = 1 := by
 simp only [bitT, beq_iff_eq] at h
 have : ((s / 2 ^ v % 2 : Nat) : Int) = 1 := by omega
 simpa using this
theorem mnL_sq {s n : Nat} {g : Nat → Nat → Int} (hg : ∀ a b, -12 ≤ g a b ∧ g a b ≤ 12) : Sq (bitL s n).length (mnL s n g) := by
 refine ⟨by simp [mnL, mnTo], fun r hr => ?_, fun r hr x hx => ?_⟩
 ·obtain ⟨v, _, rfl⟩ := List.mem_map.1 hr
  simp [mnRow]
 ·obtain ⟨v, _, rfl⟩ := List.mem_map.1 hr
  obtain ⟨w, _, rfl⟩ := List.mem_map.1 hx
  exact hg v w
theorem kdGo_rng (n : Nat) (g : Nat → Nat → Int) : ∀ m s k, 1 ≤ k ∧ k ≤ 3 → 1 ≤ kdGo n g m s k ∧ kdGo n g m s k ≤ 3
 | 0, _, _, h => h
 | m + 1, s, k, h => by
  simp only [kdGo]
  split
  ·omega
  ·exact kdGo_rng n g m _ _ (by split <;> omega)
theorem kindQ_rng (q : Qv) : 0 ≤ kindQ q ∧ kindQ q ≤ 3 := by
 unfold kindQ
 split
 ·have := kdGo_rng q.v.toNat (ent q q.f.length) (2 ^ q.v.toNat - 1) 1 1 (by omega)
  omega
 ·omega
end Go.Proofs.YtcmlflppndfdcaaGreat
namespace Go.Proofs.YtcmlflppndfdcaaGreat
open Go.RowKit
def sm : Nat → (Nat → Int) → Int
 | 0, _ => 0
 | n + 1, f => sm n f + f n
theorem sm_congr {f g : Nat → Int} : ∀ n, (∀ i, i < n → f i = g i) → sm n f = sm n g
 | 0, _ => rfl
 | n + 1, h => by rw [sm, sm, sm_congr n fun i hi => h i (by omega), h n (by omega)]
theorem sm_front (f : Nat → Int) : ∀ n, sm (n + 1) f = f 0 + sm n fun i => f (i + 1)
 | 0 => by simp [sm]
 | n + 1 => by rw [sm, sm_front f n, sm, Int.add_assoc]
theorem sm_add (f g : Nat → Int) : ∀ n, sm n (fun i => f i + g i) = sm n f + sm n g
 | 0 => rfl
 | n + 1 => by rw [sm, sm, sm, sm_add f g n]; omega
theorem sm_sub (f g : Nat → Int) : ∀ n, sm n (fun i => f i - g i) = sm n f - sm n g
 | 0 => rfl
 | n + 1 => by rw [sm, sm, sm, sm_sub f g n]; omega
theorem sm_mul (c : Int) (f : Nat → Int) : ∀ n, sm n (fun i => c * f i) = c * sm n f
 | 0 => by simp [sm]
 | n + 1 => by rw [sm, sm, sm_mul c f n, Int.mul_add]
theorem sm_zero : ∀ n, sm n (fun _ => 0) = 0
 | 0 => rfl
 | n + 1 => by rw [sm, sm_zero n]; rfl
theorem sm_swap (h : Nat → Nat → Int) (m : Nat) : ∀ n, sm n (fun a => sm m fun b => h a b) = sm m fun b => sm n fun a => h a b
 | 0 => by simp [sm, sm_zero]
 | n + 1 => by
  rw [sm, sm_swap h m n, ← sm_add]; rfl
theorem sm_one {f : Nat → Int} {k : Nat} : ∀ n, k < n → (∀ i, i < n → i ≠ k → f i = 0) → sm n f = f k
 | 0, h, _ => by omega
 | n + 1, h, h0 => by
  rw [sm]
  by_cases e : k = n
  ·subst e
   rw [sm_congr (g := fun _ => 0) k fun i hi => h0 i (by omega) (by omega), sm_zero]; omega
  ·rw [sm_one n (by omega) fun i hi hn => h0 i (by omega) hn, h0 n (by omega) (by omega)]; omega
theorem sm_nonneg {f : Nat → Int} : ∀ n, (∀ i, i < n → 0 ≤ f i) → 0 ≤ sm n f
 | 0, _ => by simp [sm]
 | n + 1, h => by
  have := sm_nonneg n fun i hi => h i (by omega)
  have := h n (by omega)
  rw [sm]; omega
theorem sm_pos_ex {f : Nat → Int} : ∀ n, 0 < sm n f → ∃ i, i < n ∧ 0 < f i
 | 0, h => by simp [sm] at h
 | n + 1, h => by
  rw [sm] at h
  by_cases h1 : 0 < f n
  ·exact ⟨n, by omega, h1⟩
  ·obtain ⟨i, hi, hp⟩ := sm_pos_ex (f := f) n (by omega)
   exact ⟨i, by omega, hp⟩
def bil (n : Nat) (g : Nat → Nat → Int) (x y : Nat → Int) : Int := sm n fun a => sm n fun b => g a b * x a * y b
theorem bil_row (n : Nat) (g : Nat → Nat → Int) (x y : Nat → Int) : bil n g x y = sm n fun a => x a * sm n fun b => g a b * y b := by
 unfold bil
 apply sm_congr
 intro a _
 rw [← sm_mul]
 apply sm_congr
 intro b _
 rw [Int.mul_comm (g a b) (x a), Int.mul_assoc]
theorem bil_symm {n : Nat} {g : Nat → Nat → Int} (hs : ∀ a b, g a b = g b a) (x y : Nat → Int) : bil n g x y = bil n g y x := by
 unfold bil
 rw [sm_swap]
 apply sm_congr; intro a _; apply sm_congr; intro b _
 rw [hs b a, Int.mul_assoc, Int.mul_comm (x b), Int.mul_assoc]
theorem bil_subl (n : Nat) (g : Nat → Nat → Int) (x x' y : Nat → Int) : bil n g (fun i => x i - x' i) y = bil n g x y - bil n g x' y := by
 rw [bil_row, bil_row, bil_row, ← sm_sub]
 apply sm_congr; intro a _; rw [Int.sub_mul]
theorem bil_mull (n : Nat) (g : Nat → Nat → Int) (c : Int) (x y : Nat → Int) : bil n g (fun i => c * x i) y = c * bil n g x y := by
 rw [bil_row, bil_row, ← sm_mul]
 apply sm_congr; intro a _; rw [Int.mul_assoc]
def pvF : Nat → (Nat → Nat → Int) → Bool
 | 0, _ => true
 | n + 1, A => decide (0 < A 0 0) && pvF n fun a b => A 0 0 * A (a + 1) (b + 1) - A (a + 1) 0 * A 0 (b + 1)
theorem bil_split (n : Nat) (A : Nat → Nat → Int) (hs : ∀ a b, A a b = A b a) (x : Nat → Int) :
  A 0 0 * bil (n + 1) A x x = (A 0 0 * x 0 + sm n fun b => A 0 (b + 1) * x (b + 1)) * (A 0 0 * x 0 + sm n fun b => A 0 (b + 1) * x (b + 1)) + bil n (fun a b => A 0 0 * A (a + 1) (b + 1) - A (a + 1) 0 * A 0 (b + 1)) (fun i => x (i + 1)) (fun i => x (i + 1)) := by
 obtain ⟨L, hL⟩ : ∃ L, (sm n fun b => A 0 (b + 1) * x (b + 1)) = L := ⟨_, rfl⟩
 obtain ⟨Q, hQ⟩ : ∃ Q, bil n (fun a b => A (a + 1) (b + 1)) (fun i => x (i + 1)) (fun i => x (i + 1)) = Q := ⟨_, rfl⟩
 have e1 : bil (n + 1) A x x = x 0 * (A 0 0 * x 0 + L) + x 0 * L + Q := by
  rw [bil_row, sm_front, sm_front, hL]
  have : (sm n fun i => x (i + 1) * sm (n + 1) fun b => A (i + 1) b * x b) = sm n fun i => x 0 * (A 0 (i + 1) * x (i + 1)) + x (i + 1) * sm n fun b => A (i + 1) (b + 1) * x (b + 1) := by
   apply sm_congr; intro i _
   rw [sm_front, hs (i + 1) 0]
   grind
  rw [this, sm_add, sm_mul, hL, ← bil_row n (fun a b => A (a + 1) (b + 1)) (fun i => x (i + 1)) (fun i => x (i + 1)), hQ]
  omega
 have e2 : bil n (fun a b => A 0 0 * A (a + 1) (b + 1) - A (a + 1) 0 * A 0 (b + 1)) (fun i => x (i + 1)) (fun i => x (i + 1)) = A 0 0 * Q - L * L := by
  rw [bil_row]
  have : (sm n fun a => x (a + 1) * sm n fun b => (A 0 0 * A (a + 1) (b + 1) - A (a + 1) 0 * A 0 (b + 1)) * x (b + 1)) = sm n fun a => A 0 0 * (x (a + 1) * sm n fun b => A (a + 1) (b + 1) * x (b + 1)) - L * (A 0 (a + 1) * x (a + 1)) := by
   apply sm_congr; intro a _
   have e3 : (sm n fun b => (A 0 0 * A (a + 1) (b + 1) - A (a + 1) 0 * A 0 (b + 1)) * x (b + 1)) = sm n fun b => A 0 0 * (A (a + 1) (b + 1) * x (b + 1)) - A (a + 1) 0 * (A 0 (b + 1) * x (b + 1)) := by
    apply sm_congr; intro b _; grind
   rw [e3, sm_sub, sm_mul, sm_mul, hL, hs (a + 1) 0]
   grind
  rw [this, sm_sub, sm_mul, sm_mul, hL, ← bil_row n (fun a b => A (a + 1) (b + 1)) (fun i => x (i + 1)) (fun i => x (i + 1)), hQ]
 rw [e1, e2]
 grind
theorem sq_nonneg (a : Int) : 0 ≤ a * a := by
 rcases Int.le_total 0 a with h | h
 ·exact Int.mul_nonneg h h
 ·have := Int.mul_nonneg (a := -a) (b := -a) (by omega) (by omega)
  rw [Int.neg_mul_neg] at this; exact this
theorem sq_pos {a : Int} (h : a ≠ 0) : 0 < a * a := by
 have h1 := sq_nonneg a
 have h2 : a * a ≠ 0 := fun e => by rcases Int.mul_eq_zero.1 e with e | e <;> exact h e
 omega
theorem pvF_pos : ∀ (n : Nat) (A : Nat → Nat → Int), (∀ a b, A a b = A b a) → pvF n A = true → ∀ x : Nat → Int, (∃ i, i < n ∧ x i ≠ 0) → 0 < bil n A x x
 | 0, _, _, _, _, ⟨i, hi, _⟩ => by omega
 | n + 1, A, hs, hp, x, ⟨i, hi, hx⟩ => by
  simp only [pvF, Bool.and_eq_true, decide_eq_true_eq] at hp
  have key := bil_split n A hs x
  have hB := pvF_pos n (fun a b => A 0 0 * A (a + 1) (b + 1) - A (a + 1) 0 * A 0 (b + 1)) (fun a b => by rw [hs (a + 1) (b + 1), hs (a + 1) 0, hs 0 (b + 1), Int.mul_comm (A 0 (a + 1))]) hp.2 fun i => x (i + 1)
  have hpos : 0 < A 0 0 * bil (n + 1) A x x := by
   rw [key]
   by_cases hz : ∃ j, j < n ∧ x (j + 1) ≠ 0
   ·have := hB hz
    have := sq_nonneg (A 0 0 * x 0 + sm n fun b => A 0 (b + 1) * x (b + 1))
    omega
   ·have hz' : ∀ j, j < n → x (j + 1) = 0 := fun j hj => Decidable.byContradiction fun h => hz ⟨j, hj, h⟩
    have hx0 : x 0 ≠ 0 := by
     match i, hi, hx with
     | 0, _, hx => exact hx
     | j + 1, hi, hx => exact absurd (hz' j (by omega)) hx
    have e1 : (sm n fun b => A 0 (b + 1) * x (b + 1)) = 0 := by
     rw [sm_congr (g := fun _ => 0) n fun j hj => by rw [hz' j hj, Int.mul_zero], sm_zero]
    have e2 : bil n (fun a b => A 0 0 * A (a + 1) (b + 1) - A (a + 1) 0 * A 0 (b + 1)) (fun i => x (i + 1)) (fun i => x (i + 1)) = 0 := by
     rw [bil_row, sm_congr (g := fun _ => 0) n fun j hj => by rw [hz' j hj, Int.zero_mul], sm_zero]
    rw [e1, e2]
    have := sq_pos (a := A 0 0 * x 0) (fun e => by rcases Int.mul_eq_zero.1 e with e | e <;> omega)
    rw [Int.add_zero, Int.add_zero]; exact this
  rcases Int.lt_or_le 0 (bil (n + 1) A x x) with h | h
  ·exact h
  ·have := Int.mul_nonneg (a := A 0 0) (b := -(bil (n + 1) A x x)) (by omega) (by omega)
   rw [Int.mul_neg] at this; omega
def pIdx (a b : Nat) : Nat := b * (b - 1) / 2 + a
def gL (l : List Bool) (a b : Nat) : Int := if a = b then 2 else if (if a < b then l.getD (pIdx a b) false else l.getD (pIdx b a) false) then -1 else 0
def rowsL : Nat → List Bool → List (List Bool)
 | 0, _ => []
 | b + 1, l => rowsL b l ++ [((List.range b).map fun a => l.getD (pIdx a b) false).reverse]
def dotB : List Bool → List Nat → Nat
 | true :: r, x :: s => x + dotB r s
 | false :: r, _ :: s => dotB r s
 | _, _ => 0
def cntR : List (List Bool) → List Nat → Nat → Nat → Nat
 | [], _, p, m => if p == m + 1 then 1 else 0
 | row :: rs, xs, p, m => cntR rs (0 :: xs) p m + cntR rs (1 :: xs) (p + 1) (m + dotB row xs) + cntR rs (2 :: xs) (p + 4) (m + 2 * dotB row xs)
def finOK (n : Nat) (l : List Bool) : Bool := (List.range n).all (fun v => pvF n fun a b => 4 * gL l a b - if a = v ∧ b = v then 1 else 0) && Nat.ble (cntR (rowsL n l) [] 0 0) 20
def wits : List (List Nat × Nat) := [([0, 1, 2], 7), ([0, 3, 4], 11), ([0, 6, 7], 19), ([1, 3, 5], 13), ([1, 6, 8], 21), ([3, 6, 9], 25), ([2, 4, 5], 14), ([2, 7, 8], 22), ([4, 7, 9], 26), ([5, 8, 9], 28), ([0, 2, 3, 5], 15), ([0, 1, 4, 5], 15), ([1, 2, 3, 4], 15), ([0, 2, 6, 8], 23), ([0, 1, 7, 8], 23), ([1, 2, 6, 7], 23), ([0, 4, 6, 9], 27), ([0, 3, 7, 9], 27), ([3, 4, 6, 7], 27), ([1, 5, 6, 9], 29), ([1, 3, 8, 9], 29), ([3, 5, 6, 8], 29), ([2, 5, 7, 9], 30), ([2, 4, 8, 9], 30), ([4, 5, 7, 8], 30), ([0, 2, 5, 6, 9], 31), ([0, 2, 3, 8, 9], 31), ([0, 4, 5, 6, 8], 31), ([0, 1, 4, 8, 9], 31), ([0, 3, 5, 7, 8], 31), ([0, 1, 5, 7, 9], 31), ([1, 2, 4, 6, 9], 31), ([1, 2, 3, 7, 9], 31), ([1, 4, 5, 6, 7], 31), ([1, 3, 4, 7, 8], 31), ([2, 3, 4, 6, 8], 31), ([2, 3, 5, 6, 7], 31), ([0, 1, 3, 6], 31), ([0, 2, 4, 7], 31), ([1, 2, 5, 8], 31), ([3, 4, 5, 9], 31), ([6, 7, 8, 9], 31)]
def witAt (l : List Bool) : List (List Nat × Nat) → Nat
 | [] => 0
 | (e, s) :: r => if e.all fun i => l.getD i false then s else witAt l r
def patOK (n : Nat) (l : List Bool) : Bool := match witAt l wits with
 | 0 => finOK n l
 | s + 1 => decide (dtS (s + 1) n (gL l) ≤ 0)
def allBL : Nat → List Bool → (List Bool → Bool) → Bool
 | 0, acc, f => f acc
 | m + 1, acc, f => allBL m (true :: acc) f && allBL m (false :: acc) f
theorem pat_1 : allBL 0 [] (patOK 1) = true := by decide +kernel
theorem pat_2 : allBL 1 [] (patOK 2) = true := by decide +kernel
theorem pat_3 : allBL 3 [] (patOK 3) = true := by decide +kernel
theorem pat_4 : allBL 6 [] (patOK 4) = true := by decide +kernel
theorem pat_5a : allBL 8 [true, true] (patOK 5) = true := by decide +kernel
theorem pat_5b : allBL 8 [false, true] (patOK 5) = true := by decide +kernel
theorem pat_5c : allBL 8 [true, false] (patOK 5) = true := by decide +kernel
theorem pat_5d : allBL 8 [false, false] (patOK 5) = true := by decide +kernel
theorem pat_5 : allBL 10 [] (patOK 5) = true := by
 show (allBL 8 [true, true] (patOK 5) && allBL 8 [false, true] (patOK 5) && (allBL 8 [true, false] (patOK 5) && allBL 8 [false, false] (patOK 5))) = true
 rw [pat_5a, pat_5b, pat_5c, pat_5d]; rfl
theorem pat_all {n : Nat} (h0 : 1 ≤ n) (h5 : n ≤ 5) : allBL (n * (n - 1) / 2) [] (patOK n) = true := by
 match n, h0, h5 with
 | 1, _, _ => exact pat_1
 | 2, _, _ => exact pat_2
 | 3, _, _ => exact pat_3
 | 4, _, _ => exact pat_4
 | 5, _, _ => exact pat_5
end Go.Proofs.YtcmlflppndfdcaaGreat
namespace Go.Proofs.YtcmlflppndfdcaaGreat
open Go.RowKit
theorem allBL_ok (f : List Bool → Bool) : ∀ (m : Nat) (acc : List Bool), allBL m acc f = true → ∀ l : List Bool, l.length = m → f (l.reverse ++ acc) = true
 | 0, acc, h, l, hl => by
  obtain rfl := List.eq_nil_of_length_eq_zero hl
  exact h
 | m + 1, acc, h, l, hl => by
  simp only [allBL, Bool.and_eq_true] at h
  match l, hl with
  | b :: r, hl =>
   rw [List.reverse_cons, List.append_assoc]
   cases b
   ·exact allBL_ok f m _ h.2 r (by simpa using hl)
   ·exact allBL_ok f m _ h.1 r (by simpa using hl)
theorem allBL_all {f : List Bool → Bool} {m : Nat} (h : allBL m [] f = true) (l : List Bool) (hl : l.length = m) : f l = true := by
 have := allBL_ok f m [] h l.reverse (by simpa using hl)
 simpa using this
theorem dtS_congr {s n : Nat} {g h : Nat → Nat → Int} (e : ∀ a b, a < n → b < n → g a b = h a b) : dtS s n g = dtS s n h := by
 have hm : ∀ v, v ∈ bitL s n → v < n := fun v hv => List.mem_range.1 (List.mem_filter.1 hv).1
 have : mnL s n g = mnL s n h := by
  unfold mnL mnTo mnRow
  apply List.map_congr_left
  intro v hv
  apply List.map_congr_left
  intro w hw
  exact e v w (hm v hv) (hm w hw)
 rw [dtS, dtS, this]
theorem bitL_1 : ∀ n, n ≤ 5 → ∀ a, a < n → bitL (2 ^ a) n = [a] := by decide
theorem bitL_2 : ∀ n, n ≤ 5 → ∀ b, b < n → ∀ a, a < b → bitL (2 ^ a + 2 ^ b) n = [a, b] := by decide
theorem dtS_1 {n a : Nat} (hn : n ≤ 5) (ha : a < n) (g : Nat → Nat → Int) : dtS (2 ^ a) n g = g a a := by
 simp [dtS, mnL, mnTo, mnRow, bitL_1 n hn a ha, detL, dsF, sgK, fst0]
theorem dtS_2 {n a b : Nat} (hn : n ≤ 5) (hb : b < n) (ha : a < b) (g : Nat → Nat → Int) : dtS (2 ^ a + 2 ^ b) n g = g a a * g b b - g a b * g b a := by
 simp [dtS, mnL, mnTo, mnRow, bitL_2 n hn b hb a ha, detL, dsF, sgK, fst0, mnr, cutR]
 grind
theorem kdGo_1 (n : Nat) (g : Nat → Nat → Int) : ∀ m s k, kdGo n g m s k = 1 → k = 1 ∧ ∀ t, s ≤ t → t < s + m → 0 < dtS t n g
 | 0, s, k, h => ⟨h, fun t h1 h2 => by omega⟩
 | m + 1, s, k, h => by
  simp only [kdGo] at h
  split at h
  ·omega
  ·rename_i hd
   obtain ⟨h1, h2⟩ := kdGo_1 n g m (s + 1) _ h
   split at h1
   ·omega
   ·rename_i hz
    refine ⟨h1, fun t ht1 ht2 => ?_⟩
    by_cases e : t = s
    ·subst e; omega
    ·exact h2 t (by omega) (by omega)
def prsF : List (Nat × Nat) := [(0, 1), (0, 2), (1, 2), (0, 3), (1, 3), (2, 3), (0, 4), (1, 4), (2, 4), (3, 4)]
theorem prsF_at : ∀ n, n ≤ 5 → ∀ b, b < n → ∀ a, a < b → (prsF.take (n * (n - 1) / 2))[pIdx a b]? = some (a, b) := by decide
def patG (n : Nat) (g : Nat → Nat → Int) : List Bool := (prsF.take (n * (n - 1) / 2)).map fun p => decide (g p.1 p.2 = -1)
theorem patG_length (n : Nat) (hn : n ≤ 5) (g : Nat → Nat → Int) : (patG n g).length = n * (n - 1) / 2 := by
 have : ∀ n, n ≤ 5 → (prsF.take (n * (n - 1) / 2)).length = n * (n - 1) / 2 := by decide
 rw [patG, List.length_map, this n hn]
theorem patG_at {n a b : Nat} (hn : n ≤ 5) (hb : b < n) (ha : a < b) (g : Nat → Nat → Int) : (patG n g).getD (pIdx a b) false = decide (g a b = -1) := by
 rw [patG, List.getD_eq_getElem?_getD, List.getElem?_map, prsF_at n hn b hb a ha]; rfl
theorem two_pow_lt {a n : Nat} (h : a < n) : 2 ^ a < 2 ^ n := Nat.pow_lt_pow_right (by omega) h
theorem fin_pat {q : Qv} (hk : kindQ q = 1) : isQ q = true ∧ ∃ l : List Bool, l.length = q.v.toNat * (q.v.toNat - 1) / 2 ∧ (∀ a b, a < q.v.toNat → b < q.v.toNat → ent q q.f.length a b = gL l a b) ∧ ∀ s, 1 ≤ s → s < 2 ^ q.v.toNat → 0 < dtS s q.v.toNat (gL l) := by
 by_cases hq : isQ q = true
 case neg => simp [kindQ, hq] at hk
 refine ⟨hq, ?_⟩
 rw [kindQ, if_pos hq] at hk
 have hn : q.v.toNat ≤ 5 := by have := (isQ_t.1 hq).1; omega
 generalize q.v.toNat = n at hk hn ⊢
 obtain ⟨_, hd⟩ := kdGo_1 _ _ _ _ _ hk
 have hpos : 0 < 2 ^ n := Nat.two_pow_pos n
 have hd' : ∀ s, 1 ≤ s → s < 2 ^ n → 0 < dtS s n (ent q q.f.length) := fun s h1 h2 => hd s h1 (by omega)
 have hdiag : ∀ a, a < n → ent q q.f.length a a = 2 := by
  intro a ha
  have h1 := hd' (2 ^ a) (Nat.one_le_two_pow) (two_pow_lt ha)
  rw [dtS_1 hn ha] at h1
  unfold ent at h1 ⊢
  simp at h1 ⊢
  omega
 have hsym : ∀ a b, ent q q.f.length a b = ent q q.f.length b a := fun a b => by
  unfold ent; simp only [eq_comm (a := a) (b := b)]; omega
 have hoff : ∀ a b, a < b → b < n → ent q q.f.length a b = 0 ∨ ent q q.f.length a b = -1 := by
  intro a b ha hb
  have hlt : 2 ^ a + 2 ^ b < 2 ^ n := by
   have h1 : 2 ^ a < 2 ^ b := two_pow_lt ha
   have h2 : 2 ^ (b + 1) ≤ 2 ^ n := Nat.pow_le_pow_right (by omega) hb
   rw [Nat.pow_succ] at h2; omega
  have h1 := hd' (2 ^ a + 2 ^ b) (Nat.le_trans Nat.one_le_two_pow (Nat.le_add_right (2 ^ a) (2 ^ b))) hlt
  rw [dtS_2 hn hb ha, hdiag a (by omega), hdiag b hb, hsym b a] at h1
  have h2 : ent q q.f.length a b ≤ 0 := by unfold ent; rw [if_neg (by omega)]; omega
  generalize ent q q.f.length a b = m at h1 h2
  rcases Int.lt_or_le m (-1) with h3 | h3
  ·have : 0 ≤ (-m - 2) * (-m + 2) := Int.mul_nonneg (by omega) (by omega)
   have e : (-m - 2) * (-m + 2) = m * m - 4 := by grind
   omega
  ·omega
 have hg : ∀ a b, a < n → b < n → ent q q.f.length a b = gL (patG n (ent q q.f.length)) a b := by
  intro a b ha hb
  unfold gL
  by_cases e : a = b
  ·subst e; rw [if_pos rfl, hdiag a ha]
  ·rw [if_neg e]
   by_cases hab : a < b
   ·rw [if_pos hab, patG_at hn hb hab]
    rcases hoff a b hab hb with h | h <;> rw [h] <;> simp
   ·rw [if_neg hab, patG_at hn ha (by omega), hsym a b]
    rcases hoff b a (by omega) ha with h | h <;> rw [h] <;> simp
 refine ⟨patG n (ent q q.f.length), patG_length n hn _, hg, fun s h1 h2 => ?_⟩
 rw [← dtS_congr hg]
 exact hd' s h1 h2
theorem wit_lt : ∀ n, n ≤ 5 → ∀ (l : List Bool), l.length = n * (n - 1) / 2 → witAt l wits < 2 ^ n := by
 intro n hn l hl
 have key : ∀ n, n ≤ 5 → allBL (n * (n - 1) / 2) [] (fun l => decide (witAt l wits < 2 ^ n)) = true := by decide +kernel
 simpa using allBL_all (key n hn) l hl
theorem gL_symm (l : List Bool) (a b : Nat) : gL l a b = gL l b a := by
 unfold gL
 by_cases e : a = b
 ·subst e; rfl
 ·rw [if_neg e, if_neg (fun h : b = a => e h.symm)]
  by_cases h : a < b
  ·simp only [if_pos h, if_neg (show ¬ b < a by omega)]
  ·simp only [if_neg h, if_pos (show b < a by omega)]
theorem gL_diag (l : List Bool) (a : Nat) : gL l a a = 2 := by simp [gL]
theorem gL_off (l : List Bool) {a b : Nat} (h : a ≠ b) : gL l a b ≤ 0 := by
 unfold gL
 rw [if_neg h]
 split <;> omega
theorem bil_congr {n : Nat} {g h : Nat → Nat → Int} {x x' y y' : Nat → Int} (e : ∀ a b, a < n → b < n → g a b = h a b) (ex : ∀ a, a < n → x a = x' a) (ey : ∀ a, a < n → y a = y' a) : bil n g x y = bil n h x' y' := by
 unfold bil
 apply sm_congr; intro a ha; apply sm_congr; intro b hb
 rw [e a b ha hb, ex a ha, ey b hb]
theorem bil_ind {n u v : Nat} (hu : u < n) (hv : v < n) (c : Int) (x y : Nat → Int) : bil n (fun a b => if a = u ∧ b = v then c else 0) x y = c * x u * y v := by
 unfold bil
 rw [sm_one (k := u) n hu, sm_one (k := v) n hv]
 ·simp
 ·intro i _ hi; simp [hi]
 ·intro i _ hi
  rw [sm_congr (g := fun _ => 0) n fun b _ => by simp [hi], sm_zero]
theorem bil_gsub (n : Nat) (g h : Nat → Nat → Int) (x y : Nat → Int) : bil n (fun a b => g a b - h a b) x y = bil n g x y - bil n h x y := by
 unfold bil
 rw [← sm_sub]
 apply sm_congr; intro a _; rw [← sm_sub]; apply sm_congr; intro b _; grind
theorem bil_gmul (n : Nat) (c : Int) (g : Nat → Nat → Int) (x y : Nat → Int) : bil n (fun a b => c * g a b) x y = c * bil n g x y := by
 unfold bil
 rw [← sm_mul]
 apply sm_congr; intro a _; rw [← sm_mul]; apply sm_congr; intro b _; grind
theorem bil_succ {g : Nat → Nat → Int} (hs : ∀ a b, g a b = g b a) (n : Nat) (x : Nat → Int) : bil (n + 1) g x x = bil n g x x + 2 * (x n * sm n fun b => g b n * x b) + g n n * x n * x n := by
 unfold bil
 rw [sm]
 have : (sm n fun a => sm (n + 1) fun b => g a b * x a * x b) = (sm n fun a => sm n fun b => g a b * x a * x b) + x n * sm n fun b => g b n * x b := by
  rw [← sm_mul, ← sm_add]
  apply sm_congr; intro a _
  rw [sm]; grind
 rw [this, sm]
 have e : (sm n fun b => g n b * x n * x b) = x n * sm n fun b => g b n * x b := by
  rw [← sm_mul]; apply sm_congr; intro b _; rw [hs n b]; grind
 rw [e]; grind
theorem bil_even {g : Nat → Nat → Int} (hs : ∀ a b, g a b = g b a) (hd : ∀ a, g a a = 2) (x : Nat → Int) : ∀ n, ∃ t, bil n g x x = 2 * t
 | 0 => ⟨0, rfl⟩
 | n + 1 => by
  obtain ⟨t, ht⟩ := bil_even hs hd x n
  exact ⟨t + (x n * sm n fun b => g b n * x b) + x n * x n, by rw [bil_succ hs, ht, hd]; grind⟩
structure FinG (n : Nat) (g : Nat → Nat → Int) : Prop where
 symm : ∀ a b, g a b = g b a
 diag : ∀ a, g a a = 2
 off : ∀ a b, a ≠ b → g a b ≤ 0
 pos : ∀ x : Nat → Int, (∃ i, i < n ∧ x i ≠ 0) → ∀ v, v < n → x v * x v < 4 * bil n g x x
theorem finG_of {n : Nat} {l : List Bool} (h : finOK n l = true) : FinG n (gL l) := by
 simp only [finOK, Bool.and_eq_true, List.all_eq_true, List.mem_range] at h
 refine ⟨gL_symm l, gL_diag l, fun a b => gL_off l, fun x hx v hv => ?_⟩
 have h1 := pvF_pos n _ (fun a b => by rw [gL_symm l a b]; simp only [and_comm]) (h.1 v hv) x hx
 rw [bil_gsub n (fun a b => 4 * gL l a b) (fun a b => if a = v ∧ b = v then 1 else 0), bil_gmul, bil_ind hv hv, Int.one_mul] at h1
 omega
namespace FinG
variable {n : Nat} {g : Nat → Nat → Int} (G : FinG n g)
include G
theorem pos1 {x : Nat → Int} (hx : ∃ i, i < n ∧ x i ≠ 0) : 2 ≤ bil n g x x := by
 obtain ⟨i, hi, hn⟩ := hx
 have h1 := G.pos x ⟨i, hi, hn⟩ i hi
 have h2 := sq_nonneg (x i)
 obtain ⟨t, ht⟩ := bil_even G.symm G.diag x n
 omega
theorem le2 {x : Nat → Int} (hx : bil n g x x = 2) {v : Nat} (hv : v < n) : -2 ≤ x v ∧ x v ≤ 2 := by
 by_cases h0 : x v = 0
 ·omega
 ·have h1 := G.pos x ⟨v, hv, h0⟩ v hv
  rw [hx] at h1
  generalize x v = a at h1
  constructor
  ·rcases Int.lt_or_le a (-2) with h | h
   ·have : (3 : Int) * 3 ≤ -a * -a := Int.mul_le_mul (by omega) (by omega) (by omega) (by omega)
    have e : (3 : Int) * 3 ≤ a * a := by rw [← Int.neg_mul_neg a a]; exact this
    omega
   ·exact h
  ·rcases Int.lt_or_le 2 a with h | h
   ·have : (3 : Int) * 3 ≤ a * a := Int.mul_le_mul (by omega) (by omega) (by omega) (by omega)
    omega
   ·exact h
theorem sign {x : Nat → Int} (hx : bil n g x x = 2) : (∀ i, i < n → 0 ≤ x i) ∨ (∀ i, i < n → x i ≤ 0) := by
 apply Decidable.byContradiction
 intro hcon
 have h1 : ∃ i, i < n ∧ x i < 0 := Decidable.byContradiction fun h => hcon (.inl fun i hi => by
  rcases Int.lt_or_le (x i) 0 with h' | h'
  ·exact absurd ⟨i, hi, h'⟩ h
  ·exact h')
 have h2 : ∃ i, i < n ∧ 0 < x i := Decidable.byContradiction fun h => hcon (.inr fun i hi => by
  rcases Int.lt_or_le 0 (x i) with h' | h'
  ·exact absurd ⟨i, hi, h'⟩ h
  ·exact h')
 obtain ⟨i, hi, hxi⟩ := h1
 obtain ⟨j, hj, hxj⟩ := h2
 let p : Nat → Int := fun a => max (x a) 0
 let m : Nat → Int := fun a => max (-x a) 0
 have e : bil n g x x = bil n g p p - 2 * bil n g p m + bil n g m m := by
  have e1 : bil n g x x = bil n g (fun a => p a - m a) (fun a => p a - m a) := bil_congr (fun _ _ _ _ => rfl) (fun a _ => by simp only [p, m]; omega) (fun a _ => by simp only [p, m]; omega)
  rw [e1, bil_subl, bil_symm G.symm p, bil_symm G.symm m, bil_subl, bil_subl, bil_symm G.symm m p]
  omega
 have hpm : bil n g p m ≤ 0 := by
  have : 0 ≤ sm n fun a => sm n fun b => -(g a b * p a * m b) := sm_nonneg n fun a _ => sm_nonneg n fun b _ => by
   by_cases hab : a = b
   ·subst hab
    have : p a * m a = 0 := by
     simp only [p, m]
     rcases Int.le_total 0 (x a) with h | h
     ·rw [Int.max_eq_right (a := -x a) (by omega)]; simp
     ·rw [Int.max_eq_right (a := x a) (by omega)]; simp
    rw [Int.mul_assoc, this]; simp
   ·have := Int.mul_nonneg (Int.mul_nonneg (a := -(g a b)) (b := p a) (by have := G.off a b hab; omega) (by simp only [p]; omega)) (show 0 ≤ m b by simp only [m]; omega)
    rw [Int.neg_mul, Int.neg_mul] at this
    exact this
  have e2 : (sm n fun a => sm n fun b => -(g a b * p a * m b)) = -1 * bil n g p m := by
   unfold bil
   rw [← sm_mul]; apply sm_congr; intro a _; rw [← sm_mul]; apply sm_congr; intro b _; omega
  rw [e2] at this; omega
 have hp := G.pos1 (x := p) ⟨j, hj, by simp only [p]; omega⟩
 have hm := G.pos1 (x := m) ⟨i, hi, by simp only [m]; omega⟩
 omega
end FinG
def mvF (x : Nat → Int) (v : Nat) (c : Int) (i : Nat) : Int := if i = v then x i - c else x i
theorem bil_mv {n : Nat} {g : Nat → Nat → Int} (hs : ∀ a b, g a b = g b a) (hd : ∀ a, g a a = 2) {v : Nat} (hv : v < n) (x : Nat → Int) (c : Int) : bil n g (mvF x v c) (mvF x v c) = bil n g x x - 2 * c * (sm n fun b => g v b * x b) + 2 * c * c := by
 let d : Nat → Int := fun i => if i = v then 1 else 0
 have hdx : ∀ y : Nat → Int, bil n g d y = sm n fun b => g v b * y b := by
  intro y
  rw [bil_row, sm_one (k := v) n hv]
  ·simp [d]
  ·intro i _ hi; simp [d, hi]
 have hdd : bil n g d d = 2 := by
  rw [hdx, sm_one (k := v) n hv]
  ·simp [d, hd]
  ·intro i _ hi; simp [d, hi]
 have e1 : bil n g (mvF x v c) (mvF x v c) = bil n g (fun a => x a - c * d a) (fun a => x a - c * d a) := by
  apply bil_congr (fun _ _ _ _ => rfl) <;> intro a _ <;> simp only [mvF, d] <;> split <;> simp
 rw [e1, bil_subl n g x (fun a => c * d a), bil_mull, bil_symm hs x, bil_symm hs d, bil_subl, bil_subl, bil_mull, bil_mull, hdd, bil_symm hs x d, hdx]
 grind
theorem sm_mv {n : Nat} {h : Nat → Int} {v : Nat} (hv : v < n) (x : Nat → Int) (c : Int) : (sm n fun b => h b * mvF x v c b) = (sm n fun b => h b * x b) - c * h v := by
 have : (sm n fun b => h b * mvF x v c b) = (sm n fun b => h b * x b) - sm n fun b => if b = v then c * h v else 0 := by
  rw [← sm_sub]; apply sm_congr; intro b _; simp only [mvF]; split
  ·subst_vars; grind
  ·omega
 rw [this, sm_one (f := fun b => if b = v then c * h v else 0) (k := v) n hv fun i _ hi => by simp [hi]]
 simp
theorem FinG.down {n : Nat} {g : Nat → Nat → Int} (G : FinG n g) {x : Nat → Int} (hx : bil n g x x = 2) (h0 : ∀ i, i < n → 0 ≤ x i) (hne : ∀ v, v < n → ¬ ∀ i, i < n → x i = if i = v then 1 else 0) :
  ∃ v, v < n ∧ 0 < (sm n fun b => g v b * x b) ∧ bil n g (mvF x v (sm n fun b => g v b * x b)) (mvF x v (sm n fun b => g v b * x b)) = 2 ∧ 0 ≤ x v - sm n fun b => g v b * x b := by
 have h1 : 0 < sm n fun a => x a * sm n fun b => g a b * x b := by rw [← bil_row, hx]; omega
 obtain ⟨v, hv, hp⟩ := sm_pos_ex n h1
 have hxv := h0 v hv
 obtain ⟨c, hc⟩ : ∃ c, (sm n fun b => g v b * x b) = c := ⟨_, rfl⟩
 rw [hc] at hp
 have hcp : 0 < c := by
  rcases Int.lt_or_le 0 c with h | h
  ·exact h
  ·have := Int.mul_nonneg hxv (show 0 ≤ -c by omega)
   rw [Int.mul_neg] at this; omega
 have hb : bil n g (mvF x v c) (mvF x v c) = 2 := by rw [bil_mv G.symm G.diag hv, hc, hx]; grind
 refine ⟨v, hv, by rw [hc]; exact hcp, by rw [hc]; exact hb, ?_⟩
 rw [hc]
 rcases G.sign hb with h | h
 ·have := h v hv
  simpa [mvF] using this
 ·exfalso
  have hz : ∀ i, i < n → i ≠ v → x i = 0 := fun i hi hn => by
   have h2 := h i hi
   simp only [mvF, if_neg hn] at h2
   have := h0 i hi
   omega
  have e : bil n g x x = 2 * (x v * x v) := by
   rw [bil_row, sm_one (k := v) n hv fun i hi hn => by rw [hz i hi hn]; simp]
   rw [sm_one (k := v) n hv fun i hi hn => by rw [hz i hi hn]; simp, G.diag]
   grind
  rw [hx] at e
  have e1 : x v = 1 := by
   have h3 := (G.le2 hx hv)
   have : x v = 0 ∨ x v = 1 ∨ x v = 2 := by omega
   rcases this with h | h | h <;> rw [h] at e <;> omega
  exact hne v hv fun i hi => by
   split
   ·subst_vars; exact e1
   ·exact hz i hi ‹_›
theorem fin_ok {q : Qv} (hk : kindQ q = 1) : ∃ l : List Bool, (∀ a b, a < q.v.toNat → b < q.v.toNat → ent q q.f.length a b = gL l a b) ∧ finOK q.v.toNat l = true := by
 obtain ⟨hq, l, hl, he, hd⟩ := fin_pat hk
 have hv := (isQ_t.1 hq).1
 refine ⟨l, he, ?_⟩
 have h := allBL_all (pat_all (n := q.v.toNat) (by omega) (by omega)) l hl
 have hw := wit_lt q.v.toNat (by omega) l hl
 unfold patOK at h
 split at h
 ·exact h
 ·rename_i s hs
  have := hd (s + 1) (by omega) (by omega)
  simp only [decide_eq_true_eq] at h
  omega
theorem ent_symm (q : Qv) (a b : Nat) : ent q q.f.length a b = ent q q.f.length b a := by
 unfold ent; simp only [eq_comm (a := a) (b := b)]; omega
theorem fin_G {q : Qv} (hk : kindQ q = 1) : FinG q.v.toNat (ent q q.f.length) := by
 obtain ⟨l, he, ho⟩ := fin_ok hk
 obtain ⟨hq, _⟩ := fin_pat hk
 have G := finG_of ho
 refine ⟨ent_symm q, fun a => ?_, fun a b hab => by unfold ent; rw [if_neg hab]; omega, fun x hx v hv => ?_⟩
 ·by_cases ha : a < q.v.toNat
  ·rw [he a a ha ha, G.diag]
  ·have h0 : arr q a a q.f.length = 0 := by
    rw [arr, List.countP_eq_zero]
    intro p hp
    have h1 := (isQ_t.1 hq).2.2.2.1 p.1 (List.of_mem_zip (List.mem_of_mem_take hp)).1
    simp only [Bool.and_eq_true, beq_iff_eq]
    omega
   rw [ent, h0, if_pos rfl]; rfl
 ·rw [bil_congr he (fun _ _ => rfl) (fun _ _ => rfl)]
  exact G.pos x hx v hv
def vx (x : List Int) (i : Nat) : Int := x.getD i 0
def eulV (x y : List Int) (n : Nat) : Int := sm n fun v => vx x v * vx y v
def eulA (q : Qv) (x y : List Int) (k : Nat) : Int := sm k fun i => vx x (vx q.f i).toNat * vx y (vx q.t i).toNat
def eul (q : Qv) (x y : List Int) : Int := eulV x y q.v.toNat - eulA q x y q.f.length
theorem bil_idn (n : Nat) (x y : Nat → Int) : bil n (fun a b => if a = b then 2 else 0) x y = 2 * sm n fun v => x v * y v := by
 rw [bil_row, ← sm_mul]
 apply sm_congr; intro a ha
 rw [sm_one (k := a) n ha fun i _ hi => by rw [if_neg (fun h => hi h.symm)]; simp]
 simp; grind
theorem ent_eul {q : Qv} (hq : isQ q = true) (x : List Int) : ∀ k, k ≤ q.f.length → bil q.v.toNat (ent q k) (vx x) (vx x) = 2 * (eulV x x q.v.toNat - eulA q x x k)
 | 0, _ => by
  rw [bil_congr (h := fun a b => if a = b then 2 else 0) (x' := vx x) (y' := vx x) (fun a b _ _ => ent_zero q a b) (fun _ _ => rfl) (fun _ _ => rfl), bil_idn]
  simp [eulV, eulA, sm]
 | k + 1, hk => by
  obtain ⟨_, hl, _, hf, ht⟩ := isQ_t.1 hq
  have h1 : q.f[k]? = some q.f[k] := List.getElem?_eq_getElem (by omega)
  have h2 : q.t[k]? = some q.t[k] := List.getElem?_eq_getElem (by omega)
  have r1 := hf _ (List.mem_of_getElem? h1)
  have r2 := ht _ (List.mem_of_getElem? h2)
  obtain ⟨u, hu⟩ : ∃ u : Nat, q.f[k] = (u : Int) := ⟨q.f[k].toNat, by omega⟩
  obtain ⟨v, hv⟩ : ∃ v : Nat, q.t[k] = (v : Int) := ⟨q.t[k].toNat, by omega⟩
  rw [hu] at h1 r1
  rw [hv] at h2 r2
  have e1 : vx q.f k = u := by rw [vx, List.getD_eq_getElem?_getD, h1]; rfl
  have e2 : vx q.t k = v := by rw [vx, List.getD_eq_getElem?_getD, h2]; rfl
  rw [bil_congr (h := fun a b => (ent q k a b - (if a = u ∧ b = v then 1 else 0)) - (if a = v ∧ b = u then 1 else 0)) (x' := vx x) (y' := vx x) (fun a b _ _ => ent_succ h1 h2 a b) (fun _ _ => rfl) (fun _ _ => rfl)]
  rw [bil_gsub _ (fun a b => ent q k a b - (if a = u ∧ b = v then 1 else 0)), bil_gsub _ (ent q k), ent_eul hq x k (by omega), bil_ind (by omega) (by omega), bil_ind (by omega) (by omega)]
  simp only [eulA, sm, e1, e2, Int.toNat_natCast]
  grind
theorem dotS_sm (g : Nat → Int) (x : List Int) : ∀ k, dotS g x k = sm k fun b => g b * vx x b
 | 0 => rfl
 | k + 1 => by rw [dotS, sm, dotS_sm g x k]; rfl
theorem vx_refl (q : Qv) (x : List Int) (v : Nat) (hv : v < x.length) (i : Nat) : vx (reflL q x v) i = mvF (vx x) v (sm x.length fun b => ent q q.f.length v b * vx x b) i := by
 simp only [vx, reflL, mvF, List.getD_eq_getElem?_getD, List.getElem?_set, dotS_sm]
 by_cases e : v = i
 ·subst e; simp [hv]
 ·rw [if_neg e, if_neg (fun h => e h.symm)]
theorem reflL_length (q : Qv) (x : List Int) (v : Nat) : (reflL q x v).length = x.length := by simp [reflL]
theorem vx_ext {x y : List Int} (hl : x.length = y.length) (h : ∀ i, i < x.length → vx x i = vx y i) : x = y := by
 apply List.ext_getElem hl
 intro i h1 h2
 have := h i h1
 simp only [vx, List.getD_eq_getElem?_getD, List.getElem?_eq_getElem h1, List.getElem?_eq_getElem h2] at this
 exact this
def uniV (n v : Nat) : List Int := (List.range n).map fun i => if i = v then 1 else 0
theorem uniV_length (n v : Nat) : (uniV n v).length = n := by simp [uniV]
theorem vx_uni {n v i : Nat} (hi : i < n) : vx (uniV n v) i = if i = v then 1 else 0 := by simp [vx, uniV, hi]
structure isRt (q : Qv) (x : List Int) : Prop where
 len : x.length = q.v.toNat
 nn : ∀ i, i < x.length → 0 ≤ vx x i
 one : eul q x x = 1
theorem eul_bil {q : Qv} (hq : isQ q = true) (x : List Int) : bil q.v.toNat (ent q q.f.length) (vx x) (vx x) = 2 * eul q x x := ent_eul hq x _ (Nat.le_refl _)
theorem fin_isQ {q : Qv} (hk : kindQ q = 1) : isQ q = true := (fin_pat hk).1
theorem isRt.two {q : Qv} (hk : kindQ q = 1) {x : List Int} (h : isRt q x) : bil q.v.toNat (ent q q.f.length) (vx x) (vx x) = 2 := by rw [eul_bil (fin_isQ hk), h.one]; rfl
theorem isRt.le2 {q : Qv} (hk : kindQ q = 1) {x : List Int} (h : isRt q x) {v : Nat} (hv : v < x.length) : 0 ≤ vx x v ∧ vx x v ≤ 2 := ⟨h.nn v hv, ((fin_G hk).le2 (h.two hk) (by have := h.len; omega)).2⟩
theorem isRt_uni {q : Qv} (hk : kindQ q = 1) {v : Nat} (hv : v < q.v.toNat) : isRt q (uniV q.v.toNat v) := by
 refine ⟨uniV_length _ _, fun i hi => ?_, ?_⟩
 ·rw [uniV_length] at hi; rw [vx_uni hi]; split <;> omega
 ·have h := eul_bil (fin_isQ hk) (uniV q.v.toNat v)
  rw [bil_row, sm_one (k := v) _ hv fun i hi hn => by rw [vx_uni hi, if_neg hn]; simp] at h
  rw [sm_one (k := v) _ hv fun i hi hn => by rw [vx_uni hi, if_neg hn]; simp, vx_uni hv, if_pos rfl, (fin_G hk).diag] at h
  omega
theorem isRt_refl {q : Qv} {x : List Int} (h : isRt q x) {v : Nat} (hv : v < q.v.toNat) (h0 : 0 ≤ (reflL q x v).getD v 0) (h1 : eul q (reflL q x v) (reflL q x v) = 1) : isRt q (reflL q x v) := by
 refine ⟨(reflL_length _ _ _).trans h.len, fun i hi => ?_, h1⟩
 rw [reflL_length] at hi
 by_cases e : i = v
 ·subst e; exact h0
 ·rw [vx_refl _ _ _ (by have := h.len; omega), mvF, if_neg e]; exact h.nn i hi
def sumL (x : List Int) : Int := sm x.length (vx x)
theorem rt_all {q : Qv} (hk : kindQ q = 1) (S : List Int → Prop) (hu : ∀ v, v < q.v.toNat → S (uniV q.v.toNat v))
  (hr : ∀ x v, S x → isRt q x → v < q.v.toNat → 0 ≤ (reflL q x v).getD v 0 → eul q (reflL q x v) (reflL q x v) = 1 → S (reflL q x v)) :
  ∀ (m : Nat) (x : List Int), isRt q x → sumL x ≤ m → S x := by
 intro m
 induction m with
 | zero =>
  intro x hx hm
  exfalso
  have h2 := hx.two hk
  have hz : ∀ i, i < x.length → vx x i = 0 := by
   intro i hi
   have h3 := hx.nn i hi
   have h4 : vx x i ≤ sumL x := by
    have : sumL x = vx x i + sm x.length fun j => if j = i then 0 else vx x j := by
     rw [sumL, sm_congr (g := fun j => (if j = i then vx x i else 0) + if j = i then 0 else vx x j) _ (fun j _ => by split <;> simp_all), sm_add, sm_one (f := fun j => if j = i then vx x i else 0) (k := i) _ hi fun j _ hj => by simp [hj]]
     simp
    have h5 := sm_nonneg (f := fun j => if j = i then 0 else vx x j) x.length fun j hj => by
     split
     ·omega
     ·exact hx.nn j hj
    omega
   omega
  rw [bil_row, sm_congr (g := fun _ => 0) _ (fun i hi => by rw [hz i (by have := hx.len; omega)]; simp), sm_zero] at h2
  omega
 | succ m ih =>
  intro x hx hm
  by_cases hs : ∃ v, v < q.v.toNat ∧ ∀ i, i < q.v.toNat → vx x i = if i = v then 1 else 0
  ·obtain ⟨v, hv, he⟩ := hs
   have : x = uniV q.v.toNat v := vx_ext (by rw [uniV_length, hx.len]) fun i hi => by rw [vx_uni (by have := hx.len; omega), he i (by have := hx.len; omega)]
   rw [this]; exact hu v hv
  ·obtain ⟨v, hv, hc, hb, h0⟩ := (fin_G hk).down (hx.two hk) (fun i hi => hx.nn i (by have := hx.len; omega)) (fun v hv h => hs ⟨v, hv, h⟩)
   have hvl : v < x.length := by have := hx.len; omega
   have ey : ∀ i, vx (reflL q x v) i = mvF (vx x) v (sm q.v.toNat fun b => ent q q.f.length v b * vx x b) i := fun i => by rw [vx_refl _ _ _ hvl, hx.len]
   have hy : isRt q (reflL q x v) := isRt_refl hx hv (by show 0 ≤ vx _ v; rw [ey, mvF, if_pos rfl]; exact h0) (by
    have h := eul_bil (fin_isQ hk) (reflL q x v)
    rw [bil_congr (fun _ _ _ _ => rfl) (fun a _ => ey a) (fun a _ => ey a), hb] at h
    omega)
   have hback : reflL q (reflL q x v) v = x := by
    refine vx_ext (by simp [reflL_length]) fun i hi => ?_
    rw [vx_refl _ _ _ (by rw [reflL_length]; exact hvl), reflL_length, hx.len]
    have e2 : (sm q.v.toNat fun b => ent q q.f.length v b * vx (reflL q x v) b) = -(sm q.v.toNat fun b => ent q q.f.length v b * vx x b) := by
     rw [sm_congr (g := fun b => ent q q.f.length v b * mvF (vx x) v (sm q.v.toNat fun b => ent q q.f.length v b * vx x b) b) _ (fun b _ => by rw [ey]), sm_mv hv, (fin_G hk).diag]
     omega
    rw [e2]
    simp only [mvF, ey]
    split <;> omega
   have hsum : sumL (reflL q x v) ≤ m := by
    have : sumL (reflL q x v) = sumL x - sm q.v.toNat fun b => ent q q.f.length v b * vx x b := by
     have e3 := sm_mv (h := fun _ => 1) hv (vx x) (sm q.v.toNat fun b => ent q q.f.length v b * vx x b)
     simp only [Int.one_mul, Int.mul_one] at e3
     rw [sumL, reflL_length, hx.len, sm_congr _ (fun i _ => ey i), e3, sumL, hx.len]
    omega
   have hS := ih _ hy hsum
   have := hr _ v hS hy hv (by rw [hback]; exact hx.nn v hvl) (by rw [hback]; exact hx.one)
   rw [hback] at this
   exact this
def lstR : List (List Bool) → List Nat → Nat → Nat → List (List Nat)
 | [], xs, p, m => if p == m + 1 then [xs] else []
 | row :: rs, xs, p, m => lstR rs (0 :: xs) p m ++ lstR rs (1 :: xs) (p + 1) (m + dotB row xs) ++ lstR rs (2 :: xs) (p + 4) (m + 2 * dotB row xs)
theorem lstR_length : ∀ rs xs p m, (lstR rs xs p m).length = cntR rs xs p m
 | [], xs, p, m => by simp only [lstR, cntR]; split <;> rfl
 | row :: rs, xs, p, m => by simp only [lstR, cntR, List.length_append, lstR_length rs]
def runR : List (List Bool) → List Nat → List Nat → Nat → Nat → Nat × Nat
 | row :: rs, y :: ys, xs, p, m => runR rs ys (y :: xs) (p + y * y) (m + y * dotB row xs)
 | _, _, _, p, m => (p, m)
theorem lstR_mem : ∀ (rs : List (List Bool)) (ys xs : List Nat) (p m : Nat), rs.length = ys.length → (∀ y ∈ ys, y ≤ 2) → (runR rs ys xs p m).1 = (runR rs ys xs p m).2 + 1 → ys.reverse ++ xs ∈ lstR rs xs p m
 | [], [], xs, p, m, _, _, h => by
  simp only [runR] at h
  simp [lstR, h]
 | row :: rs, y :: ys, xs, p, m, hl, hy, h => by
  have ih := lstR_mem rs ys (y :: xs) (p + y * y) (m + y * dotB row xs) (by simpa using hl) (fun z hz => hy z (by simp [hz])) h
  have h2 : y = 0 ∨ y = 1 ∨ y = 2 := by have := hy y (by simp); omega
  simp only [lstR, List.reverse_cons, List.append_assoc, List.singleton_append, List.mem_append]
  rcases h2 with rfl | rfl | rfl
  ·exact .inl (by simpa using ih)
  ·exact .inr (.inl (by simpa using ih))
  ·exact .inr (.inr (by simpa using ih))
theorem runR_snoc : ∀ (rs : List (List Bool)) (row : List Bool) (ys : List Nat) (y : Nat) (xs : List Nat) (p m : Nat), rs.length = ys.length → runR (rs ++ [row]) (ys ++ [y]) xs p m = ((runR rs ys xs p m).1 + y * y, (runR rs ys xs p m).2 + y * dotB row (ys.reverse ++ xs))
 | [], row, [], y, xs, p, m, _ => by simp [runR]
 | r :: rs, row, z :: ys, y, xs, p, m, h => by
  simp only [List.cons_append, runR]
  rw [runR_snoc rs row ys y (z :: xs) _ _ (by simpa using h)]
  simp
def ltN (X : Nat → Nat) (n : Nat) : List Nat := (List.range n).map X
theorem dotB_sm (l : List Bool) (X : Nat → Nat) (n : Nat) : ∀ b, b ≤ n → (dotB (((List.range b).map fun a => l.getD (pIdx a n) false).reverse) (ltN X b).reverse : Int) = - sm b fun a => gL l a n * X a
 | 0, _ => by simp [dotB, sm, ltN]
 | b + 1, hb => by
  have ih := dotB_sm l X n b (by omega)
  simp only [ltN, List.range_succ, List.map_append, List.map_cons, List.map_nil, List.reverse_append, List.reverse_cons, List.reverse_nil, List.nil_append, List.singleton_append]
  simp only [ltN] at ih
  rw [sm]
  have hg : gL l b n = if l.getD (pIdx b n) false = true then -1 else 0 := by simp only [gL, if_neg (show ¬ b = n by omega), if_pos (show b < n by omega)]
  cases hB : l.getD (pIdx b n) false
  ·rw [hB] at hg
   simp only [dotB]
   rw [hg, ih]; simp
  ·rw [hB] at hg
   simp only [dotB]
   rw [hg, Int.natCast_add, ih]; simp; omega
theorem rowsL_length (l : List Bool) : ∀ n, (rowsL n l).length = n
 | 0 => rfl
 | n + 1 => by simp [rowsL, rowsL_length l n]
theorem runR_bil (l : List Bool) (X : Nat → Nat) : ∀ n, (bil n (gL l) (fun i => X i) (fun i => X i) : Int) = 2 * ((runR (rowsL n l) (ltN X n) [] 0 0).1 : Int) - 2 * ((runR (rowsL n l) (ltN X n) [] 0 0).2 : Int)
 | 0 => by simp [bil, sm, runR, rowsL]
 | n + 1 => by
  rw [bil_succ (gL_symm l), runR_bil l X n, gL_diag]
  have h := dotB_sm l X n n (Nat.le_refl n)
  have e : ltN X (n + 1) = ltN X n ++ [X n] := by simp [ltN, List.range_succ]
  rw [rowsL, e, runR_snoc _ _ _ _ _ _ _ (by simp [rowsL_length, ltN])]
  simp only [List.append_nil]
  generalize runR (rowsL n l) (ltN X n) [] 0 0 = pm
  obtain ⟨D, hD⟩ : ∃ D, dotB (((List.range n).map fun a => l.getD (pIdx a n) false).reverse) (ltN X n).reverse = D := ⟨_, rfl⟩
  rw [hD] at h ⊢
  have h2 : (sm n fun a => gL l a n * (X a : Int)) = -(D : Int) := by omega
  rw [h2]
  simp only [Int.natCast_add, Int.natCast_mul]
  grind
theorem nodup_sub {α : Type} [DecidableEq α] : ∀ (l m : List α), l.Nodup → (∀ x ∈ l, x ∈ m) → l.length ≤ m.length
 | [], _, _, _ => by simp
 | a :: r, m, hd, h => by
  obtain ⟨h1, h2⟩ := List.nodup_cons.1 hd
  have ha := h a (by simp)
  have := nodup_sub r (m.erase a) h2 fun x hx => (List.mem_erase_of_ne (by rintro rfl; exact h1 hx)).2 (h x (by simp [hx]))
  rw [List.length_erase_of_mem ha] at this
  have : 0 < m.length := List.length_pos_of_mem ha
  simp only [List.length_cons]
  omega
theorem nodup_mapF {α β : Type} {f : α → β} : ∀ {l : List α}, l.Nodup → (∀ x ∈ l, ∀ y ∈ l, f x = f y → x = y) → (l.map f).Nodup
 | [], _, _ => by simp
 | a :: r, hd, h => by
  obtain ⟨h1, h2⟩ := List.nodup_cons.1 hd
  rw [List.map_cons, List.nodup_cons]
  refine ⟨fun hm => ?_, nodup_mapF h2 fun x hx y hy => h x (by simp [hx]) y (by simp [hy])⟩
  obtain ⟨x, hx, e⟩ := List.mem_map.1 hm
  have := h x (by simp [hx]) a (by simp) e
  exact h1 (this ▸ hx)
theorem rt_20 {q : Qv} (hk : kindQ q = 1) (R : List (List Int)) (hn : R.Nodup) (hR : ∀ x ∈ R, isRt q x) : R.length ≤ 20 := by
 obtain ⟨l, he, ho⟩ := fin_ok hk
 simp only [finOK, Bool.and_eq_true] at ho
 have hc : cntR (rowsL q.v.toNat l) [] 0 0 ≤ 20 := by simpa using ho.2
 rw [← lstR_length] at hc
 have h1 := nodup_sub (R.map fun x => ((x.map Int.toNat).reverse)) (lstR (rowsL q.v.toNat l) [] 0 0) (nodup_mapF hn fun x hx y hy e => ?_) ?_
 ·rw [List.length_map] at h1; omega
 ·have e := List.reverse_inj.1 e
  have hlx := (hR x hx).len
  have hly := (hR y hy).len
  refine vx_ext (by omega) fun i hi => ?_
  have h1 := congrArg (fun z => z[i]?) e
  simp only [List.getElem?_map, List.getElem?_eq_getElem hi, List.getElem?_eq_getElem (show i < y.length by omega), Option.map_some, Option.some.injEq] at h1
  have nx := (hR x hx).nn i hi
  have ny := (hR y hy).nn i (by omega)
  simp only [vx, List.getD_eq_getElem?_getD, List.getElem?_eq_getElem hi, List.getElem?_eq_getElem (show i < y.length by omega), Option.getD_some] at nx ny ⊢
  omega
 ·intro z hz
  obtain ⟨x, hx, rfl⟩ := List.mem_map.1 hz
  have hx' := hR x hx
  have e : x.map Int.toNat = ltN (fun i => (vx x i).toNat) q.v.toNat := by
   apply List.ext_getElem (by simp [ltN, hx'.len])
   intro i h1 h2
   simp [ltN, vx, List.getD_eq_getElem?_getD, List.getElem?_eq_getElem (show i < x.length by simpa using h1)]
  have hb := hx'.two hk
  rw [bil_congr he (x' := fun i => (((vx x i).toNat : Nat) : Int)) (y' := fun i => (((vx x i).toNat : Nat) : Int)) (fun a ha => by have := hx'.nn a (by have := hx'.len; omega); omega) (fun a ha => by have := hx'.nn a (by have := hx'.len; omega); omega)] at hb
  rw [runR_bil l (fun i => (vx x i).toNat) q.v.toNat, ← e] at hb
  have h2 := lstR_mem (rowsL q.v.toNat l) (x.map Int.toNat) [] 0 0 (by simp [rowsL_length, hx'.len]) (fun y hy => by
   obtain ⟨w, hw, rfl⟩ := List.mem_map.1 hy
   obtain ⟨i, hi⟩ := List.mem_iff_getElem?.1 hw
   have hil := lt_of_some hi
   have := hx'.le2 hk hil
   rw [vx, List.getD_eq_getElem?_getD, hi] at this
   simp at this
   omega) (by omega)
  simpa using h2
end Go.Proofs.YtcmlflppndfdcaaGreat
