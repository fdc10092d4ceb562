/- FnFiltrations: the law holds for every argument. Part 18 of 18 of the proof: LwF, LawFiltrationsRow. No condition. -/
import Derived.Test.YtgabmemalaklbaaGreatBFiltrations17
import Derived.Deep.CutRange
import Derived.Deep.LoopGhost
import Derived.Deep.CutBlock
/- The law FnFiltrations: its walk. -/
namespace Go.Proofs.YtgabmemalaklbaaGreat
set_option linter.unusedVariables false
set_option linter.unusedSimpArgs false
open Go.RowKit

/-- what the bars of the law are -/
theorem flt_law (p : Int) (F : Filt) : ∃ X B E D, frP p F = (X, B) ∧ ebQ F = (E, D) ∧ isF F = D ∧ (B = true → bfQ X = (E, true)) := by
  obtain ⟨⟨X, B⟩, hX⟩ : ∃ z, frP p F = z := ⟨_, rfl⟩
  obtain ⟨⟨E, D⟩, hE⟩ : ∃ z, ebQ F = z := ⟨_, rfl⟩
  have hD : isF F = D := by rw [← ebQ_is, hE]
  refine ⟨X, B, E, D, hX, hE, hD, fun h => ?_⟩
  have h1 := flt_bars (p := p) (q := F) (by rw [hX]; exact h)
  rw [hX, hE] at h1
  have h2 : frOk p F = true := by
    rcases h2 : frOk p F with _ | _
    · rw [frP_no h2] at hX
      injection hX with _ e
      rw [← e] at h; exact h
    · rfl
  simp only [frOk, Bool.and_eq_true] at h2
  rw [h1, ← hD, h2.2]
set_option maxHeartbeats 6400000 in
set_option maxRecDepth 100000 in
theorem fnFiltrations_any (u : Value) (l : List Int) (w0 : World) (hu : SlY w0 w0.heap.size u l) :
    Calls Tryz.prog 3 #[u] w0 fun e w' => e = .returned (.bool true) ∧ Below w0.heap.size w0 w' := by
  have HU := Lib.hid hu
  clear hu
  go_enter Tryz.func3, Tryz.ntmps3
  go_wp2_with fail
  refine (big_any u l _ HU.out).mono ?_; rintro e w1 ⟨rfl, hb1⟩
  obtain ⟨B0, hB0⟩ : ∃ B, decide ((l.length : Int) > 1048576) = B := ⟨_, rfl⟩
  rw [hB0]
  clear hB0
  have HY1 := Lib.hid (SlY.next hb1 HU.out)
  have G1 := Lib.hid hb1
  have hs1 := hb1.size
  clear HU hb1
  cases B0
  rotate_left
  · go_wp2
    go_ret
    exact ⟨rfl, G1.out⟩
  go_wp2_with fail
  refine (drawFiltrationRep_any u l _ HY1.out).mono ?_; rintro e w2 ⟨p, v, F, rfl, hp, hF2, hb2⟩
  obtain ⟨A, a2, C, d2, rfl⟩ := hF2.form
  have HY2 := SlY.next hb2 HY1.out
  have g2 := G1.out.trans (hb2.mono hs1)
  clear HY1 hb2 G1
  obtain ⟨X, B, E, D, hX, hE, hD, hbf⟩ := flt_law p F
  have HX := Lib.hid hX
  have HE := Lib.hid hE
  have HD := Lib.hid hD
  have HBF := Lib.hid hbf
  clear hX hE hD hbf
  obtain ⟨W3, hW3⟩ : ∃ z, w2.alloc (.cells #[.int .i64 F.stages, .slice A F.birth.length a2, .slice C F.ends.length d2] 27) = z := ⟨_, rfl⟩
  have ga : Below w2.heap.size w2 W3 := by rw [← hW3]; exact below_alloc _ _
  obtain ⟨gf, hgf⟩ : ∃ z, w2.heap.size = z := ⟨_, rfl⟩
  have kf : Blk W3 gf 27 #[.int .i64 F.stages, .slice A F.birth.length a2, .slice C F.ends.length d2] := by rw [← hW3, ← hgf]; exact Blk.new _ _ _
  have hY := SlY.next ga HY2
  have hF := FiR.next ga hF2
  have g := bthen g2 ga
  clear HY2 hF2 g2 ga
  have z0 := kf.cell' (i := 0) rfl
  have z1 := kf.cell' (i := 1) rfl
  have z2 := kf.cell' (i := 2) rfl
  go_wp2_with fail
  clear hW3 hgf
  refine (implFiltrationRep_any p _ F _ hp hF).mono ?_; rintro e w4 ⟨r1, rfl, hr1, hb4⟩
  rw [HX.out] at hr1 ⊢
  simp only at hr1 ⊢
  replace g := bthen g hb4
  replace hY := SlY.next hb4 hY
  replace hF := FiR.next hb4 hF
  replace kf := kf.call hb4
  replace z0 := kf.cell' (i := 0) rfl
  replace z1 := kf.cell' (i := 1) rfl
  replace z2 := kf.cell' (i := 2) rfl
  clear hb4
  have hx1 := hr1.rd
  clear hr1
  obtain ⟨A1, a1, C1, c1, E1, e1, H1, h1, rfl⟩ := hx1.form
  obtain ⟨W5, hW5⟩ : ∃ z, w4.alloc (.cells #[.int .i64 X.p, .int .i64 X.q.v, .slice A1 X.q.f.length a1, .slice C1 X.q.t.length c1, .slice E1 X.d.length e1, .slice H1 X.m.length h1] 34) = z := ⟨_, rfl⟩
  have ga : Below w4.heap.size w4 W5 := by rw [← hW5]; exact below_alloc _ _
  obtain ⟨gr, hgr⟩ : ∃ z, w4.heap.size = z := ⟨_, rfl⟩
  have kr : Blk W5 gr 34 #[.int .i64 X.p, .int .i64 X.q.v, .slice A1 X.q.f.length a1, .slice C1 X.q.t.length c1, .slice E1 X.d.length e1, .slice H1 X.m.length h1] := by rw [← hW5, ← hgr]; exact Blk.new _ _ _
  replace g := bthen g ga
  replace hY := SlY.next ga hY
  replace hF := FiR.next ga hF
  replace kf := kf.call ga
  replace z0 := kf.cell' (i := 0) rfl
  replace z1 := kf.cell' (i := 1) rfl
  replace z2 := kf.cell' (i := 2) rfl
  replace hx1 := RpR.next ga hx1
  clear ga
  go_wp2_with fail
  clear hW5 hgr
  refine (specFiltrationRep_any p _ F _ hp hF).mono ?_; rintro e w6 ⟨r2, rfl, hx2, hb6⟩
  rw [HX.out] at hx2 ⊢
  simp only at hx2 ⊢
  replace g := bthen g hb6
  replace hY := SlY.next hb6 hY
  replace hF := FiR.next hb6 hF
  replace kf := kf.call hb6
  replace z0 := kf.cell' (i := 0) rfl
  replace z1 := kf.cell' (i := 1) rfl
  replace z2 := kf.cell' (i := 2) rfl
  replace hx1 := RpR.next hb6 hx1
  replace kr := kr.call hb6
  replace y0 := kr.cell' (i := 0) rfl
  replace y1 := kr.cell' (i := 1) rfl
  replace y2 := kr.cell' (i := 2) rfl
  replace y3 := kr.cell' (i := 3) rfl
  replace y4 := kr.cell' (i := 4) rfl
  replace y5 := kr.cell' (i := 5) rfl
  clear hb6
  obtain ⟨A2', a2', C2, c2, E2, e2, H2, h2, rfl⟩ := hx2.form
  obtain ⟨W7, hW7⟩ : ∃ z, w6.alloc (.cells #[.int .i64 X.p, .int .i64 X.q.v, .slice A2' X.q.f.length a2', .slice C2 X.q.t.length c2, .slice E2 X.d.length e2, .slice H2 X.m.length h2] 34) = z := ⟨_, rfl⟩
  have ga : Below w6.heap.size w6 W7 := by rw [← hW7]; exact below_alloc _ _
  obtain ⟨gs, hgs⟩ : ∃ z, w6.heap.size = z := ⟨_, rfl⟩
  have ks : Blk W7 gs 34 #[.int .i64 X.p, .int .i64 X.q.v, .slice A2' X.q.f.length a2', .slice C2 X.q.t.length c2, .slice E2 X.d.length e2, .slice H2 X.m.length h2] := by rw [← hW7, ← hgs]; exact Blk.new _ _ _
  replace g := bthen g ga
  replace hY := SlY.next ga hY
  replace hF := FiR.next ga hF
  replace kf := kf.call ga
  replace z0 := kf.cell' (i := 0) rfl
  replace z1 := kf.cell' (i := 1) rfl
  replace z2 := kf.cell' (i := 2) rfl
  replace hx1 := RpR.next ga hx1
  replace kr := kr.call ga
  replace y0 := kr.cell' (i := 0) rfl
  replace y1 := kr.cell' (i := 1) rfl
  replace y2 := kr.cell' (i := 2) rfl
  replace y3 := kr.cell' (i := 3) rfl
  replace y4 := kr.cell' (i := 4) rfl
  replace y5 := kr.cell' (i := 5) rfl
  replace hx2 := RpR.next ga hx2
  clear ga
  have x0 := ks.cell' (i := 0) rfl
  have x1 := ks.cell' (i := 1) rfl
  have x2 := ks.cell' (i := 2) rfl
  have x3 := ks.cell' (i := 3) rfl
  have x4 := ks.cell' (i := 4) rfl
  have x5 := ks.cell' (i := 5) rfl
  go_wp2_with fail
  clear hW7 hgs
  refine (implElderBars_any _ F _ hF).mono ?_; rintro e w8 ⟨o1, rfl, ho1, hb8⟩
  rw [HE.out] at ho1 ⊢
  simp only at ho1 ⊢
  replace g := bthen g hb8
  replace hY := SlY.next hb8 hY
  replace hF := FiR.next hb8 hF
  replace kf := kf.call hb8
  replace z0 := kf.cell' (i := 0) rfl
  replace z1 := kf.cell' (i := 1) rfl
  replace z2 := kf.cell' (i := 2) rfl
  replace hx1 := RpR.next hb8 hx1
  replace kr := kr.call hb8
  replace y0 := kr.cell' (i := 0) rfl
  replace y1 := kr.cell' (i := 1) rfl
  replace y2 := kr.cell' (i := 2) rfl
  replace y3 := kr.cell' (i := 3) rfl
  replace y4 := kr.cell' (i := 4) rfl
  replace y5 := kr.cell' (i := 5) rfl
  replace hx2 := RpR.next hb8 hx2
  replace ks := ks.call hb8
  replace x0 := ks.cell' (i := 0) rfl
  replace x1 := ks.cell' (i := 1) rfl
  replace x2 := ks.cell' (i := 2) rfl
  replace x3 := ks.cell' (i := 3) rfl
  replace x4 := ks.cell' (i := 4) rfl
  replace x5 := ks.cell' (i := 5) rfl
  clear hb8
  have hl1 := ho1.rd
  clear ho1
  go_wp2_with fail
  refine (specElderBars_any _ F _ hF).mono ?_; rintro e w9 ⟨o2, rfl, ho2, hb9⟩
  rw [HE.out] at ho2 ⊢
  simp only at ho2 ⊢
  replace g := bthen g hb9
  replace hY := SlY.next hb9 hY
  replace hF := FiR.next hb9 hF
  replace kf := kf.call hb9
  replace z0 := kf.cell' (i := 0) rfl
  replace z1 := kf.cell' (i := 1) rfl
  replace z2 := kf.cell' (i := 2) rfl
  replace hx1 := RpR.next hb9 hx1
  replace kr := kr.call hb9
  replace y0 := kr.cell' (i := 0) rfl
  replace y1 := kr.cell' (i := 1) rfl
  replace y2 := kr.cell' (i := 2) rfl
  replace y3 := kr.cell' (i := 3) rfl
  replace y4 := kr.cell' (i := 4) rfl
  replace y5 := kr.cell' (i := 5) rfl
  replace hx2 := RpR.next hb9 hx2
  replace ks := ks.call hb9
  replace x0 := ks.cell' (i := 0) rfl
  replace x1 := ks.cell' (i := 1) rfl
  replace x2 := ks.cell' (i := 2) rfl
  replace x3 := ks.cell' (i := 3) rfl
  replace x4 := ks.cell' (i := 4) rfl
  replace x5 := ks.cell' (i := 5) rfl
  replace hl1 := SlB.next hb9 hl1
  clear hb9
  have hl2 := ho2.rd
  clear ho2
  have nb : (B != B) = false := by simp
  have nd : (D != D) = false := by simp
  go_wp2_with fail
  refine (specEqualReps_same _ _ X _ hx1 hx2).mono ?_; rintro e w10 ⟨rfl, hb10⟩
  replace g := bthen g hb10
  replace hY := SlY.next hb10 hY
  replace hF := FiR.next hb10 hF
  replace kf := kf.call hb10
  replace z0 := kf.cell' (i := 0) rfl
  replace z1 := kf.cell' (i := 1) rfl
  replace z2 := kf.cell' (i := 2) rfl
  replace hx1 := RpR.next hb10 hx1
  replace kr := kr.call hb10
  replace y0 := kr.cell' (i := 0) rfl
  replace y1 := kr.cell' (i := 1) rfl
  replace y2 := kr.cell' (i := 2) rfl
  replace y3 := kr.cell' (i := 3) rfl
  replace y4 := kr.cell' (i := 4) rfl
  replace y5 := kr.cell' (i := 5) rfl
  replace hx2 := RpR.next hb10 hx2
  replace ks := ks.call hb10
  replace x0 := ks.cell' (i := 0) rfl
  replace x1 := ks.cell' (i := 1) rfl
  replace x2 := ks.cell' (i := 2) rfl
  replace x3 := ks.cell' (i := 3) rfl
  replace x4 := ks.cell' (i := 4) rfl
  replace x5 := ks.cell' (i := 5) rfl
  replace hl1 := SlB.next hb10 hl1
  replace hl2 := SlB.next hb10 hl2
  clear hb10 hx1
  go_wp2_with fail
  refine (specEqualBars_any _ _ E E _ hl1 hl2).mono ?_; rintro e w11 ⟨rfl, hb11⟩
  rw [show decide (E = E) = true from decide_eq_true rfl]
  replace g := bthen g hb11
  replace hY := SlY.next hb11 hY
  replace hF := FiR.next hb11 hF
  replace kf := kf.call hb11
  replace z0 := kf.cell' (i := 0) rfl
  replace z1 := kf.cell' (i := 1) rfl
  replace z2 := kf.cell' (i := 2) rfl
  replace kr := kr.call hb11
  replace y0 := kr.cell' (i := 0) rfl
  replace y1 := kr.cell' (i := 1) rfl
  replace y2 := kr.cell' (i := 2) rfl
  replace y3 := kr.cell' (i := 3) rfl
  replace y4 := kr.cell' (i := 4) rfl
  replace y5 := kr.cell' (i := 5) rfl
  replace hx2 := RpR.next hb11 hx2
  replace ks := ks.call hb11
  replace x0 := ks.cell' (i := 0) rfl
  replace x1 := ks.cell' (i := 1) rfl
  replace x2 := ks.cell' (i := 2) rfl
  replace x3 := ks.cell' (i := 3) rfl
  replace x4 := ks.cell' (i := 4) rfl
  replace x5 := ks.cell' (i := 5) rfl
  replace hl1 := SlB.next hb11 hl1
  replace hl2 := SlB.next hb11 hl2
  clear hb11 hl1
  go_wp2_with fail
  refine (implIsFiltration_any _ F _ hF).mono ?_; rintro e w12 ⟨rfl, hb12⟩
  rw [HD.out]
  replace g := bthen g hb12
  replace hY := SlY.next hb12 hY
  replace hF := FiR.next hb12 hF
  replace kf := kf.call hb12
  replace z0 := kf.cell' (i := 0) rfl
  replace z1 := kf.cell' (i := 1) rfl
  replace z2 := kf.cell' (i := 2) rfl
  replace kr := kr.call hb12
  replace y0 := kr.cell' (i := 0) rfl
  replace y1 := kr.cell' (i := 1) rfl
  replace y2 := kr.cell' (i := 2) rfl
  replace y3 := kr.cell' (i := 3) rfl
  replace y4 := kr.cell' (i := 4) rfl
  replace y5 := kr.cell' (i := 5) rfl
  replace hx2 := RpR.next hb12 hx2
  replace ks := ks.call hb12
  replace x0 := ks.cell' (i := 0) rfl
  replace x1 := ks.cell' (i := 1) rfl
  replace x2 := ks.cell' (i := 2) rfl
  replace x3 := ks.cell' (i := 3) rfl
  replace x4 := ks.cell' (i := 4) rfl
  replace x5 := ks.cell' (i := 5) rfl
  replace hl2 := SlB.next hb12 hl2
  clear hb12 hF
  have HY := Lib.hid hY
  have HG := Lib.hid g
  have HX2 := Lib.hid hx2
  have HL2 := Lib.hid hl2
  have HS := Lib.hid ks
  clear hY g hx2 hl2
  go_upto_if 79 with fail
  go_cut [13, 14] from 80 to 92 (fun _ _ wx => SlY wx wx.heap.size u l ∧ Below w0.heap.size w0 wx)
  case first =>
    cases B
    · go_wp2
      go_meet
      case rel => exact ⟨HY.out, HG.out⟩
    · have hbf := HBF.out rfl
      have HBG := Lib.hid hbf
      clear hbf
      go_wp2_with fail
      refine (implBarsOf_any _ X _ HX2.out).mono ?_; rintro e w13 ⟨o3, rfl, ho3, hb13⟩
      rw [HBG.out] at ho3 ⊢
      simp only at ho3 ⊢
      have hl3 := ho3.rd
      clear ho3
      go_wp2_with fail
      refine (specEqualBars_any _ _ E E _ hl3 (SlB.next hb13 HL2.out)).mono ?_; rintro e w14 ⟨rfl, hb14⟩
      rw [show decide (E = E) = true from decide_eq_true rfl]
      have HYF := Lib.hid (SlY.next hb14 (SlY.next hb13 HY.out))
      have HGF := Lib.hid (bthen (bthen HG.out hb13) hb14)
      clear hb13 hb14 hl3
      go_wp2
      go_meet
      case rel => exact ⟨HYF.out, HGF.out⟩
  case rest =>
    clear HY HG HX2 HL2 HS HX HE HD HBF ks kr kf
    obtain ⟨hY, g⟩ := hcut
    obtain ⟨w0', hw0'⟩ : ∃ z, z = wc := ⟨_, rfl⟩
    subst hw0'
    go_wp2_with fail
    refine (drawComponentsAt_any u l _ hY).mono ?_; rintro e v2 ⟨v, K, t, rfl, ht, hK2, hb2⟩
    obtain ⟨R, rn, U, un, rfl⟩ := hK2.form
    replace g := bthen g hb2
    replace hY := SlY.next hb2 hY
    clear hb2
    obtain ⟨V3, hV3⟩ : ∃ z, v2.alloc (.cells #[.int .i64 K.stages, .slice R K.birth.length rn, .slice U K.ends.length un] 27) = z := ⟨_, rfl⟩
    have ga : Below v2.heap.size v2 V3 := by rw [← hV3]; exact below_alloc _ _
    obtain ⟨gg, hgg⟩ : ∃ z, v2.heap.size = z := ⟨_, rfl⟩
    have kg : Blk V3 gg 27 #[.int .i64 K.stages, .slice R K.birth.length rn, .slice U K.ends.length un] := by rw [← hV3, ← hgg]; exact Blk.new _ _ _
    have hK := FiR.next ga hK2
    replace g := bthen g ga
    replace hY := SlY.next ga hY
    clear ga hK2
    have z0 := kg.cell' (i := 0) rfl
    have z1 := kg.cell' (i := 1) rfl
    have z2 := kg.cell' (i := 2) rfl
    go_wp2_with fail
    clear hV3 hgg
    refine (implComponentsAt_any _ K t _ hK ht).mono ?_; rintro e v4 ⟨cv, rfl, hc, hb4⟩
    replace g := bthen g hb4
    replace hY := SlY.next hb4 hY
    replace hK := FiR.next hb4 hK
    replace kg := kg.call hb4
    replace z0 := kg.cell' (i := 0) rfl
    replace z1 := kg.cell' (i := 1) rfl
    replace z2 := kg.cell' (i := 2) rfl
    clear hb4
    have hcs := hc.rd
    clear hc
    go_wp2_with fail
    refine (implCyclesAt_any _ K t _ hK ht).mono ?_; rintro e v5 ⟨rfl, hb5⟩
    replace g := bthen g hb5
    replace hY := SlY.next hb5 hY
    replace hK := FiR.next hb5 hK
    replace kg := kg.call hb5
    replace z0 := kg.cell' (i := 0) rfl
    replace z1 := kg.cell' (i := 1) rfl
    replace z2 := kg.cell' (i := 2) rfl
    replace hcs := SlI.next hb5 hcs
    clear hb5
    go_wp2_with fail
    refine (drawLineOf_any u l _ hY).mono ?_; rintro e v6 ⟨k, rfl, hk, hb6⟩
    replace g := bthen g hb6
    replace hY := SlY.next hb6 hY
    replace hK := FiR.next hb6 hK
    replace kg := kg.call hb6
    replace z0 := kg.cell' (i := 0) rfl
    replace z1 := kg.cell' (i := 1) rfl
    replace z2 := kg.cell' (i := 2) rfl
    replace hcs := SlI.next hb6 hcs
    clear hb6 hY
    obtain ⟨q, hq⟩ : ∃ q, lineQ k = q := ⟨_, rfl⟩
    obtain ⟨T, hT⟩ : ∃ T, inR k 1 5 = T := ⟨_, rfl⟩
    have HQ := Lib.hid hq
    have HT := Lib.hid hT
    have HIL0 := Lib.hid (show T = true → isL q = true from fun h => by rw [← hq]; exact line_isL (by rw [hT]; exact h))
    clear hq hT
    go_wp2_with fail
    refine (implLineOf_any k _ hk).mono ?_; rintro e v7 ⟨a, rfl, ha, hb7⟩
    rw [HQ.out] at ha
    rw [HT.out]
    replace g := bthen g hb7
    replace hK := FiR.next hb7 hK
    replace kg := kg.call hb7
    replace z0 := kg.cell' (i := 0) rfl
    replace z1 := kg.cell' (i := 1) rfl
    replace z2 := kg.cell' (i := 2) rfl
    replace hcs := SlI.next hb7 hcs
    clear hb7
    have hqa := ha.rd
    clear ha
    obtain ⟨Q1, n1, S1, m1, rfl⟩ := hqa.form
    obtain ⟨V8, hV8⟩ : ∃ z, v7.alloc (.cells #[.int .i64 q.v, .slice Q1 q.f.length n1, .slice S1 q.t.length m1] 31) = z := ⟨_, rfl⟩
    have ga : Below v7.heap.size v7 V8 := by rw [← hV8]; exact below_alloc _ _
    obtain ⟨g1, hg1⟩ : ∃ z, v7.heap.size = z := ⟨_, rfl⟩
    have ka : Blk V8 g1 31 #[.int .i64 q.v, .slice Q1 q.f.length n1, .slice S1 q.t.length m1] := by rw [← hV8, ← hg1]; exact Blk.new _ _ _
    replace hqa := QvR.next ga hqa
    replace g := bthen g ga
    replace hK := FiR.next ga hK
    replace kg := kg.call ga
    replace z0 := kg.cell' (i := 0) rfl
    replace z1 := kg.cell' (i := 1) rfl
    replace z2 := kg.cell' (i := 2) rfl
    replace hcs := SlI.next ga hcs
    clear ga
    go_wp2_with fail
    clear hV8 hg1
    refine (specLineOf_any k _ hk).mono ?_; rintro e v9 ⟨b, rfl, hb_, hb9⟩
    rw [HQ.out] at hb_
    rw [HT.out]
    replace g := bthen g hb9
    replace hK := FiR.next hb9 hK
    replace kg := kg.call hb9
    replace z0 := kg.cell' (i := 0) rfl
    replace z1 := kg.cell' (i := 1) rfl
    replace z2 := kg.cell' (i := 2) rfl
    replace hcs := SlI.next hb9 hcs
    replace hqa := QvR.next hb9 hqa
    replace ka := ka.call hb9
    replace y0 := ka.cell' (i := 0) rfl
    replace y1 := ka.cell' (i := 1) rfl
    replace y2 := ka.cell' (i := 2) rfl
    clear hb9
    have hqb := hb_.rd
    clear hb_
    obtain ⟨Q2, n2, S2, m2, rfl⟩ := hqb.form
    obtain ⟨V9, hV9⟩ : ∃ z, v9.alloc (.cells #[.int .i64 q.v, .slice Q2 q.f.length n2, .slice S2 q.t.length m2] 31) = z := ⟨_, rfl⟩
    have ga : Below v9.heap.size v9 V9 := by rw [← hV9]; exact below_alloc _ _
    obtain ⟨g2, hg2⟩ : ∃ z, v9.heap.size = z := ⟨_, rfl⟩
    have kb : Blk V9 g2 31 #[.int .i64 q.v, .slice Q2 q.f.length n2, .slice S2 q.t.length m2] := by rw [← hV9, ← hg2]; exact Blk.new _ _ _
    replace hqb := QvR.next ga hqb
    replace g := bthen g ga
    replace hK := FiR.next ga hK
    replace kg := kg.call ga
    replace z0 := kg.cell' (i := 0) rfl
    replace z1 := kg.cell' (i := 1) rfl
    replace z2 := kg.cell' (i := 2) rfl
    replace hcs := SlI.next ga hcs
    replace hqa := QvR.next ga hqa
    replace ka := ka.call ga
    replace y0 := ka.cell' (i := 0) rfl
    replace y1 := ka.cell' (i := 1) rfl
    replace y2 := ka.cell' (i := 2) rfl
    clear ga
    have HG := Lib.hid g
    have HK := Lib.hid hK
    have HKG := Lib.hid kg
    have HCS := Lib.hid hcs
    have HQA := Lib.hid hqa
    have HQB := Lib.hid hqb
    have HKA := Lib.hid ka
    have HKB := Lib.hid kb
    have hcy := cycQ_nonneg K t
    clear g hK kg hcs hqa hqb ka kb z0 z1 z2 y0 y1 y2
    go_upto_region 20 with fail
    clear hV9 hg2
    cases T
    · clear HIL0
      refine wp_region_netU (by kernel_rfl) (.eq (cv) :: .eq (.agg #[.int .i64 K.stages, .slice R K.birth.length rn, .slice U K.ends.length un]) :: .eq (.int .i64 t) :: rel 3 (fun u lo hi w => SlI w w.heap.size u (compsQ K t)) :: .eq (.bool true) :: .eq (.bool true) :: .eq (.agg #[.int .i64 K.stages, .slice R K.birth.length rn, .slice U K.ends.length un]) :: .eq (.int .i64 t) :: .eq (.int .i64 (cntQ K t : Int)) :: .eq (.agg #[.int .i64 K.stages, .slice R K.birth.length rn, .slice U K.ends.length un]) :: .eq (.int .i64 t) :: .eq (.int .i64 (cntQ K t : Int)) :: .eq (.bool true) :: .eq (.bool true) :: .eq (.bool true) :: .eq (.int .i64 (cycQ K t)) :: .eq (.agg #[.int .i64 K.stages, .slice R K.birth.length rn, .slice U K.ends.length un]) :: .eq (.int .i64 t) :: .eq (.int .i64 (cycQ K t)) :: .eq (.bool true) :: .eq (.bool true) :: .eq (.bool true) :: .eq (.int .i64 (cycQ K t)) :: .eq (.bool true) :: .eq (.bool true) :: .eq (.bool true) :: .eq (.bool false) :: .eq (.bool false) :: .eq (.bool true) :: .eq (.bool true) :: .eq (.bool true) :: .eq (.agg #[.int .i64 q.v, .slice Q1 q.f.length n1, .slice S1 q.t.length m1]) :: .eq (.agg #[.int .i64 q.v, .slice Q2 q.f.length n2, .slice S2 q.t.length m2]) :: .eq (.bool true) :: .eq (.bool true) :: .eq (.bool true) :: .eq (.bool false) :: .eq (.bool true) :: .eq (.bool true) :: .eq (undef) :: .eq (undef) :: .eq (.bool true) :: .eq (.bool true) :: []) [[], [], [], [1, 2], [0, 1, 2, 3], [0, 1, 2, 3, 4], [0, 1, 2, 3, 4, 5], [0, 1, 2, 3, 4, 5], [0, 1, 2, 3, 4, 5, 6, 7], [0, 1, 2, 3, 4, 5], [0, 1, 2, 3, 4, 5], [0, 1, 2, 3, 4, 5, 6, 7, 8, 9, 10], [0, 1, 2, 3, 4, 5, 6, 7, 8, 9, 10, 11], [0, 1, 2, 3, 4, 5, 6, 7, 8, 9, 10, 11, 12], [0, 1, 2, 3, 4, 5, 6, 7, 8, 9, 10, 11, 12, 13], [0, 1, 2, 3, 4, 5, 6, 7, 8, 9, 10, 11, 12, 13, 14], [0, 1, 2, 3, 4, 5, 6, 7, 8, 9, 10, 11, 12, 13, 14], [0, 1, 2, 3, 4, 5, 6, 7, 8, 9, 10, 11, 12, 13, 14], [0, 1, 2, 3, 4, 5, 6, 7, 8, 9, 10, 11, 12, 13, 14, 16, 17], [0, 1, 2, 3, 4, 5, 6, 7, 8, 9, 10, 11, 12, 13, 14, 15, 16, 17, 18], [0, 1, 2, 3, 4, 5, 6, 7, 8, 9, 10, 11, 12, 13, 14, 15, 16, 17, 18, 19], [0, 1, 2, 3, 4, 5, 6, 7, 8, 9, 10, 11, 12, 13, 14, 15, 16, 17, 18, 19, 20], [0, 1, 2, 3, 4, 5, 6, 7, 8, 9, 10, 11, 12, 13, 14, 15, 16, 17, 18, 19, 20, 21], [0, 1, 2, 3, 4, 5, 6, 7, 8, 9, 10, 11, 12, 13, 14, 15, 16, 17, 18, 19, 20, 21, 22], [0, 1, 2, 3, 4, 5, 6, 7, 8, 9, 10, 11, 12, 13, 14, 15, 16, 17, 18, 19, 20, 21, 22, 23], [0, 1, 2, 3, 4, 5, 6, 7, 8, 9, 10, 11, 12, 13, 14, 15, 16, 17, 18, 19, 20, 21, 22, 23, 24], [0, 1, 2, 3, 4, 5, 6, 7, 8, 9, 10, 11, 12, 13, 14, 15, 16, 17, 18, 19, 20, 21, 22, 23, 24, 25], [0, 1, 2, 3, 4, 5, 6, 7, 8, 9, 10, 11, 12, 13, 14, 15, 16, 17, 18, 19, 20, 21, 22, 23, 24, 25], [0, 1, 2, 3, 4, 5, 6, 7, 8, 9, 10, 11, 12, 13, 14, 15, 16, 17, 18, 19, 20, 21, 22, 23, 24, 25, 26, 27], [0, 1, 2, 3, 4, 5, 6, 7, 8, 9, 10, 11, 12, 13, 14, 15, 16, 17, 18, 19, 20, 21, 22, 23, 24, 25, 26, 27, 28], [0, 1, 2, 3, 4, 5, 6, 7, 8, 9, 10, 11, 12, 13, 14, 15, 16, 17, 18, 19, 20, 21, 22, 23, 24, 25, 26, 27, 28, 29], [0, 1, 2, 3, 4, 5, 6, 7, 8, 9, 10, 11, 12, 13, 14, 15, 16, 17, 18, 19, 20, 21, 22, 23, 24, 25, 26, 27, 28, 29, 30], [0, 1, 2, 3, 4, 5, 6, 7, 8, 9, 10, 11, 12, 13, 14, 15, 16, 17, 18, 19, 20, 21, 22, 23, 24, 25, 26, 27, 28, 29, 30], [0, 1, 2, 3, 4, 5, 6, 7, 8, 9, 10, 11, 12, 13, 14, 15, 16, 17, 18, 19, 20, 21, 22, 23, 24, 25, 26, 27, 28, 29, 30, 31, 32], [0, 1, 2, 3, 4, 5, 6, 7, 8, 9, 10, 11, 12, 13, 14, 15, 16, 17, 18, 19, 20, 21, 22, 23, 24, 25, 26, 27, 28, 29, 30, 31, 32, 33], [0, 1, 2, 3, 4, 5, 6, 7, 8, 9, 10, 11, 12, 13, 14, 15, 16, 17, 18, 19, 20, 21, 22, 23, 24, 25, 26, 27, 28, 29, 30, 31, 32, 33, 34], [0, 1, 2, 3, 4, 5, 6, 7, 8, 9, 10, 11, 12, 13, 14, 15, 16, 17, 18, 19, 20, 21, 22, 23, 24, 25, 26, 27, 28, 29, 30, 31, 32, 33, 34, 35], [0, 1, 2, 3, 4, 5, 6, 7, 8, 9, 10, 11, 12, 13, 14, 15, 16, 17, 18, 19, 20, 21, 22, 23, 24, 25, 26, 27, 28, 29, 30, 31, 32, 33, 34, 35, 36], [0, 1, 2, 3, 4, 5, 6, 7, 8, 9, 10, 11, 12, 13, 14, 15, 16, 17, 18, 19, 20, 21, 22, 23, 24, 25, 26, 27, 28, 29, 30, 31, 32, 33, 34, 35, 36, 37], [0, 1, 2, 3, 4, 5, 6, 7, 8, 9, 10, 11, 12, 13, 14, 15, 16, 17, 18, 19, 20, 21, 22, 23, 24, 25, 26, 27, 28, 29, 30, 31, 32, 33, 34, 35, 36, 37, 38], [0, 1, 2, 3, 4, 5, 6, 7, 8, 9, 10, 11, 12, 13, 14, 15, 16, 17, 18, 19, 20, 21, 22, 23, 24, 25, 26, 27, 28, 29, 30, 31, 32, 33, 34, 35, 36, 37, 38, 39], [0, 1, 2, 3, 4, 5, 6, 7, 8, 9, 10, 11, 12, 13, 14, 15, 16, 17, 18, 19, 20, 21, 22, 23, 24, 25, 26, 27, 28, 29, 30, 31, 32, 33, 34, 35, 36, 37, 38, 39, 40], [0, 1, 2, 3, 4, 5, 6, 7, 8, 9, 10, 11, 12, 13, 14, 15, 16, 17, 18, 19, 20, 21, 22, 23, 24, 25, 26, 27, 28, 29, 30, 31, 32, 33, 34, 35, 36, 37, 38, 39, 40, 41], [0, 1, 2, 3, 4, 5, 6, 7, 8, 9, 10, 11, 12, 13, 14, 15, 16, 17, 18, 19, 20, 21, 22, 23, 24, 25, 26, 27, 28, 29, 30, 31, 32, 33, 34, 35, 36, 37, 38, 39, 40, 41, 42]] 43 (by kernel_rfl) ⟨trivial, trivial, trivial, rel_stable (fun u lo hi w w' h hb => SlI.next hb h), trivial, trivial, trivial, trivial, trivial, trivial, trivial, trivial, trivial, trivial, trivial, trivial, trivial, trivial, trivial, trivial, trivial, trivial, trivial, trivial, trivial, trivial, trivial, trivial, trivial, trivial, trivial, trivial, trivial, trivial, trivial, trivial, trivial, trivial, trivial, trivial, trivial, trivial, trivial, trivial⟩ ⟨?_, ?_, ?_, ?_, ?_, ?_, ?_, ?_, ?_, ?_, ?_, ?_, ?_, ?_, ?_, ?_, ?_, ?_, ?_, ?_, ?_, ?_, ?_, ?_, ?_, ?_, ?_, ?_, ?_, ?_, ?_, ?_, ?_, ?_, ?_, ?_, ?_, ?_, ?_, ?_, ?_, ?_, ?_, trivial⟩ ?_
      · intro x w hb hk Q' hQ
        clear hk
        simp only [netAct, dstAt, List.getElem?_toArray, List.getElem?_cons_zero, List.getElem?_cons_succ, Option.bind_some, Act.put, List.setIfInBounds_toArray, List.set_cons_zero, List.set_cons_succ] at hQ ⊢
        go_wp2
        exact hQ (cv) _ (Below.refl _ _) rfl
      · intro x w hb hk Q' hQ
        clear hk
        simp only [netAct, dstAt, List.getElem?_toArray, List.getElem?_cons_zero, List.getElem?_cons_succ, Option.bind_some, Act.put, List.setIfInBounds_toArray, List.set_cons_zero, List.set_cons_succ] at hQ ⊢
        have z0 := (HKG.out.call hb).cell' (i := 0) rfl
        have z1 := (HKG.out.call hb).cell' (i := 1) rfl
        have z2 := (HKG.out.call hb).cell' (i := 2) rfl
        go_wp2
        exact hQ (.agg #[.int .i64 K.stages, .slice R K.birth.length rn, .slice U K.ends.length un]) _ (Below.refl _ _) rfl
      · intro x w hb hk Q' hQ
        clear hk
        simp only [netAct, dstAt, List.getElem?_toArray, List.getElem?_cons_zero, List.getElem?_cons_succ, Option.bind_some, Act.put, List.setIfInBounds_toArray, List.set_cons_zero, List.set_cons_succ] at hQ ⊢
        go_wp2
        exact hQ (.int .i64 t) _ (Below.refl _ _) rfl
      · intro x w hb hk Q' hQ
        have h1 : x.v 1 = .agg #[.int .i64 K.stages, .slice R K.birth.length rn, .slice U K.ends.length un] := (hk 1 (by decide)).1
        have h2 : x.v 2 = .int .i64 t := (hk 2 (by decide)).1
        clear hk
        simp only [netAct, dstAt, List.getElem?_toArray, List.getElem?_cons_zero, List.getElem?_cons_succ, Option.bind_some, Act.put, List.setIfInBounds_toArray, List.set_cons_zero, List.set_cons_succ] at hQ ⊢
        simp only [h1, h2] at hQ ⊢
        clear h1 h2
        go_wp2_with fail
        refine (specComponentsAt_any _ K t _ (FiR.next hb HK.out) ht).mono ?_; rintro e w8 ⟨o, rfl, ho, hb8⟩
        go_wp2
        exact hQ _ _ hb8 ho.rd
      · intro x w hb hk Q' hQ
        have h0 : x.v 0 = cv := (hk 0 (by decide)).1
        have h3 : SlI w w.heap.size (x.v 3) (compsQ K t) := (hk 3 (by decide)).1
        clear hk
        simp only [netAct, dstAt, List.getElem?_toArray, List.getElem?_cons_zero, List.getElem?_cons_succ, Option.bind_some, Act.put, List.setIfInBounds_toArray, List.set_cons_zero, List.set_cons_succ] at hQ ⊢
        simp only [h0] at hQ ⊢
        clear h0
        go_wp2_with fail
        refine (sameI_any _ _ (compsQ K t) _ (SlI.next hb HCS.out) h3).mono ?_; rintro e w8 ⟨rfl, hb8⟩
        go_wp2
        exact hQ _ _ hb8 rfl
      · intro x w hb hk Q' hQ
        have h4 : x.v 4 = .bool true := (hk 4 (by decide)).1
        clear hk
        simp only [netAct, dstAt, List.getElem?_toArray, List.getElem?_cons_zero, List.getElem?_cons_succ, Option.bind_some, Act.put, List.setIfInBounds_toArray, List.set_cons_zero, List.set_cons_succ] at hQ ⊢
        simp only [h4] at hQ ⊢
        clear h4
        go_wp2
        exact hQ (.bool true) _ (Below.refl _ _) rfl
      · intro x w hb hk Q' hQ
        have h5 : x.v 5 = .bool true := (hk 5 (by decide)).1
        clear hk
        simp only [netAct, dstAt, List.getElem?_toArray, List.getElem?_cons_zero, List.getElem?_cons_succ, Option.bind_some, Act.put, List.setIfInBounds_toArray, List.set_cons_zero, List.set_cons_succ] at hQ ⊢
        simp only [h5] at hQ ⊢
        clear h5
        have z0 := (HKG.out.call hb).cell' (i := 0) rfl
        have z1 := (HKG.out.call hb).cell' (i := 1) rfl
        have z2 := (HKG.out.call hb).cell' (i := 2) rfl
        go_wp2
        exact hQ (.agg #[.int .i64 K.stages, .slice R K.birth.length rn, .slice U K.ends.length un]) _ (Below.refl _ _) rfl
      · intro x w hb hk Q' hQ
        have h5 : x.v 5 = .bool true := (hk 5 (by decide)).1
        clear hk
        simp only [netAct, dstAt, List.getElem?_toArray, List.getElem?_cons_zero, List.getElem?_cons_succ, Option.bind_some, Act.put, List.setIfInBounds_toArray, List.set_cons_zero, List.set_cons_succ] at hQ ⊢
        simp only [h5] at hQ ⊢
        clear h5
        go_wp2
        exact hQ (.int .i64 t) _ (Below.refl _ _) rfl
      · intro x w hb hk Q' hQ
        have h5 : x.v 5 = .bool true := (hk 5 (by decide)).1
        have h6 : x.v 6 = .agg #[.int .i64 K.stages, .slice R K.birth.length rn, .slice U K.ends.length un] := (hk 6 (by decide)).1
        have h7 : x.v 7 = .int .i64 t := (hk 7 (by decide)).1
        clear hk
        simp only [netAct, dstAt, List.getElem?_toArray, List.getElem?_cons_zero, List.getElem?_cons_succ, Option.bind_some, Act.put, List.setIfInBounds_toArray, List.set_cons_zero, List.set_cons_succ] at hQ ⊢
        simp only [h5, h6, h7] at hQ ⊢
        clear h5 h6 h7
        go_wp2_with fail
        refine (implCountComponents_any _ K t _ (FiR.next hb HK.out) ht).mono ?_; rintro e w8 ⟨rfl, hb8⟩
        go_wp2
        exact hQ _ _ hb8 rfl
      · intro x w hb hk Q' hQ
        have h5 : x.v 5 = .bool true := (hk 5 (by decide)).1
        clear hk
        simp only [netAct, dstAt, List.getElem?_toArray, List.getElem?_cons_zero, List.getElem?_cons_succ, Option.bind_some, Act.put, List.setIfInBounds_toArray, List.set_cons_zero, List.set_cons_succ] at hQ ⊢
        simp only [h5] at hQ ⊢
        clear h5
        have z0 := (HKG.out.call hb).cell' (i := 0) rfl
        have z1 := (HKG.out.call hb).cell' (i := 1) rfl
        have z2 := (HKG.out.call hb).cell' (i := 2) rfl
        go_wp2
        exact hQ (.agg #[.int .i64 K.stages, .slice R K.birth.length rn, .slice U K.ends.length un]) _ (Below.refl _ _) rfl
      · intro x w hb hk Q' hQ
        have h5 : x.v 5 = .bool true := (hk 5 (by decide)).1
        clear hk
        simp only [netAct, dstAt, List.getElem?_toArray, List.getElem?_cons_zero, List.getElem?_cons_succ, Option.bind_some, Act.put, List.setIfInBounds_toArray, List.set_cons_zero, List.set_cons_succ] at hQ ⊢
        simp only [h5] at hQ ⊢
        clear h5
        go_wp2
        exact hQ (.int .i64 t) _ (Below.refl _ _) rfl
      · intro x w hb hk Q' hQ
        have h5 : x.v 5 = .bool true := (hk 5 (by decide)).1
        have h9 : x.v 9 = .agg #[.int .i64 K.stages, .slice R K.birth.length rn, .slice U K.ends.length un] := (hk 9 (by decide)).1
        have h10 : x.v 10 = .int .i64 t := (hk 10 (by decide)).1
        clear hk
        simp only [netAct, dstAt, List.getElem?_toArray, List.getElem?_cons_zero, List.getElem?_cons_succ, Option.bind_some, Act.put, List.setIfInBounds_toArray, List.set_cons_zero, List.set_cons_succ] at hQ ⊢
        simp only [h5, h9, h10] at hQ ⊢
        clear h5 h9 h10
        go_wp2_with fail
        refine (specCountComponents_any _ K t _ (FiR.next hb HK.out) ht).mono ?_; rintro e w8 ⟨rfl, hb8⟩
        go_wp2
        exact hQ _ _ hb8 rfl
      · intro x w hb hk Q' hQ
        have h5 : x.v 5 = .bool true := (hk 5 (by decide)).1
        have h8 : x.v 8 = .int .i64 (cntQ K t : Int) := (hk 8 (by decide)).1
        have h11 : x.v 11 = .int .i64 (cntQ K t : Int) := (hk 11 (by decide)).1
        clear hk
        simp only [netAct, dstAt, List.getElem?_toArray, List.getElem?_cons_zero, List.getElem?_cons_succ, Option.bind_some, Act.put, List.setIfInBounds_toArray, List.set_cons_zero, List.set_cons_succ] at hQ ⊢
        simp only [h5, h8, h11] at hQ ⊢
        clear h5 h8 h11
        have e1 : (((cntQ K t : Nat) : Int) == (cntQ K t : Nat)) = true := by simp
        go_wp2
        exact hQ (.bool true) _ (Below.refl _ _) rfl
      · intro x w hb hk Q' hQ
        have h5 : x.v 5 = .bool true := (hk 5 (by decide)).1
        have h12 : x.v 12 = .bool true := (hk 12 (by decide)).1
        clear hk
        simp only [netAct, dstAt, List.getElem?_toArray, List.getElem?_cons_zero, List.getElem?_cons_succ, Option.bind_some, Act.put, List.setIfInBounds_toArray, List.set_cons_zero, List.set_cons_succ] at hQ ⊢
        simp only [h5, h12] at hQ ⊢
        clear h5 h12
        go_wp2
        exact hQ (.bool true) _ (Below.refl _ _) rfl
      · intro x w hb hk Q' hQ
        have h13 : x.v 13 = .bool true := (hk 13 (by decide)).1
        clear hk
        simp only [netAct, dstAt, List.getElem?_toArray, List.getElem?_cons_zero, List.getElem?_cons_succ, Option.bind_some, Act.put, List.setIfInBounds_toArray, List.set_cons_zero, List.set_cons_succ] at hQ ⊢
        simp only [h13] at hQ ⊢
        clear h13
        go_wp2
        exact hQ (.bool true) _ (Below.refl _ _) rfl
      · intro x w hb hk Q' hQ
        have h14 : x.v 14 = .bool true := (hk 14 (by decide)).1
        clear hk
        simp only [netAct, dstAt, List.getElem?_toArray, List.getElem?_cons_zero, List.getElem?_cons_succ, Option.bind_some, Act.put, List.setIfInBounds_toArray, List.set_cons_zero, List.set_cons_succ] at hQ ⊢
        simp only [h14] at hQ ⊢
        clear h14
        go_wp2
        exact hQ (.int .i64 (cycQ K t)) _ (Below.refl _ _) rfl
      · intro x w hb hk Q' hQ
        have h14 : x.v 14 = .bool true := (hk 14 (by decide)).1
        clear hk
        simp only [netAct, dstAt, List.getElem?_toArray, List.getElem?_cons_zero, List.getElem?_cons_succ, Option.bind_some, Act.put, List.setIfInBounds_toArray, List.set_cons_zero, List.set_cons_succ] at hQ ⊢
        simp only [h14] at hQ ⊢
        clear h14
        have z0 := (HKG.out.call hb).cell' (i := 0) rfl
        have z1 := (HKG.out.call hb).cell' (i := 1) rfl
        have z2 := (HKG.out.call hb).cell' (i := 2) rfl
        go_wp2
        exact hQ (.agg #[.int .i64 K.stages, .slice R K.birth.length rn, .slice U K.ends.length un]) _ (Below.refl _ _) rfl
      · intro x w hb hk Q' hQ
        have h14 : x.v 14 = .bool true := (hk 14 (by decide)).1
        clear hk
        simp only [netAct, dstAt, List.getElem?_toArray, List.getElem?_cons_zero, List.getElem?_cons_succ, Option.bind_some, Act.put, List.setIfInBounds_toArray, List.set_cons_zero, List.set_cons_succ] at hQ ⊢
        simp only [h14] at hQ ⊢
        clear h14
        go_wp2
        exact hQ (.int .i64 t) _ (Below.refl _ _) rfl
      · intro x w hb hk Q' hQ
        have h14 : x.v 14 = .bool true := (hk 14 (by decide)).1
        have h16 : x.v 16 = .agg #[.int .i64 K.stages, .slice R K.birth.length rn, .slice U K.ends.length un] := (hk 16 (by decide)).1
        have h17 : x.v 17 = .int .i64 t := (hk 17 (by decide)).1
        clear hk
        simp only [netAct, dstAt, List.getElem?_toArray, List.getElem?_cons_zero, List.getElem?_cons_succ, Option.bind_some, Act.put, List.setIfInBounds_toArray, List.set_cons_zero, List.set_cons_succ] at hQ ⊢
        simp only [h14, h16, h17] at hQ ⊢
        clear h14 h16 h17
        go_wp2_with fail
        refine (specCyclesAt_any _ K t _ (FiR.next hb HK.out) ht).mono ?_; rintro e w8 ⟨rfl, hb8⟩
        go_wp2
        exact hQ _ _ hb8 rfl
      · intro x w hb hk Q' hQ
        have h14 : x.v 14 = .bool true := (hk 14 (by decide)).1
        have h15 : x.v 15 = .int .i64 (cycQ K t) := (hk 15 (by decide)).1
        have h18 : x.v 18 = .int .i64 (cycQ K t) := (hk 18 (by decide)).1
        clear hk
        simp only [netAct, dstAt, List.getElem?_toArray, List.getElem?_cons_zero, List.getElem?_cons_succ, Option.bind_some, Act.put, List.setIfInBounds_toArray, List.set_cons_zero, List.set_cons_succ] at hQ ⊢
        simp only [h14, h15, h18] at hQ ⊢
        clear h14 h15 h18
        have e1 : (cycQ K t == cycQ K t) = true := by simp
        go_wp2
        exact hQ (.bool true) _ (Below.refl _ _) rfl
      · intro x w hb hk Q' hQ
        have h14 : x.v 14 = .bool true := (hk 14 (by decide)).1
        have h19 : x.v 19 = .bool true := (hk 19 (by decide)).1
        clear hk
        simp only [netAct, dstAt, List.getElem?_toArray, List.getElem?_cons_zero, List.getElem?_cons_succ, Option.bind_some, Act.put, List.setIfInBounds_toArray, List.set_cons_zero, List.set_cons_succ] at hQ ⊢
        simp only [h14, h19] at hQ ⊢
        clear h14 h19
        go_wp2
        exact hQ (.bool true) _ (Below.refl _ _) rfl
      · intro x w hb hk Q' hQ
        have h20 : x.v 20 = .bool true := (hk 20 (by decide)).1
        clear hk
        simp only [netAct, dstAt, List.getElem?_toArray, List.getElem?_cons_zero, List.getElem?_cons_succ, Option.bind_some, Act.put, List.setIfInBounds_toArray, List.set_cons_zero, List.set_cons_succ] at hQ ⊢
        simp only [h20] at hQ ⊢
        clear h20
        go_wp2
        exact hQ (.bool true) _ (Below.refl _ _) rfl
      · intro x w hb hk Q' hQ
        have h21 : x.v 21 = .bool true := (hk 21 (by decide)).1
        clear hk
        simp only [netAct, dstAt, List.getElem?_toArray, List.getElem?_cons_zero, List.getElem?_cons_succ, Option.bind_some, Act.put, List.setIfInBounds_toArray, List.set_cons_zero, List.set_cons_succ] at hQ ⊢
        simp only [h21] at hQ ⊢
        clear h21
        go_wp2
        exact hQ (.int .i64 (cycQ K t)) _ (Below.refl _ _) rfl
      · intro x w hb hk Q' hQ
        have h21 : x.v 21 = .bool true := (hk 21 (by decide)).1
        have h22 : x.v 22 = .int .i64 (cycQ K t) := (hk 22 (by decide)).1
        clear hk
        simp only [netAct, dstAt, List.getElem?_toArray, List.getElem?_cons_zero, List.getElem?_cons_succ, Option.bind_some, Act.put, List.setIfInBounds_toArray, List.set_cons_zero, List.set_cons_succ] at hQ ⊢
        simp only [h21, h22] at hQ ⊢
        clear h21 h22
        have e1 := hcy
        go_wp2
        exact hQ (.bool true) _ (Below.refl _ _) rfl
      · intro x w hb hk Q' hQ
        have h21 : x.v 21 = .bool true := (hk 21 (by decide)).1
        have h23 : x.v 23 = .bool true := (hk 23 (by decide)).1
        clear hk
        simp only [netAct, dstAt, List.getElem?_toArray, List.getElem?_cons_zero, List.getElem?_cons_succ, Option.bind_some, Act.put, List.setIfInBounds_toArray, List.set_cons_zero, List.set_cons_succ] at hQ ⊢
        simp only [h21, h23] at hQ ⊢
        clear h21 h23
        go_wp2
        exact hQ (.bool true) _ (Below.refl _ _) rfl
      · intro x w hb hk Q' hQ
        have h24 : x.v 24 = .bool true := (hk 24 (by decide)).1
        clear hk
        simp only [netAct, dstAt, List.getElem?_toArray, List.getElem?_cons_zero, List.getElem?_cons_succ, Option.bind_some, Act.put, List.setIfInBounds_toArray, List.set_cons_zero, List.set_cons_succ] at hQ ⊢
        simp only [h24] at hQ ⊢
        clear h24
        go_wp2
        exact hQ (.bool true) _ (Below.refl _ _) rfl
      · intro x w hb hk Q' hQ
        have h25 : x.v 25 = .bool true := (hk 25 (by decide)).1
        clear hk
        simp only [netAct, dstAt, List.getElem?_toArray, List.getElem?_cons_zero, List.getElem?_cons_succ, Option.bind_some, Act.put, List.setIfInBounds_toArray, List.set_cons_zero, List.set_cons_succ] at hQ ⊢
        simp only [h25] at hQ ⊢
        clear h25
        go_wp2
        exact hQ (.bool false) _ (Below.refl _ _) rfl
      · intro x w hb hk Q' hQ
        have h25 : x.v 25 = .bool true := (hk 25 (by decide)).1
        clear hk
        simp only [netAct, dstAt, List.getElem?_toArray, List.getElem?_cons_zero, List.getElem?_cons_succ, Option.bind_some, Act.put, List.setIfInBounds_toArray, List.set_cons_zero, List.set_cons_succ] at hQ ⊢
        simp only [h25] at hQ ⊢
        clear h25
        go_wp2
        exact hQ (.bool false) _ (Below.refl _ _) rfl
      · intro x w hb hk Q' hQ
        have h25 : x.v 25 = .bool true := (hk 25 (by decide)).1
        have h26 : x.v 26 = .bool false := (hk 26 (by decide)).1
        have h27 : x.v 27 = .bool false := (hk 27 (by decide)).1
        clear hk
        simp only [netAct, dstAt, List.getElem?_toArray, List.getElem?_cons_zero, List.getElem?_cons_succ, Option.bind_some, Act.put, List.setIfInBounds_toArray, List.set_cons_zero, List.set_cons_succ] at hQ ⊢
        simp only [h25, h26, h27] at hQ ⊢
        clear h25 h26 h27
        go_wp2
        exact hQ (.bool true) _ (Below.refl _ _) rfl
      · intro x w hb hk Q' hQ
        have h25 : x.v 25 = .bool true := (hk 25 (by decide)).1
        have h28 : x.v 28 = .bool true := (hk 28 (by decide)).1
        clear hk
        simp only [netAct, dstAt, List.getElem?_toArray, List.getElem?_cons_zero, List.getElem?_cons_succ, Option.bind_some, Act.put, List.setIfInBounds_toArray, List.set_cons_zero, List.set_cons_succ] at hQ ⊢
        simp only [h25, h28] at hQ ⊢
        clear h25 h28
        go_wp2
        exact hQ (.bool true) _ (Below.refl _ _) rfl
      · intro x w hb hk Q' hQ
        have h29 : x.v 29 = .bool true := (hk 29 (by decide)).1
        clear hk
        simp only [netAct, dstAt, List.getElem?_toArray, List.getElem?_cons_zero, List.getElem?_cons_succ, Option.bind_some, Act.put, List.setIfInBounds_toArray, List.set_cons_zero, List.set_cons_succ] at hQ ⊢
        simp only [h29] at hQ ⊢
        clear h29
        go_wp2
        exact hQ (.bool true) _ (Below.refl _ _) rfl
      · intro x w hb hk Q' hQ
        have h30 : x.v 30 = .bool true := (hk 30 (by decide)).1
        clear hk
        simp only [netAct, dstAt, List.getElem?_toArray, List.getElem?_cons_zero, List.getElem?_cons_succ, Option.bind_some, Act.put, List.setIfInBounds_toArray, List.set_cons_zero, List.set_cons_succ] at hQ ⊢
        simp only [h30] at hQ ⊢
        clear h30
        have z0 := (HKA.out.call hb).cell' (i := 0) rfl
        have z1 := (HKA.out.call hb).cell' (i := 1) rfl
        have z2 := (HKA.out.call hb).cell' (i := 2) rfl
        go_wp2
        exact hQ (.agg #[.int .i64 q.v, .slice Q1 q.f.length n1, .slice S1 q.t.length m1]) _ (Below.refl _ _) rfl
      · intro x w hb hk Q' hQ
        have h30 : x.v 30 = .bool true := (hk 30 (by decide)).1
        clear hk
        simp only [netAct, dstAt, List.getElem?_toArray, List.getElem?_cons_zero, List.getElem?_cons_succ, Option.bind_some, Act.put, List.setIfInBounds_toArray, List.set_cons_zero, List.set_cons_succ] at hQ ⊢
        simp only [h30] at hQ ⊢
        clear h30
        have z0 := (HKB.out.call hb).cell' (i := 0) rfl
        have z1 := (HKB.out.call hb).cell' (i := 1) rfl
        have z2 := (HKB.out.call hb).cell' (i := 2) rfl
        go_wp2
        exact hQ (.agg #[.int .i64 q.v, .slice Q2 q.f.length n2, .slice S2 q.t.length m2]) _ (Below.refl _ _) rfl
      · intro x w hb hk Q' hQ
        have h30 : x.v 30 = .bool true := (hk 30 (by decide)).1
        have h31 : x.v 31 = .agg #[.int .i64 q.v, .slice Q1 q.f.length n1, .slice S1 q.t.length m1] := (hk 31 (by decide)).1
        have h32 : x.v 32 = .agg #[.int .i64 q.v, .slice Q2 q.f.length n2, .slice S2 q.t.length m2] := (hk 32 (by decide)).1
        clear hk
        simp only [netAct, dstAt, List.getElem?_toArray, List.getElem?_cons_zero, List.getElem?_cons_succ, Option.bind_some, Act.put, List.setIfInBounds_toArray, List.set_cons_zero, List.set_cons_succ] at hQ ⊢
        simp only [h30, h31, h32] at hQ ⊢
        clear h30 h31 h32
        go_wp2_with fail
        refine (specEqualQuivers_any _ _ q q _ (QvR.next hb HQA.out) (QvR.next hb HQB.out)).mono ?_; rintro e w8 ⟨rfl, hb8⟩
        rw [show decide (q = q) = true from decide_eq_true rfl]
        go_wp2
        exact hQ _ _ hb8 rfl
      · intro x w hb hk Q' hQ
        have h30 : x.v 30 = .bool true := (hk 30 (by decide)).1
        have h33 : x.v 33 = .bool true := (hk 33 (by decide)).1
        clear hk
        simp only [netAct, dstAt, List.getElem?_toArray, List.getElem?_cons_zero, List.getElem?_cons_succ, Option.bind_some, Act.put, List.setIfInBounds_toArray, List.set_cons_zero, List.set_cons_succ] at hQ ⊢
        simp only [h30, h33] at hQ ⊢
        clear h30 h33
        go_wp2
        exact hQ (.bool true) _ (Below.refl _ _) rfl
      · intro x w hb hk Q' hQ
        have h34 : x.v 34 = .bool true := (hk 34 (by decide)).1
        clear hk
        simp only [netAct, dstAt, List.getElem?_toArray, List.getElem?_cons_zero, List.getElem?_cons_succ, Option.bind_some, Act.put, List.setIfInBounds_toArray, List.set_cons_zero, List.set_cons_succ] at hQ ⊢
        simp only [h34] at hQ ⊢
        clear h34
        go_wp2
        exact hQ (.bool true) _ (Below.refl _ _) rfl
      · intro x w hb hk Q' hQ
        have h35 : x.v 35 = .bool true := (hk 35 (by decide)).1
        clear hk
        simp only [netAct, dstAt, List.getElem?_toArray, List.getElem?_cons_zero, List.getElem?_cons_succ, Option.bind_some, Act.put, List.setIfInBounds_toArray, List.set_cons_zero, List.set_cons_succ] at hQ ⊢
        simp only [h35] at hQ ⊢
        clear h35
        go_wp2
        exact hQ (.bool false) _ (Below.refl _ _) rfl
      · intro x w hb hk Q' hQ
        have h35 : x.v 35 = .bool true := (hk 35 (by decide)).1
        have h36 : x.v 36 = .bool false := (hk 36 (by decide)).1
        clear hk
        simp only [netAct, dstAt, List.getElem?_toArray, List.getElem?_cons_zero, List.getElem?_cons_succ, Option.bind_some, Act.put, List.setIfInBounds_toArray, List.set_cons_zero, List.set_cons_succ] at hQ ⊢
        simp only [h35, h36] at hQ ⊢
        clear h35 h36
        go_wp2
        exact hQ (.bool true) _ (Below.refl _ _) rfl
      · intro x w hb hk Q' hQ
        have h35 : x.v 35 = .bool true := (hk 35 (by decide)).1
        have h37 : x.v 37 = .bool true := (hk 37 (by decide)).1
        clear hk
        simp only [netAct, dstAt, List.getElem?_toArray, List.getElem?_cons_zero, List.getElem?_cons_succ, Option.bind_some, Act.put, List.setIfInBounds_toArray, List.set_cons_zero, List.set_cons_succ] at hQ ⊢
        simp only [h35, h37] at hQ ⊢
        clear h35 h37
        go_wp2
        exact hQ (.bool true) _ (Below.refl _ _) rfl
      · intro x w hb hk Q' hQ
        have h38 : x.v 38 = .bool true := (hk 38 (by decide)).1
        clear hk
        simp only [netAct, dstAt, List.getElem?_toArray, List.getElem?_cons_zero, List.getElem?_cons_succ, Option.bind_some, Act.put, List.setIfInBounds_toArray, List.set_cons_zero, List.set_cons_succ] at hQ ⊢
        simp only [h38] at hQ ⊢
        clear h38
        go_wp2
        exact hQ (undef) _ (Below.refl _ _) rfl
      · intro x w hb hk Q' hQ
        have h38 : x.v 38 = .bool true := (hk 38 (by decide)).1
        have h39 : x.v 39 = undef := (hk 39 (by decide)).1
        clear hk
        simp only [netAct, dstAt, List.getElem?_toArray, List.getElem?_cons_zero, List.getElem?_cons_succ, Option.bind_some, Act.put, List.setIfInBounds_toArray, List.set_cons_zero, List.set_cons_succ] at hQ ⊢
        simp only [h38, h39] at hQ ⊢
        clear h38 h39
        go_wp2
        exact hQ (undef) _ (Below.refl _ _) rfl
      · intro x w hb hk Q' hQ
        have h35 : x.v 35 = .bool true := (hk 35 (by decide)).1
        have h38 : x.v 38 = .bool true := (hk 38 (by decide)).1
        have h40 : x.v 40 = undef := (hk 40 (by decide)).1
        clear hk
        simp only [netAct, dstAt, List.getElem?_toArray, List.getElem?_cons_zero, List.getElem?_cons_succ, Option.bind_some, Act.put, List.setIfInBounds_toArray, List.set_cons_zero, List.set_cons_succ] at hQ ⊢
        simp only [h35, h38, h40] at hQ ⊢
        clear h35 h38 h40
        go_wp2
        exact hQ (.bool true) _ (Below.refl _ _) rfl
      · intro x w hb hk Q' hQ
        have h35 : x.v 35 = .bool true := (hk 35 (by decide)).1
        have h41 : x.v 41 = .bool true := (hk 41 (by decide)).1
        clear hk
        simp only [netAct, dstAt, List.getElem?_toArray, List.getElem?_cons_zero, List.getElem?_cons_succ, Option.bind_some, Act.put, List.setIfInBounds_toArray, List.set_cons_zero, List.set_cons_succ] at hQ ⊢
        simp only [h35, h41] at hQ ⊢
        clear h35 h41
        go_wp2
        exact hQ (.bool true) _ (Below.refl _ _) rfl
      · intro x w hb hk hiv hdj
        have h0 : x.v 0 = cv := hk 0 (by decide)
        have h1 : x.v 1 = .agg #[.int .i64 K.stages, .slice R K.birth.length rn, .slice U K.ends.length un] := hk 1 (by decide)
        have h2 : x.v 2 = .int .i64 t := hk 2 (by decide)
        have h3 : SlI w w.heap.size (x.v 3) (compsQ K t) := hk 3 (by decide)
        have h4 : x.v 4 = .bool true := hk 4 (by decide)
        have h5 : x.v 5 = .bool true := hk 5 (by decide)
        have h6 : x.v 6 = .agg #[.int .i64 K.stages, .slice R K.birth.length rn, .slice U K.ends.length un] := hk 6 (by decide)
        have h7 : x.v 7 = .int .i64 t := hk 7 (by decide)
        have h8 : x.v 8 = .int .i64 (cntQ K t : Int) := hk 8 (by decide)
        have h9 : x.v 9 = .agg #[.int .i64 K.stages, .slice R K.birth.length rn, .slice U K.ends.length un] := hk 9 (by decide)
        have h10 : x.v 10 = .int .i64 t := hk 10 (by decide)
        have h11 : x.v 11 = .int .i64 (cntQ K t : Int) := hk 11 (by decide)
        have h12 : x.v 12 = .bool true := hk 12 (by decide)
        have h13 : x.v 13 = .bool true := hk 13 (by decide)
        have h14 : x.v 14 = .bool true := hk 14 (by decide)
        have h15 : x.v 15 = .int .i64 (cycQ K t) := hk 15 (by decide)
        have h16 : x.v 16 = .agg #[.int .i64 K.stages, .slice R K.birth.length rn, .slice U K.ends.length un] := hk 16 (by decide)
        have h17 : x.v 17 = .int .i64 t := hk 17 (by decide)
        have h18 : x.v 18 = .int .i64 (cycQ K t) := hk 18 (by decide)
        have h19 : x.v 19 = .bool true := hk 19 (by decide)
        have h20 : x.v 20 = .bool true := hk 20 (by decide)
        have h21 : x.v 21 = .bool true := hk 21 (by decide)
        have h22 : x.v 22 = .int .i64 (cycQ K t) := hk 22 (by decide)
        have h23 : x.v 23 = .bool true := hk 23 (by decide)
        have h24 : x.v 24 = .bool true := hk 24 (by decide)
        have h25 : x.v 25 = .bool true := hk 25 (by decide)
        have h26 : x.v 26 = .bool false := hk 26 (by decide)
        have h27 : x.v 27 = .bool false := hk 27 (by decide)
        have h28 : x.v 28 = .bool true := hk 28 (by decide)
        have h29 : x.v 29 = .bool true := hk 29 (by decide)
        have h30 : x.v 30 = .bool true := hk 30 (by decide)
        have h31 : x.v 31 = .agg #[.int .i64 q.v, .slice Q1 q.f.length n1, .slice S1 q.t.length m1] := hk 31 (by decide)
        have h32 : x.v 32 = .agg #[.int .i64 q.v, .slice Q2 q.f.length n2, .slice S2 q.t.length m2] := hk 32 (by decide)
        have h33 : x.v 33 = .bool true := hk 33 (by decide)
        have h34 : x.v 34 = .bool true := hk 34 (by decide)
        have h35 : x.v 35 = .bool true := hk 35 (by decide)
        have h36 : x.v 36 = .bool false := hk 36 (by decide)
        have h37 : x.v 37 = .bool true := hk 37 (by decide)
        have h38 : x.v 38 = .bool true := hk 38 (by decide)
        have h39 : x.v 39 = undef := hk 39 (by decide)
        have h40 : x.v 40 = undef := hk 40 (by decide)
        have h41 : x.v 41 = .bool true := hk 41 (by decide)
        have h42 : x.v 42 = .bool true := hk 42 (by decide)
        clear hk
        simp only [netAct, dstAt, List.getElem?_toArray, List.getElem?_cons_zero, List.getElem?_cons_succ, Option.bind_some, Act.put, List.setIfInBounds_toArray, List.set_cons_zero, List.set_cons_succ]
        simp only [List.drop_succ_cons, List.drop_zero, h0, h1, h2, h4, h5, h6, h7, h8, h9, h10, h11, h12, h13, h14, h15, h16, h17, h18, h19, h20, h21, h22, h23, h24, h25, h26, h27, h28, h29, h30, h31, h32, h33, h34, h35, h36, h37, h38, h39, h40, h41, h42]
        clear h0 h1 h2 h4 h5 h6 h7 h8 h9 h10 h11 h12 h13 h14 h15 h16 h17 h18 h19 h20 h21 h22 h23 h24 h25 h26 h27 h28 h29 h30 h31 h32 h33 h34 h35 h36 h37 h38 h39 h40 h41 h42
        have GF := Lib.hid (HG.out.trans (hb.mono HG.out.size))
        clear hiv hdj hb h3
        go_wp2
        go_ret
        exact ⟨rfl, GF.out⟩
    · have HIL := Lib.hid (HIL0.out rfl)
      clear HIL0
      refine wp_region_netU (by kernel_rfl) (.eq (cv) :: .eq (.agg #[.int .i64 K.stages, .slice R K.birth.length rn, .slice U K.ends.length un]) :: .eq (.int .i64 t) :: rel 3 (fun u lo hi w => SlI w w.heap.size u (compsQ K t)) :: .eq (.bool true) :: .eq (.bool true) :: .eq (.agg #[.int .i64 K.stages, .slice R K.birth.length rn, .slice U K.ends.length un]) :: .eq (.int .i64 t) :: .eq (.int .i64 (cntQ K t : Int)) :: .eq (.agg #[.int .i64 K.stages, .slice R K.birth.length rn, .slice U K.ends.length un]) :: .eq (.int .i64 t) :: .eq (.int .i64 (cntQ K t : Int)) :: .eq (.bool true) :: .eq (.bool true) :: .eq (.bool true) :: .eq (.int .i64 (cycQ K t)) :: .eq (.agg #[.int .i64 K.stages, .slice R K.birth.length rn, .slice U K.ends.length un]) :: .eq (.int .i64 t) :: .eq (.int .i64 (cycQ K t)) :: .eq (.bool true) :: .eq (.bool true) :: .eq (.bool true) :: .eq (.int .i64 (cycQ K t)) :: .eq (.bool true) :: .eq (.bool true) :: .eq (.bool true) :: .eq (.bool true) :: .eq (.bool true) :: .eq (.bool true) :: .eq (.bool true) :: .eq (.bool true) :: .eq (.agg #[.int .i64 q.v, .slice Q1 q.f.length n1, .slice S1 q.t.length m1]) :: .eq (.agg #[.int .i64 q.v, .slice Q2 q.f.length n2, .slice S2 q.t.length m2]) :: .eq (.bool true) :: .eq (.bool true) :: .eq (.bool true) :: .eq (.bool true) :: .eq (.bool false) :: .eq (.bool false) :: .eq (.agg #[.int .i64 q.v, .slice Q2 q.f.length n2, .slice S2 q.t.length m2]) :: .eq (.bool true) :: .eq (.bool true) :: .eq (.bool true) :: []) [[], [], [], [1, 2], [0, 1, 2, 3], [0, 1, 2, 3, 4], [0, 1, 2, 3, 4, 5], [0, 1, 2, 3, 4, 5], [0, 1, 2, 3, 4, 5, 6, 7], [0, 1, 2, 3, 4, 5], [0, 1, 2, 3, 4, 5], [0, 1, 2, 3, 4, 5, 6, 7, 8, 9, 10], [0, 1, 2, 3, 4, 5, 6, 7, 8, 9, 10, 11], [0, 1, 2, 3, 4, 5, 6, 7, 8, 9, 10, 11, 12], [0, 1, 2, 3, 4, 5, 6, 7, 8, 9, 10, 11, 12, 13], [0, 1, 2, 3, 4, 5, 6, 7, 8, 9, 10, 11, 12, 13, 14], [0, 1, 2, 3, 4, 5, 6, 7, 8, 9, 10, 11, 12, 13, 14], [0, 1, 2, 3, 4, 5, 6, 7, 8, 9, 10, 11, 12, 13, 14], [0, 1, 2, 3, 4, 5, 6, 7, 8, 9, 10, 11, 12, 13, 14, 16, 17], [0, 1, 2, 3, 4, 5, 6, 7, 8, 9, 10, 11, 12, 13, 14, 15, 16, 17, 18], [0, 1, 2, 3, 4, 5, 6, 7, 8, 9, 10, 11, 12, 13, 14, 15, 16, 17, 18, 19], [0, 1, 2, 3, 4, 5, 6, 7, 8, 9, 10, 11, 12, 13, 14, 15, 16, 17, 18, 19, 20], [0, 1, 2, 3, 4, 5, 6, 7, 8, 9, 10, 11, 12, 13, 14, 15, 16, 17, 18, 19, 20, 21], [0, 1, 2, 3, 4, 5, 6, 7, 8, 9, 10, 11, 12, 13, 14, 15, 16, 17, 18, 19, 20, 21, 22], [0, 1, 2, 3, 4, 5, 6, 7, 8, 9, 10, 11, 12, 13, 14, 15, 16, 17, 18, 19, 20, 21, 22, 23], [0, 1, 2, 3, 4, 5, 6, 7, 8, 9, 10, 11, 12, 13, 14, 15, 16, 17, 18, 19, 20, 21, 22, 23, 24], [0, 1, 2, 3, 4, 5, 6, 7, 8, 9, 10, 11, 12, 13, 14, 15, 16, 17, 18, 19, 20, 21, 22, 23, 24, 25], [0, 1, 2, 3, 4, 5, 6, 7, 8, 9, 10, 11, 12, 13, 14, 15, 16, 17, 18, 19, 20, 21, 22, 23, 24, 25], [0, 1, 2, 3, 4, 5, 6, 7, 8, 9, 10, 11, 12, 13, 14, 15, 16, 17, 18, 19, 20, 21, 22, 23, 24, 25, 26, 27], [0, 1, 2, 3, 4, 5, 6, 7, 8, 9, 10, 11, 12, 13, 14, 15, 16, 17, 18, 19, 20, 21, 22, 23, 24, 25, 26, 27, 28], [0, 1, 2, 3, 4, 5, 6, 7, 8, 9, 10, 11, 12, 13, 14, 15, 16, 17, 18, 19, 20, 21, 22, 23, 24, 25, 26, 27, 28, 29], [0, 1, 2, 3, 4, 5, 6, 7, 8, 9, 10, 11, 12, 13, 14, 15, 16, 17, 18, 19, 20, 21, 22, 23, 24, 25, 26, 27, 28, 29, 30], [0, 1, 2, 3, 4, 5, 6, 7, 8, 9, 10, 11, 12, 13, 14, 15, 16, 17, 18, 19, 20, 21, 22, 23, 24, 25, 26, 27, 28, 29, 30], [0, 1, 2, 3, 4, 5, 6, 7, 8, 9, 10, 11, 12, 13, 14, 15, 16, 17, 18, 19, 20, 21, 22, 23, 24, 25, 26, 27, 28, 29, 30, 31, 32], [0, 1, 2, 3, 4, 5, 6, 7, 8, 9, 10, 11, 12, 13, 14, 15, 16, 17, 18, 19, 20, 21, 22, 23, 24, 25, 26, 27, 28, 29, 30, 31, 32, 33], [0, 1, 2, 3, 4, 5, 6, 7, 8, 9, 10, 11, 12, 13, 14, 15, 16, 17, 18, 19, 20, 21, 22, 23, 24, 25, 26, 27, 28, 29, 30, 31, 32, 33, 34], [0, 1, 2, 3, 4, 5, 6, 7, 8, 9, 10, 11, 12, 13, 14, 15, 16, 17, 18, 19, 20, 21, 22, 23, 24, 25, 26, 27, 28, 29, 30, 31, 32, 33, 34, 35], [0, 1, 2, 3, 4, 5, 6, 7, 8, 9, 10, 11, 12, 13, 14, 15, 16, 17, 18, 19, 20, 21, 22, 23, 24, 25, 26, 27, 28, 29, 30, 31, 32, 33, 34, 35, 36], [0, 1, 2, 3, 4, 5, 6, 7, 8, 9, 10, 11, 12, 13, 14, 15, 16, 17, 18, 19, 20, 21, 22, 23, 24, 25, 26, 27, 28, 29, 30, 31, 32, 33, 34, 35, 36, 37], [0, 1, 2, 3, 4, 5, 6, 7, 8, 9, 10, 11, 12, 13, 14, 15, 16, 17, 18, 19, 20, 21, 22, 23, 24, 25, 26, 27, 28, 29, 30, 31, 32, 33, 34, 35, 36, 37, 38], [0, 1, 2, 3, 4, 5, 6, 7, 8, 9, 10, 11, 12, 13, 14, 15, 16, 17, 18, 19, 20, 21, 22, 23, 24, 25, 26, 27, 28, 29, 30, 31, 32, 33, 34, 35, 36, 37, 38, 39], [0, 1, 2, 3, 4, 5, 6, 7, 8, 9, 10, 11, 12, 13, 14, 15, 16, 17, 18, 19, 20, 21, 22, 23, 24, 25, 26, 27, 28, 29, 30, 31, 32, 33, 34, 35, 36, 37, 38, 39, 40], [0, 1, 2, 3, 4, 5, 6, 7, 8, 9, 10, 11, 12, 13, 14, 15, 16, 17, 18, 19, 20, 21, 22, 23, 24, 25, 26, 27, 28, 29, 30, 31, 32, 33, 34, 35, 36, 37, 38, 39, 40, 41], [0, 1, 2, 3, 4, 5, 6, 7, 8, 9, 10, 11, 12, 13, 14, 15, 16, 17, 18, 19, 20, 21, 22, 23, 24, 25, 26, 27, 28, 29, 30, 31, 32, 33, 34, 35, 36, 37, 38, 39, 40, 41, 42]] 43 (by kernel_rfl) ⟨trivial, trivial, trivial, rel_stable (fun u lo hi w w' h hb => SlI.next hb h), trivial, trivial, trivial, trivial, trivial, trivial, trivial, trivial, trivial, trivial, trivial, trivial, trivial, trivial, trivial, trivial, trivial, trivial, trivial, trivial, trivial, trivial, trivial, trivial, trivial, trivial, trivial, trivial, trivial, trivial, trivial, trivial, trivial, trivial, trivial, trivial, trivial, trivial, trivial, trivial⟩ ⟨?_, ?_, ?_, ?_, ?_, ?_, ?_, ?_, ?_, ?_, ?_, ?_, ?_, ?_, ?_, ?_, ?_, ?_, ?_, ?_, ?_, ?_, ?_, ?_, ?_, ?_, ?_, ?_, ?_, ?_, ?_, ?_, ?_, ?_, ?_, ?_, ?_, ?_, ?_, ?_, ?_, ?_, ?_, trivial⟩ ?_
      · intro x w hb hk Q' hQ
        clear hk
        simp only [netAct, dstAt, List.getElem?_toArray, List.getElem?_cons_zero, List.getElem?_cons_succ, Option.bind_some, Act.put, List.setIfInBounds_toArray, List.set_cons_zero, List.set_cons_succ] at hQ ⊢
        go_wp2
        exact hQ (cv) _ (Below.refl _ _) rfl
      · intro x w hb hk Q' hQ
        clear hk
        simp only [netAct, dstAt, List.getElem?_toArray, List.getElem?_cons_zero, List.getElem?_cons_succ, Option.bind_some, Act.put, List.setIfInBounds_toArray, List.set_cons_zero, List.set_cons_succ] at hQ ⊢
        have z0 := (HKG.out.call hb).cell' (i := 0) rfl
        have z1 := (HKG.out.call hb).cell' (i := 1) rfl
        have z2 := (HKG.out.call hb).cell' (i := 2) rfl
        go_wp2
        exact hQ (.agg #[.int .i64 K.stages, .slice R K.birth.length rn, .slice U K.ends.length un]) _ (Below.refl _ _) rfl
      · intro x w hb hk Q' hQ
        clear hk
        simp only [netAct, dstAt, List.getElem?_toArray, List.getElem?_cons_zero, List.getElem?_cons_succ, Option.bind_some, Act.put, List.setIfInBounds_toArray, List.set_cons_zero, List.set_cons_succ] at hQ ⊢
        go_wp2
        exact hQ (.int .i64 t) _ (Below.refl _ _) rfl
      · intro x w hb hk Q' hQ
        have h1 : x.v 1 = .agg #[.int .i64 K.stages, .slice R K.birth.length rn, .slice U K.ends.length un] := (hk 1 (by decide)).1
        have h2 : x.v 2 = .int .i64 t := (hk 2 (by decide)).1
        clear hk
        simp only [netAct, dstAt, List.getElem?_toArray, List.getElem?_cons_zero, List.getElem?_cons_succ, Option.bind_some, Act.put, List.setIfInBounds_toArray, List.set_cons_zero, List.set_cons_succ] at hQ ⊢
        simp only [h1, h2] at hQ ⊢
        clear h1 h2
        go_wp2_with fail
        refine (specComponentsAt_any _ K t _ (FiR.next hb HK.out) ht).mono ?_; rintro e w8 ⟨o, rfl, ho, hb8⟩
        go_wp2
        exact hQ _ _ hb8 ho.rd
      · intro x w hb hk Q' hQ
        have h0 : x.v 0 = cv := (hk 0 (by decide)).1
        have h3 : SlI w w.heap.size (x.v 3) (compsQ K t) := (hk 3 (by decide)).1
        clear hk
        simp only [netAct, dstAt, List.getElem?_toArray, List.getElem?_cons_zero, List.getElem?_cons_succ, Option.bind_some, Act.put, List.setIfInBounds_toArray, List.set_cons_zero, List.set_cons_succ] at hQ ⊢
        simp only [h0] at hQ ⊢
        clear h0
        go_wp2_with fail
        refine (sameI_any _ _ (compsQ K t) _ (SlI.next hb HCS.out) h3).mono ?_; rintro e w8 ⟨rfl, hb8⟩
        go_wp2
        exact hQ _ _ hb8 rfl
      · intro x w hb hk Q' hQ
        have h4 : x.v 4 = .bool true := (hk 4 (by decide)).1
        clear hk
        simp only [netAct, dstAt, List.getElem?_toArray, List.getElem?_cons_zero, List.getElem?_cons_succ, Option.bind_some, Act.put, List.setIfInBounds_toArray, List.set_cons_zero, List.set_cons_succ] at hQ ⊢
        simp only [h4] at hQ ⊢
        clear h4
        go_wp2
        exact hQ (.bool true) _ (Below.refl _ _) rfl
      · intro x w hb hk Q' hQ
        have h5 : x.v 5 = .bool true := (hk 5 (by decide)).1
        clear hk
        simp only [netAct, dstAt, List.getElem?_toArray, List.getElem?_cons_zero, List.getElem?_cons_succ, Option.bind_some, Act.put, List.setIfInBounds_toArray, List.set_cons_zero, List.set_cons_succ] at hQ ⊢
        simp only [h5] at hQ ⊢
        clear h5
        have z0 := (HKG.out.call hb).cell' (i := 0) rfl
        have z1 := (HKG.out.call hb).cell' (i := 1) rfl
        have z2 := (HKG.out.call hb).cell' (i := 2) rfl
        go_wp2
        exact hQ (.agg #[.int .i64 K.stages, .slice R K.birth.length rn, .slice U K.ends.length un]) _ (Below.refl _ _) rfl
      · intro x w hb hk Q' hQ
        have h5 : x.v 5 = .bool true := (hk 5 (by decide)).1
        clear hk
        simp only [netAct, dstAt, List.getElem?_toArray, List.getElem?_cons_zero, List.getElem?_cons_succ, Option.bind_some, Act.put, List.setIfInBounds_toArray, List.set_cons_zero, List.set_cons_succ] at hQ ⊢
        simp only [h5] at hQ ⊢
        clear h5
        go_wp2
        exact hQ (.int .i64 t) _ (Below.refl _ _) rfl
      · intro x w hb hk Q' hQ
        have h5 : x.v 5 = .bool true := (hk 5 (by decide)).1
        have h6 : x.v 6 = .agg #[.int .i64 K.stages, .slice R K.birth.length rn, .slice U K.ends.length un] := (hk 6 (by decide)).1
        have h7 : x.v 7 = .int .i64 t := (hk 7 (by decide)).1
        clear hk
        simp only [netAct, dstAt, List.getElem?_toArray, List.getElem?_cons_zero, List.getElem?_cons_succ, Option.bind_some, Act.put, List.setIfInBounds_toArray, List.set_cons_zero, List.set_cons_succ] at hQ ⊢
        simp only [h5, h6, h7] at hQ ⊢
        clear h5 h6 h7
        go_wp2_with fail
        refine (implCountComponents_any _ K t _ (FiR.next hb HK.out) ht).mono ?_; rintro e w8 ⟨rfl, hb8⟩
        go_wp2
        exact hQ _ _ hb8 rfl
      · intro x w hb hk Q' hQ
        have h5 : x.v 5 = .bool true := (hk 5 (by decide)).1
        clear hk
        simp only [netAct, dstAt, List.getElem?_toArray, List.getElem?_cons_zero, List.getElem?_cons_succ, Option.bind_some, Act.put, List.setIfInBounds_toArray, List.set_cons_zero, List.set_cons_succ] at hQ ⊢
        simp only [h5] at hQ ⊢
        clear h5
        have z0 := (HKG.out.call hb).cell' (i := 0) rfl
        have z1 := (HKG.out.call hb).cell' (i := 1) rfl
        have z2 := (HKG.out.call hb).cell' (i := 2) rfl
        go_wp2
        exact hQ (.agg #[.int .i64 K.stages, .slice R K.birth.length rn, .slice U K.ends.length un]) _ (Below.refl _ _) rfl
      · intro x w hb hk Q' hQ
        have h5 : x.v 5 = .bool true := (hk 5 (by decide)).1
        clear hk
        simp only [netAct, dstAt, List.getElem?_toArray, List.getElem?_cons_zero, List.getElem?_cons_succ, Option.bind_some, Act.put, List.setIfInBounds_toArray, List.set_cons_zero, List.set_cons_succ] at hQ ⊢
        simp only [h5] at hQ ⊢
        clear h5
        go_wp2
        exact hQ (.int .i64 t) _ (Below.refl _ _) rfl
      · intro x w hb hk Q' hQ
        have h5 : x.v 5 = .bool true := (hk 5 (by decide)).1
        have h9 : x.v 9 = .agg #[.int .i64 K.stages, .slice R K.birth.length rn, .slice U K.ends.length un] := (hk 9 (by decide)).1
        have h10 : x.v 10 = .int .i64 t := (hk 10 (by decide)).1
        clear hk
        simp only [netAct, dstAt, List.getElem?_toArray, List.getElem?_cons_zero, List.getElem?_cons_succ, Option.bind_some, Act.put, List.setIfInBounds_toArray, List.set_cons_zero, List.set_cons_succ] at hQ ⊢
        simp only [h5, h9, h10] at hQ ⊢
        clear h5 h9 h10
        go_wp2_with fail
        refine (specCountComponents_any _ K t _ (FiR.next hb HK.out) ht).mono ?_; rintro e w8 ⟨rfl, hb8⟩
        go_wp2
        exact hQ _ _ hb8 rfl
      · intro x w hb hk Q' hQ
        have h5 : x.v 5 = .bool true := (hk 5 (by decide)).1
        have h8 : x.v 8 = .int .i64 (cntQ K t : Int) := (hk 8 (by decide)).1
        have h11 : x.v 11 = .int .i64 (cntQ K t : Int) := (hk 11 (by decide)).1
        clear hk
        simp only [netAct, dstAt, List.getElem?_toArray, List.getElem?_cons_zero, List.getElem?_cons_succ, Option.bind_some, Act.put, List.setIfInBounds_toArray, List.set_cons_zero, List.set_cons_succ] at hQ ⊢
        simp only [h5, h8, h11] at hQ ⊢
        clear h5 h8 h11
        have e1 : (((cntQ K t : Nat) : Int) == (cntQ K t : Nat)) = true := by simp
        go_wp2
        exact hQ (.bool true) _ (Below.refl _ _) rfl
      · intro x w hb hk Q' hQ
        have h5 : x.v 5 = .bool true := (hk 5 (by decide)).1
        have h12 : x.v 12 = .bool true := (hk 12 (by decide)).1
        clear hk
        simp only [netAct, dstAt, List.getElem?_toArray, List.getElem?_cons_zero, List.getElem?_cons_succ, Option.bind_some, Act.put, List.setIfInBounds_toArray, List.set_cons_zero, List.set_cons_succ] at hQ ⊢
        simp only [h5, h12] at hQ ⊢
        clear h5 h12
        go_wp2
        exact hQ (.bool true) _ (Below.refl _ _) rfl
      · intro x w hb hk Q' hQ
        have h13 : x.v 13 = .bool true := (hk 13 (by decide)).1
        clear hk
        simp only [netAct, dstAt, List.getElem?_toArray, List.getElem?_cons_zero, List.getElem?_cons_succ, Option.bind_some, Act.put, List.setIfInBounds_toArray, List.set_cons_zero, List.set_cons_succ] at hQ ⊢
        simp only [h13] at hQ ⊢
        clear h13
        go_wp2
        exact hQ (.bool true) _ (Below.refl _ _) rfl
      · intro x w hb hk Q' hQ
        have h14 : x.v 14 = .bool true := (hk 14 (by decide)).1
        clear hk
        simp only [netAct, dstAt, List.getElem?_toArray, List.getElem?_cons_zero, List.getElem?_cons_succ, Option.bind_some, Act.put, List.setIfInBounds_toArray, List.set_cons_zero, List.set_cons_succ] at hQ ⊢
        simp only [h14] at hQ ⊢
        clear h14
        go_wp2
        exact hQ (.int .i64 (cycQ K t)) _ (Below.refl _ _) rfl
      · intro x w hb hk Q' hQ
        have h14 : x.v 14 = .bool true := (hk 14 (by decide)).1
        clear hk
        simp only [netAct, dstAt, List.getElem?_toArray, List.getElem?_cons_zero, List.getElem?_cons_succ, Option.bind_some, Act.put, List.setIfInBounds_toArray, List.set_cons_zero, List.set_cons_succ] at hQ ⊢
        simp only [h14] at hQ ⊢
        clear h14
        have z0 := (HKG.out.call hb).cell' (i := 0) rfl
        have z1 := (HKG.out.call hb).cell' (i := 1) rfl
        have z2 := (HKG.out.call hb).cell' (i := 2) rfl
        go_wp2
        exact hQ (.agg #[.int .i64 K.stages, .slice R K.birth.length rn, .slice U K.ends.length un]) _ (Below.refl _ _) rfl
      · intro x w hb hk Q' hQ
        have h14 : x.v 14 = .bool true := (hk 14 (by decide)).1
        clear hk
        simp only [netAct, dstAt, List.getElem?_toArray, List.getElem?_cons_zero, List.getElem?_cons_succ, Option.bind_some, Act.put, List.setIfInBounds_toArray, List.set_cons_zero, List.set_cons_succ] at hQ ⊢
        simp only [h14] at hQ ⊢
        clear h14
        go_wp2
        exact hQ (.int .i64 t) _ (Below.refl _ _) rfl
      · intro x w hb hk Q' hQ
        have h14 : x.v 14 = .bool true := (hk 14 (by decide)).1
        have h16 : x.v 16 = .agg #[.int .i64 K.stages, .slice R K.birth.length rn, .slice U K.ends.length un] := (hk 16 (by decide)).1
        have h17 : x.v 17 = .int .i64 t := (hk 17 (by decide)).1
        clear hk
        simp only [netAct, dstAt, List.getElem?_toArray, List.getElem?_cons_zero, List.getElem?_cons_succ, Option.bind_some, Act.put, List.setIfInBounds_toArray, List.set_cons_zero, List.set_cons_succ] at hQ ⊢
        simp only [h14, h16, h17] at hQ ⊢
        clear h14 h16 h17
        go_wp2_with fail
        refine (specCyclesAt_any _ K t _ (FiR.next hb HK.out) ht).mono ?_; rintro e w8 ⟨rfl, hb8⟩
        go_wp2
        exact hQ _ _ hb8 rfl
      · intro x w hb hk Q' hQ
        have h14 : x.v 14 = .bool true := (hk 14 (by decide)).1
        have h15 : x.v 15 = .int .i64 (cycQ K t) := (hk 15 (by decide)).1
        have h18 : x.v 18 = .int .i64 (cycQ K t) := (hk 18 (by decide)).1
        clear hk
        simp only [netAct, dstAt, List.getElem?_toArray, List.getElem?_cons_zero, List.getElem?_cons_succ, Option.bind_some, Act.put, List.setIfInBounds_toArray, List.set_cons_zero, List.set_cons_succ] at hQ ⊢
        simp only [h14, h15, h18] at hQ ⊢
        clear h14 h15 h18
        have e1 : (cycQ K t == cycQ K t) = true := by simp
        go_wp2
        exact hQ (.bool true) _ (Below.refl _ _) rfl
      · intro x w hb hk Q' hQ
        have h14 : x.v 14 = .bool true := (hk 14 (by decide)).1
        have h19 : x.v 19 = .bool true := (hk 19 (by decide)).1
        clear hk
        simp only [netAct, dstAt, List.getElem?_toArray, List.getElem?_cons_zero, List.getElem?_cons_succ, Option.bind_some, Act.put, List.setIfInBounds_toArray, List.set_cons_zero, List.set_cons_succ] at hQ ⊢
        simp only [h14, h19] at hQ ⊢
        clear h14 h19
        go_wp2
        exact hQ (.bool true) _ (Below.refl _ _) rfl
      · intro x w hb hk Q' hQ
        have h20 : x.v 20 = .bool true := (hk 20 (by decide)).1
        clear hk
        simp only [netAct, dstAt, List.getElem?_toArray, List.getElem?_cons_zero, List.getElem?_cons_succ, Option.bind_some, Act.put, List.setIfInBounds_toArray, List.set_cons_zero, List.set_cons_succ] at hQ ⊢
        simp only [h20] at hQ ⊢
        clear h20
        go_wp2
        exact hQ (.bool true) _ (Below.refl _ _) rfl
      · intro x w hb hk Q' hQ
        have h21 : x.v 21 = .bool true := (hk 21 (by decide)).1
        clear hk
        simp only [netAct, dstAt, List.getElem?_toArray, List.getElem?_cons_zero, List.getElem?_cons_succ, Option.bind_some, Act.put, List.setIfInBounds_toArray, List.set_cons_zero, List.set_cons_succ] at hQ ⊢
        simp only [h21] at hQ ⊢
        clear h21
        go_wp2
        exact hQ (.int .i64 (cycQ K t)) _ (Below.refl _ _) rfl
      · intro x w hb hk Q' hQ
        have h21 : x.v 21 = .bool true := (hk 21 (by decide)).1
        have h22 : x.v 22 = .int .i64 (cycQ K t) := (hk 22 (by decide)).1
        clear hk
        simp only [netAct, dstAt, List.getElem?_toArray, List.getElem?_cons_zero, List.getElem?_cons_succ, Option.bind_some, Act.put, List.setIfInBounds_toArray, List.set_cons_zero, List.set_cons_succ] at hQ ⊢
        simp only [h21, h22] at hQ ⊢
        clear h21 h22
        have e1 := hcy
        go_wp2
        exact hQ (.bool true) _ (Below.refl _ _) rfl
      · intro x w hb hk Q' hQ
        have h21 : x.v 21 = .bool true := (hk 21 (by decide)).1
        have h23 : x.v 23 = .bool true := (hk 23 (by decide)).1
        clear hk
        simp only [netAct, dstAt, List.getElem?_toArray, List.getElem?_cons_zero, List.getElem?_cons_succ, Option.bind_some, Act.put, List.setIfInBounds_toArray, List.set_cons_zero, List.set_cons_succ] at hQ ⊢
        simp only [h21, h23] at hQ ⊢
        clear h21 h23
        go_wp2
        exact hQ (.bool true) _ (Below.refl _ _) rfl
      · intro x w hb hk Q' hQ
        have h24 : x.v 24 = .bool true := (hk 24 (by decide)).1
        clear hk
        simp only [netAct, dstAt, List.getElem?_toArray, List.getElem?_cons_zero, List.getElem?_cons_succ, Option.bind_some, Act.put, List.setIfInBounds_toArray, List.set_cons_zero, List.set_cons_succ] at hQ ⊢
        simp only [h24] at hQ ⊢
        clear h24
        go_wp2
        exact hQ (.bool true) _ (Below.refl _ _) rfl
      · intro x w hb hk Q' hQ
        have h25 : x.v 25 = .bool true := (hk 25 (by decide)).1
        clear hk
        simp only [netAct, dstAt, List.getElem?_toArray, List.getElem?_cons_zero, List.getElem?_cons_succ, Option.bind_some, Act.put, List.setIfInBounds_toArray, List.set_cons_zero, List.set_cons_succ] at hQ ⊢
        simp only [h25] at hQ ⊢
        clear h25
        go_wp2
        exact hQ (.bool true) _ (Below.refl _ _) rfl
      · intro x w hb hk Q' hQ
        have h25 : x.v 25 = .bool true := (hk 25 (by decide)).1
        clear hk
        simp only [netAct, dstAt, List.getElem?_toArray, List.getElem?_cons_zero, List.getElem?_cons_succ, Option.bind_some, Act.put, List.setIfInBounds_toArray, List.set_cons_zero, List.set_cons_succ] at hQ ⊢
        simp only [h25] at hQ ⊢
        clear h25
        go_wp2
        exact hQ (.bool true) _ (Below.refl _ _) rfl
      · intro x w hb hk Q' hQ
        have h25 : x.v 25 = .bool true := (hk 25 (by decide)).1
        have h26 : x.v 26 = .bool true := (hk 26 (by decide)).1
        have h27 : x.v 27 = .bool true := (hk 27 (by decide)).1
        clear hk
        simp only [netAct, dstAt, List.getElem?_toArray, List.getElem?_cons_zero, List.getElem?_cons_succ, Option.bind_some, Act.put, List.setIfInBounds_toArray, List.set_cons_zero, List.set_cons_succ] at hQ ⊢
        simp only [h25, h26, h27] at hQ ⊢
        clear h25 h26 h27
        go_wp2
        exact hQ (.bool true) _ (Below.refl _ _) rfl
      · intro x w hb hk Q' hQ
        have h25 : x.v 25 = .bool true := (hk 25 (by decide)).1
        have h28 : x.v 28 = .bool true := (hk 28 (by decide)).1
        clear hk
        simp only [netAct, dstAt, List.getElem?_toArray, List.getElem?_cons_zero, List.getElem?_cons_succ, Option.bind_some, Act.put, List.setIfInBounds_toArray, List.set_cons_zero, List.set_cons_succ] at hQ ⊢
        simp only [h25, h28] at hQ ⊢
        clear h25 h28
        go_wp2
        exact hQ (.bool true) _ (Below.refl _ _) rfl
      · intro x w hb hk Q' hQ
        have h29 : x.v 29 = .bool true := (hk 29 (by decide)).1
        clear hk
        simp only [netAct, dstAt, List.getElem?_toArray, List.getElem?_cons_zero, List.getElem?_cons_succ, Option.bind_some, Act.put, List.setIfInBounds_toArray, List.set_cons_zero, List.set_cons_succ] at hQ ⊢
        simp only [h29] at hQ ⊢
        clear h29
        go_wp2
        exact hQ (.bool true) _ (Below.refl _ _) rfl
      · intro x w hb hk Q' hQ
        have h30 : x.v 30 = .bool true := (hk 30 (by decide)).1
        clear hk
        simp only [netAct, dstAt, List.getElem?_toArray, List.getElem?_cons_zero, List.getElem?_cons_succ, Option.bind_some, Act.put, List.setIfInBounds_toArray, List.set_cons_zero, List.set_cons_succ] at hQ ⊢
        simp only [h30] at hQ ⊢
        clear h30
        have z0 := (HKA.out.call hb).cell' (i := 0) rfl
        have z1 := (HKA.out.call hb).cell' (i := 1) rfl
        have z2 := (HKA.out.call hb).cell' (i := 2) rfl
        go_wp2
        exact hQ (.agg #[.int .i64 q.v, .slice Q1 q.f.length n1, .slice S1 q.t.length m1]) _ (Below.refl _ _) rfl
      · intro x w hb hk Q' hQ
        have h30 : x.v 30 = .bool true := (hk 30 (by decide)).1
        clear hk
        simp only [netAct, dstAt, List.getElem?_toArray, List.getElem?_cons_zero, List.getElem?_cons_succ, Option.bind_some, Act.put, List.setIfInBounds_toArray, List.set_cons_zero, List.set_cons_succ] at hQ ⊢
        simp only [h30] at hQ ⊢
        clear h30
        have z0 := (HKB.out.call hb).cell' (i := 0) rfl
        have z1 := (HKB.out.call hb).cell' (i := 1) rfl
        have z2 := (HKB.out.call hb).cell' (i := 2) rfl
        go_wp2
        exact hQ (.agg #[.int .i64 q.v, .slice Q2 q.f.length n2, .slice S2 q.t.length m2]) _ (Below.refl _ _) rfl
      · intro x w hb hk Q' hQ
        have h30 : x.v 30 = .bool true := (hk 30 (by decide)).1
        have h31 : x.v 31 = .agg #[.int .i64 q.v, .slice Q1 q.f.length n1, .slice S1 q.t.length m1] := (hk 31 (by decide)).1
        have h32 : x.v 32 = .agg #[.int .i64 q.v, .slice Q2 q.f.length n2, .slice S2 q.t.length m2] := (hk 32 (by decide)).1
        clear hk
        simp only [netAct, dstAt, List.getElem?_toArray, List.getElem?_cons_zero, List.getElem?_cons_succ, Option.bind_some, Act.put, List.setIfInBounds_toArray, List.set_cons_zero, List.set_cons_succ] at hQ ⊢
        simp only [h30, h31, h32] at hQ ⊢
        clear h30 h31 h32
        go_wp2_with fail
        refine (specEqualQuivers_any _ _ q q _ (QvR.next hb HQA.out) (QvR.next hb HQB.out)).mono ?_; rintro e w8 ⟨rfl, hb8⟩
        rw [show decide (q = q) = true from decide_eq_true rfl]
        go_wp2
        exact hQ _ _ hb8 rfl
      · intro x w hb hk Q' hQ
        have h30 : x.v 30 = .bool true := (hk 30 (by decide)).1
        have h33 : x.v 33 = .bool true := (hk 33 (by decide)).1
        clear hk
        simp only [netAct, dstAt, List.getElem?_toArray, List.getElem?_cons_zero, List.getElem?_cons_succ, Option.bind_some, Act.put, List.setIfInBounds_toArray, List.set_cons_zero, List.set_cons_succ] at hQ ⊢
        simp only [h30, h33] at hQ ⊢
        clear h30 h33
        go_wp2
        exact hQ (.bool true) _ (Below.refl _ _) rfl
      · intro x w hb hk Q' hQ
        have h34 : x.v 34 = .bool true := (hk 34 (by decide)).1
        clear hk
        simp only [netAct, dstAt, List.getElem?_toArray, List.getElem?_cons_zero, List.getElem?_cons_succ, Option.bind_some, Act.put, List.setIfInBounds_toArray, List.set_cons_zero, List.set_cons_succ] at hQ ⊢
        simp only [h34] at hQ ⊢
        clear h34
        go_wp2
        exact hQ (.bool true) _ (Below.refl _ _) rfl
      · intro x w hb hk Q' hQ
        have h35 : x.v 35 = .bool true := (hk 35 (by decide)).1
        clear hk
        simp only [netAct, dstAt, List.getElem?_toArray, List.getElem?_cons_zero, List.getElem?_cons_succ, Option.bind_some, Act.put, List.setIfInBounds_toArray, List.set_cons_zero, List.set_cons_succ] at hQ ⊢
        simp only [h35] at hQ ⊢
        clear h35
        go_wp2
        exact hQ (.bool true) _ (Below.refl _ _) rfl
      · intro x w hb hk Q' hQ
        have h35 : x.v 35 = .bool true := (hk 35 (by decide)).1
        have h36 : x.v 36 = .bool true := (hk 36 (by decide)).1
        clear hk
        simp only [netAct, dstAt, List.getElem?_toArray, List.getElem?_cons_zero, List.getElem?_cons_succ, Option.bind_some, Act.put, List.setIfInBounds_toArray, List.set_cons_zero, List.set_cons_succ] at hQ ⊢
        simp only [h35, h36] at hQ ⊢
        clear h35 h36
        go_wp2
        exact hQ (.bool false) _ (Below.refl _ _) rfl
      · intro x w hb hk Q' hQ
        have h35 : x.v 35 = .bool true := (hk 35 (by decide)).1
        have h37 : x.v 37 = .bool false := (hk 37 (by decide)).1
        clear hk
        simp only [netAct, dstAt, List.getElem?_toArray, List.getElem?_cons_zero, List.getElem?_cons_succ, Option.bind_some, Act.put, List.setIfInBounds_toArray, List.set_cons_zero, List.set_cons_succ] at hQ ⊢
        simp only [h35, h37] at hQ ⊢
        clear h35 h37
        go_wp2
        exact hQ (.bool false) _ (Below.refl _ _) rfl
      · intro x w hb hk Q' hQ
        have h38 : x.v 38 = .bool false := (hk 38 (by decide)).1
        clear hk
        simp only [netAct, dstAt, List.getElem?_toArray, List.getElem?_cons_zero, List.getElem?_cons_succ, Option.bind_some, Act.put, List.setIfInBounds_toArray, List.set_cons_zero, List.set_cons_succ] at hQ ⊢
        simp only [h38] at hQ ⊢
        clear h38
        have z0 := (HKB.out.call hb).cell' (i := 0) rfl
        have z1 := (HKB.out.call hb).cell' (i := 1) rfl
        have z2 := (HKB.out.call hb).cell' (i := 2) rfl
        go_wp2
        exact hQ (.agg #[.int .i64 q.v, .slice Q2 q.f.length n2, .slice S2 q.t.length m2]) _ (Below.refl _ _) rfl
      · intro x w hb hk Q' hQ
        have h38 : x.v 38 = .bool false := (hk 38 (by decide)).1
        have h39 : x.v 39 = .agg #[.int .i64 q.v, .slice Q2 q.f.length n2, .slice S2 q.t.length m2] := (hk 39 (by decide)).1
        clear hk
        simp only [netAct, dstAt, List.getElem?_toArray, List.getElem?_cons_zero, List.getElem?_cons_succ, Option.bind_some, Act.put, List.setIfInBounds_toArray, List.set_cons_zero, List.set_cons_succ] at hQ ⊢
        simp only [h38, h39] at hQ ⊢
        clear h38 h39
        go_wp2_with fail
        refine (implIsLine_any _ q _ (QvR.next hb HQB.out)).mono ?_; rintro e w8 ⟨rfl, hb8⟩
        rw [HIL.out]
        go_wp2
        exact hQ _ _ hb8 rfl
      · intro x w hb hk Q' hQ
        have h35 : x.v 35 = .bool true := (hk 35 (by decide)).1
        have h38 : x.v 38 = .bool false := (hk 38 (by decide)).1
        have h40 : x.v 40 = .bool true := (hk 40 (by decide)).1
        clear hk
        simp only [netAct, dstAt, List.getElem?_toArray, List.getElem?_cons_zero, List.getElem?_cons_succ, Option.bind_some, Act.put, List.setIfInBounds_toArray, List.set_cons_zero, List.set_cons_succ] at hQ ⊢
        simp only [h35, h38, h40] at hQ ⊢
        clear h35 h38 h40
        go_wp2
        exact hQ (.bool true) _ (Below.refl _ _) rfl
      · intro x w hb hk Q' hQ
        have h35 : x.v 35 = .bool true := (hk 35 (by decide)).1
        have h41 : x.v 41 = .bool true := (hk 41 (by decide)).1
        clear hk
        simp only [netAct, dstAt, List.getElem?_toArray, List.getElem?_cons_zero, List.getElem?_cons_succ, Option.bind_some, Act.put, List.setIfInBounds_toArray, List.set_cons_zero, List.set_cons_succ] at hQ ⊢
        simp only [h35, h41] at hQ ⊢
        clear h35 h41
        go_wp2
        exact hQ (.bool true) _ (Below.refl _ _) rfl
      · intro x w hb hk hiv hdj
        have h0 : x.v 0 = cv := hk 0 (by decide)
        have h1 : x.v 1 = .agg #[.int .i64 K.stages, .slice R K.birth.length rn, .slice U K.ends.length un] := hk 1 (by decide)
        have h2 : x.v 2 = .int .i64 t := hk 2 (by decide)
        have h3 : SlI w w.heap.size (x.v 3) (compsQ K t) := hk 3 (by decide)
        have h4 : x.v 4 = .bool true := hk 4 (by decide)
        have h5 : x.v 5 = .bool true := hk 5 (by decide)
        have h6 : x.v 6 = .agg #[.int .i64 K.stages, .slice R K.birth.length rn, .slice U K.ends.length un] := hk 6 (by decide)
        have h7 : x.v 7 = .int .i64 t := hk 7 (by decide)
        have h8 : x.v 8 = .int .i64 (cntQ K t : Int) := hk 8 (by decide)
        have h9 : x.v 9 = .agg #[.int .i64 K.stages, .slice R K.birth.length rn, .slice U K.ends.length un] := hk 9 (by decide)
        have h10 : x.v 10 = .int .i64 t := hk 10 (by decide)
        have h11 : x.v 11 = .int .i64 (cntQ K t : Int) := hk 11 (by decide)
        have h12 : x.v 12 = .bool true := hk 12 (by decide)
        have h13 : x.v 13 = .bool true := hk 13 (by decide)
        have h14 : x.v 14 = .bool true := hk 14 (by decide)
        have h15 : x.v 15 = .int .i64 (cycQ K t) := hk 15 (by decide)
        have h16 : x.v 16 = .agg #[.int .i64 K.stages, .slice R K.birth.length rn, .slice U K.ends.length un] := hk 16 (by decide)
        have h17 : x.v 17 = .int .i64 t := hk 17 (by decide)
        have h18 : x.v 18 = .int .i64 (cycQ K t) := hk 18 (by decide)
        have h19 : x.v 19 = .bool true := hk 19 (by decide)
        have h20 : x.v 20 = .bool true := hk 20 (by decide)
        have h21 : x.v 21 = .bool true := hk 21 (by decide)
        have h22 : x.v 22 = .int .i64 (cycQ K t) := hk 22 (by decide)
        have h23 : x.v 23 = .bool true := hk 23 (by decide)
        have h24 : x.v 24 = .bool true := hk 24 (by decide)
        have h25 : x.v 25 = .bool true := hk 25 (by decide)
        have h26 : x.v 26 = .bool true := hk 26 (by decide)
        have h27 : x.v 27 = .bool true := hk 27 (by decide)
        have h28 : x.v 28 = .bool true := hk 28 (by decide)
        have h29 : x.v 29 = .bool true := hk 29 (by decide)
        have h30 : x.v 30 = .bool true := hk 30 (by decide)
        have h31 : x.v 31 = .agg #[.int .i64 q.v, .slice Q1 q.f.length n1, .slice S1 q.t.length m1] := hk 31 (by decide)
        have h32 : x.v 32 = .agg #[.int .i64 q.v, .slice Q2 q.f.length n2, .slice S2 q.t.length m2] := hk 32 (by decide)
        have h33 : x.v 33 = .bool true := hk 33 (by decide)
        have h34 : x.v 34 = .bool true := hk 34 (by decide)
        have h35 : x.v 35 = .bool true := hk 35 (by decide)
        have h36 : x.v 36 = .bool true := hk 36 (by decide)
        have h37 : x.v 37 = .bool false := hk 37 (by decide)
        have h38 : x.v 38 = .bool false := hk 38 (by decide)
        have h39 : x.v 39 = .agg #[.int .i64 q.v, .slice Q2 q.f.length n2, .slice S2 q.t.length m2] := hk 39 (by decide)
        have h40 : x.v 40 = .bool true := hk 40 (by decide)
        have h41 : x.v 41 = .bool true := hk 41 (by decide)
        have h42 : x.v 42 = .bool true := hk 42 (by decide)
        clear hk
        simp only [netAct, dstAt, List.getElem?_toArray, List.getElem?_cons_zero, List.getElem?_cons_succ, Option.bind_some, Act.put, List.setIfInBounds_toArray, List.set_cons_zero, List.set_cons_succ]
        simp only [List.drop_succ_cons, List.drop_zero, h0, h1, h2, h4, h5, h6, h7, h8, h9, h10, h11, h12, h13, h14, h15, h16, h17, h18, h19, h20, h21, h22, h23, h24, h25, h26, h27, h28, h29, h30, h31, h32, h33, h34, h35, h36, h37, h38, h39, h40, h41, h42]
        clear h0 h1 h2 h4 h5 h6 h7 h8 h9 h10 h11 h12 h13 h14 h15 h16 h17 h18 h19 h20 h21 h22 h23 h24 h25 h26 h27 h28 h29 h30 h31 h32 h33 h34 h35 h36 h37 h38 h39 h40 h41 h42
        have GF := Lib.hid (HG.out.trans (hb.mono HG.out.size))
        clear hiv hdj hb h3
        go_wp2
        go_ret
        exact ⟨rfl, GF.out⟩
end Go.Proofs.YtgabmemalaklbaaGreat

/- FnFiltrations is proved: for every input the law returns true and its input reads as it did. No condition. -/
namespace Go.Proofs.YtgabmemalaklbaaGreat
set_option linter.unusedVariables false
set_option linter.unusedSimpArgs false
open Go.RowKit Go.ChangeShapes Go.WideShapes Go.ChangeAt Go.Deep

set_option maxRecDepth 100000 in
set_option maxHeartbeats 800000 in
theorem fnFiltrations_big (A : Option Addr) (n c : Nat) (w : World) (hn : 1048576 < n) (hn2 : n ≤ 9223372036854775807) :
    Calls Tryz.prog 3 #[.slice A n c] w fun e w' => e = .returned (.bool true) ∧ Below w.heap.size w w' := by
  have hB : Calls Tryz.prog 4 #[.slice A n c] w fun e w' => e = .returned (.bool true) ∧ Below w.heap.size w w' := by
    have hd : decide ((n : Int) > 1048576) = true := decide_eq_true (by omega)
    go_enter Tryz.func4, Tryz.ntmps4
    go_wp2
    go_ret
    exact ⟨by first | rfl | (rw [show (true : Bool) = decide ((n : Int) > 1048576) from hd.symm]; rfl), Below.refl _ _⟩
  go_enter Tryz.func3, Tryz.ntmps3
  go_wp2_with fail
  refine hB.mono ?_; rintro e w1 ⟨rfl, hb1⟩
  go_wp2
  go_ret
  exact ⟨rfl, hb1⟩
set_option maxRecDepth 100000 in
theorem fnFiltrations_lifted (os : Os) (started : os.Started) (H : Type) (enc : TypeId × Value → H) :
    ReturnsInHanded {} Tryz.checked os 3 .any (Rows.fnFiltrationsSpec.pre6 enc Tryz.prog Tryz.f3 Rows.fnFiltrationsRow.domain false) (Rows.fnFiltrationsSpec.post enc Tryz.prog Tryz.f3 false true false false) := by
  refine lift_law started (by kernel_rfl) Tryz.func3 (ChangeSpec.witness6 (enc := enc) (C := Tryz.checked) false ⟨#[], #[.slice none 0 0], []⟩ 8 (by kernel_rfl) (by kernel_rfl) (by kernel_rfl) (by kernel_rfl))
    rfl rfl (by rw [Tryz.params3]; intro t ht; simp only [List.mem_cons, List.not_mem_nil, or_false] at ht; rcases ht with rfl <;> exact ⟨by kernel_rfl, of_decide_eq_true (by kernel_rfl)⟩) (fun ds hl => by rw [Tryz.params3] at hl; match ds, hl with | [_], _ => rfl) ?_
  intro W args ds ps base hval hA hwt
  rw [Tryz.params3] at hA hval hwt
  obtain ⟨v0, d0, hargs, rfl, h0⟩ := trodAll_one hA
  obtain rfl : args = #[v0] := by cases args; simp_all
  obtain ⟨f, h0'⟩ := argSl Tryz.underlying22 (hval 0 _ _ rfl rfl) h0
  obtain ⟨v, e, hx⟩ := openY h0'
  injection e with e
  subst e
  rcases hx with ⟨A, n, c, rfl, h1, h2⟩ | ⟨xs, hx⟩
  · exact fnFiltrations_big A n c W h1 h2
  · exact fnFiltrations_any _ xs W hx

theorem fnFiltrations_closed : joinedFacts Tryz.prog 3 Tryz.f3 Rows.fnFiltrationsSpec Rows.fnFiltrationsRow = true := by
  unfold joinedFacts
  refine band (band (band (band (band (band (band ?_ seatEnter) seatLifts) seatMake) ?_) ?_) ?_) ?_ <;> kernel_rfl

theorem fnFiltrations_holds : Rows.FnFiltrationsSaid :=
  OpenClaim.holds_of_wide 3 Tryz.f3 rfl rfl rfl rfl rfl rfl rfl ⟨rfl, rfl, rfl, rfl, rfl⟩ rfl rfl rfl rfl rfl (by kernel_rfl) Tryz.func3 fnFiltrations_closed
    (of_decide_eq_true (by kernel_rfl)) (by unfold Func.isWrapper; first | (rw [if_pos (by decide +kernel)]; kernel_rfl) | (rw [if_neg (by decide +kernel)]; exact ⟨rfl, rfl⟩))
    (fun os started H enc _ => fnFiltrations_lifted os started H enc)
#print axioms fnFiltrations_holds
end Go.Proofs.YtgabmemalaklbaaGreat
