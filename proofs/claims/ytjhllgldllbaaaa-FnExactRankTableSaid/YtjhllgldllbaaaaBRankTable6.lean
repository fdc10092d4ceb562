/- FnExactRankTable: for every argument the program's function returns what the reference's returns. Part 6 of 8 of the proof: RTab2, Mul3. No condition. -/
import Derived.Test.YtjhllgldllbaaaaBRankTable5
/- RankTable: the program's. -/
namespace Go.Proofs.Ytjhllgldllbaaaa
set_option linter.unusedVariables false
set_option linter.unusedSimpArgs false
open Go.RowKit

theorem run_mkII (w : World) {n : Nat} (hn : n ≤ 1000000) : (Instr.makeSlice 65 (.int .i64 (n : Int)) (.int .i64 (n : Int))).run Try.prog w = .ok (.slice (some ⟨w.heap.size, 0, none⟩) n n) (w.alloc (.cells (mkCells (.slice none 0 0) n) 22)) := by
  obtain ⟨i0, hi, hz0, hz1, hz2⟩ := info_parts infoInts
  have hmk := run_mk (P := Try.prog) Try.underlying65 hi hz0 (n := n) (by rw [hz2]; omega) (by omega)
  rw [hz1, Nat.mul_one] at hmk
  exact hmk w
theorem run_mkI (w : World) {n : Nat} (hn : n ≤ 1000000) : (Instr.makeSlice 22 (.int .i64 (n : Int)) (.int .i64 (n : Int))).run Try.prog w = .ok (.slice (some ⟨w.heap.size, 0, none⟩) n n) (w.alloc (.cells (mkCells (.int .i64 0) n) 3)) := by
  obtain ⟨i0, hi, hz0, hz1, hz2⟩ := info_parts infoInt
  have hmk := run_mk (P := Try.prog) Try.underlying22 hi hz0 (n := n) (by rw [hz2]; omega) (by omega)
  rw [hz1, Nat.mul_one] at hmk
  exact hmk w
set_option maxHeartbeats 6400000 in
set_option maxRecDepth 100000 in
theorem implRankTable_no (u : Value) (x : Rp) (w0 : World) (hu : RpR w0 w0.heap.size u x) (hno : okL x = false) :
    Calls Try.prog 54 #[u] w0 fun e w' => ∃ v, e = .returned (.tuple #[v, .bool (rtM x).2]) ∧ IntssO w' w0.heap.size w'.heap.size v (rtM x).1 ∧ Below w0.heap.size w0 w' := by
  have hu' := hu
  obtain ⟨A, a, C, c, E, e, H, h, rfl, hq, hd, hm, hp, ld, lm⟩ := hu.open_
  clear hu hd hm
  obtain ⟨W, hW⟩ : ∃ W, W = w0.alloc (.cells #[.int .i64 x.p, .int .i64 x.q.v, .slice A x.q.f.length a, .slice C x.q.t.length c, .slice E x.d.length e, .slice H x.m.length h] 29) := ⟨_, rfl⟩
  have g0 : Below w0.heap.size w0 W := by rw [hW]; exact below_alloc _ _
  have kB : Blk W w0.heap.size 29 #[.int .i64 x.p, .int .i64 x.q.v, .slice A x.q.f.length a, .slice C x.q.t.length c, .slice E x.d.length e, .slice H x.m.length h] := by rw [hW]; exact Blk.new _ _ _
  have HXR := Lib.hid (RpR.next g0 hu')
  have HF := Lib.hid (show rtM x = ([], false) by rw [rtM, if_neg (by simp [hno])])
  have HQ := Lib.hid (QvR.next g0 hq)
  rcases h1 : isRep x with _ | _
  · have H1 := Lib.hid h1
    clear h1 hu' hq
    have c0 := kB.cell' (i := 0) rfl
    have c1 := kB.cell' (i := 1) rfl
    have c2 := kB.cell' (i := 2) rfl
    have c3 := kB.cell' (i := 3) rfl
    have c4 := kB.cell' (i := 4) rfl
    have c5 := kB.cell' (i := 5) rfl
    go_enter Try.func54, Try.ntmps54
    go_wp2_with fail
    rw [← hW]; clear hW
    refine (implIsRep_any _ x _ HXR.out).mono ?_; rintro e w1 ⟨rfl, hb1⟩
    rw [H1.out]
    have g1 := bthen g0 hb1
    clear c0 c1 c2 c3 c4 c5 hb1 kB
    go_wp2
    go_ret2
    exact ⟨.slice none 0 0, by rw [HF.out]; rfl, by rw [HF.out]; exact IntssO.nil _ _ _, g1⟩
  · have H1 := Lib.hid h1
    have H2 := Lib.hid (show isL x.q = false by simpa [okL, h1] using hno)
    clear h1 hu' hq hno
    have c0 := kB.cell' (i := 0) rfl
    have c1 := kB.cell' (i := 1) rfl
    have c2 := kB.cell' (i := 2) rfl
    have c3 := kB.cell' (i := 3) rfl
    have c4 := kB.cell' (i := 4) rfl
    have c5 := kB.cell' (i := 5) rfl
    go_enter Try.func54, Try.ntmps54
    go_wp2_with fail
    rw [← hW]; clear hW
    refine (implIsRep_any _ x _ HXR.out).mono ?_; rintro e w1 ⟨rfl, hb1⟩
    rw [H1.out]
    have g1 := bthen g0 hb1
    have kB1 := kB.call hb1
    have HQ1 := Lib.hid (QvR.next hb1 HQ.out)
    clear c0 c1 c2 c3 c4 c5 hb1 kB g0
    have c0 := kB1.cell' (i := 0) rfl
    have c1 := kB1.cell' (i := 1) rfl
    have c2 := kB1.cell' (i := 2) rfl
    have c3 := kB1.cell' (i := 3) rfl
    have c4 := kB1.cell' (i := 4) rfl
    have c5 := kB1.cell' (i := 5) rfl
    go_wp2_with fail
    refine (implIsLine_any _ x.q _ HQ1.out).mono ?_; rintro e w2 ⟨rfl, hb2⟩
    rw [H2.out]
    have g2 := bthen g1 hb2
    clear c0 c1 c2 c3 c4 c5 hb2 kB1 g1
    go_wp2
    go_ret2
    exact ⟨.slice none 0 0, by rw [HF.out]; rfl, by rw [HF.out]; exact IntssO.nil _ _ _, g2⟩

set_option maxHeartbeats 6400000 in
set_option maxRecDepth 100000 in
theorem implRankTable_yes (u : Value) (x : Rp) (w0 : World) (hu : RpR w0 w0.heap.size u x) (hok : okL x = true) :
    Calls Try.prog 54 #[u] w0 fun e w' => ∃ v, e = .returned (.tuple #[v, .bool (rtM x).2]) ∧ IntssO w' w0.heap.size w'.heap.size v (rtM x).1 ∧ Below w0.heap.size w0 w' := by
  have hu' := hu
  obtain ⟨A, a, C, c, E, e, H, h, rfl, hq, hd, hm, hp, ld, lm⟩ := hu.open_
  clear hu lm
  obtain ⟨W, hW⟩ : ∃ W, W = w0.alloc (.cells #[.int .i64 x.p, .int .i64 x.q.v, .slice A x.q.f.length a, .slice C x.q.t.length c, .slice E x.d.length e, .slice H x.m.length h] 29) := ⟨_, rfl⟩
  have g0 : Below w0.heap.size w0 W := by rw [hW]; exact below_alloc _ _
  have kB : Blk W w0.heap.size 29 #[.int .i64 x.p, .int .i64 x.q.v, .slice A x.q.f.length a, .slice C x.q.t.length c, .slice E x.d.length e, .slice H x.m.length h] := by rw [hW]; exact Blk.new _ _ _
  have HXR := Lib.hid (RpR.next g0 hu')
  have HQ1 := Lib.hid (QvR.next g0 hq)
  clear hu'
  obtain ⟨h1, h2, h3, l1, l5, lm, hds, hms⟩ := okL_t hok
  have hpr := isFld_r h3
  have HF := Lib.hid (show rtM x = (matF x.d.length (rtF x), true) by rw [rtM, if_pos hok])
  have H1 := Lib.hid h1
  have H2 := Lib.hid h2
  have H3 := Lib.hid h3
  have HDS := Lib.hid hds
  have HMS := Lib.hid hms
  have HDA := Lib.hid (dN_all hok)
  have HQ := Lib.hid hq
  have HM := Lib.hid hm
  have HD := Lib.hid hd
  have LM := Lib.hid lm
  clear h1 h2 h3 hds hms hok hq hm hd lm
  obtain ⟨bd, od, ed, hbd⟩ : ∃ b o, E = some ⟨b, o, none⟩ ∧ b < w0.heap.size := by
    obtain ⟨b, o, _, h1, h2, _⟩ := SlI.at_ (k := 0) HD.out (by omega)
    exact ⟨b, o, h1, h2⟩
  subst ed
  have c0 := kB.cell' (i := 0) rfl
  have c1 := kB.cell' (i := 1) rfl
  have c2 := kB.cell' (i := 2) rfl
  have c3 := kB.cell' (i := 3) rfl
  have c4 := kB.cell' (i := 4) rfl
  have c5 := kB.cell' (i := 5) rfl
  go_enter Try.func54, Try.ntmps54
  go_wp2_with fail
  rw [← hW]; clear hW
  refine (implIsRep_any _ x _ HXR.out).mono ?_; rintro e w1 ⟨rfl, hb1⟩
  rw [H1.out]
  have g1 := bthen g0 hb1
  have kB1 := kB.call hb1
  have HQ2 := Lib.hid (QvR.next hb1 HQ1.out)
  clear c0 c1 c2 c3 c4 c5 hb1 kB g0
  have c0 := kB1.cell' (i := 0) rfl
  have c1 := kB1.cell' (i := 1) rfl
  have c2 := kB1.cell' (i := 2) rfl
  have c3 := kB1.cell' (i := 3) rfl
  have c4 := kB1.cell' (i := 4) rfl
  have c5 := kB1.cell' (i := 5) rfl
  go_wp2_with fail
  refine (implIsLine_any _ x.q _ HQ2.out).mono ?_; rintro e w2 ⟨rfl, hb2⟩
  rw [H2.out]
  have g2 := bthen g1 hb2
  have kB2 := kB1.call hb2
  clear c0 c1 c2 c3 c4 c5 hb2 kB1 g1
  obtain ⟨w3, hw3⟩ : ∃ u, u = w2.alloc (.cells (mkCells (.slice none 0 0) x.d.length) 22) := ⟨_, rfl⟩
  have b3 : Below w2.heap.size w2 w3 := by rw [hw3]; exact below_alloc _ _
  have iO : IntssO w3 w2.heap.size w3.heap.size (.slice (some ⟨w2.heap.size, 0, none⟩) x.d.length x.d.length) (rtA x.d.length (rtF x) 0) := by rw [hw3, rtA_0]; exact IntssO.made w2 (Nat.le_refl _) (by omega)
  have kB3 := kB2.call b3
  have g3 := bthen g2 b3
  have sg2 := g2.size
  have kBlt := kB2.lt
  have s23 : w2.heap.size < w3.heap.size := by rw [hw3]; simp
  have p2 := kB2.cell' (i := 4) rfl
  clear kB2 g2
  have hmk2 := run_mkII w2 (n := x.d.length) (by omega)
  rw [← hw3] at hmk2
  have c2 := kB3.cell' (i := 4) rfl
  clear hw3
  go_wp2
  clear hmk2 p2 c2
  go_loopw [25] (fun i wr => ∃ v : Nat, v ≤ x.d.length ∧ i = .int .i64 v ∧ Below w2.heap.size w3 wr ∧ IntssO wr w2.heap.size wr.heap.size (.slice (some ⟨w2.heap.size, 0, none⟩) x.d.length x.d.length) (rtA x.d.length (rtF x) v)) (fun i _ => x.d.length - (intOf i).toNat)
  case atStart => exact ⟨0, Nat.zero_le _, rfl, Below.refl _ _, iO⟩
  case round =>
    clear iO
    obtain ⟨v, hv, rfl, hbel, hO⟩ := hrel
    have ws := hbel.size
    have kBr := kB3.below hbel (by omega)
    have gw := g3.trans (hbel.mono (by omega))
    by_cases hlt : v < x.d.length
    · obtain ⟨bd', od', D0, ed, hbd', HX, x1, _⟩ := SlI.at_ (k := v) HD.out hlt
      injection ed with ed
      injection ed with ed1 ed2
      subst ed1 ed2
      have hx := HX.out
      rw [(HDS.out v hlt).1] at hx
      injection hx with hx
      subst hx
      have hDv := HDA.out v
      have x2 := bcell gw hbd x1
      obtain ⟨X, hX⟩ : ∃ u, u = wr.alloc (.cells (mkCells (.int .i64 0) x.d.length) 3) := ⟨_, rfl⟩
      have hmkX := run_mkI wr (n := x.d.length) (by omega)
      rw [← hX] at hmkX
      have bX : Below wr.heap.size wr X := by rw [hX]; exact below_alloc _ _
      have rX : IntsO X wr.heap.size X.heap.size (.slice (some ⟨wr.heap.size, 0, none⟩) x.d.length x.d.length) (List.replicate x.d.length 0) := by
        rw [hX]
        exact IntsO.of_own (OwnI.made0 (Nat.le_refl _) (by omega))
      have sX : X.heap.size = wr.heap.size + 1 := by rw [hX]; simp
      have hOX := hO.below bX
      obtain ⟨u0, y1, _, y2⟩ := hOX.row (j := v) (l := []) (by rw [rtA, List.getElem?_map, List.getElem?_range hlt]; simp)
      have y3 := (rX.1.cellG (j := v) (by simpa using hlt)).1
      have y4 := rX.1.frozenG v
      have st1 := hOX.setRow (j := v) (by rw [rtA_length]; exact hlt) rX (Nat.le_refl _) (by omega) (by omega)
      rw [rtA_set] at st1
      have st2 := st1.1.put (i := v) (x := rtF x v v) (rtB_get (rtF x) 0 hlt) (World.cell?_setCell_same _ _ _ y1) (by have := rtF_rng HDA.out v v; constructor <;> omega)
      rw [rtR_diag (rtF x) (fun w hw => rtF_low x hw), rtB_set, rtF_diag H3.out] at st2
      obtain ⟨Z, hZ⟩ : ∃ u, u = (X.setCell ⟨w2.heap.size, v, none⟩ (.slice (some ⟨wr.heap.size, 0, none⟩) x.d.length x.d.length)).setCell ⟨wr.heap.size, v, none⟩ (.int .i64 (dN x v)) := ⟨_, rfl⟩
      have hOZ : IntssO Z w2.heap.size X.heap.size (.slice (some ⟨w2.heap.size, 0, none⟩) x.d.length x.d.length) (rtB x.d.length (rtF x) v (v + 1)) := by rw [hZ]; exact st2.1
      have sZ : Z.heap.size = wr.heap.size + 1 := by rw [hZ]; simpa using sX
      have bZ : Below w2.heap.size w3 Z := by
        rw [hZ]
        exact (hbel.trans (bX.mono (by omega))).trans ((st1.2.below (Nat.le_refl _) (by omega)).trans (below_grown st2.2 (fun k hk => by injection hk with hk; omega) (by simp; omega)))
      have rZ : Z.cell? ⟨w2.heap.size, v, none⟩ = some (.slice (some ⟨wr.heap.size, 0, none⟩) x.d.length x.d.length) := by
        rw [hZ, World.cell?_setCell_far _ _ _ _ (show wr.heap.size ≠ w2.heap.size by omega)]
        exact World.cell?_setCell_same _ _ _ y1
      have p2 := kBr.cell' (i := 4) rfl
      have HOZ := Lib.hid hOZ
      have BZ := Lib.hid bZ
      have RZ := Lib.hid rZ
      have q2 := (kBr.call bX).cell' (i := 4) rfl
      clear hO hOX st1 st2 rX bX hX hbel HX x1 hOZ bZ rZ
      go_wp2_with fail
      rw [← hZ]; clear hZ hmkX y1 y2 y3 y4 p2 q2 x2
      refine (identity_any (dN x v) _ (by omega)).mono ?_; rintro e w4 ⟨m4, rfl, hI, hb4⟩
      obtain ⟨MA, mc, em⟩ := hI.form
      subst em
      simp only [mxF, flat_length] at hI ⊢
      obtain ⟨MN, hMN⟩ : ∃ z, dN x v * dN x v = z := ⟨_, rfl⟩
      rw [hMN] at hI ⊢
      obtain ⟨s4, es, oI, _, _⟩ := hI
      simp only [Value.agg.injEq, Array.mk.injEq, List.cons.injEq, and_true, true_and] at es
      subst es
      obtain ⟨w5, hw5⟩ : ∃ u, u = w4.alloc (.cells #[.int .i64 (dN x v), .int .i64 (dN x v), .slice MA MN mc] 75) := ⟨_, rfl⟩
      have b5 : Below w4.heap.size w4 w5 := by rw [hw5]; exact below_alloc _ _
      have k5 : Blk w5 w4.heap.size 75 #[.int .i64 (dN x v), .int .i64 (dN x v), .slice MA MN mc] := by rw [hw5]; exact Blk.new _ _ _
      have b45 := bthen hb4 b5
      have s45 := b45.size
      have s4 := hb4.size
      have s5 : w5.heap.size = w4.heap.size + 1 := by rw [hw5]; simp
      have oI5 : IntsO w5 Z.heap.size w4.heap.size (.slice MA MN mc) (flat (dN x (v + 0)) (dN x v) (pdF x v 0)) := by
        have := oI.below b5
        exact this
      have hO5 := HOZ.out.below b45
      have B5 := BZ.out.trans (b45.mono (by omega))
      have r5 := bcell b45 (by omega) RZ.out
      obtain ⟨G, hG⟩ : ∃ z, z = wr.heap.size := ⟨_, rfl⟩
      rw [← hG] at r5 sZ sX
      have hG2 : w2.heap.size < G := by omega
      clear hG
      clear oI b5 hb4 hMN b45
      go_wp2
      rw [← hw5]; clear hw5
      go_loopw [8] (fun i wr => ∃ (n NN K : Nat) (MA : Option Addr) (mc : Nat), v + 1 + n ≤ x.d.length ∧ i = .int .i64 (K : Int) ∧ Hid (K = v + 1 + n) ∧ Below w2.heap.size w3 wr ∧ w5.heap.size ≤ wr.heap.size ∧ IntssO wr w2.heap.size Z.heap.size (.slice (some ⟨w2.heap.size, 0, none⟩) x.d.length x.d.length) (rtB x.d.length (rtF x) v (v + 1 + n)) ∧
        wr.cell? ⟨w2.heap.size, v, none⟩ = some (.slice (some ⟨G, 0, none⟩) x.d.length x.d.length) ∧
        Blk wr w4.heap.size 75 #[.int .i64 (dN x (v + n)), .int .i64 (dN x v), .slice MA NN mc] ∧ IntsO wr Z.heap.size wr.heap.size (.slice MA NN mc) (flat (dN x (v + n)) (dN x v) (pdF x v n))) (fun i _ => x.d.length - (intOf i).toNat)
      case atStart => exact ⟨0, MN, v + 1, MA, mc, by omega, by simp, rfl, B5, Nat.le_refl _, hO5.wider (Nat.le_refl _) (by omega), r5, k5, oI5.wider (Nat.le_refl _) (by omega)⟩
      case round =>
        clear hO5 r5 k5 oI5 B5 ws kBr gw
        obtain ⟨n, NN, K, MA, mc, hn, rfl, HK, hbel, hs, hO, hr, k5, oM⟩ := hrel
        have kBr := kB3.below hbel (by omega)
        have gw := g3.trans (hbel.mono (by omega))
        have k4 := kBr.cell' (i := 4) rfl
        have hK1 : K ≤ v + 1 + n := Nat.le_of_eq HK.out
        have hK2 : v + 1 + n ≤ K := Nat.le_of_eq HK.out.symm
        by_cases hlw : K < x.d.length
        · obtain ⟨J, hJ⟩ : ∃ z, z = v + n := ⟨_, rfl⟩
          have hJ1 : J + 1 ≤ K := by omega
          have hJ2 : K ≤ J + 1 := by omega
          obtain ⟨hm1, hm2⟩ := HMS.out (v + n) (by omega)
          have hml : v + n < x.m.length := by have := LM.out; omega
          obtain ⟨bm, om, m1, A1, c1', eH, hbm, HM1, z0, z1, z2, hs1, i1, i2, _⟩ := SlM.at_ (k := v + n) HM.out hml
          subst eH
          have em1 := HM1.out
          rw [hm1] at em1
          injection em1 with em1
          subst em1
          have hMB : MxR w0 w0.heap.size (.agg #[.int .i64 (dN x (v + n + 1)), .int .i64 (dN x (v + n)), .slice A1 (flat (dN x (v + n + 1)) (dN x (v + n)) (mpF x (v + n))).length c1']) (mxF (dN x (v + n + 1)) (dN x (v + n)) (mpF x (v + n))) := ⟨_, rfl, hs1, i1, i2⟩
          simp only [mxF, flat_length] at hMB z0 z1 z2
          obtain ⟨ML, hML⟩ : ∃ z, dN x (v + n + 1) * dN x (v + n) = z := ⟨_, rfl⟩
          rw [hML] at hMB z2
          obtain ⟨y, hy⟩ : ∃ y, y = x := ⟨_, rfl⟩
          subst hy
          obtain ⟨D0, hD0⟩ : ∃ z, dN y v = z := ⟨_, rfl⟩
          obtain ⟨D1, hD1⟩ : ∃ z, dN y (v + n) = z := ⟨_, rfl⟩
          obtain ⟨D2, hD2⟩ : ∃ z, dN y (v + n + 1) = z := ⟨_, rfl⟩
          have inP := pdF_inF H3.out v n
          have inP1 := pdF_inF H3.out v (n + 1)
          have hp1 : pdF y v (n + 1) = muP y.p D1 (mpF y (v + n)) (pdF y v n) := by rw [pdF, hD1]
          have hrt : rtF y v K = (rkF y.p D2 D0 (pdF y v (n + 1)) : Int) := by
            rw [rtF, if_neg (by omega), show K - v = n + 1 by omega, show K = v + n + 1 by omega, hD2, hD0]
          have hd0 := HDA.out v
          have hd1 := HDA.out (v + n)
          have hd2 := HDA.out (v + n + 1)
          rw [hD0] at oM k5 hd0 inP inP1
          rw [hD1] at oM k5 hd1 inP hm2 hMB z1
          rw [hD2] at hd2 hm2 hMB z0
          rw [show v + (n + 1) = v + n + 1 from rfl, hD2, hp1] at inP1
          rw [← hJ] at z0 z1 z2
          have HJ := Lib.hid hJ
          have hJm : J < y.m.length := by omega
          have HP1 := Lib.hid hp1
          have HRT := Lib.hid hrt
          have HMB := Lib.hid hMB
          have HIN1 := Lib.hid hm2
          have HINP := Lib.hid inP
          have HINP1 := Lib.hid inP1
          have HOM := Lib.hid oM
          have HBEL := Lib.hid hbel
          have HOO := Lib.hid hO
          have HGW := Lib.hid gw
          have gws := gw.size
          have HD2 := Lib.hid hD2
          have HD0 := Lib.hid hD0
          have k0 := kBr.cell' (i := 0) rfl
          clear hm1 hm2 hml hs1 i1 i2 HM1 hMB hML hD0 hD1 hD2 inP inP1 hp1 hrt oM hbel hO gw k0 hJ
          go_wp2
          clear k4
          refine wp_region_net (by kernel_rfl) [.eq (.pointer (some ⟨w0.heap.size, 0, none⟩)), .eq (.int .i64 y.p), .eq (.pointer (some ⟨w0.heap.size, 5, none⟩)), .eq (.slice (some ⟨bm, om, none⟩) y.m.length h), .eq (.int .i64 (K : Int)), .eq (.int .i64 (J : Int)), .eq (.pointer (some ⟨bm, om + J * 3, none⟩)), .eq (.agg #[.int .i64 D2, .int .i64 D1, .slice A1 ML c1']), .eq (.agg #[.int .i64 D1, .int .i64 D0, .slice MA NN mc]), rel 9 (fun u lo hi w => MxO w lo hi u (mxF D2 D0 (muP y.p D1 (mpF y (v + n)) (pdF y v n))))] [[], [0], [], [2], [], [4], [2, 3, 4, 5], [2, 3, 4, 5, 6], [], [0, 1, 2, 3, 4, 5, 6, 7, 8], [0, 1, 2, 3, 4, 5, 6, 7, 8, 9]] 10 (by kernel_rfl) ⟨trivial, trivial, trivial, trivial, trivial, trivial, trivial, trivial, trivial, rel_stable (fun u lo hi w w' h hb => h.below hb), trivial⟩ ⟨?_, ?_, ?_, ?_, ?_, ?_, ?_, ?_, ?_, ?_, trivial⟩ ?_
          · intro x w hb hk Q' hQ
            clear hk
            simp only [netAct, dstAt, List.getElem?_toArray, List.getElem?_cons_zero, List.getElem?_cons_succ, Option.bind_some, Act.put, List.setIfInBounds_toArray, List.set_cons_zero, List.set_cons_succ] at hQ ⊢
            go_wp2
            exact hQ (.pointer (some ⟨w0.heap.size, 0, none⟩)) _ (Below.refl _ _) rfl
          · intro x w hb hk Q' hQ
            have h0 : x.v 0 = .pointer (some ⟨w0.heap.size, 0, none⟩) := (hk 0 (by decide)).1
            clear hk
            simp only [netAct, dstAt, List.getElem?_toArray, List.getElem?_cons_zero, List.getElem?_cons_succ, Option.bind_some, Act.put, List.setIfInBounds_toArray, List.set_cons_zero, List.set_cons_succ] at hQ ⊢
            simp only [h0] at hQ ⊢
            clear h0
            have q0 := (kBr.call hb).cell' (i := 0) rfl
            go_wp2
            exact hQ (.int .i64 y.p) _ (Below.refl _ _) rfl
          · intro x w hb hk Q' hQ
            clear hk
            simp only [netAct, dstAt, List.getElem?_toArray, List.getElem?_cons_zero, List.getElem?_cons_succ, Option.bind_some, Act.put, List.setIfInBounds_toArray, List.set_cons_zero, List.set_cons_succ] at hQ ⊢
            go_wp2
            exact hQ (.pointer (some ⟨w0.heap.size, 5, none⟩)) _ (Below.refl _ _) rfl
          · intro x w hb hk Q' hQ
            have h2 : x.v 2 = .pointer (some ⟨w0.heap.size, 5, none⟩) := (hk 2 (by decide)).1
            clear hk
            simp only [netAct, dstAt, List.getElem?_toArray, List.getElem?_cons_zero, List.getElem?_cons_succ, Option.bind_some, Act.put, List.setIfInBounds_toArray, List.set_cons_zero, List.set_cons_succ] at hQ ⊢
            simp only [h2] at hQ ⊢
            clear h2
            have q0 := (kBr.call hb).cell' (i := 5) rfl
            go_wp2
            exact hQ (.slice (some ⟨bm, om, none⟩) y.m.length h) _ (Below.refl _ _) rfl
          · intro x w hb hk Q' hQ
            clear hk
            simp only [netAct, dstAt, List.getElem?_toArray, List.getElem?_cons_zero, List.getElem?_cons_succ, Option.bind_some, Act.put, List.setIfInBounds_toArray, List.set_cons_zero, List.set_cons_succ] at hQ ⊢
            go_wp2
            exact hQ (.int .i64 (K : Int)) _ (Below.refl _ _) rfl
          · intro x w hb hk Q' hQ
            have h4 : x.v 4 = .int .i64 (K : Int) := (hk 4 (by decide)).1
            clear hk
            simp only [netAct, dstAt, List.getElem?_toArray, List.getElem?_cons_zero, List.getElem?_cons_succ, Option.bind_some, Act.put, List.setIfInBounds_toArray, List.set_cons_zero, List.set_cons_succ] at hQ ⊢
            simp only [h4] at hQ ⊢
            clear h4
            go_wp2
            rw [show (K : Int) - 1 = (J : Int) by omega]
            exact hQ (.int .i64 (J : Int)) _ (Below.refl _ _) rfl
          · intro x w hb hk Q' hQ
            have h3 : x.v 3 = .slice (some ⟨bm, om, none⟩) y.m.length h := (hk 3 (by decide)).1
            have h5 : x.v 5 = .int .i64 (J : Int) := (hk 5 (by decide)).1
            clear hk
            simp only [netAct, dstAt, List.getElem?_toArray, List.getElem?_cons_zero, List.getElem?_cons_succ, Option.bind_some, Act.put, List.setIfInBounds_toArray, List.set_cons_zero, List.set_cons_succ] at hQ ⊢
            simp only [h3, h5] at hQ ⊢
            clear h3 h5
            go_wp2
            exact hQ (.pointer (some ⟨bm, om + J * 3, none⟩)) _ (Below.refl _ _) rfl
          · intro x w hb hk Q' hQ
            have h6 : x.v 6 = .pointer (some ⟨bm, om + J * 3, none⟩) := (hk 6 (by decide)).1
            clear hk
            simp only [netAct, dstAt, List.getElem?_toArray, List.getElem?_cons_zero, List.getElem?_cons_succ, Option.bind_some, Act.put, List.setIfInBounds_toArray, List.set_cons_zero, List.set_cons_succ] at hQ ⊢
            simp only [h6] at hQ ⊢
            clear h6
            have gq := (HGW.out).trans (hb.mono (HGW.out).size)
            have q0 := bcell gq hbm z0
            have q1 := bcell gq hbm z1
            have q2 := bcell gq hbm z2
            go_wp2
            exact hQ (.agg #[.int .i64 D2, .int .i64 D1, .slice A1 ML c1']) _ (Below.refl _ _) rfl
          · intro x w hb hk Q' hQ
            clear hk
            simp only [netAct, dstAt, List.getElem?_toArray, List.getElem?_cons_zero, List.getElem?_cons_succ, Option.bind_some, Act.put, List.setIfInBounds_toArray, List.set_cons_zero, List.set_cons_succ] at hQ ⊢
            have kq := k5.call hb
            have q0 := kq.cell' (i := 0) rfl
            have q1 := kq.cell' (i := 1) rfl
            have q2 := kq.cell' (i := 2) rfl
            go_wp2
            exact hQ (.agg #[.int .i64 D1, .int .i64 D0, .slice MA NN mc]) _ (Below.refl _ _) rfl
          · intro x w hb hk Q' hQ
            have h0 : x.v 0 = .pointer (some ⟨w0.heap.size, 0, none⟩) := (hk 0 (by decide)).1
            have h1 : x.v 1 = .int .i64 y.p := (hk 1 (by decide)).1
            have h2 : x.v 2 = .pointer (some ⟨w0.heap.size, 5, none⟩) := (hk 2 (by decide)).1
            have h3 : x.v 3 = .slice (some ⟨bm, om, none⟩) y.m.length h := (hk 3 (by decide)).1
            have h4 : x.v 4 = .int .i64 (K : Int) := (hk 4 (by decide)).1
            have h5 : x.v 5 = .int .i64 (J : Int) := (hk 5 (by decide)).1
            have h6 : x.v 6 = .pointer (some ⟨bm, om + J * 3, none⟩) := (hk 6 (by decide)).1
            have h7 : x.v 7 = .agg #[.int .i64 D2, .int .i64 D1, .slice A1 ML c1'] := (hk 7 (by decide)).1
            have h8 : x.v 8 = .agg #[.int .i64 D1, .int .i64 D0, .slice MA NN mc] := (hk 8 (by decide)).1
            clear hk
            simp only [netAct, dstAt, List.getElem?_toArray, List.getElem?_cons_zero, List.getElem?_cons_succ, Option.bind_some, Act.put, List.setIfInBounds_toArray, List.set_cons_zero, List.set_cons_succ] at hQ ⊢
            simp only [h0, h1, h2, h3, h4, h5, h6, h7, h8] at hQ ⊢
            clear h0 h1 h2 h3 h4 h5 h6 h7 h8
            have gq := (HGW.out).trans (hb.mono (HGW.out).size)
            have HMR := Lib.hid (MxR.more gq.size (MxR.below gq HMB.out))
            have hM := (HOM.out.below hb).rd
            have HMM : Hid (MxR w w.heap.size (.agg #[.int .i64 D1, .int .i64 D0, .slice MA NN mc]) (mxF D1 D0 (pdF y v n))) := ⟨_, rfl, hM, by constructor <;> simp [mxF] <;> omega, by constructor <;> simp [mxF] <;> omega⟩
            clear gq hM
            go_wp2_with fail
            refine (times_any y.p _ _ D2 D1 D0 _ _ _ hpr (by omega) (by omega) (by omega) HMR.out HMM.out HIN1.out HINP.out).mono ?_; rintro e w6 ⟨m6, rfl, hM6, hb6⟩
            go_wp2
            exact hQ _ _ hb6 hM6
          · intro x w hb hk hiv hdj
            have h0 : x.v 0 = .pointer (some ⟨w0.heap.size, 0, none⟩) := hk 0 (by decide)
            have h1 : x.v 1 = .int .i64 y.p := hk 1 (by decide)
            have h2 : x.v 2 = .pointer (some ⟨w0.heap.size, 5, none⟩) := hk 2 (by decide)
            have h3 : x.v 3 = .slice (some ⟨bm, om, none⟩) y.m.length h := hk 3 (by decide)
            have h4 : x.v 4 = .int .i64 (K : Int) := hk 4 (by decide)
            have h5 : x.v 5 = .int .i64 (J : Int) := hk 5 (by decide)
            have h6 : x.v 6 = .pointer (some ⟨bm, om + J * 3, none⟩) := hk 6 (by decide)
            have h7 : x.v 7 = .agg #[.int .i64 D2, .int .i64 D1, .slice A1 ML c1'] := hk 7 (by decide)
            have h8 : x.v 8 = .agg #[.int .i64 D1, .int .i64 D0, .slice MA NN mc] := hk 8 (by decide)
            have h9 : MxO w (x.lo 9) (x.hi 9) (x.v 9) (mxF D2 D0 (muP y.p D1 (mpF y (v + n)) (pdF y v n))) := hk 9 (by decide)
            clear hk
            simp only [netAct, dstAt, List.getElem?_toArray, List.getElem?_cons_zero, List.getElem?_cons_succ, Option.bind_some, Act.put, List.setIfInBounds_toArray, List.set_cons_zero, List.set_cons_succ]
            simp only [List.drop_succ_cons, List.drop_zero, h0, h1, h2, h3, h4, h5, h6, h7, h8]
            clear h0 h1 h2 h3 h4 h5 h6 h7 h8
            obtain ⟨i9a, i9b, i9c⟩ := hiv 9 (by decide)
            obtain ⟨MB, mb, e9⟩ := h9.form
            have h9' := h9
            rw [e9] at h9' ⊢
            simp only [mxF, flat_length] at h9' ⊢
            obtain ⟨MS, hMS⟩ : ∃ z, D2 * D0 = z := ⟨_, rfl⟩
            rw [hMS] at h9' ⊢
            obtain ⟨sq, eq, oN, _, _⟩ := h9'
            simp only [Value.agg.injEq, Array.mk.injEq, List.cons.injEq, and_true, true_and] at eq
            subst eq
            have kq := k5.call hb
            have q0 := kq.cell' (i := 0) rfl
            have q1 := kq.cell' (i := 1) rfl
            have q2 := kq.cell' (i := 2) rfl
            have qf := kq.frozen
            have hws := hb.size
            have hc := chg3 w w4.heap.size (.int .i64 D2) (.int .i64 D0) (.slice MB MS mb)
            obtain ⟨Y, hY⟩ : ∃ u, u = ((w.setCell ⟨w4.heap.size, 0, none⟩ (.int .i64 D2)).setCell ⟨w4.heap.size, 1, none⟩ (.int .i64 D0)).setCell ⟨w4.heap.size, 2, none⟩ (.slice MB MS mb) := ⟨_, rfl⟩
            rw [← hY] at hc
            have kY : Blk Y w4.heap.size 75 #[.int .i64 D2, .int .i64 D0, .slice MB MS mb] := by
              rw [hY]
              exact ((kq.set_ 0 (.int .i64 D2)).set_ 1 (.int .i64 D0)).set_ 2 (.slice MB MS mb)
            have hOY := (HOO.out.below hb).chg hc (.inl (by omega))
            have hbY := (HBEL.out.trans (hb.mono (by omega))).trans (hc.below (by omega) (by omega))
            have hrY := bcell (hc.below (Nat.le_refl _) (by omega)) (show w2.heap.size < w4.heap.size by omega) (bcell hb (by omega) hr)
            have oNY := oN.chg hc (.inr (by omega))
            have hsY : Y.heap.size = w.heap.size := by rw [hY]; simp
            have HSY := Lib.hid hsY
            have kBY := kB3.below hbY (by omega)
            clear hMS h9 e9 oN hc hiv hdj kq hb k5 hr
            go_wp2
            rw [← hY]
            clear hY q0 q1 q2 qf
            have hRKL := rkF_le y.p D2 D0 (pdF y v (n + 1))
            obtain ⟨rk, hrk⟩ : ∃ z, rkF y.p D2 D0 (pdF y v (n + 1)) = z := ⟨_, rfl⟩
            rw [hrk] at hRKL
            have HRK := Lib.hid hrk
            have HHR := Lib.hid (show rtF y v K = (rk : Int) by rw [HRT.out, hrk])
            have HOY := Lib.hid hOY
            have HBY := Lib.hid hbY
            have HRY := Lib.hid hrY
            have ONY := Lib.hid oNY
            have hsY1 : w.heap.size ≤ Y.heap.size := Nat.le_of_eq HSY.out.symm
            clear hrk hOY hbY hrY oNY hsY
            refine wp_region_net (by kernel_rfl) [.eq (.slice (some ⟨w2.heap.size, 0, none⟩) y.d.length y.d.length), .eq (.int .i64 v), .eq (.pointer (some ⟨w2.heap.size, v, none⟩)), .eq (.slice (some ⟨G, 0, none⟩) y.d.length y.d.length), .eq (.int .i64 (K : Int)), .eq (.pointer (some ⟨w0.heap.size, 0, none⟩)), .eq (.int .i64 y.p), .eq (.agg #[.int .i64 D2, .int .i64 D0, .slice MB MS mb]), .eq (.int .i64 (rk : Int)), .eq (.pointer (some ⟨G, K, none⟩))] [[], [], [0, 1], [0, 1, 2], [], [], [5], [], [5, 6, 7], [0, 1, 2, 3, 4, 5, 6, 7, 8], [0, 1, 2, 3, 4, 5, 6, 7, 8, 9]] 10 (by kernel_rfl) ⟨trivial, trivial, trivial, trivial, trivial, trivial, trivial, trivial, trivial, trivial, trivial⟩ ⟨?_, ?_, ?_, ?_, ?_, ?_, ?_, ?_, ?_, ?_, trivial⟩ ?_
            · intro x w hb hk Q' hQ
              clear hk
              simp only [netAct, dstAt, List.getElem?_toArray, List.getElem?_cons_zero, List.getElem?_cons_succ, Option.bind_some, Act.put, List.setIfInBounds_toArray, List.set_cons_zero, List.set_cons_succ] at hQ ⊢
              go_wp2
              exact hQ (.slice (some ⟨w2.heap.size, 0, none⟩) y.d.length y.d.length) _ (Below.refl _ _) rfl
            · intro x w hb hk Q' hQ
              clear hk
              simp only [netAct, dstAt, List.getElem?_toArray, List.getElem?_cons_zero, List.getElem?_cons_succ, Option.bind_some, Act.put, List.setIfInBounds_toArray, List.set_cons_zero, List.set_cons_succ] at hQ ⊢
              go_wp2
              exact hQ (.int .i64 v) _ (Below.refl _ _) rfl
            · intro x w hb hk Q' hQ
              have h0 : x.v 0 = .slice (some ⟨w2.heap.size, 0, none⟩) y.d.length y.d.length := (hk 0 (by decide)).1
              have h1 : x.v 1 = .int .i64 v := (hk 1 (by decide)).1
              clear hk
              simp only [netAct, dstAt, List.getElem?_toArray, List.getElem?_cons_zero, List.getElem?_cons_succ, Option.bind_some, Act.put, List.setIfInBounds_toArray, List.set_cons_zero, List.set_cons_succ] at hQ ⊢
              simp only [h0, h1] at hQ ⊢
              clear h0 h1
              go_wp2
              exact hQ (.pointer (some ⟨w2.heap.size, v, none⟩)) _ (Below.refl _ _) rfl
            · intro x w hb hk Q' hQ
              have h2 : x.v 2 = .pointer (some ⟨w2.heap.size, v, none⟩) := (hk 2 (by decide)).1
              clear hk
              simp only [netAct, dstAt, List.getElem?_toArray, List.getElem?_cons_zero, List.getElem?_cons_succ, Option.bind_some, Act.put, List.setIfInBounds_toArray, List.set_cons_zero, List.set_cons_succ] at hQ ⊢
              simp only [h2] at hQ ⊢
              clear h2
              have q0 := bcell hb (by omega) HRY.out
              go_wp2
              exact hQ (.slice (some ⟨G, 0, none⟩) y.d.length y.d.length) _ (Below.refl _ _) rfl
            · intro x w hb hk Q' hQ
              clear hk
              simp only [netAct, dstAt, List.getElem?_toArray, List.getElem?_cons_zero, List.getElem?_cons_succ, Option.bind_some, Act.put, List.setIfInBounds_toArray, List.set_cons_zero, List.set_cons_succ] at hQ ⊢
              go_wp2
              exact hQ (.int .i64 (K : Int)) _ (Below.refl _ _) rfl
            · intro x w hb hk Q' hQ
              clear hk
              simp only [netAct, dstAt, List.getElem?_toArray, List.getElem?_cons_zero, List.getElem?_cons_succ, Option.bind_some, Act.put, List.setIfInBounds_toArray, List.set_cons_zero, List.set_cons_succ] at hQ ⊢
              go_wp2
              exact hQ (.pointer (some ⟨w0.heap.size, 0, none⟩)) _ (Below.refl _ _) rfl
            · intro x w hb hk Q' hQ
              have h5 : x.v 5 = .pointer (some ⟨w0.heap.size, 0, none⟩) := (hk 5 (by decide)).1
              clear hk
              simp only [netAct, dstAt, List.getElem?_toArray, List.getElem?_cons_zero, List.getElem?_cons_succ, Option.bind_some, Act.put, List.setIfInBounds_toArray, List.set_cons_zero, List.set_cons_succ] at hQ ⊢
              simp only [h5] at hQ ⊢
              clear h5
              have q0 := (kBY.call hb).cell' (i := 0) rfl
              go_wp2
              exact hQ (.int .i64 y.p) _ (Below.refl _ _) rfl
            · intro x w hb hk Q' hQ
              clear hk
              simp only [netAct, dstAt, List.getElem?_toArray, List.getElem?_cons_zero, List.getElem?_cons_succ, Option.bind_some, Act.put, List.setIfInBounds_toArray, List.set_cons_zero, List.set_cons_succ] at hQ ⊢
              have kq := kY.call hb
              have q0 := kq.cell' (i := 0) rfl
              have q1 := kq.cell' (i := 1) rfl
              have q2 := kq.cell' (i := 2) rfl
              go_wp2
              exact hQ (.agg #[.int .i64 D2, .int .i64 D0, .slice MB MS mb]) _ (Below.refl _ _) rfl
            · intro x w hb hk Q' hQ
              have h6 : x.v 6 = .int .i64 y.p := (hk 6 (by decide)).1
              have h7 : x.v 7 = .agg #[.int .i64 D2, .int .i64 D0, .slice MB MS mb] := (hk 7 (by decide)).1
              clear hk
              simp only [netAct, dstAt, List.getElem?_toArray, List.getElem?_cons_zero, List.getElem?_cons_succ, Option.bind_some, Act.put, List.setIfInBounds_toArray, List.set_cons_zero, List.set_cons_succ] at hQ ⊢
              simp only [h6, h7] at hQ ⊢
              clear h6 h7
              have hM := (ONY.out.below hb).rd
              have HMM : Hid (MxR w w.heap.size (.agg #[.int .i64 D2, .int .i64 D0, .slice MB MS mb]) (mxF D2 D0 (pdF y v (n + 1)))) := ⟨_, rfl, by rw [HP1.out]; exact hM, by constructor <;> simp [mxF] <;> omega, by constructor <;> simp [mxF] <;> omega⟩
              clear hM
              go_wp2_with fail
              refine (implRank_any y.p _ D2 D0 (pdF y v (n + 1)) _ H3.out (by omega) (by omega) HMM.out (by rw [HP1.out]; exact HINP1.out)).mono ?_; rintro e w6 ⟨rfl, hb6⟩
              rw [HRK.out]
              go_wp2
              exact hQ _ _ hb6 rfl
            · intro x w hb hk Q' hQ
              have h3 : x.v 3 = .slice (some ⟨G, 0, none⟩) y.d.length y.d.length := (hk 3 (by decide)).1
              have h4 : x.v 4 = .int .i64 (K : Int) := (hk 4 (by decide)).1
              clear hk
              simp only [netAct, dstAt, List.getElem?_toArray, List.getElem?_cons_zero, List.getElem?_cons_succ, Option.bind_some, Act.put, List.setIfInBounds_toArray, List.set_cons_zero, List.set_cons_succ] at hQ ⊢
              simp only [h3, h4] at hQ ⊢
              clear h3 h4
              go_wp2
              exact hQ (.pointer (some ⟨G, K, none⟩)) _ (Below.refl _ _) rfl
            · intro x w hb hk hiv hdj
              have h0 : x.v 0 = .slice (some ⟨w2.heap.size, 0, none⟩) y.d.length y.d.length := hk 0 (by decide)
              have h1 : x.v 1 = .int .i64 v := hk 1 (by decide)
              have h2 : x.v 2 = .pointer (some ⟨w2.heap.size, v, none⟩) := hk 2 (by decide)
              have h3 : x.v 3 = .slice (some ⟨G, 0, none⟩) y.d.length y.d.length := hk 3 (by decide)
              have h4 : x.v 4 = .int .i64 (K : Int) := hk 4 (by decide)
              have h5 : x.v 5 = .pointer (some ⟨w0.heap.size, 0, none⟩) := hk 5 (by decide)
              have h6 : x.v 6 = .int .i64 y.p := hk 6 (by decide)
              have h7 : x.v 7 = .agg #[.int .i64 D2, .int .i64 D0, .slice MB MS mb] := hk 7 (by decide)
              have h8 : x.v 8 = .int .i64 (rk : Int) := hk 8 (by decide)
              have h9 : x.v 9 = .pointer (some ⟨G, K, none⟩) := hk 9 (by decide)
              clear hk
              simp only [netAct, dstAt, List.getElem?_toArray, List.getElem?_cons_zero, List.getElem?_cons_succ, Option.bind_some, Act.put, List.setIfInBounds_toArray, List.set_cons_zero, List.set_cons_succ]
              simp only [List.drop_succ_cons, List.drop_zero, h0, h1, h2, h3, h4, h5, h6, h7, h8, h9]
              clear h0 h1 h2 h3 h4 h5 h6 h7 h8 h9
              have hws2 := hb.size
              have hO2 := HOY.out.below hb
              have hr2 := bcell hb (show w2.heap.size < Y.heap.size by omega) HRY.out
              have st := hO2.put (i := K) (x := (rk : Int)) (rtB_get (rtF y) (v + 1 + n) hlt) hr2 (by constructor <;> omega)
              obtain ⟨uu, cs1, io1, _⟩ := hO2.row (rtB_get (rtF y) (v + 1 + n) hlt)
              rw [hr2] at cs1
              injection cs1 with cs1
              subst cs1
              have y3 := (io1.1.cellG (j := K) (by rw [rtR, rowF_length]; exact hlw)).1
              have y4 := io1.1.frozenG K
              rw [← HHR.out, HK.out, rtR_set, rtB_set, ← HK.out, HHR.out] at st
              have hg := st.2
              have hc3 : Chg G (G + 1) w (w.setCell ⟨G, K, none⟩ (.int .i64 (rk : Int))) := chg_set (Nat.le_refl _) (Nat.lt_succ_self _)
              have kY2 := (kY.call hb).chg hc3 (.inr (by omega))
              have oN2 := (ONY.out.below hb).chg hc3 (.inr (by omega))
              have bY2 := (HBY.out.trans (hb.mono (by omega))).trans (hc3.below (by omega) (by omega))
              have rY2 := bcell (hc3.below (Nat.le_refl _) (by omega)) hG2 hr2
              have HST := Lib.hid st.1
              have HK2' := Lib.hid kY2
              have HON2 := Lib.hid oN2
              have HB2 := Lib.hid bY2
              have HR2 := Lib.hid rY2
              clear st hg hc3 kY2 oN2 bY2 rY2 hr2 hO2 io1 kY hb hiv hdj kBY
              go_wp2
              go_roundw
              case rel => exact ⟨n + 1, MS, K + 1, MB, mb, by omega, by go_num, (by show K + 1 = v + 1 + (n + 1); omega), HB2.out, by simp; omega, by rw [show v + 1 + (n + 1) = K + 1 by omega]; exact HST.out, HR2.out, by rw [show v + (n + 1) = v + n + 1 from rfl, HD2.out, HD0.out]; exact HK2'.out, by rw [show v + (n + 1) = v + n + 1 from rfl, HD2.out, HD0.out, HP1.out]; exact HON2.out.wider (by omega) (by simp; omega)⟩
              case measure => simp [intOf]; omega
        · have hKL : K = x.d.length := by omega
          have e1 : v + 1 + n = x.d.length := by omega
          rw [e1, rtB_end] at hO
          have HO := Lib.hid (hO.wider (Nat.le_refl _) (show Z.heap.size ≤ wr.heap.size by omega))
          have HB := Lib.hid hbel
          clear hO hbel hKL e1 k5 oM hr gw kBr
          go_wp2
          go_roundw
          case rel => exact ⟨v + 1, by omega, by go_num, HB.out, HO.out⟩
          case measure => simp [intOf]; omega
    · have hvL : v = x.d.length := by omega
      rw [hvL, rtA_end] at hO
      have HO := Lib.hid (hO.wider (show w0.heap.size ≤ w2.heap.size by omega) (Nat.le_refl _))
      have HG := Lib.hid gw
      clear hO hbel hvL kBr gw
      go_wp2
      go_ret2
      exact ⟨.slice (some ⟨w2.heap.size, 0, none⟩) x.d.length x.d.length, by rw [HF.out]; rfl, by rw [HF.out]; exact HO.out, HG.out⟩
theorem implRankTable_any (u : Value) (x : Rp) (w0 : World) (hu : RpR w0 w0.heap.size u x) :
    Calls Try.prog 54 #[u] w0 fun e w' => ∃ v, e = .returned (.tuple #[v, .bool (rtM x).2]) ∧ IntssO w' w0.heap.size w'.heap.size v (rtM x).1 ∧ Below w0.heap.size w0 w' := by
  rcases h : okL x with _ | _
  · exact implRankTable_no u x w0 hu h
  · exact implRankTable_yes u x w0 hu h
end Go.Proofs.Ytjhllgldllbaaaa

/- Products of matrices: the reference's l3Multiply. -/
namespace Go.Proofs.Ytjhllgldllbaaaa
set_option linter.unusedVariables false
set_option linter.unusedSimpArgs false
open Go.RowKit

/-- the product, row i up to k, the rows below i done, the others 0 -/
def muK (p : Int) (c i k : Nat) (f g : Nat → Nat → Int) (a b : Nat) : Int := if a < i then muP p c f g a b else if a = i then (if b < k then muP p c f g a b else 0) else 0
theorem muK_0 (p : Int) (c r d : Nat) (f g : Nat → Nat → Int) : flat r d (fun _ _ => 0) = flat r d (muK p c 0 0 f g) := flat_congr fun a b _ _ => by
  simp only [muK]
  rw [if_neg (by omega)]
  split
  · rw [if_neg (by omega)]
  · rfl
theorem muK_next (p : Int) (c i r d : Nat) (f g : Nat → Nat → Int) : flat r d (muK p c i d f g) = flat r d (muK p c (i + 1) 0 f g) := flat_congr fun a b _ hb => by
  simp only [muK]
  rw [if_pos hb, if_neg (show ¬ b < 0 by omega)]
  by_cases h1 : a < i
  · rw [if_pos h1, if_pos (by omega)]
  · rw [if_neg h1]
    by_cases h2 : a = i
    · rw [if_pos h2, if_pos (by omega)]
    · rw [if_neg h2, if_neg (by omega)]
      split <;> rfl
theorem muK_end (p : Int) (c r d : Nat) (f g : Nat → Nat → Int) : flat r d (muK p c r 0 f g) = flat r d (muP p c f g) := flat_congr fun a b ha _ => by
  simp only [muK]
  rw [if_pos ha]
theorem muK_put {p : Int} {c i k r d : Nat} (f g : Nat → Nat → Int) (hi : i < r) (hk : k < d) : (flat r d (muK p c i k f g)).set (i * d + k) (muP p c f g i k) = flat r d (muK p c i (k + 1) f g) := by
  rw [flat_set _ _ hi hk]
  refine flat_congr fun a b _ _ => ?_
  simp only [muK]
  by_cases e : a = i ∧ b = k
  · rw [if_pos e, e.1, e.2, if_neg (by omega), if_pos rfl, if_pos (by omega)]
  · rw [if_neg e]
    by_cases h1 : a < i
    · rw [if_pos h1, if_pos h1]
    · rw [if_neg h1, if_neg h1]
      by_cases h2 : a = i
      · rw [if_pos h2, if_pos h2]
        by_cases h3 : b < k
        · rw [if_pos h3, if_pos (by omega)]
        · rw [if_neg h3, if_neg (by omega)]
      · rw [if_neg h2, if_neg h2]
theorem sg_rng {h : Nat → Int} : ∀ {n}, (∀ t, t < n → 0 ≤ h t ∧ h t ≤ 16) → 0 ≤ sgF h n ∧ sgF h n ≤ 16 * n
  | 0, _ => by simp [sgF]
  | n + 1, H => by
    have h1 := sg_rng (h := h) (n := n) fun t ht => H t (by omega)
    have h2 := H n (by omega)
    simp only [sgF]
    omega
theorem mul_rng {a b : Int} (ha : 0 ≤ a ∧ a ≤ 4) (hb : 0 ≤ b ∧ b ≤ 4) : 0 ≤ a * b ∧ a * b ≤ 16 := by
  have h1 : a = 0 ∨ a = 1 ∨ a = 2 ∨ a = 3 ∨ a = 4 := by omega
  rcases h1 with rfl | rfl | rfl | rfl | rfl <;> omega
set_option maxHeartbeats 6400000 in
set_option maxRecDepth 100000 in
theorem l3Multiply_any (p : Int) (u v : Value) (r c d : Nat) (f g : Nat → Nat → Int) (w0 : World) (hp : 2 ≤ p ∧ p ≤ 5) (hr : r ≤ 1000) (hc : c ≤ 1000) (hd : d ≤ 1000) (hu : MxR w0 w0.heap.size u (mxF r c f)) (hv : MxR w0 w0.heap.size v (mxF c d g)) (hf : InF p r c f) (hg : InF p c d g) :
    Calls Try.prog 116 #[.int .i64 p, u, v] w0 fun e w' => ∃ m, e = .returned m ∧ MxO w' w0.heap.size w'.heap.size m (mxF r d (muP p c f g)) ∧ Below w0.heap.size w0 w' := by
  have hu' := hu
  have hv' := hv
  obtain ⟨U, uc, rfl⟩ := hu.form
  obtain ⟨V, vc, rfl⟩ := hv.form
  simp only [mxF, flat_length] at hu hu' hv hv' ⊢
  obtain ⟨UL, hUL⟩ : ∃ z, r * c = z := ⟨_, rfl⟩
  obtain ⟨VL, hVL⟩ : ∃ z, c * d = z := ⟨_, rfl⟩
  rw [hUL] at hu hu' ⊢
  rw [hVL] at hv hv' ⊢
  have HUL := Lib.hid hUL
  have HVL := Lib.hid hVL
  clear hu hv hUL hVL
  obtain ⟨W, hW⟩ : ∃ W, W = ((w0.alloc (.cells #[.int .i64 r, .int .i64 c, .slice U UL uc] 75)).alloc (.cells #[.int .i64 c, .int .i64 d, .slice V VL vc] 75)).alloc (.cells #[.int .i64 0, .int .i64 0, .slice none 0 0] 75) := ⟨_, rfl⟩
  have g0 : Below w0.heap.size w0 W := by rw [hW]; exact (((Below.refl _ _).alloc (Nat.le_refl _) _).alloc (by simp) _).alloc (by simp; omega) _
  have k1 : Blk W w0.heap.size 75 #[.int .i64 r, .int .i64 c, .slice U UL uc] := by rw [hW]; exact ((Blk.new _ _ _).alloc _).alloc _
  have k2 : Blk W (w0.heap.size + 1) 75 #[.int .i64 c, .int .i64 d, .slice V VL vc] := by
    rw [hW]
    have := (Blk.new (w0.alloc (.cells #[.int .i64 r, .int .i64 c, .slice U UL uc] 75)) 75 #[.int .i64 c, .int .i64 d, .slice V VL vc]).alloc (.cells #[.int .i64 0, .int .i64 0, .slice none 0 0] 75)
    simpa only [World.size_alloc] using this
  have k3 : Blk W (w0.heap.size + 1 + 1) 75 #[.int .i64 0, .int .i64 0, .slice none 0 0] := by
    rw [hW]
    have := Blk.new ((w0.alloc (.cells #[.int .i64 r, .int .i64 c, .slice U UL uc] 75)).alloc (.cells #[.int .i64 c, .int .i64 d, .slice V VL vc] 75)) 75 #[.int .i64 0, .int .i64 0, .slice none 0 0]
    simpa only [World.size_alloc] using this
  have sz : W.heap.size = w0.heap.size + 1 + 1 + 1 := by rw [hW]; simp
  have SZ := Lib.hid sz
  have HU := Lib.hid hu'
  have HV := Lib.hid hv'
  have HF := Lib.hid hf
  have HG := Lib.hid hg
  have a0 := k1.cell' (i := 0) rfl
  have a1 := k1.cell' (i := 1) rfl
  have a2 := k1.cell' (i := 2) rfl
  have b0 := k2.cell' (i := 0) rfl
  have b1 := k2.cell' (i := 1) rfl
  have b2 := k2.cell' (i := 2) rfl
  clear hu' hv' hf hg sz
  go_enter Try.func116, Try.ntmps116
  go_wp2_with fail
  rw [← hW]; clear hW
  refine (l3Zero_any r d _ (by omega) (by omega) (by omega) (by omega)).mono ?_; rintro e w1 ⟨v1, rfl, hZ, hb1⟩
  rw [zmx_flat] at hZ
  obtain ⟨A, cap, e1⟩ := hZ.form
  subst e1
  simp only [mxF, flat_length] at hZ ⊢
  obtain ⟨sA, esA, oZ, hr1, hr2⟩ := hZ
  simp only [Value.agg.injEq, Array.mk.injEq, List.cons.injEq, and_true, true_and] at esA
  subst esA
  obtain ⟨L, hL⟩ : ∃ z, r * d = z := ⟨_, rfl⟩
  rw [hL] at oZ ⊢
  have HL := Lib.hid hL
  clear hL
  have s1 := hb1.size
  obtain ⟨w2, hw2⟩ : ∃ u, u = w1.alloc (.cells #[.int .i64 r, .int .i64 d, .slice A L cap] 75) := ⟨_, rfl⟩
  have b2' : Below w1.heap.size w1 w2 := by rw [hw2]; exact below_alloc _ _
  have k4 : Blk w2 w1.heap.size 75 #[.int .i64 r, .int .i64 d, .slice A L cap] := by rw [hw2]; exact Blk.new _ _ _
  have oZ2 := oZ.below b2'
  rw [muK_0 p c r d f g] at oZ2
  have s2 := b2'.size
  have l4 := k4.lt
  have gW2 := bthen hb1 b2'
  have K1 := Lib.hid k1
  have K2 := Lib.hid k2
  have K3 := Lib.hid k3
  have G0 := Lib.hid g0
  have hWs := SZ.out
  clear a0 a1 a2 b0 b1 b2 oZ b2' hb1 k1 k2 k3 g0
  go_wp2
  rw [← hw2]; clear hw2
  go_loopw [8] (fun i wr => ∃ i' : Nat, i' ≤ r ∧ i = .int .i64 i' ∧ Blk wr w1.heap.size 75 #[.int .i64 r, .int .i64 d, .slice A L cap] ∧ IntsO wr W.heap.size w1.heap.size (.slice A L cap) (flat r d (muK p c i' 0 f g)) ∧ Below W.heap.size W wr) (fun i _ => r - (intOf i).toNat)
  case atStart => exact ⟨0, Nat.zero_le _, rfl, k4, oZ2, gW2⟩
  case round =>
    clear k4 oZ2 gW2
    obtain ⟨i, hi, rfl, k4, oA, gW⟩ := hrel
    have sW := gW.size
    by_cases hlr : i < r
    · have k1 := K1.out.below gW (by omega)
      have a0 := k1.cell' (i := 0) rfl
      go_wp2
      clear k1 a0
      go_loopw [9] (fun k wr => ∃ k' : Nat, k' ≤ d ∧ k = .int .i64 k' ∧ Blk wr w1.heap.size 75 #[.int .i64 r, .int .i64 d, .slice A L cap] ∧ IntsO wr W.heap.size w1.heap.size (.slice A L cap) (flat r d (muK p c i k' f g)) ∧ Below W.heap.size W wr) (fun k _ => d - (intOf k).toNat)
      case atStart => exact ⟨0, Nat.zero_le _, rfl, k4, oA, gW⟩
      case round =>
        clear k4 oA gW sW
        obtain ⟨k, hk, rfl, k4, oA, gW⟩ := hrel
        have sW := gW.size
        have k2 := K2.out.below gW (by omega)
        have b1 := k2.cell' (i := 1) rfl
        by_cases hlk : k < d
        · have HS0 := Lib.hid (show (0 : Int) = sgF (fun t => f i t * g t k) 0 from rfl)
          go_wp2
          clear k2 b1
          go_loopw [10, 11] (fun s j wr => ∃ (j' : Nat) (S : Int), j' ≤ c ∧ j = .int .i64 j' ∧ s = .int .i64 S ∧ Hid (S = sgF (fun t => f i t * g t k) j') ∧ Blk wr w1.heap.size 75 #[.int .i64 r, .int .i64 d, .slice A L cap] ∧ IntsO wr W.heap.size w1.heap.size (.slice A L cap) (flat r d (muK p c i k f g)) ∧ Below W.heap.size W wr) (fun _ j _ => c - (intOf j).toNat)
          case atStart => exact ⟨0, 0, Nat.zero_le _, rfl, rfl, HS0, k4, oA, gW⟩
          case round =>
            clear k4 oA gW sW
            obtain ⟨j, S, hj, rfl, rfl, HS, k4, oA, gW⟩ := hrel
            have sW := gW.size
            have k1 := K1.out.below gW (by omega)
            have k2 := K2.out.below gW (by omega)
            have srng := sg_rng (h := fun t => f i t * g t k) (n := j) fun t ht => mul_rng (le_pred hp HF.out hlr (show t < c by omega)) (le_pred hp HG.out (show t < c by omega) hlk)
            rw [← (HS.out : S = _)] at srng
            by_cases hlj : j < c
            · obtain ⟨P, J, hP, hPJ, hJ, hJN, hJb⟩ := ix_walk hlr hlj hr hc
              obtain ⟨P2, J2, hP2, hPJ2, hJ2, hJN2, hJb2⟩ := ix_walk hlj hlk hc hd
              have gww : Below w0.heap.size w0 wr := (G0.out).trans (gW.mono (G0.out).size)
              obtain ⟨_, eU, sU, _⟩ := HU.out
              obtain ⟨_, eV, sV, _⟩ := HV.out
              simp only [mxF, Value.agg.injEq, Array.mk.injEq, List.cons.injEq, and_true, true_and] at eU eV sU sV
              subst eU eV
              rw [← HUL.out, ← flat_length r c f] at sU
              rw [← HVL.out, ← flat_length c d g] at sV
              obtain ⟨b, o, x, rfl, hb, HX, x1, xr⟩ := SlI.at_ (k := P + j) sU (by rw [flat_length]; omega)
              obtain ⟨b2, o2, y, rfl, hb2, HY, y1, yr⟩ := SlI.at_ (k := P2 + k) sV (by rw [flat_length]; omega)
              have hx := HX.out
              rw [hPJ, hJ, flat_get f hlr hlj] at hx
              injection hx with hx
              have hy := HY.out
              rw [hPJ2, hJ2, flat_get g hlj hlk] at hy
              injection hy with hy
              have hX := le_pred hp HF.out hlr hlj
              have hY := le_pred hp HG.out hlj hlk
              rw [hx] at hX
              rw [hy] at hY
              have hXY := mul_rng hX hY
              have HS2 := Lib.hid (show S + x * y = sgF (fun t => f i t * g t k) (j + 1) by simp only [sgF]; rw [hx, hy, HS.out])
              have x2 := bcell gww hb x1
              have y2 := bcell gww hb2 y1
              have hUJ : P + j < UL := by rw [← HUL.out]; omega
              have hVJ : P2 + k < VL := by rw [← HVL.out]; omega
              have gws := gww.size
              have hP' := Lib.hid hP
              have hP2' := Lib.hid hP2
              have OA := Lib.hid oA
              have GW := Lib.hid gW
              have K4 := Lib.hid k4
              obtain ⟨Z, hZ⟩ : ∃ z, x * y = z := ⟨_, rfl⟩
              rw [hZ] at HS2 hXY
              have HZ := Lib.hid hZ
              have hPb : P + j ≤ 1000000 := by omega
              have hPb2 : P2 + k ≤ 1000000 := by omega
              clear sU sV HX HY x1 y1 hx hy hP hP2 hJ hJ2 hPJ hPJ2 hJN hJN2 hZ oA gW k4 gww
              have a1 := k1.cell' (i := 1) rfl
              go_wp2
              clear a1
              obtain ⟨xx, hxx⟩ : ∃ z, z = x := ⟨_, rfl⟩
              subst hxx
              refine wp_region_net (by kernel_rfl) [.eq (.int .i64 S), .eq (.pointer (some ⟨w0.heap.size, 2, none⟩)), .eq (.slice (some ⟨b, o, none⟩) UL uc), .eq (.int .i64 i), .eq (.pointer (some ⟨w0.heap.size, 1, none⟩)), .eq (.int .i64 c), .eq (.int .i64 P), .eq (.int .i64 j), .eq (.int .i64 ((P : Int) + j)), .eq (.pointer (some ⟨b, o + (P + j), none⟩)), .eq (.int .i64 xx), .eq (.pointer (some ⟨w0.heap.size + 1, 2, none⟩)), .eq (.slice (some ⟨b2, o2, none⟩) VL vc), .eq (.int .i64 j), .eq (.pointer (some ⟨w0.heap.size + 1, 1, none⟩)), .eq (.int .i64 d), .eq (.int .i64 P2), .eq (.int .i64 k), .eq (.int .i64 ((P2 : Int) + k)), .eq (.pointer (some ⟨b2, o2 + (P2 + k), none⟩)), .eq (.int .i64 y), .eq (.int .i64 Z)] [[], [], [1], [], [], [4], [3, 4, 5], [], [3, 4, 5, 6, 7], [1, 2, 3, 4, 5, 6, 7, 8], [1, 2, 3, 4, 5, 6, 7, 8, 9], [], [11], [], [], [14], [13, 14, 15], [], [13, 14, 15, 16, 17], [11, 12, 13, 14, 15, 16, 17, 18], [11, 12, 13, 14, 15, 16, 17, 18, 19], [1, 2, 3, 4, 5, 6, 7, 8, 9, 10, 11, 12, 13, 14, 15, 16, 17, 18, 19, 20], [0, 1, 2, 3, 4, 5, 6, 7, 8, 9, 10, 11, 12, 13, 14, 15, 16, 17, 18, 19, 20, 21], [0, 1, 2, 3, 4, 5, 6, 7, 8, 9, 10, 11, 12, 13, 14, 15, 16, 17, 18, 19, 20, 21, 22]] 22 (by kernel_rfl) ⟨trivial, trivial, trivial, trivial, trivial, trivial, trivial, trivial, trivial, trivial, trivial, trivial, trivial, trivial, trivial, trivial, trivial, trivial, trivial, trivial, trivial, trivial, trivial⟩ ⟨?_, ?_, ?_, ?_, ?_, ?_, ?_, ?_, ?_, ?_, ?_, ?_, ?_, ?_, ?_, ?_, ?_, ?_, ?_, ?_, ?_, ?_, trivial⟩ ?_
              · intro x w hb hk Q' hQ
                clear hk
                simp only [netAct, dstAt, List.getElem?_toArray, List.getElem?_cons_zero, List.getElem?_cons_succ, Option.bind_some, Act.put, List.setIfInBounds_toArray, List.set_cons_zero, List.set_cons_succ] at hQ ⊢
                go_wp2
                exact hQ (.int .i64 S) _ (Below.refl _ _) rfl
              · intro x w hb hk Q' hQ
                clear hk
                simp only [netAct, dstAt, List.getElem?_toArray, List.getElem?_cons_zero, List.getElem?_cons_succ, Option.bind_some, Act.put, List.setIfInBounds_toArray, List.set_cons_zero, List.set_cons_succ] at hQ ⊢
                go_wp2
                exact hQ (.pointer (some ⟨w0.heap.size, 2, none⟩)) _ (Below.refl _ _) rfl
              · intro x w hb hk Q' hQ
                have h1 : x.v 1 = .pointer (some ⟨w0.heap.size, 2, none⟩) := (hk 1 (by decide)).1
                clear hk
                simp only [netAct, dstAt, List.getElem?_toArray, List.getElem?_cons_zero, List.getElem?_cons_succ, Option.bind_some, Act.put, List.setIfInBounds_toArray, List.set_cons_zero, List.set_cons_succ] at hQ ⊢
                simp only [h1] at hQ ⊢
                clear h1
                have z2 := (k1.call hb).cell' (i := 2) rfl
                go_wp2
                exact hQ (.slice (some ⟨b, o, none⟩) UL uc) _ (Below.refl _ _) rfl
              · intro x w hb hk Q' hQ
                clear hk
                simp only [netAct, dstAt, List.getElem?_toArray, List.getElem?_cons_zero, List.getElem?_cons_succ, Option.bind_some, Act.put, List.setIfInBounds_toArray, List.set_cons_zero, List.set_cons_succ] at hQ ⊢
                go_wp2
                exact hQ (.int .i64 i) _ (Below.refl _ _) rfl
              · intro x w hb hk Q' hQ
                clear hk
                simp only [netAct, dstAt, List.getElem?_toArray, List.getElem?_cons_zero, List.getElem?_cons_succ, Option.bind_some, Act.put, List.setIfInBounds_toArray, List.set_cons_zero, List.set_cons_succ] at hQ ⊢
                go_wp2
                exact hQ (.pointer (some ⟨w0.heap.size, 1, none⟩)) _ (Below.refl _ _) rfl
              · intro x w hb hk Q' hQ
                have h4 : x.v 4 = .pointer (some ⟨w0.heap.size, 1, none⟩) := (hk 4 (by decide)).1
                clear hk
                simp only [netAct, dstAt, List.getElem?_toArray, List.getElem?_cons_zero, List.getElem?_cons_succ, Option.bind_some, Act.put, List.setIfInBounds_toArray, List.set_cons_zero, List.set_cons_succ] at hQ ⊢
                simp only [h4] at hQ ⊢
                clear h4
                have z2 := (k1.call hb).cell' (i := 1) rfl
                go_wp2
                exact hQ (.int .i64 c) _ (Below.refl _ _) rfl
              · intro x w hb hk Q' hQ
                have h3 : x.v 3 = .int .i64 i := (hk 3 (by decide)).1
                have h5 : x.v 5 = .int .i64 c := (hk 5 (by decide)).1
                clear hk
                simp only [netAct, dstAt, List.getElem?_toArray, List.getElem?_cons_zero, List.getElem?_cons_succ, Option.bind_some, Act.put, List.setIfInBounds_toArray, List.set_cons_zero, List.set_cons_succ] at hQ ⊢
                simp only [h3, h5] at hQ ⊢
                clear h3 h5
                go_wp2
                rw [hP'.out]
                exact hQ (.int .i64 P) _ (Below.refl _ _) rfl
              · intro x w hb hk Q' hQ
                clear hk
                simp only [netAct, dstAt, List.getElem?_toArray, List.getElem?_cons_zero, List.getElem?_cons_succ, Option.bind_some, Act.put, List.setIfInBounds_toArray, List.set_cons_zero, List.set_cons_succ] at hQ ⊢
                go_wp2
                exact hQ (.int .i64 j) _ (Below.refl _ _) rfl
              · intro x w hb hk Q' hQ
                have h6 : x.v 6 = .int .i64 P := (hk 6 (by decide)).1
                have h7 : x.v 7 = .int .i64 j := (hk 7 (by decide)).1
                clear hk
                simp only [netAct, dstAt, List.getElem?_toArray, List.getElem?_cons_zero, List.getElem?_cons_succ, Option.bind_some, Act.put, List.setIfInBounds_toArray, List.set_cons_zero, List.set_cons_succ] at hQ ⊢
                simp only [h6, h7] at hQ ⊢
                clear h6 h7
                go_wp2
                exact hQ (.int .i64 ((P : Int) + j)) _ (Below.refl _ _) rfl
              · intro x w hb hk Q' hQ
                have h2 : x.v 2 = .slice (some ⟨b, o, none⟩) UL uc := (hk 2 (by decide)).1
                have h8 : x.v 8 = .int .i64 ((P : Int) + j) := (hk 8 (by decide)).1
                clear hk
                simp only [netAct, dstAt, List.getElem?_toArray, List.getElem?_cons_zero, List.getElem?_cons_succ, Option.bind_some, Act.put, List.setIfInBounds_toArray, List.set_cons_zero, List.set_cons_succ] at hQ ⊢
                simp only [h2, h8] at hQ ⊢
                clear h2 h8
                go_wp2
                exact hQ (.pointer (some ⟨b, o + (P + j), none⟩)) _ (Below.refl _ _) rfl
              · intro x w hb hk Q' hQ
                have h9 : x.v 9 = .pointer (some ⟨b, o + (P + j), none⟩) := (hk 9 (by decide)).1
                clear hk
                simp only [netAct, dstAt, List.getElem?_toArray, List.getElem?_cons_zero, List.getElem?_cons_succ, Option.bind_some, Act.put, List.setIfInBounds_toArray, List.set_cons_zero, List.set_cons_succ] at hQ ⊢
                simp only [h9] at hQ ⊢
                clear h9
                have z2 := bcell hb (by omega) x2
                go_wp2
                exact hQ (.int .i64 xx) _ (Below.refl _ _) rfl
              · intro x w hb hk Q' hQ
                clear hk
                simp only [netAct, dstAt, List.getElem?_toArray, List.getElem?_cons_zero, List.getElem?_cons_succ, Option.bind_some, Act.put, List.setIfInBounds_toArray, List.set_cons_zero, List.set_cons_succ] at hQ ⊢
                go_wp2
                exact hQ (.pointer (some ⟨w0.heap.size + 1, 2, none⟩)) _ (Below.refl _ _) rfl
              · intro x w hb hk Q' hQ
                have h11 : x.v 11 = .pointer (some ⟨w0.heap.size + 1, 2, none⟩) := (hk 11 (by decide)).1
                clear hk
                simp only [netAct, dstAt, List.getElem?_toArray, List.getElem?_cons_zero, List.getElem?_cons_succ, Option.bind_some, Act.put, List.setIfInBounds_toArray, List.set_cons_zero, List.set_cons_succ] at hQ ⊢
                simp only [h11] at hQ ⊢
                clear h11
                have z2 := (k2.call hb).cell' (i := 2) rfl
                go_wp2
                exact hQ (.slice (some ⟨b2, o2, none⟩) VL vc) _ (Below.refl _ _) rfl
              · intro x w hb hk Q' hQ
                clear hk
                simp only [netAct, dstAt, List.getElem?_toArray, List.getElem?_cons_zero, List.getElem?_cons_succ, Option.bind_some, Act.put, List.setIfInBounds_toArray, List.set_cons_zero, List.set_cons_succ] at hQ ⊢
                go_wp2
                exact hQ (.int .i64 j) _ (Below.refl _ _) rfl
              · intro x w hb hk Q' hQ
                clear hk
                simp only [netAct, dstAt, List.getElem?_toArray, List.getElem?_cons_zero, List.getElem?_cons_succ, Option.bind_some, Act.put, List.setIfInBounds_toArray, List.set_cons_zero, List.set_cons_succ] at hQ ⊢
                go_wp2
                exact hQ (.pointer (some ⟨w0.heap.size + 1, 1, none⟩)) _ (Below.refl _ _) rfl
              · intro x w hb hk Q' hQ
                have h14 : x.v 14 = .pointer (some ⟨w0.heap.size + 1, 1, none⟩) := (hk 14 (by decide)).1
                clear hk
                simp only [netAct, dstAt, List.getElem?_toArray, List.getElem?_cons_zero, List.getElem?_cons_succ, Option.bind_some, Act.put, List.setIfInBounds_toArray, List.set_cons_zero, List.set_cons_succ] at hQ ⊢
                simp only [h14] at hQ ⊢
                clear h14
                have z2 := (k2.call hb).cell' (i := 1) rfl
                go_wp2
                exact hQ (.int .i64 d) _ (Below.refl _ _) rfl
              · intro x w hb hk Q' hQ
                have h13 : x.v 13 = .int .i64 j := (hk 13 (by decide)).1
                have h15 : x.v 15 = .int .i64 d := (hk 15 (by decide)).1
                clear hk
                simp only [netAct, dstAt, List.getElem?_toArray, List.getElem?_cons_zero, List.getElem?_cons_succ, Option.bind_some, Act.put, List.setIfInBounds_toArray, List.set_cons_zero, List.set_cons_succ] at hQ ⊢
                simp only [h13, h15] at hQ ⊢
                clear h13 h15
                go_wp2
                rw [hP2'.out]
                exact hQ (.int .i64 P2) _ (Below.refl _ _) rfl
              · intro x w hb hk Q' hQ
                clear hk
                simp only [netAct, dstAt, List.getElem?_toArray, List.getElem?_cons_zero, List.getElem?_cons_succ, Option.bind_some, Act.put, List.setIfInBounds_toArray, List.set_cons_zero, List.set_cons_succ] at hQ ⊢
                go_wp2
                exact hQ (.int .i64 k) _ (Below.refl _ _) rfl
              · intro x w hb hk Q' hQ
                have h16 : x.v 16 = .int .i64 P2 := (hk 16 (by decide)).1
                have h17 : x.v 17 = .int .i64 k := (hk 17 (by decide)).1
                clear hk
                simp only [netAct, dstAt, List.getElem?_toArray, List.getElem?_cons_zero, List.getElem?_cons_succ, Option.bind_some, Act.put, List.setIfInBounds_toArray, List.set_cons_zero, List.set_cons_succ] at hQ ⊢
                simp only [h16, h17] at hQ ⊢
                clear h16 h17
                go_wp2
                exact hQ (.int .i64 ((P2 : Int) + k)) _ (Below.refl _ _) rfl
              · intro x w hb hk Q' hQ
                have h12 : x.v 12 = .slice (some ⟨b2, o2, none⟩) VL vc := (hk 12 (by decide)).1
                have h18 : x.v 18 = .int .i64 ((P2 : Int) + k) := (hk 18 (by decide)).1
                clear hk
                simp only [netAct, dstAt, List.getElem?_toArray, List.getElem?_cons_zero, List.getElem?_cons_succ, Option.bind_some, Act.put, List.setIfInBounds_toArray, List.set_cons_zero, List.set_cons_succ] at hQ ⊢
                simp only [h12, h18] at hQ ⊢
                clear h12 h18
                go_wp2
                exact hQ (.pointer (some ⟨b2, o2 + (P2 + k), none⟩)) _ (Below.refl _ _) rfl
              · intro x w hb hk Q' hQ
                have h19 : x.v 19 = .pointer (some ⟨b2, o2 + (P2 + k), none⟩) := (hk 19 (by decide)).1
                clear hk
                simp only [netAct, dstAt, List.getElem?_toArray, List.getElem?_cons_zero, List.getElem?_cons_succ, Option.bind_some, Act.put, List.setIfInBounds_toArray, List.set_cons_zero, List.set_cons_succ] at hQ ⊢
                simp only [h19] at hQ ⊢
                clear h19
                have z2 := bcell hb (by omega) y2
                go_wp2
                exact hQ (.int .i64 y) _ (Below.refl _ _) rfl
              · intro x w hb hk Q' hQ
                have h10 : x.v 10 = .int .i64 xx := (hk 10 (by decide)).1
                have h20 : x.v 20 = .int .i64 y := (hk 20 (by decide)).1
                clear hk
                simp only [netAct, dstAt, List.getElem?_toArray, List.getElem?_cons_zero, List.getElem?_cons_succ, Option.bind_some, Act.put, List.setIfInBounds_toArray, List.set_cons_zero, List.set_cons_succ] at hQ ⊢
                simp only [h10, h20] at hQ ⊢
                clear h10 h20
                go_wp2
                rw [HZ.out, IntWalk.wrap64_in _ ⟨by omega, by omega⟩]
                exact hQ (.int .i64 Z) _ (Below.refl _ _) rfl
              · intro x w hb hk hiv hdj
                have h0 : x.v 0 = .int .i64 S := hk 0 (by decide)
                have h1 : x.v 1 = .pointer (some ⟨w0.heap.size, 2, none⟩) := hk 1 (by decide)
                have h2 : x.v 2 = .slice (some ⟨b, o, none⟩) UL uc := hk 2 (by decide)
                have h3 : x.v 3 = .int .i64 i := hk 3 (by decide)
                have h4 : x.v 4 = .pointer (some ⟨w0.heap.size, 1, none⟩) := hk 4 (by decide)
                have h5 : x.v 5 = .int .i64 c := hk 5 (by decide)
                have h6 : x.v 6 = .int .i64 P := hk 6 (by decide)
                have h7 : x.v 7 = .int .i64 j := hk 7 (by decide)
                have h8 : x.v 8 = .int .i64 ((P : Int) + j) := hk 8 (by decide)
                have h9 : x.v 9 = .pointer (some ⟨b, o + (P + j), none⟩) := hk 9 (by decide)
                have h10 : x.v 10 = .int .i64 xx := hk 10 (by decide)
                have h11 : x.v 11 = .pointer (some ⟨w0.heap.size + 1, 2, none⟩) := hk 11 (by decide)
                have h12 : x.v 12 = .slice (some ⟨b2, o2, none⟩) VL vc := hk 12 (by decide)
                have h13 : x.v 13 = .int .i64 j := hk 13 (by decide)
                have h14 : x.v 14 = .pointer (some ⟨w0.heap.size + 1, 1, none⟩) := hk 14 (by decide)
                have h15 : x.v 15 = .int .i64 d := hk 15 (by decide)
                have h16 : x.v 16 = .int .i64 P2 := hk 16 (by decide)
                have h17 : x.v 17 = .int .i64 k := hk 17 (by decide)
                have h18 : x.v 18 = .int .i64 ((P2 : Int) + k) := hk 18 (by decide)
                have h19 : x.v 19 = .pointer (some ⟨b2, o2 + (P2 + k), none⟩) := hk 19 (by decide)
                have h20 : x.v 20 = .int .i64 y := hk 20 (by decide)
                have h21 : x.v 21 = .int .i64 Z := hk 21 (by decide)
                clear hk
                simp only [netAct, dstAt, List.getElem?_toArray, List.getElem?_cons_zero, List.getElem?_cons_succ, Option.bind_some, Act.put, List.setIfInBounds_toArray, List.set_cons_zero, List.set_cons_succ]
                simp only [List.drop_succ_cons, List.drop_zero, h0, h1, h2, h3, h4, h5, h6, h7, h8, h9, h10, h11, h12, h13, h14, h15, h16, h17, h18, h19, h20, h21]
                clear h0 h1 h2 h3 h4 h5 h6 h7 h8 h9 h10 h11 h12 h13 h14 h15 h16 h17 h18 h19 h20 h21
                have K42 := Lib.hid ((K4.out).call hb)
                have OA2 := Lib.hid ((OA.out).below hb)
                have GW2 := Lib.hid ((GW.out).trans (hb.mono (by omega)))
                clear hb hiv hdj k1 k2
                go_wp2
                go_roundw
                case rel => exact ⟨j + 1, S + Z, by omega, by go_num, rfl, HS2, K42.out, OA2.out, GW2.out⟩
                case measure => simp [intOf]; omega
            · have hjc : j = c := by omega
              have HSC := Lib.hid (show S % p = muP p c f g i k by rw [HS.out, hjc]; rfl)
              have a1 := k1.cell' (i := 1) rfl
              clear HS
              go_wp2
              clear hjc
              obtain ⟨P, J, hP, hPJ, hJ, hJN, hJb⟩ := ix_walk hlr hlk hr hd
              have HST := Lib.hid (muK_put (p := p) (c := c) f g hlr hlk)
              rw [HL.out] at hJN
              obtain ⟨gA, cA, eA, q1, q2, q3⟩ := oA.at_ (by rw [flat_length, HL.out]; omega)
              rw [flat_length, HL.out] at eA
              injection eA with eA1 eA2 eA3
              subst eA1 eA3
              have hmr := emod_rng (x := S) hp.1
              obtain ⟨M, hM⟩ : ∃ z, S % p = z := ⟨_, rfl⟩
              rw [hM] at HSC hmr
              have HM := Lib.hid hM
              have hP' := Lib.hid hP
              have hj' := Lib.hid (show P + k = i * d + k by rw [hPJ, hJ])
              have OA := Lib.hid oA
              have GW := Lib.hid gW
              have K4 := Lib.hid k4
              have hPL : P + k < L := by omega
              have hPb : P + k ≤ 1000000 := by omega
              clear a1 hM hP hPJ hJ hJN oA gW k4 k1
              refine wp_region_net (by kernel_rfl) [.eq (.pointer (some ⟨w1.heap.size, 2, none⟩)), .eq (.slice (some ⟨gA, 0, none⟩) L cap), .eq (.int .i64 i), .eq (.pointer (some ⟨w0.heap.size + 1, 1, none⟩)), .eq (.int .i64 d), .eq (.int .i64 P), .eq (.int .i64 k), .eq (.int .i64 ((P : Int) + k)), .eq (.int .i64 p), .eq (.int .i64 S), .eq (.int .i64 M), .eq (.pointer (some ⟨gA, P + k, none⟩))] [[], [0], [], [], [3], [2, 3, 4], [], [2, 3, 4, 5, 6], [], [], [8, 9], [0, 1, 2, 3, 4, 5, 6, 7, 8, 9, 10], [0, 1, 2, 3, 4, 5, 6, 7, 8, 9, 10, 11]] 12 (by kernel_rfl) ⟨trivial, trivial, trivial, trivial, trivial, trivial, trivial, trivial, trivial, trivial, trivial, trivial, trivial⟩ ⟨?_, ?_, ?_, ?_, ?_, ?_, ?_, ?_, ?_, ?_, ?_, ?_, trivial⟩ ?_
              · intro x w hb hk Q' hQ
                clear hk
                simp only [netAct, dstAt, List.getElem?_toArray, List.getElem?_cons_zero, List.getElem?_cons_succ, Option.bind_some, Act.put, List.setIfInBounds_toArray, List.set_cons_zero, List.set_cons_succ] at hQ ⊢
                go_wp2
                exact hQ (.pointer (some ⟨w1.heap.size, 2, none⟩)) _ (Below.refl _ _) rfl
              · intro x w hb hk Q' hQ
                have h0 : x.v 0 = .pointer (some ⟨w1.heap.size, 2, none⟩) := (hk 0 (by decide)).1
                clear hk
                simp only [netAct, dstAt, List.getElem?_toArray, List.getElem?_cons_zero, List.getElem?_cons_succ, Option.bind_some, Act.put, List.setIfInBounds_toArray, List.set_cons_zero, List.set_cons_succ] at hQ ⊢
                simp only [h0] at hQ ⊢
                clear h0
                have z2 := ((K4.out).call hb).cell' (i := 2) rfl
                go_wp2
                exact hQ (.slice (some ⟨gA, 0, none⟩) L cap) _ (Below.refl _ _) rfl
              · intro x w hb hk Q' hQ
                clear hk
                simp only [netAct, dstAt, List.getElem?_toArray, List.getElem?_cons_zero, List.getElem?_cons_succ, Option.bind_some, Act.put, List.setIfInBounds_toArray, List.set_cons_zero, List.set_cons_succ] at hQ ⊢
                go_wp2
                exact hQ (.int .i64 i) _ (Below.refl _ _) rfl
              · intro x w hb hk Q' hQ
                clear hk
                simp only [netAct, dstAt, List.getElem?_toArray, List.getElem?_cons_zero, List.getElem?_cons_succ, Option.bind_some, Act.put, List.setIfInBounds_toArray, List.set_cons_zero, List.set_cons_succ] at hQ ⊢
                go_wp2
                exact hQ (.pointer (some ⟨w0.heap.size + 1, 1, none⟩)) _ (Below.refl _ _) rfl
              · intro x w hb hk Q' hQ
                have h3 : x.v 3 = .pointer (some ⟨w0.heap.size + 1, 1, none⟩) := (hk 3 (by decide)).1
                clear hk
                simp only [netAct, dstAt, List.getElem?_toArray, List.getElem?_cons_zero, List.getElem?_cons_succ, Option.bind_some, Act.put, List.setIfInBounds_toArray, List.set_cons_zero, List.set_cons_succ] at hQ ⊢
                simp only [h3] at hQ ⊢
                clear h3
                have z2 := (k2.call hb).cell' (i := 1) rfl
                go_wp2
                exact hQ (.int .i64 d) _ (Below.refl _ _) rfl
              · intro x w hb hk Q' hQ
                have h2 : x.v 2 = .int .i64 i := (hk 2 (by decide)).1
                have h4 : x.v 4 = .int .i64 d := (hk 4 (by decide)).1
                clear hk
                simp only [netAct, dstAt, List.getElem?_toArray, List.getElem?_cons_zero, List.getElem?_cons_succ, Option.bind_some, Act.put, List.setIfInBounds_toArray, List.set_cons_zero, List.set_cons_succ] at hQ ⊢
                simp only [h2, h4] at hQ ⊢
                clear h2 h4
                go_wp2
                rw [hP'.out]
                exact hQ (.int .i64 P) _ (Below.refl _ _) rfl
              · intro x w hb hk Q' hQ
                clear hk
                simp only [netAct, dstAt, List.getElem?_toArray, List.getElem?_cons_zero, List.getElem?_cons_succ, Option.bind_some, Act.put, List.setIfInBounds_toArray, List.set_cons_zero, List.set_cons_succ] at hQ ⊢
                go_wp2
                exact hQ (.int .i64 k) _ (Below.refl _ _) rfl
              · intro x w hb hk Q' hQ
                have h5 : x.v 5 = .int .i64 P := (hk 5 (by decide)).1
                have h6 : x.v 6 = .int .i64 k := (hk 6 (by decide)).1
                clear hk
                simp only [netAct, dstAt, List.getElem?_toArray, List.getElem?_cons_zero, List.getElem?_cons_succ, Option.bind_some, Act.put, List.setIfInBounds_toArray, List.set_cons_zero, List.set_cons_succ] at hQ ⊢
                simp only [h5, h6] at hQ ⊢
                clear h5 h6
                go_wp2
                exact hQ (.int .i64 ((P : Int) + k)) _ (Below.refl _ _) rfl
              · intro x w hb hk Q' hQ
                clear hk
                simp only [netAct, dstAt, List.getElem?_toArray, List.getElem?_cons_zero, List.getElem?_cons_succ, Option.bind_some, Act.put, List.setIfInBounds_toArray, List.set_cons_zero, List.set_cons_succ] at hQ ⊢
                go_wp2
                exact hQ (.int .i64 p) _ (Below.refl _ _) rfl
              · intro x w hb hk Q' hQ
                clear hk
                simp only [netAct, dstAt, List.getElem?_toArray, List.getElem?_cons_zero, List.getElem?_cons_succ, Option.bind_some, Act.put, List.setIfInBounds_toArray, List.set_cons_zero, List.set_cons_succ] at hQ ⊢
                go_wp2
                exact hQ (.int .i64 S) _ (Below.refl _ _) rfl
              · intro x w hb hk Q' hQ
                have h8 : x.v 8 = .int .i64 p := (hk 8 (by decide)).1
                have h9 : x.v 9 = .int .i64 S := (hk 9 (by decide)).1
                clear hk
                simp only [netAct, dstAt, List.getElem?_toArray, List.getElem?_cons_zero, List.getElem?_cons_succ, Option.bind_some, Act.put, List.setIfInBounds_toArray, List.set_cons_zero, List.set_cons_succ] at hQ ⊢
                simp only [h8, h9] at hQ ⊢
                clear h8 h9
                go_wp2_with fail
                refine (l2Mod_any p S _ hp ⟨by omega, by omega⟩).mono ?_; rintro e w5 ⟨rfl, hww⟩
                replace hww := hww.symm
                subst hww
                rw [HM.out]
                go_wp2
                exact hQ (.int .i64 M) _ (Below.refl _ _) rfl
              · intro x w hb hk Q' hQ
                have h1 : x.v 1 = .slice (some ⟨gA, 0, none⟩) L cap := (hk 1 (by decide)).1
                have h7 : x.v 7 = .int .i64 ((P : Int) + k) := (hk 7 (by decide)).1
                clear hk
                simp only [netAct, dstAt, List.getElem?_toArray, List.getElem?_cons_zero, List.getElem?_cons_succ, Option.bind_some, Act.put, List.setIfInBounds_toArray, List.set_cons_zero, List.set_cons_succ] at hQ ⊢
                simp only [h1, h7] at hQ ⊢
                clear h1 h7
                go_wp2
                exact hQ (.pointer (some ⟨gA, P + k, none⟩)) _ (Below.refl _ _) rfl
              · intro x w hb hk hiv hdj
                have h0 : x.v 0 = .pointer (some ⟨w1.heap.size, 2, none⟩) := hk 0 (by decide)
                have h1 : x.v 1 = .slice (some ⟨gA, 0, none⟩) L cap := hk 1 (by decide)
                have h2 : x.v 2 = .int .i64 i := hk 2 (by decide)
                have h3 : x.v 3 = .pointer (some ⟨w0.heap.size + 1, 1, none⟩) := hk 3 (by decide)
                have h4 : x.v 4 = .int .i64 d := hk 4 (by decide)
                have h5 : x.v 5 = .int .i64 P := hk 5 (by decide)
                have h6 : x.v 6 = .int .i64 k := hk 6 (by decide)
                have h7 : x.v 7 = .int .i64 ((P : Int) + k) := hk 7 (by decide)
                have h8 : x.v 8 = .int .i64 p := hk 8 (by decide)
                have h9 : x.v 9 = .int .i64 S := hk 9 (by decide)
                have h10 : x.v 10 = .int .i64 M := hk 10 (by decide)
                have h11 : x.v 11 = .pointer (some ⟨gA, P + k, none⟩) := hk 11 (by decide)
                clear hk
                simp only [netAct, dstAt, List.getElem?_toArray, List.getElem?_cons_zero, List.getElem?_cons_succ, Option.bind_some, Act.put, List.setIfInBounds_toArray, List.set_cons_zero, List.set_cons_succ]
                simp only [List.drop_succ_cons, List.drop_zero, h0, h1, h2, h3, h4, h5, h6, h7, h8, h9, h10, h11]
                clear h0 h1 h2 h3 h4 h5 h6 h7 h8 h9 h10 h11
                have oB := (OA.out).below hb
                have k4b := (K4.out).call hb
                have fA := oB.1.frozenG (P + k)
                have cA := (oB.1.cellG (j := P + k) (by rw [flat_length, HL.out]; omega)).1
                have hws := hb.size
                have hc1 : Chg W.heap.size w1.heap.size w (w.setCell ⟨gA, P + k, none⟩ (.int .i64 M)) := chg_set q1 q2
                have oA2 := oB.put (j := P + k) (x := M) ⟨by omega, by omega⟩
                rw [hj'.out, HSC.out, HST.out] at oA2
                have OA2 := Lib.hid oA2
                have K42 := Lib.hid (k4b.chg hc1 (by omega))
                have GW2 := Lib.hid (((GW.out).trans (hb.mono (by omega))).trans (hc1.below (Nat.le_refl _) (by omega)))
                clear oA2 hc1 oB k4b hiv hdj hb k2
                go_wp2
                go_roundw
                case rel => exact ⟨k + 1, by omega, by go_num, K42.out, by have := OA2.out; rwa [← hj'.out, ← HSC.out] at this, GW2.out⟩
                case measure => simp [intOf]; omega
        · have hkd : k = d := by omega
          rw [hkd, muK_next] at oA
          have OA := Lib.hid oA
          have K4 := Lib.hid k4
          have GW := Lib.hid gW
          clear oA k4 gW k2 hkd
          go_wp2
          go_roundw
          case rel => exact ⟨i + 1, by omega, by go_num, K4.out, OA.out, GW.out⟩
          case measure => simp [intOf]; omega
    · have hi' : i = r := by omega
      have k1 := K1.out.below gW (by omega)
      have a0 := k1.cell' (i := 0) rfl
      subst hi'
      rw [muK_end] at oA
      have k3' := (K3.out).below gW (by have := SZ.out; omega)
      have hlt := k4.lt
      clear k1
      have z0 := k4.cell' (i := 0) rfl
      have z1 := k4.cell' (i := 1) rfl
      have z2 := k4.cell' (i := 2) rfl
      have p0 := k3'.cell' (i := 0) rfl
      have p1 := k3'.cell' (i := 1) rfl
      have p2 := k3'.cell' (i := 2) rfl
      have f2 := k3'.frozen
      have h2 := chg3 wr (w0.heap.size + 1 + 1) (.int .i64 (i : Int)) (.int .i64 d) (.slice A L cap)
      have gw : Below w0.heap.size w0 wr := (G0.out).trans (gW.mono (G0.out).size)
      have gs := gw.size
      have oA2 := (oA.chg h2 (.inr (by have := SZ.out; omega))).wider (lo' := w0.heap.size) (hi' := wr.heap.size) (by have := SZ.out; omega) (by omega)
      have fg := gw.trans (h2.below (by omega) gs)
      have OA2 := Lib.hid oA2
      have FG := Lib.hid fg
      clear oA oA2 fg gw h2 k3' k4 gW
      go_wp2
      exact bodyPost_ret (v := .agg #[.int .i64 (i : Int), .int .i64 d, .slice A L cap]) (by simp [results, go_sem, p0, p1, p2]) rfl ⟨_, rfl, ⟨_, rfl, (OA2.out).wider (Nat.le_refl _) (by simp), hr1, hr2⟩, FG.out⟩
end Go.Proofs.Ytjhllgldllbaaaa
