/- FnExactBarsOf: for every argument the program's function returns what the reference's returns. Part 7 of 8 of the proof: RTab3, Bars, BarsK, BarsM, Det0, BfOf, BfOf2, BfOf3, KitR2. No condition. -/
import Derived.Test.YtjlgijdkfihhlaaBBarsOf6
/- RankTable: the reference's. -/
namespace Go.Proofs.Ytjlgijdkfihhlaa
set_option linter.unusedVariables false
set_option linter.unusedSimpArgs false
open Go.RowKit

def rtS (L : Nat) (f : Nat → Nat → Int) (v : Nat) : List (List Int) := (List.range v).map fun a => rowF L (f a)
theorem rtS_length (L : Nat) (f : Nat → Nat → Int) (v : Nat) : (rtS L f v).length = v := by simp [rtS]
theorem rtS_succ (L : Nat) (f : Nat → Nat → Int) (v : Nat) : rtS L f (v + 1) = rtS L f v ++ [rowF L (f v)] := by simp [rtS, List.range_succ]
theorem rtR_low {L v : Nat} (f : Nat → Nat → Int) (h : ∀ w, w < v → f v w = 0) : List.replicate L 0 = rtR L f v v := by
  rw [rtR_0 L f v]
  refine rowF_congr fun b _ => ?_
  rw [if_neg (by omega)]
  split
  · exact (h b ‹_›).symm
  · rfl
set_option maxHeartbeats 6400000 in
set_option maxRecDepth 100000 in
theorem specRankTable_no (u : Value) (x : Rp) (w0 : World) (hu : RpR w0 w0.heap.size u x) (hno : okL x = false) :
    Calls Try.prog 63 #[u] w0 fun e w' => ∃ v, e = .returned (.tuple #[v, .bool (rtM x).2]) ∧ IntssO w' w0.heap.size w'.heap.size v (rtM x).1 ∧ Below w0.heap.size w0 w' := by
  have hu' := hu
  obtain ⟨A, a, C, c, E, e, H, h, rfl, hq, hd, hm, hp, ld, lm⟩ := hu.open_
  clear hu
  obtain ⟨W, hW⟩ : ∃ W, W = (w0.alloc (.cells #[.int .i64 x.p, .int .i64 x.q.v, .slice A x.q.f.length a, .slice C x.q.t.length c, .slice E x.d.length e, .slice H x.m.length h] 35)).alloc (.cells #[] 22) := ⟨_, rfl⟩
  have g0 : Below w0.heap.size w0 W := by rw [hW]; exact ((Below.refl _ _).alloc (Nat.le_refl _) _).alloc (by simp) _
  have kB : Blk W w0.heap.size 35 #[.int .i64 x.p, .int .i64 x.q.v, .slice A x.q.f.length a, .slice C x.q.t.length c, .slice E x.d.length e, .slice H x.m.length h] := by rw [hW]; exact (Blk.new _ _ _).alloc _
  have oW : IntssO W (w0.heap.size + 1) W.heap.size (.slice (some ⟨w0.heap.size + 1, 0, none⟩) 0 0) [] := by
    have := IntssO.made0 (w0.alloc (.cells #[.int .i64 x.p, .int .i64 x.q.v, .slice A x.q.f.length a, .slice C x.q.t.length c, .slice E x.d.length e, .slice H x.m.length h] 35)) (lo := w0.heap.size + 1) (by simp)
    rw [← hW] at this
    simpa only [World.size_alloc] using this
  have sz : W.heap.size = w0.heap.size + 1 + 1 := by rw [hW]; simp
  have HXR := Lib.hid (RpR.next g0 hu')
  have HQ1 := Lib.hid (QvR.next g0 hq)
  have HF := Lib.hid (show rtM x = ([], false) by rw [rtM, if_neg (by simp [hno])])
  have SZ := Lib.hid sz
  clear hd hm sz
  rcases h1 : isRep x with _ | _
  · have H1 := Lib.hid h1
    clear h1 hu' hq
    have c0 := kB.cell' (i := 0) rfl
    have c1 := kB.cell' (i := 1) rfl
    have c2 := kB.cell' (i := 2) rfl
    have c3 := kB.cell' (i := 3) rfl
    have c4 := kB.cell' (i := 4) rfl
    have c5 := kB.cell' (i := 5) rfl
    rw [hW] at c0 c1 c2 c3 c4 c5
    go_enter Try.func63, Try.ntmps63
    go_wp2_with fail
    rw [← hW]; clear hW
    refine (specIsRep_any _ x _ HXR.out).mono ?_; rintro e w1 ⟨rfl, hb1⟩
    rw [H1.out]
    have g1 := bthen g0 hb1
    have o1 := (oW.below hb1).wider (show w0.heap.size ≤ w0.heap.size + 1 by omega) hb1.size
    clear c0 c1 c2 c3 c4 c5 hb1 kB oW
    go_wp2
    go_ret2
    exact ⟨.slice (some ⟨w0.heap.size + 1, 0, none⟩) 0 0, by rw [HF.out]; rfl, by rw [HF.out]; exact o1, g1⟩
  · have H1 := Lib.hid h1
    have H2 := Lib.hid (show isL x.q = false by simpa [okL, h1] using hno)
    clear h1 hu' hq hno
    have c0 := kB.cell' (i := 0) rfl
    have c1 := kB.cell' (i := 1) rfl
    have c2 := kB.cell' (i := 2) rfl
    have c3 := kB.cell' (i := 3) rfl
    have c4 := kB.cell' (i := 4) rfl
    have c5 := kB.cell' (i := 5) rfl
    rw [hW] at c0 c1 c2 c3 c4 c5
    go_enter Try.func63, Try.ntmps63
    go_wp2_with fail
    rw [← hW]; clear hW
    refine (specIsRep_any _ x _ HXR.out).mono ?_; rintro e w1 ⟨rfl, hb1⟩
    rw [H1.out]
    have g1 := bthen g0 hb1
    have o1 := (oW.below hb1).wider (Nat.le_refl _) hb1.size
    have kB1 := kB.call hb1
    have HQ2 := Lib.hid (QvR.next hb1 HQ1.out)
    clear c0 c1 c2 c3 c4 c5 hb1 kB g0 oW
    have c0 := kB1.cell' (i := 0) rfl
    have c1 := kB1.cell' (i := 1) rfl
    have c2 := kB1.cell' (i := 2) rfl
    have c3 := kB1.cell' (i := 3) rfl
    have c4 := kB1.cell' (i := 4) rfl
    have c5 := kB1.cell' (i := 5) rfl
    go_wp2_with fail
    refine (specIsLine_any _ x.q _ HQ2.out).mono ?_; rintro e w2 ⟨rfl, hb2⟩
    rw [H2.out]
    have g2 := bthen g1 hb2
    have o2 := (o1.below hb2).wider (show w0.heap.size ≤ w0.heap.size + 1 by omega) hb2.size
    clear c0 c1 c2 c3 c4 c5 hb2 kB1 g1 o1
    go_wp2
    go_ret2
    exact ⟨.slice (some ⟨w0.heap.size + 1, 0, none⟩) 0 0, by rw [HF.out]; rfl, by rw [HF.out]; exact o2, g2⟩

set_option maxHeartbeats 6400000 in
set_option maxRecDepth 100000 in
theorem specRankTable_yes (u : Value) (x : Rp) (w0 : World) (hu : RpR w0 w0.heap.size u x) (hok : okL x = true) :
    Calls Try.prog 63 #[u] w0 fun e w' => ∃ v, e = .returned (.tuple #[v, .bool (rtM x).2]) ∧ IntssO w' w0.heap.size w'.heap.size v (rtM x).1 ∧ Below w0.heap.size w0 w' := by
  have hu' := hu
  obtain ⟨A, a, C, c, E, e, H, h, rfl, hq, hd, hm, hp, ld, lm⟩ := hu.open_
  clear hu
  obtain ⟨W, hW⟩ : ∃ W, W = (w0.alloc (.cells #[.int .i64 x.p, .int .i64 x.q.v, .slice A x.q.f.length a, .slice C x.q.t.length c, .slice E x.d.length e, .slice H x.m.length h] 35)).alloc (.cells #[] 22) := ⟨_, rfl⟩
  have g0 : Below w0.heap.size w0 W := by rw [hW]; exact ((Below.refl _ _).alloc (Nat.le_refl _) _).alloc (by simp) _
  have kB : Blk W w0.heap.size 35 #[.int .i64 x.p, .int .i64 x.q.v, .slice A x.q.f.length a, .slice C x.q.t.length c, .slice E x.d.length e, .slice H x.m.length h] := by rw [hW]; exact (Blk.new _ _ _).alloc _
  have oW : IntssO W (w0.heap.size + 1) W.heap.size (.slice (some ⟨w0.heap.size + 1, 0, none⟩) 0 0) [] := by
    have := IntssO.made0 (w0.alloc (.cells #[.int .i64 x.p, .int .i64 x.q.v, .slice A x.q.f.length a, .slice C x.q.t.length c, .slice E x.d.length e, .slice H x.m.length h] 35)) (lo := w0.heap.size + 1) (by simp)
    rw [← hW] at this
    simpa only [World.size_alloc] using this
  have sz : W.heap.size = w0.heap.size + 1 + 1 := by rw [hW]; simp
  have HXR := Lib.hid (RpR.next g0 hu')
  have HQ1 := Lib.hid (QvR.next g0 hq)
  clear hu'
  obtain ⟨h1, h2, h3, l1, l5, lm', hds, hms⟩ := okL_t hok
  have hpr := isFld_r h3
  have HF := Lib.hid (show rtM x = (matF x.d.length (rtF x), true) by rw [rtM, if_pos hok])
  have H1 := Lib.hid h1
  have H2 := Lib.hid h2
  have H3 := Lib.hid h3
  have HDS := Lib.hid hds
  have HMS := Lib.hid hms
  have HDA := Lib.hid (dN_all hok)
  have HM := Lib.hid hm
  have HD := Lib.hid hd
  have LM := Lib.hid lm'
  have SZ := Lib.hid sz
  clear h1 h2 h3 hds hms hok hq hm hd lm lm'
  obtain ⟨bd, od, ed, hbd⟩ : ∃ b o, E = some ⟨b, o, none⟩ ∧ b < w0.heap.size := by
    obtain ⟨b, o, _, h1, h2, _⟩ := SlI.at_ (k := 0) HD.out (by omega)
    exact ⟨b, o, h1, h2⟩
  subst ed
  clear sz
  have c0 := kB.cell' (i := 0) rfl
  have c1 := kB.cell' (i := 1) rfl
  have c2 := kB.cell' (i := 2) rfl
  have c3 := kB.cell' (i := 3) rfl
  have c4 := kB.cell' (i := 4) rfl
  have c5 := kB.cell' (i := 5) rfl
  rw [hW] at c0 c1 c2 c3 c4 c5
  go_enter Try.func63, Try.ntmps63
  go_wp2_with fail
  rw [← hW]; clear hW
  refine (specIsRep_any _ x _ HXR.out).mono ?_; rintro e w1 ⟨rfl, hb1⟩
  rw [H1.out]
  have g1 := bthen g0 hb1
  have o1 := (oW.below hb1).wider (Nat.le_refl _) hb1.size
  have kB1 := kB.call hb1
  have HQ2 := Lib.hid (QvR.next hb1 HQ1.out)
  clear c0 c1 c2 c3 c4 c5 hb1 kB g0 oW
  have c0 := kB1.cell' (i := 0) rfl
  have c1 := kB1.cell' (i := 1) rfl
  have c2 := kB1.cell' (i := 2) rfl
  have c3 := kB1.cell' (i := 3) rfl
  have c4 := kB1.cell' (i := 4) rfl
  have c5 := kB1.cell' (i := 5) rfl
  go_wp2_with fail
  refine (specIsLine_any _ x.q _ HQ2.out).mono ?_; rintro e w2 ⟨rfl, hb2⟩
  rw [H2.out]
  have g2 := bthen g1 hb2
  have kB2 := kB1.call hb2
  have o2 := (o1.below hb2).wider (Nat.le_refl _) hb2.size
  have s2 : w0.heap.size + 1 ≤ w2.heap.size := by have := kB2.lt; omega
  clear c0 c1 c2 c3 c4 c5 hb2 kB1 g1 o1
  go_wp2
  go_loopw [4, 5] (fun ov i wr => ∃ v : Nat, v ≤ x.d.length ∧ i = .int .i64 v ∧ Below (w0.heap.size + 1) w2 wr ∧ IntssO wr (w0.heap.size + 1) wr.heap.size ov (rtS x.d.length (rtF x) v)) (fun _ i _ => x.d.length - (intOf i).toNat)
  case atStart => exact ⟨0, Nat.zero_le _, rfl, Below.refl _ _, o2⟩
  case round =>
    clear o2
    obtain ⟨v, hv, rfl, hbel, hO⟩ := hrel
    obtain ⟨OA, oc, eo, hoc, hoc2, _⟩ := hO.form2
    rw [rtS_length] at eo hoc
    subst eo
    have ws := hbel.size
    have kBr := kB2.below hbel (by omega)
    have gw := g2.trans (hbel.mono (by omega))
    by_cases hlt : v < x.d.length
    · obtain ⟨bd', od', D0, ed, hbd', HX, x1, _⟩ := SlI.at_ (k := v) HD.out hlt
      injection ed with ed
      injection ed with ed1 ed2
      subst ed1 ed2
      have hx := HX.out
      rw [(HDS.out v hlt).1] at hx
      injection hx with hx
      subst hx
      have hDv := HDA.out v
      obtain ⟨X, hX⟩ : ∃ u, u = wr.alloc (.cells (mkCells (.int .i64 0) x.d.length) 3) := ⟨_, rfl⟩
      have hmkX := run_mkI wr (n := x.d.length) (by omega)
      rw [← hX] at hmkX
      have bX : Below wr.heap.size wr X := by rw [hX]; exact below_alloc _ _
      have rX : IntsO X wr.heap.size X.heap.size (.slice (some ⟨wr.heap.size, 0, none⟩) x.d.length x.d.length) (rtR x.d.length (rtF x) v v) := by
        rw [hX, ← rtR_low (rtF x) fun w hw => rtF_low x hw]
        exact IntsO.of_own (OwnI.made0 (Nat.le_refl _) (by omega))
      have sX : X.heap.size = wr.heap.size + 1 := by rw [hX]; simp
      have hOX := hO.below bX
      have x2 := bcell (gw.trans (bX.mono (by omega))) hbd x1
      have p4 := kBr.cell' (i := 4) rfl
      have kBX := kBr.call bX
      have c4 := kBX.cell' (i := 4) rfl
      have BX := Lib.hid (hbel.trans (bX.mono (by omega)))
      obtain ⟨G, hG⟩ : ∃ z, z = wr.heap.size := ⟨_, rfl⟩
      clear hO hbel HX x1 bX hX
      go_wp2_with fail
      rw [← hG] at rX sX hOX ⊢
      have hG2 : w0.heap.size + 1 ≤ G := by omega
      clear hmkX p4 c4 x2 hG
      refine (l3Identity_any (dN x v) _ (by omega)).mono ?_; rintro e w4 ⟨m4, rfl, hI, hb4⟩
      obtain ⟨MA, mc, em⟩ := hI.form
      subst em
      simp only [mxF, flat_length] at hI ⊢
      obtain ⟨MN, hMN⟩ : ∃ z, dN x v * dN x v = z := ⟨_, rfl⟩
      rw [hMN] at hI ⊢
      obtain ⟨s4, es, oI, _, _⟩ := hI
      simp only [Value.agg.injEq, Array.mk.injEq, List.cons.injEq, and_true, true_and] at es
      subst es
      obtain ⟨w5, hw5⟩ : ∃ u, u = w4.alloc (.cells #[.int .i64 (dN x v), .int .i64 (dN x v), .slice MA MN mc] 95) := ⟨_, rfl⟩
      have b5 : Below w4.heap.size w4 w5 := by rw [hw5]; exact below_alloc _ _
      have k5 : Blk w5 w4.heap.size 95 #[.int .i64 (dN x v), .int .i64 (dN x v), .slice MA MN mc] := by rw [hw5]; exact Blk.new _ _ _
      have b45 := bthen hb4 b5
      have s45 := b45.size
      have s4 := hb4.size
      have s5 : w5.heap.size = w4.heap.size + 1 := by rw [hw5]; simp
      have oI5 : IntsO w5 X.heap.size w4.heap.size (.slice MA MN mc) (flat (dN x (v + (0 - 1))) (dN x v) (pdF x v (0 - 1))) := by
        have := oI.below b5
        exact this
      have hO5 := hOX.below b45
      have B5 := BX.out.trans (b45.mono (by omega))
      have r5 := rX.below b45
      clear oI b5 hb4 hMN b45 hOX rX
      go_wp2
      rw [← hw5]; clear hw5
      go_loopw [8] (fun i wr => ∃ (n NN K : Nat) (MA : Option Addr) (mc : Nat), v + n ≤ x.d.length ∧ i = .int .i64 (K : Int) ∧ Hid (K = v + n) ∧ Below (w0.heap.size + 1) w2 wr ∧ w5.heap.size ≤ wr.heap.size ∧ IntssO wr (w0.heap.size + 1) G (.slice OA v oc) (rtS x.d.length (rtF x) v) ∧
        IntsO wr G (G + 1) (.slice (some ⟨G, 0, none⟩) x.d.length x.d.length) (rtR x.d.length (rtF x) v K) ∧
        Blk wr w4.heap.size 95 #[.int .i64 (dN x (v + (n - 1))), .int .i64 (dN x v), .slice MA NN mc] ∧ IntsO wr X.heap.size wr.heap.size (.slice MA NN mc) (flat (dN x (v + (n - 1))) (dN x v) (pdF x v (n - 1)))) (fun i _ => x.d.length - (intOf i).toNat)
      case atStart => exact ⟨0, MN, v, MA, mc, by omega, rfl, rfl, B5, Nat.le_refl _, hO5, r5.wider (Nat.le_refl _) (by omega), k5, oI5.wider (Nat.le_refl _) (by omega)⟩
      case round =>
        clear hO5 r5 k5 oI5 B5 ws kBr gw kBX
        obtain ⟨n, NN, K, MA, mc, hn, rfl, HK, hbel, hs, hO, hR, k5, oM⟩ := hrel
        have kBr := kB2.below hbel (by omega)
        have gw := g2.trans (hbel.mono (by omega))
        have k4 := kBr.cell' (i := 4) rfl
        have hK1 : K ≤ v + n := Nat.le_of_eq HK.out
        have hK2 : v + n ≤ K := Nat.le_of_eq HK.out.symm
        by_cases hlw : K < x.d.length
        · obtain ⟨y, hy⟩ : ∃ y, y = x := ⟨_, rfl⟩
          subst hy
          obtain ⟨D0, hD0⟩ : ∃ z, dN y v = z := ⟨_, rfl⟩
          obtain ⟨D2, hD2⟩ : ∃ z, dN y (v + n) = z := ⟨_, rfl⟩
          have hrt : rtF y v K = (rkF y.p D2 D0 (pdF y v n) : Int) := by
            rw [rtF, if_neg (by omega), show K - v = n by omega, show K = v + n by omega, hD2, hD0]
          have inP1 := pdF_inF H3.out v n
          have hd0 := HDA.out v
          have hd2 := HDA.out (v + n)
          rw [hD0] at hd0 inP1 oM k5
          rw [hD2] at hd2 inP1
          have HRT := Lib.hid hrt
          have HINP1 := Lib.hid inP1
          have HD2 := Lib.hid hD2
          have HD0 := Lib.hid hD0
          clear hrt inP1 hD2 hD0
          rcases n with _ | n
          · have hnv : ¬ v < K := by omega
            have e0 : D2 = dN y (v + (0 - 1)) := HD2.out.symm
            rw [← e0] at k5 oM
            have HROW := Lib.hid hR
            have HOUT := Lib.hid hO
            have HBY := Lib.hid hbel
            have ONY := Lib.hid oM
            have kBY := kBr
            have kY := k5
            clear hR hO hbel oM k5 kBr e0 gw
            have hRKL := rkF_le y.p D2 D0 (pdF y v 0)
            obtain ⟨rk, hrk⟩ : ∃ z, rkF y.p D2 D0 (pdF y v 0) = z := ⟨_, rfl⟩
            rw [hrk] at hRKL
            have HRK := Lib.hid hrk
            have HHR := Lib.hid (show rtF y v K = (rk : Int) by rw [HRT.out, hrk])
            have hM := ONY.out.rd
            have HMM : Hid (MxR wr wr.heap.size (.agg #[.int .i64 D2, .int .i64 D0, .slice MA NN mc]) (mxF D2 D0 (pdF y v 0))) := ⟨_, rfl, hM, by constructor <;> simp [mxF] <;> omega, by constructor <;> simp [mxF] <;> omega⟩
            clear hM hrk
            have q0 := kY.cell' (i := 0) rfl
            have q1 := kY.cell' (i := 1) rfl
            have q2 := kY.cell' (i := 2) rfl
            have p0 := kBY.cell' (i := 0) rfl
            go_wp2_with fail
            refine (rankOf_yes y.p _ D2 D0 (pdF y v 0) _ H3.out (by omega) (by omega) HMM.out HINP1.out).mono ?_; rintro e w6 ⟨rfl, hb6⟩
            rw [HRK.out]
            have hws6 := hb6.size
            have hR6 := HROW.out.below hb6
            have y3 := (hR6.1.cellG (j := K) (by rw [rtR, rowF_length]; exact hlw)).1
            have y4 := hR6.1.frozenG K
            have pt := hR6.put (j := K) (x := (rk : Int)) (by constructor <;> omega)
            rw [← HHR.out, rtR_set, HHR.out] at pt
            have hc3 : Chg G (G + 1) w6 (w6.setCell ⟨G, K, none⟩ (.int .i64 (rk : Int))) := chg_set (Nat.le_refl _) (Nat.lt_succ_self _)
            have kY2 := (kY.call hb6).chg hc3 (.inr (by omega))
            have oN2 := (ONY.out.below hb6).chg hc3 (.inr (by omega))
            have oO2 := (HOUT.out.below hb6).chg hc3 (.inl (by omega))
            have bY2 := (HBY.out.trans (hb6.mono (by omega))).trans (hc3.below (by omega) (by omega))
            have PT := Lib.hid pt
            have HK2 := Lib.hid kY2
            have HON2 := Lib.hid oN2
            have HOO2 := Lib.hid oO2
            have HB2 := Lib.hid bY2
            clear pt hc3 kY2 oN2 oO2 bY2 hR6 hb6 kBY kY
            go_wp2
            go_roundw
            case rel => exact ⟨0 + 1, NN, K + 1, MA, mc, by omega, by go_num, (by show K + 1 = v + (0 + 1); omega), HB2.out, by simp; omega, HOO2.out, PT.out, by show Blk _ _ _ #[.int .i64 (dN y (v + 0)), _, _]; rw [HD2.out, HD0.out]; exact HK2.out, by show IntsO _ _ _ _ (flat (dN y (v + 0)) _ (pdF y v 0)); rw [HD2.out, HD0.out]; exact HON2.out.wider (by omega) (by simp; omega)⟩
            case measure => simp [intOf]; omega
          · replace oM : IntsO wr X.heap.size wr.heap.size (.slice MA NN mc) (flat (dN y (v + n)) D0 (pdF y v n)) := oM
            replace k5 : Blk wr w4.heap.size 95 #[.int .i64 (dN y (v + n)), .int .i64 D0, .slice MA NN mc] := k5
            obtain ⟨J, hJ⟩ : ∃ z, z = v + n := ⟨_, rfl⟩
            have hJ1 : J + 1 ≤ K := by omega
            have hJ2 : K ≤ J + 1 := by omega
            have hvK : v < K := by omega
            obtain ⟨hm1, hm2⟩ := HMS.out (v + n) (by omega)
            have hml : v + n < y.m.length := by have := LM.out; omega
            obtain ⟨bm, om, m1, A1, c1', eH, hbm, HM1, z0, z1, z2, hs1, i1, i2, _⟩ := SlM.at_ (k := v + n) HM.out hml
            subst eH
            have em1 := HM1.out
            rw [hm1] at em1
            injection em1 with em1
            subst em1
            have hMB : MxR w0 w0.heap.size (.agg #[.int .i64 (dN y (v + n + 1)), .int .i64 (dN y (v + n)), .slice A1 (flat (dN y (v + n + 1)) (dN y (v + n)) (mpF y (v + n))).length c1']) (mxF (dN y (v + n + 1)) (dN y (v + n)) (mpF y (v + n))) := ⟨_, rfl, hs1, i1, i2⟩
            simp only [mxF, flat_length] at hMB z0 z1 z2
            obtain ⟨ML, hML⟩ : ∃ z, dN y (v + n + 1) * dN y (v + n) = z := ⟨_, rfl⟩
            rw [hML] at hMB z2
            obtain ⟨D1, hD1⟩ : ∃ z, dN y (v + n) = z := ⟨_, rfl⟩
            have hD2 : dN y (v + n + 1) = D2 := HD2.out
            have hp1 : pdF y v (n + 1) = muP y.p D1 (mpF y (v + n)) (pdF y v n) := by rw [pdF, hD1]
            have inP := pdF_inF H3.out v n
            have hd1 := HDA.out (v + n)
            rw [HD0.out] at inP
            rw [hD1] at oM k5 hd1 inP hm2 hMB z1
            rw [hD2] at hm2 hMB z0
            rw [← hJ] at z0 z1 z2
            have HJ := Lib.hid hJ
            have hJm : J < y.m.length := by omega
            have HP1 := Lib.hid hp1
            have HMB := Lib.hid hMB
            have HIN1 := Lib.hid hm2
            have HINP := Lib.hid inP
            have HOM := Lib.hid oM
            have HBEL := Lib.hid hbel
            have HOO := Lib.hid hO
            have HRR := Lib.hid hR
            have HGW := Lib.hid gw
            have gws := gw.size
            clear hm1 hm2 hml hs1 i1 i2 HM1 hMB hML hD1 hD2 inP hp1 oM hbel hO hR gw hJ
            go_wp2
            clear k4
            refine wp_region_net (by kernel_rfl) [.eq (.pointer (some ⟨w0.heap.size, 0, none⟩)), .eq (.int .i64 y.p), .eq (.pointer (some ⟨w0.heap.size, 5, none⟩)), .eq (.slice (some ⟨bm, om, none⟩) y.m.length h), .eq (.int .i64 (K : Int)), .eq (.int .i64 (J : Int)), .eq (.pointer (some ⟨bm, om + J * 3, none⟩)), .eq (.agg #[.int .i64 D2, .int .i64 D1, .slice A1 ML c1']), .eq (.agg #[.int .i64 D1, .int .i64 D0, .slice MA NN mc]), rel 9 (fun u lo hi w => MxO w lo hi u (mxF D2 D0 (muP y.p D1 (mpF y (v + n)) (pdF y v n))))] [[], [0], [], [2], [], [4], [2, 3, 4, 5], [2, 3, 4, 5, 6], [], [0, 1, 2, 3, 4, 5, 6, 7, 8], [0, 1, 2, 3, 4, 5, 6, 7, 8, 9]] 10 (by kernel_rfl) ⟨trivial, trivial, trivial, trivial, trivial, trivial, trivial, trivial, trivial, rel_stable (fun u lo hi w w' h hb => h.below hb), trivial⟩ ⟨?_, ?_, ?_, ?_, ?_, ?_, ?_, ?_, ?_, ?_, trivial⟩ ?_
            · intro x w hb hk Q' hQ
              clear hk
              simp only [netAct, dstAt, List.getElem?_toArray, List.getElem?_cons_zero, List.getElem?_cons_succ, Option.bind_some, Act.put, List.setIfInBounds_toArray, List.set_cons_zero, List.set_cons_succ] at hQ ⊢
              go_wp2
              exact hQ (.pointer (some ⟨w0.heap.size, 0, none⟩)) _ (Below.refl _ _) rfl
            · intro x w hb hk Q' hQ
              have h0 : x.v 0 = .pointer (some ⟨w0.heap.size, 0, none⟩) := (hk 0 (by decide)).1
              clear hk
              simp only [netAct, dstAt, List.getElem?_toArray, List.getElem?_cons_zero, List.getElem?_cons_succ, Option.bind_some, Act.put, List.setIfInBounds_toArray, List.set_cons_zero, List.set_cons_succ] at hQ ⊢
              simp only [h0] at hQ ⊢
              clear h0
              have q0 := (kBr.call hb).cell' (i := 0) rfl
              go_wp2
              exact hQ (.int .i64 y.p) _ (Below.refl _ _) rfl
            · intro x w hb hk Q' hQ
              clear hk
              simp only [netAct, dstAt, List.getElem?_toArray, List.getElem?_cons_zero, List.getElem?_cons_succ, Option.bind_some, Act.put, List.setIfInBounds_toArray, List.set_cons_zero, List.set_cons_succ] at hQ ⊢
              go_wp2
              exact hQ (.pointer (some ⟨w0.heap.size, 5, none⟩)) _ (Below.refl _ _) rfl
            · intro x w hb hk Q' hQ
              have h2 : x.v 2 = .pointer (some ⟨w0.heap.size, 5, none⟩) := (hk 2 (by decide)).1
              clear hk
              simp only [netAct, dstAt, List.getElem?_toArray, List.getElem?_cons_zero, List.getElem?_cons_succ, Option.bind_some, Act.put, List.setIfInBounds_toArray, List.set_cons_zero, List.set_cons_succ] at hQ ⊢
              simp only [h2] at hQ ⊢
              clear h2
              have q0 := (kBr.call hb).cell' (i := 5) rfl
              go_wp2
              exact hQ (.slice (some ⟨bm, om, none⟩) y.m.length h) _ (Below.refl _ _) rfl
            · intro x w hb hk Q' hQ
              clear hk
              simp only [netAct, dstAt, List.getElem?_toArray, List.getElem?_cons_zero, List.getElem?_cons_succ, Option.bind_some, Act.put, List.setIfInBounds_toArray, List.set_cons_zero, List.set_cons_succ] at hQ ⊢
              go_wp2
              exact hQ (.int .i64 (K : Int)) _ (Below.refl _ _) rfl
            · intro x w hb hk Q' hQ
              have h4 : x.v 4 = .int .i64 (K : Int) := (hk 4 (by decide)).1
              clear hk
              simp only [netAct, dstAt, List.getElem?_toArray, List.getElem?_cons_zero, List.getElem?_cons_succ, Option.bind_some, Act.put, List.setIfInBounds_toArray, List.set_cons_zero, List.set_cons_succ] at hQ ⊢
              simp only [h4] at hQ ⊢
              clear h4
              go_wp2
              rw [show (K : Int) - 1 = (J : Int) by omega]
              exact hQ (.int .i64 (J : Int)) _ (Below.refl _ _) rfl
            · intro x w hb hk Q' hQ
              have h3 : x.v 3 = .slice (some ⟨bm, om, none⟩) y.m.length h := (hk 3 (by decide)).1
              have h5 : x.v 5 = .int .i64 (J : Int) := (hk 5 (by decide)).1
              clear hk
              simp only [netAct, dstAt, List.getElem?_toArray, List.getElem?_cons_zero, List.getElem?_cons_succ, Option.bind_some, Act.put, List.setIfInBounds_toArray, List.set_cons_zero, List.set_cons_succ] at hQ ⊢
              simp only [h3, h5] at hQ ⊢
              clear h3 h5
              go_wp2
              exact hQ (.pointer (some ⟨bm, om + J * 3, none⟩)) _ (Below.refl _ _) rfl
            · intro x w hb hk Q' hQ
              have h6 : x.v 6 = .pointer (some ⟨bm, om + J * 3, none⟩) := (hk 6 (by decide)).1
              clear hk
              simp only [netAct, dstAt, List.getElem?_toArray, List.getElem?_cons_zero, List.getElem?_cons_succ, Option.bind_some, Act.put, List.setIfInBounds_toArray, List.set_cons_zero, List.set_cons_succ] at hQ ⊢
              simp only [h6] at hQ ⊢
              clear h6
              have gq := (HGW.out).trans (hb.mono (HGW.out).size)
              have q0 := bcell gq hbm z0
              have q1 := bcell gq hbm z1
              have q2 := bcell gq hbm z2
              go_wp2
              exact hQ (.agg #[.int .i64 D2, .int .i64 D1, .slice A1 ML c1']) _ (Below.refl _ _) rfl
            · intro x w hb hk Q' hQ
              clear hk
              simp only [netAct, dstAt, List.getElem?_toArray, List.getElem?_cons_zero, List.getElem?_cons_succ, Option.bind_some, Act.put, List.setIfInBounds_toArray, List.set_cons_zero, List.set_cons_succ] at hQ ⊢
              have kq := k5.call hb
              have q0 := kq.cell' (i := 0) rfl
              have q1 := kq.cell' (i := 1) rfl
              have q2 := kq.cell' (i := 2) rfl
              go_wp2
              exact hQ (.agg #[.int .i64 D1, .int .i64 D0, .slice MA NN mc]) _ (Below.refl _ _) rfl
            · intro x w hb hk Q' hQ
              have h0 : x.v 0 = .pointer (some ⟨w0.heap.size, 0, none⟩) := (hk 0 (by decide)).1
              have h1 : x.v 1 = .int .i64 y.p := (hk 1 (by decide)).1
              have h2 : x.v 2 = .pointer (some ⟨w0.heap.size, 5, none⟩) := (hk 2 (by decide)).1
              have h3 : x.v 3 = .slice (some ⟨bm, om, none⟩) y.m.length h := (hk 3 (by decide)).1
              have h4 : x.v 4 = .int .i64 (K : Int) := (hk 4 (by decide)).1
              have h5 : x.v 5 = .int .i64 (J : Int) := (hk 5 (by decide)).1
              have h6 : x.v 6 = .pointer (some ⟨bm, om + J * 3, none⟩) := (hk 6 (by decide)).1
              have h7 : x.v 7 = .agg #[.int .i64 D2, .int .i64 D1, .slice A1 ML c1'] := (hk 7 (by decide)).1
              have h8 : x.v 8 = .agg #[.int .i64 D1, .int .i64 D0, .slice MA NN mc] := (hk 8 (by decide)).1
              clear hk
              simp only [netAct, dstAt, List.getElem?_toArray, List.getElem?_cons_zero, List.getElem?_cons_succ, Option.bind_some, Act.put, List.setIfInBounds_toArray, List.set_cons_zero, List.set_cons_succ] at hQ ⊢
              simp only [h0, h1, h2, h3, h4, h5, h6, h7, h8] at hQ ⊢
              clear h0 h1 h2 h3 h4 h5 h6 h7 h8
              have gq := (HGW.out).trans (hb.mono (HGW.out).size)
              have HMR := Lib.hid (MxR.more gq.size (MxR.below gq HMB.out))
              have hM := (HOM.out.below hb).rd
              have HMM : Hid (MxR w w.heap.size (.agg #[.int .i64 D1, .int .i64 D0, .slice MA NN mc]) (mxF D1 D0 (pdF y v n))) := ⟨_, rfl, hM, by constructor <;> simp [mxF] <;> omega, by constructor <;> simp [mxF] <;> omega⟩
              clear gq hM
              go_wp2_with fail
              refine (l3Multiply_any y.p _ _ D2 D1 D0 _ _ _ hpr (by omega) (by omega) (by omega) HMR.out HMM.out HIN1.out HINP.out).mono ?_; rintro e w6 ⟨m6, rfl, hM6, hb6⟩
              go_wp2
              exact hQ _ _ hb6 hM6
            · intro x w hb hk hiv hdj
              have h0 : x.v 0 = .pointer (some ⟨w0.heap.size, 0, none⟩) := hk 0 (by decide)
              have h1 : x.v 1 = .int .i64 y.p := hk 1 (by decide)
              have h2 : x.v 2 = .pointer (some ⟨w0.heap.size, 5, none⟩) := hk 2 (by decide)
              have h3 : x.v 3 = .slice (some ⟨bm, om, none⟩) y.m.length h := hk 3 (by decide)
              have h4 : x.v 4 = .int .i64 (K : Int) := hk 4 (by decide)
              have h5 : x.v 5 = .int .i64 (J : Int) := hk 5 (by decide)
              have h6 : x.v 6 = .pointer (some ⟨bm, om + J * 3, none⟩) := hk 6 (by decide)
              have h7 : x.v 7 = .agg #[.int .i64 D2, .int .i64 D1, .slice A1 ML c1'] := hk 7 (by decide)
              have h8 : x.v 8 = .agg #[.int .i64 D1, .int .i64 D0, .slice MA NN mc] := hk 8 (by decide)
              have h9 : MxO w (x.lo 9) (x.hi 9) (x.v 9) (mxF D2 D0 (muP y.p D1 (mpF y (v + n)) (pdF y v n))) := hk 9 (by decide)
              clear hk
              simp only [netAct, dstAt, List.getElem?_toArray, List.getElem?_cons_zero, List.getElem?_cons_succ, Option.bind_some, Act.put, List.setIfInBounds_toArray, List.set_cons_zero, List.set_cons_succ]
              simp only [List.drop_succ_cons, List.drop_zero, h0, h1, h2, h3, h4, h5, h6, h7, h8]
              clear h0 h1 h2 h3 h4 h5 h6 h7 h8
              obtain ⟨i9a, i9b, i9c⟩ := hiv 9 (by decide)
              obtain ⟨MB, mb, e9⟩ := h9.form
              have h9' := h9
              rw [e9] at h9' ⊢
              simp only [mxF, flat_length] at h9' ⊢
              obtain ⟨MS, hMS⟩ : ∃ z, D2 * D0 = z := ⟨_, rfl⟩
              rw [hMS] at h9' ⊢
              obtain ⟨sq, eq, oN, _, _⟩ := h9'
              simp only [Value.agg.injEq, Array.mk.injEq, List.cons.injEq, and_true, true_and] at eq
              subst eq
              have kq := k5.call hb
              have q0 := kq.cell' (i := 0) rfl
              have q1 := kq.cell' (i := 1) rfl
              have q2 := kq.cell' (i := 2) rfl
              have qf := kq.frozen
              have hws := hb.size
              have hc := chg3 w w4.heap.size (.int .i64 D2) (.int .i64 D0) (.slice MB MS mb)
              obtain ⟨Y, hY⟩ : ∃ u, u = ((w.setCell ⟨w4.heap.size, 0, none⟩ (.int .i64 D2)).setCell ⟨w4.heap.size, 1, none⟩ (.int .i64 D0)).setCell ⟨w4.heap.size, 2, none⟩ (.slice MB MS mb) := ⟨_, rfl⟩
              rw [← hY] at hc
              have kY : Blk Y w4.heap.size 95 #[.int .i64 D2, .int .i64 D0, .slice MB MS mb] := by
                rw [hY]
                exact ((kq.set_ 0 (.int .i64 D2)).set_ 1 (.int .i64 D0)).set_ 2 (.slice MB MS mb)
              have HOUT := Lib.hid ((HOO.out.below hb).chg hc (.inl (by omega)))
              have HROW := Lib.hid ((HRR.out.below hb).chg hc (.inl (by omega)))
              have hbY := (HBEL.out.trans (hb.mono (by omega))).trans (hc.below (by omega) (by omega))
              have ONY := Lib.hid ((oN.chg hc (.inr (by omega))).wider (lo' := X.heap.size) (hi' := w.heap.size) (by omega) (by omega))
              have hsY : Y.heap.size = w.heap.size := by rw [hY]; simp
              have HSY := Lib.hid hsY
              have hsY1 : w.heap.size ≤ Y.heap.size := Nat.le_of_eq HSY.out.symm
              have kBY := kB2.below hbY (by omega)
              have HBY := Lib.hid hbY
              rw [← HP1.out] at ONY
              clear hMS h9 e9 oN hc hiv hdj kq hb k5 hbY hsY
              have y0 := kY.cell' (i := 0) rfl
              have y1 := kY.cell' (i := 1) rfl
              have y2 := kY.cell' (i := 2) rfl
              have y3 := kBY.cell' (i := 0) rfl
              rw [hY] at y0 y1 y2 y3
              go_wp2_with fail
              rw [← hY]
              clear hY q0 q1 q2 qf y0 y1 y2 y3
              have hRKL := rkF_le y.p D2 D0 (pdF y v (n + 1))
              obtain ⟨rk, hrk⟩ : ∃ z, rkF y.p D2 D0 (pdF y v (n + 1)) = z := ⟨_, rfl⟩
              rw [hrk] at hRKL
              have HRK := Lib.hid hrk
              have HHR := Lib.hid (show rtF y v K = (rk : Int) by rw [HRT.out, hrk])
              have hM := ONY.out.rd
              have HMM : Hid (MxR Y Y.heap.size (.agg #[.int .i64 D2, .int .i64 D0, .slice MB MS mb]) (mxF D2 D0 (pdF y v (n + 1)))) := ⟨_, rfl, hM, by constructor <;> simp [mxF] <;> omega, by constructor <;> simp [mxF] <;> omega⟩
              clear hM hrk
              refine (rankOf_yes y.p _ D2 D0 (pdF y v (n + 1)) _ H3.out (by omega) (by omega) HMM.out HINP1.out).mono ?_; rintro e w6 ⟨rfl, hb6⟩
              rw [HRK.out]
              have hws6 := hb6.size
              have hR6 := HROW.out.below hb6
              have y3 := (hR6.1.cellG (j := K) (by rw [rtR, rowF_length]; exact hlw)).1
              have y4 := hR6.1.frozenG K
              have pt := hR6.put (j := K) (x := (rk : Int)) (by constructor <;> omega)
              rw [← HHR.out, rtR_set, HHR.out] at pt
              have hc3 : Chg G (G + 1) w6 (w6.setCell ⟨G, K, none⟩ (.int .i64 (rk : Int))) := chg_set (Nat.le_refl _) (Nat.lt_succ_self _)
              have kY2 := (kY.call hb6).chg hc3 (.inr (by omega))
              have oN2 := (ONY.out.below hb6).chg hc3 (.inr (by omega))
              have oO2 := (HOUT.out.below hb6).chg hc3 (.inl (by omega))
              have bY2 := (HBY.out.trans (hb6.mono (by omega))).trans (hc3.below (by omega) (by omega))
              have PT := Lib.hid pt
              have HK2 := Lib.hid kY2
              have HON2 := Lib.hid oN2
              have HOO2 := Lib.hid oO2
              have HB2 := Lib.hid bY2
              clear pt hc3 kY2 oN2 oO2 bY2 hR6 hb6 kBY kY
              go_wp2
              go_roundw
              case rel => exact ⟨(n + 1) + 1, MS, K + 1, MB, mb, by omega, by go_num, (by show K + 1 = v + ((n + 1) + 1); omega), HB2.out, by simp; omega, HOO2.out, PT.out, by show Blk _ _ _ #[.int .i64 (dN y (v + (n + 1))), _, _]; rw [HD2.out, HD0.out]; exact HK2.out, by show IntsO _ _ _ _ (flat (dN y (v + (n + 1))) _ (pdF y v (n + 1))); rw [HD2.out, HD0.out]; exact HON2.out.wider (by omega) (by simp; omega)⟩
              case measure => simp [intOf]; omega
        · have hKL : K = x.d.length := by omega
          rw [hKL, rtR_end] at hR
          obtain ⟨u, hu, Z, hZ⟩ : ∃ u, u = wr.heap.size ∧ ∃ Z, Z = wr.alloc (.cells #[.slice (some ⟨G, 0, none⟩) x.d.length x.d.length] 22) := ⟨_, rfl, _, rfl⟩
          have bZ : Below wr.heap.size wr Z := by rw [hZ]; exact below_alloc _ _
          have kZ : Blk Z u 22 #[.slice (some ⟨G, 0, none⟩) x.d.length x.d.length] := by rw [hZ, hu]; exact Blk.new _ _ _
          have hOZ := hO.below bZ
          have hRZ := hR.below bZ
          have hBZ := hbel.trans (bZ.mono (by omega))
          have sZ := bZ.size
          have HOZ := Lib.hid hOZ
          have HRZ := Lib.hid hRZ
          have HBZ := Lib.hid hBZ
          have c0 := kZ.cell' (i := 0) rfl
          have C0 := Lib.hid c0
          have HU := Lib.hid hu
          have HKL := Lib.hid hKL
          clear hO hR hbel bZ hOZ hRZ hBZ kZ c0 hu hKL k5 oM kBr gw
          (go_wp2_with (at_builtin; refine Hold.stop ?_)); unfold Hold
          rw [← HU.out, ← hZ]
          clear hZ
          refine wpList_appR rfl (.tmp 65) (.tmp 67) rfl (w0.heap.size + 1) G G (G + 1) (.slice OA v oc) (rtS x.d.length (rtF x) v) (rowF x.d.length (rtF x v)) rfl HOZ.out _ _ (.slice (some ⟨G, 0, none⟩) x.d.length x.d.length) rfl ⟨u, 0, rfl, C0.out⟩ HRZ.out (Nat.le_refl _) (by omega) (by omega) (by rw [rtS_length]; omega) (by omega) (by omega) ?_
          intro v9 w9 ho9 hb9 _
          rw [← rtS_succ] at ho9
          have HO9 := Lib.hid ho9
          have HB9 := Lib.hid (HBZ.out.trans hb9)
          clear ho9 hb9
          go_wp2
          go_roundw
          case rel => exact ⟨v + 1, by omega, by go_num, HB9.out, HO9.out⟩
          case measure => simp [intOf]; omega
    · have hvL : v = x.d.length := by omega
      have e1 : rtS x.d.length (rtF x) v = matF x.d.length (rtF x) := by rw [hvL]; rfl
      rw [e1] at hO
      have HO := Lib.hid (hO.wider (show w0.heap.size ≤ w0.heap.size + 1 by omega) (Nat.le_refl _))
      have HG := Lib.hid gw
      have c4 := kBr.cell' (i := 4) rfl
      clear hO hbel hvL e1 gw
      go_wp2
      go_ret2
      exact ⟨.slice OA v oc, by rw [HF.out]; rfl, by rw [HF.out]; exact HO.out, HG.out⟩
theorem specRankTable_any (u : Value) (x : Rp) (w0 : World) (hu : RpR w0 w0.heap.size u x) :
    Calls Try.prog 63 #[u] w0 fun e w' => ∃ v, e = .returned (.tuple #[v, .bool (rtM x).2]) ∧ IntssO w' w0.heap.size w'.heap.size v (rtM x).1 ∧ Below w0.heap.size w0 w' := by
  rcases h : okL x with _ | _
  · exact specRankTable_no u x w0 hu h
  · exact specRankTable_yes u x w0 hu h
end Go.Proofs.Ytjlgijdkfihhlaa

/- Lists of bars: the law's copies and comparisons, the two EqualBars. -/
namespace Go.Proofs.Ytjlgijdkfihhlaa
set_option linter.unusedVariables false
set_option linter.unusedSimpArgs false
open Go.RowKit

theorem eqBar_any (a b c a' b' c' : Int) (w : World) : Calls Try.prog 68 #[.agg #[.int .i64 a, .int .i64 b, .int .i64 c], .agg #[.int .i64 a', .int .i64 b', .int .i64 c']] w fun e w' => e = .returned (.bool (decide ((a, b, c) = (a', b', c')))) ∧ Below w.heap.size w w' := by
  go_enter Try.func68, Try.ntmps68
  go_wp2
  all_goals (go_ret; refine ⟨by simp_all, ?_⟩; exact ((Below.refl _ _).alloc (Nat.le_refl _) _).alloc (by simp) _)

theorem bar_neq (x y z x' y' z' : Int) (b : Bool) (hb : decide ((x, y, z) = (x', y', z')) = b) (w : World) : (binOp .neq 80 (.agg #[.int .i64 x, .int .i64 y, .int .i64 z]) (.agg #[.int .i64 x', .int .i64 y', .int .i64 z'])).run Try.prog w = .ok (.bool !b) w := by
  subst hb
  go_simp
  by_cases h1 : x = x' <;> by_cases h2 : y = y' <;> by_cases h3 : z = z' <;> simp [h1, h2, h3]

set_option maxHeartbeats 400000 in
theorem eqBarS_any (u v : Value) (xs ys : List Bar) (w : World) (hu : SlB w w.heap.size u xs) (hv : SlB w w.heap.size v ys) :
    Calls Try.prog 19 #[u, v] w fun e w' => e = .returned (.bool (decide (xs = ys))) ∧ Below w.heap.size w w' := by
  obtain ⟨A, c, rfl, _, _, hn, hx⟩ := hu.open_
  obtain ⟨C, d, rfl, _, _, hm, hy⟩ := hv.open_
  clear hu hv
  by_cases hnm : xs.length = ys.length
  · have heq : ((xs.length : Int) != ys.length) = false := by rw [bne_eq_false_iff_eq]; omega
    have HN := Lib.hid hnm
    clear hnm
    go_enter Try.func19, Try.ntmps19
    go_wp2
    go_loopw [5] (fun i wr => ∃ k : Nat, k ≤ xs.length ∧ i = .int .i64 k ∧ Below w.heap.size w wr ∧ Hid (xs.take k = ys.take k)) (fun i _ => xs.length - (intOf i).toNat)
    case atStart => exact ⟨0, Nat.zero_le _, rfl, Below.refl _ _, rfl⟩
    case round =>
      obtain ⟨k, hk, rfl, hbel, hxy⟩ := hrel
      by_cases hlt : k < xs.length
      · have hlt' : k < ys.length := by have := HN.out; omega
        obtain ⟨b, o, x, y, z, rfl, hb, HX, c1, c2, c3, _⟩ := SlB.at_ hx hlt
        obtain ⟨b', o', x', y', z', rfl, hb', HX', c1', c2', c3', _⟩ := SlB.at_ hy hlt'
        clear hx hy
        obtain ⟨B, hB⟩ : ∃ B, (decide ((x, y, z) = (x', y', z'))) = B := ⟨_, rfl⟩
        have HC : ∀ W, Calls Try.prog 68 #[.agg #[.int .i64 x, .int .i64 y, .int .i64 z], .agg #[.int .i64 x', .int .i64 y', .int .i64 z']] W fun e w' => e = .returned (.bool B) ∧ Below W.heap.size W w' := by
          subst hB
          exact eqBar_any x y z x' y' z'
        have HB := Lib.hid hB
        have HC := Lib.hid HC
        clear hB
        have d1 := InB.cell (w := wr) (by have := hbel.size; omega) (bcell hbel hb c1)
        have d2 := InB.cell (w := wr) (by have := hbel.size; omega) (bcell hbel hb c2)
        have d3 := InB.cell (w := wr) (by have := hbel.size; omega) (bcell hbel hb c3)
        have d1' := InB.cell (w := wr) (by have := hbel.size; omega) (bcell hbel hb' c1')
        have d2' := InB.cell (w := wr) (by have := hbel.size; omega) (bcell hbel hb' c2')
        have d3' := InB.cell (w := wr) (by have := hbel.size; omega) (bcell hbel hb' c3')
        clear c1 c2 c3 c1' c2' c3'
        cases B
        · go_wp2
          (refine wp_region_inB (by kernel_rfl) (by kernel_rfl) ?_; (repeat (go_big_quiet_step ((go_at_call 68; exact InB.call (HC.out _))))); refine wpQuiet_nil ?_; intro w1 hw'; obtain ⟨s1, hw1⟩ := hw'; have hb1 := s1.below; rw [← hw1] at hb1; clear hw1 s1)
          go_wp2
          go_ret
          have hxy' : xs ≠ ys := by
            rintro rfl
            have h1 := HB.out
            have h2 := HX.out
            rw [HX'.out] at h2
            exact of_decide_eq_false h1 (by injection h2 with h2; exact h2.symm)
          exact ⟨by rw [decide_eq_false hxy']; rfl, hbel.trans (hb1.mono hbel.size)⟩
        · go_wp2
          (refine wp_region_inB (by kernel_rfl) (by kernel_rfl) ?_; (repeat (go_big_quiet_step ((go_at_call 68; exact InB.call (HC.out _))))); refine wpQuiet_nil ?_; intro w1 hw'; obtain ⟨s1, hw1⟩ := hw'; have hb1 := s1.below; rw [← hw1] at hb1; clear hw1 s1)
          go_wp2
          go_roundw
          case rel =>
            refine ⟨k + 1, by omega, by go_num, hbel.trans (hb1.mono hbel.size), ?_⟩
            show _ = _
            rw [take_snoc HX.out, take_snoc HX'.out, hxy.out, of_decide_eq_true HB.out]
          case measure => simp [intOf]; omega
      · go_wp2
        go_ret
        refine ⟨?_, hbel⟩
        have h1 := hxy.out
        rw [List.take_of_length_le (by omega), List.take_of_length_le (by have := HN.out; omega)] at h1
        simp [h1]
  · have hne : ((xs.length : Int) != ys.length) = true := by rw [bne_iff_ne]; omega
    go_enter Try.func19, Try.ntmps19
    go_wp2
    go_ret
    refine ⟨?_, Below.refl _ _⟩
    rw [decide_eq_false (by rintro rfl; omega)]; rfl

theorem infoBar : (Try.prog.info? 80).map (fun i => (i.zero, i.size, i.bytes)) = some (some (.agg #[.int .i64 0, .int .i64 0, .int .i64 0]), 3, 24) := by kernel_rfl

/-- The first k elements of a row of bars are laid. -/
def BarCs (cs : Array Value) (xs : List Bar) (k : Nat) : Prop :=
  cs.size = xs.length * 3 ∧ ∀ j x, j < k → xs[j]? = some x → cs[j * 3]? = some (.int .i64 x.1) ∧ cs[j * 3 + 1]? = some (.int .i64 x.2.1) ∧ cs[j * 3 + 2]? = some (.int .i64 x.2.2)

theorem BarCs.step {cs : Array Value} {xs : List Bar} {k : Nat} {x y z : Int} (h : BarCs cs xs k) (hx : xs[k]? = some (x, y, z)) :
    BarCs (((cs.setIfInBounds (k * 3) (.int .i64 x)).setIfInBounds (k * 3 + 1) (.int .i64 y)).setIfInBounds (k * 3 + 2) (.int .i64 z)) xs (k + 1) := by
  obtain ⟨hs, h⟩ := h
  have hk := lt_of_some hx
  refine ⟨by simpa using hs, fun j u hj hu => ?_⟩
  by_cases e : j = k
  · subst e
    rw [hx] at hu
    injection hu with hu
    subst hu
    refine ⟨?_, ?_, ?_⟩ <;> simp [Array.getElem?_setIfInBounds] <;> omega
  · obtain ⟨a, b, c⟩ := h j u (by omega) hu
    refine ⟨?_, ?_, ?_⟩ <;> simp only [Array.getElem?_setIfInBounds] <;> (repeat rw [if_neg (by omega)]) <;> assumption
theorem BarCs.sl {cs : Array Value} {xs : List Bar} {w w' : World} {g B : Nat} {u : Value} (h : BarCs cs xs xs.length) (hb : Blk w' g 80 cs) (hx : SlB w B u xs) (hn : xs.length ≤ 9223372036854775807) :
    SlB w' w'.heap.size (.slice (some ⟨g, 0, none⟩) xs.length xs.length) xs := by
  obtain ⟨_, _, _, _, _, hn', h4⟩ := hx
  refine ⟨_, _, rfl, Nat.le_refl _, hn, hn', fun hp => ⟨g, 0, rfl, hb.lt, fun j x hj => ?_⟩⟩
  obtain ⟨_, _, _, _, hr⟩ := h4 hp
  obtain ⟨a, b, c⟩ := h.2 j x (lt_of_some hj) hj
  exact ⟨⟨by rw [hb.cell]; simpa using a, by rw [hb.cell]; simpa using b, by rw [hb.cell]; simpa using c⟩, (hr j x hj).2⟩

end Go.Proofs.Ytjlgijdkfihhlaa

/- Lists of bars of the call's own. -/
namespace Go.Proofs.Ytjlgijdkfihhlaa
set_option linter.unusedVariables false
set_option linter.unusedSimpArgs false
open Go.RowKit

def barCs : List Bar → List Value
  | x :: xs => .int .i64 x.1 :: .int .i64 x.2.1 :: .int .i64 x.2.2 :: barCs xs
  | [] => []
theorem barCs_length : ∀ xs : List Bar, (barCs xs).length = xs.length * 3
  | [] => rfl
  | x :: xs => by simp only [barCs, List.length_cons, barCs_length xs]; omega
theorem barCs_get : ∀ {xs : List Bar} {j : Nat} {x : Bar}, xs[j]? = some x → (barCs xs)[j * 3]? = some (.int .i64 x.1) ∧ (barCs xs)[j * 3 + 1]? = some (.int .i64 x.2.1) ∧ (barCs xs)[j * 3 + 2]? = some (.int .i64 x.2.2)
  | [], _, _, h => by simp at h
  | x :: xs, 0, _, h => by
    simp at h
    subst h
    simp [barCs]
  | x :: xs, j + 1, y, h => by
    simp only [List.getElem?_cons_succ] at h
    obtain ⟨a, b, c⟩ := barCs_get h
    simp only [barCs, show (j + 1) * 3 = j * 3 + 1 + 1 + 1 by omega, show j * 3 + 1 + 1 + 1 + 1 = (j * 3 + 1) + 1 + 1 + 1 by omega, show j * 3 + 1 + 1 + 1 + 2 = (j * 3 + 2) + 1 + 1 + 1 by omega, List.getElem?_cons_succ]
    exact ⟨a, b, c⟩
theorem barCs_append : ∀ xs ys : List Bar, barCs (xs ++ ys) = barCs xs ++ barCs ys
  | [], _ => rfl
  | x :: xs, ys => by simp only [List.cons_append, barCs, barCs_append xs ys]
theorem barCs_oneCell : ∀ xs : List Bar, ∀ u ∈ barCs xs, u.oneCell' = true
  | [], u, hu => by simp [barCs] at hu
  | x :: xs, u, hu => by
    simp only [barCs, List.mem_cons] at hu
    rcases hu with rfl | rfl | rfl | hu
    · rfl
    · rfl
    · rfl
    · exact barCs_oneCell xs u hu
theorem barCs_set : ∀ {xs : List Bar} {j : Nat}, j < xs.length → ∀ x : Bar, (((barCs xs).set (j * 3) (.int .i64 x.1)).set (j * 3 + 1) (.int .i64 x.2.1)).set (j * 3 + 2) (.int .i64 x.2.2) = barCs (xs.set j x)
  | [], _, h, _ => by simp at h
  | y :: ys, 0, _, x => by simp [barCs]
  | y :: ys, j + 1, h, x => by
    have := barCs_set (xs := ys) (j := j) (by simpa using h) x
    simp only [barCs, show (j + 1) * 3 = j * 3 + 1 + 1 + 1 by omega, show j * 3 + 1 + 1 + 1 + 1 = (j * 3 + 1) + 1 + 1 + 1 by omega, show j * 3 + 1 + 1 + 1 + 2 = (j * 3 + 2) + 1 + 1 + 1 by omega, List.set_cons_succ, this]

def IBar (x : Bar) : Prop := I64 x.1 ∧ I64 x.2.1 ∧ I64 x.2.2
def BarsO (w : World) (lo hi : Nat) (v : Value) (xs : List Bar) : Prop := RowO 80 3 w lo hi v xs.length (barCs xs) ∧ ∀ x ∈ xs, IBar x
theorem BarsO.rd {w : World} {lo hi : Nat} {v : Value} {xs : List Bar} (h : BarsO w lo hi v xs) : SlB w w.heap.size v xs := by
  obtain ⟨⟨h1, h2, h3⟩, hi⟩ := h
  rcases h1.2 with ⟨rfl, h0⟩ | ⟨g, cap, cur, rfl, _, hg, hnc, hcm, hcs, htake⟩
  · obtain rfl : xs = [] := List.eq_nil_of_length_eq_zero (by omega)
    exact SlG.nil
  · refine ⟨_, _, rfl, hnc, by simp only [maxLen] at hcm; omega, h3, fun hp => ⟨g, 0, rfl, (Array.getElem?_eq_some_iff.1 hg).1, fun j x hj => ?_⟩⟩
    have hjl := lt_of_some hj
    have hl := barCs_length xs
    obtain ⟨a, b, c⟩ := barCs_get hj
    have c0 := h1.cellAt (j * 3) (by omega)
    have c1 := h1.cellAt (j * 3 + 1) (by omega)
    have c2 := h1.cellAt (j * 3 + 2) (by omega)
    obtain ⟨i1, i2, i3⟩ := hi x (List.mem_of_getElem? hj)
    exact ⟨⟨by rw [Nat.zero_add, c0]; exact a, by rw [Nat.zero_add, c1]; exact b, by rw [Nat.zero_add, c2]; exact c⟩, i1, i2, i3⟩
theorem BarsO.chg {w w' : World} {lo hi lo' hi' : Nat} {v : Value} {xs : List Bar} (h : BarsO w lo hi v xs) (hc : Chg lo' hi' w w') (hd : hi ≤ lo' ∨ hi' ≤ lo) : BarsO w' lo hi v xs := ⟨h.1.chg hc hd, h.2⟩
theorem BarsO.below {w w' : World} {lo hi : Nat} {v : Value} {xs : List Bar} (h : BarsO w lo hi v xs) (hb : Below w.heap.size w w') : BarsO w' lo hi v xs := ⟨h.1.below hb, h.2⟩
theorem BarsO.wider {w : World} {lo hi lo' hi' : Nat} {v : Value} {xs : List Bar} (h : BarsO w lo hi v xs) (h1 : lo' ≤ lo) (h2 : hi ≤ hi') : BarsO w lo' hi' v xs := ⟨h.1.mono h1 h2, h.2⟩
theorem BarsO.form {w : World} {lo hi : Nat} {v : Value} {xs : List Bar} (h : BarsO w lo hi v xs) : ∃ A c, v = .slice A xs.length c ∧ xs.length ≤ c ∧ c ≤ 9223372036854775807 := h.1.form
theorem BarsO.nil (w : World) (lo hi : Nat) : BarsO w lo hi (.slice none 0 0) [] := ⟨RowO.nil _ w lo hi, by simp⟩
theorem SlB.ib {w : World} {B : Nat} {v : Value} {xs : List Bar} (h : SlB w B v xs) : ∀ x ∈ xs, IBar x := by
  obtain ⟨A, c, _, _, _, _, h4⟩ := h
  intro x hx
  obtain ⟨j, hj⟩ := List.getElem?_of_mem hx
  obtain ⟨_, _, _, _, hr⟩ := h4 (by have := lt_of_some hj; omega)
  exact (hr j x hj).2
theorem SlB.chg {w w' : World} {B lo hi : Nat} {v : Value} {xs : List Bar} (h : SlB w B v xs) (hc : Chg lo hi w w') (hB : B ≤ lo) (hs : B ≤ w.heap.size) : SlB w' B v xs := SlB.below (hc.below hB hs) h

theorem BarCs.list {cs : Array Value} {xs : List Bar} (h : BarCs cs xs xs.length) : cs.toList = barCs xs := by
  have hl := barCs_length xs
  apply List.ext_getElem?
  intro i
  by_cases hi : i < xs.length * 3
  · obtain ⟨j, r, hr, rfl⟩ : ∃ j r, r < 3 ∧ i = j * 3 + r := ⟨i / 3, i % 3, Nat.mod_lt _ (by omega), by omega⟩
    have hj : j < xs.length := by omega
    obtain ⟨a, b, c⟩ := h.2 j _ hj (List.getElem?_eq_getElem hj)
    obtain ⟨a', b', c'⟩ := barCs_get (List.getElem?_eq_getElem hj)
    rw [Array.getElem?_toList]
    match r, hr with
    | 0, _ => rw [Nat.add_zero, a, a']
    | 1, _ => rw [b, b']
    | 2, _ => rw [c, c']
  · rw [List.getElem?_eq_none (by have := h.1; simp; omega), List.getElem?_eq_none (by omega)]

end Go.Proofs.Ytjlgijdkfihhlaa

/- Bars in memory of the call's own: marks, the look at marks, append of one bar. -/
namespace Go.Proofs.Ytjlgijdkfihhlaa
set_option linter.unusedVariables false
set_option linter.unusedSimpArgs false
open Go.RowKit

theorem chg_setB {w : World} {lo hi : Nat} {p : Addr} {u : Value} (h1 : lo ≤ p.block) (h2 : p.block < hi) : Chg lo hi w (w.setCell p u) :=
  ⟨rfl, rfl, rfl, by simp [World.setCell], fun k _ hne => Below.heap_setCell _ _ _ _ (by omega)⟩
def BarsO.mk (k : Int) (l : List Bar) : List Bar := (List.range l.length).map fun i : Nat => (k + 3 * i, k + 3 * i + 1, k + 3 * i + 1 + 1)
theorem bmk_length (k : Int) (l : List Bar) : (BarsO.mk k l).length = l.length := by simp [BarsO.mk]
theorem bmk_get {k : Int} {l : List Bar} {j : Nat} (h : j < l.length) : (BarsO.mk k l)[j]? = some (k + 3 * j, k + 3 * j + 1, k + 3 * j + 1 + 1) := by simp [BarsO.mk, h]
/-- the first j marked -/
def bmTo (k : Int) (l : List Bar) (j : Nat) : List Bar := (BarsO.mk k l).take j ++ l.drop j
theorem bmTo_length (k : Int) (l : List Bar) (j : Nat) : (bmTo k l j).length = l.length := by
  simp [bmTo, bmk_length]; omega
theorem bmTo_get {k : Int} {l : List Bar} {j : Nat} {x : Bar} (h : l[j]? = some x) : (bmTo k l j)[j]? = some x := by
  have hj := lt_of_some h
  rw [bmTo, List.getElem?_append_right (by simp [bmk_length]; omega), List.getElem?_drop, ← h]
  congr 1
  simp [bmk_length]; omega
theorem bmTo_set {k : Int} {l : List Bar} {j : Nat} (h : j < l.length) : (bmTo k l j).set j (k + 3 * j, k + 3 * j + 1, k + 3 * j + 1 + 1) = bmTo k l (j + 1) := by
  apply List.ext_getElem?
  intro i
  rw [List.getElem?_set, bmTo_length]
  by_cases e : j = i
  · subst e
    rw [if_pos rfl, if_pos h, bmTo, List.getElem?_append_left (by simp [bmk_length]; omega), List.getElem?_take, if_pos (by omega), bmk_get h]
  · rw [if_neg e]
    by_cases hi : i < j
    · rw [bmTo, bmTo, List.getElem?_append_left (by simp [bmk_length]; omega), List.getElem?_append_left (by simp [bmk_length]; omega), List.getElem?_take, List.getElem?_take, if_pos hi, if_pos (by omega)]
    · rw [bmTo, bmTo, List.getElem?_append_right (by simp [bmk_length]; omega), List.getElem?_append_right (by simp [bmk_length]; omega), List.getElem?_drop, List.getElem?_drop]
      congr 1
      simp [bmk_length]; omega
set_option maxHeartbeats 1600000 in
theorem bars_mark (v : Value) (l : List Bar) (k : Int) (lo hi : Nat) (w : World) (hv : BarsO w lo hi v l) (h0 : 0 ≤ k) (h1 : k ≤ 1125899906842624) (hn : l.length ≤ 1048576) :
    Calls Try.prog 22 #[v, .int .i64 k] w fun e w' => e = .returned (.int .i64 (k + (l.length * 3 : Nat))) ∧ BarsO w' lo hi v (BarsO.mk k l) ∧ Chg lo hi w w' := by
  obtain ⟨⟨ho, hh, hl⟩, hb⟩ := hv
  rcases ho.2 with ⟨rfl, hl0⟩ | ⟨g, cap, cur, rfl, hbg, hgg, hnc, hcm, _⟩
  · obtain rfl : l = [] := List.eq_nil_of_length_eq_zero hl0
    clear ho
    go_enter Try.func22, Try.ntmps22
    go_wp2
    refine wp_loop_rounds 1 ?_
    rw [rounds_succ]
    go_wp2
    go_ret
    exact ⟨by simp, BarsO.nil _ _ _, Chg.refl _ _ _⟩
  · have hgh := hh g (by simp [Value.ownBlock])
    obtain ⟨L, hL⟩ : ∃ n, l.length = n := ⟨_, rfl⟩
    have HL := Lib.hid hL
    have HH := Lib.hid hh
    rw [hL] at ho hl hn hnc ⊢
    clear hgg hL hh
    go_enter Try.func22, Try.ntmps22
    go_wp2
    go_loopw [1, 5] (fun q i wr => ∃ j : Nat, j ≤ L ∧ i = .int .i64 j ∧ q = .int .i64 (k + (3 * j : Nat)) ∧ wr.ownsRow lo 80 3 (.slice (some ⟨g, 0, none⟩) L cap) L (barCs (bmTo k l j)) ∧ Chg lo hi w wr) (fun _ i _ => L - (intOf i).toNat)
    case atStart => exact ⟨0, Nat.zero_le _, rfl, by simp, by simpa [bmTo] using ho, Chg.refl _ _ _⟩
    case round =>
      clear ho
      obtain ⟨j, hj, rfl, rfl, hown, hch⟩ := hrel
      by_cases hlt : j < L
      · have hjl : j < l.length := by rw [HL.out]; exact hlt
        have hcl := barCs_length (bmTo k l j)
        rw [bmTo_length, HL.out] at hcl
        have c0 := hown.cellAt (j * 3) (by omega)
        have c1 := hown.cellAt (j * 3 + 1) (by omega)
        have c2 := hown.cellAt (j * 3 + 2) (by omega)
        rw [List.getElem?_eq_getElem (by omega)] at c0 c1 c2
        obtain ⟨v0, c0'⟩ : ∃ v0, wr.cell? ⟨g, j * 3, none⟩ = some v0 := ⟨_, c0⟩
        obtain ⟨v1, c1'⟩ : ∃ v0, wr.cell? ⟨g, j * 3 + 1, none⟩ = some v0 := ⟨_, c1⟩
        obtain ⟨v2, c2'⟩ : ∃ v0, wr.cell? ⟨g, j * 3 + 2, none⟩ = some v0 := ⟨_, c2⟩
        have f0 := hown.frozenAt
        have st0 := hown.stored (j * 3) (.int .i64 (k + (3 * j : Nat)))
        have st1 := st0.1.stored (j * 3 + 1) (.int .i64 (k + (3 * j : Nat) + 1))
        have st2 := st1.1.stored (j * 3 + 2) (.int .i64 (k + (3 * j : Nat) + 1 + 1))
        have e := barCs_set (xs := bmTo k l j) (j := j) (by rw [bmTo_length]; exact hjl) (k + (3 * j : Nat), k + (3 * j : Nat) + 1, k + (3 * j : Nat) + 1 + 1)
        simp only at e
        rw [e, show ((3 * j : Nat) : Int) = 3 * (j : Int) by omega, bmTo_set hjl] at st2
        have hc2 : Chg lo hi w (((wr.setCell ⟨g, j * 3, none⟩ (.int .i64 (k + 3 * (j : Int)))).setCell ⟨g, j * 3 + 1, none⟩ (.int .i64 (k + 3 * (j : Int) + 1))).setCell ⟨g, j * 3 + 2, none⟩ (.int .i64 (k + 3 * (j : Int) + 1 + 1))) :=
          ((hch.trans (chg_setB hbg hgh)).trans (chg_setB hbg hgh)).trans (chg_setB hbg hgh)
        have ST := Lib.hid st2.1
        have HC := Lib.hid hc2
        have E3 := Lib.hid (show ((3 * j : Nat) : Int) = 3 * (j : Int) by omega)
        rw [E3.out]
        clear c0 c1 c2 hown hcl st0 st1 st2 e hch hc2
        go_wp2
        go_roundw
        case rel => exact ⟨j + 1, by omega, by go_num, by congr 1; omega, ST.out, HC.out⟩
        case measure => simp [intOf]; omega
      · have hjL : j = L := by omega
        have ST := Lib.hid (show wr.ownsRow lo 80 3 (.slice (some ⟨g, 0, none⟩) L cap) L (barCs (BarsO.mk k l)) by
          have : bmTo k l j = BarsO.mk k l := by rw [bmTo, hjL, ← HL.out, List.drop_length, List.append_nil, List.take_of_length_le (by rw [bmk_length]; omega)]
          rw [← this]; exact hown)
        clear hown
        go_wp2
        go_ret
        refine ⟨congrArg (fun z => Ending.returned (Value.int .i64 z)) (by omega), ⟨⟨by rw [bmk_length, HL.out]; exact ST.out, HH.out, by rw [bmk_length, HL.out]; exact hl⟩, fun x hx => ?_⟩, hch⟩
        simp only [BarsO.mk, List.mem_map, List.mem_range, HL.out] at hx
        obtain ⟨i, hi, rfl⟩ := hx
        refine ⟨⟨?_, ?_⟩, ⟨?_, ?_⟩, ⟨?_, ?_⟩⟩ <;> simp only <;> omega
set_option maxHeartbeats 1600000 in
theorem bars_held (v : Value) (l : List Bar) (k : Int) (w : World) (hv : SlB w w.heap.size v (BarsO.mk k l)) (h0 : 0 ≤ k) (h1 : k ≤ 1125899906842624) (hn : l.length ≤ 1048576) :
    Calls Try.prog 23 #[v, .int .i64 k] w fun e w' => e = .returned (.int .i64 (k + (l.length * 3 : Nat))) ∧ Below w.heap.size w w' := by
  obtain ⟨A, c, rfl, _, _, _, hx⟩ := hv.open_
  have HL := Lib.hid (bmk_length k l)
  obtain ⟨L, hL⟩ : ∃ n, (BarsO.mk k l).length = n := ⟨_, rfl⟩
  have HLL := Lib.hid hL
  have hn2 : L ≤ 1048576 := by rw [← hL, bmk_length]; exact hn
  have HX := Lib.hid hx
  rw [hL]
  clear hv hL hx
  go_enter Try.func23, Try.ntmps23
  go_wp2
  go_loopw [1, 5] (fun q i wr => ∃ j : Nat, j ≤ L ∧ i = .int .i64 j ∧ q = .int .i64 (k + 3 * (j : Int)) ∧ Below w.heap.size w wr) (fun _ i _ => L - (intOf i).toNat)
  case atStart => exact ⟨0, Nat.zero_le _, rfl, by simp, Below.refl _ _⟩
  case round =>
    obtain ⟨j, hj, rfl, rfl, hbel⟩ := hrel
    by_cases hlt : j < L
    · have hjl : j < l.length := by rw [← HL.out, HLL.out]; exact hlt
      obtain ⟨b, o, x, y, z, rfl, hb, HH, c0, c1, c2, _⟩ := SlB.at_ HX.out (k := j) (by rw [HLL.out]; exact hlt)
      have hx2 := HH.out
      rw [bmk_get hjl] at hx2
      injection hx2 with hx2
      simp only [Prod.mk.injEq] at hx2
      obtain ⟨e1, e2, e3⟩ := hx2
      subst e1 e2 e3
      have d0 := bcell hbel hb c0
      have d1 := bcell hbel hb c1
      have d2 := bcell hbel hb c2
      have n1 : (k + 3 * (j : Int) != k + 3 * (j : Int)) = false := by simp
      have n2 : (k + 3 * (j : Int) + 1 != k + 3 * (j : Int) + 1) = false := by simp
      have n3 : (k + 3 * (j : Int) + 1 + 1 != k + 3 * (j : Int) + 1 + 1) = false := by simp
      clear c0 c1 c2
      go_wp2
      go_roundw
      case rel => exact ⟨j + 1, by omega, by go_num, by congr 1; omega, hbel⟩
      case measure => simp [intOf]; omega
    · have hjL : j = l.length := by rw [← HL.out, HLL.out]; omega
      have HJ := Lib.hid hjL
      clear hjL
      go_wp2
      go_ret
      exact ⟨congrArg (fun z => Ending.returned (Value.int .i64 z)) (by have := HJ.out; omega), hbel⟩
/-- append of one bar -/
theorem wpList_appB {w : World} {ops : Array Oper} {rest : List Oper} {o : Oper} {a : Act} {Q : Exit → Act → World → Prop} (hgd : o.guard = none) (s x : Operand)
    (ho : o.op = .call { callee := .builtin .append, args := #[s, x], argTypes := #[29, 29] })
    (lo hi : Nat) (v : Value) (l : List Bar) (hs : a.eval s = v) (hown : BarsO w lo hi v l) (g c : Nat) (b : Bar) (hx : a.eval x = .slice (some ⟨g, 0, none⟩) 1 c) (hg : Blk w g 80 #[.int .i64 b.1, .int .i64 b.2.1, .int .i64 b.2.2]) (hb : IBar b)
    (hn : l.length ≤ 1000000) (hlo : lo ≤ w.heap.size)
    (h : ∀ v' w', BarsO w' lo w'.heap.size v' (l ++ [b]) → Below lo w w' → w.grownBy w' v.ownBlock → wpList Try.prog ops Q rest (a.put o.dst v') w') : wpList Try.prog ops Q (o :: rest) a w := by
  obtain ⟨i0, hi', hz0, hz1, hz2⟩ := info_parts infoBar
  refine wpList_append_G w hgd s x _ ho lo 80 i0 _ 3 24 Try.underlying29 hi' hz0 hz1 hz2 rfl (by decide) v l.length _ hs hown.1.1 _ 1 c [.int .i64 b.1, .int .i64 b.2.1, .int .i64 b.2.2] hx ⟨rfl, .inr ⟨g, 0, rfl, fun j y hj => ?_⟩⟩ ?_ (by simp only [maxLen]; omega) (by omega) hlo fun v' w' h1 h2 h3 => ?_
  · have hj3 := lt_of_some hj
    simp only [List.length_cons, List.length_nil] at hj3
    rw [Nat.zero_add]
    match j, hj with
    | 0, hj => rw [hg.cell]; exact hj
    | 1, hj => rw [hg.cell]; exact hj
    | 2, hj => rw [hg.cell]; exact hj
    | j + 3, hj => omega
  · intro y hy
    simp only [List.mem_cons, List.not_mem_nil, or_false] at hy
    rcases hy with rfl | rfl | rfl <;> rfl
  · refine h v' w' ⟨⟨?_, fun k hk => (h1.lt k hk).2, by simp; omega⟩, fun y hy => ?_⟩ (below_grown h2 (fun k hk => (hown.1.1.lt k hk).1) hlo) h2
    · rw [barCs_append, List.length_append]
      exact h1
    · rcases List.mem_append.1 hy with hy | hy
      · exact hown.2 y hy
      · rw [List.mem_singleton] at hy
        subst hy
        exact hb

theorem BarsO.made0 (w : World) {lo : Nat} (h : lo ≤ w.heap.size) : BarsO (w.alloc (.cells #[] 80)) lo (w.alloc (.cells #[] 80)).heap.size (.slice (some ⟨w.heap.size, 0, none⟩) 0 0) [] :=
  ⟨⟨World.ownsRow_made w #[] 0 h (by simp [maxLen]) (by simp), by simp [Value.ownBlock], by simp⟩, by simp⟩
end Go.Proofs.Ytjlgijdkfihhlaa

/- Determinants by the first row: plain part; parts of slices. -/
namespace Go.Proofs.Ytjlgijdkfihhlaa
set_option linter.unusedVariables false
set_option linter.unusedSimpArgs false
open Go.RowKit

def dsF (h : Nat → Int) : Nat → Int
  | 0 => 0
  | n + 1 => dsF h n + h n
def cutR (k : Nat) (r : List Int) : List Int := r.take k ++ r.drop (k + 1)
def mnr (k : Nat) (m : List (List Int)) : List (List Int) := m.tail.map (cutR k)
def sgK (k : Nat) : Int := if k % 2 = 0 then 1 else -1
def fst0 (m : List (List Int)) (k : Nat) : Int := (m.getD 0 []).getD k 0
def detL : Nat → List (List Int) → Int
  | 0, _ => 1
  | n + 1, m => dsF (fun k => sgK k * fst0 m k * detL n (mnr k m)) (n + 1)
def dB : Nat → Int
  | 0 => 1
  | n + 1 => (n + 1 : Nat) * (12 * dB n)
structure Sq (n : Nat) (m : List (List Int)) : Prop where
  len : m.length = n
  row : ∀ r ∈ m, r.length = n
  rng : ∀ r ∈ m, ∀ x ∈ r, -12 ≤ x ∧ x ≤ 12
theorem sgK_succ (k : Nat) : sgK (k + 1) = - sgK k := by
  unfold sgK
  by_cases h : k % 2 = 0
  · rw [if_pos h, if_neg (by omega)]
  · rw [if_neg h, if_pos (by omega)]; rfl
theorem sgK_or (k : Nat) : sgK k = 1 ∨ sgK k = -1 := by
  unfold sgK
  split
  · exact .inl rfl
  · exact .inr rfl
theorem cutR_length {k : Nat} {r : List Int} {n : Nat} (h : r.length = n + 1) (hk : k ≤ n) : (cutR k r).length = n := by simp [cutR]; omega
theorem cutR_mem {k : Nat} {r : List Int} {x : Int} (h : x ∈ cutR k r) : x ∈ r := by
  rcases List.mem_append.1 h with h | h
  · exact List.mem_of_mem_take h
  · exact List.mem_of_mem_drop h
theorem Sq.mnr {n k : Nat} {m : List (List Int)} (h : Sq (n + 1) m) (hk : k ≤ n) : Sq n (mnr k m) := by
  refine ⟨by simp [Go.Proofs.Ytjlgijdkfihhlaa.mnr, h.len], fun r hr => ?_, fun r hr x hx => ?_⟩
  · obtain ⟨s, hs, rfl⟩ := List.mem_map.1 hr
    exact cutR_length (h.row s (List.mem_of_mem_tail hs)) hk
  · obtain ⟨s, hs, rfl⟩ := List.mem_map.1 hr
    exact h.rng s (List.mem_of_mem_tail hs) x (cutR_mem hx)
theorem Sq.fst {n k : Nat} {m : List (List Int)} (h : Sq (n + 1) m) (hk : k < n + 1) : ∃ r, m[0]? = some r ∧ r.length = n + 1 ∧ r[k]? = some (fst0 m k) ∧ -12 ≤ fst0 m k ∧ fst0 m k ≤ 12 := by
  have hl := h.len
  have e := List.getElem?_eq_getElem (show 0 < m.length by omega)
  have hm := List.mem_of_getElem? e
  have hr := h.row _ hm
  have e2 := List.getElem?_eq_getElem (l := m[0]) (show k < m[0].length by omega)
  have e3 : fst0 m k = m[0][k] := by
    rw [fst0, List.getD_eq_getElem?_getD, List.getD_eq_getElem?_getD, e, Option.getD_some, e2, Option.getD_some]
  rw [e3]
  exact ⟨_, e, hr, e2, h.rng _ hm _ (List.mem_of_getElem? e2)⟩
theorem abs_mul {a b A B : Int} (ha : -A ≤ a ∧ a ≤ A) (hb : -B ≤ b ∧ b ≤ B) : -(A * B) ≤ a * b ∧ a * b ≤ A * B := by
  have hA : 0 ≤ A := by omega
  have hB : 0 ≤ B := by omega
  have h1 : 0 ≤ (A - a) * (B + b) := Int.mul_nonneg (by omega) (by omega)
  have h2 : 0 ≤ (A + a) * (B - b) := Int.mul_nonneg (by omega) (by omega)
  have h3 : 0 ≤ (A - a) * (B - b) := Int.mul_nonneg (by omega) (by omega)
  have h4 : 0 ≤ (A + a) * (B + b) := Int.mul_nonneg (by omega) (by omega)
  simp only [Int.sub_mul, Int.add_mul, Int.mul_sub, Int.mul_add] at h1 h2 h3 h4
  omega
theorem dB_pos : ∀ n, 0 ≤ dB n
  | 0 => by simp [dB]
  | n + 1 => by
    have := dB_pos n
    simp only [dB]
    exact Int.mul_nonneg (by omega) (by omega)
theorem term_rng {s x d D : Int} (hs : s = 1 ∨ s = -1) (hx : -12 ≤ x ∧ x ≤ 12) (hd : -D ≤ d ∧ d ≤ D) : -(12 * D) ≤ s * x * d ∧ s * x * d ≤ 12 * D := by
  refine abs_mul ?_ hd
  rcases hs with rfl | rfl <;> omega
theorem dsF_rng {h : Nat → Int} {B : Int} (hB : 0 ≤ B) : ∀ {n}, (∀ k, k < n → -B ≤ h k ∧ h k ≤ B) → -((n : Nat) * B) ≤ dsF h n ∧ dsF h n ≤ (n : Nat) * B
  | 0, _ => by simp [dsF]
  | n + 1, H => by
    have ih := dsF_rng hB (n := n) fun k hk => H k (by omega)
    have h1 := H n (by omega)
    simp only [dsF]
    have e : ((n + 1 : Nat) : Int) * B = (n : Nat) * B + B := by rw [Int.natCast_succ, Int.add_mul, Int.one_mul]
    rw [e]
    omega
theorem det_rng : ∀ {n : Nat} {m : List (List Int)}, Sq n m → -dB n ≤ detL n m ∧ detL n m ≤ dB n
  | 0, _, _ => by simp [detL, dB]
  | n + 1, m, h => by
    simp only [detL, dB]
    have hB := dB_pos n
    refine dsF_rng (by omega) fun k hk => ?_
    obtain ⟨_, _, _, _, hx⟩ := h.fst hk
    exact term_rng (sgK_or k) hx (det_rng (h.mnr (by omega)))
def detS (n : Nat) (m : List (List Int)) (k : Nat) : Int := dsF (fun k => sgK k * fst0 m k * detL n (mnr k m)) k
theorem dB_5 {n : Nat} (h : n ≤ 5) : dB n ≤ 29859840 := by
  have : n = 0 ∨ n = 1 ∨ n = 2 ∨ n = 3 ∨ n = 4 ∨ n = 5 := by omega
  rcases this with rfl | rfl | rfl | rfl | rfl | rfl <;> decide
theorem detS_rng {n k : Nat} {m : List (List Int)} (h : Sq (n + 1) m) (hk : k ≤ n + 1) (hn : n ≤ 4) : -1800000000 ≤ detS n m k ∧ detS n m k ≤ 1800000000 := by
  have hB := dB_pos n
  have h1 := dsF_rng (h := fun k => sgK k * fst0 m k * detL n (mnr k m)) (B := 12 * dB n) (n := k) (by omega) fun j hj => by
    obtain ⟨_, _, _, _, hx⟩ := h.fst (show j < n + 1 by omega)
    exact term_rng (sgK_or j) hx (det_rng (h.mnr (by omega)))
  have h5 := dB_5 (show n ≤ 5 by omega)
  have h6 : (k : Int) * (12 * dB n) ≤ 5 * (12 * dB n) := Int.mul_le_mul_of_nonneg_right (by omega) (by omega)
  unfold detS
  omega
theorem detS_succ (n : Nat) (m : List (List Int)) (k : Nat) : detS n m (k + 1) = detS n m k + sgK k * fst0 m k * detL n (mnr k m) := rfl

/-! ### parts of slices that are read -/
theorem SlI.takeS {w : World} {B c k : Nat} {A : Option Addr} {l : List Int} (h : SlI w B (.slice A l.length c) l) (hk : k ≤ l.length) : SlI w B (.slice A k c) (l.take k) := by
  obtain ⟨A', c', e, h1, h2, h3, h4⟩ := h
  injection e with e1 e2 e3
  subst e1 e3
  refine ⟨A, c, by rw [List.length_take]; congr 1; omega, by rw [List.length_take]; omega, h2, by rw [List.length_take]; omega, fun hp => ?_⟩
  rw [List.length_take] at hp
  obtain ⟨b, o, e, hb, hc⟩ := h4 (by omega)
  refine ⟨b, o, e, hb, fun j x hj => hc j x ?_⟩
  rw [List.getElem?_take] at hj
  split at hj
  · exact hj
  · cases hj
theorem SlI.dropS {w : World} {B c k g o : Nat} {l : List Int} (h : SlI w B (.slice (some ⟨g, o, none⟩) l.length c) l) (hk : k ≤ l.length) : SlI w B (.slice (some ⟨g, o + k, none⟩) (l.length - k) (c - k)) (l.drop k) := by
  have h' := h
  obtain ⟨A', c', e, h1, h2, h3, h4⟩ := h'
  injection e with e1 e2 e3
  subst e3
  refine ⟨some ⟨g, o + k, none⟩, c - k, by rw [List.length_drop], by rw [List.length_drop]; omega, by omega, by rw [List.length_drop]; omega, fun hp => ?_⟩
  rw [List.length_drop] at hp
  obtain ⟨b, o', e, hb, hc⟩ := h4 (by omega)
  rw [← e1] at e
  injection e with e
  injection e with e5 e6
  subst e5 e6
  refine ⟨g, o + k, rfl, hb, fun j x hj => ?_⟩
  rw [List.getElem?_drop] at hj
  have := hc _ x hj
  rw [show o + (k + j) * 1 = o + k + j * 1 by omega] at this
  exact this
theorem SlI.zeroS {w : World} {B : Nat} {A : Option Addr} {c : Nat} (hc : c ≤ 9223372036854775807) : SlI w B (.slice A 0 c) [] := ⟨A, c, rfl, by simp, hc, by simp, fun h => absurd h (by simp)⟩
theorem SlII.two {w : World} {t : TypeId} {a b : Value} {l m : List Int} (ha : SlI w w.heap.size a l) (hb : SlI w w.heap.size b m) :
    SlII (w.alloc (.cells #[a, b] t)) (w.alloc (.cells #[a, b] t)).heap.size (.slice (some ⟨w.heap.size, 0, none⟩) 2 2) [l, m] := by
  have hbel := below_alloc w (.cells #[a, b] t)
  have hk := Blk.new w t #[a, b]
  refine ⟨some ⟨w.heap.size, 0, none⟩, 2, rfl, by simp, by omega, by simp, fun _ => ⟨w.heap.size, 0, rfl, hk.lt, fun j x hj => ?_⟩⟩
  match j, hj with
  | 0, hj => injection hj with hj; subst hj; exact ⟨a, hk.cell' rfl, SlI.next hbel ha⟩
  | 1, hj => injection hj with hj; subst hj; exact ⟨b, hk.cell' rfl, SlI.next hbel hb⟩
/-- an element, the slice's address known -/
theorem SlI.elt {w : World} {B b o c k : Nat} {xs : List Int} (h : SlI w B (.slice (some ⟨b, o, none⟩) xs.length c) xs) (hk : k < xs.length) : ∃ x, xs[k]? = some x ∧ b < B ∧ w.cell? ⟨b, o + k, none⟩ = some (.int .i64 x) ∧ -9223372036854775808 ≤ x ∧ x ≤ 9223372036854775807 := by
  obtain ⟨b', o', x, e, h1, h2, h3, h4⟩ := SlI.at_ h hk
  injection e with e
  injection e with e1 e2
  subst e1 e2
  exact ⟨x, h2.out, h1, h3, h4⟩
theorem SlII.elt {w : World} {B b o c k : Nat} {xs : List (List Int)} (h : SlII w B (.slice (some ⟨b, o, none⟩) xs.length c) xs) (hk : k < xs.length) : ∃ l A' c', xs[k]? = some l ∧ b < B ∧ w.cell? ⟨b, o + k, none⟩ = some (.slice A' l.length c') ∧ SlI w B (.slice A' l.length c') l ∧ l.length ≤ c' ∧ c' ≤ 9223372036854775807 := by
  obtain ⟨b', o', l, A', c', e, h1, h2, h3, h4⟩ := SlII.at_ h hk
  injection e with e
  injection e with e1 e2
  subst e1 e2
  have h5 := h4
  obtain ⟨_, _, e, h6, h7, _⟩ := h5
  injection e with _ _ e
  subst e
  exact ⟨l, A', c', h2.out, h1, h3, h4, h6, h7⟩
theorem SlI.addr {w : World} {B c : Nat} {A : Option Addr} {xs : List Int} (h : SlI w B (.slice A xs.length c) xs) (h0 : 0 < xs.length) : ∃ b o, A = some ⟨b, o, none⟩ ∧ b < B := by
  obtain ⟨b, o, _, e, h1, _⟩ := SlI.at_ (k := 0) h h0
  exact ⟨b, o, e, h1⟩
theorem SlII.addr {w : World} {B c : Nat} {A : Option Addr} {xs : List (List Int)} (h : SlII w B (.slice A xs.length c) xs) (h0 : 0 < xs.length) : ∃ b o, A = some ⟨b, o, none⟩ ∧ b < B := by
  obtain ⟨b, o, _, _, _, e, h1, _⟩ := SlII.at_ (k := 0) h h0
  exact ⟨b, o, e, h1⟩
theorem SlI.form2 {w : World} {B : Nat} {v : Value} {l : List Int} (h : SlI w B v l) : ∃ A c, v = .slice A l.length c := by
  obtain ⟨A, c, e, _⟩ := h
  exact ⟨A, c, e⟩
end Go.Proofs.Ytjlgijdkfihhlaa

/- BarsOf: plain part; the table's entries. -/
namespace Go.Proofs.Ytjlgijdkfihhlaa
set_option linter.unusedVariables false
set_option linter.unusedSimpArgs false
open Go.RowKit

/-- an entry of the table, 0 outside -/
def atF (L : Nat) (f : Nat → Nat → Int) (v w : Int) : Int := if v < 0 ∨ (L : Int) ≤ w then 0 else f v.toNat w.toNat
def cntF (L : Nat) (f : Nat → Nat → Int) (v w : Nat) : Int := atF L f v w - atF L f (v - 1) w - atF L f v (w + 1) + atF L f (v - 1) (w + 1)
def bfOne (L : Nat) (f : Nat → Nat → Int) (v w : Nat) : List Bar := if cntF L f v w = 0 then [] else [((v : Int), (w : Int), cntF L f v w)]
/-- the bars of row v, from column v on, below column v + n -/
def bfRow (L : Nat) (f : Nat → Nat → Int) (v n : Nat) : List Bar := (List.range n).flatMap fun k => bfOne L f v (v + k)
def bfAll (L : Nat) (f : Nat → Nat → Int) (v : Nat) : List Bar := (List.range v).flatMap fun a => bfRow L f a (L - a)
def bfQ (x : Rp) : List Bar × Bool := if okL x then (bfAll x.d.length (rtF x) x.d.length, true) else ([], false)
theorem bfRow_succ (L : Nat) (f : Nat → Nat → Int) (v n : Nat) : bfRow L f v (n + 1) = bfRow L f v n ++ bfOne L f v (v + n) := by
  simp [bfRow, List.range_succ, List.flatMap_append]
theorem bfAll_succ (L : Nat) (f : Nat → Nat → Int) (v : Nat) : bfAll L f (v + 1) = bfAll L f v ++ bfRow L f v (L - v) := by
  simp [bfAll, List.range_succ, List.flatMap_append]
theorem bfOne_len (L : Nat) (f : Nat → Nat → Int) (v w : Nat) : (bfOne L f v w).length ≤ 1 := by
  unfold bfOne; split <;> simp
theorem bfRow_len (L : Nat) (f : Nat → Nat → Int) (v : Nat) : ∀ n, (bfRow L f v n).length ≤ n
  | 0 => by simp [bfRow]
  | n + 1 => by
    rw [bfRow_succ, List.length_append]
    have := bfRow_len L f v n
    have := bfOne_len L f v (v + n)
    omega
theorem bfAll_len (L : Nat) (f : Nat → Nat → Int) : ∀ v, (bfAll L f v).length ≤ v * L
  | 0 => by simp [bfAll]
  | v + 1 => by
    rw [bfAll_succ, List.length_append, Nat.succ_mul]
    have := bfAll_len L f v
    have := bfRow_len L f v (L - v)
    omega
theorem atF_rng {L : Nat} {f : Nat → Nat → Int} (hf : ∀ v w, 0 ≤ f v w ∧ f v w ≤ 4) (v w : Int) : 0 ≤ atF L f v w ∧ atF L f v w ≤ 4 := by
  unfold atF
  split
  · omega
  · exact hf _ _

/-! ### counts are not negative -/
theorem rk_none (p : Int) (r : Nat) (f : Nat → Nat → Int) : rkF p r 0 f = 0 := by
  have := (rkF_le p r 0 f).2
  omega
theorem rk_none' (p : Int) (c : Nat) (f : Nat → Nat → Int) : rkF p 0 c f = 0 := by
  have := (rkF_le p 0 c f).1
  omega
theorem inF_none (p : Int) (r : Nat) (f : Nat → Nat → Int) : InF p r 0 f := fun a b _ hb => absurd hb (by omega)
theorem inF_none' (p : Int) (c : Nat) (f : Nat → Nat → Int) : InF p 0 c f := fun a b ha _ => absurd ha (by omega)
theorem app_id {y : Nat → Int} {c s : Nat} (hs : s < c) : appF idF c y s = y s := by
  rw [appF, sg_congr (b := fun t => if t = s then y t else 0) fun t _ => by
    unfold idF
    by_cases e : s = t
    · rw [if_pos e, if_pos e.symm, Int.one_mul]
    · rw [if_neg e, if_neg (fun h => e h.symm), Int.zero_mul], sg_one (h := y) hs]
theorem cg_trans {p a b c : Int} (h : p ∣ a - b) (k : p ∣ b - c) : p ∣ a - c := by
  have := Int.dvd_add h k
  rwa [show a - b + (b - c) = a - c by omega] at this
theorem cg_symm {p a b : Int} (h : p ∣ a - b) : p ∣ b - a := by
  have := Int.dvd_neg.2 h
  rwa [Int.neg_sub] at this
/-- the map from v is the map from v + 1 behind the arrow's -/
theorem pdF_back (x : Rp) (v : Nat) (y : Nat → Int) : ∀ n i, i < dN x (v + 1 + n) → x.p ∣ appF (pdF x v (n + 1)) (dN x v) y i - appF (pdF x (v + 1) n) (dN x (v + 1)) (appF (mpF x v) (dN x v) y) i
  | 0, i, hi => by
    have h1 := app_mu (p := x.p) (d := dN x v) (c := dN x v) (f := mpF x v) (g := idF) (x := y) i
    rw [sg_congr (a := fun s => mpF x v i s * appF idF (dN x v) y s) (b := fun s => mpF x v i s * y s) fun s hs => by rw [app_id hs]] at h1
    rw [show appF (pdF x (v + 1) 0) (dN x (v + 1)) (appF (mpF x v) (dN x v) y) i = appF (mpF x v) (dN x v) y i from app_id hi]
    exact h1
  | n + 1, i, hi => by
    have ih := pdF_back x v y n
    have h1 := app_mu (p := x.p) (d := dN x (v + (n + 1))) (c := dN x v) (f := mpF x (v + (n + 1))) (g := pdF x v (n + 1)) (x := y) i
    have h2 := app_mu (p := x.p) (d := dN x (v + 1 + n)) (c := dN x (v + 1)) (f := mpF x (v + 1 + n)) (g := pdF x (v + 1) n) (x := appF (mpF x v) (dN x v) y) i
    have h3 : x.p ∣ sgF (fun s => mpF x (v + (n + 1)) i s * appF (pdF x v (n + 1)) (dN x v) y s) (dN x (v + (n + 1))) - sgF (fun s => mpF x (v + 1 + n) i s * appF (pdF x (v + 1) n) (dN x (v + 1)) (appF (mpF x v) (dN x v) y) s) (dN x (v + 1 + n)) := by
      rw [show v + (n + 1) = v + 1 + n by omega]
      exact sg_cg fun s hs => cg_mulR _ (ih s hs)
    exact cg_trans (cg_trans h1 h3) (cg_symm h2)
theorem ker_back (x : Rp) (v n : Nat) (y : Nat → Int) : Ker x.p (dN x (v + 1 + n)) (pdF x v (n + 1)) (dN x v) y ↔ Ker x.p (dN x (v + 1 + n)) (pdF x (v + 1) n) (dN x (v + 1)) (appF (mpF x v) (dN x v) y) :=
  ⟨fun h i hi => (cg_dvd (pdF_back x v y n i hi)).1 (h i hi), fun h i hi => (cg_dvd (pdF_back x v y n i hi)).2 (h i hi)⟩
theorem ker_on {p : Int} {r d c : Nat} {f g : Nat → Nat → Int} {y : Nat → Int} (h : Ker p d g c y) : Ker p r (muP p d f g) c y :=
  ker_mu.2 fun i _ => sg_dvd fun t ht => Int.dvd_mul_of_dvd_right (h t ht)
theorem ker_zero {p : Int} {r k : Nat} {f : Nat → Nat → Int} {x : Nat → Int} (h : ∀ t, t < k → x t = 0) : Ker p r f k x := fun i _ => sg_dvd fun t ht => by rw [h t ht, Int.mul_zero]; exact Int.dvd_zero p
theorem rtF_of (x : Rp) (v n : Nat) : rtF x v (v + n) = (rkF x.p (dN x (v + n)) (dN x v) (pdF x v n) : Int) := by
  rw [rtF, if_neg (by omega), Nat.add_sub_cancel_left]
theorem cnt_pos {x : Rp} (hp : isFld x.p = true) {L v n : Nat} (hw : v + n < L) : 0 ≤ cntF L (rtF x) v (v + n) := by
  obtain ⟨P, hP⟩ := Int.eq_ofNat_of_zero_le (show 0 ≤ x.p by have := isFld_r hp; omega)
  have hpP := hp
  rw [hP] at hpP
  have hP2 : 2 ≤ P := by have := isFld_r hpP; omega
  have inB := pdF_inF hp v n
  -- the map behind, the map ahead
  have key : ∀ (rD u rG : Nat) (D E G C : Nat → Nat → Int), InF P rD (dN x v) D → InF P (dN x (v + n)) u E → InF P rG u G →
      (∀ y, Ker P (dN x (v + n)) (pdF x v n) (dN x v) y → Ker P rD D (dN x v) y) → (∀ y, Ker P (dN x (v + n)) E u y ↔ Ker P (dN x (v + n)) (pdF x v n) (dN x v) (appF C u y)) → (∀ y, Ker P rG G u y ↔ Ker P rD D (dN x v) (appF C u y)) →
      rkF P rD (dN x v) D + rkF P (dN x (v + n)) u E ≤ rkF P (dN x (v + n)) (dN x v) (pdF x v n) + rkF P rG u G := fun rD u rG D E G C h1 h2 h3 h4 h5 h6 => frob hpP hP2 (hP ▸ inB) h1 h2 h3 h4 h5 h6
  have a0 : atF L (rtF x) (v : Int) ((v + n : Nat) : Int) = (rkF P (dN x (v + n)) (dN x v) (pdF x v n) : Int) := by
    rw [atF, if_neg (by omega), Int.toNat_natCast, Int.toNat_natCast, rtF_of, hP]
  have a1 : atF L (rtF x) (v : Int) (((v + n : Nat) : Int) + 1) = if v + n + 1 < L then (rkF P (dN x (v + (n + 1))) (dN x v) (pdF x v (n + 1)) : Int) else 0 := by
    by_cases h : v + n + 1 < L
    · rw [if_pos h, atF, if_neg (by omega), Int.toNat_natCast, show (((v + n : Nat) : Int) + 1).toNat = v + (n + 1) by omega, rtF_of, hP]
    · rw [if_neg h, atF, if_pos (by omega)]
  rcases v with _ | v
  · have b0 : ∀ w, atF L (rtF x) (((0 : Nat) : Int) - 1) w = 0 := fun w => by rw [atF, if_pos (by omega)]
    rw [cntF, b0, b0, a0, a1]
    by_cases h : 0 + n + 1 < L
    · rw [if_pos h]
      have := key (dN x (0 + (n + 1))) 0 0 (pdF x 0 (n + 1)) (fun _ _ => 0) (fun _ _ => 0) (fun _ _ => 0) (hP ▸ pdF_inF hp 0 (n + 1)) (inF_none _ _ _) (inF_none _ _ _)
        (fun y hy => by rw [pdF, hP]; exact ker_on hy) (fun y => ⟨fun _ => ker_zero fun t _ => rfl, fun _ i _ => Int.dvd_zero _⟩) (fun y => ⟨fun _ => ker_zero fun t _ => rfl, fun _ i hi => absurd hi (by omega)⟩)
      rw [rk_none, rk_none] at this
      omega
    · rw [if_neg h]
      omega
  · have b0 : atF L (rtF x) (((v + 1 : Nat) : Int) - 1) ((v + 1 + n : Nat) : Int) = (rkF P (dN x (v + 1 + n)) (dN x v) (pdF x v (n + 1)) : Int) := by
      rw [atF, if_neg (by omega), Int.toNat_natCast, show (((v + 1 : Nat) : Int) - 1).toNat = v by omega, show v + 1 + n = v + (n + 1) by omega, rtF_of, hP]
    have b1 : atF L (rtF x) (((v + 1 : Nat) : Int) - 1) (((v + 1 + n : Nat) : Int) + 1) = if v + 1 + n + 1 < L then (rkF P (dN x (v + 1 + (n + 1))) (dN x v) (pdF x v (n + 1 + 1)) : Int) else 0 := by
      by_cases h : v + 1 + n + 1 < L
      · rw [if_pos h, atF, if_neg (by omega), show (((v + 1 : Nat) : Int) - 1).toNat = v by omega, show (((v + 1 + n : Nat) : Int) + 1).toNat = v + (n + 1 + 1) by omega, rtF_of, hP, show v + 1 + (n + 1) = v + (n + 1 + 1) by omega]
      · rw [if_neg h, atF, if_pos (by omega)]
    rw [cntF, b0, b1, a0, a1]
    have eE : ∀ y, Ker P (dN x (v + 1 + n)) (pdF x v (n + 1)) (dN x v) y ↔ Ker P (dN x (v + 1 + n)) (pdF x (v + 1) n) (dN x (v + 1)) (appF (mpF x v) (dN x v) y) := fun y => hP ▸ ker_back x v n y
    have iE : InF P (dN x (v + 1 + n)) (dN x v) (pdF x v (n + 1)) := by
      have := pdF_inF hp v (n + 1)
      rw [hP, show v + (n + 1) = v + 1 + n by omega] at this
      exact this
    by_cases h : v + 1 + n + 1 < L
    · rw [if_pos h, if_pos h]
      have eG : ∀ y, Ker P (dN x (v + 1 + (n + 1))) (pdF x v (n + 1 + 1)) (dN x v) y ↔ Ker P (dN x (v + 1 + (n + 1))) (pdF x (v + 1) (n + 1)) (dN x (v + 1)) (appF (mpF x v) (dN x v) y) := fun y => hP ▸ ker_back x v (n + 1) y
      have iG : InF P (dN x (v + 1 + (n + 1))) (dN x v) (pdF x v (n + 1 + 1)) := by
        have := pdF_inF hp v (n + 1 + 1)
        rw [hP, show v + (n + 1 + 1) = v + 1 + (n + 1) by omega] at this
        exact this
      have := key (dN x (v + 1 + (n + 1))) (dN x v) (dN x (v + 1 + (n + 1))) (pdF x (v + 1) (n + 1)) (pdF x v (n + 1)) (pdF x v (n + 1 + 1)) (mpF x v) (hP ▸ pdF_inF hp (v + 1) (n + 1)) iE iG
        (fun y hy => by rw [pdF, hP]; exact ker_on hy) eE eG
      omega
    · rw [if_neg h, if_neg h]
      have := key 0 (dN x v) 0 (fun _ _ => 0) (pdF x v (n + 1)) (fun _ _ => 0) (mpF x v) (inF_none' _ _ _) iE (inF_none' _ _ _)
        (fun y _ i hi => absurd hi (by omega)) eE (fun y => ⟨fun _ i hi => absurd hi (by omega), fun _ i hi => absurd hi (by omega)⟩)
      rw [rk_none', rk_none'] at this
      omega
theorem bfQ_len (x : Rp) : (bfQ x).1.length ≤ 1000 := by
  unfold bfQ
  split
  · rename_i h
    have h5 := (okL_t h).2.2.2.2.1
    have h1 := bfAll_len x.d.length (rtF x) x.d.length
    have h2 : x.d.length * x.d.length ≤ 5 * 5 := Nat.mul_le_mul h5 h5
    show (bfAll x.d.length (rtF x) x.d.length).length ≤ 1000
    omega
  · simp
end Go.Proofs.Ytjlgijdkfihhlaa

/- BarsOf: the reference's. -/
namespace Go.Proofs.Ytjlgijdkfihhlaa
set_option linter.unusedVariables false
set_option linter.unusedSimpArgs false
open Go.RowKit

theorem l23At_any (u : Value) (L : Nat) (f : Nat → Nat → Int) (v w : Int) (w0 : World) (hL : L ≤ 5) (hv : -1 ≤ v ∧ v < L) (hw : 0 ≤ w ∧ w ≤ L) (hu : SlII w0 w0.heap.size u (matF L f)) :
    Calls Try.prog 64 #[u, .int .i64 v, .int .i64 w] w0 fun e w' => e = .returned (.int .i64 (atF L f v w)) ∧ w' = w0 := by
  obtain ⟨A, c, rfl, _, _, _, hx⟩ := hu.open_
  clear hu
  have HX := Lib.hid hx
  clear hx
  by_cases h1 : v < 0
  · have HA := Lib.hid (show atF L f v w = 0 by rw [atF, if_pos (.inl h1)])
    go_enter Try.func64, Try.ntmps64
    go_wp2
    go_ret
    exact ⟨by rw [HA.out]; rfl, rfl⟩
  · by_cases h2 : (L : Int) ≤ w
    · have HA := Lib.hid (show atF L f v w = 0 by rw [atF, if_pos (.inr h2)])
      rw [matF_length]
      go_enter Try.func64, Try.ntmps64
      go_wp2
      go_ret
      exact ⟨by rw [HA.out]; rfl, rfl⟩
    · obtain ⟨a, rfl⟩ := Int.eq_ofNat_of_zero_le (show 0 ≤ v by omega)
      obtain ⟨b, rfl⟩ := Int.eq_ofNat_of_zero_le (show 0 ≤ w by omega)
      have HA := Lib.hid (show atF L f (a : Int) (b : Int) = f a b by rw [atF, if_neg (by omega)]; rfl)
      have ha : a < L := by omega
      have hb : b < L := by omega
      obtain ⟨bA, oA, rfl, _⟩ := SlII.addr HX.out (by rw [matF_length]; omega)
      obtain ⟨r, RA, rc, hr0, _, y1, hr, hrc1, hrc2⟩ := SlII.elt HX.out (k := a) (by rw [matF_length]; exact ha)
      rw [matF_get _ ha] at hr0
      injection hr0 with hr0
      subst hr0
      rw [rowF_length] at y1
      obtain ⟨b2, o2, rfl, _⟩ := SlI.addr hr (by rw [rowF_length]; omega)
      obtain ⟨z, hz, _, z1, _⟩ := SlI.elt hr (k := b) (by rw [rowF_length]; exact hb)
      rw [rowF_get _ hb] at hz
      injection hz with hz
      have HZ := Lib.hid hz
      rw [matF_length]
      clear hr hrc1 hz
      go_enter Try.func64, Try.ntmps64
      go_wp2
      go_ret
      exact ⟨by rw [HA.out, HZ.out]; rfl, rfl⟩

set_option maxHeartbeats 3200000 in
set_option maxRecDepth 100000 in
theorem specBarsOf_any (u : Value) (x : Rp) (w0 : World) (hu : RpR w0 w0.heap.size u x) :
    Calls Try.prog 16 #[u] w0 fun e w' => ∃ v, e = .returned (.tuple #[v, .bool (bfQ x).2]) ∧ BarsO w' w0.heap.size w'.heap.size v (bfQ x).1 ∧ Below w0.heap.size w0 w' := by
  have hu' := hu
  obtain ⟨A, a, C, c, E, e, H, h, rfl, hq, hd, hm, hp, ld, lm⟩ := hu.open_
  clear hu hq hd hm
  obtain ⟨W, hW⟩ : ∃ W, W = w0.alloc (.cells #[.int .i64 x.p, .int .i64 x.q.v, .slice A x.q.f.length a, .slice C x.q.t.length c, .slice E x.d.length e, .slice H x.m.length h] 35) := ⟨_, rfl⟩
  have g0 : Below w0.heap.size w0 W := by rw [hW]; exact below_alloc _ _
  have kB : Blk W w0.heap.size 35 #[.int .i64 x.p, .int .i64 x.q.v, .slice A x.q.f.length a, .slice C x.q.t.length c, .slice E x.d.length e, .slice H x.m.length h] := by rw [hW]; exact Blk.new _ _ _
  have HXR := Lib.hid (RpR.next g0 hu')
  clear hu'
  have c0 := kB.cell' (i := 0) rfl
  have c1 := kB.cell' (i := 1) rfl
  have c2 := kB.cell' (i := 2) rfl
  have c3 := kB.cell' (i := 3) rfl
  have c4 := kB.cell' (i := 4) rfl
  have c5 := kB.cell' (i := 5) rfl
  rcases hok : okL x with _ | _
  · have HF := Lib.hid (show bfQ x = ([], false) by simp [bfQ, hok])
    have HR := Lib.hid (show rtM x = ([], false) by simp [rtM, hok])
    clear hok
    go_enter Try.func16, Try.ntmps16
    go_wp2_with fail
    rw [← hW]; clear hW
    refine (specRankTable_any _ x _ HXR.out).mono ?_; rintro e w1 ⟨v1, rfl, hT, hb1⟩
    rw [HR.out] at hT ⊢
    obtain ⟨TA, tc, et, _⟩ := hT.form2
    subst et
    have g1 := bthen g0 hb1
    have hg1 := g1.size
    have HG := Lib.hid (g1.trans ((below_alloc w1 (.cells #[] 80)).mono hg1))
    clear hT hb1 c0 c1 c2 c3 c4 c5 kB g0 g1
    go_wp2
    refine wp_loop_rounds 1 ?_
    rw [rounds_succ]
    go_wp2
    go_ret2
    exact ⟨.slice (some ⟨w1.heap.size, 0, none⟩) 0 0, by rw [HF.out]; rfl, by rw [HF.out]; exact BarsO.made0 w1 hg1, HG.out⟩
  · have hL5 := (okL_t hok).2.2.2.2.1
    have HF := Lib.hid (show bfQ x = (bfAll x.d.length (rtF x) x.d.length, true) by simp [bfQ, hok])
    have HR := Lib.hid (show rtM x = (matF x.d.length (rtF x), true) by simp [rtM, hok])
    have HP := Lib.hid (okL_t hok).2.2.1
    have HRG := Lib.hid (fun v w => rtF_rng (dN_all hok) v w)
    obtain ⟨L, hL⟩ : ∃ n, x.d.length = n := ⟨_, rfl⟩
    rw [hL] at HF HR hL5
    obtain ⟨f, hf⟩ : ∃ f, rtF x = f := ⟨_, rfl⟩
    have HPOS := Lib.hid (fun (v n : Nat) (hw : v + n < L) => (by rw [← hf]; exact cnt_pos HP.out hw : 0 ≤ cntF L f v (v + n)))
    rw [hf] at HF HR HRG
    clear hok hL hf
    go_enter Try.func16, Try.ntmps16
    go_wp2_with fail
    rw [← hW]; clear hW
    refine (specRankTable_any _ x _ HXR.out).mono ?_; rintro e w1 ⟨v1, rfl, hT, hb1⟩
    rw [HR.out] at hT ⊢
    obtain ⟨TA, tc, et, _⟩ := hT.form2
    rw [matF_length] at et
    subst et
    have g1 := bthen g0 hb1
    have hg1 := g1.size
    obtain ⟨w2, hw2⟩ : ∃ z, z = w1.alloc (.cells #[] 80) := ⟨_, rfl⟩
    have b2 : Below w1.heap.size w1 w2 := by rw [hw2]; exact below_alloc _ _
    have o2 : BarsO w2 w0.heap.size w2.heap.size (.slice (some ⟨w1.heap.size, 0, none⟩) 0 0) [] := by rw [hw2]; exact BarsO.made0 w1 hg1
    have o3 : BarsO w2 w1.heap.size w2.heap.size (.slice (some ⟨w1.heap.size, 0, none⟩) 0 0) [] := by rw [hw2]; exact BarsO.made0 w1 (Nat.le_refl _)
    have g2 := bthen g1 b2
    have HT := Lib.hid (SlII.below b2 hT.rd)
    have hg2 := b2.size
    clear hT hb1 c0 c1 c2 c3 c4 c5 kB g0 g1 b2 o2
    go_wp2
    rw [← hw2]; clear hw2
    go_loopw [6, 7] (fun ov i wr => ∃ v : Nat, v ≤ L ∧ i = .int .i64 v ∧ BarsO wr w1.heap.size wr.heap.size ov (bfAll L f v) ∧ Below w1.heap.size w2 wr) (fun _ i _ => L - (intOf i).toNat)
    case atStart => exact ⟨0, Nat.zero_le _, rfl, by simpa [bfAll] using o3, Below.refl _ _⟩
    case round =>
      clear o3
      obtain ⟨v, hv, rfl, hO, hbel⟩ := hrel
      have hws := hbel.size
      by_cases hlt : v < L
      · go_wp2
        obtain ⟨w3, hw3⟩ : ∃ z, z = wr := ⟨_, rfl⟩
        subst hw3
        go_loopw [6, 8] (fun ov i wq => ∃ n k : Nat, v + n ≤ L ∧ i = .int .i64 k ∧ Hid (k = v + n) ∧ BarsO wq w1.heap.size wq.heap.size ov (bfAll L f v ++ bfRow L f v n) ∧ Below w1.heap.size w2 wq) (fun _ i _ => L - (intOf i).toNat)
        case atStart => exact ⟨0, v, by omega, rfl, rfl, by simpa [bfRow] using hO, hbel⟩
        case round =>
          clear hO hbel
          obtain ⟨n, k, hn, rfl, HK, hO, hbel⟩ := hrel
          have hk1 : k ≤ v + n := Nat.le_of_eq HK.out
          have hk2 : v + n ≤ k := Nat.le_of_eq HK.out.symm
          obtain ⟨OA, oc, eo, _, _⟩ := hO.form
          have hl1 := bfAll_len L f v
          have hl2 := bfRow_len L f v n
          have hvL : v * L ≤ 5 * 5 := Nat.mul_le_mul (by omega) hL5
          obtain ⟨OL, hOL⟩ : ∃ z, (bfAll L f v ++ bfRow L f v n).length = z := ⟨_, rfl⟩
          have hOL2 : OL ≤ 100 := by rw [← hOL, List.length_append]; omega
          rw [hOL] at eo
          subst eo
          have hqs := hbel.size
          have HO := Lib.hid hO
          have HOL := Lib.hid hOL
          by_cases hkL : k < L
          · have HTR := Lib.hid (SlII.more (show w1.heap.size ≤ wr.heap.size by omega) (SlII.below hbel HT.out))
            have HB := Lib.hid hbel
            have r1 := atF_rng HRG.out (L := L) (v : Int) (k : Int)
            have r2 := atF_rng HRG.out (L := L) ((v : Int) - 1) (k : Int)
            have r3 := atF_rng HRG.out (L := L) (v : Int) ((k : Int) + 1)
            have r4 := atF_rng HRG.out (L := L) ((v : Int) - 1) ((k : Int) + 1)
            have hc := HPOS.out v n (by omega)
            have hcf : cntF L f v (v + n) = atF L f (v : Int) (k : Int) - atF L f ((v : Int) - 1) (k : Int) - atF L f (v : Int) ((k : Int) + 1) + atF L f ((v : Int) - 1) ((k : Int) + 1) := by rw [cntF, ← HK.out]
            obtain ⟨t1, h1⟩ : ∃ z, atF L f (v : Int) (k : Int) = z := ⟨_, rfl⟩
            obtain ⟨t2, h2⟩ : ∃ z, atF L f ((v : Int) - 1) (k : Int) = z := ⟨_, rfl⟩
            obtain ⟨t3, h3⟩ : ∃ z, atF L f (v : Int) ((k : Int) + 1) = z := ⟨_, rfl⟩
            obtain ⟨t4, h4⟩ : ∃ z, atF L f ((v : Int) - 1) ((k : Int) + 1) = z := ⟨_, rfl⟩
            rw [h1] at r1 hcf
            rw [h2] at r2 hcf
            rw [h3] at r3 hcf
            rw [h4] at r4 hcf
            rw [hcf] at hc
            have HC := Lib.hid hcf
            have H1 := Lib.hid h1
            have H2 := Lib.hid h2
            have H3 := Lib.hid h3
            have H4 := Lib.hid h4
            clear hO hbel hOL h1 h2 h3 h4 hcf
            go_wp2_with fail
            refine (l23At_any _ L f v k _ hL5 (by omega) (by omega) HTR.out).mono ?_; rintro e w' ⟨rfl, hww⟩
            replace hww := hww.symm
            subst hww
            rw [H1.out]
            go_wp2_with fail
            refine (l23At_any _ L f ((v : Int) - 1) k _ hL5 (by omega) (by omega) HTR.out).mono ?_; rintro e w' ⟨rfl, hww⟩
            replace hww := hww.symm
            subst hww
            rw [H2.out]
            go_wp2_with fail
            refine (l23At_any _ L f v ((k : Int) + 1) _ hL5 (by omega) (by omega) HTR.out).mono ?_; rintro e w' ⟨rfl, hww⟩
            replace hww := hww.symm
            subst hww
            rw [H3.out]
            go_wp2_with fail
            refine (l23At_any _ L f ((v : Int) - 1) ((k : Int) + 1) _ hL5 (by omega) (by omega) HTR.out).mono ?_; rintro e w' ⟨rfl, hww⟩
            replace hww := hww.symm
            subst hww
            rw [H4.out]
            have hN8 : t1 - t2 - t3 + t4 ≤ 8 := by omega
            by_cases hz : 0 < t1 - t2 - t3 + t4
            · have HSU := Lib.hid (show bfAll L f v ++ bfRow L f v (n + 1) = (bfAll L f v ++ bfRow L f v n) ++ [((v : Int), (k : Int), t1 - t2 - t3 + t4)] by
                rw [bfRow_succ, bfOne, HC.out, if_neg (by omega), List.append_assoc, ← HK.out])
              have bz := below_alloc wr (.cells #[.int .i64 v, .int .i64 k, .int .i64 (t1 - t2 - t3 + t4)] 80)
              have HKZ := Lib.hid (Blk.new wr 80 #[.int .i64 v, .int .i64 k, .int .i64 (t1 - t2 - t3 + t4)])
              have HO2 := Lib.hid (HO.out.below bz)
              have HB2 := Lib.hid (HB.out.trans (bz.mono (by omega)))
              have hzs := bz.size
              clear bz
              (go_wp2_with (at_builtin; refine Hold.stop ?_)); unfold Hold
              refine wpList_appB rfl (.tmp 54) (.tmp 59) rfl w1.heap.size _ (.slice OA OL oc) (bfAll L f v ++ bfRow L f v n) rfl HO2.out wr.heap.size 1 ((v : Int), (k : Int), t1 - t2 - t3 + t4) rfl HKZ.out ⟨⟨by simp only; omega, by simp only; omega⟩, ⟨by simp only; omega, by simp only; omega⟩, ⟨by simp only; omega, by simp only; omega⟩⟩ (by rw [HOL.out]; omega) (by simp; omega) ?_
              intro v9 w9 ho9 hb9 _
              rw [← HSU.out] at ho9
              have HO9 := Lib.hid ho9
              have HB9 := Lib.hid (HB2.out.trans hb9)
              clear ho9 hb9
              go_wp2
              go_roundw
              case rel => exact ⟨n + 1, k + 1, by omega, by go_num, (by show k + 1 = v + (n + 1); omega), HO9.out, HB9.out⟩
              case measure => simp [intOf]; omega
            · have HSU := Lib.hid (show bfAll L f v ++ bfRow L f v (n + 1) = bfAll L f v ++ bfRow L f v n by
                rw [bfRow_succ, bfOne, HC.out, if_pos (by omega), List.append_nil])
              go_wp2
              go_roundw
              case rel => exact ⟨n + 1, k + 1, by omega, by go_num, (by show k + 1 = v + (n + 1); omega), by rw [HSU.out]; exact HO.out, HB.out⟩
              case measure => simp [intOf]; omega
          · have HSU := Lib.hid (show bfAll L f (v + 1) = bfAll L f v ++ bfRow L f v n by rw [bfAll_succ, show L - v = n by omega])
            have HB := Lib.hid hbel
            clear hO hbel hOL
            go_wp2
            go_roundw
            case rel => exact ⟨v + 1, by omega, by go_num, by rw [HSU.out]; exact HO.out, HB.out⟩
            case measure => simp [intOf]; omega
      · have hvL : v = L := by omega
        obtain ⟨OA, oc, eo, _, _⟩ := hO.form
        subst eo
        have HO := Lib.hid (show BarsO wr w1.heap.size wr.heap.size (.slice OA (bfAll L f v).length oc) (bfAll L f L) by rw [show bfAll L f L = bfAll L f v by rw [hvL]]; exact hO)
        have HG := Lib.hid (g2.trans (hbel.mono hg1))
        clear hO hbel hvL
        go_wp2
        go_ret2
        exact ⟨_, by rw [HF.out]; rfl, by rw [HF.out]; exact HO.out.wider hg1 (Nat.le_refl _), HG.out⟩
end Go.Proofs.Ytjlgijdkfihhlaa

/- BarsOf: the program's. -/
namespace Go.Proofs.Ytjlgijdkfihhlaa
set_option linter.unusedVariables false
set_option linter.unusedSimpArgs false
open Go.RowKit

theorem bfAt_any (L : Nat) (f : Nat → Nat → Int) (v w : Int) (b c : Nat) (A : Option Addr) (w0 : World) (hL : L ≤ 5) (hv : -1 ≤ v ∧ v < L) (hw : 0 ≤ w ∧ w ≤ L) (hc0 : w0.cell? ⟨b, 0, none⟩ = some (.slice A L c)) (hu : SlII w0 w0.heap.size (.slice A L c) (matF L f)) :
    Calls Try.prog 67 #[.int .i64 v, .int .i64 w, .pointer (some ⟨b, 0, none⟩)] w0 fun e w' => e = .returned (.int .i64 (atF L f v w)) ∧ w' = w0 := by
  by_cases h1 : v < 0
  · have HA := Lib.hid (show atF L f v w = 0 by rw [atF, if_pos (.inl h1)])
    go_enter Try.func67, Try.ntmps67
    go_wp2
    go_ret
    exact ⟨by rw [HA.out]; rfl, rfl⟩
  · by_cases h2 : (L : Int) ≤ w
    · have HA := Lib.hid (show atF L f v w = 0 by rw [atF, if_pos (.inr h2)])
      go_enter Try.func67, Try.ntmps67
      go_wp2
      go_ret
      exact ⟨by rw [HA.out]; rfl, rfl⟩
    · obtain ⟨a, rfl⟩ := Int.eq_ofNat_of_zero_le (show 0 ≤ v by omega)
      obtain ⟨d, rfl⟩ := Int.eq_ofNat_of_zero_le (show 0 ≤ w by omega)
      have HA := Lib.hid (show atF L f (a : Int) (d : Int) = f a d by rw [atF, if_neg (by omega)]; rfl)
      have ha : a < L := by omega
      have hb : d < L := by omega
      have HX : Hid (SlII w0 w0.heap.size (.slice A (matF L f).length c) (matF L f)) := by rw [matF_length]; exact hu
      clear hu
      obtain ⟨bA, oA, rfl, _⟩ := SlII.addr HX.out (by rw [matF_length]; omega)
      obtain ⟨r, RA, rc, hr0, _, y1, hr, hrc1, hrc2⟩ := SlII.elt HX.out (k := a) (by rw [matF_length]; exact ha)
      rw [matF_get _ ha] at hr0
      injection hr0 with hr0
      subst hr0
      rw [rowF_length] at y1
      obtain ⟨b2, o2, rfl, _⟩ := SlI.addr hr (by rw [rowF_length]; omega)
      obtain ⟨z, hz, _, z1, _⟩ := SlI.elt hr (k := d) (by rw [rowF_length]; exact hb)
      rw [rowF_get _ hb] at hz
      injection hz with hz
      have HZ := Lib.hid hz
      clear hr hrc1 hz
      go_enter Try.func67, Try.ntmps67
      go_wp2
      go_ret
      exact ⟨by rw [HA.out, HZ.out]; rfl, rfl⟩

set_option maxHeartbeats 3200000 in
set_option maxRecDepth 100000 in
theorem implBarsOf_any (u : Value) (x : Rp) (w0 : World) (hu : RpR w0 w0.heap.size u x) :
    Calls Try.prog 18 #[u] w0 fun e w' => ∃ v, e = .returned (.tuple #[v, .bool (bfQ x).2]) ∧ BarsO w' w0.heap.size w'.heap.size v (bfQ x).1 ∧ Below w0.heap.size w0 w' := by
  have hu' := hu
  obtain ⟨A, a, C, c, E, e, H, h, rfl, hq, hd, hm, hp, ld, lm⟩ := hu.open_
  clear hu hq hd hm
  obtain ⟨W, hW⟩ : ∃ W, W = w0.alloc (.cells #[.int .i64 x.p, .int .i64 x.q.v, .slice A x.q.f.length a, .slice C x.q.t.length c, .slice E x.d.length e, .slice H x.m.length h] 35) := ⟨_, rfl⟩
  have g0 : Below w0.heap.size w0 W := by rw [hW]; exact below_alloc _ _
  have kB : Blk W w0.heap.size 35 #[.int .i64 x.p, .int .i64 x.q.v, .slice A x.q.f.length a, .slice C x.q.t.length c, .slice E x.d.length e, .slice H x.m.length h] := by rw [hW]; exact Blk.new _ _ _
  have HXR := Lib.hid (RpR.next g0 hu')
  clear hu'
  have c0 := kB.cell' (i := 0) rfl
  have c1 := kB.cell' (i := 1) rfl
  have c2 := kB.cell' (i := 2) rfl
  have c3 := kB.cell' (i := 3) rfl
  have c4 := kB.cell' (i := 4) rfl
  have c5 := kB.cell' (i := 5) rfl
  rcases hok : okL x with _ | _
  · have HF := Lib.hid (show bfQ x = ([], false) by simp [bfQ, hok])
    have HR := Lib.hid (show rtM x = ([], false) by simp [rtM, hok])
    clear hok
    go_enter Try.func18, Try.ntmps18
    go_wp2_with fail
    rw [← hW]; clear hW
    refine (implRankTable_any _ x _ HXR.out).mono ?_; rintro e w1 ⟨v1, rfl, hT, hb1⟩
    rw [HR.out] at hT ⊢
    obtain ⟨TA, tc, et, _⟩ := hT.form2
    subst et
    have g1 := bthen g0 hb1
    have hg1 := g1.size
    have HG := Lib.hid (g1.trans ((below_alloc w1 (.cells #[.slice TA 0 tc] 42)).mono hg1))
    clear hT hb1 c0 c1 c2 c3 c4 c5 kB g0 g1
    go_wp2
    go_ret2
    exact ⟨.slice none 0 0, by rw [HF.out]; rfl, by rw [HF.out]; exact BarsO.nil _ _ _, HG.out⟩
  · have hL5 := (okL_t hok).2.2.2.2.1
    have HF := Lib.hid (show bfQ x = (bfAll x.d.length (rtF x) x.d.length, true) by simp [bfQ, hok])
    have HR := Lib.hid (show rtM x = (matF x.d.length (rtF x), true) by simp [rtM, hok])
    have HP := Lib.hid (okL_t hok).2.2.1
    have HRG := Lib.hid (fun v w => rtF_rng (dN_all hok) v w)
    obtain ⟨L, hL⟩ : ∃ n, x.d.length = n := ⟨_, rfl⟩
    rw [hL] at HF HR hL5
    obtain ⟨f, hf⟩ : ∃ f, rtF x = f := ⟨_, rfl⟩
    rw [hf] at HF HR HRG
    clear hok hL hf
    go_enter Try.func18, Try.ntmps18
    go_wp2_with fail
    rw [← hW]; clear hW
    refine (implRankTable_any _ x _ HXR.out).mono ?_; rintro e w1 ⟨v1, rfl, hT, hb1⟩
    rw [HR.out] at hT ⊢
    obtain ⟨TA, tc, et, _⟩ := hT.form2
    rw [matF_length] at et
    subst et
    have g1 := bthen g0 hb1
    have hg1 := g1.size
    obtain ⟨w2, hw2⟩ : ∃ z, z = w1.alloc (.cells #[.slice TA L tc] 42) := ⟨_, rfl⟩
    have b2 : Below w1.heap.size w1 w2 := by rw [hw2]; exact below_alloc _ _
    have k2 : Blk w2 w1.heap.size 42 #[.slice TA L tc] := by rw [hw2]; exact Blk.new _ _ _
    have g2 := bthen g1 b2
    have HT := Lib.hid (SlII.next b2 hT.rd)
    have hg2 := k2.lt
    have t0 := k2.cell' (i := 0) rfl
    rw [hw2] at t0
    clear hT hb1 c0 c1 c2 c3 c4 c5 kB g0 g1 b2
    go_wp2
    rw [← hw2]; clear hw2 t0
    go_loopw [7, 21] (fun ov i wr => ∃ v : Nat, v ≤ L ∧ i = .int .i64 v ∧ BarsO wr w2.heap.size wr.heap.size ov (bfAll L f v) ∧ Below w2.heap.size w2 wr) (fun _ i _ => L - (intOf i).toNat)
    case atStart => exact ⟨0, Nat.zero_le _, rfl, by simpa [bfAll] using BarsO.nil w2 _ _, Below.refl _ _⟩
    case round =>
      obtain ⟨v, hv, rfl, hO, hbel⟩ := hrel
      have hws := hbel.size
      by_cases hlt : v < L
      · go_wp2
        obtain ⟨w3, hw3⟩ : ∃ z, z = wr := ⟨_, rfl⟩
        subst hw3
        go_loopw [7, 9] (fun ov i wq => ∃ n k : Nat, v + n ≤ L ∧ i = .int .i64 k ∧ Hid (k = v + n) ∧ BarsO wq w2.heap.size wq.heap.size ov (bfAll L f v ++ bfRow L f v n) ∧ Below w2.heap.size w2 wq) (fun _ i _ => L - (intOf i).toNat)
        case atStart => exact ⟨0, v, by omega, rfl, rfl, by simpa [bfRow] using hO, hbel⟩
        case round =>
          clear hO hbel
          obtain ⟨n, k, hn, rfl, HK, hO, hbel⟩ := hrel
          have hk1 : k ≤ v + n := Nat.le_of_eq HK.out
          have hk2 : v + n ≤ k := Nat.le_of_eq HK.out.symm
          obtain ⟨OA, oc, eo, _, _⟩ := hO.form
          have hl1 := bfAll_len L f v
          have hl2 := bfRow_len L f v n
          have hvL : v * L ≤ 5 * 5 := Nat.mul_le_mul (by omega) hL5
          obtain ⟨OL, hOL⟩ : ∃ z, (bfAll L f v ++ bfRow L f v n).length = z := ⟨_, rfl⟩
          have hOL2 : OL ≤ 100 := by rw [← hOL, List.length_append]; omega
          rw [hOL] at eo
          subst eo
          have hqs := hbel.size
          have HO := Lib.hid hO
          have HOL := Lib.hid hOL
          have t0 := (k2.below hbel k2.lt).cell' (i := 0) rfl
          by_cases hkL : k < L
          · have HTR := Lib.hid (SlII.more hqs (SlII.below hbel HT.out))
            have HB := Lib.hid hbel
            have r1 := atF_rng HRG.out (L := L) (v : Int) (k : Int)
            have r2 := atF_rng HRG.out (L := L) ((v : Int) - 1) (k : Int)
            have r3 := atF_rng HRG.out (L := L) (v : Int) ((k : Int) + 1)
            have r4 := atF_rng HRG.out (L := L) ((v : Int) - 1) ((k : Int) + 1)
            have hcf : cntF L f v (v + n) = atF L f (v : Int) (k : Int) - atF L f ((v : Int) - 1) (k : Int) - atF L f (v : Int) ((k : Int) + 1) + atF L f ((v : Int) - 1) ((k : Int) + 1) := by rw [cntF, ← HK.out]
            obtain ⟨t1, h1⟩ : ∃ z, atF L f (v : Int) (k : Int) = z := ⟨_, rfl⟩
            obtain ⟨t2, h2⟩ : ∃ z, atF L f ((v : Int) - 1) (k : Int) = z := ⟨_, rfl⟩
            obtain ⟨t3, h3⟩ : ∃ z, atF L f (v : Int) ((k : Int) + 1) = z := ⟨_, rfl⟩
            obtain ⟨t4, h4⟩ : ∃ z, atF L f ((v : Int) - 1) ((k : Int) + 1) = z := ⟨_, rfl⟩
            rw [h1] at r1 hcf
            rw [h2] at r2 hcf
            rw [h3] at r3 hcf
            rw [h4] at r4 hcf
            have HC := Lib.hid hcf
            have H1 := Lib.hid h1
            have H2 := Lib.hid h2
            have H3 := Lib.hid h3
            have H4 := Lib.hid h4
            have T0 := Lib.hid t0
            clear hO hbel hOL h1 h2 h3 h4 hcf
            go_wp2_with fail
            refine (bfAt_any L f v k _ tc TA _ hL5 (by omega) (by omega) T0.out HTR.out).mono ?_; rintro e w' ⟨rfl, hww⟩
            replace hww := hww.symm
            subst hww
            rw [H1.out]
            go_wp2_with fail
            refine (bfAt_any L f ((v : Int) - 1) k _ tc TA _ hL5 (by omega) (by omega) T0.out HTR.out).mono ?_; rintro e w' ⟨rfl, hww⟩
            replace hww := hww.symm
            subst hww
            rw [H2.out]
            go_wp2_with fail
            refine (bfAt_any L f v ((k : Int) + 1) _ tc TA _ hL5 (by omega) (by omega) T0.out HTR.out).mono ?_; rintro e w' ⟨rfl, hww⟩
            replace hww := hww.symm
            subst hww
            rw [H3.out]
            go_wp2_with fail
            refine (bfAt_any L f ((v : Int) - 1) ((k : Int) + 1) _ tc TA _ hL5 (by omega) (by omega) T0.out HTR.out).mono ?_; rintro e w' ⟨rfl, hww⟩
            replace hww := hww.symm
            subst hww
            rw [H4.out]
            by_cases hz : t1 - t2 - t3 + t4 = 0
            · have HSU := Lib.hid (show bfAll L f v ++ bfRow L f v (n + 1) = bfAll L f v ++ bfRow L f v n by
                rw [bfRow_succ, bfOne, HC.out, if_pos hz, List.append_nil])
              have hzb : (t1 - t2 - t3 + t4 != 0) = false := by rw [bne_eq_false_iff_eq]; exact hz
              clear hz
              go_wp2
              go_roundw
              case rel => exact ⟨n + 1, k + 1, by omega, by go_num, (by show k + 1 = v + (n + 1); omega), by rw [HSU.out]; exact HO.out, HB.out⟩
              case measure => simp [intOf]; omega
            · have HSU := Lib.hid (show bfAll L f v ++ bfRow L f v (n + 1) = (bfAll L f v ++ bfRow L f v n) ++ [((v : Int), (k : Int), t1 - t2 - t3 + t4)] by
                rw [bfRow_succ, bfOne, HC.out, if_neg hz, List.append_assoc, ← HK.out])
              have hzb : (t1 - t2 - t3 + t4 != 0) = true := by rw [bne_iff_ne]; exact hz
              have bz := below_alloc wr (.cells #[.int .i64 v, .int .i64 k, .int .i64 (t1 - t2 - t3 + t4)] 80)
              have HKZ := Lib.hid (Blk.new wr 80 #[.int .i64 v, .int .i64 k, .int .i64 (t1 - t2 - t3 + t4)])
              have HO2 := Lib.hid (HO.out.below bz)
              have HB2 := Lib.hid (HB.out.trans (bz.mono (by omega)))
              have hzs := bz.size
              clear bz
              (go_wp2_with (at_builtin; refine Hold.stop ?_)); unfold Hold
              refine wpList_appB rfl (.tmp 56) (.tmp 61) rfl w2.heap.size _ (.slice OA OL oc) (bfAll L f v ++ bfRow L f v n) rfl HO2.out wr.heap.size 1 ((v : Int), (k : Int), t1 - t2 - t3 + t4) rfl HKZ.out ⟨⟨by simp only; omega, by simp only; omega⟩, ⟨by simp only; omega, by simp only; omega⟩, ⟨by simp only; omega, by simp only; omega⟩⟩ (by rw [HOL.out]; omega) (by simp; omega) ?_
              intro v9 w9 ho9 hb9 _
              rw [← HSU.out] at ho9
              have HO9 := Lib.hid ho9
              have HB9 := Lib.hid (HB2.out.trans hb9)
              clear ho9 hb9 t0
              go_wp2
              go_roundw
              case rel => exact ⟨n + 1, k + 1, by omega, by go_num, (by show k + 1 = v + (n + 1); omega), HO9.out, HB9.out⟩
              case measure => simp [intOf]; omega
          · have HSU := Lib.hid (show bfAll L f (v + 1) = bfAll L f v ++ bfRow L f v n by rw [bfAll_succ, show L - v = n by omega])
            have HB := Lib.hid hbel
            clear hO hbel hOL
            go_wp2
            go_roundw
            case rel => exact ⟨v + 1, by omega, by go_num, by rw [HSU.out]; exact HO.out, HB.out⟩
            case measure => simp [intOf]; omega
      · have hvL : v = L := by omega
        obtain ⟨OA, oc, eo, _, _⟩ := hO.form
        subst eo
        have HO := Lib.hid (show BarsO wr w2.heap.size wr.heap.size (.slice OA (bfAll L f v).length oc) (bfAll L f L) by rw [show bfAll L f L = bfAll L f v by rw [hvL]]; exact hO)
        have HG := Lib.hid (g2.trans (hbel.mono (by omega)))
        clear hO hbel hvL
        go_wp2
        go_ret2
        exact ⟨_, by rw [HF.out]; rfl, by rw [HF.out]; exact HO.out.wider (by omega) (Nat.le_refl _), HG.out⟩
end Go.Proofs.Ytjlgijdkfihhlaa

/- What every law goes through: copies and marks of representations. -/
namespace Go.Proofs.Ytjlgijdkfihhlaa
set_option linter.unusedVariables false
set_option linter.unusedSimpArgs false
open Go.RowKit

set_option maxHeartbeats 1600000 in
theorem rep_to (u : Value) (x : Rp) (w : World) (hu : RpR w w.heap.size u x) (hn : x.size ≤ 1048576) :
    Calls Try.prog 17 #[u] w fun e w' => ∃ v, e = .returned v ∧ RepO w' w.heap.size w'.heap.size v x ∧ Below w.heap.size w w' := by
  obtain ⟨A, a, C, c, E, e, H, h, rfl, hq, hd, hm, hp, _, _⟩ := hu.open_
  have hmI : Hid (∀ m ∈ x.m, I64 m.r ∧ I64 m.c) := fun m hmm => by
    obtain ⟨j, hj⟩ := List.getElem?_of_mem hmm
    obtain ⟨_, _, m', _, _, _, _, HX, _, _, _, _, h1, h2, _⟩ := SlM.at_ hm (lt_of_some hj)
    have := HX.out
    rw [hj] at this
    injection this with this
    subst this
    exact ⟨h1, h2⟩
  have hqv : I64 x.q.v := by obtain ⟨_, _, _, _, _, _, _, h, _⟩ := hq.open_; exact h
  clear hu
  simp only [Rp.size] at hn
  obtain ⟨Wa, hWa⟩ : ∃ W, W = (w.alloc (.cells #[.int .i64 x.p, .int .i64 x.q.v, .slice A x.q.f.length a, .slice C x.q.t.length c, .slice E x.d.length e, .slice H x.m.length h] 27)).alloc (.cells #[.int .i64 0, .int .i64 0, .slice none 0 0, .slice none 0 0, .slice none 0 0, .slice none 0 0] 35) := ⟨_, rfl⟩
  obtain ⟨Wb, hWb⟩ : ∃ W, W = Wa.alloc (.cells #[.int .i64 x.p, .int .i64 0, .slice none 0 0, .slice none 0 0, .slice none 0 0, .slice none 0 0] 35) := ⟨_, rfl⟩
  have za : Wa.heap.size = w.heap.size + 1 + 1 := by rw [hWa]; simp
  have zb : Wb.heap.size = w.heap.size + 1 + 1 + 1 := by rw [hWb]; simp [za]
  have kp : Blk Wb w.heap.size 27 #[.int .i64 x.p, .int .i64 x.q.v, .slice A x.q.f.length a, .slice C x.q.t.length c, .slice E x.d.length e, .slice H x.m.length h] := by rw [hWb, hWa]; exact ((Blk.new _ _ _).alloc _).alloc _
  have kr : Blk Wb (w.heap.size + 1) 35 #[.int .i64 0, .int .i64 0, .slice none 0 0, .slice none 0 0, .slice none 0 0, .slice none 0 0] := by
    rw [hWb, hWa]
    have := (Blk.new (w.alloc (.cells #[.int .i64 x.p, .int .i64 x.q.v, .slice A x.q.f.length a, .slice C x.q.t.length c, .slice E x.d.length e, .slice H x.m.length h] 27)) 35 #[.int .i64 0, .int .i64 0, .slice none 0 0, .slice none 0 0, .slice none 0 0, .slice none 0 0]).alloc (.cells #[.int .i64 x.p, .int .i64 0, .slice none 0 0, .slice none 0 0, .slice none 0 0, .slice none 0 0] 35)
    simpa only [World.size_alloc] using this
  have ko : Blk Wb (w.heap.size + 1 + 1) 35 #[.int .i64 x.p, .int .i64 0, .slice none 0 0, .slice none 0 0, .slice none 0 0, .slice none 0 0] := by
    rw [hWb, ← za]; exact Blk.new _ _ _
  have gb : Below w.heap.size w Wb := by rw [hWb, hWa]; exact (((Below.refl _ _).alloc (Nat.le_refl _) _).alloc (by simp) _).alloc (by simp; omega) _
  have ZB := Lib.hid zb
  clear za zb
  go_enter Try.func17, Try.ntmps17
  go_wp2_with fail
  rw [← hWa, ← hWb]
  clear hWa hWb
  refine (quiv_to _ _ _ (QvR.next gb hq) (by omega)).mono ?_; rintro e w1 ⟨v1, rfl, hQ, hb1⟩
  clear hq
  have s1 := hb1.size
  replace gb := bthen gb hb1
  replace kp := kp.call hb1
  replace pc0 := kp.cell' (i := 0) rfl
  replace pc1 := kp.cell' (i := 1) rfl
  replace pc2 := kp.cell' (i := 2) rfl
  replace pc3 := kp.cell' (i := 3) rfl
  replace pc4 := kp.cell' (i := 4) rfl
  replace pc5 := kp.cell' (i := 5) rfl
  replace kr := kr.call hb1
  replace r0 := kr.cell' (i := 0) rfl
  replace r1 := kr.cell' (i := 1) rfl
  replace r2 := kr.cell' (i := 2) rfl
  replace r3 := kr.cell' (i := 3) rfl
  replace r4 := kr.cell' (i := 4) rfl
  replace r5 := kr.cell' (i := 5) rfl
  replace ko := ko.call hb1
  replace o0 := ko.cell' (i := 0) rfl
  replace o1 := ko.cell' (i := 1) rfl
  replace o2 := ko.cell' (i := 2) rfl
  replace o3 := ko.cell' (i := 3) rfl
  replace o4 := ko.cell' (i := 4) rfl
  replace o5 := ko.cell' (i := 5) rfl
  clear hb1
  obtain ⟨qa, qb, rfl, hQF, _⟩ := hQ
  have fa : OwnI w1 _ qa x.q.f := (hQF.1 (qa, x.q.f) (by simp)).1
  have fb : OwnI w1 _ qb x.q.t := (hQF.1 (qb, x.q.t) (by simp)).1
  obtain ⟨A1, a1, rfl, _, _⟩ := fa.form
  obtain ⟨C1, c1, rfl, _, _⟩ := fb.form
  clear fa fb
  have fo := ko.frozen
  go_wp2_with fail
  clear pc0 pc1 pc2 pc3 pc4 pc5 r0 r1 r2 r3 r4 r5 o0 o1 o2 o3 o4 o5 fo
  obtain ⟨Wc, hWc⟩ : ∃ W, W = ((w1.setCell ⟨w.heap.size + 1 + 1, 1, none⟩ (.int .i64 x.q.v)).setCell ⟨w.heap.size + 1 + 1, 2, none⟩ (.slice A1 x.q.f.length a1)).setCell ⟨w.heap.size + 1 + 1, 3, none⟩ (.slice C1 x.q.t.length c1) := ⟨_, rfl⟩
  have zb := ZB.out
  have hC1 : Chg (w.heap.size + 1) (w.heap.size + 1 + 1 + 1) w1 Wc := by
    rw [hWc]
    exact ((chg_set (by simp) (by simp)).trans (chg_set (by simp) (by simp))).trans (chg_set (by simp) (by simp))
  have gc : Below w.heap.size w1 Wc := hC1.below (by omega) (by omega)
  have zc : Wc.heap.size = w1.heap.size := by rw [hWc]; simp
  have kp' : Blk Wc w.heap.size 27 #[.int .i64 x.p, .int .i64 x.q.v, .slice A x.q.f.length a, .slice C x.q.t.length c, .slice E x.d.length e, .slice H x.m.length h] := kp.chg hC1 (by omega)
  have kr' : Blk Wc (w.heap.size + 1) 35 #[.int .i64 0, .int .i64 0, .slice none 0 0, .slice none 0 0, .slice none 0 0, .slice none 0 0] := by rw [hWc]; exact ((kr.far (by simp) _).far (by simp) _).far (by simp) _
  have ko' : Blk Wc (w.heap.size + 1 + 1) 35 #[.int .i64 x.p, .int .i64 x.q.v, .slice A1 x.q.f.length a1, .slice C1 x.q.t.length c1, .slice none 0 0, .slice none 0 0] := by
    rw [hWc]; exact ((ko.set_ 1 _).set_ 2 _).set_ 3 _
  have hQF1 := hQF.chg hC1 (.inr (by omega))
  replace gb : Below w.heap.size w Wc := gb.trans gc
  rw [← hWc]
  clear hWc kp kr ko hQF hC1 gc
  have p4 := kp'.cell' (i := 4) rfl
  refine (ints_to _ _ _ (SlI.next gb hd) (by omega)).mono ?_; rintro e w2 ⟨v2, rfl, hD, hb2⟩
  obtain ⟨E1, e1, rfl, _, _⟩ := hD.1.form
  have s2 := hb2.size
  replace gb := bthen gb hb2
  replace kp' := kp'.call hb2
  replace kr' := kr'.call hb2
  replace ko' := ko'.call hb2
  replace hQF1 := hQF1.below hb2
  have p5 := kp'.cell' (i := 5) rfl
  have o4 := ko'.cell' (i := 4) rfl
  have fo := ko'.frozen
  clear hb2 hd p4
  go_wp2_with fail
  clear p5 o4 fo
  obtain ⟨Wd, hWd⟩ : ∃ W, W = w2.setCell ⟨w.heap.size + 1 + 1, 4, none⟩ (.slice E1 x.d.length e1) := ⟨_, rfl⟩
  have hC2 : Chg (w.heap.size + 1) (w.heap.size + 1 + 1 + 1) w2 Wd := by
    rw [hWd]
    exact chg_set (by simp) (by simp)
  have gd : Below w.heap.size w2 Wd := hC2.below (by omega) (by omega)
  have zd : Wd.heap.size = w2.heap.size := by rw [hWd]; simp
  replace kp' : Blk Wd w.heap.size 27 _ := kp'.chg hC2 (by omega)
  replace kr' : Blk Wd (w.heap.size + 1) 35 #[.int .i64 0, .int .i64 0, .slice none 0 0, .slice none 0 0, .slice none 0 0, .slice none 0 0] := by rw [hWd]; exact kr'.far (by simp) _
  replace ko' : Blk Wd (w.heap.size + 1 + 1) 35 #[.int .i64 x.p, .int .i64 x.q.v, .slice A1 x.q.f.length a1, .slice C1 x.q.t.length c1, .slice E1 x.d.length e1, .slice none 0 0] := by
    rw [hWd]; exact ko'.set_ 4 _
  replace hQF1 := hQF1.chg hC2 (.inr (by omega))
  replace hD := hD.chg hC2 (.inr (by omega))
  replace gb : Below w.heap.size w Wd := gb.trans gd
  rw [← hWd]
  clear hWd hC2 gd
  have p5 := kp'.cell' (i := 5) rfl
  refine (mats_to _ _ _ (SlM.next gb hm) (by simp only [szM] at hn; omega) (fun m hmm => by have := totA_mem hmm; simp only [szM] at hn; simp only [Mx.size]; omega)).mono ?_; rintro e w3 ⟨v3, rfl, hM, hb3⟩
  obtain ⟨vs, hO, hvl, hFM, _⟩ := hM
  obtain ⟨H1, h1, rfl, _, _⟩ := hO.form
  have HVL := Lib.hid hvl
  have s3 := hb3.size
  replace gb := bthen gb hb3
  replace kr' := kr'.call hb3
  replace ko' := ko'.call hb3
  replace hQF1 := hQF1.below hb3
  replace hD := hD.below hb3
  have o0 := ko'.cell' (i := 0) rfl
  have o1 := ko'.cell' (i := 1) rfl
  have o2 := ko'.cell' (i := 2) rfl
  have o3 := ko'.cell' (i := 3) rfl
  have o4 := ko'.cell' (i := 4) rfl
  have o5 := ko'.cell' (i := 5) rfl
  have r0 := kr'.cell' (i := 0) rfl
  have r1 := kr'.cell' (i := 1) rfl
  have r2 := kr'.cell' (i := 2) rfl
  have r3 := kr'.cell' (i := 3) rfl
  have r4 := kr'.cell' (i := 4) rfl
  have r5 := kr'.cell' (i := 5) rfl
  have fo := ko'.frozen
  have fr := kr'.frozen
  clear hb3 hm p5 kp' hvl
  have HZC := Lib.hid zc
  have HZD := Lib.hid zd
  clear zb zc zd
  go_wp2
  have zb := ZB.out
  have zc := HZC.out
  have zd := HZD.out
  have hF : Fam w3 Wb.heap.size w3.heap.size ([(.slice A1 x.q.f.length a1, x.q.f), (.slice C1 x.q.t.length c1, x.q.t)] ++ ([(.slice E1 x.d.length e1, x.d)] ++ vs.zip (x.m.map Mx.a))) :=
    Fam.join (mi := Wc.heap.size) (hQF1.mono (Nat.le_refl _) (by omega)) (Fam.join (mi := Wd.heap.size) ((Fam.one hD).mono (Nat.le_refl _) (by omega)) hFM (by omega) (by omega)) (by omega) (by omega)
  refine bodyPost_ret (v := .agg #[.int .i64 x.p, .int .i64 x.q.v, .slice A1 x.q.f.length a1, .slice C1 x.q.t.length c1, .slice E1 x.d.length e1, .slice H1 x.m.length h1]) (by simp [results, go_sem, r0, r1, r2, r3, r4, r5]) rfl ⟨_, rfl, ⟨_, _, _, _, vs, rfl, ?_, HVL.out, ?_, ⟨hp, hqv⟩, hmI.out⟩, ((((((gb.setCell (by simp; omega) _).setCell (by simp) _).setCell (by simp) _).setCell (by simp) _).setCell (by simp) _).setCell (by simp) _).setCell (by simp) _⟩
  · have hc : Chg (w.heap.size + 1) (w.heap.size + 1 + 1 + 1) w3 _ := ((((((chg_set (w := w3) (p := ⟨w.heap.size + 1 + 1, 5, none⟩) (u := .slice H1 x.m.length h1) (by simp) (by simp)).trans (chg_set (p := ⟨w.heap.size + 1, 0, none⟩) (u := .int .i64 x.p) (by simp) (by simp))).trans (chg_set (p := ⟨w.heap.size + 1, 1, none⟩) (u := .int .i64 x.q.v) (by simp) (by simp))).trans (chg_set (p := ⟨w.heap.size + 1, 2, none⟩) (u := .slice A1 x.q.f.length a1) (by simp) (by simp))).trans (chg_set (p := ⟨w.heap.size + 1, 3, none⟩) (u := .slice C1 x.q.t.length c1) (by simp) (by simp))).trans (chg_set (p := ⟨w.heap.size + 1, 4, none⟩) (u := .slice E1 x.d.length e1) (by simp) (by simp))).trans (chg_set (p := ⟨w.heap.size + 1, 5, none⟩) (u := .slice H1 x.m.length h1) (by simp) (by simp))
    exact RowO.mono (hO.chg hc (.inr (by omega))) (by omega) (by simp)
  · have hc : Chg (w.heap.size + 1) (w.heap.size + 1 + 1 + 1) w3 _ := ((((((chg_set (w := w3) (p := ⟨w.heap.size + 1 + 1, 5, none⟩) (u := .slice H1 x.m.length h1) (by simp) (by simp)).trans (chg_set (p := ⟨w.heap.size + 1, 0, none⟩) (u := .int .i64 x.p) (by simp) (by simp))).trans (chg_set (p := ⟨w.heap.size + 1, 1, none⟩) (u := .int .i64 x.q.v) (by simp) (by simp))).trans (chg_set (p := ⟨w.heap.size + 1, 2, none⟩) (u := .slice A1 x.q.f.length a1) (by simp) (by simp))).trans (chg_set (p := ⟨w.heap.size + 1, 3, none⟩) (u := .slice C1 x.q.t.length c1) (by simp) (by simp))).trans (chg_set (p := ⟨w.heap.size + 1, 4, none⟩) (u := .slice E1 x.d.length e1) (by simp) (by simp))).trans (chg_set (p := ⟨w.heap.size + 1, 5, none⟩) (u := .slice H1 x.m.length h1) (by simp) (by simp))
    exact Fam.mono (hF.chg hc (.inr (by omega))) (by omega) (by simp)

/-- rows of other elements are left alone -/
def KeepT (lo hi : Nat) (w w' : World) : Prop := ∀ (T : TypeId) (sz : Nat) (v : Value) (n : Nat) (cs : List Value), 3 ≠ T → RowO T sz w lo hi v n cs → RowO T sz w' lo hi v n cs
theorem KeepT.of_below {lo hi : Nat} {w w' : World} (hb : Below w.heap.size w w') : KeepT lo hi w w' := fun _ _ _ _ _ _ h => h.below hb
theorem KeepT.of_grown {lo hi base : Nat} {w w' : World} {u : Value} {l : List Int} (ho : OwnI w base u l) (hg : w.grownBy w' u.ownBlock) : KeepT lo hi w w' := fun _ _ _ _ _ ht h => h.grown ht ho hg
theorem KeepT.trans {lo hi : Nat} {a b c : World} (h : KeepT lo hi a b) (k : KeepT lo hi b c) : KeepT lo hi a c := fun T sz v n cs ht hr => k T sz v n cs ht (h T sz v n cs ht hr)

set_option maxHeartbeats 400000 in
theorem markQuiver_fam (a b : Value) (q : Qv) (L1 : List (Value × List Int)) (k : Int) (lo hi : Nat) (w : World) (hF : Fam w lo hi ([(a, q.f), (b, q.t)] ++ L1)) (hh : hi ≤ w.heap.size) (h0 : 0 ≤ k) (h1 : k ≤ 1125899906842624) :
    Calls Try.prog 50 #[.agg #[.int .i64 q.v, a, b], .int .i64 k] w fun e w' => e = .returned (.int .i64 (k + q.size)) ∧ Fam w' lo hi ([(a, mkI k q.f.length), (b, mkI (k + q.f.length) q.t.length)] ++ L1) ∧ Chg lo hi w w' ∧ KeepT lo hi w w' := by
  have fa : OwnI w lo a q.f := (hF.1 (a, q.f) (by simp)).1
  have fb : OwnI w lo b q.t := (hF.1 (b, q.t) (by simp)).1
  obtain ⟨A, c, rfl, _, _⟩ := fa.form
  obtain ⟨C, d, rfl, _, _⟩ := fb.form
  have la := fa.2.1
  have lb := fb.2.1
  have g0 := below_alloc w (.cells #[.int .i64 q.v, .slice A q.f.length c, .slice C q.t.length d] 32)
  have hF0 := hF.below g0
  go_enter Try.func50, Try.ntmps50
  go_wp2_with fail
  have fa0 : IntsO _ lo hi (.slice A q.f.length c) q.f := hF0.1 (_, q.f) (by simp)
  refine (markIntS_any _ _ _ lo _ fa0.1 h0 (by omega)).mono ?_; rintro e w1 ⟨rfl, ho1, hg1⟩
  have hF1 := Fam.turn (L1 := []) hF0 ho1 hg1
  have hc1 := chg_of_grown fa0 hg1
  have hk1 := KeepT.of_grown (lo := lo) (hi := hi) fa0.1 hg1
  have cB := ((Blk.new w 32 #[.int .i64 q.v, .slice A q.f.length c, .slice C q.t.length d]).chg hc1 (.inr hh)).cell' (i := 2) rfl
  have fb1 : IntsO w1 lo hi (.slice C q.t.length d) q.t := hF1.1 (_, q.t) (by simp)
  clear hF hF0 ho1 hg1 fa fb fa0
  go_wp2_with fail
  refine (markIntS_any _ _ _ lo _ fb1.1 (by omega) (by omega)).mono ?_; rintro e w2 ⟨rfl, ho2, hg2⟩
  have hF2 := Fam.turn (L1 := [(_, mkI k q.f.length)]) hF1 ho2 hg2
  have hc2 := chg_of_grown fb1 hg2
  have hk2 := KeepT.of_grown (lo := lo) (hi := hi) fb1.1 hg2
  clear ho2 hg2 fb1 hF1
  go_wp2
  go_ret
  refine ⟨?_, hF2, (Chg.of_below g0).trans (hc1.trans hc2), (KeepT.of_below g0).trans (hk1.trans hk2)⟩
  have e : k + (q.size : Int) = k + q.f.length + q.t.length := by simp only [Qv.size]; omega
  rw [e]; rfl

set_option maxHeartbeats 800000 in
theorem rep_mark (v : Value) (x : Rp) (k : Int) (lo hi : Nat) (w : World) (hv : RepO w lo hi v x) (hh : hi ≤ w.heap.size) (h0 : 0 ≤ k) (h1 : k ≤ 1099511627776) (hsz : x.size ≤ 1048576) :
    Calls Try.prog 21 #[v, .int .i64 k] w fun e w' => e = .returned (.int .i64 (k + x.marks)) ∧ RepO w' lo hi v (RepO.mk k x) ∧ Chg lo hi w w' := by
  obtain ⟨f, t, d, m, vs, rfl, ho, hl, hF, hI, _⟩ := hv
  have HL := Lib.hid hl
  clear hl
  have ff : OwnI w lo f x.q.f := (hF.1 (f, x.q.f) (by simp)).1
  have ft : OwnI w lo t x.q.t := (hF.1 (t, x.q.t) (by simp)).1
  have fd : OwnI w lo d x.d := (hF.1 (d, x.d) (by simp)).1
  obtain ⟨A, a, rfl, _, _⟩ := ff.form
  obtain ⟨C, c, rfl, _, _⟩ := ft.form
  obtain ⟨E, e, rfl, _, _⟩ := fd.form
  obtain ⟨H, h, rfl, _, _⟩ := ho.form
  have ht : totM x.m ≤ 4194304 := by rw [totM_eq]; simp only [Rp.size, szM] at hsz; omega
  have hqs : x.q.size ≤ 1048576 := by simp only [Rp.size] at hsz; omega
  have hds : x.d.length ≤ 1048576 := by simp only [Rp.size] at hsz; omega
  clear ff ft fd
  obtain ⟨W, hW⟩ : ∃ W, W = w.alloc (.cells #[.int .i64 x.p, .int .i64 x.q.v, .slice A x.q.f.length a, .slice C x.q.t.length c, .slice E x.d.length e, .slice H x.m.length h] 35) := ⟨_, rfl⟩
  have g0 : Below w.heap.size w W := by rw [hW]; exact below_alloc _ _
  have kB : Blk W w.heap.size 35 #[.int .i64 x.p, .int .i64 x.q.v, .slice A x.q.f.length a, .slice C x.q.t.length c, .slice E x.d.length e, .slice H x.m.length h] := by rw [hW]; exact Blk.new _ _ _
  replace hF := hF.below g0
  replace ho := ho.below g0
  have hs0 := g0.size
  have HF := Lib.hid hF
  clear hF
  go_enter Try.func21, Try.ntmps21
  go_wp2_with fail
  rw [← hW]; clear hW
  refine (markQuiver_fam _ _ x.q ([(.slice E x.d.length e, x.d)] ++ vs.zip (x.m.map Mx.a)) _ lo hi _ HF.out (by omega) h0 (by omega)).mono ?_; rintro e w1 ⟨rfl, hF1, hc1, hk1⟩
  have ho1 : OutM w1 lo hi (.slice H x.m.length h) vs x.m := hk1 _ _ _ _ _ (by decide) ho
  have kB1 := kB.chg hc1 (.inr hh)
  have c4 := kB1.cell' (i := 4) rfl
  have hd : IntsO w1 lo hi (.slice E x.d.length e) x.d := hF1.1 (_, x.d) (by simp)
  clear ho kB hk1
  have HF1 := Lib.hid hF1
  clear hF1
  go_wp2_with fail
  refine (markIntS_any _ _ _ lo _ hd.1 (by omega) (by omega)).mono ?_; rintro e w2 ⟨rfl, ho2, hg2⟩
  have hF2 := Fam.turn (L1 := [(_, mkI k x.q.f.length), (_, mkI (k + x.q.f.length) x.q.t.length)]) HF1.out ho2 hg2
  have hc2 := chg_of_grown hd hg2
  have hO2 : OutM w2 lo hi (.slice H x.m.length h) vs x.m := ho1.grown (by decide) hd.1 hg2
  have kB2 := kB1.chg hc2 (.inr hh)
  have c5 := kB2.cell' (i := 5) rfl
  have HF2 := Lib.hid hF2
  clear ho1 kB1 c4 hd HF1 ho2 hg2 hF2
  go_wp2_with fail
  refine (markMatrixS_fam _ vs x.m [(.slice A x.q.f.length a, mkI k x.q.f.length), (.slice C x.q.t.length c, mkI (k + x.q.f.length) x.q.t.length), (.slice E x.d.length e, mkI (k + x.q.size) x.d.length)] _ lo hi _ hO2 HL.out HF2.out (by omega) (by omega) (by omega)).mono ?_; rintro e w3 ⟨rfl, ho3, hF3, hc3⟩
  have hI3 : ∀ m ∈ mkMS (k + x.q.size + x.d.length) x.m, I64 m.r ∧ I64 m.c := by
    intro m hm
    obtain ⟨j, hj⟩ := List.getElem?_of_mem hm
    have hjl := lt_of_some hj
    rw [mkMS_length] at hjl
    have := mkMS_get x.m (k + x.q.size + x.d.length) j _ (List.getElem?_eq_getElem hjl)
    rw [hj] at this
    injection this with this
    subst this
    have hle := totM_take_le x.m j
    simp only
    exact ⟨⟨by omega, by omega⟩, ⟨by omega, by omega⟩⟩
  have HI3 := Lib.hid hI3
  have HO3 := Lib.hid ho3
  have HF3 := Lib.hid hF3
  clear hI3 ho3 hF3 HF2 hO2 HF
  have hL3 := Lib.hid (show vs.length = (mkMS (k + x.q.size + x.d.length) x.m).length by rw [mkMS_length]; exact HL.out)
  go_wp2
  go_ret
  refine ⟨?_, ⟨_, _, _, _, vs, ?_, HO3.out, hL3.out, HF3.out, hI, HI3.out⟩, (Chg.of_below g0).trans (hc1.trans (hc2.trans hc3))⟩
  · have e : k + (x.marks : Int) = k + x.q.size + x.d.length + totM x.m := by simp only [Rp.marks]; omega
    rw [e]; rfl
  · simp [RepO.mk, QuivO.mk, mkMS_length, mkI_length]

end Go.Proofs.Ytjlgijdkfihhlaa
