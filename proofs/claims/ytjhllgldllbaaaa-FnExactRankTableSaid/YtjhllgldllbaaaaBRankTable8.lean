/- FnExactRankTable: for every argument the program's function returns what the reference's returns. Part 8 of 8 of the proof: RTab3, HeldSS, KitR2, LawRankTable, Row, RowM, RowR, Seat, LawRankTableRow. No condition. -/
import Derived.Test.YtjhllgldllbaaaaBRankTable7
import Derived.Test.YtjhllgldllbaaaaRows
import Derived.ProofKit
import Derived.SizedLaws
import Derived.OpenShut
import Derived.Deep.Slices
/- RankTable: the reference's. -/
namespace Go.Proofs.Ytjhllgldllbaaaa
set_option linter.unusedVariables false
set_option linter.unusedSimpArgs false
open Go.RowKit

def rtS (L : Nat) (f : Nat → Nat → Int) (v : Nat) : List (List Int) := (List.range v).map fun a => rowF L (f a)
theorem rtS_length (L : Nat) (f : Nat → Nat → Int) (v : Nat) : (rtS L f v).length = v := by simp [rtS]
theorem rtS_succ (L : Nat) (f : Nat → Nat → Int) (v : Nat) : rtS L f (v + 1) = rtS L f v ++ [rowF L (f v)] := by simp [rtS, List.range_succ]
theorem rtR_low {L v : Nat} (f : Nat → Nat → Int) (h : ∀ w, w < v → f v w = 0) : List.replicate L 0 = rtR L f v v := by
  rw [rtR_0 L f v]
  refine rowF_congr fun b _ => ?_
  rw [if_neg (by omega)]
  split
  · exact (h b ‹_›).symm
  · rfl
set_option maxHeartbeats 6400000 in
set_option maxRecDepth 100000 in
theorem specRankTable_no (u : Value) (x : Rp) (w0 : World) (hu : RpR w0 w0.heap.size u x) (hno : okL x = false) :
    Calls Try.prog 53 #[u] w0 fun e w' => ∃ v, e = .returned (.tuple #[v, .bool (rtM x).2]) ∧ IntssO w' w0.heap.size w'.heap.size v (rtM x).1 ∧ Below w0.heap.size w0 w' := by
  have hu' := hu
  obtain ⟨A, a, C, c, E, e, H, h, rfl, hq, hd, hm, hp, ld, lm⟩ := hu.open_
  clear hu
  obtain ⟨W, hW⟩ : ∃ W, W = (w0.alloc (.cells #[.int .i64 x.p, .int .i64 x.q.v, .slice A x.q.f.length a, .slice C x.q.t.length c, .slice E x.d.length e, .slice H x.m.length h] 29)).alloc (.cells #[] 22) := ⟨_, rfl⟩
  have g0 : Below w0.heap.size w0 W := by rw [hW]; exact ((Below.refl _ _).alloc (Nat.le_refl _) _).alloc (by simp) _
  have kB : Blk W w0.heap.size 29 #[.int .i64 x.p, .int .i64 x.q.v, .slice A x.q.f.length a, .slice C x.q.t.length c, .slice E x.d.length e, .slice H x.m.length h] := by rw [hW]; exact (Blk.new _ _ _).alloc _
  have oW : IntssO W (w0.heap.size + 1) W.heap.size (.slice (some ⟨w0.heap.size + 1, 0, none⟩) 0 0) [] := by
    have := IntssO.made0 (w0.alloc (.cells #[.int .i64 x.p, .int .i64 x.q.v, .slice A x.q.f.length a, .slice C x.q.t.length c, .slice E x.d.length e, .slice H x.m.length h] 29)) (lo := w0.heap.size + 1) (by simp)
    rw [← hW] at this
    simpa only [World.size_alloc] using this
  have sz : W.heap.size = w0.heap.size + 1 + 1 := by rw [hW]; simp
  have HXR := Lib.hid (RpR.next g0 hu')
  have HQ1 := Lib.hid (QvR.next g0 hq)
  have HF := Lib.hid (show rtM x = ([], false) by rw [rtM, if_neg (by simp [hno])])
  have SZ := Lib.hid sz
  clear hd hm sz
  rcases h1 : isRep x with _ | _
  · have H1 := Lib.hid h1
    clear h1 hu' hq
    have c0 := kB.cell' (i := 0) rfl
    have c1 := kB.cell' (i := 1) rfl
    have c2 := kB.cell' (i := 2) rfl
    have c3 := kB.cell' (i := 3) rfl
    have c4 := kB.cell' (i := 4) rfl
    have c5 := kB.cell' (i := 5) rfl
    rw [hW] at c0 c1 c2 c3 c4 c5
    go_enter Try.func53, Try.ntmps53
    go_wp2_with fail
    rw [← hW]; clear hW
    refine (specIsRep_any _ x _ HXR.out).mono ?_; rintro e w1 ⟨rfl, hb1⟩
    rw [H1.out]
    have g1 := bthen g0 hb1
    have o1 := (oW.below hb1).wider (show w0.heap.size ≤ w0.heap.size + 1 by omega) hb1.size
    clear c0 c1 c2 c3 c4 c5 hb1 kB oW
    go_wp2
    go_ret2
    exact ⟨.slice (some ⟨w0.heap.size + 1, 0, none⟩) 0 0, by rw [HF.out]; rfl, by rw [HF.out]; exact o1, g1⟩
  · have H1 := Lib.hid h1
    have H2 := Lib.hid (show isL x.q = false by simpa [okL, h1] using hno)
    clear h1 hu' hq hno
    have c0 := kB.cell' (i := 0) rfl
    have c1 := kB.cell' (i := 1) rfl
    have c2 := kB.cell' (i := 2) rfl
    have c3 := kB.cell' (i := 3) rfl
    have c4 := kB.cell' (i := 4) rfl
    have c5 := kB.cell' (i := 5) rfl
    rw [hW] at c0 c1 c2 c3 c4 c5
    go_enter Try.func53, Try.ntmps53
    go_wp2_with fail
    rw [← hW]; clear hW
    refine (specIsRep_any _ x _ HXR.out).mono ?_; rintro e w1 ⟨rfl, hb1⟩
    rw [H1.out]
    have g1 := bthen g0 hb1
    have o1 := (oW.below hb1).wider (Nat.le_refl _) hb1.size
    have kB1 := kB.call hb1
    have HQ2 := Lib.hid (QvR.next hb1 HQ1.out)
    clear c0 c1 c2 c3 c4 c5 hb1 kB g0 oW
    have c0 := kB1.cell' (i := 0) rfl
    have c1 := kB1.cell' (i := 1) rfl
    have c2 := kB1.cell' (i := 2) rfl
    have c3 := kB1.cell' (i := 3) rfl
    have c4 := kB1.cell' (i := 4) rfl
    have c5 := kB1.cell' (i := 5) rfl
    go_wp2_with fail
    refine (specIsLine_any _ x.q _ HQ2.out).mono ?_; rintro e w2 ⟨rfl, hb2⟩
    rw [H2.out]
    have g2 := bthen g1 hb2
    have o2 := (o1.below hb2).wider (show w0.heap.size ≤ w0.heap.size + 1 by omega) hb2.size
    clear c0 c1 c2 c3 c4 c5 hb2 kB1 g1 o1
    go_wp2
    go_ret2
    exact ⟨.slice (some ⟨w0.heap.size + 1, 0, none⟩) 0 0, by rw [HF.out]; rfl, by rw [HF.out]; exact o2, g2⟩

set_option maxHeartbeats 6400000 in
set_option maxRecDepth 100000 in
theorem specRankTable_yes (u : Value) (x : Rp) (w0 : World) (hu : RpR w0 w0.heap.size u x) (hok : okL x = true) :
    Calls Try.prog 53 #[u] w0 fun e w' => ∃ v, e = .returned (.tuple #[v, .bool (rtM x).2]) ∧ IntssO w' w0.heap.size w'.heap.size v (rtM x).1 ∧ Below w0.heap.size w0 w' := by
  have hu' := hu
  obtain ⟨A, a, C, c, E, e, H, h, rfl, hq, hd, hm, hp, ld, lm⟩ := hu.open_
  clear hu
  obtain ⟨W, hW⟩ : ∃ W, W = (w0.alloc (.cells #[.int .i64 x.p, .int .i64 x.q.v, .slice A x.q.f.length a, .slice C x.q.t.length c, .slice E x.d.length e, .slice H x.m.length h] 29)).alloc (.cells #[] 22) := ⟨_, rfl⟩
  have g0 : Below w0.heap.size w0 W := by rw [hW]; exact ((Below.refl _ _).alloc (Nat.le_refl _) _).alloc (by simp) _
  have kB : Blk W w0.heap.size 29 #[.int .i64 x.p, .int .i64 x.q.v, .slice A x.q.f.length a, .slice C x.q.t.length c, .slice E x.d.length e, .slice H x.m.length h] := by rw [hW]; exact (Blk.new _ _ _).alloc _
  have oW : IntssO W (w0.heap.size + 1) W.heap.size (.slice (some ⟨w0.heap.size + 1, 0, none⟩) 0 0) [] := by
    have := IntssO.made0 (w0.alloc (.cells #[.int .i64 x.p, .int .i64 x.q.v, .slice A x.q.f.length a, .slice C x.q.t.length c, .slice E x.d.length e, .slice H x.m.length h] 29)) (lo := w0.heap.size + 1) (by simp)
    rw [← hW] at this
    simpa only [World.size_alloc] using this
  have sz : W.heap.size = w0.heap.size + 1 + 1 := by rw [hW]; simp
  have HXR := Lib.hid (RpR.next g0 hu')
  have HQ1 := Lib.hid (QvR.next g0 hq)
  clear hu'
  obtain ⟨h1, h2, h3, l1, l5, lm', hds, hms⟩ := okL_t hok
  have hpr := isFld_r h3
  have HF := Lib.hid (show rtM x = (matF x.d.length (rtF x), true) by rw [rtM, if_pos hok])
  have H1 := Lib.hid h1
  have H2 := Lib.hid h2
  have H3 := Lib.hid h3
  have HDS := Lib.hid hds
  have HMS := Lib.hid hms
  have HDA := Lib.hid (dN_all hok)
  have HM := Lib.hid hm
  have HD := Lib.hid hd
  have LM := Lib.hid lm'
  have SZ := Lib.hid sz
  clear h1 h2 h3 hds hms hok hq hm hd lm lm'
  obtain ⟨bd, od, ed, hbd⟩ : ∃ b o, E = some ⟨b, o, none⟩ ∧ b < w0.heap.size := by
    obtain ⟨b, o, _, h1, h2, _⟩ := SlI.at_ (k := 0) HD.out (by omega)
    exact ⟨b, o, h1, h2⟩
  subst ed
  clear sz
  have c0 := kB.cell' (i := 0) rfl
  have c1 := kB.cell' (i := 1) rfl
  have c2 := kB.cell' (i := 2) rfl
  have c3 := kB.cell' (i := 3) rfl
  have c4 := kB.cell' (i := 4) rfl
  have c5 := kB.cell' (i := 5) rfl
  rw [hW] at c0 c1 c2 c3 c4 c5
  go_enter Try.func53, Try.ntmps53
  go_wp2_with fail
  rw [← hW]; clear hW
  refine (specIsRep_any _ x _ HXR.out).mono ?_; rintro e w1 ⟨rfl, hb1⟩
  rw [H1.out]
  have g1 := bthen g0 hb1
  have o1 := (oW.below hb1).wider (Nat.le_refl _) hb1.size
  have kB1 := kB.call hb1
  have HQ2 := Lib.hid (QvR.next hb1 HQ1.out)
  clear c0 c1 c2 c3 c4 c5 hb1 kB g0 oW
  have c0 := kB1.cell' (i := 0) rfl
  have c1 := kB1.cell' (i := 1) rfl
  have c2 := kB1.cell' (i := 2) rfl
  have c3 := kB1.cell' (i := 3) rfl
  have c4 := kB1.cell' (i := 4) rfl
  have c5 := kB1.cell' (i := 5) rfl
  go_wp2_with fail
  refine (specIsLine_any _ x.q _ HQ2.out).mono ?_; rintro e w2 ⟨rfl, hb2⟩
  rw [H2.out]
  have g2 := bthen g1 hb2
  have kB2 := kB1.call hb2
  have o2 := (o1.below hb2).wider (Nat.le_refl _) hb2.size
  have s2 : w0.heap.size + 1 ≤ w2.heap.size := by have := kB2.lt; omega
  clear c0 c1 c2 c3 c4 c5 hb2 kB1 g1 o1
  go_wp2
  go_loopw [4, 5] (fun ov i wr => ∃ v : Nat, v ≤ x.d.length ∧ i = .int .i64 v ∧ Below (w0.heap.size + 1) w2 wr ∧ IntssO wr (w0.heap.size + 1) wr.heap.size ov (rtS x.d.length (rtF x) v)) (fun _ i _ => x.d.length - (intOf i).toNat)
  case atStart => exact ⟨0, Nat.zero_le _, rfl, Below.refl _ _, o2⟩
  case round =>
    clear o2
    obtain ⟨v, hv, rfl, hbel, hO⟩ := hrel
    obtain ⟨OA, oc, eo, hoc, hoc2, _⟩ := hO.form2
    rw [rtS_length] at eo hoc
    subst eo
    have ws := hbel.size
    have kBr := kB2.below hbel (by omega)
    have gw := g2.trans (hbel.mono (by omega))
    by_cases hlt : v < x.d.length
    · obtain ⟨bd', od', D0, ed, hbd', HX, x1, _⟩ := SlI.at_ (k := v) HD.out hlt
      injection ed with ed
      injection ed with ed1 ed2
      subst ed1 ed2
      have hx := HX.out
      rw [(HDS.out v hlt).1] at hx
      injection hx with hx
      subst hx
      have hDv := HDA.out v
      obtain ⟨X, hX⟩ : ∃ u, u = wr.alloc (.cells (mkCells (.int .i64 0) x.d.length) 3) := ⟨_, rfl⟩
      have hmkX := run_mkI wr (n := x.d.length) (by omega)
      rw [← hX] at hmkX
      have bX : Below wr.heap.size wr X := by rw [hX]; exact below_alloc _ _
      have rX : IntsO X wr.heap.size X.heap.size (.slice (some ⟨wr.heap.size, 0, none⟩) x.d.length x.d.length) (rtR x.d.length (rtF x) v v) := by
        rw [hX, ← rtR_low (rtF x) fun w hw => rtF_low x hw]
        exact IntsO.of_own (OwnI.made0 (Nat.le_refl _) (by omega))
      have sX : X.heap.size = wr.heap.size + 1 := by rw [hX]; simp
      have hOX := hO.below bX
      have x2 := bcell (gw.trans (bX.mono (by omega))) hbd x1
      have p4 := kBr.cell' (i := 4) rfl
      have kBX := kBr.call bX
      have c4 := kBX.cell' (i := 4) rfl
      have BX := Lib.hid (hbel.trans (bX.mono (by omega)))
      obtain ⟨G, hG⟩ : ∃ z, z = wr.heap.size := ⟨_, rfl⟩
      clear hO hbel HX x1 bX hX
      go_wp2_with fail
      rw [← hG] at rX sX hOX ⊢
      have hG2 : w0.heap.size + 1 ≤ G := by omega
      clear hmkX p4 c4 x2 hG
      refine (l3Identity_any (dN x v) _ (by omega)).mono ?_; rintro e w4 ⟨m4, rfl, hI, hb4⟩
      obtain ⟨MA, mc, em⟩ := hI.form
      subst em
      simp only [mxF, flat_length] at hI ⊢
      obtain ⟨MN, hMN⟩ : ∃ z, dN x v * dN x v = z := ⟨_, rfl⟩
      rw [hMN] at hI ⊢
      obtain ⟨s4, es, oI, _, _⟩ := hI
      simp only [Value.agg.injEq, Array.mk.injEq, List.cons.injEq, and_true, true_and] at es
      subst es
      obtain ⟨w5, hw5⟩ : ∃ u, u = w4.alloc (.cells #[.int .i64 (dN x v), .int .i64 (dN x v), .slice MA MN mc] 75) := ⟨_, rfl⟩
      have b5 : Below w4.heap.size w4 w5 := by rw [hw5]; exact below_alloc _ _
      have k5 : Blk w5 w4.heap.size 75 #[.int .i64 (dN x v), .int .i64 (dN x v), .slice MA MN mc] := by rw [hw5]; exact Blk.new _ _ _
      have b45 := bthen hb4 b5
      have s45 := b45.size
      have s4 := hb4.size
      have s5 : w5.heap.size = w4.heap.size + 1 := by rw [hw5]; simp
      have oI5 : IntsO w5 X.heap.size w4.heap.size (.slice MA MN mc) (flat (dN x (v + (0 - 1))) (dN x v) (pdF x v (0 - 1))) := by
        have := oI.below b5
        exact this
      have hO5 := hOX.below b45
      have B5 := BX.out.trans (b45.mono (by omega))
      have r5 := rX.below b45
      clear oI b5 hb4 hMN b45 hOX rX
      go_wp2
      rw [← hw5]; clear hw5
      go_loopw [8] (fun i wr => ∃ (n NN K : Nat) (MA : Option Addr) (mc : Nat), v + n ≤ x.d.length ∧ i = .int .i64 (K : Int) ∧ Hid (K = v + n) ∧ Below (w0.heap.size + 1) w2 wr ∧ w5.heap.size ≤ wr.heap.size ∧ IntssO wr (w0.heap.size + 1) G (.slice OA v oc) (rtS x.d.length (rtF x) v) ∧
        IntsO wr G (G + 1) (.slice (some ⟨G, 0, none⟩) x.d.length x.d.length) (rtR x.d.length (rtF x) v K) ∧
        Blk wr w4.heap.size 75 #[.int .i64 (dN x (v + (n - 1))), .int .i64 (dN x v), .slice MA NN mc] ∧ IntsO wr X.heap.size wr.heap.size (.slice MA NN mc) (flat (dN x (v + (n - 1))) (dN x v) (pdF x v (n - 1)))) (fun i _ => x.d.length - (intOf i).toNat)
      case atStart => exact ⟨0, MN, v, MA, mc, by omega, rfl, rfl, B5, Nat.le_refl _, hO5, r5.wider (Nat.le_refl _) (by omega), k5, oI5.wider (Nat.le_refl _) (by omega)⟩
      case round =>
        clear hO5 r5 k5 oI5 B5 ws kBr gw kBX
        obtain ⟨n, NN, K, MA, mc, hn, rfl, HK, hbel, hs, hO, hR, k5, oM⟩ := hrel
        have kBr := kB2.below hbel (by omega)
        have gw := g2.trans (hbel.mono (by omega))
        have k4 := kBr.cell' (i := 4) rfl
        have hK1 : K ≤ v + n := Nat.le_of_eq HK.out
        have hK2 : v + n ≤ K := Nat.le_of_eq HK.out.symm
        by_cases hlw : K < x.d.length
        · obtain ⟨y, hy⟩ : ∃ y, y = x := ⟨_, rfl⟩
          subst hy
          obtain ⟨D0, hD0⟩ : ∃ z, dN y v = z := ⟨_, rfl⟩
          obtain ⟨D2, hD2⟩ : ∃ z, dN y (v + n) = z := ⟨_, rfl⟩
          have hrt : rtF y v K = (rkF y.p D2 D0 (pdF y v n) : Int) := by
            rw [rtF, if_neg (by omega), show K - v = n by omega, show K = v + n by omega, hD2, hD0]
          have inP1 := pdF_inF H3.out v n
          have hd0 := HDA.out v
          have hd2 := HDA.out (v + n)
          rw [hD0] at hd0 inP1 oM k5
          rw [hD2] at hd2 inP1
          have HRT := Lib.hid hrt
          have HINP1 := Lib.hid inP1
          have HD2 := Lib.hid hD2
          have HD0 := Lib.hid hD0
          clear hrt inP1 hD2 hD0
          rcases n with _ | n
          · have hnv : ¬ v < K := by omega
            have e0 : D2 = dN y (v + (0 - 1)) := HD2.out.symm
            rw [← e0] at k5 oM
            have HROW := Lib.hid hR
            have HOUT := Lib.hid hO
            have HBY := Lib.hid hbel
            have ONY := Lib.hid oM
            have kBY := kBr
            have kY := k5
            clear hR hO hbel oM k5 kBr e0 gw
            have hRKL := rkF_le y.p D2 D0 (pdF y v 0)
            obtain ⟨rk, hrk⟩ : ∃ z, rkF y.p D2 D0 (pdF y v 0) = z := ⟨_, rfl⟩
            rw [hrk] at hRKL
            have HRK := Lib.hid hrk
            have HHR := Lib.hid (show rtF y v K = (rk : Int) by rw [HRT.out, hrk])
            have hM := ONY.out.rd
            have HMM : Hid (MxR wr wr.heap.size (.agg #[.int .i64 D2, .int .i64 D0, .slice MA NN mc]) (mxF D2 D0 (pdF y v 0))) := ⟨_, rfl, hM, by constructor <;> simp [mxF] <;> omega, by constructor <;> simp [mxF] <;> omega⟩
            clear hM hrk
            have q0 := kY.cell' (i := 0) rfl
            have q1 := kY.cell' (i := 1) rfl
            have q2 := kY.cell' (i := 2) rfl
            have p0 := kBY.cell' (i := 0) rfl
            go_wp2_with fail
            refine (rankOf_yes y.p _ D2 D0 (pdF y v 0) _ H3.out (by omega) (by omega) HMM.out HINP1.out).mono ?_; rintro e w6 ⟨rfl, hb6⟩
            rw [HRK.out]
            have hws6 := hb6.size
            have hR6 := HROW.out.below hb6
            have y3 := (hR6.1.cellG (j := K) (by rw [rtR, rowF_length]; exact hlw)).1
            have y4 := hR6.1.frozenG K
            have pt := hR6.put (j := K) (x := (rk : Int)) (by constructor <;> omega)
            rw [← HHR.out, rtR_set, HHR.out] at pt
            have hc3 : Chg G (G + 1) w6 (w6.setCell ⟨G, K, none⟩ (.int .i64 (rk : Int))) := chg_set (Nat.le_refl _) (Nat.lt_succ_self _)
            have kY2 := (kY.call hb6).chg hc3 (.inr (by omega))
            have oN2 := (ONY.out.below hb6).chg hc3 (.inr (by omega))
            have oO2 := (HOUT.out.below hb6).chg hc3 (.inl (by omega))
            have bY2 := (HBY.out.trans (hb6.mono (by omega))).trans (hc3.below (by omega) (by omega))
            have PT := Lib.hid pt
            have HK2 := Lib.hid kY2
            have HON2 := Lib.hid oN2
            have HOO2 := Lib.hid oO2
            have HB2 := Lib.hid bY2
            clear pt hc3 kY2 oN2 oO2 bY2 hR6 hb6 kBY kY
            go_wp2
            go_roundw
            case rel => exact ⟨0 + 1, NN, K + 1, MA, mc, by omega, by go_num, (by show K + 1 = v + (0 + 1); omega), HB2.out, by simp; omega, HOO2.out, PT.out, by show Blk _ _ _ #[.int .i64 (dN y (v + 0)), _, _]; rw [HD2.out, HD0.out]; exact HK2.out, by show IntsO _ _ _ _ (flat (dN y (v + 0)) _ (pdF y v 0)); rw [HD2.out, HD0.out]; exact HON2.out.wider (by omega) (by simp; omega)⟩
            case measure => simp [intOf]; omega
          · replace oM : IntsO wr X.heap.size wr.heap.size (.slice MA NN mc) (flat (dN y (v + n)) D0 (pdF y v n)) := oM
            replace k5 : Blk wr w4.heap.size 75 #[.int .i64 (dN y (v + n)), .int .i64 D0, .slice MA NN mc] := k5
            obtain ⟨J, hJ⟩ : ∃ z, z = v + n := ⟨_, rfl⟩
            have hJ1 : J + 1 ≤ K := by omega
            have hJ2 : K ≤ J + 1 := by omega
            have hvK : v < K := by omega
            obtain ⟨hm1, hm2⟩ := HMS.out (v + n) (by omega)
            have hml : v + n < y.m.length := by have := LM.out; omega
            obtain ⟨bm, om, m1, A1, c1', eH, hbm, HM1, z0, z1, z2, hs1, i1, i2, _⟩ := SlM.at_ (k := v + n) HM.out hml
            subst eH
            have em1 := HM1.out
            rw [hm1] at em1
            injection em1 with em1
            subst em1
            have hMB : MxR w0 w0.heap.size (.agg #[.int .i64 (dN y (v + n + 1)), .int .i64 (dN y (v + n)), .slice A1 (flat (dN y (v + n + 1)) (dN y (v + n)) (mpF y (v + n))).length c1']) (mxF (dN y (v + n + 1)) (dN y (v + n)) (mpF y (v + n))) := ⟨_, rfl, hs1, i1, i2⟩
            simp only [mxF, flat_length] at hMB z0 z1 z2
            obtain ⟨ML, hML⟩ : ∃ z, dN y (v + n + 1) * dN y (v + n) = z := ⟨_, rfl⟩
            rw [hML] at hMB z2
            obtain ⟨D1, hD1⟩ : ∃ z, dN y (v + n) = z := ⟨_, rfl⟩
            have hD2 : dN y (v + n + 1) = D2 := HD2.out
            have hp1 : pdF y v (n + 1) = muP y.p D1 (mpF y (v + n)) (pdF y v n) := by rw [pdF, hD1]
            have inP := pdF_inF H3.out v n
            have hd1 := HDA.out (v + n)
            rw [HD0.out] at inP
            rw [hD1] at oM k5 hd1 inP hm2 hMB z1
            rw [hD2] at hm2 hMB z0
            rw [← hJ] at z0 z1 z2
            have HJ := Lib.hid hJ
            have hJm : J < y.m.length := by omega
            have HP1 := Lib.hid hp1
            have HMB := Lib.hid hMB
            have HIN1 := Lib.hid hm2
            have HINP := Lib.hid inP
            have HOM := Lib.hid oM
            have HBEL := Lib.hid hbel
            have HOO := Lib.hid hO
            have HRR := Lib.hid hR
            have HGW := Lib.hid gw
            have gws := gw.size
            clear hm1 hm2 hml hs1 i1 i2 HM1 hMB hML hD1 hD2 inP hp1 oM hbel hO hR gw hJ
            go_wp2
            clear k4
            refine wp_region_net (by kernel_rfl) [.eq (.pointer (some ⟨w0.heap.size, 0, none⟩)), .eq (.int .i64 y.p), .eq (.pointer (some ⟨w0.heap.size, 5, none⟩)), .eq (.slice (some ⟨bm, om, none⟩) y.m.length h), .eq (.int .i64 (K : Int)), .eq (.int .i64 (J : Int)), .eq (.pointer (some ⟨bm, om + J * 3, none⟩)), .eq (.agg #[.int .i64 D2, .int .i64 D1, .slice A1 ML c1']), .eq (.agg #[.int .i64 D1, .int .i64 D0, .slice MA NN mc]), rel 9 (fun u lo hi w => MxO w lo hi u (mxF D2 D0 (muP y.p D1 (mpF y (v + n)) (pdF y v n))))] [[], [0], [], [2], [], [4], [2, 3, 4, 5], [2, 3, 4, 5, 6], [], [0, 1, 2, 3, 4, 5, 6, 7, 8], [0, 1, 2, 3, 4, 5, 6, 7, 8, 9]] 10 (by kernel_rfl) ⟨trivial, trivial, trivial, trivial, trivial, trivial, trivial, trivial, trivial, rel_stable (fun u lo hi w w' h hb => h.below hb), trivial⟩ ⟨?_, ?_, ?_, ?_, ?_, ?_, ?_, ?_, ?_, ?_, trivial⟩ ?_
            · intro x w hb hk Q' hQ
              clear hk
              simp only [netAct, dstAt, List.getElem?_toArray, List.getElem?_cons_zero, List.getElem?_cons_succ, Option.bind_some, Act.put, List.setIfInBounds_toArray, List.set_cons_zero, List.set_cons_succ] at hQ ⊢
              go_wp2
              exact hQ (.pointer (some ⟨w0.heap.size, 0, none⟩)) _ (Below.refl _ _) rfl
            · intro x w hb hk Q' hQ
              have h0 : x.v 0 = .pointer (some ⟨w0.heap.size, 0, none⟩) := (hk 0 (by decide)).1
              clear hk
              simp only [netAct, dstAt, List.getElem?_toArray, List.getElem?_cons_zero, List.getElem?_cons_succ, Option.bind_some, Act.put, List.setIfInBounds_toArray, List.set_cons_zero, List.set_cons_succ] at hQ ⊢
              simp only [h0] at hQ ⊢
              clear h0
              have q0 := (kBr.call hb).cell' (i := 0) rfl
              go_wp2
              exact hQ (.int .i64 y.p) _ (Below.refl _ _) rfl
            · intro x w hb hk Q' hQ
              clear hk
              simp only [netAct, dstAt, List.getElem?_toArray, List.getElem?_cons_zero, List.getElem?_cons_succ, Option.bind_some, Act.put, List.setIfInBounds_toArray, List.set_cons_zero, List.set_cons_succ] at hQ ⊢
              go_wp2
              exact hQ (.pointer (some ⟨w0.heap.size, 5, none⟩)) _ (Below.refl _ _) rfl
            · intro x w hb hk Q' hQ
              have h2 : x.v 2 = .pointer (some ⟨w0.heap.size, 5, none⟩) := (hk 2 (by decide)).1
              clear hk
              simp only [netAct, dstAt, List.getElem?_toArray, List.getElem?_cons_zero, List.getElem?_cons_succ, Option.bind_some, Act.put, List.setIfInBounds_toArray, List.set_cons_zero, List.set_cons_succ] at hQ ⊢
              simp only [h2] at hQ ⊢
              clear h2
              have q0 := (kBr.call hb).cell' (i := 5) rfl
              go_wp2
              exact hQ (.slice (some ⟨bm, om, none⟩) y.m.length h) _ (Below.refl _ _) rfl
            · intro x w hb hk Q' hQ
              clear hk
              simp only [netAct, dstAt, List.getElem?_toArray, List.getElem?_cons_zero, List.getElem?_cons_succ, Option.bind_some, Act.put, List.setIfInBounds_toArray, List.set_cons_zero, List.set_cons_succ] at hQ ⊢
              go_wp2
              exact hQ (.int .i64 (K : Int)) _ (Below.refl _ _) rfl
            · intro x w hb hk Q' hQ
              have h4 : x.v 4 = .int .i64 (K : Int) := (hk 4 (by decide)).1
              clear hk
              simp only [netAct, dstAt, List.getElem?_toArray, List.getElem?_cons_zero, List.getElem?_cons_succ, Option.bind_some, Act.put, List.setIfInBounds_toArray, List.set_cons_zero, List.set_cons_succ] at hQ ⊢
              simp only [h4] at hQ ⊢
              clear h4
              go_wp2
              rw [show (K : Int) - 1 = (J : Int) by omega]
              exact hQ (.int .i64 (J : Int)) _ (Below.refl _ _) rfl
            · intro x w hb hk Q' hQ
              have h3 : x.v 3 = .slice (some ⟨bm, om, none⟩) y.m.length h := (hk 3 (by decide)).1
              have h5 : x.v 5 = .int .i64 (J : Int) := (hk 5 (by decide)).1
              clear hk
              simp only [netAct, dstAt, List.getElem?_toArray, List.getElem?_cons_zero, List.getElem?_cons_succ, Option.bind_some, Act.put, List.setIfInBounds_toArray, List.set_cons_zero, List.set_cons_succ] at hQ ⊢
              simp only [h3, h5] at hQ ⊢
              clear h3 h5
              go_wp2
              exact hQ (.pointer (some ⟨bm, om + J * 3, none⟩)) _ (Below.refl _ _) rfl
            · intro x w hb hk Q' hQ
              have h6 : x.v 6 = .pointer (some ⟨bm, om + J * 3, none⟩) := (hk 6 (by decide)).1
              clear hk
              simp only [netAct, dstAt, List.getElem?_toArray, List.getElem?_cons_zero, List.getElem?_cons_succ, Option.bind_some, Act.put, List.setIfInBounds_toArray, List.set_cons_zero, List.set_cons_succ] at hQ ⊢
              simp only [h6] at hQ ⊢
              clear h6
              have gq := (HGW.out).trans (hb.mono (HGW.out).size)
              have q0 := bcell gq hbm z0
              have q1 := bcell gq hbm z1
              have q2 := bcell gq hbm z2
              go_wp2
              exact hQ (.agg #[.int .i64 D2, .int .i64 D1, .slice A1 ML c1']) _ (Below.refl _ _) rfl
            · intro x w hb hk Q' hQ
              clear hk
              simp only [netAct, dstAt, List.getElem?_toArray, List.getElem?_cons_zero, List.getElem?_cons_succ, Option.bind_some, Act.put, List.setIfInBounds_toArray, List.set_cons_zero, List.set_cons_succ] at hQ ⊢
              have kq := k5.call hb
              have q0 := kq.cell' (i := 0) rfl
              have q1 := kq.cell' (i := 1) rfl
              have q2 := kq.cell' (i := 2) rfl
              go_wp2
              exact hQ (.agg #[.int .i64 D1, .int .i64 D0, .slice MA NN mc]) _ (Below.refl _ _) rfl
            · intro x w hb hk Q' hQ
              have h0 : x.v 0 = .pointer (some ⟨w0.heap.size, 0, none⟩) := (hk 0 (by decide)).1
              have h1 : x.v 1 = .int .i64 y.p := (hk 1 (by decide)).1
              have h2 : x.v 2 = .pointer (some ⟨w0.heap.size, 5, none⟩) := (hk 2 (by decide)).1
              have h3 : x.v 3 = .slice (some ⟨bm, om, none⟩) y.m.length h := (hk 3 (by decide)).1
              have h4 : x.v 4 = .int .i64 (K : Int) := (hk 4 (by decide)).1
              have h5 : x.v 5 = .int .i64 (J : Int) := (hk 5 (by decide)).1
              have h6 : x.v 6 = .pointer (some ⟨bm, om + J * 3, none⟩) := (hk 6 (by decide)).1
              have h7 : x.v 7 = .agg #[.int .i64 D2, .int .i64 D1, .slice A1 ML c1'] := (hk 7 (by decide)).1
              have h8 : x.v 8 = .agg #[.int .i64 D1, .int .i64 D0, .slice MA NN mc] := (hk 8 (by decide)).1
              clear hk
              simp only [netAct, dstAt, List.getElem?_toArray, List.getElem?_cons_zero, List.getElem?_cons_succ, Option.bind_some, Act.put, List.setIfInBounds_toArray, List.set_cons_zero, List.set_cons_succ] at hQ ⊢
              simp only [h0, h1, h2, h3, h4, h5, h6, h7, h8] at hQ ⊢
              clear h0 h1 h2 h3 h4 h5 h6 h7 h8
              have gq := (HGW.out).trans (hb.mono (HGW.out).size)
              have HMR := Lib.hid (MxR.more gq.size (MxR.below gq HMB.out))
              have hM := (HOM.out.below hb).rd
              have HMM : Hid (MxR w w.heap.size (.agg #[.int .i64 D1, .int .i64 D0, .slice MA NN mc]) (mxF D1 D0 (pdF y v n))) := ⟨_, rfl, hM, by constructor <;> simp [mxF] <;> omega, by constructor <;> simp [mxF] <;> omega⟩
              clear gq hM
              go_wp2_with fail
              refine (l3Multiply_any y.p _ _ D2 D1 D0 _ _ _ hpr (by omega) (by omega) (by omega) HMR.out HMM.out HIN1.out HINP.out).mono ?_; rintro e w6 ⟨m6, rfl, hM6, hb6⟩
              go_wp2
              exact hQ _ _ hb6 hM6
            · intro x w hb hk hiv hdj
              have h0 : x.v 0 = .pointer (some ⟨w0.heap.size, 0, none⟩) := hk 0 (by decide)
              have h1 : x.v 1 = .int .i64 y.p := hk 1 (by decide)
              have h2 : x.v 2 = .pointer (some ⟨w0.heap.size, 5, none⟩) := hk 2 (by decide)
              have h3 : x.v 3 = .slice (some ⟨bm, om, none⟩) y.m.length h := hk 3 (by decide)
              have h4 : x.v 4 = .int .i64 (K : Int) := hk 4 (by decide)
              have h5 : x.v 5 = .int .i64 (J : Int) := hk 5 (by decide)
              have h6 : x.v 6 = .pointer (some ⟨bm, om + J * 3, none⟩) := hk 6 (by decide)
              have h7 : x.v 7 = .agg #[.int .i64 D2, .int .i64 D1, .slice A1 ML c1'] := hk 7 (by decide)
              have h8 : x.v 8 = .agg #[.int .i64 D1, .int .i64 D0, .slice MA NN mc] := hk 8 (by decide)
              have h9 : MxO w (x.lo 9) (x.hi 9) (x.v 9) (mxF D2 D0 (muP y.p D1 (mpF y (v + n)) (pdF y v n))) := hk 9 (by decide)
              clear hk
              simp only [netAct, dstAt, List.getElem?_toArray, List.getElem?_cons_zero, List.getElem?_cons_succ, Option.bind_some, Act.put, List.setIfInBounds_toArray, List.set_cons_zero, List.set_cons_succ]
              simp only [List.drop_succ_cons, List.drop_zero, h0, h1, h2, h3, h4, h5, h6, h7, h8]
              clear h0 h1 h2 h3 h4 h5 h6 h7 h8
              obtain ⟨i9a, i9b, i9c⟩ := hiv 9 (by decide)
              obtain ⟨MB, mb, e9⟩ := h9.form
              have h9' := h9
              rw [e9] at h9' ⊢
              simp only [mxF, flat_length] at h9' ⊢
              obtain ⟨MS, hMS⟩ : ∃ z, D2 * D0 = z := ⟨_, rfl⟩
              rw [hMS] at h9' ⊢
              obtain ⟨sq, eq, oN, _, _⟩ := h9'
              simp only [Value.agg.injEq, Array.mk.injEq, List.cons.injEq, and_true, true_and] at eq
              subst eq
              have kq := k5.call hb
              have q0 := kq.cell' (i := 0) rfl
              have q1 := kq.cell' (i := 1) rfl
              have q2 := kq.cell' (i := 2) rfl
              have qf := kq.frozen
              have hws := hb.size
              have hc := chg3 w w4.heap.size (.int .i64 D2) (.int .i64 D0) (.slice MB MS mb)
              obtain ⟨Y, hY⟩ : ∃ u, u = ((w.setCell ⟨w4.heap.size, 0, none⟩ (.int .i64 D2)).setCell ⟨w4.heap.size, 1, none⟩ (.int .i64 D0)).setCell ⟨w4.heap.size, 2, none⟩ (.slice MB MS mb) := ⟨_, rfl⟩
              rw [← hY] at hc
              have kY : Blk Y w4.heap.size 75 #[.int .i64 D2, .int .i64 D0, .slice MB MS mb] := by
                rw [hY]
                exact ((kq.set_ 0 (.int .i64 D2)).set_ 1 (.int .i64 D0)).set_ 2 (.slice MB MS mb)
              have HOUT := Lib.hid ((HOO.out.below hb).chg hc (.inl (by omega)))
              have HROW := Lib.hid ((HRR.out.below hb).chg hc (.inl (by omega)))
              have hbY := (HBEL.out.trans (hb.mono (by omega))).trans (hc.below (by omega) (by omega))
              have ONY := Lib.hid ((oN.chg hc (.inr (by omega))).wider (lo' := X.heap.size) (hi' := w.heap.size) (by omega) (by omega))
              have hsY : Y.heap.size = w.heap.size := by rw [hY]; simp
              have HSY := Lib.hid hsY
              have hsY1 : w.heap.size ≤ Y.heap.size := Nat.le_of_eq HSY.out.symm
              have kBY := kB2.below hbY (by omega)
              have HBY := Lib.hid hbY
              rw [← HP1.out] at ONY
              clear hMS h9 e9 oN hc hiv hdj kq hb k5 hbY hsY
              have y0 := kY.cell' (i := 0) rfl
              have y1 := kY.cell' (i := 1) rfl
              have y2 := kY.cell' (i := 2) rfl
              have y3 := kBY.cell' (i := 0) rfl
              rw [hY] at y0 y1 y2 y3
              go_wp2_with fail
              rw [← hY]
              clear hY q0 q1 q2 qf y0 y1 y2 y3
              have hRKL := rkF_le y.p D2 D0 (pdF y v (n + 1))
              obtain ⟨rk, hrk⟩ : ∃ z, rkF y.p D2 D0 (pdF y v (n + 1)) = z := ⟨_, rfl⟩
              rw [hrk] at hRKL
              have HRK := Lib.hid hrk
              have HHR := Lib.hid (show rtF y v K = (rk : Int) by rw [HRT.out, hrk])
              have hM := ONY.out.rd
              have HMM : Hid (MxR Y Y.heap.size (.agg #[.int .i64 D2, .int .i64 D0, .slice MB MS mb]) (mxF D2 D0 (pdF y v (n + 1)))) := ⟨_, rfl, hM, by constructor <;> simp [mxF] <;> omega, by constructor <;> simp [mxF] <;> omega⟩
              clear hM hrk
              refine (rankOf_yes y.p _ D2 D0 (pdF y v (n + 1)) _ H3.out (by omega) (by omega) HMM.out HINP1.out).mono ?_; rintro e w6 ⟨rfl, hb6⟩
              rw [HRK.out]
              have hws6 := hb6.size
              have hR6 := HROW.out.below hb6
              have y3 := (hR6.1.cellG (j := K) (by rw [rtR, rowF_length]; exact hlw)).1
              have y4 := hR6.1.frozenG K
              have pt := hR6.put (j := K) (x := (rk : Int)) (by constructor <;> omega)
              rw [← HHR.out, rtR_set, HHR.out] at pt
              have hc3 : Chg G (G + 1) w6 (w6.setCell ⟨G, K, none⟩ (.int .i64 (rk : Int))) := chg_set (Nat.le_refl _) (Nat.lt_succ_self _)
              have kY2 := (kY.call hb6).chg hc3 (.inr (by omega))
              have oN2 := (ONY.out.below hb6).chg hc3 (.inr (by omega))
              have oO2 := (HOUT.out.below hb6).chg hc3 (.inl (by omega))
              have bY2 := (HBY.out.trans (hb6.mono (by omega))).trans (hc3.below (by omega) (by omega))
              have PT := Lib.hid pt
              have HK2 := Lib.hid kY2
              have HON2 := Lib.hid oN2
              have HOO2 := Lib.hid oO2
              have HB2 := Lib.hid bY2
              clear pt hc3 kY2 oN2 oO2 bY2 hR6 hb6 kBY kY
              go_wp2
              go_roundw
              case rel => exact ⟨(n + 1) + 1, MS, K + 1, MB, mb, by omega, by go_num, (by show K + 1 = v + ((n + 1) + 1); omega), HB2.out, by simp; omega, HOO2.out, PT.out, by show Blk _ _ _ #[.int .i64 (dN y (v + (n + 1))), _, _]; rw [HD2.out, HD0.out]; exact HK2.out, by show IntsO _ _ _ _ (flat (dN y (v + (n + 1))) _ (pdF y v (n + 1))); rw [HD2.out, HD0.out]; exact HON2.out.wider (by omega) (by simp; omega)⟩
              case measure => simp [intOf]; omega
        · have hKL : K = x.d.length := by omega
          rw [hKL, rtR_end] at hR
          obtain ⟨u, hu, Z, hZ⟩ : ∃ u, u = wr.heap.size ∧ ∃ Z, Z = wr.alloc (.cells #[.slice (some ⟨G, 0, none⟩) x.d.length x.d.length] 22) := ⟨_, rfl, _, rfl⟩
          have bZ : Below wr.heap.size wr Z := by rw [hZ]; exact below_alloc _ _
          have kZ : Blk Z u 22 #[.slice (some ⟨G, 0, none⟩) x.d.length x.d.length] := by rw [hZ, hu]; exact Blk.new _ _ _
          have hOZ := hO.below bZ
          have hRZ := hR.below bZ
          have hBZ := hbel.trans (bZ.mono (by omega))
          have sZ := bZ.size
          have HOZ := Lib.hid hOZ
          have HRZ := Lib.hid hRZ
          have HBZ := Lib.hid hBZ
          have c0 := kZ.cell' (i := 0) rfl
          have C0 := Lib.hid c0
          have HU := Lib.hid hu
          have HKL := Lib.hid hKL
          clear hO hR hbel bZ hOZ hRZ hBZ kZ c0 hu hKL k5 oM kBr gw
          (go_wp2_with (at_builtin; refine Hold.stop ?_)); unfold Hold
          rw [← HU.out, ← hZ]
          clear hZ
          refine wpList_appR rfl (.tmp 65) (.tmp 67) rfl (w0.heap.size + 1) G G (G + 1) (.slice OA v oc) (rtS x.d.length (rtF x) v) (rowF x.d.length (rtF x v)) rfl HOZ.out _ _ (.slice (some ⟨G, 0, none⟩) x.d.length x.d.length) rfl ⟨u, 0, rfl, C0.out⟩ HRZ.out (Nat.le_refl _) (by omega) (by omega) (by rw [rtS_length]; omega) (by omega) (by omega) ?_
          intro v9 w9 ho9 hb9 _
          rw [← rtS_succ] at ho9
          have HO9 := Lib.hid ho9
          have HB9 := Lib.hid (HBZ.out.trans hb9)
          clear ho9 hb9
          go_wp2
          go_roundw
          case rel => exact ⟨v + 1, by omega, by go_num, HB9.out, HO9.out⟩
          case measure => simp [intOf]; omega
    · have hvL : v = x.d.length := by omega
      have e1 : rtS x.d.length (rtF x) v = matF x.d.length (rtF x) := by rw [hvL]; rfl
      rw [e1] at hO
      have HO := Lib.hid (hO.wider (show w0.heap.size ≤ w0.heap.size + 1 by omega) (Nat.le_refl _))
      have HG := Lib.hid gw
      have c4 := kBr.cell' (i := 4) rfl
      clear hO hbel hvL e1 gw
      go_wp2
      go_ret2
      exact ⟨.slice OA v oc, by rw [HF.out]; rfl, by rw [HF.out]; exact HO.out, HG.out⟩
theorem specRankTable_any (u : Value) (x : Rp) (w0 : World) (hu : RpR w0 w0.heap.size u x) :
    Calls Try.prog 53 #[u] w0 fun e w' => ∃ v, e = .returned (.tuple #[v, .bool (rtM x).2]) ∧ IntssO w' w0.heap.size w'.heap.size v (rtM x).1 ∧ Below w0.heap.size w0 w' := by
  rcases h : okL x with _ | _
  · exact specRankTable_no u x w0 hu h
  · exact specRankTable_yes u x w0 hu h
end Go.Proofs.Ytjhllgldllbaaaa

/- heldIntSS: the law's look at marks in lists of lists. -/
namespace Go.Proofs.Ytjhllgldllbaaaa
set_option linter.unusedVariables false
set_option linter.unusedSimpArgs false
open Go.RowKit

def IntssO.mk (k : Int) (ll : List (List Int)) : List (List Int) := mkSS k ll
set_option maxHeartbeats 800000 in
theorem intss_held (v : Value) (ll : List (List Int)) (k : Int) (w : World) (hv : SlII w w.heap.size v (IntssO.mk k ll)) (h0 : 0 ≤ k) (h1 : k ≤ 1125899906842624) (ht : tot ll ≤ 1048576) :
    Calls Try.prog 57 #[v, .int .i64 k] w fun e w' => e = .returned (.int .i64 (k + tot ll)) ∧ Below w.heap.size w w' := by
  obtain ⟨A, c, rfl, _, _, hn, hx⟩ := hv.open_
  have HL := Lib.hid (show (IntssO.mk k ll).length = ll.length from mkSS_length ll k)
  obtain ⟨n, hnl⟩ : ∃ n, (IntssO.mk k ll).length = n := ⟨_, rfl⟩
  have HNL := Lib.hid hnl
  rw [hnl] at hn ⊢
  clear hv hnl
  go_enter Try.func57, Try.ntmps57
  go_wp2
  go_loopw [1, 5] (fun q i wr => ∃ (j : Nat), j ≤ n ∧ i = .int .i64 j ∧ q = .int .i64 (k + tot (ll.take j)) ∧ Below w.heap.size w wr) (fun _ i _ => n - (intOf i).toNat)
  case atStart => exact ⟨0, Nat.zero_le _, rfl, by simp [tot], Below.refl _ _⟩
  case round =>
    obtain ⟨j, hj, rfl, rfl, hbel⟩ := hrel
    obtain ⟨t, htt⟩ : ∃ t, tot (ll.take j) = t := ⟨_, rfl⟩
    have htle := tot_take_le ll j
    rw [htt] at htle ⊢
    by_cases hlt : j < n
    · obtain ⟨b, o, x, A', c', rfl, hb, HX, x1, hsl⟩ := SlII.at_ hx (by rw [HNL.out]; exact hlt)
      have hmj : ll[j]? = some (ll[j]'(by have := HL.out; have := HNL.out; omega)) := List.getElem?_eq_getElem _
      obtain ⟨m, hm⟩ : ∃ m, ll[j]'(by have := HL.out; have := HNL.out; omega) = m := ⟨_, rfl⟩
      rw [hm] at hmj
      clear hm
      have hx' := mkSS_get ll k j m hmj
      have hx2 := HX.out
      rw [IntssO.mk, hx', htt] at hx2
      injection hx2 with hx2
      subst hx2
      have HTS := Lib.hid (show tot (ll.take (j + 1)) = t + m.length by rw [take_snoc hmj, tot_snoc, htt])
      have htle2 := tot_take_le ll (j + 1)
      rw [HTS.out] at htle2
      have d1 := bcell hbel hb x1
      have hs := SlI.more hbel.size (SlI.below hbel hsl)
      have e3 : ¬ (k + (t : Int) + m.length < 0) := by omega
      have HM := Lib.hid hmj
      clear x1 hx hsl htt hmj hx' HX
      go_wp2_with fail
      refine (heldIntS_any _ m.length (k + t) _ _ hs (by omega) (by omega)).mono ?_; rintro e w1 ⟨rfl, hb1⟩
      go_wp2
      go_roundw
      case rel => exact ⟨j + 1, by omega, by go_num, by rw [HTS.out]; congr 1; omega, hbel.trans (hb1.mono hbel.size)⟩
      case measure => simp [intOf]; omega
    · have HE := Lib.hid (show tot ll = t by rw [← htt, List.take_of_length_le (by have := HL.out; have := HNL.out; omega)])
      clear htt
      go_wp2
      go_ret
      exact ⟨by rw [HE.out]; rfl, hbel⟩
theorem intss_mark2 (v : Value) (ll : List (List Int)) (k : Int) (lo hi : Nat) (w : World) (hv : IntssO w lo hi v ll) (h0 : 0 ≤ k) (h1 : k ≤ 1125899906842624) (ht : tot ll ≤ 1048576) :
    Calls Try.prog 56 #[v, .int .i64 k] w fun e w' => e = .returned (.int .i64 (k + tot ll)) ∧ IntssO w' lo hi v (IntssO.mk k ll) ∧ Chg lo hi w w' :=
  intss_mark v ll k lo hi w hv h0 h1 (by omega)
end Go.Proofs.Ytjhllgldllbaaaa

/- What every law goes through: copies and marks of representations. -/
namespace Go.Proofs.Ytjhllgldllbaaaa
set_option linter.unusedVariables false
set_option linter.unusedSimpArgs false
open Go.RowKit

set_option maxHeartbeats 1600000 in
theorem rep_to (u : Value) (x : Rp) (w : World) (hu : RpR w w.heap.size u x) (hn : x.size ≤ 1048576) :
    Calls Try.prog 43 #[u] w fun e w' => ∃ v, e = .returned v ∧ RepO w' w.heap.size w'.heap.size v x ∧ Below w.heap.size w w' := by
  obtain ⟨A, a, C, c, E, e, H, h, rfl, hq, hd, hm, hp, _, _⟩ := hu.open_
  have hmI : Hid (∀ m ∈ x.m, I64 m.r ∧ I64 m.c) := fun m hmm => by
    obtain ⟨j, hj⟩ := List.getElem?_of_mem hmm
    obtain ⟨_, _, m', _, _, _, _, HX, _, _, _, _, h1, h2, _⟩ := SlM.at_ hm (lt_of_some hj)
    have := HX.out
    rw [hj] at this
    injection this with this
    subst this
    exact ⟨h1, h2⟩
  have hqv : I64 x.q.v := by obtain ⟨_, _, _, _, _, _, _, h, _⟩ := hq.open_; exact h
  clear hu
  simp only [Rp.size] at hn
  obtain ⟨Wa, hWa⟩ : ∃ W, W = (w.alloc (.cells #[.int .i64 x.p, .int .i64 x.q.v, .slice A x.q.f.length a, .slice C x.q.t.length c, .slice E x.d.length e, .slice H x.m.length h] 55)).alloc (.cells #[.int .i64 0, .int .i64 0, .slice none 0 0, .slice none 0 0, .slice none 0 0, .slice none 0 0] 29) := ⟨_, rfl⟩
  obtain ⟨Wb, hWb⟩ : ∃ W, W = Wa.alloc (.cells #[.int .i64 x.p, .int .i64 0, .slice none 0 0, .slice none 0 0, .slice none 0 0, .slice none 0 0] 29) := ⟨_, rfl⟩
  have za : Wa.heap.size = w.heap.size + 1 + 1 := by rw [hWa]; simp
  have zb : Wb.heap.size = w.heap.size + 1 + 1 + 1 := by rw [hWb]; simp [za]
  have kp : Blk Wb w.heap.size 55 #[.int .i64 x.p, .int .i64 x.q.v, .slice A x.q.f.length a, .slice C x.q.t.length c, .slice E x.d.length e, .slice H x.m.length h] := by rw [hWb, hWa]; exact ((Blk.new _ _ _).alloc _).alloc _
  have kr : Blk Wb (w.heap.size + 1) 29 #[.int .i64 0, .int .i64 0, .slice none 0 0, .slice none 0 0, .slice none 0 0, .slice none 0 0] := by
    rw [hWb, hWa]
    have := (Blk.new (w.alloc (.cells #[.int .i64 x.p, .int .i64 x.q.v, .slice A x.q.f.length a, .slice C x.q.t.length c, .slice E x.d.length e, .slice H x.m.length h] 55)) 29 #[.int .i64 0, .int .i64 0, .slice none 0 0, .slice none 0 0, .slice none 0 0, .slice none 0 0]).alloc (.cells #[.int .i64 x.p, .int .i64 0, .slice none 0 0, .slice none 0 0, .slice none 0 0, .slice none 0 0] 29)
    simpa only [World.size_alloc] using this
  have ko : Blk Wb (w.heap.size + 1 + 1) 29 #[.int .i64 x.p, .int .i64 0, .slice none 0 0, .slice none 0 0, .slice none 0 0, .slice none 0 0] := by
    rw [hWb, ← za]; exact Blk.new _ _ _
  have gb : Below w.heap.size w Wb := by rw [hWb, hWa]; exact (((Below.refl _ _).alloc (Nat.le_refl _) _).alloc (by simp) _).alloc (by simp; omega) _
  have ZB := Lib.hid zb
  clear za zb
  go_enter Try.func43, Try.ntmps43
  go_wp2_with fail
  rw [← hWa, ← hWb]
  clear hWa hWb
  refine (quiv_to _ _ _ (QvR.next gb hq) (by omega)).mono ?_; rintro e w1 ⟨v1, rfl, hQ, hb1⟩
  clear hq
  have s1 := hb1.size
  replace gb := bthen gb hb1
  replace kp := kp.call hb1
  replace pc0 := kp.cell' (i := 0) rfl
  replace pc1 := kp.cell' (i := 1) rfl
  replace pc2 := kp.cell' (i := 2) rfl
  replace pc3 := kp.cell' (i := 3) rfl
  replace pc4 := kp.cell' (i := 4) rfl
  replace pc5 := kp.cell' (i := 5) rfl
  replace kr := kr.call hb1
  replace r0 := kr.cell' (i := 0) rfl
  replace r1 := kr.cell' (i := 1) rfl
  replace r2 := kr.cell' (i := 2) rfl
  replace r3 := kr.cell' (i := 3) rfl
  replace r4 := kr.cell' (i := 4) rfl
  replace r5 := kr.cell' (i := 5) rfl
  replace ko := ko.call hb1
  replace o0 := ko.cell' (i := 0) rfl
  replace o1 := ko.cell' (i := 1) rfl
  replace o2 := ko.cell' (i := 2) rfl
  replace o3 := ko.cell' (i := 3) rfl
  replace o4 := ko.cell' (i := 4) rfl
  replace o5 := ko.cell' (i := 5) rfl
  clear hb1
  obtain ⟨qa, qb, rfl, hQF, _⟩ := hQ
  have fa : OwnI w1 _ qa x.q.f := (hQF.1 (qa, x.q.f) (by simp)).1
  have fb : OwnI w1 _ qb x.q.t := (hQF.1 (qb, x.q.t) (by simp)).1
  obtain ⟨A1, a1, rfl, _, _⟩ := fa.form
  obtain ⟨C1, c1, rfl, _, _⟩ := fb.form
  clear fa fb
  have fo := ko.frozen
  go_wp2_with fail
  clear pc0 pc1 pc2 pc3 pc4 pc5 r0 r1 r2 r3 r4 r5 o0 o1 o2 o3 o4 o5 fo
  obtain ⟨Wc, hWc⟩ : ∃ W, W = ((w1.setCell ⟨w.heap.size + 1 + 1, 1, none⟩ (.int .i64 x.q.v)).setCell ⟨w.heap.size + 1 + 1, 2, none⟩ (.slice A1 x.q.f.length a1)).setCell ⟨w.heap.size + 1 + 1, 3, none⟩ (.slice C1 x.q.t.length c1) := ⟨_, rfl⟩
  have zb := ZB.out
  have hC1 : Chg (w.heap.size + 1) (w.heap.size + 1 + 1 + 1) w1 Wc := by
    rw [hWc]
    exact ((chg_set (by simp) (by simp)).trans (chg_set (by simp) (by simp))).trans (chg_set (by simp) (by simp))
  have gc : Below w.heap.size w1 Wc := hC1.below (by omega) (by omega)
  have zc : Wc.heap.size = w1.heap.size := by rw [hWc]; simp
  have kp' : Blk Wc w.heap.size 55 #[.int .i64 x.p, .int .i64 x.q.v, .slice A x.q.f.length a, .slice C x.q.t.length c, .slice E x.d.length e, .slice H x.m.length h] := kp.chg hC1 (by omega)
  have kr' : Blk Wc (w.heap.size + 1) 29 #[.int .i64 0, .int .i64 0, .slice none 0 0, .slice none 0 0, .slice none 0 0, .slice none 0 0] := by rw [hWc]; exact ((kr.far (by simp) _).far (by simp) _).far (by simp) _
  have ko' : Blk Wc (w.heap.size + 1 + 1) 29 #[.int .i64 x.p, .int .i64 x.q.v, .slice A1 x.q.f.length a1, .slice C1 x.q.t.length c1, .slice none 0 0, .slice none 0 0] := by
    rw [hWc]; exact ((ko.set_ 1 _).set_ 2 _).set_ 3 _
  have hQF1 := hQF.chg hC1 (.inr (by omega))
  replace gb : Below w.heap.size w Wc := gb.trans gc
  rw [← hWc]
  clear hWc kp kr ko hQF hC1 gc
  have p4 := kp'.cell' (i := 4) rfl
  refine (ints_to _ _ _ (SlI.next gb hd) (by omega)).mono ?_; rintro e w2 ⟨v2, rfl, hD, hb2⟩
  obtain ⟨E1, e1, rfl, _, _⟩ := hD.1.form
  have s2 := hb2.size
  replace gb := bthen gb hb2
  replace kp' := kp'.call hb2
  replace kr' := kr'.call hb2
  replace ko' := ko'.call hb2
  replace hQF1 := hQF1.below hb2
  have p5 := kp'.cell' (i := 5) rfl
  have o4 := ko'.cell' (i := 4) rfl
  have fo := ko'.frozen
  clear hb2 hd p4
  go_wp2_with fail
  clear p5 o4 fo
  obtain ⟨Wd, hWd⟩ : ∃ W, W = w2.setCell ⟨w.heap.size + 1 + 1, 4, none⟩ (.slice E1 x.d.length e1) := ⟨_, rfl⟩
  have hC2 : Chg (w.heap.size + 1) (w.heap.size + 1 + 1 + 1) w2 Wd := by
    rw [hWd]
    exact chg_set (by simp) (by simp)
  have gd : Below w.heap.size w2 Wd := hC2.below (by omega) (by omega)
  have zd : Wd.heap.size = w2.heap.size := by rw [hWd]; simp
  replace kp' : Blk Wd w.heap.size 55 _ := kp'.chg hC2 (by omega)
  replace kr' : Blk Wd (w.heap.size + 1) 29 #[.int .i64 0, .int .i64 0, .slice none 0 0, .slice none 0 0, .slice none 0 0, .slice none 0 0] := by rw [hWd]; exact kr'.far (by simp) _
  replace ko' : Blk Wd (w.heap.size + 1 + 1) 29 #[.int .i64 x.p, .int .i64 x.q.v, .slice A1 x.q.f.length a1, .slice C1 x.q.t.length c1, .slice E1 x.d.length e1, .slice none 0 0] := by
    rw [hWd]; exact ko'.set_ 4 _
  replace hQF1 := hQF1.chg hC2 (.inr (by omega))
  replace hD := hD.chg hC2 (.inr (by omega))
  replace gb : Below w.heap.size w Wd := gb.trans gd
  rw [← hWd]
  clear hWd hC2 gd
  have p5 := kp'.cell' (i := 5) rfl
  refine (mats_to _ _ _ (SlM.next gb hm) (by simp only [szM] at hn; omega) (fun m hmm => by have := totA_mem hmm; simp only [szM] at hn; simp only [Mx.size]; omega)).mono ?_; rintro e w3 ⟨v3, rfl, hM, hb3⟩
  obtain ⟨vs, hO, hvl, hFM, _⟩ := hM
  obtain ⟨H1, h1, rfl, _, _⟩ := hO.form
  have HVL := Lib.hid hvl
  have s3 := hb3.size
  replace gb := bthen gb hb3
  replace kr' := kr'.call hb3
  replace ko' := ko'.call hb3
  replace hQF1 := hQF1.below hb3
  replace hD := hD.below hb3
  have o0 := ko'.cell' (i := 0) rfl
  have o1 := ko'.cell' (i := 1) rfl
  have o2 := ko'.cell' (i := 2) rfl
  have o3 := ko'.cell' (i := 3) rfl
  have o4 := ko'.cell' (i := 4) rfl
  have o5 := ko'.cell' (i := 5) rfl
  have r0 := kr'.cell' (i := 0) rfl
  have r1 := kr'.cell' (i := 1) rfl
  have r2 := kr'.cell' (i := 2) rfl
  have r3 := kr'.cell' (i := 3) rfl
  have r4 := kr'.cell' (i := 4) rfl
  have r5 := kr'.cell' (i := 5) rfl
  have fo := ko'.frozen
  have fr := kr'.frozen
  clear hb3 hm p5 kp' hvl
  have HZC := Lib.hid zc
  have HZD := Lib.hid zd
  clear zb zc zd
  go_wp2
  have zb := ZB.out
  have zc := HZC.out
  have zd := HZD.out
  have hF : Fam w3 Wb.heap.size w3.heap.size ([(.slice A1 x.q.f.length a1, x.q.f), (.slice C1 x.q.t.length c1, x.q.t)] ++ ([(.slice E1 x.d.length e1, x.d)] ++ vs.zip (x.m.map Mx.a))) :=
    Fam.join (mi := Wc.heap.size) (hQF1.mono (Nat.le_refl _) (by omega)) (Fam.join (mi := Wd.heap.size) ((Fam.one hD).mono (Nat.le_refl _) (by omega)) hFM (by omega) (by omega)) (by omega) (by omega)
  refine bodyPost_ret (v := .agg #[.int .i64 x.p, .int .i64 x.q.v, .slice A1 x.q.f.length a1, .slice C1 x.q.t.length c1, .slice E1 x.d.length e1, .slice H1 x.m.length h1]) (by simp [results, go_sem, r0, r1, r2, r3, r4, r5]) rfl ⟨_, rfl, ⟨_, _, _, _, vs, rfl, ?_, HVL.out, ?_, ⟨hp, hqv⟩, hmI.out⟩, ((((((gb.setCell (by simp; omega) _).setCell (by simp) _).setCell (by simp) _).setCell (by simp) _).setCell (by simp) _).setCell (by simp) _).setCell (by simp) _⟩
  · have hc : Chg (w.heap.size + 1) (w.heap.size + 1 + 1 + 1) w3 _ := ((((((chg_set (w := w3) (p := ⟨w.heap.size + 1 + 1, 5, none⟩) (u := .slice H1 x.m.length h1) (by simp) (by simp)).trans (chg_set (p := ⟨w.heap.size + 1, 0, none⟩) (u := .int .i64 x.p) (by simp) (by simp))).trans (chg_set (p := ⟨w.heap.size + 1, 1, none⟩) (u := .int .i64 x.q.v) (by simp) (by simp))).trans (chg_set (p := ⟨w.heap.size + 1, 2, none⟩) (u := .slice A1 x.q.f.length a1) (by simp) (by simp))).trans (chg_set (p := ⟨w.heap.size + 1, 3, none⟩) (u := .slice C1 x.q.t.length c1) (by simp) (by simp))).trans (chg_set (p := ⟨w.heap.size + 1, 4, none⟩) (u := .slice E1 x.d.length e1) (by simp) (by simp))).trans (chg_set (p := ⟨w.heap.size + 1, 5, none⟩) (u := .slice H1 x.m.length h1) (by simp) (by simp))
    exact RowO.mono (hO.chg hc (.inr (by omega))) (by omega) (by simp)
  · have hc : Chg (w.heap.size + 1) (w.heap.size + 1 + 1 + 1) w3 _ := ((((((chg_set (w := w3) (p := ⟨w.heap.size + 1 + 1, 5, none⟩) (u := .slice H1 x.m.length h1) (by simp) (by simp)).trans (chg_set (p := ⟨w.heap.size + 1, 0, none⟩) (u := .int .i64 x.p) (by simp) (by simp))).trans (chg_set (p := ⟨w.heap.size + 1, 1, none⟩) (u := .int .i64 x.q.v) (by simp) (by simp))).trans (chg_set (p := ⟨w.heap.size + 1, 2, none⟩) (u := .slice A1 x.q.f.length a1) (by simp) (by simp))).trans (chg_set (p := ⟨w.heap.size + 1, 3, none⟩) (u := .slice C1 x.q.t.length c1) (by simp) (by simp))).trans (chg_set (p := ⟨w.heap.size + 1, 4, none⟩) (u := .slice E1 x.d.length e1) (by simp) (by simp))).trans (chg_set (p := ⟨w.heap.size + 1, 5, none⟩) (u := .slice H1 x.m.length h1) (by simp) (by simp))
    exact Fam.mono (hF.chg hc (.inr (by omega))) (by omega) (by simp)

/-- rows of other elements are left alone -/
def KeepT (lo hi : Nat) (w w' : World) : Prop := ∀ (T : TypeId) (sz : Nat) (v : Value) (n : Nat) (cs : List Value), 3 ≠ T → RowO T sz w lo hi v n cs → RowO T sz w' lo hi v n cs
theorem KeepT.of_below {lo hi : Nat} {w w' : World} (hb : Below w.heap.size w w') : KeepT lo hi w w' := fun _ _ _ _ _ _ h => h.below hb
theorem KeepT.of_grown {lo hi base : Nat} {w w' : World} {u : Value} {l : List Int} (ho : OwnI w base u l) (hg : w.grownBy w' u.ownBlock) : KeepT lo hi w w' := fun _ _ _ _ _ ht h => h.grown ht ho hg
theorem KeepT.trans {lo hi : Nat} {a b c : World} (h : KeepT lo hi a b) (k : KeepT lo hi b c) : KeepT lo hi a c := fun T sz v n cs ht hr => k T sz v n cs ht (h T sz v n cs ht hr)

set_option maxHeartbeats 400000 in
theorem markQuiver_fam (a b : Value) (q : Qv) (L1 : List (Value × List Int)) (k : Int) (lo hi : Nat) (w : World) (hF : Fam w lo hi ([(a, q.f), (b, q.t)] ++ L1)) (hh : hi ≤ w.heap.size) (h0 : 0 ≤ k) (h1 : k ≤ 1125899906842624) :
    Calls Try.prog 21 #[.agg #[.int .i64 q.v, a, b], .int .i64 k] w fun e w' => e = .returned (.int .i64 (k + q.size)) ∧ Fam w' lo hi ([(a, mkI k q.f.length), (b, mkI (k + q.f.length) q.t.length)] ++ L1) ∧ Chg lo hi w w' ∧ KeepT lo hi w w' := by
  have fa : OwnI w lo a q.f := (hF.1 (a, q.f) (by simp)).1
  have fb : OwnI w lo b q.t := (hF.1 (b, q.t) (by simp)).1
  obtain ⟨A, c, rfl, _, _⟩ := fa.form
  obtain ⟨C, d, rfl, _, _⟩ := fb.form
  have la := fa.2.1
  have lb := fb.2.1
  have g0 := below_alloc w (.cells #[.int .i64 q.v, .slice A q.f.length c, .slice C q.t.length d] 26)
  have hF0 := hF.below g0
  go_enter Try.func21, Try.ntmps21
  go_wp2_with fail
  have fa0 : IntsO _ lo hi (.slice A q.f.length c) q.f := hF0.1 (_, q.f) (by simp)
  refine (markIntS_any _ _ _ lo _ fa0.1 h0 (by omega)).mono ?_; rintro e w1 ⟨rfl, ho1, hg1⟩
  have hF1 := Fam.turn (L1 := []) hF0 ho1 hg1
  have hc1 := chg_of_grown fa0 hg1
  have hk1 := KeepT.of_grown (lo := lo) (hi := hi) fa0.1 hg1
  have cB := ((Blk.new w 26 #[.int .i64 q.v, .slice A q.f.length c, .slice C q.t.length d]).chg hc1 (.inr hh)).cell' (i := 2) rfl
  have fb1 : IntsO w1 lo hi (.slice C q.t.length d) q.t := hF1.1 (_, q.t) (by simp)
  clear hF hF0 ho1 hg1 fa fb fa0
  go_wp2_with fail
  refine (markIntS_any _ _ _ lo _ fb1.1 (by omega) (by omega)).mono ?_; rintro e w2 ⟨rfl, ho2, hg2⟩
  have hF2 := Fam.turn (L1 := [(_, mkI k q.f.length)]) hF1 ho2 hg2
  have hc2 := chg_of_grown fb1 hg2
  have hk2 := KeepT.of_grown (lo := lo) (hi := hi) fb1.1 hg2
  clear ho2 hg2 fb1 hF1
  go_wp2
  go_ret
  refine ⟨?_, hF2, (Chg.of_below g0).trans (hc1.trans hc2), (KeepT.of_below g0).trans (hk1.trans hk2)⟩
  have e : k + (q.size : Int) = k + q.f.length + q.t.length := by simp only [Qv.size]; omega
  rw [e]; rfl

set_option maxHeartbeats 800000 in
theorem rep_mark (v : Value) (x : Rp) (k : Int) (lo hi : Nat) (w : World) (hv : RepO w lo hi v x) (hh : hi ≤ w.heap.size) (h0 : 0 ≤ k) (h1 : k ≤ 1099511627776) (hsz : x.size ≤ 1048576) :
    Calls Try.prog 22 #[v, .int .i64 k] w fun e w' => e = .returned (.int .i64 (k + x.marks)) ∧ RepO w' lo hi v (RepO.mk k x) ∧ Chg lo hi w w' := by
  obtain ⟨f, t, d, m, vs, rfl, ho, hl, hF, hI, _⟩ := hv
  have HL := Lib.hid hl
  clear hl
  have ff : OwnI w lo f x.q.f := (hF.1 (f, x.q.f) (by simp)).1
  have ft : OwnI w lo t x.q.t := (hF.1 (t, x.q.t) (by simp)).1
  have fd : OwnI w lo d x.d := (hF.1 (d, x.d) (by simp)).1
  obtain ⟨A, a, rfl, _, _⟩ := ff.form
  obtain ⟨C, c, rfl, _, _⟩ := ft.form
  obtain ⟨E, e, rfl, _, _⟩ := fd.form
  obtain ⟨H, h, rfl, _, _⟩ := ho.form
  have ht : totM x.m ≤ 4194304 := by rw [totM_eq]; simp only [Rp.size, szM] at hsz; omega
  have hqs : x.q.size ≤ 1048576 := by simp only [Rp.size] at hsz; omega
  have hds : x.d.length ≤ 1048576 := by simp only [Rp.size] at hsz; omega
  clear ff ft fd
  obtain ⟨W, hW⟩ : ∃ W, W = w.alloc (.cells #[.int .i64 x.p, .int .i64 x.q.v, .slice A x.q.f.length a, .slice C x.q.t.length c, .slice E x.d.length e, .slice H x.m.length h] 29) := ⟨_, rfl⟩
  have g0 : Below w.heap.size w W := by rw [hW]; exact below_alloc _ _
  have kB : Blk W w.heap.size 29 #[.int .i64 x.p, .int .i64 x.q.v, .slice A x.q.f.length a, .slice C x.q.t.length c, .slice E x.d.length e, .slice H x.m.length h] := by rw [hW]; exact Blk.new _ _ _
  replace hF := hF.below g0
  replace ho := ho.below g0
  have hs0 := g0.size
  have HF := Lib.hid hF
  clear hF
  go_enter Try.func22, Try.ntmps22
  go_wp2_with fail
  rw [← hW]; clear hW
  refine (markQuiver_fam _ _ x.q ([(.slice E x.d.length e, x.d)] ++ vs.zip (x.m.map Mx.a)) _ lo hi _ HF.out (by omega) h0 (by omega)).mono ?_; rintro e w1 ⟨rfl, hF1, hc1, hk1⟩
  have ho1 : OutM w1 lo hi (.slice H x.m.length h) vs x.m := hk1 _ _ _ _ _ (by decide) ho
  have kB1 := kB.chg hc1 (.inr hh)
  have c4 := kB1.cell' (i := 4) rfl
  have hd : IntsO w1 lo hi (.slice E x.d.length e) x.d := hF1.1 (_, x.d) (by simp)
  clear ho kB hk1
  have HF1 := Lib.hid hF1
  clear hF1
  go_wp2_with fail
  refine (markIntS_any _ _ _ lo _ hd.1 (by omega) (by omega)).mono ?_; rintro e w2 ⟨rfl, ho2, hg2⟩
  have hF2 := Fam.turn (L1 := [(_, mkI k x.q.f.length), (_, mkI (k + x.q.f.length) x.q.t.length)]) HF1.out ho2 hg2
  have hc2 := chg_of_grown hd hg2
  have hO2 : OutM w2 lo hi (.slice H x.m.length h) vs x.m := ho1.grown (by decide) hd.1 hg2
  have kB2 := kB1.chg hc2 (.inr hh)
  have c5 := kB2.cell' (i := 5) rfl
  have HF2 := Lib.hid hF2
  clear ho1 kB1 c4 hd HF1 ho2 hg2 hF2
  go_wp2_with fail
  refine (markMatrixS_fam _ vs x.m [(.slice A x.q.f.length a, mkI k x.q.f.length), (.slice C x.q.t.length c, mkI (k + x.q.f.length) x.q.t.length), (.slice E x.d.length e, mkI (k + x.q.size) x.d.length)] _ lo hi _ hO2 HL.out HF2.out (by omega) (by omega) (by omega)).mono ?_; rintro e w3 ⟨rfl, ho3, hF3, hc3⟩
  have hI3 : ∀ m ∈ mkMS (k + x.q.size + x.d.length) x.m, I64 m.r ∧ I64 m.c := by
    intro m hm
    obtain ⟨j, hj⟩ := List.getElem?_of_mem hm
    have hjl := lt_of_some hj
    rw [mkMS_length] at hjl
    have := mkMS_get x.m (k + x.q.size + x.d.length) j _ (List.getElem?_eq_getElem hjl)
    rw [hj] at this
    injection this with this
    subst this
    have hle := totM_take_le x.m j
    simp only
    exact ⟨⟨by omega, by omega⟩, ⟨by omega, by omega⟩⟩
  have HI3 := Lib.hid hI3
  have HO3 := Lib.hid ho3
  have HF3 := Lib.hid hF3
  clear hI3 ho3 hF3 HF2 hO2 HF
  have hL3 := Lib.hid (show vs.length = (mkMS (k + x.q.size + x.d.length) x.m).length by rw [mkMS_length]; exact HL.out)
  go_wp2
  go_ret
  refine ⟨?_, ⟨_, _, _, _, vs, ?_, HO3.out, hL3.out, HF3.out, hI, HI3.out⟩, (Chg.of_below g0).trans (hc1.trans (hc2.trans hc3))⟩
  · have e : k + (x.marks : Int) = k + x.q.size + x.d.length + totM x.m := by simp only [Rp.marks]; omega
    rw [e]; rfl
  · simp [RepO.mk, QuivO.mk, mkMS_length, mkI_length]

set_option maxHeartbeats 800000 in
theorem rep_held (v : Value) (x : Rp) (k : Int) (w : World) (hv : RpR w w.heap.size v (RepO.mk k x)) (h0 : 0 ≤ k) (h1 : k ≤ 1099511627776) (hsz : x.size ≤ 1048576) :
    Calls Try.prog 23 #[v, .int .i64 k] w fun e w' => e = .returned (.int .i64 (k + x.marks)) ∧ Below w.heap.size w w' := by
  obtain ⟨A, a, C, c, E, e, H, h, rfl, hq, hd, hm, _, _, _⟩ := hv.open_
  clear hv
  have ht : totM x.m ≤ 4194304 := by rw [totM_eq]; simp only [Rp.size, szM] at hsz; omega
  have hqs : x.q.size ≤ 1048576 := by simp only [Rp.size] at hsz; omega
  have hds : x.d.length ≤ 1048576 := by simp only [Rp.size] at hsz; omega
  obtain ⟨W, hW⟩ : ∃ W, W = w.alloc (.cells #[.int .i64 (RepO.mk k x).p, .int .i64 (RepO.mk k x).q.v, .slice A (RepO.mk k x).q.f.length a, .slice C (RepO.mk k x).q.t.length c, .slice E (RepO.mk k x).d.length e, .slice H (RepO.mk k x).m.length h] 29) := ⟨_, rfl⟩
  have g0 : Below w.heap.size w W := by rw [hW]; exact below_alloc _ _
  have kB : Blk W w.heap.size 29 #[.int .i64 (RepO.mk k x).p, .int .i64 (RepO.mk k x).q.v, .slice A (RepO.mk k x).q.f.length a, .slice C (RepO.mk k x).q.t.length c, .slice E (RepO.mk k x).d.length e, .slice H (RepO.mk k x).m.length h] := by rw [hW]; exact Blk.new _ _ _
  have hq' : QvR W W.heap.size (.agg #[.int .i64 (RepO.mk k x).q.v, .slice A (RepO.mk k x).q.f.length a, .slice C (RepO.mk k x).q.t.length c]) (QuivO.mk k x.q) := QvR.next g0 hq
  have hd' : SlI W W.heap.size (.slice E (RepO.mk k x).d.length e) (mkI (k + x.q.size) x.d.length) := SlI.next g0 hd
  have hm' : SlM W W.heap.size (.slice H (RepO.mk k x).m.length h) (mkMS (k + x.q.size + x.d.length) x.m) := SlM.next g0 hm
  clear hq hd hm
  generalize RepO.mk k x = y at *
  have n1 : ¬ (k + (x.q.size : Int) < 0) := by omega
  have n2 : ¬ (k + (x.q.size : Int) + x.d.length < 0) := by omega
  have n3 : ¬ (k + (x.q.size : Int) + x.d.length + totM x.m < 0) := by omega
  go_enter Try.func23, Try.ntmps23
  go_wp2_with fail
  rw [← hW]; clear hW
  refine (quiv_held _ _ _ _ hq' h0 (by omega)).mono ?_; rintro e w1 ⟨rfl, hb1⟩
  clear hq'
  replace g0 := bthen g0 hb1
  replace hd' := SlI.next hb1 hd'
  replace hm' := SlM.next hb1 hm'
  replace kB := kB.call hb1
  replace c0 := kB.cell' (i := 0) rfl
  replace c1 := kB.cell' (i := 1) rfl
  replace c2 := kB.cell' (i := 2) rfl
  replace c3 := kB.cell' (i := 3) rfl
  replace c4 := kB.cell' (i := 4) rfl
  replace c5 := kB.cell' (i := 5) rfl
  clear hb1
  go_wp2_with fail
  refine (heldIntS_any _ _ (k + x.q.size) _ _ hd' (by omega) (by omega)).mono ?_; rintro e w_1 ⟨rfl, hb_1⟩
  replace g0 := bthen g0 hb_1
  replace hd' := SlI.next hb_1 hd'
  replace hm' := SlM.next hb_1 hm'
  replace kB := kB.call hb_1
  replace c0 := kB.cell' (i := 0) rfl
  replace c1 := kB.cell' (i := 1) rfl
  replace c2 := kB.cell' (i := 2) rfl
  replace c3 := kB.cell' (i := 3) rfl
  replace c4 := kB.cell' (i := 4) rfl
  replace c5 := kB.cell' (i := 5) rfl
  go_wp2_with fail
  refine (heldMatrixS_any _ x.m (k + x.q.size + x.d.length) _ hm' (by omega) (by omega) (by omega)).mono ?_; rintro e w_2 ⟨rfl, hb_2⟩
  replace g0 := bthen g0 hb_2
  replace hd' := SlI.next hb_2 hd'
  replace hm' := SlM.next hb_2 hm'
  replace kB := kB.call hb_2
  replace c0 := kB.cell' (i := 0) rfl
  replace c1 := kB.cell' (i := 1) rfl
  replace c2 := kB.cell' (i := 2) rfl
  replace c3 := kB.cell' (i := 3) rfl
  replace c4 := kB.cell' (i := 4) rfl
  replace c5 := kB.cell' (i := 5) rfl
  clear hd' hm' kB
  go_wp2
  go_ret
  have e : k + (x.marks : Int) = k + x.q.size + x.d.length + totM x.m := by simp only [Rp.marks]; omega
  exact ⟨by rw [e]; rfl, g0⟩
end Go.Proofs.Ytjhllgldllbaaaa

/- The walk of FnExactRankTable, printed by program (wip/law.py) out of the contracts of what it calls. -/
namespace Go.Proofs.Ytjhllgldllbaaaa
set_option linter.unusedVariables false
set_option linter.unusedSimpArgs false
open Go.RowKit

set_option maxHeartbeats 1600000 in
set_option maxRecDepth 100000 in
theorem lawRankTable_any (ur : Value) (r : Rp) (w : World) (hr : RpR w w.heap.size ur r) :
    Calls Try.prog 14 #[ur] w fun e w' => e = .returned (.bool true) ∧ Below w.heap.size w w' := by
  obtain ⟨Aur, aur, Cur, cur, Eur, eur, Hur, hur, er⟩ := RpR.form hr
  subst er
  have lr := RpR.lens hr
  have zr := rtM_tot r
  have g0 := Below.refl w.heap.size w
  by_cases z0 : (1048576 : Int) < (r.size : Nat)
  · have y0 : szLeft (1048576 : Int) (r.size) = -1 := by rw [szLeft, if_pos z0]
    go_enter Try.func14, Try.ntmps14
    go_wp2_with fail
    obtain ⟨W2, e3⟩ : ∃ W, W = w.alloc (.cells #[.int .i64 (r).p, .int .i64 (r).q.v, .slice Aur (r).q.f.length aur, .slice Cur (r).q.t.length cur, .slice Eur (r).d.length eur, .slice Hur (r).m.length hur] 55) := ⟨_, rfl⟩
    rw [← e3]
    have b4 : Below w.heap.size w W2 := by rw [e3]; exact below_alloc _ _
    have k5 : Blk W2 w.heap.size 55 #[.int .i64 (r).p, .int .i64 (r).q.v, .slice Aur (r).q.f.length aur, .slice Cur (r).q.t.length cur, .slice Eur (r).d.length eur, .slice Hur (r).m.length hur] := by rw [e3]; exact Blk.new _ _ _
    have s6 : w.heap.size < W2.heap.size := by rw [e3]; simp
    clear e3
    have h7 := RpR.below (b4.mono (by omega)) hr
    have s8 : w.heap.size ≤ W2.heap.size := b4.size
    have g9 := bthen g0 b4
    clear hr g0 b4
    have c10 := k5.cell' (i := 0) rfl
    have c11 := k5.cell' (i := 1) rfl
    have c12 := k5.cell' (i := 2) rfl
    have c13 := k5.cell' (i := 3) rfl
    have c14 := k5.cell' (i := 4) rfl
    have c15 := k5.cell' (i := 5) rfl
    refine (szRep_any _ _ (1048576 : Int) _ (RpR.more (by omega) h7) (by omega) (by omega)).mono ?_; rintro e W16 ⟨rfl, b1⟩
    have h17 := RpR.below (b1.mono (by omega)) h7
    have k18 := k5.call b1
    have s19 : W2.heap.size ≤ W16.heap.size := b1.size
    have g20 := bthen g9 b1
    clear h7 k5 g9 b1 c10 c11 c12 c13 c14 c15
    have c21 := k18.cell' (i := 0) rfl
    have c22 := k18.cell' (i := 1) rfl
    have c23 := k18.cell' (i := 2) rfl
    have c24 := k18.cell' (i := 3) rfl
    have c25 := k18.cell' (i := 4) rfl
    have c26 := k18.cell' (i := 5) rfl
    go_wp2
    go_ret
    exact ⟨rfl, g20⟩
  have y0 : szLeft (1048576 : Int) (r.size) = (1048576 : Int) - (r.size : Nat) := by rw [szLeft, if_neg z0]
  have x0 : ¬ ((1048576 : Int) - ((r.size : Nat) : Int) < 0) := by omega
  go_enter Try.func14, Try.ntmps14
  go_wp2_with fail
  obtain ⟨W28, e29⟩ : ∃ W, W = w.alloc (.cells #[.int .i64 (r).p, .int .i64 (r).q.v, .slice Aur (r).q.f.length aur, .slice Cur (r).q.t.length cur, .slice Eur (r).d.length eur, .slice Hur (r).m.length hur] 55) := ⟨_, rfl⟩
  rw [← e29]
  have b30 : Below w.heap.size w W28 := by rw [e29]; exact below_alloc _ _
  have k31 : Blk W28 w.heap.size 55 #[.int .i64 (r).p, .int .i64 (r).q.v, .slice Aur (r).q.f.length aur, .slice Cur (r).q.t.length cur, .slice Eur (r).d.length eur, .slice Hur (r).m.length hur] := by rw [e29]; exact Blk.new _ _ _
  have s32 : w.heap.size < W28.heap.size := by rw [e29]; simp
  clear e29
  have h33 := RpR.below (b30.mono (by omega)) hr
  have s34 : w.heap.size ≤ W28.heap.size := b30.size
  have g35 := bthen g0 b30
  clear hr g0 b30
  have c36 := k31.cell' (i := 0) rfl
  have c37 := k31.cell' (i := 1) rfl
  have c38 := k31.cell' (i := 2) rfl
  have c39 := k31.cell' (i := 3) rfl
  have c40 := k31.cell' (i := 4) rfl
  have c41 := k31.cell' (i := 5) rfl
  refine (szRep_any _ _ (1048576 : Int) _ (RpR.more (by omega) h33) (by omega) (by omega)).mono ?_; rintro e W42 ⟨rfl, b27⟩
  have h43 := RpR.below (b27.mono (by omega)) h33
  have k44 := k31.call b27
  have s45 : W28.heap.size ≤ W42.heap.size := b27.size
  have g46 := bthen g35 b27
  clear h33 k31 g35 b27 c36 c37 c38 c39 c40 c41
  have c47 := k44.cell' (i := 0) rfl
  have c48 := k44.cell' (i := 1) rfl
  have c49 := k44.cell' (i := 2) rfl
  have c50 := k44.cell' (i := 3) rfl
  have c51 := k44.cell' (i := 4) rfl
  have c52 := k44.cell' (i := 5) rfl
  go_wp2_with fail
  refine (rep_to _ _ _ (RpR.more (by omega) h43) (by omega)).mono ?_; rintro e W56 ⟨v53, rfl, h54, b55⟩
  have h57 := RpR.below (b55.mono (by omega)) h43
  have k58 := k44.call b55
  have s59 : W42.heap.size ≤ W56.heap.size := b55.size
  have g60 := bthen g46 b55
  clear h43 k44 g46 b55 c47 c48 c49 c50 c51 c52
  have c61 := k58.cell' (i := 0) rfl
  have c62 := k58.cell' (i := 1) rfl
  have c63 := k58.cell' (i := 2) rfl
  have c64 := k58.cell' (i := 3) rfl
  have c65 := k58.cell' (i := 4) rfl
  have c66 := k58.cell' (i := 5) rfl
  go_wp2_with fail
  refine (specRankTable_any _ _ _ h54.rd).mono ?_; rintro e W70 ⟨r67, rfl, h68, b69⟩
  have h71 := RpR.below (b69.mono (by omega)) h57
  have h72 := h54.below b69
  have k73 := k58.call b69
  have s74 : W56.heap.size ≤ W70.heap.size := b69.size
  have g75 := bthen g60 b69
  clear h57 h54 k58 g60 b69 c61 c62 c63 c64 c65 c66
  have c76 := k73.cell' (i := 0) rfl
  have c77 := k73.cell' (i := 1) rfl
  have c78 := k73.cell' (i := 2) rfl
  have c79 := k73.cell' (i := 3) rfl
  have c80 := k73.cell' (i := 4) rfl
  have c81 := k73.cell' (i := 5) rfl
  have h82 := h68.rd
  clear h68
  clear h72
  go_wp2_with fail
  refine (rep_to _ _ _ (RpR.more (by omega) h71) (by omega)).mono ?_; rintro e W86 ⟨v83, rfl, h84, b85⟩
  have h87 := RpR.below (b85.mono (by omega)) h71
  have h88 := SlII.below (b85.mono (by omega)) h82
  have k89 := k73.call b85
  have s90 : W70.heap.size ≤ W86.heap.size := b85.size
  have g91 := bthen g75 b85
  clear h71 h82 k73 g75 b85 c76 c77 c78 c79 c80 c81
  have c92 := k89.cell' (i := 0) rfl
  have c93 := k89.cell' (i := 1) rfl
  have c94 := k89.cell' (i := 2) rfl
  have c95 := k89.cell' (i := 3) rfl
  have c96 := k89.cell' (i := 4) rfl
  have c97 := k89.cell' (i := 5) rfl
  obtain ⟨Ax98, ax98, Cx98, cx98, Ex98, ex98, Hx98, hx98, e99⟩ := h84.form
  subst e99
  have c103 := fun o => (k89.alloc o).cell' (i := 0) rfl
  have c104 := fun o => (k89.alloc o).cell' (i := 1) rfl
  have c105 := fun o => (k89.alloc o).cell' (i := 2) rfl
  have c106 := fun o => (k89.alloc o).cell' (i := 3) rfl
  have c107 := fun o => (k89.alloc o).cell' (i := 4) rfl
  have c108 := fun o => (k89.alloc o).cell' (i := 5) rfl
  go_wp2_with fail
  obtain ⟨W109, e110⟩ : ∃ W, W = W86.alloc (.cells #[.int .i64 (r).p, .int .i64 (r).q.v, .slice Ax98 (r).q.f.length ax98, .slice Cx98 (r).q.t.length cx98, .slice Ex98 (r).d.length ex98, .slice Hx98 (r).m.length hx98] 29) := ⟨_, rfl⟩
  rw [← e110]
  have b111 : Below W86.heap.size W86 W109 := by rw [e110]; exact below_alloc _ _
  have k112 : Blk W109 W86.heap.size 29 #[.int .i64 (r).p, .int .i64 (r).q.v, .slice Ax98 (r).q.f.length ax98, .slice Cx98 (r).q.t.length cx98, .slice Ex98 (r).d.length ex98, .slice Hx98 (r).m.length hx98] := by rw [e110]; exact Blk.new _ _ _
  have s113 : W86.heap.size < W109.heap.size := by rw [e110]; simp
  clear e110
  have h114 := RpR.below (b111.mono (by omega)) h87
  have h115 := SlII.below (b111.mono (by omega)) h88
  have h116 := h84.below b111
  have k117 := k89.call b111
  have s118 : W86.heap.size ≤ W109.heap.size := b111.size
  have g119 := bthen g91 b111
  clear h87 h88 h84 k89 g91 b111 c92 c93 c94 c95 c96 c97 c103 c104 c105 c106 c107 c108
  have c120 := k117.cell' (i := 0) rfl
  have c121 := k117.cell' (i := 1) rfl
  have c122 := k117.cell' (i := 2) rfl
  have c123 := k117.cell' (i := 3) rfl
  have c124 := k117.cell' (i := 4) rfl
  have c125 := k117.cell' (i := 5) rfl
  have c126 := k112.cell' (i := 0) rfl
  have c127 := k112.cell' (i := 1) rfl
  have c128 := k112.cell' (i := 2) rfl
  have c129 := k112.cell' (i := 3) rfl
  have c130 := k112.cell' (i := 4) rfl
  have c131 := k112.cell' (i := 5) rfl
  refine (implRankTable_any _ _ _ h116.rd).mono ?_; rintro e W132 ⟨r100, rfl, h101, b102⟩
  have h133 := RpR.below (b102.mono (by omega)) h114
  have h134 := SlII.below (b102.mono (by omega)) h115
  have h135 := h116.below b102
  have k136 := k117.call b102
  have k137 := k112.call b102
  have s138 : W109.heap.size ≤ W132.heap.size := b102.size
  have g139 := bthen g119 b102
  clear h114 h115 h116 k117 k112 g119 b102 c120 c121 c122 c123 c124 c125 c126 c127 c128 c129 c130 c131
  have c140 := k136.cell' (i := 0) rfl
  have c141 := k136.cell' (i := 1) rfl
  have c142 := k136.cell' (i := 2) rfl
  have c143 := k136.cell' (i := 3) rfl
  have c144 := k136.cell' (i := 4) rfl
  have c145 := k136.cell' (i := 5) rfl
  have c146 := k137.cell' (i := 0) rfl
  have c147 := k137.cell' (i := 1) rfl
  have c148 := k137.cell' (i := 2) rfl
  have c149 := k137.cell' (i := 3) rfl
  have c150 := k137.cell' (i := 4) rfl
  have c151 := k137.cell' (i := 5) rfl
  go_wp2_with fail
  refine (eqIntSS_any _ _ _ _ _ h101.rd (SlII.more (by omega) h134)).mono ?_; rintro e W153 ⟨rfl, b152⟩
  have h154 := RpR.below (b152.mono (by omega)) h133
  have h155 := SlII.below (b152.mono (by omega)) h134
  have h156 := h135.below b152
  have h157 := h101.below b152
  have k158 := k136.call b152
  have k159 := k137.call b152
  have s160 : W132.heap.size ≤ W153.heap.size := b152.size
  have g161 := bthen g139 b152
  clear h133 h134 h135 h101 k136 k137 g139 b152 c140 c141 c142 c143 c144 c145 c146 c147 c148 c149 c150 c151
  have c162 := k158.cell' (i := 0) rfl
  have c163 := k158.cell' (i := 1) rfl
  have c164 := k158.cell' (i := 2) rfl
  have c165 := k158.cell' (i := 3) rfl
  have c166 := k158.cell' (i := 4) rfl
  have c167 := k158.cell' (i := 5) rfl
  have c168 := k159.cell' (i := 0) rfl
  have c169 := k159.cell' (i := 1) rfl
  have c170 := k159.cell' (i := 2) rfl
  have c171 := k159.cell' (i := 3) rfl
  have c172 := k159.cell' (i := 4) rfl
  have c173 := k159.cell' (i := 5) rfl
  go_wp2_with fail
  have b174 := drew_below W153
  have h175 := RpR.below (b174.mono (by omega)) h154
  have h176 := SlII.below (b174.mono (by omega)) h155
  have h177 := h156.below b174
  have h178 := h157.below b174
  have k179 := k158.call b174
  have k180 := k159.call b174
  have s181 : W153.heap.size ≤ W153.drew.heap.size := b174.size
  have g182 := bthen g161 b174
  clear h154 h155 h156 h157 k158 k159 g161 b174 c162 c163 c164 c165 c166 c167 c168 c169 c170 c171 c172 c173
  have c183 := k179.cell' (i := 0) rfl
  have c184 := k179.cell' (i := 1) rfl
  have c185 := k179.cell' (i := 2) rfl
  have c186 := k179.cell' (i := 3) rfl
  have c187 := k179.cell' (i := 4) rfl
  have c188 := k179.cell' (i := 5) rfl
  have c189 := k180.cell' (i := 0) rfl
  have c190 := k180.cell' (i := 1) rfl
  have c191 := k180.cell' (i := 2) rfl
  have c192 := k180.cell' (i := 3) rfl
  have c193 := k180.cell' (i := 4) rfl
  have c194 := k180.cell' (i := 5) rfl
  go_region_held3 (fun W' => W'.cell? ⟨w.heap.size, 0, none⟩ = some (.int .i64 (r).p) ∧ W'.cell? ⟨w.heap.size, 1, none⟩ = some (.int .i64 (r).q.v) ∧ W'.cell? ⟨w.heap.size, 2, none⟩ = some (.slice Aur (r).q.f.length aur) ∧ W'.cell? ⟨w.heap.size, 3, none⟩ = some (.slice Cur (r).q.t.length cur) ∧ W'.cell? ⟨w.heap.size, 4, none⟩ = some (.slice Eur (r).d.length eur) ∧ W'.cell? ⟨w.heap.size, 5, none⟩ = some (.slice Hur (r).m.length hur) ∧ W'.cell? ⟨W86.heap.size, 0, none⟩ = some (.int .i64 (r).p) ∧ W'.cell? ⟨W86.heap.size, 1, none⟩ = some (.int .i64 (r).q.v) ∧ W'.cell? ⟨W86.heap.size, 2, none⟩ = some (.slice Ax98 (r).q.f.length ax98) ∧ W'.cell? ⟨W86.heap.size, 3, none⟩ = some (.slice Cx98 (r).q.t.length cx98) ∧ W'.cell? ⟨W86.heap.size, 4, none⟩ = some (.slice Ex98 (r).d.length ex98) ∧ W'.cell? ⟨W86.heap.size, 5, none⟩ = some (.slice Hx98 (r).m.length hx98))
    (first | exact ⟨c183, c184, c185, c186, c187, c188, c189, c190, c191, c192, c193, c194⟩ | exact ⟨c207, c208, c209, c210, c211, c212, c213, c214, c215, c216, c217, c218⟩ | exact ⟨c230, c231, c232, c233, c234, c235, c236, c237, c238, c239, c240, c241⟩)
    (first | (go_at_call 43; refine (rep_to _ _ _ (RpR.more (by omega) h175) (by omega)).mono ?_; rintro e W198 ⟨v195, rfl, h196, b197⟩; have h199 := RpR.below (b197.mono (by omega)) h175; have h200 := SlII.below (b197.mono (by omega)) h176; have h201 := h177.below b197; have h202 := h178.below b197; have k203 := k179.call b197; have k204 := k180.call b197; have s205 : W153.drew.heap.size ≤ W198.heap.size := b197.size; have g206 := bthen g182 b197; clear h175 h176 h177 h178 k179 k180 g182 b197 c183 c184 c185 c186 c187 c188 c189 c190 c191 c192 c193 c194; have c207 := k203.cell' (i := 0) rfl; have c208 := k203.cell' (i := 1) rfl; have c209 := k203.cell' (i := 2) rfl; have c210 := k203.cell' (i := 3) rfl; have c211 := k203.cell' (i := 4) rfl; have c212 := k203.cell' (i := 5) rfl; have c213 := k204.cell' (i := 0) rfl; have c214 := k204.cell' (i := 1) rfl; have c215 := k204.cell' (i := 2) rfl; have c216 := k204.cell' (i := 3) rfl; have c217 := k204.cell' (i := 4) rfl; have c218 := k204.cell' (i := 5) rfl) | (go_at_call 19; refine (eqRep_any _ _ _ _ _ h201.rd h196.rd).mono ?_; rintro e W220 ⟨rfl, b219⟩; have h221 := RpR.below (b219.mono (by omega)) h199; have h222 := SlII.below (b219.mono (by omega)) h200; have h223 := h201.below b219; have h224 := h202.below b219; have h225 := h196.below b219; have k226 := k203.call b219; have k227 := k204.call b219; have s228 : W198.heap.size ≤ W220.heap.size := b219.size; have g229 := bthen g206 b219; clear h199 h200 h201 h202 h196 k203 k204 g206 b219 c207 c208 c209 c210 c211 c212 c213 c214 c215 c216 c217 c218; have c230 := k226.cell' (i := 0) rfl; have c231 := k226.cell' (i := 1) rfl; have c232 := k226.cell' (i := 2) rfl; have c233 := k226.cell' (i := 3) rfl; have c234 := k226.cell' (i := 4) rfl; have c235 := k226.cell' (i := 5) rfl; have c236 := k227.cell' (i := 0) rfl; have c237 := k227.cell' (i := 1) rfl; have c238 := k227.cell' (i := 2) rfl; have c239 := k227.cell' (i := 3) rfl; have c240 := k227.cell' (i := 4) rfl; have c241 := k227.cell' (i := 5) rfl))
  clear h225
  go_wp2_with fail
  refine (rep_mark _ _ _ _ _ _ h223 (by omega) (by omega) (by omega) (by omega)).mono ?_; rintro e W244 ⟨rfl, h242, q243⟩
  have h245 := RpR.chg h221 q243 (by omega) (by omega)
  have h246 := SlII.chg h222 q243 (by omega) (by omega)
  have h247 := h224.chg q243 (by omega)
  have k248 := k226.chg q243 (by omega)
  have k249 := k227.chg q243 (by omega)
  have s250 : W220.heap.size ≤ W244.heap.size := q243.size
  have g251 := g229.trans (q243.below (by omega) (by omega))
  clear h221 h222 h224 k226 k227 g229 q243 c230 c231 c232 c233 c234 c235 c236 c237 c238 c239 c240 c241
  have c252 := k248.cell' (i := 0) rfl
  have c253 := k248.cell' (i := 1) rfl
  have c254 := k248.cell' (i := 2) rfl
  have c255 := k248.cell' (i := 3) rfl
  have c256 := k248.cell' (i := 4) rfl
  have c257 := k248.cell' (i := 5) rfl
  have c258 := k249.cell' (i := 0) rfl
  have c259 := k249.cell' (i := 1) rfl
  have c260 := k249.cell' (i := 2) rfl
  have c261 := k249.cell' (i := 3) rfl
  have c262 := k249.cell' (i := 4) rfl
  have c263 := k249.cell' (i := 5) rfl
  clear h223
  go_wp2_with fail
  refine (eqIntSS_any _ _ _ _ _ h247.rd (SlII.more (by omega) h246)).mono ?_; rintro e W265 ⟨rfl, b264⟩
  have h266 := RpR.below (b264.mono (by omega)) h245
  have h267 := SlII.below (b264.mono (by omega)) h246
  have h268 := h242.below b264
  have h269 := h247.below b264
  have k270 := k248.call b264
  have k271 := k249.call b264
  have s272 : W244.heap.size ≤ W265.heap.size := b264.size
  have g273 := bthen g251 b264
  clear h245 h246 h242 h247 k248 k249 g251 b264 c252 c253 c254 c255 c256 c257 c258 c259 c260 c261 c262 c263
  have c274 := k270.cell' (i := 0) rfl
  have c275 := k270.cell' (i := 1) rfl
  have c276 := k270.cell' (i := 2) rfl
  have c277 := k270.cell' (i := 3) rfl
  have c278 := k270.cell' (i := 4) rfl
  have c279 := k270.cell' (i := 5) rfl
  have c280 := k271.cell' (i := 0) rfl
  have c281 := k271.cell' (i := 1) rfl
  have c282 := k271.cell' (i := 2) rfl
  have c283 := k271.cell' (i := 3) rfl
  have c284 := k271.cell' (i := 4) rfl
  have c285 := k271.cell' (i := 5) rfl
  clear h268
  go_wp2_with fail
  refine (intss_mark2 _ _ _ _ _ _ h269 (by omega) (by omega) (by omega)).mono ?_; rintro e W288 ⟨rfl, h286, q287⟩
  have h289 := RpR.chg h266 q287 (by omega) (by omega)
  have h290 := SlII.chg h267 q287 (by omega) (by omega)
  have k291 := k270.chg q287 (by omega)
  have k292 := k271.chg q287 (by omega)
  have s293 : W265.heap.size ≤ W288.heap.size := q287.size
  have g294 := g273.trans (q287.below (by omega) (by omega))
  clear h266 h267 k270 k271 g273 q287 c274 c275 c276 c277 c278 c279 c280 c281 c282 c283 c284 c285
  have c295 := k291.cell' (i := 0) rfl
  have c296 := k291.cell' (i := 1) rfl
  have c297 := k291.cell' (i := 2) rfl
  have c298 := k291.cell' (i := 3) rfl
  have c299 := k291.cell' (i := 4) rfl
  have c300 := k291.cell' (i := 5) rfl
  have c301 := k292.cell' (i := 0) rfl
  have c302 := k292.cell' (i := 1) rfl
  have c303 := k292.cell' (i := 2) rfl
  have c304 := k292.cell' (i := 3) rfl
  have c305 := k292.cell' (i := 4) rfl
  have c306 := k292.cell' (i := 5) rfl
  clear h269
  go_wp2_with fail
  refine (intss_held _ _ _ _ h286.rd (by omega) (by omega) (by omega)).mono ?_; rintro e W308 ⟨rfl, b307⟩
  have h309 := RpR.below (b307.mono (by omega)) h289
  have h310 := SlII.below (b307.mono (by omega)) h290
  have h311 := h286.below b307
  have k312 := k291.call b307
  have k313 := k292.call b307
  have s314 : W288.heap.size ≤ W308.heap.size := b307.size
  have g315 := bthen g294 b307
  clear h289 h290 h286 k291 k292 g294 b307 c295 c296 c297 c298 c299 c300 c301 c302 c303 c304 c305 c306
  have c316 := k312.cell' (i := 0) rfl
  have c317 := k312.cell' (i := 1) rfl
  have c318 := k312.cell' (i := 2) rfl
  have c319 := k312.cell' (i := 3) rfl
  have c320 := k312.cell' (i := 4) rfl
  have c321 := k312.cell' (i := 5) rfl
  have c322 := k313.cell' (i := 0) rfl
  have c323 := k313.cell' (i := 1) rfl
  have c324 := k313.cell' (i := 2) rfl
  have c325 := k313.cell' (i := 3) rfl
  have c326 := k313.cell' (i := 4) rfl
  have c327 := k313.cell' (i := 5) rfl
  go_wp2_with fail
  refine (rep_to _ _ _ (RpR.more (by omega) h309) (by omega)).mono ?_; rintro e W331 ⟨v328, rfl, h329, b330⟩
  have h332 := RpR.below (b330.mono (by omega)) h309
  have h333 := SlII.below (b330.mono (by omega)) h310
  have h334 := h311.below b330
  have k335 := k312.call b330
  have k336 := k313.call b330
  have s337 : W308.heap.size ≤ W331.heap.size := b330.size
  have g338 := bthen g315 b330
  clear h309 h310 h311 k312 k313 g315 b330 c316 c317 c318 c319 c320 c321 c322 c323 c324 c325 c326 c327
  have c339 := k335.cell' (i := 0) rfl
  have c340 := k335.cell' (i := 1) rfl
  have c341 := k335.cell' (i := 2) rfl
  have c342 := k335.cell' (i := 3) rfl
  have c343 := k335.cell' (i := 4) rfl
  have c344 := k335.cell' (i := 5) rfl
  have c345 := k336.cell' (i := 0) rfl
  have c346 := k336.cell' (i := 1) rfl
  have c347 := k336.cell' (i := 2) rfl
  have c348 := k336.cell' (i := 3) rfl
  have c349 := k336.cell' (i := 4) rfl
  have c350 := k336.cell' (i := 5) rfl
  go_wp2_with fail
  refine (implRankTable_any _ _ _ h329.rd).mono ?_; rintro e W354 ⟨r351, rfl, h352, b353⟩
  have h355 := RpR.below (b353.mono (by omega)) h332
  have h356 := SlII.below (b353.mono (by omega)) h333
  have h357 := h334.below b353
  have h358 := h329.below b353
  have k359 := k335.call b353
  have k360 := k336.call b353
  have s361 : W331.heap.size ≤ W354.heap.size := b353.size
  have g362 := bthen g338 b353
  clear h332 h333 h334 h329 k335 k336 g338 b353 c339 c340 c341 c342 c343 c344 c345 c346 c347 c348 c349 c350
  have c363 := k359.cell' (i := 0) rfl
  have c364 := k359.cell' (i := 1) rfl
  have c365 := k359.cell' (i := 2) rfl
  have c366 := k359.cell' (i := 3) rfl
  have c367 := k359.cell' (i := 4) rfl
  have c368 := k359.cell' (i := 5) rfl
  have c369 := k360.cell' (i := 0) rfl
  have c370 := k360.cell' (i := 1) rfl
  have c371 := k360.cell' (i := 2) rfl
  have c372 := k360.cell' (i := 3) rfl
  have c373 := k360.cell' (i := 4) rfl
  have c374 := k360.cell' (i := 5) rfl
  clear h358
  go_wp2_with fail
  refine (eqIntSS_any _ _ _ _ _ h352.rd (SlII.more (by omega) h356)).mono ?_; rintro e W376 ⟨rfl, b375⟩
  have h377 := RpR.below (b375.mono (by omega)) h355
  have h378 := SlII.below (b375.mono (by omega)) h356
  have h379 := h357.below b375
  have h380 := h352.below b375
  have k381 := k359.call b375
  have k382 := k360.call b375
  have s383 : W354.heap.size ≤ W376.heap.size := b375.size
  have g384 := bthen g362 b375
  clear h355 h356 h357 h352 k359 k360 g362 b375 c363 c364 c365 c366 c367 c368 c369 c370 c371 c372 c373 c374
  have c385 := k381.cell' (i := 0) rfl
  have c386 := k381.cell' (i := 1) rfl
  have c387 := k381.cell' (i := 2) rfl
  have c388 := k381.cell' (i := 3) rfl
  have c389 := k381.cell' (i := 4) rfl
  have c390 := k381.cell' (i := 5) rfl
  have c391 := k382.cell' (i := 0) rfl
  have c392 := k382.cell' (i := 1) rfl
  have c393 := k382.cell' (i := 2) rfl
  have c394 := k382.cell' (i := 3) rfl
  have c395 := k382.cell' (i := 4) rfl
  have c396 := k382.cell' (i := 5) rfl
  clear h380
  go_wp2_with fail
  refine (intss_held _ _ _ _ h379.rd (by omega) (by omega) (by omega)).mono ?_; rintro e W398 ⟨rfl, b397⟩
  have h399 := RpR.below (b397.mono (by omega)) h377
  have h400 := SlII.below (b397.mono (by omega)) h378
  have h401 := h379.below b397
  have k402 := k381.call b397
  have k403 := k382.call b397
  have s404 : W376.heap.size ≤ W398.heap.size := b397.size
  have g405 := bthen g384 b397
  clear h377 h378 h379 k381 k382 g384 b397 c385 c386 c387 c388 c389 c390 c391 c392 c393 c394 c395 c396
  have c406 := k402.cell' (i := 0) rfl
  have c407 := k402.cell' (i := 1) rfl
  have c408 := k402.cell' (i := 2) rfl
  have c409 := k402.cell' (i := 3) rfl
  have c410 := k402.cell' (i := 4) rfl
  have c411 := k402.cell' (i := 5) rfl
  have c412 := k403.cell' (i := 0) rfl
  have c413 := k403.cell' (i := 1) rfl
  have c414 := k403.cell' (i := 2) rfl
  have c415 := k403.cell' (i := 3) rfl
  have c416 := k403.cell' (i := 4) rfl
  have c417 := k403.cell' (i := 5) rfl
  go_wp2
  go_ret
  exact ⟨rfl, g405⟩
end Go.Proofs.Ytjhllgldllbaaaa

/- From a law's contract to its row, for every law of this seat: the arguments are opened, what is handed back is shut. -/
namespace Go.Proofs.Ytjhllgldllbaaaa
set_option linter.unusedVariables false
set_option linter.unusedSimpArgs false
open Go.RowKit Go.ChangeShapes Go.WideShapes Go.ChangeAt Go.Deep

theorem ownLaw : ownKnob Try.prog.godebug = none := by kernel_rfl
theorem laidOutLaw : laidOutB Try.prog = true := by kernel_rfl

section
variable {H : Type} {enc : TypeId × Value → H} {w : World}

/-- What is read of weights: each slice lies within the form's reach. -/
def Wt (t : TypeId) (d : DataW H) : Prop := ∀ n ∈ d.weights Try.prog t, n ≤ reachBytes
theorem Wt.slice {t e : TypeId} {elems spare : List (DataW H)} (h : Wt t (.slice elems spare)) (ht : Try.prog.underlying t = some (.slice e)) :
    (elems.length + spare.length) * Try.prog.bytesOf e ≤ reachBytes ∧ ∀ d ∈ elems, Wt e d := by
  have hall : ∀ (l : List (DataW H)) (d : DataW H), d ∈ l → ∀ n ∈ d.weights Try.prog e, n ∈ DataW.weightsAll Try.prog e l := by
    intro l
    induction l with
    | nil => intro d hd; simp at hd
    | cons a l ih =>
      intro d hd n hn
      simp only [DataW.weightsAll, List.mem_append]
      rcases List.mem_cons.1 hd with rfl | hd
      · exact .inl hn
      · exact .inr (ih d hd n hn)
  refine ⟨h _ (by simp [DataW.weights, ht]), fun d hd n hn => h n ?_⟩
  simp only [DataW.weights, ht, List.mem_cons, List.mem_append]
  exact .inr (.inl (hall _ _ hd _ hn))
theorem weightsEach_get {P : Program} : ∀ {ts : List TypeId} {ds : List (DataW H)} {j : Nat} {t : TypeId} {d : DataW H}, ts[j]? = some t → ds[j]? = some d → ∀ n ∈ d.weights P t, n ∈ DataW.weightsEach P ts ds := DataW.weights_mem_each
theorem Wt.struct {t : TypeId} {fs : Array Field} {ds : List (DataW H)} (h : Wt t (.agg ds)) (ht : Try.prog.underlying t = some (.struct fs)) {j : Nat} {f : Field} {d : DataW H} (hf : fs[j]? = some f) (hd : ds[j]? = some d) : Wt f.type d := by
  intro n hn
  refine h n ?_
  simp only [DataW.weights, ht]
  exact weightsEach_get (j := j) (t := f.type) (by simp [hf]) hd n hn

/-- The reading of an argument. -/
abbrev TrodA (enc : TypeId × Value → H) (w : World) (fuel : Nat) (t : TypeId) (cs : List Value) (x : DataW H × List MemPlace) : Prop := DataW.trod enc Try.prog w 0 (fun _ => true) true fuel t cs = some x

theorem i64_of_wf {n : Int} (h : (Lit.int .i64 n).wf = true) : I64 n := by
  simp only [Lit.wf, Bool.and_eq_true, decide_eq_true_eq] at h
  have e1 : IntKind.min .i64 = -9223372036854775808 := by decide
  have e2 : IntKind.max .i64 = 9223372036854775807 := by decide
  rw [e1, e2] at h
  exact h
theorem openI {t fuel : Nat} {cs : List Value} {x : DataW H × List MemPlace} (ht : Try.prog.underlying t = some (.int .i64)) (h : TrodA enc w fuel t cs x) : ∃ n, cs = [.int .i64 n] ∧ I64 n := by
  obtain ⟨n, h1, _, h3⟩ := DataW.trod_int ht h
  exact ⟨n, h1, i64_of_wf h3⟩

/-- A slice, whatever its elements. -/
theorem openSl {α : Type} [Inhabited α] {R : World → Nat → Nat → Nat → α → Prop} {t e fuel sz : Nat} {cs : List Value} {x : DataW H × List MemPlace} (ht : Try.prog.underlying t = some (.slice e)) (hsz : Try.prog.cellsOf e = sz) (hpos : 0 < sz)
    (hby : 8 ≤ Try.prog.bytesOf e)
    (hel : ∀ (fuel b o : Nat) (cs : List Value) (y : DataW H × List MemPlace), (∀ j, j < sz → w.cell? ⟨b, o + j, none⟩ = cs[j]?) → cs.length = sz → TrodA enc w fuel e cs y → Wt e y.1 → ∃ a, R w w.heap.size b o a)
    (h : TrodA enc w fuel t cs x) (hw : Wt t x.1) : ∃ v xs, cs = [v] ∧ SlG sz R w w.heap.size v (xs : List α) := by
  rcases open_slice ht h with ⟨rfl, rfl⟩ | ⟨a, len, cap, m, n, D, Pl, rfl, _, hl, hm, hmm, hx, hi⟩
  · exact ⟨_, [], rfl, SlG.nil⟩
  simp only [if_true] at hmm
  subst hmm
  rw [hx] at hw
  obtain ⟨h1, h2⟩ := Wt.slice hw ht
  rw [hsz] at hi
  have hlen : len ≤ 17592186044416 := by
    simp only [List.length_map, List.length_range, reachBytes] at h1
    have h3 : (len + (m - len)) * 8 ≤ (len + (m - len)) * Try.prog.bytesOf e := Nat.mul_le_mul_left _ hby
    omega
  rcases Nat.eq_zero_or_pos len with h0 | h0
  · subst h0
    exact ⟨_, [], rfl, some a, m, rfl, by simp, by simp only [maxLen] at hm; omega, by simp, fun h => absurd h (by simp)⟩
  · have hspot : a.spot = none := by
      obtain ⟨cs', hc, _⟩ := hi 0 (by omega)
      obtain ⟨_, hlc, hat⟩ := World.cells?_some hc
      have h4 := hat 0 hpos
      rw [List.getElem?_eq_getElem (by omega)] at h4
      have e : (a.add (0 * sz)).add 0 = a := by simp [Addr.add]
      rw [e] at h4
      unfold World.cell? at h4
      split at h4
      · by_cases hs : a.spot.isSome
        · rw [if_pos hs] at h4; cases h4
        · simpa using hs
      · cases h4
    obtain ⟨b, o, sp⟩ := a
    simp only at hspot
    subst hspot
    have hadd : ∀ i, (⟨b, o, none⟩ : Addr).add i = ⟨b, o + i, none⟩ := by
      intro i; unfold Addr.add; split <;> simp_all
    have hR : ∀ i, i < len → ∃ y : α, R w w.heap.size b (o + i * sz) y := by
      intro i hil
      obtain ⟨cs', hc, htr⟩ := hi i (by omega)
      obtain ⟨_, hlc, hat⟩ := World.cells?_some hc
      refine hel n b (o + i * sz) cs' _ (fun j hj => ?_) hlc htr (h2 _ (by simp only [List.mem_map, List.mem_range]; exact ⟨i, hil, rfl⟩))
      have := hat j hj
      rwa [hadd, show (⟨b, o + i * sz, none⟩ : Addr).add j = ⟨b, o + i * sz + j, none⟩ from by unfold Addr.add; split <;> simp_all] at this
    obtain ⟨f, hf⟩ := choose_lt hR
    have hb : b < w.heap.size := by
      obtain ⟨cs', hc, _⟩ := hi 0 (by omega)
      obtain ⟨_, hlc, hat⟩ := World.cells?_some hc
      have h4 := hat 0 hpos
      rw [List.getElem?_eq_getElem (by omega)] at h4
      have := World.block_lt_of_cell? _ _ h4
      simpa [hadd, Addr.add] using this
    refine ⟨_, (List.range len).map f, rfl, some ⟨b, o, none⟩, m, by simp, by simpa using hl, by simp only [maxLen] at hm; omega, by simpa using hlen, fun _ => ⟨b, o, rfl, hb, fun j y hj => ?_⟩⟩
    rw [List.getElem?_map, Option.map_eq_some_iff] at hj
    obtain ⟨i, hi', rfl⟩ := hj
    have hjl := lt_of_some hi'
    simp only [List.length_range] at hjl
    rw [List.getElem?_range hjl] at hi'
    injection hi' with hi'
    subst hi'
    exact hf j hjl
end

/-- The arguments read behind the call as before it. -/
theorem trodAll_kept {H : Type} {enc : TypeId × Value → H} {W W' : World} {sp : Nat → Bool} (hb : Below W.heap.size W W') : ∀ {ts : List TypeId} {vs : List Value} {ds : List (DataW H)} {ps : List MemPlace},
    (∀ t ∈ ts, Try.prog.readableRec t = true ∧ t < Try.prog.types.size) → DataW.TrodAll enc Try.prog W 0 (fun _ => true) true ts vs ds ps → (∀ x ∈ ps, x.block < W.heap.size) → (∀ x ∈ ps, sp x.block = true) → DataW.TrodAll enc Try.prog W' 0 sp true ts vs ds ps
  | [], _, _, _, _, h, _, _ => by
    obtain ⟨rfl, rfl, rfl⟩ := trodAll_nil h
    exact trodAll_mk0
  | t :: ts, vs, ds, ps, hr, h, hlt, hsp => by
    obtain ⟨v, vs', d, ds', p, q, rfl, rfl, rfl, h0, h1⟩ := trodAll_cons h
    have hr0 := hr t (by simp)
    refine trodAll_cons_mk ?_ ?_
    · exact WideElems.Trod_stays laidOutLaw hr0.1 hr0.2 h0 (fun x hx => hb.same (hlt x (by simp [hx]))) (fun x hx => hsp x (by simp [hx]))
    · exact trodAll_kept hb (fun t ht => hr t (by simp [ht])) h1 (fun x hx => hlt x (by simp [hx])) (fun x hx => hsp x (by simp [hx]))

set_option maxRecDepth 100000 in
/-- The row's step for a law: true comes back, and nothing that was there has turned. -/
theorem lift_law {H : Type} {enc : TypeId × Value → H} {os : Os} {f : FuncId} {fn : Func} {s : ChangeSpec} (started : os.Started) (noInit : Try.checked.prog.inits.idxOf? f = none) (hfn : Try.checked.prog.funcs[f]? = some fn)
    (witness : ∃ (w : World) (tape : Tape) (i : Input), w.os = os ∧ (w.forCall tape i).Shaped Try.checked.prog ∧ i.vars = [] ∧ Input.okWide Try.checked.prog (w.forCall tape i) .any w.heap.size f i ∧
      s.pre6 enc Try.checked.prog fn [] false (w.forCall tape i).memory i.args ∧ ({} : Assume).holds Try.checked.prog (lone (Frame.enter Try.checked.prog f i.args .normal) [] (w.forCall tape i)))
    (hvars : s.vars = []) (hres : fn.resultTypes = #[4])
    (hread : ∀ t ∈ fn.params.toList, Try.prog.readableRec t = true ∧ t < Try.prog.types.size)
    (hspec : ∀ ds : List (DataW H), ds.length = fn.params.size → s.fn H (ds ++ []) = { results := [.lit (.bool true)], args := ds })
    (hcalls : ∀ (W : World) (args : Array Value) (ds : List (DataW H)) (ps : List MemPlace) (base : Nat), (∀ (j : Nat) t v, fn.params[j]? = some t → args[j]? = some v → Value.okWide Try.prog W .any base t v) → DataW.TrodAll enc Try.prog W 0 (fun _ => true) true fn.params.toList args.toList ds ps →
      (∀ (j : Nat) t d, fn.params.toList[j]? = some t → ds[j]? = some d → Wt t d) → Calls Try.prog f args W fun e W' => e = .returned (.bool true) ∧ Below W.heap.size W W') :
    ReturnsInHanded {} Try.checked os f .any (s.pre6 enc Try.prog fn [] false) (s.post enc Try.prog fn false true false false) := by
  refine returnsInHanded_of_change_sized (C := Try.checked) ownLaw started noInit hfn witness ?_
  intro W base args ds gs before hval hW _ hsz _
  have hW' := hW
  obtain ⟨p, q, hA, hV, rfl, hfz, hnd⟩ := hW
  rw [hvars] at hV
  obtain ⟨rfl, rfl⟩ := trodVars_none hV
  have hA' : DataW.TrodAll enc Try.prog W 0 (fun _ => true) true fn.params.toList args.toList ds p := hA
  have hlen : ds.length = fn.params.size := by
    have h : ∀ {ts : List TypeId} {vs : List Value} {ds : List (DataW H)} {ps : List MemPlace}, DataW.TrodAll enc Try.prog W 0 (fun _ => true) true ts vs ds ps → ds.length = ts.length := by
      intro ts
      induction ts with
      | nil => intro vs ds ps h; obtain ⟨_, rfl, _⟩ := trodAll_nil h; rfl
      | cons t ts ih => intro vs ds ps h; obtain ⟨v, vs', d, ds', p, q, _, rfl, _, _, h1⟩ := trodAll_cons h; simp [ih h1]
    simpa using h hA'
  have hwt : ∀ (j : Nat) t d, fn.params.toList[j]? = some t → ds[j]? = some d → Wt t d := by
    intro j t d hj hd n hn
    have h := List.all_eq_true.1 hsz n (weightsEach_get (j := j) (t := t) (d := d) (by rw [List.getElem?_append_left (lt_of_some hj)]; exact hj) (by rw [List.getElem?_append_left (lt_of_some hd)]; exact hd) n hn)
    exact (decide_eq_true_iff (p := n ≤ reachBytes)).1 h
  refine (hcalls W args ds p base hval hA' hwt).mono fun e W' ⟨he, hb⟩ => ⟨_, he, ?_⟩
  have hlt : ∀ x ∈ p, x.block < W.heap.size := fun x hx => hW'.lt x (by simp [hx])
  have hsp := hspec ds hlen
  refine ⟨ds, [], _, [], p, [], hW', ?_, ?_, ?_, World.keptBut_mono (fun x hx => ⟨hx, ?_⟩) (hb.frame (· ∈ p ++ [])), fun h => by cases h⟩
  · rw [hres, hsp]
    exact trodAll_mk1 (shut_bool Try.underlying4 _)
  · rw [hsp]
    exact trodAll_kept hb hread hA' hlt (fun x hx => by simpa using hlt x hx)
  · rw [hvars, hsp]; rfl
  · simpa using hx

/-- A field of a struct. -/
theorem structAt {H : Type} {enc : TypeId × Value → H} {w : World} {t T off fuel : Nat} {fs : Array Field} {cs : List Value} {x : DataW H × List MemPlace} (ht : Try.prog.underlying t = some (.struct fs)) (h : TrodA enc w fuel t cs x) (hw : Wt t x.1) (j : Nat)
    (hj : (fs[j]?).map (fun f => (f.type, f.offset)) = some (T, off)) : ∃ n y, TrodA enc w n T ((cs.drop off).take (Try.prog.cellsOf T)) y ∧ Wt T y.1 := by
  obtain ⟨xs, n, _, hx, _, hxl, hf⟩ := DataW.trod_struct ht h
  obtain ⟨f, hfj, e⟩ := Option.map_eq_some_iff.1 hj
  injection e with e1 e2
  subst e1 e2
  have hjl : j < xs.length := by rw [hxl]; exact (Array.getElem?_eq_some_iff.1 hfj).1
  have h1 := hf j f hfj
  rw [List.getElem?_eq_getElem hjl] at h1
  refine ⟨n, xs[j], h1, ?_⟩
  rw [hx] at hw
  exact Wt.struct hw ht hfj (by simp [List.getElem?_eq_getElem hjl])
theorem cellsInt : Try.prog.cellsOf 3 = 1 := by kernel_rfl
theorem cellsInts : Try.prog.cellsOf 22 = 1 := by kernel_rfl
theorem intAt {H : Type} {enc : TypeId × Value → H} {w : World} {t off fuel : Nat} {fs : Array Field} {cs : List Value} {x : DataW H × List MemPlace} (ht : Try.prog.underlying t = some (.struct fs)) (h : TrodA enc w fuel t cs x) (hw : Wt t x.1) (j : Nat)
    (hj : (fs[j]?).map (fun f => (f.type, f.offset)) = some (3, off)) : ∃ n, cs[off]? = some (.int .i64 n) ∧ I64 n := by
  obtain ⟨n, y, h1, _⟩ := structAt ht h hw j hj
  rw [cellsInt] at h1
  obtain ⟨k, e, r⟩ := openI Try.underlying3 h1
  refine ⟨k, ?_, r⟩
  have : ((cs.drop off).take 1)[0]? = some (.int .i64 k) := by rw [e]; rfl
  simpa [List.getElem?_take, List.getElem?_drop] using this

theorem openBar {H : Type} {enc : TypeId × Value → H} {w : World} {t : TypeId} {fs : Array Field} (ht : Try.prog.underlying t = some (.struct fs))
    (h0 : (fs[0]?).map (fun f => (f.type, f.offset)) = some (3, 0)) (h1 : (fs[1]?).map (fun f => (f.type, f.offset)) = some (3, 1)) (h2 : (fs[2]?).map (fun f => (f.type, f.offset)) = some (3, 2)) :
    ∀ (fuel b o : Nat) (cs : List Value) (y : DataW H × List MemPlace), (∀ j, j < 3 → w.cell? ⟨b, o + j, none⟩ = cs[j]?) → cs.length = 3 → TrodA enc w fuel t cs y → Wt t y.1 → ∃ a, RBar w w.heap.size b o a := by
  intro fuel b o cs y hc hl h hw
  obtain ⟨n0, e0, r0⟩ := intAt ht h hw 0 h0
  obtain ⟨n1, e1, r1⟩ := intAt ht h hw 1 h1
  obtain ⟨n2, e2, r2⟩ := intAt ht h hw 2 h2
  exact ⟨(n0, n1, n2), ⟨by rw [← e0]; simpa using hc 0 (by omega), by rw [← e1]; exact hc 1 (by omega), by rw [← e2]; exact hc 2 (by omega)⟩, r0, r1, r2⟩

set_option maxRecDepth 100000 in
/-- Arguments are values of their types; their cells are read. -/
theorem argSl {H : Type} {enc : TypeId × Value → H} {w : World} {t e base : Nat} {v : Value} {d : DataW H} {p : List MemPlace} (ht : Try.prog.underlying t = some (.slice e)) (hv : Value.okWide Try.prog w .any base t v) (h : DataW.Trod enc Try.prog w 0 (fun _ => true) true t v d p) :
    ∃ fuel, TrodA enc w fuel t [v] (d, p) := by
  obtain ⟨a, l, c, rfl⟩ := okWide_slice ht hv
  obtain ⟨fuel, h⟩ := h
  have e : (Value.slice a l c).cells.toList = [.slice a l c] := rfl
  rw [e] at h
  exact ⟨fuel, h⟩

set_option maxRecDepth 100000 in
theorem argInt {H : Type} {enc : TypeId × Value → H} {w : World} {base : Nat} {v : Value} {d : DataW H} {p : List MemPlace} (hv : Value.okWide Try.prog w .any base 3 v) (h : DataW.Trod enc Try.prog w 0 (fun _ => true) true 3 v d p) : ∃ x, v = .int .i64 x ∧ I64 x := by
  obtain ⟨x, rfl, _, _, hw⟩ := open_int Try.underlying3 hv h
  exact ⟨x, rfl, i64_of_wf hw⟩
set_option maxRecDepth 100000 in
theorem elInt {H : Type} {enc : TypeId × Value → H} {w : World} : ∀ (fuel b o : Nat) (cs : List Value) (y : DataW H × List MemPlace), (∀ j, j < 1 → w.cell? ⟨b, o + j, none⟩ = cs[j]?) → cs.length = 1 → TrodA enc w fuel 3 cs y → Wt 3 y.1 → ∃ a, RI w w.heap.size b o a := by
  intro fuel b o cs y hc hl h _
  obtain ⟨n, rfl, r⟩ := openI Try.underlying3 h
  exact ⟨n, by simpa using hc 0 (by omega), r⟩
set_option maxRecDepth 100000 in
theorem openInts {H : Type} {enc : TypeId × Value → H} {w : World} {fuel : Nat} {cs : List Value} {x : DataW H × List MemPlace} (h : TrodA enc w fuel 22 cs x) (hw : Wt 22 x.1) : ∃ v xs, cs = [v] ∧ SlI w w.heap.size v xs :=
  openSl Try.underlying22 (sz := 1) cellsInt (by decide) (of_decide_eq_true (by kernel_rfl)) elInt h hw
set_option maxRecDepth 100000 in
theorem argInts {H : Type} {enc : TypeId × Value → H} {w : World} {base : Nat} {v : Value} {d : DataW H} {p : List MemPlace} (hv : Value.okWide Try.prog w .any base 22 v) (h : DataW.Trod enc Try.prog w 0 (fun _ => true) true 22 v d p) (hw : Wt 22 d) : ∃ xs, SlI w w.heap.size v xs := by
  obtain ⟨f, h⟩ := argSl Try.underlying22 hv h
  obtain ⟨u, xs, e, hx⟩ := openInts h hw
  injection e with e
  subst e
  exact ⟨xs, hx⟩
set_option maxRecDepth 100000 in
/-- A field of one cell. -/
theorem cellAt {H : Type} {enc : TypeId × Value → H} {w : World} {t T off fuel : Nat} {fs : Array Field} {cs : List Value} {x : DataW H × List MemPlace} (ht : Try.prog.underlying t = some (.struct fs)) (h : TrodA enc w fuel t cs x) (hw : Wt t x.1) (j : Nat)
    (hj : (fs[j]?).map (fun f => (f.type, f.offset)) = some (T, off)) (hT : Try.prog.cellsOf T = 1) {α : Type} {R : Value → α → Prop} (hR : ∀ n cs' y, TrodA enc w n T cs' y → Wt T y.1 → ∃ v a, cs' = [v] ∧ R v a) : ∃ v a, cs[off]? = some v ∧ R v a := by
  obtain ⟨n, y, h1, h2⟩ := structAt ht h hw j hj
  rw [hT] at h1
  obtain ⟨v, a, e, r⟩ := hR n _ y h1 h2
  refine ⟨v, a, ?_, r⟩
  have : ((cs.drop off).take 1)[0]? = some v := by rw [e]; rfl
  simpa [List.getElem?_take, List.getElem?_drop] using this
set_option maxRecDepth 100000 in
theorem argAgg {H : Type} {enc : TypeId × Value → H} {w : World} {t base : Nat} {fs : Array Field} {v : Value} {d : DataW H} {p : List MemPlace} (ht : Try.prog.underlying t = some (.struct fs)) (hv : Value.okWide Try.prog w .any base t v) (h : DataW.Trod enc Try.prog w 0 (fun _ => true) true t v d p) :
    ∃ fuel cs, v = .agg cs ∧ cs.size = Try.prog.cellsOf t ∧ TrodA enc w fuel t cs.toList (d, p) := by
  obtain ⟨cs, rfl, hsz⟩ := okWide_struct ht hv
  obtain ⟨fuel, h⟩ := h
  exact ⟨fuel, cs, rfl, hsz, h⟩
end Go.Proofs.Ytjhllgldllbaaaa

/- Matrices among the arguments of a law. -/
namespace Go.Proofs.Ytjhllgldllbaaaa
set_option linter.unusedVariables false
set_option linter.unusedSimpArgs false
open Go.RowKit Go.ChangeShapes Go.WideShapes Go.ChangeAt Go.Deep

set_option maxRecDepth 100000 in
theorem mxAt {H : Type} {enc : TypeId × Value → H} {w : World} {fuel : Nat} {cs : List Value} {x : DataW H × List MemPlace} (h : TrodA enc w fuel 135 cs x) (hw : Wt 135 x.1) :
    ∃ (m : Mx) (s : Value), cs[0]? = some (.int .i64 m.r) ∧ cs[1]? = some (.int .i64 m.c) ∧ cs[2]? = some s ∧ SlI w w.heap.size s m.a ∧ I64 m.r ∧ I64 m.c := by
  obtain ⟨n, e0, r0⟩ := intAt Try.underlying135 h hw 0 rfl
  obtain ⟨k, e1, r1⟩ := intAt Try.underlying135 h hw 1 rfl
  obtain ⟨vf, f, e2, hf⟩ := cellAt Try.underlying135 h hw 2 rfl cellsInts (R := fun v a => SlI w w.heap.size v a) (fun _ _ _ h h' => openInts h h')
  exact ⟨⟨n, k, f⟩, vf, e0, e1, e2, hf, r0, r1⟩
set_option maxRecDepth 100000 in
theorem argMat {H : Type} {enc : TypeId × Value → H} {w : World} {base : Nat} {v : Value} {d : DataW H} {p : List MemPlace} (hv : Value.okWide Try.prog w .any base 135 v) (h : DataW.Trod enc Try.prog w 0 (fun _ => true) true 135 v d p) (hw : Wt 135 d) : ∃ m, MxR w w.heap.size v m := by
  obtain ⟨fuel, cs, rfl, hsz, h⟩ := argAgg Try.underlying135 hv h
  obtain ⟨m, s, e0, e1, e2, hs, r0, r1⟩ := mxAt h hw
  refine ⟨m, s, ?_, hs, r0, r1⟩
  have hs : cs.size = 3 := hsz.trans (by kernel_rfl)
  congr 1
  apply Array.ext_getElem?
  intro i
  match i with
  | 0 => simpa using e0
  | 1 => simpa using e1
  | 2 => simpa using e2
  | i + 3 => rw [Array.getElem?_eq_none (by omega), Array.getElem?_eq_none (by simp)]
end Go.Proofs.Ytjhllgldllbaaaa

/- Representations among the arguments of a law. -/
namespace Go.Proofs.Ytjhllgldllbaaaa
set_option linter.unusedVariables false
set_option linter.unusedSimpArgs false
open Go.RowKit Go.ChangeShapes Go.WideShapes Go.ChangeAt Go.Deep

theorem cellsMx : Try.prog.cellsOf 135 = 3 := by kernel_rfl
theorem cellsMxs : Try.prog.cellsOf 53 = 1 := by kernel_rfl
theorem cellsQv : Try.prog.cellsOf 24 = 3 := by kernel_rfl
set_option maxRecDepth 100000 in
theorem elMx {H : Type} {enc : TypeId × Value → H} {w : World} : ∀ (fuel b o : Nat) (cs : List Value) (y : DataW H × List MemPlace), (∀ j, j < 3 → w.cell? ⟨b, o + j, none⟩ = cs[j]?) → cs.length = 3 → TrodA enc w fuel 135 cs y → Wt 135 y.1 → ∃ a, RMx w w.heap.size b o a := by
  intro fuel b o cs y hc hl h hw
  obtain ⟨m, s, e0, e1, e2, hs, r0, r1⟩ := mxAt h hw
  exact ⟨m, s, by rw [← e0]; simpa using hc 0 (by omega), by rw [← e1]; exact hc 1 (by omega), by rw [← e2]; exact hc 2 (by omega), hs, r0, r1⟩
set_option maxRecDepth 100000 in
theorem openMxs {H : Type} {enc : TypeId × Value → H} {w : World} {fuel : Nat} {cs : List Value} {x : DataW H × List MemPlace} (h : TrodA enc w fuel 53 cs x) (hw : Wt 53 x.1) : ∃ v xs, cs = [v] ∧ SlM w w.heap.size v xs :=
  haveI : Inhabited Mx := ⟨⟨0, 0, []⟩⟩
  openSl Try.underlying53 (sz := 3) cellsMx (by decide) (of_decide_eq_true (by kernel_rfl)) elMx h hw
set_option maxRecDepth 100000 in
theorem argRep {H : Type} {enc : TypeId × Value → H} {w : World} {base : Nat} {v : Value} {d : DataW H} {p : List MemPlace} (hv : Value.okWide Try.prog w .any base 55 v) (h : DataW.Trod enc Try.prog w 0 (fun _ => true) true 55 v d p) (hw : Wt 55 d) : ∃ x, RpR w w.heap.size v x := by
  obtain ⟨fuel, cs, rfl, hsz, h⟩ := argAgg Try.underlying55 hv h
  obtain ⟨pp, e0, r0⟩ := intAt Try.underlying55 h hw 0 rfl
  obtain ⟨n1, y1, h1, w1⟩ := structAt Try.underlying55 h hw 1 (T := 24) (off := 1) rfl
  obtain ⟨vd, dd, e4, hd⟩ := cellAt Try.underlying55 h hw 2 rfl cellsInts (R := fun v a => SlI w w.heap.size v a) (fun _ _ _ h h' => openInts h h')
  obtain ⟨vm, mm, e5, hm⟩ := cellAt Try.underlying55 h hw 3 rfl cellsMxs (R := fun v a => SlM w w.heap.size v a) (fun _ _ _ h h' => openMxs h h')
  rw [cellsQv] at h1
  obtain ⟨vv, e1, r1⟩ := intAt Try.underlying24 h1 w1 0 rfl
  obtain ⟨vf, f, e2, hf⟩ := cellAt Try.underlying24 h1 w1 1 rfl cellsInts (R := fun v a => SlI w w.heap.size v a) (fun _ _ _ h h' => openInts h h')
  obtain ⟨vt, t, e3, ht⟩ := cellAt Try.underlying24 h1 w1 2 rfl cellsInts (R := fun v a => SlI w w.heap.size v a) (fun _ _ _ h h' => openInts h h')
  simp only [List.getElem?_take, List.getElem?_drop, Array.getElem?_toList] at e0 e1 e2 e3 e4 e5
  refine ⟨⟨pp, ⟨vv, f, t⟩, dd, mm⟩, vf, vt, vd, vm, ?_, hf, ht, hd, hm, r0, r1⟩
  have hs : cs.size = 6 := hsz.trans (by kernel_rfl)
  congr 1
  apply Array.ext_getElem?
  intro i
  match i with
  | 0 => simpa using e0
  | 1 => simpa using e1
  | 2 => simpa using e2
  | 3 => simpa using e3
  | 4 => simpa using e4
  | 5 => simpa using e5
  | i + 6 => rw [Array.getElem?_eq_none (by omega), Array.getElem?_eq_none (by simp)]
end Go.Proofs.Ytjhllgldllbaaaa

/- Facts of the whole program that every row asks for, each met once for the seat. -/
namespace Go.Proofs.Ytjhllgldllbaaaa
set_option linter.unusedVariables false
set_option linter.unusedSimpArgs false
open Go.RowKit

theorem seatEnter : Try.prog.mayEnter = true := by kernel_rfl
theorem seatLifts : (false == Try.prog.liftsFinal) = true := by kernel_rfl
theorem seatMake : (Try.prog.make == some .cut) = true := by kernel_rfl
theorem band {a b : Bool} (h : a = true) (k : b = true) : (a && b) = true := by rw [h, k]; rfl
end Go.Proofs.Ytjhllgldllbaaaa

/- FnExactRankTable is proved: for every argument the program's RankTable returns what the reference's returns, leaves its arguments as they were, and returns memory of its own. No condition. -/
namespace Go.Proofs.Ytjhllgldllbaaaa
set_option linter.unusedVariables false
set_option linter.unusedSimpArgs false
open Go.RowKit Go.ChangeShapes Go.WideShapes Go.ChangeAt Go.Deep

set_option maxRecDepth 100000 in
theorem rankTable_lifted (os : Os) (started : os.Started) (H : Type) (enc : TypeId × Value → H) :
    ReturnsInHanded {} Try.checked os 14 .any (Rows.fnExactRankTableSpec.pre6 enc Try.prog Try.f14 Rows.fnExactRankTableRow.domain false) (Rows.fnExactRankTableSpec.post enc Try.prog Try.f14 false true false false) := by
  refine lift_law started (by kernel_rfl) Try.func14 (ChangeSpec.witness6 (enc := enc) (C := Try.checked) false ⟨#[], #[.agg #[.int .i64 0, .int .i64 0, .slice none 0 0, .slice none 0 0, .slice none 0 0, .slice none 0 0]], []⟩ 8 (by kernel_rfl) (by kernel_rfl) (by kernel_rfl) (by kernel_rfl))
    rfl rfl (by rw [Try.params14]; intro t ht; simp only [List.mem_cons, List.not_mem_nil, or_false] at ht; rcases ht with rfl <;> exact ⟨by kernel_rfl, of_decide_eq_true (by kernel_rfl)⟩) (fun ds hl => by rw [Try.params14] at hl; match ds, hl with | [_], _ => rfl) ?_
  intro W args ds ps base hval hA hwt
  rw [Try.params14] at hA hval hwt
  obtain ⟨v0, d0, hargs, rfl, h0⟩ := trodAll_one hA
  obtain rfl : args = #[v0] := by cases args; simp_all
  obtain ⟨x0, r0⟩ := argRep (hval 0 _ _ rfl rfl) h0 (hwt 0 _ _ rfl rfl)
  exact lawRankTable_any _ _ W r0

theorem rankTable_closed : joinedFacts Try.prog 14 Try.f14 Rows.fnExactRankTableSpec Rows.fnExactRankTableRow = true := by
  unfold joinedFacts
  refine band (band (band (band (band (band (band ?_ seatEnter) seatLifts) seatMake) ?_) ?_) ?_) ?_ <;> kernel_rfl

theorem rankTable_holds : Rows.FnExactRankTableSaid :=
  OpenClaim.holds_of_wide 14 Try.f14 rfl rfl rfl rfl rfl rfl rfl ⟨rfl, rfl, rfl, rfl, rfl⟩ rfl rfl rfl rfl rfl (by kernel_rfl) Try.func14 rankTable_closed
    (of_decide_eq_true (by kernel_rfl)) (by unfold Func.isWrapper; first | (rw [if_pos (by decide +kernel)]; kernel_rfl) | (rw [if_neg (by decide +kernel)]; exact ⟨rfl, rfl⟩))
    (fun os started H enc _ => rankTable_lifted os started H enc)
#print axioms rankTable_holds
end Go.Proofs.Ytjhllgldllbaaaa
