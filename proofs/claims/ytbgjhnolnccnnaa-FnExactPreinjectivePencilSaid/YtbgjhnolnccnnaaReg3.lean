/- RegularPencil: the program's, where the arguments fit; both, whatever the arguments. -/
import Derived.Test.YtbgjhnolnccnnaaReg2
namespace Go.Proofs.Ytbgjhnolnccnnaa
set_option linter.unusedVariables false
set_option linter.unusedSimpArgs false
open Go.RowKit
set_option maxHeartbeats 6400000 in
set_option maxRecDepth 100000 in
theorem implReg_yes (p n k : Int) (w0 : World) (hp : I64 p) (hn : I64 n) (hk : I64 k) (hyes : regOk p n k = true) :
    Calls Try.prog 34 #[.int .i64 p, .int .i64 n, .int .i64 k] w0 fun e w' => ∃ r, e = .returned (.tuple #[r, .bool (regP p n k).2]) ∧ RepO w' w0.heap.size w'.heap.size r (regP p n k).1 ∧ Below w0.heap.size w0 w' := by
  obtain ⟨W, hW⟩ : ∃ W, W = w0.alloc (.cells #[.int .i64 0, .int .i64 0, .slice none 0 0, .slice none 0 0, .slice none 0 0, .slice none 0 0] 40) := ⟨_, rfl⟩
  have g0 : Below w0.heap.size w0 W := by rw [hW]; exact below_alloc _ _
  have kR : Blk W w0.heap.size 40 #[.int .i64 0, .int .i64 0, .slice none 0 0, .slice none 0 0, .slice none 0 0, .slice none 0 0] := by rw [hW]; exact Blk.new _ _ _
  have sz : W.heap.size = w0.heap.size + 1 := by rw [hW]; simp
  have SZ := Lib.hid sz
  have KR := Lib.hid kR
  have G0 := Lib.hid g0
  have HF := Lib.hid (regP_yes hyes)
  unfold regOk at hyes
  simp only [Bool.and_eq_true] at hyes
  obtain ⟨h1, h2, h3⟩ := hyes
  have b1 := isFld_r h1
  obtain ⟨n1, n2⟩ := inR_t.1 h2
  obtain ⟨N, rfl⟩ := Int.eq_ofNat_of_zero_le (show 0 ≤ n by omega)
  have H1 := Lib.hid h1
  have H2 := Lib.hid h2
  have H3 := Lib.hid h3
  clear h1 h2 h3 sz kR g0
  go_enter Try.func34, Try.ntmps34
  go_wp2_with fail
  rw [← hW]; clear hW
  refine (implIsField_any _ _).mono ?_; rintro e w1 ⟨rfl, rfl⟩
  rw [H1.out]
  go_wp2_with fail
  refine (within_any _ _ _ _).mono ?_; rintro e w2 ⟨rfl, rfl⟩
  rw [H2.out]
  go_wp2_with fail
  refine (within_any _ _ _ _).mono ?_; rintro e wz ⟨rfl, rfl⟩
  rw [H3.out]
  go_wp2_with fail
  refine (zero_any (N : Int) N wz (by omega) (by omega) (by omega) (by omega)).mono ?_; rintro e w1 ⟨v1, rfl, ⟨sA, rfl, oA, hr, hc⟩, hb1⟩
  rw [zmx_flat] at oA hr hc ⊢
  simp only [mxF] at oA hr hc ⊢
  rw [regK_0 k] at oA
  obtain ⟨A1, c1, e1⟩ := oA.form
  obtain ⟨L, hL⟩ : ∃ L, N * N = L := ⟨_, rfl⟩
  rw [flat_length, hL] at e1
  subst e1
  have HL := Lib.hid hL
  clear hL
  have s1 := hb1.size
  obtain ⟨W4, hW4⟩ : ∃ W4, W4 = w1.alloc (.cells #[.int .i64 N, .int .i64 N, .slice A1 L c1] 60) := ⟨_, rfl⟩
  have b4 : Below w1.heap.size w1 W4 := by rw [hW4]; exact below_alloc _ _
  have k4 : Blk W4 w1.heap.size 60 #[.int .i64 N, .int .i64 N, .slice A1 L c1] := by rw [hW4]; exact Blk.new _ _ _
  have oA := oA.below b4
  have gW := bthen hb1 b4
  clear b4 hb1
  go_wp2
  rw [← hW4]; clear hW4
  go_loopw [9, 30] (fun q i wr => ∃ j : Nat, j ≤ N ∧ i = .int .i64 j ∧ Blk wr w1.heap.size 60 #[.int .i64 N, .int .i64 N, .slice A1 L c1] ∧ IntsO wr wz.heap.size w1.heap.size (.slice A1 L c1) (flat N N (regK k j)) ∧ Below wz.heap.size wz wr) (fun _ i _ => N - (intOf i).toNat)
  case atStart => exact ⟨0, Nat.zero_le _, rfl, k4, oA, gW⟩
  case round =>
    clear k4 oA gW
    obtain ⟨j, hj, rfl, k4, oA, gW⟩ := hrel
    have s6 := gW.size
    by_cases hlt : j < N
    · obtain ⟨P, J, hP, hPJ, hJ, hJN, hJb⟩ := ix_walk hlt hlt (show N ≤ 1000 by omega) (by omega)
      rw [HL.out] at hJN
      have hst := regH_of k hlt
      rw [← hJ] at hst
      subst hPJ
      have hPn := ix_next hlt (show N ≤ 1000 by omega) (show N ≤ 1000 by omega) hP
      rw [HL.out] at hPn
      obtain ⟨hPm, hP2, hPL, _⟩ := hPn
      obtain ⟨gA, cA, eA, a1, a2, a3⟩ := oA.at_ (by rw [flat_length, HL.out]; omega)
      rw [flat_length, HL.out] at eA
      injection eA with eA1 eA2 eA3
      subst eA1 eA3
      obtain ⟨_, cL, eL, lA1, lA2⟩ := oA.1.form
      injection eL with eLx eLy eL3
      rw [← eL3, flat_length, HL.out] at lA1
      rw [← eL3] at lA2
      clear eLx eLy eL3 hPm
      have r0 := k4.cell' (i := 0) rfl
      have r1 := k4.cell' (i := 1) rfl
      have r2 := k4.cell' (i := 2) rfl
      have HP := Lib.hid hP
      have HP2 := Lib.hid hP2
      have HST := Lib.hid hst
      clear hP hP2 hJ hst
      go_wp2_with fail
      refine (row_at _ N j P L _ gA _ HP.out HP2.out hPL lA1 lA2 (by omega) (by omega)).mono ?_; rintro e w7 ⟨rfl, hb7⟩
      have k4 := k4.call hb7
      have oA := oA.below hb7
      have gW := bthen gW hb7
      have s6 := gW.size
      have s7 := hb7.size
      clear r0 r1 r2 hb7
      have hst := HST.out
      by_cases hl2 : j + 1 < N
      · have hst2 := regK_of k hl2
        obtain ⟨P', J', hP', hPJ', hJ', hJN', hJb'⟩ := ix_walk hlt hl2 (show N ≤ 1000 by omega) (by omega)
        rw [HL.out] at hJN'
        rw [HP.out] at hP'
        have hPP : P = P' := by omega
        subst hPP
        rw [← hJ', ← hPJ'] at hst2
        have hJ3 : P + j + 1 < L := by omega
        clear hP' hPJ' hJ'
        have fA := oA.1.frozenG (P + j)
        have cA := (oA.1.cellG (j := P + j) (by rw [flat_length, HL.out]; omega)).1
        have hc1 : Chg wz.heap.size w1.heap.size w7 (w7.setCell ⟨gA, P + j, none⟩ (.int .i64 k)) := chg_set a1 (by omega)
        have o2 := oA.put (j := P + j) (x := k) hk
        rw [hst] at o2
        have k5 := k4.chg hc1 (by omega)
        have g5 := gW.trans (hc1.below (Nat.le_refl _) s6)
        clear k4 oA gW hc1
        have y0 := k5.cell' (i := 0) rfl
        have y1 := k5.cell' (i := 1) rfl
        have y2 := k5.cell' (i := 2) rfl
        have HST2 := Lib.hid hst2
        clear hst hst2
        obtain ⟨X1, hX1⟩ : ∃ u, u = w7.setCell ⟨gA, P + j, none⟩ (.int .i64 k) := ⟨_, rfl⟩
        rw [← hX1] at o2 k5 g5
        have sX1 : w7.heap.size ≤ X1.heap.size := by rw [hX1]; simp
        go_wp2_with fail
        rw [← hX1]
        clear hX1 fA cA y0 y1 y2
        refine (row_at _ N j P L _ gA _ HP.out HP2.out hPL lA1 lA2 (by omega) (by omega)).mono ?_; rintro e w8 ⟨rfl, hb8⟩
        have k4 := k5.call hb8
        have oA := o2.below hb8
        have gW := bthen g5 hb8
        have s8 := hb8.size
        have cB := (oA.1.cellG (j := P + (j + 1)) (by rw [flat_length, HL.out]; omega)).1
        have fB := oA.1.frozenG (P + (j + 1))
        have hc2 : Chg wz.heap.size w1.heap.size w8 (w8.setCell ⟨gA, P + (j + 1), none⟩ (.int .i64 1)) := chg_set a1 (by omega)
        have o3 := oA.put (j := P + (j + 1)) (x := 1) (by simp [I64])
        rw [HST2.out] at o3
        have O3 := Lib.hid o3
        have K6 := Lib.hid (k4.chg hc2 (by omega))
        have G6 := Lib.hid (gW.trans (hc2.below (Nat.le_refl _) (by omega)))
        clear k5 o2 o3 g5 hc2 k4 oA gW hb8
        go_wp2
        go_roundw
        case rel => exact ⟨j + 1, by omega, by go_num, K6.out, O3.out, G6.out⟩
        case measure => simp [intOf]; omega
      · have fA := oA.1.frozenG (P + j)
        have cA := (oA.1.cellG (j := P + j) (by rw [flat_length, HL.out]; omega)).1
        have hc1 : Chg wz.heap.size w1.heap.size w7 (w7.setCell ⟨gA, P + j, none⟩ (.int .i64 k)) := chg_set a1 (by omega)
        have o2 := oA.put (j := P + j) (x := k) hk
        rw [hst] at o2
        have k5 := k4.chg hc1 (by omega)
        have g5 := gW.trans (hc1.below (Nat.le_refl _) s6)
        clear k4 oA gW hc1
        rw [regK_last k (by omega)] at o2
        have O3 := Lib.hid o2
        have K6 := Lib.hid k5
        have G6 := Lib.hid g5
        clear hst k5 o2 g5
        go_wp2
        go_roundw
        case rel => exact ⟨j + 1, by omega, by go_num, K6.out, O3.out, G6.out⟩
        case measure => simp [intOf]; omega
    · obtain rfl : j = N := by omega
      rw [regK_n] at oA
      have HM := Lib.hid (show MxR wr wr.heap.size (.agg #[.int .i64 j, .int .i64 j, .slice A1 L c1]) (mxF j j (regF k)) from ⟨_, rfl, oA.rd, hr, hc⟩)
      have GF := Lib.hid (G0.out.trans (gW.mono (G0.out).size))
      obtain ⟨R, hR⟩ : ∃ R, R = penOf p (mxF j j idF) (mxF j j (regF k)) := ⟨_, rfl⟩
      have HR := Lib.hid hR
      have HKR := Lib.hid (KR.out.below gW (by have := SZ.out; omega))
      have HRF := Lib.hid (show regP p j k = R from by rw [HF.out, hR]; rfl)
      clear oA hR gW
      go_wp2_with fail
      refine wp_region_net (by kernel_rfl) [.eq (.int .i64 p), .eq (.int .i64 j), rel 2 (fun u lo hi w => MxO w lo hi u (mxF j j idF)), .eq (.agg #[.int .i64 j, .int .i64 j, .slice A1 L c1]), .rel (fun x w => ∃ A a C c E e H h, x.v 4 = .tuple #[.agg #[.int .i64 R.1.p, .int .i64 R.1.q.v, .slice A R.1.q.f.length a, .slice C R.1.q.t.length c, .slice E R.1.d.length e, .slice H R.1.m.length h], .bool R.2] ∧ RepO w (x.lo 4) (x.hi 4) (.agg #[.int .i64 R.1.p, .int .i64 R.1.q.v, .slice A R.1.q.f.length a, .slice C R.1.q.t.length c, .slice E R.1.d.length e, .slice H R.1.m.length h]) R.1), .rel (fun x w => ∃ A a C c E e H h, x.v 5 = .agg #[.int .i64 R.1.p, .int .i64 R.1.q.v, .slice A R.1.q.f.length a, .slice C R.1.q.t.length c, .slice E R.1.d.length e, .slice H R.1.m.length h] ∧ RepO w (x.lo 4) (x.hi 4) (.agg #[.int .i64 R.1.p, .int .i64 R.1.q.v, .slice A R.1.q.f.length a, .slice C R.1.q.t.length c, .slice E R.1.d.length e, .slice H R.1.m.length h]) R.1), .eq (.bool R.2)] [[], [], [1], [], [0, 1, 2, 3], [0, 1, 2, 3, 4], [0, 1, 2, 3, 4], [0, 1, 2, 3, 4, 5, 6], [0, 1, 2, 3, 4, 5, 6, 7]] 7 (by kernel_rfl) ⟨trivial, trivial, rel_stable (fun u lo hi w w' h hb => h.below hb), trivial, fun x w w' ⟨A, a, C, c, E, e, H, h, e1, h1⟩ hb => ⟨A, a, C, c, E, e, H, h, e1, h1.below hb⟩, fun x w w' ⟨A, a, C, c, E, e, H, h, e1, h1⟩ hb => ⟨A, a, C, c, E, e, H, h, e1, h1.below hb⟩, trivial, trivial⟩ ⟨?_, ?_, ?_, ?_, ?_, ?_, ?_, trivial⟩ ?_
      · intro x w hb hk Q' hQ
        clear hk
        simp only [netAct, dstAt, List.getElem?_toArray, List.getElem?_cons_zero, List.getElem?_cons_succ, Option.bind_some, Act.put, List.setIfInBounds_toArray, List.set_cons_zero, List.set_cons_succ] at hQ ⊢
        go_wp2
        exact hQ (.int .i64 p) _ (Below.refl _ _) rfl
      · intro x w hb hk Q' hQ
        clear hk
        simp only [netAct, dstAt, List.getElem?_toArray, List.getElem?_cons_zero, List.getElem?_cons_succ, Option.bind_some, Act.put, List.setIfInBounds_toArray, List.set_cons_zero, List.set_cons_succ] at hQ ⊢
        go_wp2
        exact hQ (.int .i64 j) _ (Below.refl _ _) rfl
      · intro x w hb hk Q' hQ
        have h1 : x.v 1 = .int .i64 j := (hk 1 (by decide)).1
        clear hk
        simp only [netAct, dstAt, List.getElem?_toArray, List.getElem?_cons_zero, List.getElem?_cons_succ, Option.bind_some, Act.put, List.setIfInBounds_toArray, List.set_cons_zero, List.set_cons_succ] at hQ ⊢
        simp only [h1] at hQ ⊢
        clear h1
        go_wp2_with fail
        refine (identity_any j _ (by omega)).mono ?_; rintro e w5 ⟨v5, rfl, hO5, hb5⟩
        go_wp2
        exact hQ _ _ hb5 hO5
      · intro x w hb hk Q' hQ
        clear hk
        simp only [netAct, dstAt, List.getElem?_toArray, List.getElem?_cons_zero, List.getElem?_cons_succ, Option.bind_some, Act.put, List.setIfInBounds_toArray, List.set_cons_zero, List.set_cons_succ] at hQ ⊢
        have z0 := (k4.call hb).cell' (i := 0) rfl
        have z1 := (k4.call hb).cell' (i := 1) rfl
        have z2 := (k4.call hb).cell' (i := 2) rfl
        go_wp2
        exact hQ (.agg #[.int .i64 j, .int .i64 j, .slice A1 L c1]) _ (Below.refl _ _) rfl
      · intro x w hb hk Q' hQ
        have h0 : x.v 0 = .int .i64 p := (hk 0 (by decide)).1
        have h1 : x.v 1 = .int .i64 j := (hk 1 (by decide)).1
        have h2 : MxO w (x.lo 2) (x.hi 2) (x.v 2) (mxF j j idF) := (hk 2 (by decide)).1
        have h3 : x.v 3 = .agg #[.int .i64 j, .int .i64 j, .slice A1 L c1] := (hk 3 (by decide)).1
        have s2 := (hk 2 (by decide)).2
        clear hk
        simp only [netAct, dstAt, List.getElem?_toArray, List.getElem?_cons_zero, List.getElem?_cons_succ, Option.bind_some, Act.put, List.setIfInBounds_toArray, List.set_cons_zero, List.set_cons_succ] at hQ ⊢
        simp only [h0, h1, h3] at hQ ⊢
        clear h0 h1 h3
        obtain ⟨A2, c2, e2⟩ := h2.form
        simp only [mxF] at e2
        rw [e2] at h2 hQ ⊢
        rw [HR.out] at hQ
        go_wp2_with fail
        refine (implPencilOf_any p _ _ _ (mxF j j (regF k)) _ hp h2.rd (MxR.more hb.size (MxR.below hb HM.out))).mono ?_; rintro e w5 ⟨v5, rfl, hO5, hb5⟩
        have HO5 := Lib.hid hO5
        obtain ⟨A, a, C, c, E, e, H, h, e5⟩ := hO5.form
        subst e5
        clear hO5
        go_wp2
        exact hQ _ _ hb5 ⟨A, a, C, c, E, e, H, h, rfl, HO5.out⟩
      · intro x w hb hk Q' hQ
        have h0 : x.v 0 = .int .i64 p := (hk 0 (by decide)).1
        have h1 : x.v 1 = .int .i64 j := (hk 1 (by decide)).1
        have h2 : MxO w (x.lo 2) (x.hi 2) (x.v 2) (mxF j j idF) := (hk 2 (by decide)).1
        have h3 : x.v 3 = .agg #[.int .i64 j, .int .i64 j, .slice A1 L c1] := (hk 3 (by decide)).1
        have h4 : ∃ A a C c E e H h, x.v 4 = .tuple #[.agg #[.int .i64 R.1.p, .int .i64 R.1.q.v, .slice A R.1.q.f.length a, .slice C R.1.q.t.length c, .slice E R.1.d.length e, .slice H R.1.m.length h], .bool R.2] ∧ RepO w (x.lo 4) (x.hi 4) (.agg #[.int .i64 R.1.p, .int .i64 R.1.q.v, .slice A R.1.q.f.length a, .slice C R.1.q.t.length c, .slice E R.1.d.length e, .slice H R.1.m.length h]) R.1 := (hk 4 (by decide)).1
        have s2 := (hk 2 (by decide)).2
        have s4 := (hk 4 (by decide)).2
        clear hk
        simp only [netAct, dstAt, List.getElem?_toArray, List.getElem?_cons_zero, List.getElem?_cons_succ, Option.bind_some, Act.put, List.setIfInBounds_toArray, List.set_cons_zero, List.set_cons_succ] at hQ ⊢
        simp only [h0, h1, h3] at hQ ⊢
        clear h0 h1 h3
        obtain ⟨A, a, C, c, E, e, H, h, e4, ho⟩ := h4
        have hQ' := hQ (.agg #[.int .i64 R.1.p, .int .i64 R.1.q.v, .slice A R.1.q.f.length a, .slice C R.1.q.t.length c, .slice E R.1.d.length e, .slice H R.1.m.length h]) w (Below.refl _ _) ⟨A, a, C, c, E, e, H, h, rfl, ho⟩
        rw [e4] at hQ' ⊢
        go_wp2
        exact hQ'
      · intro x w hb hk Q' hQ
        have h4 : ∃ A a C c E e H h, x.v 4 = .tuple #[.agg #[.int .i64 R.1.p, .int .i64 R.1.q.v, .slice A R.1.q.f.length a, .slice C R.1.q.t.length c, .slice E R.1.d.length e, .slice H R.1.m.length h], .bool R.2] ∧ RepO w (x.lo 4) (x.hi 4) (.agg #[.int .i64 R.1.p, .int .i64 R.1.q.v, .slice A R.1.q.f.length a, .slice C R.1.q.t.length c, .slice E R.1.d.length e, .slice H R.1.m.length h]) R.1 := (hk 4 (by decide)).1
        clear hk
        simp only [netAct, dstAt, List.getElem?_toArray, List.getElem?_cons_zero, List.getElem?_cons_succ, Option.bind_some, Act.put, List.setIfInBounds_toArray, List.set_cons_zero, List.set_cons_succ] at hQ ⊢
        obtain ⟨A, a, C, c, E, e, H, h, e4, ho⟩ := h4
        rw [e4] at hQ ⊢
        go_wp2
        exact hQ (.bool R.2) _ (Below.refl _ _) rfl
      · intro x w hb hk hiv hdj
        have h0 : x.v 0 = .int .i64 p := hk 0 (by decide)
        have h1 : x.v 1 = .int .i64 j := hk 1 (by decide)
        have h2 : MxO w (x.lo 2) (x.hi 2) (x.v 2) (mxF j j idF) := hk 2 (by decide)
        have h3 : x.v 3 = .agg #[.int .i64 j, .int .i64 j, .slice A1 L c1] := hk 3 (by decide)
        have h4 : ∃ A a C c E e H h, x.v 4 = .tuple #[.agg #[.int .i64 R.1.p, .int .i64 R.1.q.v, .slice A R.1.q.f.length a, .slice C R.1.q.t.length c, .slice E R.1.d.length e, .slice H R.1.m.length h], .bool R.2] ∧ RepO w (x.lo 4) (x.hi 4) (.agg #[.int .i64 R.1.p, .int .i64 R.1.q.v, .slice A R.1.q.f.length a, .slice C R.1.q.t.length c, .slice E R.1.d.length e, .slice H R.1.m.length h]) R.1 := hk 4 (by decide)
        have h5 : ∃ A a C c E e H h, x.v 5 = .agg #[.int .i64 R.1.p, .int .i64 R.1.q.v, .slice A R.1.q.f.length a, .slice C R.1.q.t.length c, .slice E R.1.d.length e, .slice H R.1.m.length h] ∧ RepO w (x.lo 4) (x.hi 4) (.agg #[.int .i64 R.1.p, .int .i64 R.1.q.v, .slice A R.1.q.f.length a, .slice C R.1.q.t.length c, .slice E R.1.d.length e, .slice H R.1.m.length h]) R.1 := hk 5 (by decide)
        have h6 : x.v 6 = .bool R.2 := hk 6 (by decide)
        clear hk
        simp only [netAct, dstAt, List.getElem?_toArray, List.getElem?_cons_zero, List.getElem?_cons_succ, Option.bind_some, Act.put, List.setIfInBounds_toArray, List.set_cons_zero, List.set_cons_succ]
        simp only [List.drop_succ_cons, List.drop_zero, h0, h1, h3, h6]
        clear h0 h1 h3 h6
        obtain ⟨A, a, C, c, E, e, H, h, e5, ho⟩ := h5
        obtain ⟨l4, _, l4h⟩ := hiv 4 (by decide)
        rw [e5]
        clear hiv hdj e5 h4 h2
        have sz := SZ.out
        have kX := HKR.out.call hb
        have gX := (GF.out).trans (hb.mono (GF.out).size)
        have gXs := gX.size
        have hbs := hb.size
        have gfs := (GF.out).size
        have fr := kX.frozen
        have p0 := kX.cell' (i := 0) rfl
        have p1 := kX.cell' (i := 1) rfl
        have p2 := kX.cell' (i := 2) rfl
        have p3 := kX.cell' (i := 3) rfl
        have p4 := kX.cell' (i := 4) rfl
        have p5 := kX.cell' (i := 5) rfl
        have hc6 := chg6 w w0.heap.size (.int .i64 R.1.p) (.int .i64 R.1.q.v) (.slice A R.1.q.f.length a) (.slice C R.1.q.t.length c) (.slice E R.1.d.length e) (.slice H R.1.m.length h)
        have OF := Lib.hid (RepO.wider (ho.chg hc6 (.inr (by omega))) (lo' := w0.heap.size) (by omega) (hi' := w.heap.size) (by omega))
        have GF2 := Lib.hid (gX.trans (hc6.below (Nat.le_refl _) gX.size))
        clear ho hc6 gX kX k4 hb sz gXs hbs gfs l4 l4h
        go_wp2
        exact bodyPost_ret (v := .tuple #[.agg #[.int .i64 R.1.p, .int .i64 R.1.q.v, .slice A R.1.q.f.length a, .slice C R.1.q.t.length c, .slice E R.1.d.length e, .slice H R.1.m.length h], .bool R.2]) (by simp [results, go_sem, p0, p1, p2, p3, p4, p5]) rfl ⟨_, by rw [HRF.out], by rw [HRF.out]; exact RepO.wider OF.out (Nat.le_refl _) (by simp), GF2.out⟩
/-- nothing of the arguments is asked -/
theorem specRegularPencil_any (p n k : Int) (w0 : World) (hp : I64 p) (hn : I64 n) (hk : I64 k) :
    Calls Try.prog 33 #[.int .i64 p, .int .i64 n, .int .i64 k] w0 fun e w' => ∃ r, e = .returned (.tuple #[r, .bool (regP p n k).2]) ∧ RepO w' w0.heap.size w'.heap.size r (regP p n k).1 ∧ Below w0.heap.size w0 w' := by
  rcases h : regOk p n k with _ | _
  · exact specReg_no p n k w0 hp hn hk h
  · exact specReg_yes p n k w0 hp hn hk h
theorem implRegularPencil_any (p n k : Int) (w0 : World) (hp : I64 p) (hn : I64 n) (hk : I64 k) :
    Calls Try.prog 34 #[.int .i64 p, .int .i64 n, .int .i64 k] w0 fun e w' => ∃ r, e = .returned (.tuple #[r, .bool (regP p n k).2]) ∧ RepO w' w0.heap.size w'.heap.size r (regP p n k).1 ∧ Below w0.heap.size w0 w' := by
  rcases h : regOk p n k with _ | _
  · exact implReg_no p n k w0 hp hn hk h
  · exact implReg_yes p n k w0 hp hn hk h
end Go.Proofs.Ytbgjhnolnccnnaa
