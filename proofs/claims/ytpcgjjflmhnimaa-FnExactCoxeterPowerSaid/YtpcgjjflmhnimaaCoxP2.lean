/- The reference's CoxeterPower and CoxeterOf. -/
import Derived.Test.YtpcgjjflmhnimaaCoxP
namespace Go.Proofs.Ytpcgjjflmhnimaa
set_option linter.unusedVariables false
set_option linter.unusedSimpArgs false
open Go.RowKit



set_option maxHeartbeats 3200000 in
set_option maxRecDepth 20000 in
theorem specCoxeterPower_any (u : Value) (q : Qv) (xv : Value) (x : List Int) (n : Int) (w : World) (hu : QvR w w.heap.size u q) (hx : SlI w w.heap.size xv x) (hn : I64 n) :
    Calls Try.prog 55 #[u, xv, .int .i64 n] w fun e w' => ∃ r, e = .returned (.tuple #[r, .bool (coxP q x n).2]) ∧ IntsO w' w.heap.size w'.heap.size r (coxP q x n).1 ∧ Below w.heap.size w w' := by
  obtain ⟨A, c, C, d, eu⟩ := hu.form
  subst eu
  obtain ⟨XA, xc, rfl, _, _, lx, hx⟩ := hx.open_
  obtain ⟨W, hW⟩ : ∃ W, W = w.alloc (.cells #[.int .i64 q.v, .slice A q.f.length c, .slice C q.t.length d] 29) := ⟨_, rfl⟩
  have g0 : Below w.heap.size w W := by rw [hW]; exact below_alloc _ _
  have kB : Blk W w.heap.size 29 #[.int .i64 q.v, .slice A q.f.length c, .slice C q.t.length d] := by rw [hW]; exact Blk.new _ _ _
  have hlt0 : w.heap.size < W.heap.size := kB.lt
  have KB := Lib.hid kB
  have c0 := kB.cell' (i := 0) rfl
  have c1 := kB.cell' (i := 1) rfl
  have c2 := kB.cell' (i := 2) rfl
  have h0 := QvR.next g0 hu
  have hx0 := SlI.next g0 hx
  clear hu hx
  obtain ⟨ol, hol⟩ : ∃ l, (ordQ q).1 = l := ⟨_, rfl⟩
  have HOL := Lib.hid hol
  clear hol
  rcases hB1 : (ordQ q).2 with _ | _
  · have hF : Hid (coxP q x n = ([], false)) := by show _ = _; simp [coxP, hB1]
    go_enter Try.func55, Try.ntmps55
    go_wp2_with fail
    rw [← hW]; clear hW
    refine (specCoxeterOrder_any _ q _ h0).mono ?_; rintro e W9 ⟨ov, rfl, hO9, hb9⟩
    rw [HOL.out] at hO9
    obtain ⟨oA, oc, eov⟩ := hO9.1.form2
    subst eov
    rw [List.length_reverse] at hO9
    clear c0 c1 c2
    rw [hB1]
    have kB9 := kB.call hb9
    have c0 := kB9.cell' (i := 0) rfl
    have c1 := kB9.cell' (i := 1) rfl
    have c2 := kB9.cell' (i := 2) rfl
    have g1 := bthen g0 hb9
    go_wp2
    exact bodyPost_ret (v := .tuple #[.slice (some ⟨W9.heap.size, 0, none⟩) 0 0, .bool false]) (by simp [results, go_sem]) rfl ⟨_, by rw [hF.out], by rw [hF.out]; exact IntsO.made_ _ g1.size, g1.alloc g1.size _⟩
  rcases hB3 : inR n (-40) 40 with _ | _
  · have hF : Hid (coxP q x n = ([], false)) := by show _ = _; simp [coxP, hB3]
    have H3 := Lib.hid hB3
    clear hB3
    go_enter Try.func55, Try.ntmps55
    go_wp2_with fail
    rw [← hW]; clear hW
    refine (specCoxeterOrder_any _ q _ h0).mono ?_; rintro e W9 ⟨ov, rfl, hO9, hb9⟩
    rw [HOL.out] at hO9
    obtain ⟨oA, oc, eov⟩ := hO9.1.form2
    subst eov
    rw [List.length_reverse] at hO9
    clear c0 c1 c2
    rw [hB1]
    have kB9 := kB.call hb9
    have c0 := kB9.cell' (i := 0) rfl
    have c1 := kB9.cell' (i := 1) rfl
    have c2 := kB9.cell' (i := 2) rfl
    have g1 := bthen g0 hb9
    go_wp2_with fail
    refine (l1In_any _ _ _ _).mono ?_; rintro e w1 ⟨rfl, rfl⟩
    rw [H3.out]
    go_wp2
    exact bodyPost_ret (v := .tuple #[.slice (some ⟨w1.heap.size, 0, none⟩) 0 0, .bool false]) (by simp [results, go_sem]) rfl ⟨_, by rw [hF.out], by rw [hF.out]; exact IntsO.made_ _ g1.size, g1.alloc g1.size _⟩
  rcases hB2 : isNum q x with _ | _
  · have hF : Hid (coxP q x n = ([], false)) := by show _ = _; simp [coxP, hB2]
    have H2 := Lib.hid hB2
    have H3 := Lib.hid hB3
    clear hB2 hB3
    go_enter Try.func55, Try.ntmps55
    go_wp2_with fail
    rw [← hW]; clear hW
    refine (specCoxeterOrder_any _ q _ h0).mono ?_; rintro e W9 ⟨ov, rfl, hO9, hb9⟩
    rw [HOL.out] at hO9
    obtain ⟨oA, oc, eov⟩ := hO9.1.form2
    subst eov
    rw [List.length_reverse] at hO9
    clear c0 c1 c2
    rw [hB1]
    have kB9 := kB.call hb9
    have c0 := kB9.cell' (i := 0) rfl
    have c1 := kB9.cell' (i := 1) rfl
    have c2 := kB9.cell' (i := 2) rfl
    go_wp2_with fail
    refine (l1In_any _ _ _ _).mono ?_; rintro e w1 ⟨rfl, rfl⟩
    rw [H3.out]
    go_wp2_with fail
    refine (l18Vector_any _ _ _ _ _ (QvR.next hb9 h0) (SlI.next hb9 hx0)).mono ?_; rintro e w1 ⟨rfl, hb1⟩
    rw [H2.out]
    have g1 := bthen (bthen g0 hb9) hb1
    go_wp2
    exact bodyPost_ret (v := .tuple #[.slice (some ⟨w1.heap.size, 0, none⟩) 0 0, .bool false]) (by simp [results, go_sem]) rfl ⟨_, by rw [hF.out], by rw [hF.out]; exact IntsO.made_ _ g1.size, g1.alloc g1.size _⟩
  obtain ⟨n1, n2⟩ := inR_t.1 hB3
  have HB := Lib.hid (And.intro hB1 (And.intro hB2 hB3))
  have H2 := Lib.hid hB2
  have H3 := Lib.hid hB3
  clear hB2 hB3
  by_cases hneg : n < 0
  · obtain ⟨N, hN⟩ : ∃ N : Nat, n = -(N : Int) := ⟨n.natAbs, by omega⟩
    subst hN
    have HP : Hid (coxP q x (-(N : Int)) = powGo q ol x (N - 0)) := by
      show _ = _
      rw [coxP, HB.out.1, HB.out.2.1, HB.out.2.2, HOL.out, if_pos hneg]
      simp
    go_enter Try.func55, Try.ntmps55
    go_wp2_with fail
    rw [← hW]; clear hW
    refine (specCoxeterOrder_any _ q _ h0).mono ?_; rintro e W9 ⟨ov, rfl, hO9, hb9⟩
    rw [HOL.out] at hO9
    obtain ⟨oA, oc, eov⟩ := hO9.1.form2
    subst eov
    rw [List.length_reverse] at hO9
    clear c0 c1 c2
    rw [hB1]
    have kB9 := kB.call hb9
    have c0 := kB9.cell' (i := 0) rfl
    have c1 := kB9.cell' (i := 1) rfl
    have c2 := kB9.cell' (i := 2) rfl
    go_wp2_with fail
    refine (l1In_any _ _ _ _).mono ?_; rintro e w1' ⟨rfl, rfl⟩
    rw [H3.out]
    go_wp2_with fail
    refine (l18Vector_any _ _ _ _ _ (QvR.next hb9 h0) (SlI.next hb9 hx0)).mono ?_; rintro e w1 ⟨rfl, hb1⟩
    rw [H2.out]
    have hO1 := hO9.below hb1
    have gW1 := bthen hb9 hb1
    obtain ⟨L, hL⟩ : ∃ L, L = ol.reverse := ⟨_, rfl⟩
    have HLR : Hid (ol = L.reverse) := by show _ = _; rw [hL, List.reverse_reverse]
    have hLl : ol.length = L.length := by rw [hL, List.length_reverse]
    rw [← hL, hLl] at hO1
    rw [hLl]
    rw [HLR.out] at HP
    have hln := hO1.1.2.1
    clear hO9 kB9 c0 c1 c2 hb9 hb1 hL hLl
    go_wp2
    have ho0 : OwnI (w1.alloc (.cells #[] 3)) w1.heap.size (.slice (some ⟨w1.heap.size, 0, none⟩) 0 0) [] := OwnI.made _ rfl (Nat.le_refl _)
    have hlr : SlI (w1.alloc (.cells #[] 3)) w1.heap.size (.slice oA L.length oc) L := SlI.below ((Below.refl _ _).alloc (Nat.le_refl _) _) hO1.rd
    have hs1 : w1.heap.size ≤ (w1.alloc (.cells #[] 3)).heap.size := by simp
    have gW2 : Below W.heap.size W (w1.alloc (.cells #[] 3)) := gW1.alloc gW1.size _
    have hs2 := gW1.size
    have gl1 : w.heap.size ≤ w1.heap.size := by omega
    clear hO1 gW1
    generalize w1.alloc (.cells #[] 3) = W2 at *
    rw [decide_eq_true (show 0 < N by omega)]
    go_loopw [10, 11] (fun a i wr => ∃ out : List Int, RevSt L (intOf i) out ∧ i = .int .i64 (intOf i) ∧ OwnI wr w1.heap.size a out ∧ Below w1.heap.size W2 wr) (fun _ i _ => (intOf i + 1).toNat)
    case atStart => exact ⟨[], RevSt.start L, rfl, ho0, Below.refl _ _⟩
    case round =>
      obtain ⟨out, hst, hi, hown, hbel⟩ := hrel
      clear ho0
      rcases hst with ⟨j, hj, e1, e2⟩ | ⟨e1, e2⟩
      · rw [e1] at hi
        subst hi
        have HO := Lib.hid e2
        clear e1 e2
        obtain ⟨b0, o, y, rfl, hb, HX, x1, hx1, hx2⟩ := SlI.at_ hlr hj
        have x2 := bcell hbel hb x1
        obtain ⟨OA, oc2, rfl, _, _⟩ := hown.form
        have ho3 := hown.alloc (.cells #[.int .i64 y] 3)
        have HS : Hid (RevSt L ((j : Int) - 1) (out ++ [y])) := RevSt.step HX.out HO.out
        have hol : Hid (out.length + 1 ≤ L.length) := by show _ ≤ _; rw [HO.out]; simp; omega
        clear x1
        have hsr := hbel.size
        (go_wp2_with (at_builtin; refine Hold.stop ?_)); unfold Hold

        refine wpList_appI rfl (.tmp 45) (.tmp 50) rfl w1.heap.size _ (.slice OA out.length oc2) out rfl ho3 _ _ _ [y] rfl rfl (SlI.one wr _ y ⟨hx1, hx2⟩) (by have := hol.out; simp; omega) (by simp; omega) ?_
        intro v1 w3 ho1 hg1 hv1
        have hb3 := (hbel.alloc (by omega) (.cells #[.int .i64 y] 3)).grown hg1 (by simp; omega) (fun j hj => (ho3.lt j hj).1)
        obtain ⟨A1, c1, rfl, _, _⟩ := ho1.form
        clear ho3 hg1 hv1
        go_wp2
        go_roundw
        case rel => exact ⟨out ++ [y], HS.out, rfl, by rw [List.length_append] at ho1; exact ho1, hb3⟩
        case measure => simp [intOf]
      · rw [e1] at hi
        subst hi
        clear e1
        subst e2
        obtain ⟨oA, oc, rfl, _, _⟩ := hown.form
        rw [List.length_reverse] at hown
        have gW2 := gW2.trans (hbel.mono hs2)
        have hO2 := IntsO.of_own hown
        have hs4 := hbel.size
        have kB := kB.below gW2 hlt0
        have c0 := kB.cell' (i := 0) rfl
        have c1 := kB.cell' (i := 1) rfl
        have c2 := kB.cell' (i := 2) rfl
        clear hown hbel hlr hln hs1
        (go_wp2_with (at_builtin; refine Hold.stop ?_)); unfold Hold

        have hoe : OwnI (wr.alloc (.cells #[] 3)) wr.heap.size (.slice (some ⟨wr.heap.size, 0, none⟩) 0 0) [] := OwnI.made _ rfl (Nat.le_refl _)
        refine wpList_appI rfl (.tmp 55) (.tmp 56) rfl wr.heap.size wr.heap.size (.slice (some ⟨wr.heap.size, 0, none⟩) 0 0) [] rfl hoe _ _ _ x rfl rfl (SlI.below (below_alloc _ _) (SlI.next gW2 hx0)) (by simp; omega) (by simp) ?_
        intro v1 w3 hC hg2 hvv
        rw [List.nil_append] at hC
        have hb3 : Below wr.heap.size wr w3 := ((Below.refl _ _).alloc (Nat.le_refl _) (.cells #[] 3)).grown hg2 (by simp) (fun j hj => (hoe.lt j hj).1)
        have gW := bthen gW2 hb3
        have gw : Below w.heap.size w w3 := g0.trans (gW.mono g0.size)
        have gl : w.heap.size ≤ wr.heap.size := by have := gW2.size; omega
        clear hoe hg2 hvv
        have hOr := hO2.below hb3
        obtain ⟨HI, hHI⟩ : ∃ n, n = wr.heap.size := ⟨_, rfl⟩
        rw [← hHI] at hOr
        obtain ⟨xA, xc', rfl, _, _⟩ := hC.form
        clear hO2 gW2 hb3 c0 c1 c2 kB hHI
        go_wp2
        go_loopw [12, 13] (fun a i wr => ∃ (k : Nat) (cur : List Int), k ≤ N ∧ i = .int .i64 k ∧ OwnI wr w.heap.size a cur ∧ Below w.heap.size w wr ∧ Below W.heap.size W wr ∧ IntsO wr w1.heap.size HI (.slice oA L.length oc) L.reverse ∧ Hid (coxP q x (-(N : Int)) = powGo q L.reverse cur (N - k))) (fun _ i _ => N - (intOf i).toNat)
        case atStart => exact ⟨0, x, Nat.zero_le _, rfl, hC.lower gl, gw, gW, hOr, HP.out⟩
        case round =>
          clear hC gw gW hOr HP
          obtain ⟨k, cur, hk, rfl, hown, hbel, hbW, hord, hR⟩ := hrel
          have kB := KB.out.below hbW hlt0
          have c0 := kB.cell' (i := 0) rfl
          have c1 := kB.cell' (i := 1) rfl
          have c2 := kB.cell' (i := 2) rfl
          obtain ⟨OA, oc', rfl, _, _⟩ := hown.form
          have hbs := hbW.size
          clear kB
          by_cases hlt : k < N
          · have hst := powGo_step (q := q) (wd := L.reverse) (x := cur) hlt
            rw [← hR.out] at hst
            have HST := Lib.hid hst
            clear hst hR
            have HC := specReflectWord_any _ q _ cur _ L.reverse wr (QvR.next hbW h0) hown.rd hord.rd
            obtain ⟨nx, hnx⟩ : ∃ nx, wordQ q cur L.reverse = nx := ⟨_, rfl⟩
            rw [hnx] at HC
            have HNX := Lib.hid hnx
            clear hnx
            obtain ⟨l, B⟩ := nx
            have HC := Lib.hid HC
            cases B
            · have hF : Hid (coxP q x (-(N : Int)) = ([], false)) := by show _ = _; rw [HST.out, HNX.out]; rfl
              go_wp2_with fail
              refine (unhide HC).mono ?_; rintro e w3 ⟨r, rfl, hr3, hb3⟩
              have hb4 := hbel.trans (hb3.mono hbel.size)
              go_wp2
              exact bodyPost_ret (v := .tuple #[.slice (some ⟨w3.heap.size, 0, none⟩) 0 0, .bool false]) (by simp [results, go_sem]) rfl ⟨_, by rw [hF.out], by rw [hF.out]; exact IntsO.made_ _ hb4.size, hb4.alloc hb4.size _⟩
            · have hF : Hid (coxP q x (-(N : Int)) = powGo q L.reverse l (N - (k + 1))) := by show _ = _; rw [HST.out, HNX.out]; rfl
              go_wp2_with fail
              refine (unhide HC).mono ?_; rintro e w3 ⟨r, rfl, hr3, hb3⟩
              have hW3 := bthen hbW hb3
              have hb4 := hbel.trans (hb3.mono hbel.size)
              have ho4 := hr3.1.lower hbel.size
              have hord3 := hord.below hb3
              clear hr3 hb3 hord hown
              go_wp2
              go_roundw
              case rel => exact ⟨k + 1, l, by omega, by go_num, ho4, hb4, hW3, hord3, hF.out⟩
              case measure => simp [intOf]; omega
          · have hF : Hid (coxP q x (-(N : Int)) = (cur, true)) := by show _ = _; rw [hR.out, show N - k = 0 by omega, powGo]
            go_wp2
            exact bodyPost_ret (v := .tuple #[.slice OA cur.length oc', .bool true]) (by simp [results, go_sem]) rfl ⟨_, by rw [hF.out], by rw [hF.out]; exact IntsO.of_own hown, hbel⟩
  · obtain ⟨N, hN⟩ : ∃ N : Nat, n = (N : Int) := ⟨n.natAbs, by omega⟩
    subst hN
    have HP : Hid (coxP q x (N : Int) = powGo q ol.reverse x (N - 0)) := by
      show _ = _
      rw [coxP, HB.out.1, HB.out.2.1, HB.out.2.2, HOL.out, if_neg hneg]
      simp
    go_enter Try.func55, Try.ntmps55
    go_wp2_with fail
    rw [← hW]; clear hW
    refine (specCoxeterOrder_any _ q _ h0).mono ?_; rintro e W9 ⟨ov, rfl, hO9, hb9⟩
    rw [HOL.out] at hO9
    obtain ⟨oA, oc, eov⟩ := hO9.1.form2
    subst eov
    rw [List.length_reverse] at hO9
    clear c0 c1 c2
    rw [hB1]
    have kB9 := kB.call hb9
    have c0 := kB9.cell' (i := 0) rfl
    have c1 := kB9.cell' (i := 1) rfl
    have c2 := kB9.cell' (i := 2) rfl
    go_wp2_with fail
    refine (l1In_any _ _ _ _).mono ?_; rintro e w1' ⟨rfl, rfl⟩
    rw [H3.out]
    go_wp2_with fail
    refine (l18Vector_any _ _ _ _ _ (QvR.next hb9 h0) (SlI.next hb9 hx0)).mono ?_; rintro e w1 ⟨rfl, hb1⟩
    rw [H2.out]
    have hO2 := hO9.below hb1
    have gW2 := bthen hb9 hb1
    clear hO9 kB9 c0 c1 c2 hb9 hb1
    (go_wp2_with (at_builtin; refine Hold.stop ?_)); unfold Hold

    have hoe : OwnI (w1.alloc (.cells #[] 3)) w1.heap.size (.slice (some ⟨w1.heap.size, 0, none⟩) 0 0) [] := OwnI.made _ rfl (Nat.le_refl _)
    refine wpList_appI rfl (.tmp 55) (.tmp 56) rfl w1.heap.size w1.heap.size (.slice (some ⟨w1.heap.size, 0, none⟩) 0 0) [] rfl hoe _ _ _ x rfl rfl (SlI.below (below_alloc _ _) (SlI.next gW2 hx0)) (by simp; omega) (by simp) ?_
    intro v1 w3 hC hg2 hvv
    rw [List.nil_append] at hC
    have hb3 : Below w1.heap.size w1 w3 := ((Below.refl _ _).alloc (Nat.le_refl _) (.cells #[] 3)).grown hg2 (by simp) (fun j hj => (hoe.lt j hj).1)
    have gW := bthen gW2 hb3
    have gw : Below w.heap.size w w3 := g0.trans (gW.mono g0.size)
    have gl : w.heap.size ≤ w1.heap.size := by have := gW2.size; omega
    clear hoe hg2 hvv
    have hOr := hO2.below hb3
    obtain ⟨xA, xc', rfl, _, _⟩ := hC.form
    clear hO2 gW2 hb3 kB
    go_wp2
    go_loopw [12, 13] (fun a i wr => ∃ (k : Nat) (cur : List Int), k ≤ N ∧ i = .int .i64 k ∧ OwnI wr w.heap.size a cur ∧ Below w.heap.size w wr ∧ Below W.heap.size W wr ∧ IntsO wr W.heap.size w1'.heap.size (.slice oA ol.length oc) ol.reverse ∧ Hid (coxP q x (N : Int) = powGo q ol.reverse cur (N - k))) (fun _ i _ => N - (intOf i).toNat)
    case atStart => exact ⟨0, x, Nat.zero_le _, rfl, hC.lower gl, gw, gW, hOr, HP.out⟩
    case round =>
      clear hC gw gW hOr HP
      obtain ⟨k, cur, hk, rfl, hown, hbel, hbW, hord, hR⟩ := hrel
      have kB := KB.out.below hbW hlt0
      have c0 := kB.cell' (i := 0) rfl
      have c1 := kB.cell' (i := 1) rfl
      have c2 := kB.cell' (i := 2) rfl
      obtain ⟨OA, oc', rfl, _, _⟩ := hown.form
      have hbs := hbW.size
      clear kB
      by_cases hlt : k < N
      · have hst := powGo_step (q := q) (wd := ol.reverse) (x := cur) hlt
        rw [← hR.out] at hst
        have HST := Lib.hid hst
        clear hst hR
        have HC := specReflectWord_any _ q _ cur _ ol.reverse wr (QvR.next hbW h0) hown.rd hord.rd
        obtain ⟨nx, hnx⟩ : ∃ nx, wordQ q cur ol.reverse = nx := ⟨_, rfl⟩
        rw [hnx] at HC
        have HNX := Lib.hid hnx
        clear hnx
        obtain ⟨l, B⟩ := nx
        have HC := Lib.hid HC
        cases B
        · have hF : Hid (coxP q x (N : Int) = ([], false)) := by show _ = _; rw [HST.out, HNX.out]; rfl
          go_wp2_with fail
          refine (unhide HC).mono ?_; rintro e w3 ⟨r, rfl, hr3, hb3⟩
          have hb4 := hbel.trans (hb3.mono hbel.size)
          go_wp2
          exact bodyPost_ret (v := .tuple #[.slice (some ⟨w3.heap.size, 0, none⟩) 0 0, .bool false]) (by simp [results, go_sem]) rfl ⟨_, by rw [hF.out], by rw [hF.out]; exact IntsO.made_ _ hb4.size, hb4.alloc hb4.size _⟩
        · have hF : Hid (coxP q x (N : Int) = powGo q ol.reverse l (N - (k + 1))) := by show _ = _; rw [HST.out, HNX.out]; rfl
          go_wp2_with fail
          refine (unhide HC).mono ?_; rintro e w3 ⟨r, rfl, hr3, hb3⟩
          have hW3 := bthen hbW hb3
          have hb4 := hbel.trans (hb3.mono hbel.size)
          have ho4 := hr3.1.lower hbel.size
          have hord3 := hord.below hb3
          clear hr3 hb3 hord hown
          go_wp2
          go_roundw
          case rel => exact ⟨k + 1, l, by omega, by go_num, ho4, hb4, hW3, hord3, hF.out⟩
          case measure => simp [intOf]; omega
      · have hF : Hid (coxP q x (N : Int) = (cur, true)) := by show _ = _; rw [hR.out, show N - k = 0 by omega, powGo]
        go_wp2
        exact bodyPost_ret (v := .tuple #[.slice OA cur.length oc', .bool true]) (by simp [results, go_sem]) rfl ⟨_, by rw [hF.out], by rw [hF.out]; exact IntsO.of_own hown, hbel⟩

theorem coxP_one {q : Qv} {x : List Int} : coxP q x 1 = if (ordQ q).2 then wordQ q x (ordQ q).1.reverse else ([], false) := by
  rcases h : (ordQ q).2 with _ | _
  · simp [coxP, h]
  · have e : coxP q x 1 = if isNum q x then powGo q (ordQ q).1.reverse x 1 else ([], false) := by
      unfold coxP
      rw [h]
      cases isNum q x <;> rfl
    rw [e, if_pos rfl]
    rcases h1 : isNum q x with _ | _
    · simp [wordQ, h1]
    · rw [if_pos rfl, powGo]
      rcases h2 : (wordQ q x (ordQ q).1.reverse).2 with _ | _
      · rw [wordQ_no h2]; rfl
      · rw [if_pos rfl, powGo, ← h2]

set_option maxHeartbeats 800000 in
theorem specCoxeterOf_any (u : Value) (q : Qv) (xv : Value) (x : List Int) (w : World) (hu : QvR w w.heap.size u q) (hx : SlI w w.heap.size xv x) :
    Calls Try.prog 43 #[u, xv] w fun e w' => ∃ r, e = .returned (.tuple #[r, .bool (coxP q x 1).2]) ∧ IntsO w' w.heap.size w'.heap.size r (coxP q x 1).1 ∧ Below w.heap.size w w' := by
  obtain ⟨ol, hol⟩ : ∃ l, (ordQ q).1 = l := ⟨_, rfl⟩
  have HOL := Lib.hid hol
  clear hol
  obtain ⟨A, c, C, d, eu⟩ := hu.form
  subst eu
  obtain ⟨W, hW⟩ : ∃ W, W = w.alloc (.cells #[.int .i64 q.v, .slice A q.f.length c, .slice C q.t.length d] 29) := ⟨_, rfl⟩
  have g0 : Below w.heap.size w W := by rw [hW]; exact below_alloc _ _
  have kB : Blk W w.heap.size 29 #[.int .i64 q.v, .slice A q.f.length c, .slice C q.t.length d] := by rw [hW]; exact Blk.new _ _ _
  have c0 := kB.cell' (i := 0) rfl
  have c1 := kB.cell' (i := 1) rfl
  have c2 := kB.cell' (i := 2) rfl
  have gs := g0.size
  have h0 := QvR.next g0 hu
  have hx0 := SlI.next g0 hx
  clear hu hx
  rcases hB1 : (ordQ q).2 with _ | _
  · have hF : Hid (coxP q x 1 = ([], false)) := by show _ = _; rw [coxP_one, hB1]; rfl
    go_enter Try.func43, Try.ntmps43
    go_wp2_with fail
    rw [← hW]; clear hW
    refine (specCoxeterOrder_any _ q _ h0).mono ?_; rintro e W9 ⟨ov, rfl, hO9, hb9⟩
    rw [HOL.out] at hO9
    rw [hB1]
    obtain ⟨oA, oc, eov⟩ := hO9.1.form2
    subst eov
    rw [List.length_reverse] at hO9
    clear c0 c1 c2
    have kB9 := kB.call hb9
    have c0 := kB9.cell' (i := 0) rfl
    have c1 := kB9.cell' (i := 1) rfl
    have c2 := kB9.cell' (i := 2) rfl
    have g1 := bthen g0 hb9
    go_wp2
    exact bodyPost_ret (v := .tuple #[.slice (some ⟨W9.heap.size, 0, none⟩) 0 0, .bool false]) (by simp [results, go_sem]) rfl ⟨_, by rw [hF.out], by rw [hF.out]; exact IntsO.made_ _ g1.size, g1.alloc g1.size _⟩
  · have hF : Hid (coxP q x 1 = wordQ q x ol.reverse) := by show _ = _; rw [coxP_one, hB1, HOL.out]; rfl
    go_enter Try.func43, Try.ntmps43
    go_wp2_with fail
    rw [← hW]; clear hW
    refine (specCoxeterOrder_any _ q _ h0).mono ?_; rintro e W9 ⟨ov, rfl, hO9, hb9⟩
    rw [HOL.out] at hO9
    rw [hB1]
    obtain ⟨oA, oc, eov⟩ := hO9.1.form2
    subst eov
    rw [List.length_reverse] at hO9
    clear c0 c1 c2
    have kB9 := kB.call hb9
    have c0 := kB9.cell' (i := 0) rfl
    have c1 := kB9.cell' (i := 1) rfl
    have c2 := kB9.cell' (i := 2) rfl
    have g1 := bthen g0 hb9
    go_wp2_with fail
    refine (specReflectWord_any _ q _ x _ _ _ (QvR.next hb9 h0) (SlI.next hb9 hx0) hO9.rd).mono ?_; rintro e w1 ⟨r, rfl, hr, hb1⟩
    obtain ⟨rA, rc, rfl⟩ := hr.1.form2
    go_wp2
    exact bodyPost_ret (v := .tuple #[.slice rA (wordQ q x ol.reverse).1.length rc, .bool (wordQ q x ol.reverse).2]) (by simp [results, go_sem]) rfl ⟨_, by rw [hF.out], by rw [hF.out]; exact hr.wider g1.size (Nat.le_refl _), bthen g1 hb1⟩
end Go.Proofs.Ytpcgjjflmhnimaa
