/- Intervals: the program's ZigzagInterval and IntervalRep. -/
import Derived.Test.YtjhllgldllbaaaaZigI3
namespace Go.Proofs.Ytjhllgldllbaaaa
set_option linter.unusedVariables false
set_option linter.unusedSimpArgs false
open Go.RowKit

def zoF (q : Qv) (d : List Int) (k i : Nat) : Mx := if i < k then onesM (zmAt q d i) else zmAt q d i
theorem zoF_I64 {q : Qv} (hz : isZ q = true) {V a b k : Nat} (hV : q.v = V) : ∀ m ∈ msF q.f.length (zoF q (rowF V (ivF a (b + 1))) k), I64 m.r ∧ I64 m.c := by
  intro m hm
  obtain ⟨i, hi, rfl⟩ := msF_mem hm
  obtain ⟨r, c, e, h1, h2⟩ := ziZ_at hz (a := a) (b := b) hV hi
  unfold zoF
  rw [e]
  split <;> exact ⟨h1, h2⟩
theorem zoF_0 (q : Qv) (D : List Int) (n : Nat) : msF n (zoF q D 0) = msF n (zmAt q D) := by
  apply msF_congr
  intro i _
  unfold zoF
  rw [if_neg (by omega)]
theorem zoF_end (q : Qv) (D : List Int) (n : Nat) : msF n (zoF q D n) = msF n fun i => onesM (zmAt q D i) := by
  apply msF_congr
  intro i h
  unfold zoF
  rw [if_pos h]
theorem zoF_step {q : Qv} {D : List Int} {k : Nat} {r c : Int} (e : zmAt q D k = ⟨r, c, [0]⟩) : (msF q.f.length (zoF q D k)).set k ⟨r, c, [1]⟩ = msF q.f.length (zoF q D (k + 1)) := by
  rw [msF_set]
  apply msF_congr
  intro i _
  by_cases hi : i = k
  · subst hi
    rw [if_pos rfl, zoF, if_pos (by omega), e]
    rfl
  · rw [if_neg hi]
    unfold zoF
    by_cases h2 : i < k
    · rw [if_pos h2, if_pos (by omega)]
    · rw [if_neg h2, if_neg (by omega)]
theorem zoF_skip {q : Qv} {D : List Int} {k : Nat} {r c : Int} (e : zmAt q D k = ⟨r, c, []⟩) : msF q.f.length (zoF q D k) = msF q.f.length (zoF q D (k + 1)) := by
  apply msF_congr
  intro i _
  unfold zoF
  by_cases hi : i = k
  · subst hi
    rw [if_neg (by omega), if_pos (by omega), e]
    rfl
  · by_cases h2 : i < k
    · rw [if_pos h2, if_pos (by omega)]
    · rw [if_neg h2, if_neg (by omega)]
theorem zoF_at {q : Qv} {D : List Int} {k : Nat} (hk : k < q.f.length) : (msF q.f.length (zoF q D k))[k]? = some (zmAt q D k) := by
  rw [msF_get _ hk, zoF, if_neg (by omega)]

set_option maxHeartbeats 3200000 in
set_option maxRecDepth 100000 in
theorem implZigzagIntervalY (p a b : Int) (u : Value) (q : Qv) (w0 : World) (hp : I64 p) (hu : QvR w0 w0.heap.size u q) (ha : I64 a) (hb : I64 b) (hyes : ziOk (isZ q) p q a b = true) :
    Calls Try.prog 18 #[.int .i64 p, u, .int .i64 a, .int .i64 b] w0 fun e w' => ∃ r, e = .returned (.tuple #[r, .bool (ziP (isZ q) p q a b).2]) ∧ RepO w' w0.heap.size w'.heap.size r (ziP (isZ q) p q a b).1 ∧ Below w0.heap.size w0 w' := by
  have hu' := hu
  obtain ⟨A, c, C, c', rfl, hf, ht, hr, lf, lt⟩ := hu.open_
  clear hu hf ht
  obtain ⟨W, hW⟩ : ∃ W, W = (w0.alloc (.cells #[.int .i64 q.v, .slice A q.f.length c, .slice C q.t.length c'] 26)).alloc (.cells #[.int .i64 0, .int .i64 0, .slice none 0 0, .slice none 0 0, .slice none 0 0, .slice none 0 0] 29) := ⟨_, rfl⟩
  have g0 : Below w0.heap.size w0 W := by rw [hW]; exact ((Below.refl _ _).alloc (Nat.le_refl _) _).alloc (by simp) _
  have kq : Blk W w0.heap.size 26 #[.int .i64 q.v, .slice A q.f.length c, .slice C q.t.length c'] := by rw [hW]; exact (Blk.new _ _ _).alloc _
  have kR : Blk W (w0.heap.size + 1) 29 #[.int .i64 0, .int .i64 0, .slice none 0 0, .slice none 0 0, .slice none 0 0, .slice none 0 0] := by
    rw [hW]
    have := Blk.new (w0.alloc (.cells #[.int .i64 q.v, .slice A q.f.length c, .slice C q.t.length c'] 26)) 29 #[.int .i64 0, .int .i64 0, .slice none 0 0, .slice none 0 0, .slice none 0 0, .slice none 0 0]
    simpa only [World.size_alloc] using this
  have sz : W.heap.size = w0.heap.size + 1 + 1 := by rw [hW]; simp
  have SZ := Lib.hid sz
  have hq := QvR.next g0 hu'
  clear sz hu'
  have HF := Lib.hid (ziP_yes hyes)
  simp only [ziOk, Bool.and_eq_true] at hyes
  obtain ⟨h1, h2, h3, h4⟩ := hyes
  have hz : isZ q = true := by first | exact h2 | exact (isL_t h2).2
  obtain ⟨n1, n2⟩ := inR_t.1 h3
  obtain ⟨n3, n4⟩ := inR_t.1 h4
  have hv1 := (isQ_t.1 (isZ_t hz).1).1
  have hlf := (isZ_t hz).2.1
  obtain ⟨a, rfl⟩ := Int.eq_ofNat_of_zero_le n1
  obtain ⟨b, rfl⟩ := Int.eq_ofNat_of_zero_le (show 0 ≤ b by omega)
  obtain ⟨V, hV⟩ := Int.eq_ofNat_of_zero_le (show 0 ≤ q.v by omega)
  have hqv : I64 q.v := hr
  obtain ⟨i0, hi, hz0, hz1, hz2⟩ := info_parts infoInt
  have hmk := run_mk (P := Try.prog) Try.underlying22 hi hz0 (n := V) (by rw [hz2]; omega) (by omega)
  rw [hz1, Nat.mul_one, ← show q.v = (V : Int) from hV] at hmk
  clear hi hz0 hz1 hz2
  have H1 := Lib.hid h1
  have H2 := Lib.hid h2
  have H3 := Lib.hid h3
  have H4 := Lib.hid h4
  have HV := Lib.hid hV
  have HZ := Lib.hid hz
  have HLF := Lib.hid hlf
  clear h1 h2 h3 h4 hV hz hlf
  have c0 := kq.cell' (i := 0) rfl
  have c1 := kq.cell' (i := 1) rfl
  have c2 := kq.cell' (i := 2) rfl
  go_enter Try.func18, Try.ntmps18
  go_wp2_with fail
  rw [← hW]; clear hW
  refine (implIsField_any _ _).mono ?_; rintro e w1' ⟨rfl, rfl⟩
  rw [H1.out]
  go_wp2_with fail
  refine (implIsZigzag_any _ _ _ hq).mono ?_; rintro e w1 ⟨rfl, hb1⟩
  rw [H2.out]
  replace hq := QvR.next hb1 hq
  replace g0 := bthen g0 hb1
  replace kq := kq.call hb1
  replace kR := kR.call hb1
  have gW := hb1
  clear hb1 c0 c1 c2
  have c0 := kq.cell' (i := 0) rfl
  have c1 := kq.cell' (i := 1) rfl
  have c2 := kq.cell' (i := 2) rfl
  go_wp2_with fail
  refine (within_any _ _ _ _).mono ?_; rintro e w2' ⟨rfl, hww⟩
  replace hww := hww.symm
  subst hww
  rw [H3.out]
  go_wp2_with fail
  refine (within_any _ _ _ _).mono ?_; rintro e w2' ⟨rfl, hww⟩
  replace hww := hww.symm
  subst hww
  rw [H4.out]
  obtain ⟨W4, hW4⟩ : ∃ u, u = w1.alloc (.cells (mkCells (.int .i64 0) V) 3) := ⟨_, rfl⟩
  have b4 : Below w1.heap.size w1 W4 := by rw [hW4]; exact below_alloc _ _
  have oD : IntsO W4 w1.heap.size W4.heap.size (.slice (some ⟨w1.heap.size, 0, none⟩) V V) (rowF V (ivF a a)) := by
    have := OwnI.made0 (w := w1) (base := w1.heap.size) (N := V) (Nat.le_refl _) (by have := HV.out; omega)
    rw [← hW4, ivF_0 V a] at this
    exact IntsO.of_own this
  have s4 := b4.size
  have KQ := Lib.hid kq
  have HQ := Lib.hid hq
  have B4 := Lib.hid b4
  have G0 := Lib.hid g0
  have GW := Lib.hid gW
  have KR := Lib.hid kR
  clear b4 kq hq gW g0 kR
  go_wp2
  rw [← hW4]; clear hW4 c0 c1 c2 hmk
  go_loopw [11] (fun i wr => ∃ k : Nat, a ≤ k ∧ k ≤ b + 1 ∧ i = .int .i64 k ∧ IntsO wr w1.heap.size W4.heap.size (.slice (some ⟨w1.heap.size, 0, none⟩) V V) (rowF V (ivF a k)) ∧ Chg w1.heap.size (w1.heap.size + 1) W4 wr) (fun i _ => b + 1 - (intOf i).toNat)
  case atStart => exact ⟨a, Nat.le_refl _, by omega, rfl, oD, Chg.refl _ _ _⟩
  case round =>
    clear oD
    obtain ⟨k, hak, hk, rfl, oD, hch⟩ := hrel
    have hVV := HV.out
    by_cases hlt : k < b + 1
    · have hkV : k < V := by omega
      have hst := ivF_step hkV hak
      have hc := (oD.1.cellG (j := k) (by rw [rowF_length]; exact hkV)).1
      have fr := oD.1.frozenG k
      have hp1 := oD.1.put (j := k) (x := 1) (by unfold I64; omega)
      rw [hst] at hp1
      have HP1 := Lib.hid hp1
      clear hst hp1 hVV
      go_wp2
      go_roundw
      case rel => exact ⟨k + 1, by omega, by omega, by go_num, ⟨HP1.out.1, oD.2⟩, hch.trans (chg_set (by simp) (by simp))⟩
      case measure => simp [intOf]; omega
    · have hkb : k = b + 1 := by omega
      rw [hkb] at oD
      obtain ⟨kz, hkz⟩ : ∃ u, u = k := ⟨_, rfl⟩
      subst hkz
      have hdz : decide (kz ≤ b) = false := decide_eq_false (by omega)
      clear hkb
      obtain ⟨wa, hwa⟩ : ∃ u, u = wr := ⟨_, rfl⟩
      subst hwa
      have gX : Below w1.heap.size w1 wa := B4.out.trans (hch.below (Nat.le_refl _) (by omega))
      have kq := KQ.out.call gX
      have hq := QvR.next gX HQ.out
      have c0 := kq.cell' (i := 0) rfl
      have c1 := kq.cell' (i := 1) rfl
      have c2 := kq.cell' (i := 2) rfl
      have hdm := ivF_dims (isZ_t HZ.out).1 HV.out a (b + 1)
      have HDM := Lib.hid hdm
      have HQX := Lib.hid hq
      have OD := Lib.hid oD.rd
      have sX := hch.size
      clear hq oD hch hdm hVV kq
      go_wp2_with fail
      refine (zeroRep_any p _ _ q _ wa hp HQX.out OD.out HDM.out).mono ?_; rintro e w5 ⟨v, rfl, ⟨f, t, d, m, vs, rfl, hO, hvl, hFm, hpq, hrc⟩, hb5⟩
      have i1 := hFm.1 (f, (zRep p q (rowF V (ivF a (b + 1)))).q.f) (by simp)
      have i2 := hFm.1 (t, (zRep p q (rowF V (ivF a (b + 1)))).q.t) (by simp)
      have i3 := hFm.1 (d, (zRep p q (rowF V (ivF a (b + 1)))).d) (by simp)
      simp only [zRep, zms_F, msF_length] at i1 i2 i3 hO hvl hFm hpq hrc ⊢
      obtain ⟨fA, fc, ef⟩ := i1.form
      obtain ⟨tA, tc, et⟩ := i2.form
      obtain ⟨dA, dc, ed⟩ := i3.form
      subst ef et ed
      clear i1 i2 i3
      have hlD := rowF_length V (ivF a (b + 1))
      rw [hlD] at hFm ⊢
      obtain ⟨D, hD⟩ : ∃ D, rowF V (ivF a (b + 1)) = D := ⟨_, rfl⟩
      rw [hD] at hO hFm
      obtain ⟨mA, mc, em, lm1, lm2⟩ := RowO.form hO
      subst em
      simp only [msF_length] at hO lm1 ⊢
      obtain ⟨W6, hW6⟩ : ∃ u, u = w5.alloc (.cells #[.int .i64 p, .int .i64 q.v, .slice fA q.f.length fc, .slice tA q.t.length tc, .slice dA V dc, .slice mA q.f.length mc] 29) := ⟨_, rfl⟩
      have b6 : Below w5.heap.size w5 W6 := by rw [hW6]; exact below_alloc _ _
      have k6 : Blk W6 w5.heap.size 29 #[.int .i64 p, .int .i64 q.v, .slice fA q.f.length fc, .slice tA q.t.length tc, .slice dA V dc, .slice mA q.f.length mc] := by rw [hW6]; exact Blk.new _ _ _
      have s5 := hb5.size
      have s6 := k6.lt
      have hrcF : (msF q.f.length (zoF q D 0)) = msF q.f.length (zmAt q D) := zoF_0 q D _
      have hO6 : OutM W6 wa.heap.size w5.heap.size (.slice mA q.f.length mc) vs (msF q.f.length (zoF q D 0)) := by
        rw [hrcF]; exact RowO.below hO b6
      have hF6 : Fam W6 wa.heap.size w5.heap.size ([(.slice fA q.f.length fc, q.f), (.slice tA q.t.length tc, q.t), (.slice dA V dc, D)] ++ vs.zip ((msF q.f.length (zoF q D 0)).map Mx.a)) := by
        rw [hrcF]; exact hFm.below b6
      have HVL := Lib.hid hvl
      have HD := Lib.hid hD
      have HB5 := Lib.hid (bthen hb5 b6)
      have GX := Lib.hid gX
      have HRC := Lib.hid hrc
      have c5 := k6.cell' (i := 5) rfl
      clear hvl hD hlD hrcF hO hFm hb5 b6 gX hrc c0 c1 c2
      rw [hW6] at c5
      go_wp2
      rw [← hW6]; clear hW6 c5
      go_loopw [61] (fun i wy => ∃ k : Nat, k ≤ q.f.length ∧ i = .int .i64 k ∧ OutM wy wa.heap.size w5.heap.size (.slice mA q.f.length mc) vs (msF q.f.length (zoF q D k)) ∧ Fam wy wa.heap.size w5.heap.size ([(.slice fA q.f.length fc, q.f), (.slice tA q.t.length tc, q.t), (.slice dA V dc, D)] ++ vs.zip ((msF q.f.length (zoF q D k)).map Mx.a)) ∧ Chg wa.heap.size w5.heap.size W6 wy) (fun i _ => q.f.length - (intOf i).toNat)
      case atStart => exact ⟨0, Nat.zero_le _, rfl, hO6, hF6, Chg.refl _ _ _⟩
      case round =>
        clear hO6 hF6
        obtain ⟨k, hk, rfl, hO, hFm, hch⟩ := hrel
        have k7 := k6.chg hch (.inr (Nat.le_refl _))
        have sy := hch.size
        by_cases hlt : k < q.f.length
        · obtain ⟨r, c, ez, hzr, hzc⟩ := ziZ_at HZ.out (a := a) (b := b) HV.out hlt
          have em := zoF_at (D := D) hlt
          rw [HD.out] at ez
          rw [ez] at em
          by_cases hab : a ≤ k ∧ k < b
          · rw [if_pos hab] at ez em
            obtain ⟨gm, cm, g, cg, e1, hgm, hvk, y0, y1, y2, oM, hgb, lg1, lg2, lg3, lg4⟩ := OutM.at_ hO (by rw [HVL.out, msF_length]) hFm em (by simp)
            rw [msF_length] at e1
            injection e1 with e11 e12 e13
            subst e11 e13
            simp only [List.length_cons, List.length_nil] at y2 lg1 hvk oM y0 y1
            obtain ⟨wk, hwk⟩ : ∃ u, u = wr := ⟨_, rfl⟩
            subst hwk
            obtain ⟨W7, hW7⟩ : ∃ u, u = wk.alloc (.cells #[.int .i64 r, .int .i64 c, .slice (some ⟨g, 0, none⟩) (0 + 1) cg] 75) := ⟨_, rfl⟩
            have b7 : Below wk.heap.size wk W7 := by rw [hW7]; exact below_alloc _ _
            have k8 : Blk W7 wk.heap.size 75 #[.int .i64 r, .int .i64 c, .slice (some ⟨g, 0, none⟩) (0 + 1) cg] := by rw [hW7]; exact Blk.new _ _ _
            have hO7 := RowO.below hO b7
            have hF7 := hFm.below b7
            have s7 := b7.size
            have HCH := Lib.hid (hch.trans (Chg.of_below b7))
            have HVK := Lib.hid hvk
            have EM := Lib.hid em
            have EZ := Lib.hid ez
            have c2 := k8.cell' (i := 2) rfl
            rw [hW7] at c2
            clear hO hFm hch b7 hvk em ez oM
            go_wp2
            rw [← hW7]; clear hW7 y0 y1 y2 c2
            go_loopw [68] (fun i wy => ∃ j : Nat, j ≤ 1 ∧ i = .int .i64 j ∧ OutM wy wa.heap.size w5.heap.size (.slice (some ⟨gm, 0, none⟩) q.f.length mc) vs (msF q.f.length (zoF q D (k + j))) ∧ Fam wy wa.heap.size w5.heap.size ([(.slice fA q.f.length fc, q.f), (.slice tA q.t.length tc, q.t), (.slice dA V dc, D)] ++ vs.zip ((msF q.f.length (zoF q D (k + j))).map Mx.a)) ∧ Chg wa.heap.size w5.heap.size W7 wy) (fun i _ => 1 - (intOf i).toNat)
            case atStart => exact ⟨0, by omega, rfl, hO7, hF7, Chg.refl _ _ _⟩
            case round =>
              clear hO7 hF7
              obtain ⟨j, hj, rfl, hO, hFm, hch⟩ := hrel
              have k9 := k8.chg hch (.inr (by omega))
              have c2 := k9.cell' (i := 2) rfl
              by_cases hj1 : j < 1
              · obtain rfl : j = 0 := by omega
                have em := EM.out
                obtain ⟨gm2, cm2, g2, cg2, e1, hgm2, hvk, _, _, _, oM, hgb2, _, _, _, _⟩ := OutM.at_ hO (by rw [HVL.out, msF_length]) hFm em (by simp)
                rw [HVK.out] at hvk
                simp only [List.length_cons, List.length_nil] at hvk oM
                injection hvk with hvk
                injection hvk with hvk1 hvk2 hvk3
                injection hvk1 with hvk1
                injection hvk1 with hvk1
                subst hvk1 hvk3
                have hput := mats_put (i := 0) (x := 1) hO hFm HVK.out em oM (by unfold I64; omega)
                simp only [List.set_cons_zero, Nat.add_zero, zoF_step EZ.out] at hput
                have x0 := (oM.cellG (j := 0) (by simp)).1
                have fr := oM.frozenG 0
                have HP := Lib.hid hput
                clear hput em e1 oM hO hFm k9
                go_wp2
                go_roundw
                case rel => exact ⟨1, by omega, rfl, HP.out.1, HP.out.2, hch.trans (chg_set (by simp; omega) (by simp; omega))⟩
                case measure => simp [intOf]
              · obtain rfl : j = 1 := by omega
                clear c2
                go_wp2
                go_roundw
                case rel => exact ⟨k + 1, by omega, by go_num, hO, hFm, (HCH.out).trans hch⟩
                case measure => simp [intOf]; omega
          · rw [if_neg hab] at ez em
            have hrd := OutM.rd (ms := msF q.f.length (zoF q D k)) hO (by rw [HVL.out, msF_length]) (fun p hp => (hFm.1 p (by simp [hp])).rd) (by have := zoF_I64 HZ.out (a := a) (b := b) (k := k) HV.out; rwa [HD.out] at this)
            obtain ⟨gm, om, m', mA', mc', e1, hgm, HMM, y0, y1, y2, _, _, _, _⟩ := SlM.at_ (k := k) (by rw [msF_length]; exact hrd) (by rw [msF_length]; exact hlt)
            have hmm := HMM.out
            rw [em] at hmm
            injection hmm with hmm
            subst hmm
            subst e1
            have c5 := k7.cell' (i := 5) rfl
            simp only [List.length_nil] at y2
            have hsk := zoF_skip ez
            rw [hsk] at hO hFm
            obtain ⟨W7, hW7⟩ : ∃ u, u = wr.alloc (.cells #[.int .i64 r, .int .i64 c, .slice mA' 0 mc'] 75) := ⟨_, rfl⟩
            have b7 : Below wr.heap.size wr W7 := by rw [hW7]; exact below_alloc _ _
            have k8 : Blk W7 wr.heap.size 75 #[.int .i64 r, .int .i64 c, .slice mA' 0 mc'] := by rw [hW7]; exact Blk.new _ _ _
            have c2 := k8.cell' (i := 2) rfl
            rw [hW7] at c2
            have HO7 := Lib.hid (RowO.below hO b7)
            have HF7 := Lib.hid (hFm.below b7)
            have HCH := Lib.hid (hch.trans (Chg.of_below b7))
            clear hO hFm hch b7 em ez hsk hrd k7 k8
            go_wp2
            rw [← hW7]; rw [← hW7] at c2; clear hW7
            refine wp_loop_rounds 1 ?_
            rw [rounds_succ]
            go_wp2
            go_roundw
            case rel => exact ⟨k + 1, by omega, by go_num, HO7.out, HF7.out, HCH.out⟩
            case measure => simp [intOf]; omega
        · obtain rfl : k = q.f.length := by omega
          have gX := GX.out
          have gXs := gX.size
          have gB := HB5.out
          have gAll : Below w1.heap.size w1 wr := (gX.trans (gB.mono gXs)).trans (hch.below (by omega) (by omega))
          have kR := KR.out.call gAll
          have sz := SZ.out
          have g0s := (G0.out).size
          have gws := (GW.out).size
          have hch6 := chg6 wr (w0.heap.size + 1) (.int .i64 p) (.int .i64 q.v) (.slice fA q.f.length fc) (.slice tA q.t.length tc) (.slice dA V dc) (.slice mA q.f.length mc)
          have hmI := zoF_I64 HZ.out (a := a) (b := b) (k := q.f.length) HV.out
          rw [HD.out] at hmI
          have hend := zoF_end q D q.f.length
          have hDr : (ziRep p q a b).d = D := by rw [← HD.out]; simp only [ziRep, HV.out]; rfl
          have hMr : (ziRep p q a b).m = msF q.f.length (zoF q D q.f.length) := by rw [hend, ← HD.out]; simp only [ziRep, HV.out]; rfl
          have hI : RepO wr wa.heap.size wr.heap.size (.agg #[.int .i64 p, .int .i64 q.v, .slice fA q.f.length fc, .slice tA q.t.length tc, .slice dA V dc, .slice mA q.f.length mc]) (ziRep p q a b) := by
            refine ⟨_, _, _, _, vs, rfl, ?_, ?_, ?_, hpq, ?_⟩
            · rw [hMr]
              have := RowO.mono hO (Nat.le_refl _) (show w5.heap.size ≤ wr.heap.size by omega)
              rw [msF_length] at this
              rw [OutM, msF_length]
              exact this
            · rw [hMr, HVL.out, msF_length]
            · rw [hMr, hDr]
              exact hFm.mono (Nat.le_refl _) (by omega)
            · rw [hMr]
              exact hmI
          have HI := Lib.hid ((hI.chg hch6 (.inr (by omega))).wider (lo' := w0.heap.size) (by omega) (Nat.le_refl _))
          have FG := Lib.hid ((G0.out.trans (gAll.mono g0s)).trans (hch6.below (by omega) (by omega)))
          have c0 := k7.cell' (i := 0) rfl
          have c1 := k7.cell' (i := 1) rfl
          have c2 := k7.cell' (i := 2) rfl
          have c3 := k7.cell' (i := 3) rfl
          have c4 := k7.cell' (i := 4) rfl
          have c5 := k7.cell' (i := 5) rfl
          have fr := kR.frozen
          have s0 := kR.cell' (i := 0) rfl
          have s1 := kR.cell' (i := 1) rfl
          have s2 := kR.cell' (i := 2) rfl
          have s3 := kR.cell' (i := 3) rfl
          have s4 := kR.cell' (i := 4) rfl
          have s5 := kR.cell' (i := 5) rfl
          clear gX gB gAll hch6 hmI hend hI hO hFm hch k7 kR g0s gws
          go_wp2
          have sz := SZ.out
          have hF := HF.out
          refine bodyPost_ret (v := .tuple #[.agg #[.int .i64 p, .int .i64 q.v, .slice fA q.f.length fc, .slice tA q.t.length tc, .slice dA V dc, .slice mA q.f.length mc], .bool true]) (by simp [results, go_sem, s0, s1, s2, s3, s4, s5]) rfl ⟨_, by rw [hF], by rw [hF]; exact RepO.wider HI.out (Nat.le_refl _) (by simp), FG.out⟩

theorem implZigzagInterval_any (p : Int) (u : Value) (q : Qv) (a b : Int) (w0 : World) (hp : I64 p) (hu : QvR w0 w0.heap.size u q) (ha : I64 a) (hb : I64 b) :
    Calls Try.prog 18 #[.int .i64 p, u, .int .i64 a, .int .i64 b] w0 fun e w' => ∃ r, e = .returned (.tuple #[r, .bool (ziP (isZ q) p q a b).2]) ∧ RepO w' w0.heap.size w'.heap.size r (ziP (isZ q) p q a b).1 ∧ Below w0.heap.size w0 w' := by
  rcases h : ziOk (isZ q) p q a b with _ | _
  · exact implZigzagIntervalN p a b u q w0 hp hu ha hb h
  · exact implZigzagIntervalY p a b u q w0 hp hu ha hb h
end Go.Proofs.Ytjhllgldllbaaaa
