/- FnExactRepOfZigzag: for every argument the program's function returns what the reference's returns. Part 10 of 12 of the proof: ZigI3, ZigI4, RzI, RzJ, RzK, L3B. No condition. -/
import Derived.Test.YtcmlflppndfdcaaBRepOfZigzag9
/- Intervals: the references' ZigzagInterval and IntervalRep, where the arguments fit. -/
namespace Go.Proofs.Ytcmlflppndfdcaa
set_option linter.unusedVariables false
set_option linter.unusedSimpArgs false
open Go.RowKit

/-- the matrices behind the writes at arrows a .. k-1 -/
def ziF (q : Qv) (d : List Int) (a k i : Nat) : Mx := if a ≤ i ∧ i < k then onesM (zmAt q d i) else zmAt q d i
theorem ziF_rc (q : Qv) (d : List Int) (a k n : Nat) : (msF n (ziF q d a k)).map (fun m => (m.r, m.c)) = (msF n (zmAt q d)).map (fun m => (m.r, m.c)) := by
  simp only [msF, List.map_map]
  apply List.map_congr_left
  intro i _
  simp only [Function.comp, ziF]
  split <;> rfl
theorem ziF_I64 {q : Qv} (hz : isZ q = true) {V a b k : Nat} (hV : q.v = V) : ∀ m ∈ msF q.f.length (ziF q (rowF V (ivF a (b + 1))) a k), I64 m.r ∧ I64 m.c := by
  intro m hm
  obtain ⟨i, hi, rfl⟩ := msF_mem hm
  obtain ⟨r, c, e, h1, h2⟩ := ziZ_at hz (a := a) (b := b) hV hi
  unfold ziF
  rw [e]
  split <;> exact ⟨h1, h2⟩

theorem ziF_step {q : Qv} {D : List Int} {a k : Nat} {r c : Int} (e : zmAt q D k = ⟨r, c, [0]⟩) (h : a ≤ k) : (msF q.f.length (ziF q D a k)).set k ⟨r, c, [1]⟩ = msF q.f.length (ziF q D a (k + 1)) := by
  rw [msF_set]
  apply msF_congr
  intro i _
  by_cases hi : i = k
  · subst hi
    rw [if_pos rfl, ziF, if_pos ⟨h, by omega⟩, e]
    rfl
  · rw [if_neg hi]
    unfold ziF
    by_cases h2 : a ≤ i ∧ i < k
    · rw [if_pos h2, if_pos (by omega)]
    · rw [if_neg h2, if_neg (by omega)]
theorem ziF_end {q : Qv} (hz : isZ q = true) {V a b : Nat} (hV : q.v = V) : msF q.f.length (ziF q (rowF V (ivF a (b + 1))) a b) = msF q.f.length fun i => onesM (zmAt q (rowF V (ivF a (b + 1))) i) := by
  apply msF_congr
  intro i hi
  obtain ⟨r, c, e, _⟩ := ziZ_at hz (a := a) (b := b) hV hi
  unfold ziF
  by_cases h2 : a ≤ i ∧ i < b
  · rw [if_pos h2]
  · rw [if_neg h2, e, if_neg h2]
    rfl
theorem ziF_0 (q : Qv) (D : List Int) (a n : Nat) : msF n (ziF q D a a) = msF n (zmAt q D) := by
  apply msF_congr
  intro i _
  unfold ziF
  rw [if_neg (by omega)]
theorem ziF_at {q : Qv} (hz : isZ q = true) {V a b k : Nat} (hV : q.v = V) (h1 : a ≤ k) (h2 : k < b) (hk : k < q.f.length) : ∃ r c : Int, zmAt q (rowF V (ivF a (b + 1))) k = ⟨r, c, [0]⟩ ∧ (msF q.f.length (ziF q (rowF V (ivF a (b + 1))) a k))[k]? = some ⟨r, c, [0]⟩ := by
  obtain ⟨r, c, e, _⟩ := ziZ_at hz (a := a) (b := b) hV hk
  rw [if_pos ⟨h1, h2⟩] at e
  exact ⟨r, c, e, by rw [msF_get _ hk, ziF, if_neg (by omega), e]⟩

set_option maxHeartbeats 3200000 in
set_option maxRecDepth 100000 in
theorem specZigzagIntervalY (p a b : Int) (u : Value) (q : Qv) (w0 : World) (hp : I64 p) (hu : QvR w0 w0.heap.size u q) (ha : I64 a) (hb : I64 b) (hyes : ziOk (isZ q) p q a b = true) :
    Calls Try.prog 51 #[.int .i64 p, u, .int .i64 a, .int .i64 b] w0 fun e w' => ∃ r, e = .returned (.tuple #[r, .bool (ziP (isZ q) p q a b).2]) ∧ RepI w' w0.heap.size w'.heap.size r (ziP (isZ q) p q a b).1 ∧ Below w0.heap.size w0 w' := by
  have hu' := hu
  obtain ⟨A, c, C, c', rfl, hf, ht, hr, lf, lt⟩ := hu.open_
  clear hu hf ht
  obtain ⟨W, hW⟩ : ∃ W, W = (w0.alloc (.cells #[.int .i64 q.v, .slice A q.f.length c, .slice C q.t.length c'] 28)).alloc (.cells #[.int .i64 0, .int .i64 0, .slice none 0 0, .slice none 0 0, .slice none 0 0, .slice none 0 0] 31) := ⟨_, rfl⟩
  have g0 : Below w0.heap.size w0 W := by rw [hW]; exact ((Below.refl _ _).alloc (Nat.le_refl _) _).alloc (by simp) _
  have kq : Blk W w0.heap.size 28 #[.int .i64 q.v, .slice A q.f.length c, .slice C q.t.length c'] := by rw [hW]; exact (Blk.new _ _ _).alloc _
  have kR : Blk W (w0.heap.size + 1) 31 #[.int .i64 0, .int .i64 0, .slice none 0 0, .slice none 0 0, .slice none 0 0, .slice none 0 0] := by
    rw [hW]
    have := Blk.new (w0.alloc (.cells #[.int .i64 q.v, .slice A q.f.length c, .slice C q.t.length c'] 28)) 31 #[.int .i64 0, .int .i64 0, .slice none 0 0, .slice none 0 0, .slice none 0 0, .slice none 0 0]
    simpa only [World.size_alloc] using this
  have sz : W.heap.size = w0.heap.size + 1 + 1 := by rw [hW]; simp
  have SZ := Lib.hid sz
  have hq := QvR.next g0 hu'
  clear sz hu'
  have HF := Lib.hid (ziP_yes hyes)
  simp only [ziOk, Bool.and_eq_true] at hyes
  obtain ⟨h1, h2, h3, h4⟩ := hyes
  have hz : isZ q = true := by first | exact h2 | exact (isL_t h2).2
  obtain ⟨n1, n2⟩ := inR_t.1 h3
  obtain ⟨n3, n4⟩ := inR_t.1 h4
  have hv1 := (isQ_t.1 (isZ_t hz).1).1
  have hlf := (isZ_t hz).2.1
  obtain ⟨a, rfl⟩ := Int.eq_ofNat_of_zero_le n1
  obtain ⟨b, rfl⟩ := Int.eq_ofNat_of_zero_le (show 0 ≤ b by omega)
  obtain ⟨V, hV⟩ := Int.eq_ofNat_of_zero_le (show 0 ≤ q.v by omega)
  have hqv : I64 q.v := hr
  obtain ⟨i0, hi, hz0, hz1, hz2⟩ := info_parts infoInt
  have hmk := run_mk (P := Try.prog) Try.underlying22 hi hz0 (n := V) (by rw [hz2]; omega) (by omega)
  rw [hz1, Nat.mul_one, ← show q.v = (V : Int) from hV] at hmk
  clear hi hz0 hz1 hz2
  have H1 := Lib.hid h1
  have H2 := Lib.hid h2
  have H3 := Lib.hid h3
  have H4 := Lib.hid h4
  have HV := Lib.hid hV
  have HZ := Lib.hid hz
  have HLF := Lib.hid hlf
  clear h1 h2 h3 h4 hV hz hlf
  have c0 := kq.cell' (i := 0) rfl
  have c1 := kq.cell' (i := 1) rfl
  have c2 := kq.cell' (i := 2) rfl
  go_enter Try.func51, Try.ntmps51
  go_wp2_with fail
  rw [← hW]; clear hW
  refine (specIsField_any _ _).mono ?_; rintro e w1' ⟨rfl, rfl⟩
  rw [H1.out]
  go_wp2_with fail
  refine (specIsZigzag_any _ _ _ hq).mono ?_; rintro e w1 ⟨rfl, hb1⟩
  rw [H2.out]
  replace hq := QvR.next hb1 hq
  replace g0 := bthen g0 hb1
  replace kq := kq.call hb1
  replace kR := kR.call hb1
  have gW := hb1
  clear hb1 c0 c1 c2
  have c0 := kq.cell' (i := 0) rfl
  have c1 := kq.cell' (i := 1) rfl
  have c2 := kq.cell' (i := 2) rfl
  go_wp2_with fail
  refine (l1In_any _ _ _ _).mono ?_; rintro e w2' ⟨rfl, hww⟩
  replace hww := hww.symm
  subst hww
  rw [H3.out]
  go_wp2_with fail
  refine (l1In_any _ _ _ _).mono ?_; rintro e w2' ⟨rfl, hww⟩
  replace hww := hww.symm
  subst hww
  rw [H4.out]
  obtain ⟨W4, hW4⟩ : ∃ u, u = w1.alloc (.cells (mkCells (.int .i64 0) V) 3) := ⟨_, rfl⟩
  have b4 : Below w1.heap.size w1 W4 := by rw [hW4]; exact below_alloc _ _
  have oD : IntsO W4 w1.heap.size W4.heap.size (.slice (some ⟨w1.heap.size, 0, none⟩) V V) (rowF V (ivF a a)) := by
    have := OwnI.made0 (w := w1) (base := w1.heap.size) (N := V) (Nat.le_refl _) (by have := HV.out; omega)
    rw [← hW4, ivF_0 V a] at this
    exact IntsO.of_own this
  have s4 := b4.size
  have KQ := Lib.hid kq
  have HQ := Lib.hid hq
  have B4 := Lib.hid b4
  have G0 := Lib.hid g0
  have GW := Lib.hid gW
  have KR := Lib.hid kR
  clear b4 kq hq gW g0 kR
  go_wp2
  rw [← hW4]; clear hW4 c0 c1 c2 hmk
  go_loopw [11] (fun i wr => ∃ k : Nat, a ≤ k ∧ k ≤ b + 1 ∧ i = .int .i64 k ∧ IntsO wr w1.heap.size W4.heap.size (.slice (some ⟨w1.heap.size, 0, none⟩) V V) (rowF V (ivF a k)) ∧ Chg w1.heap.size (w1.heap.size + 1) W4 wr) (fun i _ => b + 1 - (intOf i).toNat)
  case atStart => exact ⟨a, Nat.le_refl _, by omega, rfl, oD, Chg.refl _ _ _⟩
  case round =>
    clear oD
    obtain ⟨k, hak, hk, rfl, oD, hch⟩ := hrel
    have hVV := HV.out
    by_cases hlt : k < b + 1
    · have hkV : k < V := by omega
      have hst := ivF_step hkV hak
      have hc := (oD.1.cellG (j := k) (by rw [rowF_length]; exact hkV)).1
      have fr := oD.1.frozenG k
      have hp1 := oD.1.put (j := k) (x := 1) (by unfold I64; omega)
      rw [hst] at hp1
      have HP1 := Lib.hid hp1
      clear hst hp1 hVV
      go_wp2
      go_roundw
      case rel => exact ⟨k + 1, by omega, by omega, by go_num, ⟨HP1.out.1, oD.2⟩, hch.trans (chg_set (by simp) (by simp))⟩
      case measure => simp [intOf]; omega
    · have hkb : k = b + 1 := by omega
      rw [hkb] at oD
      obtain ⟨kz, hkz⟩ : ∃ u, u = k := ⟨_, rfl⟩
      subst hkz
      have hdz : decide (kz ≤ b) = false := decide_eq_false (by omega)
      clear hkb
      obtain ⟨wa, hwa⟩ : ∃ u, u = wr := ⟨_, rfl⟩
      subst hwa
      have gX : Below w1.heap.size w1 wa := B4.out.trans (hch.below (Nat.le_refl _) (by omega))
      have kq := KQ.out.call gX
      have hq := QvR.next gX HQ.out
      have c0 := kq.cell' (i := 0) rfl
      have c1 := kq.cell' (i := 1) rfl
      have c2 := kq.cell' (i := 2) rfl
      have hdm := ivF_dims (isZ_t HZ.out).1 HV.out a (b + 1)
      have HDM := Lib.hid hdm
      have HQX := Lib.hid hq
      have OD := Lib.hid oD.rd
      have sX := hch.size
      clear hq oD hch hdm hVV kq
      go_wp2_with fail
      refine (l8Zero_any p _ _ q _ wa hp HQX.out OD.out HDM.out).mono ?_; rintro e w5 ⟨v, rfl, ⟨f, t, d, m, vs, mi, rfl, i1, i2, i3, hO, hvl, hFm, hmi, hpq, hrc⟩, hb5⟩
      simp only [zRep, zms_F, msF_length] at i1 i2 i3 hO hvl hFm hpq hrc ⊢
      obtain ⟨fA, fc, ef⟩ := i1.form
      obtain ⟨tA, tc, et⟩ := i2.form
      obtain ⟨dA, dc, ed⟩ := i3.form
      subst ef et ed
      have hlD := rowF_length V (ivF a (b + 1))
      rw [hlD] at i3 ⊢
      obtain ⟨D, hD⟩ : ∃ D, rowF V (ivF a (b + 1)) = D := ⟨_, rfl⟩
      rw [hD] at i3 hO hFm
      obtain ⟨mA, mc, em, lm1, lm2⟩ := RowO.form hO
      subst em
      simp only [msF_length] at hO lm1 ⊢
      obtain ⟨W6, hW6⟩ : ∃ u, u = w5.alloc (.cells #[.int .i64 p, .int .i64 q.v, .slice fA q.f.length fc, .slice tA q.t.length tc, .slice dA V dc, .slice mA q.f.length mc] 31) := ⟨_, rfl⟩
      have b6 : Below w5.heap.size w5 W6 := by rw [hW6]; exact below_alloc _ _
      have k6 : Blk W6 w5.heap.size 31 #[.int .i64 p, .int .i64 q.v, .slice fA q.f.length fc, .slice tA q.t.length tc, .slice dA V dc, .slice mA q.f.length mc] := by rw [hW6]; exact Blk.new _ _ _
      have s5 := hb5.size
      have s6 := k6.lt
      have hrcF : (msF q.f.length (ziF q D a a)) = msF q.f.length (zmAt q D) := ziF_0 q D a _
      have hO6 : OutM W6 wa.heap.size w5.heap.size (.slice mA q.f.length mc) vs (msF q.f.length (ziF q D a a)) := by
        rw [hrcF]; exact RowO.below hO b6
      have hF6 : Fam W6 mi w5.heap.size ([] ++ vs.zip ((msF q.f.length (ziF q D a a)).map Mx.a)) := by
        rw [hrcF]; exact hFm.below b6
      have I1 := Lib.hid (i1.below b6)
      have I2 := Lib.hid (i2.below b6)
      have I3 := Lib.hid (i3.below b6)
      have HVL := Lib.hid hvl
      have HD := Lib.hid hD
      have HB5 := Lib.hid (bthen hb5 b6)
      have GX := Lib.hid gX
      have HRC := Lib.hid hrc
      clear i1 i2 i3 hvl hD hlD hrcF hO hFm hb5 b6 gX hrc c0 c1 c2
      go_wp2
      rw [← hW6]; clear hW6
      go_loopw [13] (fun i wr => ∃ k : Nat, a ≤ k ∧ k ≤ b ∧ i = .int .i64 k ∧ OutM wr wa.heap.size w5.heap.size (.slice mA q.f.length mc) vs (msF q.f.length (ziF q D a k)) ∧ Fam wr mi w5.heap.size ([] ++ vs.zip ((msF q.f.length (ziF q D a k)).map Mx.a)) ∧ Chg mi w5.heap.size W6 wr) (fun i _ => b - (intOf i).toNat)
      case atStart => exact ⟨a, Nat.le_refl _, by omega, rfl, hO6, hF6, Chg.refl _ _ _⟩
      case round =>
        clear hO6 hF6
        obtain ⟨k, hak, hk, rfl, hO, hFm, hch⟩ := hrel
        have k7 := k6.chg hch (.inr (Nat.le_refl _))
        by_cases hlt : k < b
        · have hkl : k < q.f.length := by have := HLF.out; have := HV.out; omega
          obtain ⟨r, c, ez, em⟩ := ziF_at HZ.out HV.out hak hlt hkl
          rw [HD.out] at ez em
          obtain ⟨gm, cm, g, cg, e1, hgm, hvk, y0, y1, y2, oM, hgb, lg1, lg2, lg3, lg4⟩ := OutM.at_ hO (by rw [HVL.out, msF_length]) hFm em (by simp)
          rw [msF_length] at e1
          injection e1 with e11 e12 e13
          subst e11 e13
          have hput := mats_put (i := 0) (x := 1) hO hFm hvk em oM (by unfold I64; omega)
          simp only [List.set_cons_zero, ziF_step ez hak] at hput
          have x0 := (oM.cellG (j := 0) (by simp)).1
          have fr := oM.frozenG 0
          have c5 := k7.cell' (i := 5) rfl
          simp only [List.length_cons, List.length_nil] at y2 lg1 x0 fr hvk oM
          have HP := Lib.hid hput
          clear hput em ez hvk oM hO hFm y0 y1 k7
          go_wp2
          go_roundw
          case rel => exact ⟨k + 1, by omega, by omega, by go_num, HP.out.1, HP.out.2, hch.trans (chg_set (by simp; omega) (by simp; omega))⟩
          case measure => simp [intOf]; omega
        · obtain rfl : k = b := by omega
          have gX := GX.out
          have gXs := gX.size
          have gB := HB5.out
          have gAll : Below w1.heap.size w1 wr := (gX.trans (gB.mono gXs)).trans (hch.below (by omega) (by omega))
          have kR := KR.out.call gAll
          have sz := SZ.out
          have g0s := (G0.out).size
          have gws := (GW.out).size
          have hch6 := chg6 wr (w0.heap.size + 1) (.int .i64 p) (.int .i64 q.v) (.slice fA q.f.length fc) (.slice tA q.t.length tc) (.slice dA V dc) (.slice mA q.f.length mc)
          have sy := hch.size
          have hmI := ziF_I64 HZ.out (a := a) (b := k) (k := k) HV.out
          rw [HD.out] at hmI
          have hend := ziF_end HZ.out (a := a) (b := k) HV.out
          rw [HD.out] at hend
          have hDr : (ziRep p q a k).d = D := by rw [← HD.out]; simp only [ziRep, HV.out]; rfl
          have hMr : (ziRep p q a k).m = msF q.f.length (ziF q D a k) := by rw [hend, ← HD.out]; simp only [ziRep, HV.out]; rfl
          have hI : RepI wr wa.heap.size wr.heap.size (.agg #[.int .i64 p, .int .i64 q.v, .slice fA q.f.length fc, .slice tA q.t.length tc, .slice dA V dc, .slice mA q.f.length mc]) (ziRep p q a k) := by
            refine ⟨_, _, _, _, vs, mi, rfl, (I1.out.chg hch (.inl (Nat.le_refl _))), (I2.out.chg hch (.inl (Nat.le_refl _))), ?_, ?_, ?_, ?_, by omega, hpq, ?_⟩
            · rw [hDr]
              exact I3.out.chg hch (.inl (Nat.le_refl _))
            · rw [hMr]
              exact RowO.mono hO (Nat.le_refl _) (by omega)
            · rw [hMr, HVL.out, msF_length]
            · rw [hMr]
              exact hFm.mono (Nat.le_refl _) (by omega)
            · rw [hMr]
              exact hmI
          have HI := Lib.hid ((hI.chg hch6 (.inr (by omega))).wider (lo' := w0.heap.size) (hi' := wr.heap.size) (by omega) (Nat.le_refl _))
          have FG := Lib.hid ((G0.out.trans (gAll.mono g0s)).trans (hch6.below (by omega) (by omega)))
          have c0 := k7.cell' (i := 0) rfl
          have c1 := k7.cell' (i := 1) rfl
          have c2 := k7.cell' (i := 2) rfl
          have c3 := k7.cell' (i := 3) rfl
          have c4 := k7.cell' (i := 4) rfl
          have c5 := k7.cell' (i := 5) rfl
          have fr := kR.frozen
          have s0 := kR.cell' (i := 0) rfl
          have s1 := kR.cell' (i := 1) rfl
          have s2 := kR.cell' (i := 2) rfl
          have s3 := kR.cell' (i := 3) rfl
          have s4 := kR.cell' (i := 4) rfl
          have s5 := kR.cell' (i := 5) rfl
          clear gX gB gAll hch6 hmI hend hI hO hFm hch k7 kR g0s
          go_wp2
          have sz := SZ.out
          have hF := HF.out
          refine bodyPost_ret (v := .tuple #[.agg #[.int .i64 p, .int .i64 q.v, .slice fA q.f.length fc, .slice tA q.t.length tc, .slice dA V dc, .slice mA q.f.length mc], .bool true]) (by simp [results, go_sem, s0, s1, s2, s3, s4, s5]) rfl ⟨_, by rw [hF], by rw [hF]; exact HI.out.wider (Nat.le_refl _) (by simp), FG.out⟩
set_option maxHeartbeats 3200000 in
set_option maxRecDepth 100000 in
theorem specIntervalRepY (p a b : Int) (u : Value) (q : Qv) (w0 : World) (hp : I64 p) (hu : QvR w0 w0.heap.size u q) (ha : I64 a) (hb : I64 b) (hyes : ziOk (isL q) p q a b = true) :
    Calls Try.prog 36 #[.int .i64 p, u, .int .i64 a, .int .i64 b] w0 fun e w' => ∃ r, e = .returned (.tuple #[r, .bool (ziP (isL q) p q a b).2]) ∧ RepI w' w0.heap.size w'.heap.size r (ziP (isL q) p q a b).1 ∧ Below w0.heap.size w0 w' := by
  have hu' := hu
  obtain ⟨A, c, C, c', rfl, hf, ht, hr, lf, lt⟩ := hu.open_
  clear hu hf ht
  obtain ⟨W, hW⟩ : ∃ W, W = (w0.alloc (.cells #[.int .i64 q.v, .slice A q.f.length c, .slice C q.t.length c'] 28)).alloc (.cells #[.int .i64 0, .int .i64 0, .slice none 0 0, .slice none 0 0, .slice none 0 0, .slice none 0 0] 31) := ⟨_, rfl⟩
  have g0 : Below w0.heap.size w0 W := by rw [hW]; exact ((Below.refl _ _).alloc (Nat.le_refl _) _).alloc (by simp) _
  have kq : Blk W w0.heap.size 28 #[.int .i64 q.v, .slice A q.f.length c, .slice C q.t.length c'] := by rw [hW]; exact (Blk.new _ _ _).alloc _
  have kR : Blk W (w0.heap.size + 1) 31 #[.int .i64 0, .int .i64 0, .slice none 0 0, .slice none 0 0, .slice none 0 0, .slice none 0 0] := by
    rw [hW]
    have := Blk.new (w0.alloc (.cells #[.int .i64 q.v, .slice A q.f.length c, .slice C q.t.length c'] 28)) 31 #[.int .i64 0, .int .i64 0, .slice none 0 0, .slice none 0 0, .slice none 0 0, .slice none 0 0]
    simpa only [World.size_alloc] using this
  have sz : W.heap.size = w0.heap.size + 1 + 1 := by rw [hW]; simp
  have SZ := Lib.hid sz
  have hq := QvR.next g0 hu'
  clear sz hu'
  have HF := Lib.hid (ziP_yes hyes)
  simp only [ziOk, Bool.and_eq_true] at hyes
  obtain ⟨h1, h2, h3, h4⟩ := hyes
  have hz : isZ q = true := by first | exact h2 | exact (isL_t h2).2
  obtain ⟨n1, n2⟩ := inR_t.1 h3
  obtain ⟨n3, n4⟩ := inR_t.1 h4
  have hv1 := (isQ_t.1 (isZ_t hz).1).1
  have hlf := (isZ_t hz).2.1
  obtain ⟨a, rfl⟩ := Int.eq_ofNat_of_zero_le n1
  obtain ⟨b, rfl⟩ := Int.eq_ofNat_of_zero_le (show 0 ≤ b by omega)
  obtain ⟨V, hV⟩ := Int.eq_ofNat_of_zero_le (show 0 ≤ q.v by omega)
  have hqv : I64 q.v := hr
  obtain ⟨i0, hi, hz0, hz1, hz2⟩ := info_parts infoInt
  have hmk := run_mk (P := Try.prog) Try.underlying22 hi hz0 (n := V) (by rw [hz2]; omega) (by omega)
  rw [hz1, Nat.mul_one, ← show q.v = (V : Int) from hV] at hmk
  clear hi hz0 hz1 hz2
  have H1 := Lib.hid h1
  have H2 := Lib.hid h2
  have H3 := Lib.hid h3
  have H4 := Lib.hid h4
  have HV := Lib.hid hV
  have HZ := Lib.hid hz
  have HLF := Lib.hid hlf
  clear h1 h2 h3 h4 hV hz hlf
  have c0 := kq.cell' (i := 0) rfl
  have c1 := kq.cell' (i := 1) rfl
  have c2 := kq.cell' (i := 2) rfl
  go_enter Try.func36, Try.ntmps36
  go_wp2_with fail
  rw [← hW]; clear hW
  refine (specIsField_any _ _).mono ?_; rintro e w1' ⟨rfl, rfl⟩
  rw [H1.out]
  go_wp2_with fail
  refine (specIsLine_any _ _ _ hq).mono ?_; rintro e w1 ⟨rfl, hb1⟩
  rw [H2.out]
  replace hq := QvR.next hb1 hq
  replace g0 := bthen g0 hb1
  replace kq := kq.call hb1
  replace kR := kR.call hb1
  have gW := hb1
  clear hb1 c0 c1 c2
  have c0 := kq.cell' (i := 0) rfl
  have c1 := kq.cell' (i := 1) rfl
  have c2 := kq.cell' (i := 2) rfl
  go_wp2_with fail
  refine (l1In_any _ _ _ _).mono ?_; rintro e w2' ⟨rfl, hww⟩
  replace hww := hww.symm
  subst hww
  rw [H3.out]
  go_wp2_with fail
  refine (l1In_any _ _ _ _).mono ?_; rintro e w2' ⟨rfl, hww⟩
  replace hww := hww.symm
  subst hww
  rw [H4.out]
  obtain ⟨W4, hW4⟩ : ∃ u, u = w1.alloc (.cells (mkCells (.int .i64 0) V) 3) := ⟨_, rfl⟩
  have b4 : Below w1.heap.size w1 W4 := by rw [hW4]; exact below_alloc _ _
  have oD : IntsO W4 w1.heap.size W4.heap.size (.slice (some ⟨w1.heap.size, 0, none⟩) V V) (rowF V (ivF a a)) := by
    have := OwnI.made0 (w := w1) (base := w1.heap.size) (N := V) (Nat.le_refl _) (by have := HV.out; omega)
    rw [← hW4, ivF_0 V a] at this
    exact IntsO.of_own this
  have s4 := b4.size
  have KQ := Lib.hid kq
  have HQ := Lib.hid hq
  have B4 := Lib.hid b4
  have G0 := Lib.hid g0
  have GW := Lib.hid gW
  have KR := Lib.hid kR
  clear b4 kq hq gW g0 kR
  go_wp2
  rw [← hW4]; clear hW4 c0 c1 c2 hmk
  go_loopw [11] (fun i wr => ∃ k : Nat, a ≤ k ∧ k ≤ b + 1 ∧ i = .int .i64 k ∧ IntsO wr w1.heap.size W4.heap.size (.slice (some ⟨w1.heap.size, 0, none⟩) V V) (rowF V (ivF a k)) ∧ Chg w1.heap.size (w1.heap.size + 1) W4 wr) (fun i _ => b + 1 - (intOf i).toNat)
  case atStart => exact ⟨a, Nat.le_refl _, by omega, rfl, oD, Chg.refl _ _ _⟩
  case round =>
    clear oD
    obtain ⟨k, hak, hk, rfl, oD, hch⟩ := hrel
    have hVV := HV.out
    by_cases hlt : k < b + 1
    · have hkV : k < V := by omega
      have hst := ivF_step hkV hak
      have hc := (oD.1.cellG (j := k) (by rw [rowF_length]; exact hkV)).1
      have fr := oD.1.frozenG k
      have hp1 := oD.1.put (j := k) (x := 1) (by unfold I64; omega)
      rw [hst] at hp1
      have HP1 := Lib.hid hp1
      clear hst hp1 hVV
      go_wp2
      go_roundw
      case rel => exact ⟨k + 1, by omega, by omega, by go_num, ⟨HP1.out.1, oD.2⟩, hch.trans (chg_set (by simp) (by simp))⟩
      case measure => simp [intOf]; omega
    · have hkb : k = b + 1 := by omega
      rw [hkb] at oD
      obtain ⟨kz, hkz⟩ : ∃ u, u = k := ⟨_, rfl⟩
      subst hkz
      have hdz : decide (kz ≤ b) = false := decide_eq_false (by omega)
      clear hkb
      obtain ⟨wa, hwa⟩ : ∃ u, u = wr := ⟨_, rfl⟩
      subst hwa
      have gX : Below w1.heap.size w1 wa := B4.out.trans (hch.below (Nat.le_refl _) (by omega))
      have kq := KQ.out.call gX
      have hq := QvR.next gX HQ.out
      have c0 := kq.cell' (i := 0) rfl
      have c1 := kq.cell' (i := 1) rfl
      have c2 := kq.cell' (i := 2) rfl
      have hdm := ivF_dims (isZ_t HZ.out).1 HV.out a (b + 1)
      have HDM := Lib.hid hdm
      have HQX := Lib.hid hq
      have OD := Lib.hid oD.rd
      have sX := hch.size
      clear hq oD hch hdm hVV kq
      go_wp2_with fail
      refine (l8Zero_any p _ _ q _ wa hp HQX.out OD.out HDM.out).mono ?_; rintro e w5 ⟨v, rfl, ⟨f, t, d, m, vs, mi, rfl, i1, i2, i3, hO, hvl, hFm, hmi, hpq, hrc⟩, hb5⟩
      simp only [zRep, zms_F, msF_length] at i1 i2 i3 hO hvl hFm hpq hrc ⊢
      obtain ⟨fA, fc, ef⟩ := i1.form
      obtain ⟨tA, tc, et⟩ := i2.form
      obtain ⟨dA, dc, ed⟩ := i3.form
      subst ef et ed
      have hlD := rowF_length V (ivF a (b + 1))
      rw [hlD] at i3 ⊢
      obtain ⟨D, hD⟩ : ∃ D, rowF V (ivF a (b + 1)) = D := ⟨_, rfl⟩
      rw [hD] at i3 hO hFm
      obtain ⟨mA, mc, em, lm1, lm2⟩ := RowO.form hO
      subst em
      simp only [msF_length] at hO lm1 ⊢
      obtain ⟨W6, hW6⟩ : ∃ u, u = w5.alloc (.cells #[.int .i64 p, .int .i64 q.v, .slice fA q.f.length fc, .slice tA q.t.length tc, .slice dA V dc, .slice mA q.f.length mc] 31) := ⟨_, rfl⟩
      have b6 : Below w5.heap.size w5 W6 := by rw [hW6]; exact below_alloc _ _
      have k6 : Blk W6 w5.heap.size 31 #[.int .i64 p, .int .i64 q.v, .slice fA q.f.length fc, .slice tA q.t.length tc, .slice dA V dc, .slice mA q.f.length mc] := by rw [hW6]; exact Blk.new _ _ _
      have s5 := hb5.size
      have s6 := k6.lt
      have hrcF : (msF q.f.length (ziF q D a a)) = msF q.f.length (zmAt q D) := ziF_0 q D a _
      have hO6 : OutM W6 wa.heap.size w5.heap.size (.slice mA q.f.length mc) vs (msF q.f.length (ziF q D a a)) := by
        rw [hrcF]; exact RowO.below hO b6
      have hF6 : Fam W6 mi w5.heap.size ([] ++ vs.zip ((msF q.f.length (ziF q D a a)).map Mx.a)) := by
        rw [hrcF]; exact hFm.below b6
      have I1 := Lib.hid (i1.below b6)
      have I2 := Lib.hid (i2.below b6)
      have I3 := Lib.hid (i3.below b6)
      have HVL := Lib.hid hvl
      have HD := Lib.hid hD
      have HB5 := Lib.hid (bthen hb5 b6)
      have GX := Lib.hid gX
      have HRC := Lib.hid hrc
      clear i1 i2 i3 hvl hD hlD hrcF hO hFm hb5 b6 gX hrc c0 c1 c2
      go_wp2
      rw [← hW6]; clear hW6
      go_loopw [13] (fun i wr => ∃ k : Nat, a ≤ k ∧ k ≤ b ∧ i = .int .i64 k ∧ OutM wr wa.heap.size w5.heap.size (.slice mA q.f.length mc) vs (msF q.f.length (ziF q D a k)) ∧ Fam wr mi w5.heap.size ([] ++ vs.zip ((msF q.f.length (ziF q D a k)).map Mx.a)) ∧ Chg mi w5.heap.size W6 wr) (fun i _ => b - (intOf i).toNat)
      case atStart => exact ⟨a, Nat.le_refl _, by omega, rfl, hO6, hF6, Chg.refl _ _ _⟩
      case round =>
        clear hO6 hF6
        obtain ⟨k, hak, hk, rfl, hO, hFm, hch⟩ := hrel
        have k7 := k6.chg hch (.inr (Nat.le_refl _))
        by_cases hlt : k < b
        · have hkl : k < q.f.length := by have := HLF.out; have := HV.out; omega
          obtain ⟨r, c, ez, em⟩ := ziF_at HZ.out HV.out hak hlt hkl
          rw [HD.out] at ez em
          obtain ⟨gm, cm, g, cg, e1, hgm, hvk, y0, y1, y2, oM, hgb, lg1, lg2, lg3, lg4⟩ := OutM.at_ hO (by rw [HVL.out, msF_length]) hFm em (by simp)
          rw [msF_length] at e1
          injection e1 with e11 e12 e13
          subst e11 e13
          have hput := mats_put (i := 0) (x := 1) hO hFm hvk em oM (by unfold I64; omega)
          simp only [List.set_cons_zero, ziF_step ez hak] at hput
          have x0 := (oM.cellG (j := 0) (by simp)).1
          have fr := oM.frozenG 0
          have c5 := k7.cell' (i := 5) rfl
          simp only [List.length_cons, List.length_nil] at y2 lg1 x0 fr hvk oM
          have HP := Lib.hid hput
          clear hput em ez hvk oM hO hFm y0 y1 k7
          go_wp2
          go_roundw
          case rel => exact ⟨k + 1, by omega, by omega, by go_num, HP.out.1, HP.out.2, hch.trans (chg_set (by simp; omega) (by simp; omega))⟩
          case measure => simp [intOf]; omega
        · obtain rfl : k = b := by omega
          have gX := GX.out
          have gXs := gX.size
          have gB := HB5.out
          have gAll : Below w1.heap.size w1 wr := (gX.trans (gB.mono gXs)).trans (hch.below (by omega) (by omega))
          have kR := KR.out.call gAll
          have sz := SZ.out
          have g0s := (G0.out).size
          have gws := (GW.out).size
          have hch6 := chg6 wr (w0.heap.size + 1) (.int .i64 p) (.int .i64 q.v) (.slice fA q.f.length fc) (.slice tA q.t.length tc) (.slice dA V dc) (.slice mA q.f.length mc)
          have sy := hch.size
          have hmI := ziF_I64 HZ.out (a := a) (b := k) (k := k) HV.out
          rw [HD.out] at hmI
          have hend := ziF_end HZ.out (a := a) (b := k) HV.out
          rw [HD.out] at hend
          have hDr : (ziRep p q a k).d = D := by rw [← HD.out]; simp only [ziRep, HV.out]; rfl
          have hMr : (ziRep p q a k).m = msF q.f.length (ziF q D a k) := by rw [hend, ← HD.out]; simp only [ziRep, HV.out]; rfl
          have hI : RepI wr wa.heap.size wr.heap.size (.agg #[.int .i64 p, .int .i64 q.v, .slice fA q.f.length fc, .slice tA q.t.length tc, .slice dA V dc, .slice mA q.f.length mc]) (ziRep p q a k) := by
            refine ⟨_, _, _, _, vs, mi, rfl, (I1.out.chg hch (.inl (Nat.le_refl _))), (I2.out.chg hch (.inl (Nat.le_refl _))), ?_, ?_, ?_, ?_, by omega, hpq, ?_⟩
            · rw [hDr]
              exact I3.out.chg hch (.inl (Nat.le_refl _))
            · rw [hMr]
              exact RowO.mono hO (Nat.le_refl _) (by omega)
            · rw [hMr, HVL.out, msF_length]
            · rw [hMr]
              exact hFm.mono (Nat.le_refl _) (by omega)
            · rw [hMr]
              exact hmI
          have HI := Lib.hid ((hI.chg hch6 (.inr (by omega))).wider (lo' := w0.heap.size) (hi' := wr.heap.size) (by omega) (Nat.le_refl _))
          have FG := Lib.hid ((G0.out.trans (gAll.mono g0s)).trans (hch6.below (by omega) (by omega)))
          have c0 := k7.cell' (i := 0) rfl
          have c1 := k7.cell' (i := 1) rfl
          have c2 := k7.cell' (i := 2) rfl
          have c3 := k7.cell' (i := 3) rfl
          have c4 := k7.cell' (i := 4) rfl
          have c5 := k7.cell' (i := 5) rfl
          have fr := kR.frozen
          have s0 := kR.cell' (i := 0) rfl
          have s1 := kR.cell' (i := 1) rfl
          have s2 := kR.cell' (i := 2) rfl
          have s3 := kR.cell' (i := 3) rfl
          have s4 := kR.cell' (i := 4) rfl
          have s5 := kR.cell' (i := 5) rfl
          clear gX gB gAll hch6 hmI hend hI hO hFm hch k7 kR g0s
          go_wp2
          have sz := SZ.out
          have hF := HF.out
          refine bodyPost_ret (v := .tuple #[.agg #[.int .i64 p, .int .i64 q.v, .slice fA q.f.length fc, .slice tA q.t.length tc, .slice dA V dc, .slice mA q.f.length mc], .bool true]) (by simp [results, go_sem, s0, s1, s2, s3, s4, s5]) rfl ⟨_, by rw [hF], by rw [hF]; exact HI.out.wider (Nat.le_refl _) (by simp), FG.out⟩

theorem specZigzagInterval_any (p : Int) (u : Value) (q : Qv) (a b : Int) (w0 : World) (hp : I64 p) (hu : QvR w0 w0.heap.size u q) (ha : I64 a) (hb : I64 b) :
    Calls Try.prog 51 #[.int .i64 p, u, .int .i64 a, .int .i64 b] w0 fun e w' => ∃ r, e = .returned (.tuple #[r, .bool (ziP (isZ q) p q a b).2]) ∧ RpR w' w'.heap.size r (ziP (isZ q) p q a b).1 ∧ Below w0.heap.size w0 w' := by
  rcases h : ziOk (isZ q) p q a b with _ | _
  · exact specZigzagIntervalN p a b u q w0 hp hu ha hb h
  · exact (specZigzagIntervalY p a b u q w0 hp hu ha hb h).mono fun e w' ⟨r, h1, h2, h3⟩ => ⟨r, h1, h2.rd, h3⟩
theorem specIntervalRep_any (p : Int) (u : Value) (q : Qv) (a b : Int) (w0 : World) (hp : I64 p) (hu : QvR w0 w0.heap.size u q) (ha : I64 a) (hb : I64 b) :
    Calls Try.prog 36 #[.int .i64 p, u, .int .i64 a, .int .i64 b] w0 fun e w' => ∃ r, e = .returned (.tuple #[r, .bool (ziP (isL q) p q a b).2]) ∧ RpR w' w'.heap.size r (ziP (isL q) p q a b).1 ∧ Below w0.heap.size w0 w' := by
  rcases h : ziOk (isL q) p q a b with _ | _
  · exact specIntervalRepN p a b u q w0 hp hu ha hb h
  · exact (specIntervalRepY p a b u q w0 hp hu ha hb h).mono fun e w' ⟨r, h1, h2, h3⟩ => ⟨r, h1, h2.rd, h3⟩
end Go.Proofs.Ytcmlflppndfdcaa

/- Intervals: the program's ZigzagInterval and IntervalRep. -/
namespace Go.Proofs.Ytcmlflppndfdcaa
set_option linter.unusedVariables false
set_option linter.unusedSimpArgs false
open Go.RowKit

def zoF (q : Qv) (d : List Int) (k i : Nat) : Mx := if i < k then onesM (zmAt q d i) else zmAt q d i
theorem zoF_I64 {q : Qv} (hz : isZ q = true) {V a b k : Nat} (hV : q.v = V) : ∀ m ∈ msF q.f.length (zoF q (rowF V (ivF a (b + 1))) k), I64 m.r ∧ I64 m.c := by
  intro m hm
  obtain ⟨i, hi, rfl⟩ := msF_mem hm
  obtain ⟨r, c, e, h1, h2⟩ := ziZ_at hz (a := a) (b := b) hV hi
  unfold zoF
  rw [e]
  split <;> exact ⟨h1, h2⟩
theorem zoF_0 (q : Qv) (D : List Int) (n : Nat) : msF n (zoF q D 0) = msF n (zmAt q D) := by
  apply msF_congr
  intro i _
  unfold zoF
  rw [if_neg (by omega)]
theorem zoF_end (q : Qv) (D : List Int) (n : Nat) : msF n (zoF q D n) = msF n fun i => onesM (zmAt q D i) := by
  apply msF_congr
  intro i h
  unfold zoF
  rw [if_pos h]
theorem zoF_step {q : Qv} {D : List Int} {k : Nat} {r c : Int} (e : zmAt q D k = ⟨r, c, [0]⟩) : (msF q.f.length (zoF q D k)).set k ⟨r, c, [1]⟩ = msF q.f.length (zoF q D (k + 1)) := by
  rw [msF_set]
  apply msF_congr
  intro i _
  by_cases hi : i = k
  · subst hi
    rw [if_pos rfl, zoF, if_pos (by omega), e]
    rfl
  · rw [if_neg hi]
    unfold zoF
    by_cases h2 : i < k
    · rw [if_pos h2, if_pos (by omega)]
    · rw [if_neg h2, if_neg (by omega)]
theorem zoF_skip {q : Qv} {D : List Int} {k : Nat} {r c : Int} (e : zmAt q D k = ⟨r, c, []⟩) : msF q.f.length (zoF q D k) = msF q.f.length (zoF q D (k + 1)) := by
  apply msF_congr
  intro i _
  unfold zoF
  by_cases hi : i = k
  · subst hi
    rw [if_neg (by omega), if_pos (by omega), e]
    rfl
  · by_cases h2 : i < k
    · rw [if_pos h2, if_pos (by omega)]
    · rw [if_neg h2, if_neg (by omega)]
theorem zoF_at {q : Qv} {D : List Int} {k : Nat} (hk : k < q.f.length) : (msF q.f.length (zoF q D k))[k]? = some (zmAt q D k) := by
  rw [msF_get _ hk, zoF, if_neg (by omega)]

set_option maxHeartbeats 3200000 in
set_option maxRecDepth 100000 in
theorem implZigzagIntervalY (p a b : Int) (u : Value) (q : Qv) (w0 : World) (hp : I64 p) (hu : QvR w0 w0.heap.size u q) (ha : I64 a) (hb : I64 b) (hyes : ziOk (isZ q) p q a b = true) :
    Calls Try.prog 56 #[.int .i64 p, u, .int .i64 a, .int .i64 b] w0 fun e w' => ∃ r, e = .returned (.tuple #[r, .bool (ziP (isZ q) p q a b).2]) ∧ RepO w' w0.heap.size w'.heap.size r (ziP (isZ q) p q a b).1 ∧ Below w0.heap.size w0 w' := by
  have hu' := hu
  obtain ⟨A, c, C, c', rfl, hf, ht, hr, lf, lt⟩ := hu.open_
  clear hu hf ht
  obtain ⟨W, hW⟩ : ∃ W, W = (w0.alloc (.cells #[.int .i64 q.v, .slice A q.f.length c, .slice C q.t.length c'] 28)).alloc (.cells #[.int .i64 0, .int .i64 0, .slice none 0 0, .slice none 0 0, .slice none 0 0, .slice none 0 0] 31) := ⟨_, rfl⟩
  have g0 : Below w0.heap.size w0 W := by rw [hW]; exact ((Below.refl _ _).alloc (Nat.le_refl _) _).alloc (by simp) _
  have kq : Blk W w0.heap.size 28 #[.int .i64 q.v, .slice A q.f.length c, .slice C q.t.length c'] := by rw [hW]; exact (Blk.new _ _ _).alloc _
  have kR : Blk W (w0.heap.size + 1) 31 #[.int .i64 0, .int .i64 0, .slice none 0 0, .slice none 0 0, .slice none 0 0, .slice none 0 0] := by
    rw [hW]
    have := Blk.new (w0.alloc (.cells #[.int .i64 q.v, .slice A q.f.length c, .slice C q.t.length c'] 28)) 31 #[.int .i64 0, .int .i64 0, .slice none 0 0, .slice none 0 0, .slice none 0 0, .slice none 0 0]
    simpa only [World.size_alloc] using this
  have sz : W.heap.size = w0.heap.size + 1 + 1 := by rw [hW]; simp
  have SZ := Lib.hid sz
  have hq := QvR.next g0 hu'
  clear sz hu'
  have HF := Lib.hid (ziP_yes hyes)
  simp only [ziOk, Bool.and_eq_true] at hyes
  obtain ⟨h1, h2, h3, h4⟩ := hyes
  have hz : isZ q = true := by first | exact h2 | exact (isL_t h2).2
  obtain ⟨n1, n2⟩ := inR_t.1 h3
  obtain ⟨n3, n4⟩ := inR_t.1 h4
  have hv1 := (isQ_t.1 (isZ_t hz).1).1
  have hlf := (isZ_t hz).2.1
  obtain ⟨a, rfl⟩ := Int.eq_ofNat_of_zero_le n1
  obtain ⟨b, rfl⟩ := Int.eq_ofNat_of_zero_le (show 0 ≤ b by omega)
  obtain ⟨V, hV⟩ := Int.eq_ofNat_of_zero_le (show 0 ≤ q.v by omega)
  have hqv : I64 q.v := hr
  obtain ⟨i0, hi, hz0, hz1, hz2⟩ := info_parts infoInt
  have hmk := run_mk (P := Try.prog) Try.underlying22 hi hz0 (n := V) (by rw [hz2]; omega) (by omega)
  rw [hz1, Nat.mul_one, ← show q.v = (V : Int) from hV] at hmk
  clear hi hz0 hz1 hz2
  have H1 := Lib.hid h1
  have H2 := Lib.hid h2
  have H3 := Lib.hid h3
  have H4 := Lib.hid h4
  have HV := Lib.hid hV
  have HZ := Lib.hid hz
  have HLF := Lib.hid hlf
  clear h1 h2 h3 h4 hV hz hlf
  have c0 := kq.cell' (i := 0) rfl
  have c1 := kq.cell' (i := 1) rfl
  have c2 := kq.cell' (i := 2) rfl
  go_enter Try.func56, Try.ntmps56
  go_wp2_with fail
  rw [← hW]; clear hW
  refine (implIsField_any _ _).mono ?_; rintro e w1' ⟨rfl, rfl⟩
  rw [H1.out]
  go_wp2_with fail
  refine (implIsZigzag_any _ _ _ hq).mono ?_; rintro e w1 ⟨rfl, hb1⟩
  rw [H2.out]
  replace hq := QvR.next hb1 hq
  replace g0 := bthen g0 hb1
  replace kq := kq.call hb1
  replace kR := kR.call hb1
  have gW := hb1
  clear hb1 c0 c1 c2
  have c0 := kq.cell' (i := 0) rfl
  have c1 := kq.cell' (i := 1) rfl
  have c2 := kq.cell' (i := 2) rfl
  go_wp2_with fail
  refine (within_any _ _ _ _).mono ?_; rintro e w2' ⟨rfl, hww⟩
  replace hww := hww.symm
  subst hww
  rw [H3.out]
  go_wp2_with fail
  refine (within_any _ _ _ _).mono ?_; rintro e w2' ⟨rfl, hww⟩
  replace hww := hww.symm
  subst hww
  rw [H4.out]
  obtain ⟨W4, hW4⟩ : ∃ u, u = w1.alloc (.cells (mkCells (.int .i64 0) V) 3) := ⟨_, rfl⟩
  have b4 : Below w1.heap.size w1 W4 := by rw [hW4]; exact below_alloc _ _
  have oD : IntsO W4 w1.heap.size W4.heap.size (.slice (some ⟨w1.heap.size, 0, none⟩) V V) (rowF V (ivF a a)) := by
    have := OwnI.made0 (w := w1) (base := w1.heap.size) (N := V) (Nat.le_refl _) (by have := HV.out; omega)
    rw [← hW4, ivF_0 V a] at this
    exact IntsO.of_own this
  have s4 := b4.size
  have KQ := Lib.hid kq
  have HQ := Lib.hid hq
  have B4 := Lib.hid b4
  have G0 := Lib.hid g0
  have GW := Lib.hid gW
  have KR := Lib.hid kR
  clear b4 kq hq gW g0 kR
  go_wp2
  rw [← hW4]; clear hW4 c0 c1 c2 hmk
  go_loopw [11] (fun i wr => ∃ k : Nat, a ≤ k ∧ k ≤ b + 1 ∧ i = .int .i64 k ∧ IntsO wr w1.heap.size W4.heap.size (.slice (some ⟨w1.heap.size, 0, none⟩) V V) (rowF V (ivF a k)) ∧ Chg w1.heap.size (w1.heap.size + 1) W4 wr) (fun i _ => b + 1 - (intOf i).toNat)
  case atStart => exact ⟨a, Nat.le_refl _, by omega, rfl, oD, Chg.refl _ _ _⟩
  case round =>
    clear oD
    obtain ⟨k, hak, hk, rfl, oD, hch⟩ := hrel
    have hVV := HV.out
    by_cases hlt : k < b + 1
    · have hkV : k < V := by omega
      have hst := ivF_step hkV hak
      have hc := (oD.1.cellG (j := k) (by rw [rowF_length]; exact hkV)).1
      have fr := oD.1.frozenG k
      have hp1 := oD.1.put (j := k) (x := 1) (by unfold I64; omega)
      rw [hst] at hp1
      have HP1 := Lib.hid hp1
      clear hst hp1 hVV
      go_wp2
      go_roundw
      case rel => exact ⟨k + 1, by omega, by omega, by go_num, ⟨HP1.out.1, oD.2⟩, hch.trans (chg_set (by simp) (by simp))⟩
      case measure => simp [intOf]; omega
    · have hkb : k = b + 1 := by omega
      rw [hkb] at oD
      obtain ⟨kz, hkz⟩ : ∃ u, u = k := ⟨_, rfl⟩
      subst hkz
      have hdz : decide (kz ≤ b) = false := decide_eq_false (by omega)
      clear hkb
      obtain ⟨wa, hwa⟩ : ∃ u, u = wr := ⟨_, rfl⟩
      subst hwa
      have gX : Below w1.heap.size w1 wa := B4.out.trans (hch.below (Nat.le_refl _) (by omega))
      have kq := KQ.out.call gX
      have hq := QvR.next gX HQ.out
      have c0 := kq.cell' (i := 0) rfl
      have c1 := kq.cell' (i := 1) rfl
      have c2 := kq.cell' (i := 2) rfl
      have hdm := ivF_dims (isZ_t HZ.out).1 HV.out a (b + 1)
      have HDM := Lib.hid hdm
      have HQX := Lib.hid hq
      have OD := Lib.hid oD.rd
      have sX := hch.size
      clear hq oD hch hdm hVV kq
      go_wp2_with fail
      refine (zeroRep_any p _ _ q _ wa hp HQX.out OD.out HDM.out).mono ?_; rintro e w5 ⟨v, rfl, ⟨f, t, d, m, vs, rfl, hO, hvl, hFm, hpq, hrc⟩, hb5⟩
      have i1 := hFm.1 (f, (zRep p q (rowF V (ivF a (b + 1)))).q.f) (by simp)
      have i2 := hFm.1 (t, (zRep p q (rowF V (ivF a (b + 1)))).q.t) (by simp)
      have i3 := hFm.1 (d, (zRep p q (rowF V (ivF a (b + 1)))).d) (by simp)
      simp only [zRep, zms_F, msF_length] at i1 i2 i3 hO hvl hFm hpq hrc ⊢
      obtain ⟨fA, fc, ef⟩ := i1.form
      obtain ⟨tA, tc, et⟩ := i2.form
      obtain ⟨dA, dc, ed⟩ := i3.form
      subst ef et ed
      clear i1 i2 i3
      have hlD := rowF_length V (ivF a (b + 1))
      rw [hlD] at hFm ⊢
      obtain ⟨D, hD⟩ : ∃ D, rowF V (ivF a (b + 1)) = D := ⟨_, rfl⟩
      rw [hD] at hO hFm
      obtain ⟨mA, mc, em, lm1, lm2⟩ := RowO.form hO
      subst em
      simp only [msF_length] at hO lm1 ⊢
      obtain ⟨W6, hW6⟩ : ∃ u, u = w5.alloc (.cells #[.int .i64 p, .int .i64 q.v, .slice fA q.f.length fc, .slice tA q.t.length tc, .slice dA V dc, .slice mA q.f.length mc] 31) := ⟨_, rfl⟩
      have b6 : Below w5.heap.size w5 W6 := by rw [hW6]; exact below_alloc _ _
      have k6 : Blk W6 w5.heap.size 31 #[.int .i64 p, .int .i64 q.v, .slice fA q.f.length fc, .slice tA q.t.length tc, .slice dA V dc, .slice mA q.f.length mc] := by rw [hW6]; exact Blk.new _ _ _
      have s5 := hb5.size
      have s6 := k6.lt
      have hrcF : (msF q.f.length (zoF q D 0)) = msF q.f.length (zmAt q D) := zoF_0 q D _
      have hO6 : OutM W6 wa.heap.size w5.heap.size (.slice mA q.f.length mc) vs (msF q.f.length (zoF q D 0)) := by
        rw [hrcF]; exact RowO.below hO b6
      have hF6 : Fam W6 wa.heap.size w5.heap.size ([(.slice fA q.f.length fc, q.f), (.slice tA q.t.length tc, q.t), (.slice dA V dc, D)] ++ vs.zip ((msF q.f.length (zoF q D 0)).map Mx.a)) := by
        rw [hrcF]; exact hFm.below b6
      have HVL := Lib.hid hvl
      have HD := Lib.hid hD
      have HB5 := Lib.hid (bthen hb5 b6)
      have GX := Lib.hid gX
      have HRC := Lib.hid hrc
      have c5 := k6.cell' (i := 5) rfl
      clear hvl hD hlD hrcF hO hFm hb5 b6 gX hrc c0 c1 c2
      rw [hW6] at c5
      go_wp2
      rw [← hW6]; clear hW6 c5
      go_loopw [61] (fun i wy => ∃ k : Nat, k ≤ q.f.length ∧ i = .int .i64 k ∧ OutM wy wa.heap.size w5.heap.size (.slice mA q.f.length mc) vs (msF q.f.length (zoF q D k)) ∧ Fam wy wa.heap.size w5.heap.size ([(.slice fA q.f.length fc, q.f), (.slice tA q.t.length tc, q.t), (.slice dA V dc, D)] ++ vs.zip ((msF q.f.length (zoF q D k)).map Mx.a)) ∧ Chg wa.heap.size w5.heap.size W6 wy) (fun i _ => q.f.length - (intOf i).toNat)
      case atStart => exact ⟨0, Nat.zero_le _, rfl, hO6, hF6, Chg.refl _ _ _⟩
      case round =>
        clear hO6 hF6
        obtain ⟨k, hk, rfl, hO, hFm, hch⟩ := hrel
        have k7 := k6.chg hch (.inr (Nat.le_refl _))
        have sy := hch.size
        by_cases hlt : k < q.f.length
        · obtain ⟨r, c, ez, hzr, hzc⟩ := ziZ_at HZ.out (a := a) (b := b) HV.out hlt
          have em := zoF_at (D := D) hlt
          rw [HD.out] at ez
          rw [ez] at em
          by_cases hab : a ≤ k ∧ k < b
          · rw [if_pos hab] at ez em
            obtain ⟨gm, cm, g, cg, e1, hgm, hvk, y0, y1, y2, oM, hgb, lg1, lg2, lg3, lg4⟩ := OutM.at_ hO (by rw [HVL.out, msF_length]) hFm em (by simp)
            rw [msF_length] at e1
            injection e1 with e11 e12 e13
            subst e11 e13
            simp only [List.length_cons, List.length_nil] at y2 lg1 hvk oM y0 y1
            obtain ⟨wk, hwk⟩ : ∃ u, u = wr := ⟨_, rfl⟩
            subst hwk
            obtain ⟨W7, hW7⟩ : ∃ u, u = wk.alloc (.cells #[.int .i64 r, .int .i64 c, .slice (some ⟨g, 0, none⟩) (0 + 1) cg] 84) := ⟨_, rfl⟩
            have b7 : Below wk.heap.size wk W7 := by rw [hW7]; exact below_alloc _ _
            have k8 : Blk W7 wk.heap.size 84 #[.int .i64 r, .int .i64 c, .slice (some ⟨g, 0, none⟩) (0 + 1) cg] := by rw [hW7]; exact Blk.new _ _ _
            have hO7 := RowO.below hO b7
            have hF7 := hFm.below b7
            have s7 := b7.size
            have HCH := Lib.hid (hch.trans (Chg.of_below b7))
            have HVK := Lib.hid hvk
            have EM := Lib.hid em
            have EZ := Lib.hid ez
            have c2 := k8.cell' (i := 2) rfl
            rw [hW7] at c2
            clear hO hFm hch b7 hvk em ez oM
            go_wp2
            rw [← hW7]; clear hW7 y0 y1 y2 c2
            go_loopw [68] (fun i wy => ∃ j : Nat, j ≤ 1 ∧ i = .int .i64 j ∧ OutM wy wa.heap.size w5.heap.size (.slice (some ⟨gm, 0, none⟩) q.f.length mc) vs (msF q.f.length (zoF q D (k + j))) ∧ Fam wy wa.heap.size w5.heap.size ([(.slice fA q.f.length fc, q.f), (.slice tA q.t.length tc, q.t), (.slice dA V dc, D)] ++ vs.zip ((msF q.f.length (zoF q D (k + j))).map Mx.a)) ∧ Chg wa.heap.size w5.heap.size W7 wy) (fun i _ => 1 - (intOf i).toNat)
            case atStart => exact ⟨0, by omega, rfl, hO7, hF7, Chg.refl _ _ _⟩
            case round =>
              clear hO7 hF7
              obtain ⟨j, hj, rfl, hO, hFm, hch⟩ := hrel
              have k9 := k8.chg hch (.inr (by omega))
              have c2 := k9.cell' (i := 2) rfl
              by_cases hj1 : j < 1
              · obtain rfl : j = 0 := by omega
                have em := EM.out
                obtain ⟨gm2, cm2, g2, cg2, e1, hgm2, hvk, _, _, _, oM, hgb2, _, _, _, _⟩ := OutM.at_ hO (by rw [HVL.out, msF_length]) hFm em (by simp)
                rw [HVK.out] at hvk
                simp only [List.length_cons, List.length_nil] at hvk oM
                injection hvk with hvk
                injection hvk with hvk1 hvk2 hvk3
                injection hvk1 with hvk1
                injection hvk1 with hvk1
                subst hvk1 hvk3
                have hput := mats_put (i := 0) (x := 1) hO hFm HVK.out em oM (by unfold I64; omega)
                simp only [List.set_cons_zero, Nat.add_zero, zoF_step EZ.out] at hput
                have x0 := (oM.cellG (j := 0) (by simp)).1
                have fr := oM.frozenG 0
                have HP := Lib.hid hput
                clear hput em e1 oM hO hFm k9
                go_wp2
                go_roundw
                case rel => exact ⟨1, by omega, rfl, HP.out.1, HP.out.2, hch.trans (chg_set (by simp; omega) (by simp; omega))⟩
                case measure => simp [intOf]
              · obtain rfl : j = 1 := by omega
                clear c2
                go_wp2
                go_roundw
                case rel => exact ⟨k + 1, by omega, by go_num, hO, hFm, (HCH.out).trans hch⟩
                case measure => simp [intOf]; omega
          · rw [if_neg hab] at ez em
            have hrd := OutM.rd (ms := msF q.f.length (zoF q D k)) hO (by rw [HVL.out, msF_length]) (fun p hp => (hFm.1 p (by simp [hp])).rd) (by have := zoF_I64 HZ.out (a := a) (b := b) (k := k) HV.out; rwa [HD.out] at this)
            obtain ⟨gm, om, m', mA', mc', e1, hgm, HMM, y0, y1, y2, _, _, _, _⟩ := SlM.at_ (k := k) (by rw [msF_length]; exact hrd) (by rw [msF_length]; exact hlt)
            have hmm := HMM.out
            rw [em] at hmm
            injection hmm with hmm
            subst hmm
            subst e1
            have c5 := k7.cell' (i := 5) rfl
            simp only [List.length_nil] at y2
            have hsk := zoF_skip ez
            rw [hsk] at hO hFm
            obtain ⟨W7, hW7⟩ : ∃ u, u = wr.alloc (.cells #[.int .i64 r, .int .i64 c, .slice mA' 0 mc'] 84) := ⟨_, rfl⟩
            have b7 : Below wr.heap.size wr W7 := by rw [hW7]; exact below_alloc _ _
            have k8 : Blk W7 wr.heap.size 84 #[.int .i64 r, .int .i64 c, .slice mA' 0 mc'] := by rw [hW7]; exact Blk.new _ _ _
            have c2 := k8.cell' (i := 2) rfl
            rw [hW7] at c2
            have HO7 := Lib.hid (RowO.below hO b7)
            have HF7 := Lib.hid (hFm.below b7)
            have HCH := Lib.hid (hch.trans (Chg.of_below b7))
            clear hO hFm hch b7 em ez hsk hrd k7 k8
            go_wp2
            rw [← hW7]; rw [← hW7] at c2; clear hW7
            refine wp_loop_rounds 1 ?_
            rw [rounds_succ]
            go_wp2
            go_roundw
            case rel => exact ⟨k + 1, by omega, by go_num, HO7.out, HF7.out, HCH.out⟩
            case measure => simp [intOf]; omega
        · obtain rfl : k = q.f.length := by omega
          have gX := GX.out
          have gXs := gX.size
          have gB := HB5.out
          have gAll : Below w1.heap.size w1 wr := (gX.trans (gB.mono gXs)).trans (hch.below (by omega) (by omega))
          have kR := KR.out.call gAll
          have sz := SZ.out
          have g0s := (G0.out).size
          have gws := (GW.out).size
          have hch6 := chg6 wr (w0.heap.size + 1) (.int .i64 p) (.int .i64 q.v) (.slice fA q.f.length fc) (.slice tA q.t.length tc) (.slice dA V dc) (.slice mA q.f.length mc)
          have hmI := zoF_I64 HZ.out (a := a) (b := b) (k := q.f.length) HV.out
          rw [HD.out] at hmI
          have hend := zoF_end q D q.f.length
          have hDr : (ziRep p q a b).d = D := by rw [← HD.out]; simp only [ziRep, HV.out]; rfl
          have hMr : (ziRep p q a b).m = msF q.f.length (zoF q D q.f.length) := by rw [hend, ← HD.out]; simp only [ziRep, HV.out]; rfl
          have hI : RepO wr wa.heap.size wr.heap.size (.agg #[.int .i64 p, .int .i64 q.v, .slice fA q.f.length fc, .slice tA q.t.length tc, .slice dA V dc, .slice mA q.f.length mc]) (ziRep p q a b) := by
            refine ⟨_, _, _, _, vs, rfl, ?_, ?_, ?_, hpq, ?_⟩
            · rw [hMr]
              have := RowO.mono hO (Nat.le_refl _) (show w5.heap.size ≤ wr.heap.size by omega)
              rw [msF_length] at this
              rw [OutM, msF_length]
              exact this
            · rw [hMr, HVL.out, msF_length]
            · rw [hMr, hDr]
              exact hFm.mono (Nat.le_refl _) (by omega)
            · rw [hMr]
              exact hmI
          have HI := Lib.hid ((hI.chg hch6 (.inr (by omega))).wider (lo' := w0.heap.size) (by omega) (Nat.le_refl _))
          have FG := Lib.hid ((G0.out.trans (gAll.mono g0s)).trans (hch6.below (by omega) (by omega)))
          have c0 := k7.cell' (i := 0) rfl
          have c1 := k7.cell' (i := 1) rfl
          have c2 := k7.cell' (i := 2) rfl
          have c3 := k7.cell' (i := 3) rfl
          have c4 := k7.cell' (i := 4) rfl
          have c5 := k7.cell' (i := 5) rfl
          have fr := kR.frozen
          have s0 := kR.cell' (i := 0) rfl
          have s1 := kR.cell' (i := 1) rfl
          have s2 := kR.cell' (i := 2) rfl
          have s3 := kR.cell' (i := 3) rfl
          have s4 := kR.cell' (i := 4) rfl
          have s5 := kR.cell' (i := 5) rfl
          clear gX gB gAll hch6 hmI hend hI hO hFm hch k7 kR g0s gws
          go_wp2
          have sz := SZ.out
          have hF := HF.out
          refine bodyPost_ret (v := .tuple #[.agg #[.int .i64 p, .int .i64 q.v, .slice fA q.f.length fc, .slice tA q.t.length tc, .slice dA V dc, .slice mA q.f.length mc], .bool true]) (by simp [results, go_sem, s0, s1, s2, s3, s4, s5]) rfl ⟨_, by rw [hF], by rw [hF]; exact RepO.wider HI.out (Nat.le_refl _) (by simp), FG.out⟩

theorem implZigzagInterval_any (p : Int) (u : Value) (q : Qv) (a b : Int) (w0 : World) (hp : I64 p) (hu : QvR w0 w0.heap.size u q) (ha : I64 a) (hb : I64 b) :
    Calls Try.prog 56 #[.int .i64 p, u, .int .i64 a, .int .i64 b] w0 fun e w' => ∃ r, e = .returned (.tuple #[r, .bool (ziP (isZ q) p q a b).2]) ∧ RepO w' w0.heap.size w'.heap.size r (ziP (isZ q) p q a b).1 ∧ Below w0.heap.size w0 w' := by
  rcases h : ziOk (isZ q) p q a b with _ | _
  · exact implZigzagIntervalN p a b u q w0 hp hu ha hb h
  · exact implZigzagIntervalY p a b u q w0 hp hu ha hb h
end Go.Proofs.Ytcmlflppndfdcaa

/- The program's RepOfZigzag and RepOfBars. -/
namespace Go.Proofs.Ytcmlflppndfdcaa
set_option linter.unusedVariables false
set_option linter.unusedSimpArgs false
open Go.RowKit

theorem ivR_zi {p : Int} {q : Qv} (hq : isQ q = true) (a b : Nat) : ziRep p q a b = ivR p q (a, b) := ziRep_F hq a b
theorem ivR_six {w : World} {lo hi : Nat} {v : Value} {p : Int} {q : Qv} {x : Nat × Nat} (h : RepO w lo hi v (ivR p q x)) : ∃ A a C c E e H k, v = .agg #[.int .i64 p, .int .i64 q.v, .slice A q.f.length a, .slice C q.t.length c, .slice E q.v.toNat e, .slice H q.f.length k] := by
  obtain ⟨A, a, C, c, E, e, H, k, rfl⟩ := h.form
  have q1 : (ivR p q x).p = p := rfl
  have q2 : (ivR p q x).q = q := rfl
  have q3 : (ivR p q x).d.length = q.v.toNat := rowF_length _ _
  have q4 : (ivR p q x).m.length = q.f.length := msF_length _ _
  rw [q1, q2, q3, q4]
  exact ⟨A, a, C, c, E, e, H, k, rfl⟩
theorem ziP_iv {p : Int} {q : Qv} {x y : Int} (h1 : isFld p = true) (h2 : isZ q = true) (hx : 0 ≤ x ∧ x ≤ q.v - 1) (hy : x ≤ y ∧ y ≤ q.v - 1) : ziP (isZ q) p q x y = (ivR p q (x.toNat, y.toNat), true) := by
  rw [ziP_yes (by simp only [ziOk, h1, h2, inR_t.2 hx, inR_t.2 hy]; rfl), ivR_zi (isZ_t h2).1]
theorem rpK_news {w : World} {g N : Nat} {cs : List Value} (h : Blk w g 31 (rpK cs N N)) (h6 : cs.length = 6) : NewsAt w (some ⟨g, 0, none⟩) N (List.replicate N cs).flatten 6 :=
  ⟨rep6_length h6 N, .inr ⟨g, 0, rfl, fun j u hu => by
    have hj := lt_of_some hu
    rw [rep6_length h6] at hj
    rw [Nat.zero_add, h.cell, rpK_cell h6 hj]
    exact hu⟩⟩
set_option maxHeartbeats 3200000 in
set_option maxRecDepth 100000 in
theorem implRepOfZigzagN (p : Int) (u : Value) (q : Qv) (v : Value) (l : List Bar) (w0 : World) (hu : QvR w0 w0.heap.size u q) (hv : SlB w0 w0.heap.size v l) (hno : rzOk p q l = false) :
    Calls Try.prog 21 #[.int .i64 p, u, v] w0 fun e w' => ∃ r, e = .returned (.tuple #[r, .bool (rzP p q l).2]) ∧ RepO w' w0.heap.size w'.heap.size r (rzP p q l).1 ∧ Below w0.heap.size w0 w' := by
  have HE := Lib.hid (rzP_no hno)
  have hu' := hu
  obtain ⟨A, c, C, c', rfl, _, _, hr, lf, lt⟩ := hu.open_
  obtain ⟨BA, bc, rfl, _, _, _, hbx⟩ := hv.open_
  clear hu hv
  obtain ⟨W, hW⟩ : ∃ W, W = (w0.alloc (.cells #[.int .i64 q.v, .slice A q.f.length c, .slice C q.t.length c'] 28)).alloc (.cells #[.int .i64 0, .int .i64 0, .slice none 0 0, .slice none 0 0, .slice none 0 0, .slice none 0 0] 31) := ⟨_, rfl⟩
  have g0 : Below w0.heap.size w0 W := by rw [hW]; exact ((Below.refl _ _).alloc (Nat.le_refl _) _).alloc (by simp) _
  have k1 : Blk W w0.heap.size 28 #[.int .i64 q.v, .slice A q.f.length c, .slice C q.t.length c'] := by rw [hW]; exact (Blk.new _ _ _).alloc _
  have k2 : Blk W (w0.heap.size + 1) 31 #[.int .i64 0, .int .i64 0, .slice none 0 0, .slice none 0 0, .slice none 0 0, .slice none 0 0] := by
    rw [hW]
    have := Blk.new (w0.alloc (.cells #[.int .i64 q.v, .slice A q.f.length c, .slice C q.t.length c'] 28)) 31 #[.int .i64 0, .int .i64 0, .slice none 0 0, .slice none 0 0, .slice none 0 0, .slice none 0 0]
    simpa only [World.size_alloc] using this
  have sz : W.heap.size = w0.heap.size + 1 + 1 := by rw [hW]; simp
  have SZ := Lib.hid sz
  have HQV := Lib.hid (QvR.next g0 hu')
  have HBX := Lib.hid (SlB.next g0 hbx)
  clear sz hu' hbx
  rcases h1 : isFld p with _ | _
  · have H1 := Lib.hid h1
    clear h1 hno
    have c0 := k1.cell' (i := 0) rfl
    go_enter Try.func21, Try.ntmps21
    go_wp2_with fail
    rw [← hW]; clear hW
    refine (implLineOf_any q.v _ hr).mono ?_; rintro e w1 ⟨v1, rfl, hL, hb1⟩
    obtain ⟨A1, a1, C1, c1, rfl⟩ := hL.form
    obtain ⟨W2, hW2⟩ : ∃ W2, w1.alloc (.cells #[.int .i64 (lineQ q.v).v, .slice A1 (lineQ q.v).f.length a1, .slice C1 (lineQ q.v).t.length c1] 28) = W2 := ⟨_, rfl⟩
    have ga : Below w1.heap.size w1 W2 := by rw [← hW2]; exact below_alloc _ _
    have kL : Blk W2 w1.heap.size 28 #[.int .i64 (lineQ q.v).v, .slice A1 (lineQ q.v).f.length a1, .slice C1 (lineQ q.v).t.length c1] := by rw [← hW2]; exact Blk.new _ _ _
    have gW2 : Below W.heap.size W W2 := hb1.trans (ga.mono hb1.size)
    have HL := Lib.hid ((hL.below ga).rd)
    have k1' := k1.call gW2
    have c0 := k1'.cell' (i := 0) rfl
    have c1' := k1'.cell' (i := 1) rfl
    have c2' := k1'.cell' (i := 2) rfl
    have GW2 := Lib.hid gW2
    clear hL ga hb1 gW2
    go_wp2_with fail
    clear hW2
    refine (implIsField_any _ _).mono ?_; rintro e w3 ⟨rfl, hww⟩
    replace hww := hww.symm
    subst hww
    rw [H1.out]
    have kz := k2.call GW2.out
    have fr := kz.frozen
    have s0 := kz.cell' (i := 0) rfl
    have s1 := kz.cell' (i := 1) rfl
    have s2 := kz.cell' (i := 2) rfl
    have s3 := kz.cell' (i := 3) rfl
    have s4 := kz.cell' (i := 4) rfl
    have s5 := kz.cell' (i := 5) rfl
    have gf := g0.trans (GW2.out.mono g0.size)
    have GF := Lib.hid gf
    clear kz gf g0 k1 k2
    go_wp2
    have gf := GF.out
    have hE := HE.out
    exact bodyPost_ret (v := .tuple #[.agg #[.int .i64 0, .int .i64 0, .slice none 0 0, .slice none 0 0, .slice none 0 0, .slice none 0 0], .bool false]) (by simp [results, go_sem, s0, s1, s2, s3, s4, s5]) rfl ⟨_, by rw [hE], by rw [hE]; exact RepO.zero _ _ _, (((((gf.setCell (by simp) _).setCell (by simp) _).setCell (by simp) _).setCell (by simp) _).setCell (by simp) _).setCell (by simp) _⟩
  rcases h2 : isZ q with _ | _
  · have H1 := Lib.hid h1
    have H2 := Lib.hid h2
    clear h1 h2 hno
    have c0 := k1.cell' (i := 0) rfl
    go_enter Try.func21, Try.ntmps21
    go_wp2_with fail
    rw [← hW]; clear hW
    refine (implLineOf_any q.v _ hr).mono ?_; rintro e w1 ⟨v1, rfl, hL, hb1⟩
    obtain ⟨A1, a1, C1, c1, rfl⟩ := hL.form
    obtain ⟨W2, hW2⟩ : ∃ W2, w1.alloc (.cells #[.int .i64 (lineQ q.v).v, .slice A1 (lineQ q.v).f.length a1, .slice C1 (lineQ q.v).t.length c1] 28) = W2 := ⟨_, rfl⟩
    have ga : Below w1.heap.size w1 W2 := by rw [← hW2]; exact below_alloc _ _
    have kL : Blk W2 w1.heap.size 28 #[.int .i64 (lineQ q.v).v, .slice A1 (lineQ q.v).f.length a1, .slice C1 (lineQ q.v).t.length c1] := by rw [← hW2]; exact Blk.new _ _ _
    have gW2 : Below W.heap.size W W2 := hb1.trans (ga.mono hb1.size)
    have HL := Lib.hid ((hL.below ga).rd)
    have k1' := k1.call gW2
    have c0 := k1'.cell' (i := 0) rfl
    have c1' := k1'.cell' (i := 1) rfl
    have c2' := k1'.cell' (i := 2) rfl
    have GW2 := Lib.hid gW2
    clear hL ga hb1 gW2
    go_wp2_with fail
    clear hW2
    refine (implIsField_any _ _).mono ?_; rintro e w3 ⟨rfl, hww⟩
    replace hww := hww.symm
    subst hww
    rw [H1.out]
    go_wp2_with fail
    refine (implIsZigzag_any _ q _ (QvR.next GW2.out HQV.out)).mono ?_; rintro e w3 ⟨rfl, hb3⟩
    rw [H2.out]
    have kL3 := kL.call hb3
    have l0 := kL3.cell' (i := 0) rfl
    have l1 := kL3.cell' (i := 1) rfl
    have l2 := kL3.cell' (i := 2) rfl
    have gW3 := GW2.out.trans (hb3.mono GW2.out.size)
    have HL3 := Lib.hid (QvR.next hb3 HL.out)
    have GW3 := Lib.hid gW3
    clear kL3 hb3 gW3 kL k1'
    have kz := k2.call GW3.out
    have fr := kz.frozen
    have s0 := kz.cell' (i := 0) rfl
    have s1 := kz.cell' (i := 1) rfl
    have s2 := kz.cell' (i := 2) rfl
    have s3 := kz.cell' (i := 3) rfl
    have s4 := kz.cell' (i := 4) rfl
    have s5 := kz.cell' (i := 5) rfl
    have gf := g0.trans (GW3.out.mono g0.size)
    have GF := Lib.hid gf
    clear kz gf g0 k1 k2
    go_wp2
    have gf := GF.out
    have hE := HE.out
    exact bodyPost_ret (v := .tuple #[.agg #[.int .i64 0, .int .i64 0, .slice none 0 0, .slice none 0 0, .slice none 0 0, .slice none 0 0], .bool false]) (by simp [results, go_sem, s0, s1, s2, s3, s4, s5]) rfl ⟨_, by rw [hE], by rw [hE]; exact RepO.zero _ _ _, (((((gf.setCell (by simp) _).setCell (by simp) _).setCell (by simp) _).setCell (by simp) _).setCell (by simp) _).setCell (by simp) _⟩
  rcases h3 : areB (lineQ q.v) l with _ | _
  · have H1 := Lib.hid h1
    have H2 := Lib.hid h2
    have H3 := Lib.hid h3
    clear h1 h2 h3 hno
    have c0 := k1.cell' (i := 0) rfl
    go_enter Try.func21, Try.ntmps21
    go_wp2_with fail
    rw [← hW]; clear hW
    refine (implLineOf_any q.v _ hr).mono ?_; rintro e w1 ⟨v1, rfl, hL, hb1⟩
    obtain ⟨A1, a1, C1, c1, rfl⟩ := hL.form
    obtain ⟨W2, hW2⟩ : ∃ W2, w1.alloc (.cells #[.int .i64 (lineQ q.v).v, .slice A1 (lineQ q.v).f.length a1, .slice C1 (lineQ q.v).t.length c1] 28) = W2 := ⟨_, rfl⟩
    have ga : Below w1.heap.size w1 W2 := by rw [← hW2]; exact below_alloc _ _
    have kL : Blk W2 w1.heap.size 28 #[.int .i64 (lineQ q.v).v, .slice A1 (lineQ q.v).f.length a1, .slice C1 (lineQ q.v).t.length c1] := by rw [← hW2]; exact Blk.new _ _ _
    have gW2 : Below W.heap.size W W2 := hb1.trans (ga.mono hb1.size)
    have HL := Lib.hid ((hL.below ga).rd)
    have k1' := k1.call gW2
    have c0 := k1'.cell' (i := 0) rfl
    have c1' := k1'.cell' (i := 1) rfl
    have c2' := k1'.cell' (i := 2) rfl
    have GW2 := Lib.hid gW2
    clear hL ga hb1 gW2
    go_wp2_with fail
    clear hW2
    refine (implIsField_any _ _).mono ?_; rintro e w3 ⟨rfl, hww⟩
    replace hww := hww.symm
    subst hww
    rw [H1.out]
    go_wp2_with fail
    refine (implIsZigzag_any _ q _ (QvR.next GW2.out HQV.out)).mono ?_; rintro e w3 ⟨rfl, hb3⟩
    rw [H2.out]
    have kL3 := kL.call hb3
    have l0 := kL3.cell' (i := 0) rfl
    have l1 := kL3.cell' (i := 1) rfl
    have l2 := kL3.cell' (i := 2) rfl
    have gW3 := GW2.out.trans (hb3.mono GW2.out.size)
    have HL3 := Lib.hid (QvR.next hb3 HL.out)
    have GW3 := Lib.hid gW3
    clear kL3 hb3 gW3 kL k1'
    go_wp2_with fail
    refine (implAreBars_any _ _ _ l _ HL3.out (SlB.next GW3.out HBX.out)).mono ?_; rintro e w4 ⟨rfl, hb4⟩
    rw [H3.out]
    have gW4 := GW3.out.trans (hb4.mono GW3.out.size)
    have GW4 := Lib.hid gW4
    clear hb4 gW4
    have kz := k2.call GW4.out
    have fr := kz.frozen
    have s0 := kz.cell' (i := 0) rfl
    have s1 := kz.cell' (i := 1) rfl
    have s2 := kz.cell' (i := 2) rfl
    have s3 := kz.cell' (i := 3) rfl
    have s4 := kz.cell' (i := 4) rfl
    have s5 := kz.cell' (i := 5) rfl
    have gf := g0.trans (GW4.out.mono g0.size)
    have GF := Lib.hid gf
    clear kz gf g0 k1 k2
    go_wp2
    have gf := GF.out
    have hE := HE.out
    exact bodyPost_ret (v := .tuple #[.agg #[.int .i64 0, .int .i64 0, .slice none 0 0, .slice none 0 0, .slice none 0 0, .slice none 0 0], .bool false]) (by simp [results, go_sem, s0, s1, s2, s3, s4, s5]) rfl ⟨_, by rw [hE], by rw [hE]; exact RepO.zero _ _ _, (((((gf.setCell (by simp) _).setCell (by simp) _).setCell (by simp) _).setCell (by simp) _).setCell (by simp) _).setCell (by simp) _⟩
  rw [rzOk, h1, h2, h3] at hno
  exact absurd hno (by decide)
end Go.Proofs.Ytcmlflppndfdcaa

/- The program's RepOfZigzag: the sum. -/
namespace Go.Proofs.Ytcmlflppndfdcaa
set_option linter.unusedVariables false
set_option linter.unusedSimpArgs false
open Go.RowKit

set_option maxHeartbeats 6400000 in
set_option maxRecDepth 100000 in
theorem implRepOfZigzagY (p : Int) (u : Value) (q : Qv) (v : Value) (l : List Bar) (w0 : World) (hu : QvR w0 w0.heap.size u q) (hv : SlB w0 w0.heap.size v l) (hok : rzOk p q l = true) :
    Calls Try.prog 21 #[.int .i64 p, u, v] w0 fun e w' => ∃ r, e = .returned (.tuple #[r, .bool (rzP p q l).2]) ∧ RepO w' w0.heap.size w'.heap.size r (rzP p q l).1 ∧ Below w0.heap.size w0 w' := by
  have HE := Lib.hid (show rzP p q l = smP p q (barsX l) by rw [rzP, hok, smP]; rfl)
  obtain ⟨h1, h2, h3, hto⟩ := rz_t hok
  have hq : isQ q = true := (isZ_t h2).1
  have hv1 := (isQ_t.1 hq).1
  have hI : I64 p := by have := isFld_two h1; simp only [I64]; omega
  have hl25 := bars_len hto (by omega)
  have hu' := hu
  obtain ⟨A, c, C, c', rfl, _, _, hr, lf, lt⟩ := hu.open_
  obtain ⟨BA, bc, rfl, _, _, _, hbx⟩ := hv.open_
  clear hu hv
  obtain ⟨W, hW⟩ : ∃ W, W = (w0.alloc (.cells #[.int .i64 q.v, .slice A q.f.length c, .slice C q.t.length c'] 28)).alloc (.cells #[.int .i64 0, .int .i64 0, .slice none 0 0, .slice none 0 0, .slice none 0 0, .slice none 0 0] 31) := ⟨_, rfl⟩
  have g0 : Below w0.heap.size w0 W := by rw [hW]; exact ((Below.refl _ _).alloc (Nat.le_refl _) _).alloc (by simp) _
  have k1 : Blk W w0.heap.size 28 #[.int .i64 q.v, .slice A q.f.length c, .slice C q.t.length c'] := by rw [hW]; exact (Blk.new _ _ _).alloc _
  have k2 : Blk W (w0.heap.size + 1) 31 #[.int .i64 0, .int .i64 0, .slice none 0 0, .slice none 0 0, .slice none 0 0, .slice none 0 0] := by
    rw [hW]
    have := Blk.new (w0.alloc (.cells #[.int .i64 q.v, .slice A q.f.length c, .slice C q.t.length c'] 28)) 31 #[.int .i64 0, .int .i64 0, .slice none 0 0, .slice none 0 0, .slice none 0 0, .slice none 0 0]
    simpa only [World.size_alloc] using this
  have sz : W.heap.size = w0.heap.size + 1 + 1 := by rw [hW]; simp
  have SZ := Lib.hid sz
  have HQV := Lib.hid (QvR.next g0 hu')
  have HBX := Lib.hid (SlB.next g0 hbx)
  clear sz hu' hbx
  have H1 := Lib.hid h1
  have H2 := Lib.hid h2
  have H3 := Lib.hid h3
  have HQ := Lib.hid hq
  have HTO := Lib.hid hto
  clear h1 h2 h3 hq hto hok
  have c0 := k1.cell' (i := 0) rfl
  go_enter Try.func21, Try.ntmps21
  go_wp2_with fail
  rw [← hW]; clear hW
  refine (implLineOf_any q.v _ hr).mono ?_; rintro e w1 ⟨v1, rfl, hL, hb1⟩
  obtain ⟨A1, a1, C1, c1, rfl⟩ := hL.form
  obtain ⟨W2, hW2⟩ : ∃ W2, w1.alloc (.cells #[.int .i64 (lineQ q.v).v, .slice A1 (lineQ q.v).f.length a1, .slice C1 (lineQ q.v).t.length c1] 28) = W2 := ⟨_, rfl⟩
  have ga : Below w1.heap.size w1 W2 := by rw [← hW2]; exact below_alloc _ _
  have kL : Blk W2 w1.heap.size 28 #[.int .i64 (lineQ q.v).v, .slice A1 (lineQ q.v).f.length a1, .slice C1 (lineQ q.v).t.length c1] := by rw [← hW2]; exact Blk.new _ _ _
  have gW2 : Below W.heap.size W W2 := hb1.trans (ga.mono hb1.size)
  have HL := Lib.hid ((hL.below ga).rd)
  have k1' := k1.call gW2
  have c0 := k1'.cell' (i := 0) rfl
  have c1' := k1'.cell' (i := 1) rfl
  have c2' := k1'.cell' (i := 2) rfl
  have GW2 := Lib.hid gW2
  clear hL ga hb1 gW2
  go_wp2_with fail
  clear hW2
  refine (implIsField_any _ _).mono ?_; rintro e w3 ⟨rfl, hww⟩
  replace hww := hww.symm
  subst hww
  rw [H1.out]
  go_wp2_with fail
  refine (implIsZigzag_any _ q _ (QvR.next GW2.out HQV.out)).mono ?_; rintro e w3 ⟨rfl, hb3⟩
  rw [H2.out]
  have kL3 := kL.call hb3
  have l0 := kL3.cell' (i := 0) rfl
  have l1 := kL3.cell' (i := 1) rfl
  have l2 := kL3.cell' (i := 2) rfl
  have gW3 := GW2.out.trans (hb3.mono GW2.out.size)
  have HL3 := Lib.hid (QvR.next hb3 HL.out)
  have GW3 := Lib.hid gW3
  clear kL3 hb3 gW3 kL k1'
  go_wp2_with fail
  refine (implAreBars_any _ _ _ l _ HL3.out (SlB.next GW3.out HBX.out)).mono ?_; rintro e w4 ⟨rfl, hb4⟩
  rw [H3.out]
  have gW4 := GW3.out.trans (hb4.mono GW3.out.size)
  have GW4 := Lib.hid gW4
  clear hb4 gW4
  obtain ⟨n, hn⟩ : ∃ n, l.length = n := ⟨_, rfl⟩
  have HN := Lib.hid hn
  rw [hn] at hl25
  rw [hn]
  clear hn l0 l1 l2 c0 c1' c2'
  go_wp2
  go_loopw [10, 38] (fun lv i wr => ∃ (k : Nat) (us : List (List Value)), k ≤ n ∧ i = .int .i64 k ∧ Below w4.heap.size w4 wr ∧ RpsO wr w4.heap.size wr.heap.size lv us ∧ RpsC wr us ((barsX (l.take k)).map (ivR p q))) (fun _ i _ => n - (intOf i).toNat)
  case atStart => exact ⟨0, [], Nat.zero_le _, rfl, Below.refl _ _, RpsO.nil _ _ _, RpsC.nil _⟩
  case round =>
    obtain ⟨k, us, hk, rfl, gW, hO, hC⟩ := hrel
    have gws := gW.size
    have gw := GW4.out.trans (gW.mono GW4.out.size)
    by_cases hlt : k < n
    · obtain ⟨b, o, x, y, z, eB, hb, HX, y1, y2, y3, rx, ry, rz⟩ := SlB.at_ (k := k) HBX.out (by have := HN.out; omega)
      subst eB
      obtain ⟨hx, hy, hz, _⟩ := bars_at HTO.out HX.out
      obtain ⟨N, rfl⟩ := Int.eq_ofNat_of_zero_le (show 0 ≤ z by omega)
      have HZI := Lib.hid (ziP_iv H1.out H2.out hx hy)
      have z1 := bcell gw hb y1
      have z2 := bcell gw hb y2
      have z3 := bcell gw hb y3
      obtain ⟨W5, hW5⟩ : ∃ W5, wr.alloc (.cells #[.int .i64 x, .int .i64 y, .int .i64 (N : Int)] 67) = W5 := ⟨_, rfl⟩
      have ga : Below wr.heap.size wr W5 := by rw [← hW5]; exact below_alloc _ _
      have kB : Blk W5 wr.heap.size 67 #[.int .i64 x, .int .i64 y, .int .i64 (N : Int)] := by rw [← hW5]; exact Blk.new _ _ _
      have kQ := (k1.call gw).call ga
      have gw5 := gw.trans (ga.mono gw.size)
      have HQ5 := Lib.hid (QvR.next gw5 HQV.out)
      have b0 := kB.cell' (i := 0) rfl
      have b1 := kB.cell' (i := 1) rfl
      have q0 := kQ.cell' (i := 0) rfl
      have q1 := kQ.cell' (i := 1) rfl
      have q2 := kQ.cell' (i := 2) rfl
      have HO := Lib.hid (RowO.below hO ga)
      have HC := Lib.hid (hC.below ga)
      have GW5 := Lib.hid (gW.trans (ga.mono gws))
      have sa := ga.size
      clear y1 y2 y3 kQ ga gw5 hO hC gW gw
      go_wp2_with fail
      clear hW5
      refine (implZigzagInterval_any p _ q x y _ hI HQ5.out rx ry).mono ?_; rintro e w6 ⟨r6, rfl, hR6, hb6⟩
      rw [HZI.out] at hR6 ⊢
      obtain ⟨A2, a2, C2, c2, E2, e2, H2', h2', rfl⟩ := ivR_six hR6
      obtain ⟨W7, hW7⟩ : ∃ W7, w6.alloc (.cells #[.int .i64 p, .int .i64 q.v, .slice A2 q.f.length a2, .slice C2 q.t.length c2, .slice E2 q.v.toNat e2, .slice H2' q.f.length h2'] 31) = W7 := ⟨_, rfl⟩
      have ga7 : Below w6.heap.size w6 W7 := by rw [← hW7]; exact below_alloc _ _
      have kR7 : Blk W7 w6.heap.size 31 #[.int .i64 p, .int .i64 q.v, .slice A2 q.f.length a2, .slice C2 q.t.length c2, .slice E2 q.v.toNat e2, .slice H2' q.f.length h2'] := by rw [← hW7]; exact Blk.new _ _ _
      obtain ⟨W8, hW8⟩ : ∃ W8, W7.alloc (.cells #[.int .i64 p, .int .i64 q.v, .slice A2 q.f.length a2, .slice C2 q.t.length c2, .slice E2 q.v.toNat e2, .slice H2' q.f.length h2'] 31) = W8 := ⟨_, rfl⟩
      have ga8 : Below W7.heap.size W7 W8 := by rw [← hW8]; exact below_alloc _ _
      have kR8 : Blk W8 W7.heap.size 31 #[.int .i64 p, .int .i64 q.v, .slice A2 q.f.length a2, .slice C2 q.t.length c2, .slice E2 q.v.toNat e2, .slice H2' q.f.length h2'] := by rw [← hW8]; exact Blk.new _ _ _
      have g57 : Below W5.heap.size W5 W7 := hb6.trans (ga7.mono hb6.size)
      have g58 : Below W5.heap.size W5 W8 := g57.trans (ga8.mono g57.size)
      have kB8 := kB.call g58
      have r0 := kR7.cell' (i := 0) rfl
      have r1 := kR7.cell' (i := 1) rfl
      have r2 := kR7.cell' (i := 2) rfl
      have r3 := kR7.cell' (i := 3) rfl
      have r4 := kR7.cell' (i := 4) rfl
      have r5 := kR7.cell' (i := 5) rfl
      have b2 := kB8.cell' (i := 2) rfl
      have s78 := ga8.size
      have s57 := g57.size
      have s67 := ga7.size
      have s56 := hb6.size
      have HR8 := Lib.hid ((((hR6.below ga7).below ga8).wider (Nat.zero_le _) (show w6.heap.size ≤ W8.heap.size by omega)))
      have HO8 := Lib.hid (RowO.below HO.out g58)
      have HC8 := Lib.hid (HC.out.below g58)
      have G58 := Lib.hid (GW5.out.trans (g58.mono GW5.out.size))
      have HCX := Lib.hid (fun (i : Nat) (y : Value) (hy : [Value.int .i64 p, .int .i64 q.v, .slice A2 q.f.length a2, .slice C2 q.t.length c2, .slice E2 q.v.toNat e2, .slice H2' q.f.length h2'][i]? = some y) => (show W8.cell? ⟨W7.heap.size, 0 + i, none⟩ = some y by rw [Nat.zero_add, kR8.cell]; simpa using hy))
      have hlt8 := kR8.lt
      clear hR6 ga7 ga8 kB g57 g58 kB8 kR7 kR8 b0 b1 q0 q1 q2 z1 z2 z3 hb6
      go_wp2_with fail
      clear hW7 hW8
      refine (repeatR_any W7.heap.size 0 1 _ N _ hlt8 HCX.out rfl (fun y hy => by simp only [List.mem_cons, List.not_mem_nil, or_false] at hy; rcases hy with rfl | rfl | rfl | rfl | rfl | rfl <;> rfl) (Nat.le_refl _) (by omega) (by omega)).mono ?_; rintro e w9 ⟨g9, rfl, hB9, hg9, hb9⟩
      have s89 := hb9.size
      have HNW := Lib.hid (rpK_news hB9 (cs := [Value.int .i64 p, .int .i64 q.v, .slice A2 q.f.length a2, .slice C2 q.t.length c2, .slice E2 q.v.toNat e2, .slice H2' q.f.length h2']) rfl)
      have HR9 := Lib.hid ((HR8.out.below hb9).wider (Nat.le_refl _) s89)
      have HO9 := Lib.hid (RowO.below HO8.out hb9)
      have hC9 := (HC8.out.below hb9).app (RpsC.rep (u := [Value.int .i64 p, .int .i64 q.v, .slice A2 q.f.length a2, .slice C2 q.t.length c2, .slice E2 q.v.toNat e2, .slice H2' q.f.length h2']) N HR9.out)
      have hul : us.length ≤ 8 * k := by
        have h1 := HC8.out.1
        have h2 := barsX_len (l := l.take k) fun b hb => by
          obtain ⟨j, hj⟩ := List.getElem?_of_mem hb
          have hj2 : l[j]? = some (b.1, b.2.1, b.2.2) := by
            rw [List.getElem?_take] at hj
            split at hj
            · exact hj
            · cases hj
          exact (bars_at HTO.out hj2).2.2.1.2
        rw [List.length_map] at h1
        rw [List.length_take] at h2
        omega
      have hbx : (barsX (l.take (k + 1))).map (ivR p q) = (barsX (l.take k)).map (ivR p q) ++ List.replicate N (ivR p q (x.toNat, y.toNat)) := by
        rw [take_snoc HX.out, barsX_snoc, List.map_append, List.map_replicate]
        rfl
      rw [← hbx] at hC9
      have HC9 := Lib.hid hC9
      have G9 := Lib.hid (G58.out.trans (hb9.mono G58.out.size))
      clear hC9 hbx hB9 hb9 r0 r1 r2 r3 r4 r5 b2
      (go_wp2_with (at_builtin; refine Hold.stop ?_)); unfold Hold
      refine wpList_appRp (by rfl) (.tmp 52) (.tmp 57) (by rfl) w4.heap.size wr.heap.size _ us (List.replicate N [Value.int .i64 p, .int .i64 q.v, .slice A2 q.f.length a2, .slice C2 q.t.length c2, .slice E2 q.v.toNat e2, .slice H2' q.f.length h2']) (by rfl) HO9.out (some ⟨g9, 0, none⟩) N N (by rfl) (by simp) HNW.out (fun u hu y hy => by rw [(List.mem_replicate.1 hu).2] at hy; simp only [List.mem_cons, List.not_mem_nil, or_false] at hy; rcases hy with rfl | rfl | rfl | rfl | rfl | rfl <;> rfl) (by omega) (by omega) ?_
      intro v' w' hO' hA
      have HO' := Lib.hid hO'
      have HC' := Lib.hid (HC9.out.appT (by decide) (by decide) hA)
      have G' := Lib.hid (G9.out.trans (hA.below (Nat.le_refl _) (by omega)))
      clear hO' hA
      go_wp2
      go_roundw
      case rel => exact ⟨k + 1, _, by omega, by go_num, G'.out, HO'.out, HC'.out⟩
      case measure => simp [intOf]; omega
    · obtain rfl : k = n := by omega
      have hC2 := hC
      rw [List.take_of_length_le (by have := HN.out; omega)] at hC2
      have kq := k1.call gw
      have q0 := kq.cell' (i := 0) rfl
      have q1 := kq.cell' (i := 1) rfl
      have q2 := kq.cell' (i := 2) rfl
      have hbl : (barsX l).length ≤ 1000000 := by
        have h2 := barsX_len (l := l) fun b hb => by
          obtain ⟨j, hj⟩ := List.getElem?_of_mem hb
          have hj2 : l[j]? = some (b.1, b.2.1, b.2.2) := hj
          exact (bars_at HTO.out hj2).2.2.1.2
        have := HN.out
        omega
      obtain ⟨LA, lc, rfl, _, _⟩ := RowO.form hO
      have HO := Lib.hid hO
      have HC2 := Lib.hid hC2
      have GW := Lib.hid gw
      clear kq hC hC2 hO gW gw
      go_wp2_with fail
      refine (sumOrZero_any p _ q _ us (barsX l) w4.heap.size wr.heap.size _ H1.out HQ.out (QvR.next GW.out HQV.out) HO.out HC2.out hbl).mono ?_; rintro e w5 ⟨r5, rfl, hR, hb5⟩
      rw [← HE.out] at hR ⊢
      clear q0 q1 q2
      obtain ⟨A3, a3, C3, c3, E3, e3, H3', h3', rfl⟩ := hR.form
      have g5 := GW.out.trans (hb5.mono GW.out.size)
      have kz := k2.call g5
      have fr := kz.frozen
      have s0 := kz.cell' (i := 0) rfl
      have s1 := kz.cell' (i := 1) rfl
      have s2 := kz.cell' (i := 2) rfl
      have s3 := kz.cell' (i := 3) rfl
      have s4 := kz.cell' (i := 4) rfl
      have s5 := kz.cell' (i := 5) rfl
      have sz := SZ.out
      have gf := g0.trans (g5.mono g0.size)
      have hc := chg6 w5 (w0.heap.size + 1) (.int .i64 (rzP p q l).1.p) (.int .i64 (rzP p q l).1.q.v) (.slice A3 (rzP p q l).1.q.f.length a3) (.slice C3 (rzP p q l).1.q.t.length c3) (.slice E3 (rzP p q l).1.d.length e3) (.slice H3' (rzP p q l).1.m.length h3')
      have hgs := GW.out.size
      have OF := Lib.hid ((hR.chg hc (.inr (by omega))).wider (lo' := w0.heap.size) (hi' := w5.heap.size) (by omega) (Nat.le_refl _))
      have GF := Lib.hid (gf.trans (hc.below (by omega) gf.size))
      clear hR kz gf hc g5 hb5 hgs
      go_wp2
      exact bodyPost_ret (v := .tuple #[.agg #[.int .i64 (rzP p q l).1.p, .int .i64 (rzP p q l).1.q.v, .slice A3 (rzP p q l).1.q.f.length a3, .slice C3 (rzP p q l).1.q.t.length c3, .slice E3 (rzP p q l).1.d.length e3, .slice H3' (rzP p q l).1.m.length h3'], .bool (rzP p q l).2]) (by simp [results, go_sem, s0, s1, s2, s3, s4, s5]) rfl ⟨_, rfl, by have := OF.out.wider (Nat.le_refl _) (Nat.le_refl _); simpa using this, GF.out⟩
end Go.Proofs.Ytcmlflppndfdcaa

/- The program's RepOfZigzag and RepOfBars. -/
namespace Go.Proofs.Ytcmlflppndfdcaa
set_option linter.unusedVariables false
set_option linter.unusedSimpArgs false
open Go.RowKit

theorem implRepOfZigzag_any (p : Int) (u : Value) (q : Qv) (v : Value) (l : List Bar) (w0 : World) (_ : I64 p) (hu : QvR w0 w0.heap.size u q) (hv : SlB w0 w0.heap.size v l) :
    Calls Try.prog 21 #[.int .i64 p, u, v] w0 fun e w' => ∃ r, e = .returned (.tuple #[r, .bool (rzP p q l).2]) ∧ RepO w' w0.heap.size w'.heap.size r (rzP p q l).1 ∧ Below w0.heap.size w0 w' := by
  rcases h : rzOk p q l with _ | _
  · exact implRepOfZigzagN p u q v l w0 hu hv h
  · exact implRepOfZigzagY p u q v l w0 hu hv h
def rbP (p : Int) (q : Qv) (l : List Bar) : Rp × Bool := if isL q then rzP p q l else (rp0, false)
set_option maxHeartbeats 3200000 in
set_option maxRecDepth 100000 in
theorem implRepOfBars_any (p : Int) (u : Value) (q : Qv) (v : Value) (l : List Bar) (w0 : World) (hp : I64 p) (hu : QvR w0 w0.heap.size u q) (hv : SlB w0 w0.heap.size v l) :
    Calls Try.prog 12 #[.int .i64 p, u, v] w0 fun e w' => ∃ r, e = .returned (.tuple #[r, .bool (rbP p q l).2]) ∧ RepO w' w0.heap.size w'.heap.size r (rbP p q l).1 ∧ Below w0.heap.size w0 w' := by
  have hu' := hu
  obtain ⟨A, c, C, c', rfl, _, _, hr, lf, lt⟩ := hu.open_
  obtain ⟨BA, bc, rfl, _, _, _, hbx⟩ := hv.open_
  clear hu hv
  obtain ⟨W, hW⟩ : ∃ W, W = (w0.alloc (.cells #[.int .i64 q.v, .slice A q.f.length c, .slice C q.t.length c'] 28)).alloc (.cells #[.int .i64 0, .int .i64 0, .slice none 0 0, .slice none 0 0, .slice none 0 0, .slice none 0 0] 31) := ⟨_, rfl⟩
  have g0 : Below w0.heap.size w0 W := by rw [hW]; exact ((Below.refl _ _).alloc (Nat.le_refl _) _).alloc (by simp) _
  have k1 : Blk W w0.heap.size 28 #[.int .i64 q.v, .slice A q.f.length c, .slice C q.t.length c'] := by rw [hW]; exact (Blk.new _ _ _).alloc _
  have k2 : Blk W (w0.heap.size + 1) 31 #[.int .i64 0, .int .i64 0, .slice none 0 0, .slice none 0 0, .slice none 0 0, .slice none 0 0] := by
    rw [hW]
    have := Blk.new (w0.alloc (.cells #[.int .i64 q.v, .slice A q.f.length c, .slice C q.t.length c'] 28)) 31 #[.int .i64 0, .int .i64 0, .slice none 0 0, .slice none 0 0, .slice none 0 0, .slice none 0 0]
    simpa only [World.size_alloc] using this
  have sz : W.heap.size = w0.heap.size + 1 + 1 := by rw [hW]; simp
  have SZ := Lib.hid sz
  have HQV := Lib.hid (QvR.next g0 hu')
  have HBX := Lib.hid (SlB.next g0 hbx)
  clear sz hu' hbx
  have c0 := k1.cell' (i := 0) rfl
  have c1 := k1.cell' (i := 1) rfl
  have c2 := k1.cell' (i := 2) rfl
  rcases hL : isL q with _ | _
  · have HE := Lib.hid (show rbP p q l = (rp0, false) by simp [rbP, hL])
    have HL := Lib.hid hL
    clear hL
    go_enter Try.func12, Try.ntmps12
    go_wp2_with fail
    rw [← hW]; clear hW
    refine (implIsLine_any _ q _ HQV.out).mono ?_; rintro e w1 ⟨rfl, hb1⟩
    rw [HL.out]
    have GW := Lib.hid hb1
    clear hb1 c0 c1 c2
    have kz := k2.call GW.out
    have fr := kz.frozen
    have s0 := kz.cell' (i := 0) rfl
    have s1 := kz.cell' (i := 1) rfl
    have s2 := kz.cell' (i := 2) rfl
    have s3 := kz.cell' (i := 3) rfl
    have s4 := kz.cell' (i := 4) rfl
    have s5 := kz.cell' (i := 5) rfl
    have gf := g0.trans (GW.out.mono g0.size)
    have GF := Lib.hid gf
    clear kz gf g0 k1 k2
    go_wp2
    have gf := GF.out
    have hE := HE.out
    exact bodyPost_ret (v := .tuple #[.agg #[.int .i64 0, .int .i64 0, .slice none 0 0, .slice none 0 0, .slice none 0 0, .slice none 0 0], .bool false]) (by simp [results, go_sem, s0, s1, s2, s3, s4, s5]) rfl ⟨_, by rw [hE], by rw [hE]; exact RepO.zero _ _ _, (((((gf.setCell (by simp) _).setCell (by simp) _).setCell (by simp) _).setCell (by simp) _).setCell (by simp) _).setCell (by simp) _⟩
  · have HE := Lib.hid (show rzP p q l = rbP p q l by simp [rbP, hL])
    have HL := Lib.hid hL
    clear hL
    go_enter Try.func12, Try.ntmps12
    go_wp2_with fail
    rw [← hW]; clear hW
    refine (implIsLine_any _ q _ HQV.out).mono ?_; rintro e w1 ⟨rfl, hb1⟩
    rw [HL.out]
    have kq := k1.call hb1
    have c0 := kq.cell' (i := 0) rfl
    have c1 := kq.cell' (i := 1) rfl
    have c2 := kq.cell' (i := 2) rfl
    have GW := Lib.hid hb1
    clear kq hb1
    go_wp2_with fail
    refine (implRepOfZigzag_any p _ q _ l _ hp (QvR.next GW.out HQV.out) (SlB.next GW.out HBX.out)).mono ?_; rintro e w5 ⟨r5, rfl, hR, hb5⟩
    rw [HE.out] at hR ⊢
    clear c0 c1 c2
    obtain ⟨A3, a3, C3, c3, E3, e3, H3', h3', rfl⟩ := hR.form
    have g5 := GW.out.trans (hb5.mono GW.out.size)
    have kz := k2.call g5
    have fr := kz.frozen
    have s0 := kz.cell' (i := 0) rfl
    have s1 := kz.cell' (i := 1) rfl
    have s2 := kz.cell' (i := 2) rfl
    have s3 := kz.cell' (i := 3) rfl
    have s4 := kz.cell' (i := 4) rfl
    have s5 := kz.cell' (i := 5) rfl
    have sz := SZ.out
    have gf := g0.trans (g5.mono g0.size)
    have hc := chg6 w5 (w0.heap.size + 1) (.int .i64 (rbP p q l).1.p) (.int .i64 (rbP p q l).1.q.v) (.slice A3 (rbP p q l).1.q.f.length a3) (.slice C3 (rbP p q l).1.q.t.length c3) (.slice E3 (rbP p q l).1.d.length e3) (.slice H3' (rbP p q l).1.m.length h3')
    have hgs := GW.out.size
    have OF := Lib.hid ((hR.chg hc (.inr (by omega))).wider (lo' := w0.heap.size) (hi' := w5.heap.size) (by omega) (Nat.le_refl _))
    have GF := Lib.hid (gf.trans (hc.below (by omega) gf.size))
    clear hR kz gf hc g5 hb5 hgs
    go_wp2
    exact bodyPost_ret (v := .tuple #[.agg #[.int .i64 (rbP p q l).1.p, .int .i64 (rbP p q l).1.q.v, .slice A3 (rbP p q l).1.q.f.length a3, .slice C3 (rbP p q l).1.q.t.length c3, .slice E3 (rbP p q l).1.d.length e3, .slice H3' (rbP p q l).1.m.length h3'], .bool (rbP p q l).2]) (by simp [results, go_sem, s0, s1, s2, s3, s4, s5]) rfl ⟨_, rfl, by have := OF.out.wider (Nat.le_refl _) (Nat.le_refl _); simpa using this, GF.out⟩
end Go.Proofs.Ytcmlflppndfdcaa

/- The reference's l3Block. -/
namespace Go.Proofs.Ytcmlflppndfdcaa
set_option linter.unusedVariables false
set_option linter.unusedSimpArgs false
open Go.RowKit

def bkA (c : Nat) (f : Nat → Nat → Int) (i k a b : Nat) : Int := if a < i ∧ b < c ∨ a = i ∧ b < k then f a b else 0
theorem bkA_0 (R C c : Nat) (f : Nat → Nat → Int) : flat R C (fun _ _ => 0) = flat R C (bkA c f 0 0) := flat_congr fun a b _ _ => by simp [bkA]
theorem bkA_put {R C c i k : Nat} (f : Nat → Nat → Int) (hi : i < R) (hk : k < c) (hc : c ≤ C) : (flat R C (bkA c f i k)).set (i * C + k) (f i k) = flat R C (bkA c f i (k + 1)) := by
  rw [flat_set _ _ hi (by omega)]
  refine flat_congr fun a b _ _ => ?_
  simp only [bkA]
  (repeat' split) <;> first | rfl | omega | (rename_i h _; rw [h.1, h.2])
theorem bkA_next (R C c i : Nat) (f : Nat → Nat → Int) : flat R C (bkA c f i c) = flat R C (bkA c f (i + 1) 0) := by
  refine flat_congr fun a b ha _ => ?_
  simp only [bkA]
  (repeat' split) <;> first | rfl | omega
def bkB (r c : Nat) (f g : Nat → Nat → Int) (i k a b : Nat) : Int := if r ≤ a ∧ c ≤ b ∧ (a < r + i ∨ a = r + i ∧ b < c + k) then g (a - r) (b - c) else bkA c f r 0 a b
theorem bkB_0 (R C r c : Nat) (f g : Nat → Nat → Int) : flat R C (bkA c f r 0) = flat R C (bkB r c f g 0 0) := flat_congr fun a b _ _ => by
  rw [bkB, if_neg (by omega)]
theorem bkB_put {R C r c i k : Nat} (f g : Nat → Nat → Int) (hi : r + i < R) (hk : c + k < C) : (flat R C (bkB r c f g i k)).set ((r + i) * C + (c + k)) (g i k) = flat R C (bkB r c f g i (k + 1)) := by
  rw [flat_set _ _ hi hk]
  refine flat_congr fun a b _ _ => ?_
  simp only [bkB]
  by_cases h : a = r + i ∧ b = c + k
  · rw [if_pos h, if_pos (by omega), h.1, h.2, Nat.add_sub_cancel_left, Nat.add_sub_cancel_left]
  · rw [if_neg h]
    have : (r ≤ a ∧ c ≤ b ∧ (a < r + i ∨ a = r + i ∧ b < c + k)) = (r ≤ a ∧ c ≤ b ∧ (a < r + i ∨ a = r + i ∧ b < c + (k + 1))) := by
      simp only [eq_iff_iff]; omega
    simp only [this]
theorem bkB_next {R C r c d i : Nat} (f g : Nat → Nat → Int) (hC : C = c + d) : flat R C (bkB r c f g i d) = flat R C (bkB r c f g (i + 1) 0) := by
  refine flat_congr fun a b ha hb => ?_
  simp only [bkB]
  have : (r ≤ a ∧ c ≤ b ∧ (a < r + i ∨ a = r + i ∧ b < c + d)) = (r ≤ a ∧ c ≤ b ∧ (a < r + (i + 1) ∨ a = r + (i + 1) ∧ b < c + 0)) := by
    simp only [eq_iff_iff]; omega
  simp only [this]
theorem bkB_end {R C r s c : Nat} (f g : Nat → Nat → Int) (hR : R = r + s) : flat R C (bkB r c f g s 0) = flat R C (dsE r c f g) := by
  refine flat_congr fun a b ha _ => ?_
  simp only [bkB, dsE, blF, bsF, bkA]
  (repeat' split) <;> first | rfl | omega

set_option maxHeartbeats 6400000 in
set_option maxRecDepth 100000 in
theorem l3Block_any (u v : Value) (r s c d : Nat) (f g : Nat → Nat → Int) (w0 : World) (hu : MxR w0 w0.heap.size u (mxF r c f)) (hv : MxR w0 w0.heap.size v (mxF s d g)) (hr : r ≤ 100) (hs : s ≤ 100) (hc : c ≤ 100) (hd : d ≤ 100) :
    Calls Try.prog 94 #[u, v] w0 fun e w' => ∃ v, e = .returned v ∧ MxO w' w0.heap.size w'.heap.size v (mxF (r + s) (c + d) (dsE r c f g)) ∧ Below w0.heap.size w0 w' := by
  obtain ⟨U, uc, rfl, hsu, _, _, _⟩ := hu.open_
  obtain ⟨V, vc, rfl, hsv, _, _, _⟩ := hv.open_
  clear hu hv
  simp only [mxF] at hsu hsv ⊢
  have HSU := Lib.hid hsu
  have HSV := Lib.hid hsv
  obtain ⟨L, hL⟩ : ∃ L, (flat r c f).length = L := ⟨_, rfl⟩
  obtain ⟨L', hL'⟩ : ∃ L, (flat s d g).length = L := ⟨_, rfl⟩
  have HL := Lib.hid hL
  have HL' := Lib.hid hL'
  rw [hL, hL']
  obtain ⟨W, hW⟩ : ∃ W, W = ((w0.alloc (.cells #[.int .i64 r, .int .i64 c, .slice U L uc] 84)).alloc (.cells #[.int .i64 s, .int .i64 d, .slice V L' vc] 84)).alloc (.cells #[.int .i64 0, .int .i64 0, .slice none 0 0] 84) := ⟨_, rfl⟩
  have g0 : Below w0.heap.size w0 W := by rw [hW]; exact (((Below.refl _ _).alloc (Nat.le_refl _) _).alloc (by simp) _).alloc (by simp; omega) _
  have k1 : Blk W w0.heap.size 84 #[.int .i64 r, .int .i64 c, .slice U L uc] := by rw [hW]; exact ((Blk.new _ _ _).alloc _).alloc _
  have k2 : Blk W (w0.heap.size + 1) 84 #[.int .i64 s, .int .i64 d, .slice V L' vc] := by
    rw [hW]
    have := (Blk.new (w0.alloc (.cells #[.int .i64 r, .int .i64 c, .slice U L uc] 84)) 84 #[.int .i64 s, .int .i64 d, .slice V L' vc]).alloc (.cells #[.int .i64 0, .int .i64 0, .slice none 0 0] 84)
    simpa only [World.size_alloc] using this
  have k3 : Blk W (w0.heap.size + 1 + 1) 84 #[.int .i64 0, .int .i64 0, .slice none 0 0] := by
    rw [hW]
    have := Blk.new ((w0.alloc (.cells #[.int .i64 r, .int .i64 c, .slice U L uc] 84)).alloc (.cells #[.int .i64 s, .int .i64 d, .slice V L' vc] 84)) 84 #[.int .i64 0, .int .i64 0, .slice none 0 0]
    simpa only [World.size_alloc] using this
  have sz : W.heap.size = w0.heap.size + 1 + 1 + 1 := by rw [hW]; simp
  have K1 := Lib.hid k1
  have K2 := Lib.hid k2
  have K3 := Lib.hid k3
  have SZ := Lib.hid sz
  have q0 := k1.cell' (i := 0) rfl
  have q1 := k1.cell' (i := 1) rfl
  have p0 := k2.cell' (i := 0) rfl
  have p1 := k2.cell' (i := 1) rfl
  clear k1 k2 k3 sz hsu hsv hL hL'
  obtain ⟨R, hR⟩ : ∃ R, r + s = R := ⟨_, rfl⟩
  obtain ⟨K, hK⟩ : ∃ K, c + d = K := ⟨_, rfl⟩
  rw [hR, hK]
  go_enter Try.func94, Try.ntmps94
  go_wp2_with fail
  rw [← hW]; clear hW
  refine (l3Zero_any ((r : Int) + s) ((c : Int) + d) W (by omega) (by omega) (by omega) (by omega)).mono ?_; rintro e w1 ⟨v1, rfl, ⟨sA, rfl, oA, hr2, hc2⟩, hb1⟩
  rw [show (r : Int) + (s : Int) = (R : Int) by omega, show (c : Int) + (d : Int) = (K : Int) by omega, zmx_flat] at oA hr2 hc2 ⊢
  simp only [mxF] at oA hr2 hc2 ⊢
  rw [bkA_0 R K c f] at oA
  have hR2 : R ≤ 200 := by omega
  have hK2 : K ≤ 200 := by omega
  have hrR : r ≤ R := by omega
  have hcK : c ≤ K := by omega
  have HR := Lib.hid hR
  have HK := Lib.hid hK
  clear hR hK
  obtain ⟨A1, c1, e1⟩ := oA.form
  obtain ⟨N, hN⟩ : ∃ N, R * K = N := ⟨_, rfl⟩
  rw [flat_length, hN] at e1
  subst e1
  have HN := Lib.hid hN
  clear hN q0 q1 p0 p1
  have s1 := hb1.size
  obtain ⟨W4, hW4⟩ : ∃ W4, w1.alloc (.cells #[.int .i64 R, .int .i64 K, .slice A1 N c1] 84) = W4 := ⟨_, rfl⟩
  have b4 : Below w1.heap.size w1 W4 := by rw [← hW4]; exact below_alloc _ _
  have k4 : Blk W4 w1.heap.size 84 #[.int .i64 R, .int .i64 K, .slice A1 N c1] := by rw [← hW4]; exact Blk.new _ _ _
  have oA := oA.below b4
  have gW := bthen hb1 b4
  clear b4 hb1
  go_wp2
  clear hW4
  go_loopw [6] (fun i wr => ∃ j : Nat, j ≤ r ∧ i = .int .i64 j ∧ Blk wr w1.heap.size 84 #[.int .i64 R, .int .i64 K, .slice A1 N c1] ∧ IntsO wr W.heap.size w1.heap.size (.slice A1 N c1) (flat R K (bkA c f j 0)) ∧ Below W.heap.size W wr) (fun i _ => r - (intOf i).toNat)
  case atStart => exact ⟨0, Nat.zero_le _, rfl, k4, oA, gW⟩
  case round =>
    clear k4 oA gW
    obtain ⟨j, hj, rfl, k4, oA, gW⟩ := hrel
    have s6 := gW.size
    have k1 := (K1.out).below gW (by have := SZ.out; omega)
    have q0 := k1.cell' (i := 0) rfl
    by_cases hlt : j < r
    · go_wp2
      clear k1 q0
      go_loopw [7] (fun i wr => ∃ k : Nat, k ≤ c ∧ i = .int .i64 k ∧ Blk wr w1.heap.size 84 #[.int .i64 R, .int .i64 K, .slice A1 N c1] ∧ IntsO wr W.heap.size w1.heap.size (.slice A1 N c1) (flat R K (bkA c f j k)) ∧ Below W.heap.size W wr) (fun i _ => c - (intOf i).toNat)
      case atStart => exact ⟨0, Nat.zero_le _, rfl, k4, oA, gW⟩
      case round =>
        clear k4 oA gW s6
        obtain ⟨k, hk, rfl, k4, oA, gW⟩ := hrel
        have s6 := gW.size
        have k1 := (K1.out).below gW (by have := SZ.out; omega)
        have q1 := k1.cell' (i := 1) rfl
        by_cases hlk : k < c
        · obtain ⟨P, J, hP, hPJ, hJ, hJN, hJb⟩ := ix_walk (r := R) (c := K) (show j < R by omega) (show k < K by omega) (by omega) (by omega)
          rw [HN.out] at hJN
          have hst := bkA_put (R := R) (C := K) f (show j < R by omega) hlk hcK
          rw [← hJ] at hst
          subst hPJ
          obtain ⟨P2, J2, hP2, hPJ2, hJ2, hJN2, hJb2⟩ := ix_walk hlt hlk (by omega) (by omega)
          have hs' := HSU.out
          obtain ⟨b, o, x, rfl, hb, HX, x1, xr⟩ := SlI.at_ (k := P2 + k) hs' (by rw [flat_length]; omega)
          have hx := HX.out
          rw [hPJ2, hJ2, flat_get f hlt hlk] at hx
          injection hx with hx
          subst hx
          have hJL : P2 + k < L := by rw [← HL.out, flat_length]; omega
          have hJb3 : P2 + k ≤ 1000000 := by omega
          have gww : Below w0.heap.size w0 wr := g0.trans (gW.mono g0.size)
          have gwws := gww.size
          have x2 := bcell gww hb x1
          obtain ⟨gA, cA, eA, a1, a2, a3⟩ := oA.at_ (by rw [flat_length, HN.out]; omega)
          rw [flat_length, HN.out] at eA
          injection eA with eA1 eA2 eA3
          subst eA1 eA3
          have hP' := Lib.hid hP
          have hP2' := Lib.hid hP2
          clear hs' HX x1 hJ hJ2 hPJ2 hJN2
          go_wp2
          refine wp_region_net (by kernel_rfl) [.eq (.pointer (some ⟨w1.heap.size, 2, none⟩)), .eq (.slice (some ⟨gA, 0, none⟩) N c1), .eq (.int .i64 j), .eq (.pointer (some ⟨w1.heap.size, 1, none⟩)), .eq (.int .i64 K), .eq (.int .i64 P), .eq (.int .i64 k), .eq (.int .i64 ((P : Int) + k)), .eq (.pointer (some ⟨w0.heap.size, 2, none⟩)), .eq (.slice (some ⟨b, o, none⟩) L uc), .eq (.int .i64 j), .eq (.pointer (some ⟨w0.heap.size, 1, none⟩)), .eq (.int .i64 c), .eq (.int .i64 P2), .eq (.int .i64 k), .eq (.int .i64 ((P2 : Int) + k)), .eq (.pointer (some ⟨b, o + (P2 + k), none⟩)), .eq (.int .i64 (f j k)), .eq (.pointer (some ⟨gA, P + k, none⟩))] [[], [0], [], [], [3], [2, 3, 4], [], [2, 3, 4, 5, 6], [], [8], [], [], [11], [10, 11, 12], [], [10, 11, 12, 13, 14], [8, 9, 10, 11, 12, 13, 14, 15], [8, 9, 10, 11, 12, 13, 14, 15, 16], [0, 1, 2, 3, 4, 5, 6, 7, 8, 9, 10, 11, 12, 13, 14, 15, 16, 17], [0, 1, 2, 3, 4, 5, 6, 7, 8, 9, 10, 11, 12, 13, 14, 15, 16, 17, 18]] 19 (by kernel_rfl) ⟨trivial, trivial, trivial, trivial, trivial, trivial, trivial, trivial, trivial, trivial, trivial, trivial, trivial, trivial, trivial, trivial, trivial, trivial, trivial, trivial⟩ ⟨?_, ?_, ?_, ?_, ?_, ?_, ?_, ?_, ?_, ?_, ?_, ?_, ?_, ?_, ?_, ?_, ?_, ?_, ?_, trivial⟩ ?_
          · intro x w hb hk Q' hQ
            clear hk
            simp only [netAct, dstAt, List.getElem?_toArray, List.getElem?_cons_zero, List.getElem?_cons_succ, Option.bind_some, Act.put, List.setIfInBounds_toArray, List.set_cons_zero, List.set_cons_succ] at hQ ⊢
            go_wp2
            exact hQ (.pointer (some ⟨w1.heap.size, 2, none⟩)) _ (Below.refl _ _) rfl
          · intro x w hb hk Q' hQ
            have h0 : x.v 0 = .pointer (some ⟨w1.heap.size, 2, none⟩) := (hk 0 (by decide)).1
            clear hk
            simp only [netAct, dstAt, List.getElem?_toArray, List.getElem?_cons_zero, List.getElem?_cons_succ, Option.bind_some, Act.put, List.setIfInBounds_toArray, List.set_cons_zero, List.set_cons_succ] at hQ ⊢
            simp only [h0] at hQ ⊢
            clear h0
            have z2 := (k4.call hb).cell' (i := 2) rfl
            go_wp2
            exact hQ (.slice (some ⟨gA, 0, none⟩) N c1) _ (Below.refl _ _) rfl
          · intro x w hb hk Q' hQ
            clear hk
            simp only [netAct, dstAt, List.getElem?_toArray, List.getElem?_cons_zero, List.getElem?_cons_succ, Option.bind_some, Act.put, List.setIfInBounds_toArray, List.set_cons_zero, List.set_cons_succ] at hQ ⊢
            go_wp2
            exact hQ (.int .i64 j) _ (Below.refl _ _) rfl
          · intro x w hb hk Q' hQ
            clear hk
            simp only [netAct, dstAt, List.getElem?_toArray, List.getElem?_cons_zero, List.getElem?_cons_succ, Option.bind_some, Act.put, List.setIfInBounds_toArray, List.set_cons_zero, List.set_cons_succ] at hQ ⊢
            go_wp2
            exact hQ (.pointer (some ⟨w1.heap.size, 1, none⟩)) _ (Below.refl _ _) rfl
          · intro x w hb hk Q' hQ
            have h3 : x.v 3 = .pointer (some ⟨w1.heap.size, 1, none⟩) := (hk 3 (by decide)).1
            clear hk
            simp only [netAct, dstAt, List.getElem?_toArray, List.getElem?_cons_zero, List.getElem?_cons_succ, Option.bind_some, Act.put, List.setIfInBounds_toArray, List.set_cons_zero, List.set_cons_succ] at hQ ⊢
            simp only [h3] at hQ ⊢
            clear h3
            have z2 := (k4.call hb).cell' (i := 1) rfl
            go_wp2
            exact hQ (.int .i64 K) _ (Below.refl _ _) rfl
          · intro x w hb hk Q' hQ
            have h2 : x.v 2 = .int .i64 j := (hk 2 (by decide)).1
            have h4 : x.v 4 = .int .i64 K := (hk 4 (by decide)).1
            clear hk
            simp only [netAct, dstAt, List.getElem?_toArray, List.getElem?_cons_zero, List.getElem?_cons_succ, Option.bind_some, Act.put, List.setIfInBounds_toArray, List.set_cons_zero, List.set_cons_succ] at hQ ⊢
            simp only [h2, h4] at hQ ⊢
            clear h2 h4
            go_wp2
            rw [hP'.out]
            exact hQ (.int .i64 P) _ (Below.refl _ _) rfl
          · intro x w hb hk Q' hQ
            clear hk
            simp only [netAct, dstAt, List.getElem?_toArray, List.getElem?_cons_zero, List.getElem?_cons_succ, Option.bind_some, Act.put, List.setIfInBounds_toArray, List.set_cons_zero, List.set_cons_succ] at hQ ⊢
            go_wp2
            exact hQ (.int .i64 k) _ (Below.refl _ _) rfl
          · intro x w hb hk Q' hQ
            have h5 : x.v 5 = .int .i64 P := (hk 5 (by decide)).1
            have h6 : x.v 6 = .int .i64 k := (hk 6 (by decide)).1
            clear hk
            simp only [netAct, dstAt, List.getElem?_toArray, List.getElem?_cons_zero, List.getElem?_cons_succ, Option.bind_some, Act.put, List.setIfInBounds_toArray, List.set_cons_zero, List.set_cons_succ] at hQ ⊢
            simp only [h5, h6] at hQ ⊢
            clear h5 h6
            go_wp2
            exact hQ (.int .i64 ((P : Int) + k)) _ (Below.refl _ _) rfl
          · intro x w hb hk Q' hQ
            clear hk
            simp only [netAct, dstAt, List.getElem?_toArray, List.getElem?_cons_zero, List.getElem?_cons_succ, Option.bind_some, Act.put, List.setIfInBounds_toArray, List.set_cons_zero, List.set_cons_succ] at hQ ⊢
            go_wp2
            exact hQ (.pointer (some ⟨w0.heap.size, 2, none⟩)) _ (Below.refl _ _) rfl
          · intro x w hb hk Q' hQ
            have h8 : x.v 8 = .pointer (some ⟨w0.heap.size, 2, none⟩) := (hk 8 (by decide)).1
            clear hk
            simp only [netAct, dstAt, List.getElem?_toArray, List.getElem?_cons_zero, List.getElem?_cons_succ, Option.bind_some, Act.put, List.setIfInBounds_toArray, List.set_cons_zero, List.set_cons_succ] at hQ ⊢
            simp only [h8] at hQ ⊢
            clear h8
            have z2 := (k1.call hb).cell' (i := 2) rfl
            go_wp2
            exact hQ (.slice (some ⟨b, o, none⟩) L uc) _ (Below.refl _ _) rfl
          · intro x w hb hk Q' hQ
            clear hk
            simp only [netAct, dstAt, List.getElem?_toArray, List.getElem?_cons_zero, List.getElem?_cons_succ, Option.bind_some, Act.put, List.setIfInBounds_toArray, List.set_cons_zero, List.set_cons_succ] at hQ ⊢
            go_wp2
            exact hQ (.int .i64 j) _ (Below.refl _ _) rfl
          · intro x w hb hk Q' hQ
            clear hk
            simp only [netAct, dstAt, List.getElem?_toArray, List.getElem?_cons_zero, List.getElem?_cons_succ, Option.bind_some, Act.put, List.setIfInBounds_toArray, List.set_cons_zero, List.set_cons_succ] at hQ ⊢
            go_wp2
            exact hQ (.pointer (some ⟨w0.heap.size, 1, none⟩)) _ (Below.refl _ _) rfl
          · intro x w hb hk Q' hQ
            have h11 : x.v 11 = .pointer (some ⟨w0.heap.size, 1, none⟩) := (hk 11 (by decide)).1
            clear hk
            simp only [netAct, dstAt, List.getElem?_toArray, List.getElem?_cons_zero, List.getElem?_cons_succ, Option.bind_some, Act.put, List.setIfInBounds_toArray, List.set_cons_zero, List.set_cons_succ] at hQ ⊢
            simp only [h11] at hQ ⊢
            clear h11
            have z2 := (k1.call hb).cell' (i := 1) rfl
            go_wp2
            exact hQ (.int .i64 c) _ (Below.refl _ _) rfl
          · intro x w hb hk Q' hQ
            have h10 : x.v 10 = .int .i64 j := (hk 10 (by decide)).1
            have h12 : x.v 12 = .int .i64 c := (hk 12 (by decide)).1
            clear hk
            simp only [netAct, dstAt, List.getElem?_toArray, List.getElem?_cons_zero, List.getElem?_cons_succ, Option.bind_some, Act.put, List.setIfInBounds_toArray, List.set_cons_zero, List.set_cons_succ] at hQ ⊢
            simp only [h10, h12] at hQ ⊢
            clear h10 h12
            go_wp2
            rw [hP2'.out]
            exact hQ (.int .i64 P2) _ (Below.refl _ _) rfl
          · intro x w hb hk Q' hQ
            clear hk
            simp only [netAct, dstAt, List.getElem?_toArray, List.getElem?_cons_zero, List.getElem?_cons_succ, Option.bind_some, Act.put, List.setIfInBounds_toArray, List.set_cons_zero, List.set_cons_succ] at hQ ⊢
            go_wp2
            exact hQ (.int .i64 k) _ (Below.refl _ _) rfl
          · intro x w hb hk Q' hQ
            have h13 : x.v 13 = .int .i64 P2 := (hk 13 (by decide)).1
            have h14 : x.v 14 = .int .i64 k := (hk 14 (by decide)).1
            clear hk
            simp only [netAct, dstAt, List.getElem?_toArray, List.getElem?_cons_zero, List.getElem?_cons_succ, Option.bind_some, Act.put, List.setIfInBounds_toArray, List.set_cons_zero, List.set_cons_succ] at hQ ⊢
            simp only [h13, h14] at hQ ⊢
            clear h13 h14
            go_wp2
            exact hQ (.int .i64 ((P2 : Int) + k)) _ (Below.refl _ _) rfl
          · intro x w hb hk Q' hQ
            have h9 : x.v 9 = .slice (some ⟨b, o, none⟩) L uc := (hk 9 (by decide)).1
            have h15 : x.v 15 = .int .i64 ((P2 : Int) + k) := (hk 15 (by decide)).1
            clear hk
            simp only [netAct, dstAt, List.getElem?_toArray, List.getElem?_cons_zero, List.getElem?_cons_succ, Option.bind_some, Act.put, List.setIfInBounds_toArray, List.set_cons_zero, List.set_cons_succ] at hQ ⊢
            simp only [h9, h15] at hQ ⊢
            clear h9 h15
            go_wp2
            exact hQ (.pointer (some ⟨b, o + (P2 + k), none⟩)) _ (Below.refl _ _) rfl
          · intro x w hb hk Q' hQ
            have h16 : x.v 16 = .pointer (some ⟨b, o + (P2 + k), none⟩) := (hk 16 (by decide)).1
            clear hk
            simp only [netAct, dstAt, List.getElem?_toArray, List.getElem?_cons_zero, List.getElem?_cons_succ, Option.bind_some, Act.put, List.setIfInBounds_toArray, List.set_cons_zero, List.set_cons_succ] at hQ ⊢
            simp only [h16] at hQ ⊢
            clear h16
            have z2 := bcell hb (by omega) x2
            go_wp2
            exact hQ (.int .i64 (f j k)) _ (Below.refl _ _) rfl
          · intro x w hb hk Q' hQ
            have h1 : x.v 1 = .slice (some ⟨gA, 0, none⟩) N c1 := (hk 1 (by decide)).1
            have h7 : x.v 7 = .int .i64 ((P : Int) + k) := (hk 7 (by decide)).1
            clear hk
            simp only [netAct, dstAt, List.getElem?_toArray, List.getElem?_cons_zero, List.getElem?_cons_succ, Option.bind_some, Act.put, List.setIfInBounds_toArray, List.set_cons_zero, List.set_cons_succ] at hQ ⊢
            simp only [h1, h7] at hQ ⊢
            clear h1 h7
            go_wp2
            exact hQ (.pointer (some ⟨gA, P + k, none⟩)) _ (Below.refl _ _) rfl
          · intro x w hb hk hiv hdj
            have h0 : x.v 0 = .pointer (some ⟨w1.heap.size, 2, none⟩) := hk 0 (by decide)
            have h1 : x.v 1 = .slice (some ⟨gA, 0, none⟩) N c1 := hk 1 (by decide)
            have h2 : x.v 2 = .int .i64 j := hk 2 (by decide)
            have h3 : x.v 3 = .pointer (some ⟨w1.heap.size, 1, none⟩) := hk 3 (by decide)
            have h4 : x.v 4 = .int .i64 K := hk 4 (by decide)
            have h5 : x.v 5 = .int .i64 P := hk 5 (by decide)
            have h6 : x.v 6 = .int .i64 k := hk 6 (by decide)
            have h7 : x.v 7 = .int .i64 ((P : Int) + k) := hk 7 (by decide)
            have h8 : x.v 8 = .pointer (some ⟨w0.heap.size, 2, none⟩) := hk 8 (by decide)
            have h9 : x.v 9 = .slice (some ⟨b, o, none⟩) L uc := hk 9 (by decide)
            have h10 : x.v 10 = .int .i64 j := hk 10 (by decide)
            have h11 : x.v 11 = .pointer (some ⟨w0.heap.size, 1, none⟩) := hk 11 (by decide)
            have h12 : x.v 12 = .int .i64 c := hk 12 (by decide)
            have h13 : x.v 13 = .int .i64 P2 := hk 13 (by decide)
            have h14 : x.v 14 = .int .i64 k := hk 14 (by decide)
            have h15 : x.v 15 = .int .i64 ((P2 : Int) + k) := hk 15 (by decide)
            have h16 : x.v 16 = .pointer (some ⟨b, o + (P2 + k), none⟩) := hk 16 (by decide)
            have h17 : x.v 17 = .int .i64 (f j k) := hk 17 (by decide)
            have h18 : x.v 18 = .pointer (some ⟨gA, P + k, none⟩) := hk 18 (by decide)
            clear hk
            simp only [netAct, dstAt, List.getElem?_toArray, List.getElem?_cons_zero, List.getElem?_cons_succ, Option.bind_some, Act.put, List.setIfInBounds_toArray, List.set_cons_zero, List.set_cons_succ]
            simp only [List.drop_succ_cons, List.drop_zero, h0, h1, h2, h3, h4, h5, h6, h7, h8, h9, h10, h11, h12, h13, h14, h15, h16, h17, h18]
            clear h0 h1 h2 h3 h4 h5 h6 h7 h8 h9 h10 h11 h12 h13 h14 h15 h16 h17 h18
            have oB := oA.below hb
            have k4b := k4.call hb
            have fA := oB.1.frozenG (P + k)
            have cA := (oB.1.cellG (j := P + k) (by rw [flat_length, HN.out]; omega)).1
            have hws := hb.size
            have hc1 : Chg W.heap.size w1.heap.size w (w.setCell ⟨gA, P + k, none⟩ (.int .i64 (f j k))) := chg_set a1 a2
            have oA2 := oB.put (j := P + k) (x := f j k) xr
            rw [hst] at oA2
            have OA2 := Lib.hid oA2
            have K4 := Lib.hid (k4b.chg hc1 (by omega))
            have GW := Lib.hid ((gW.trans (hb.mono s6)).trans (hc1.below (Nat.le_refl _) (by omega)))
            clear oA2 k4 oA gW hc1 hst oB k4b hiv hdj hb k1 q1
            go_wp2
            go_roundw
            case rel => exact ⟨k + 1, by omega, by go_num, K4.out, OA2.out, GW.out⟩
            case measure => simp [intOf]; omega
        · obtain rfl : k = c := by omega
          rw [bkA_next] at oA
          have OA := Lib.hid oA
          have K4 := Lib.hid k4
          have GW := Lib.hid gW
          clear oA k4 gW k1
          go_wp2
          go_roundw
          case rel => exact ⟨j + 1, by omega, by go_num, K4.out, OA.out, GW.out⟩
          case measure => simp [intOf]; omega
    · obtain rfl : j = r := by omega
      rw [bkB_0 R K j c f g] at oA
      obtain ⟨W5, hW5⟩ : ∃ W5, wr = W5 := ⟨_, rfl⟩
      rw [hW5] at oA k4 gW q0 s6 ⊢
      clear hW5 k1
      go_wp2
      go_loopw [8] (fun i wr => ∃ i' : Nat, i' ≤ s ∧ i = .int .i64 i' ∧ Blk wr w1.heap.size 84 #[.int .i64 R, .int .i64 K, .slice A1 N c1] ∧ IntsO wr W.heap.size w1.heap.size (.slice A1 N c1) (flat R K (bkB j c f g i' 0)) ∧ Below W.heap.size W wr) (fun i _ => s - (intOf i).toNat)
      case atStart => exact ⟨0, Nat.zero_le _, rfl, k4, oA, gW⟩
      case round =>
        clear k4 oA gW q0 s6
        obtain ⟨i', hi', rfl, k4, oA, gW⟩ := hrel
        have s6 := gW.size
        have k2 := (K2.out).below gW (by have := SZ.out; omega)
        have q0 := k2.cell' (i := 0) rfl
        by_cases hlt : i' < s
        · go_wp2
          clear k2 q0
          go_loopw [9] (fun i wr => ∃ k : Nat, k ≤ d ∧ i = .int .i64 k ∧ Blk wr w1.heap.size 84 #[.int .i64 R, .int .i64 K, .slice A1 N c1] ∧ IntsO wr W.heap.size w1.heap.size (.slice A1 N c1) (flat R K (bkB j c f g i' k)) ∧ Below W.heap.size W wr) (fun i _ => d - (intOf i).toNat)
          case atStart => exact ⟨0, Nat.zero_le _, rfl, k4, oA, gW⟩
          case round =>
            clear k4 oA gW s6
            obtain ⟨k, hk, rfl, k4, oA, gW⟩ := hrel
            have s6 := gW.size
            have k1 := (K1.out).below gW (by have := SZ.out; omega)
            have k2 := (K2.out).below gW (by have := SZ.out; omega)
            have q1 := k2.cell' (i := 1) rfl
            by_cases hlk : k < d
            · have hRR := HR.out
              have hKK := HK.out
              obtain ⟨P, J, hP, hPJ, hJ, hJN, hJb⟩ := ix_walk (r := R) (c := K) (i := j + i') (k := c + k) (by omega) (by omega) (by omega) (by omega)
              rw [HN.out] at hJN
              have hst := bkB_put (R := R) (C := K) f g (show j + i' < R by omega) (show c + k < K by omega)
              rw [← hJ] at hst
              subst hPJ
              obtain ⟨P2, J2, hP2, hPJ2, hJ2, hJN2, hJb2⟩ := ix_walk hlt hlk (by omega) (by omega)
              have hs' := HSV.out
              obtain ⟨b, o, x, rfl, hb, HX, x1, xr⟩ := SlI.at_ (k := P2 + k) hs' (by rw [flat_length]; omega)
              have hx := HX.out
              rw [hPJ2, hJ2, flat_get g hlt hlk] at hx
              injection hx with hx
              subst hx
              have hJL : P2 + k < L' := by rw [← HL'.out, flat_length]; omega
              have hJb3 : P2 + k ≤ 1000000 := by omega
              have gww : Below w0.heap.size w0 wr := g0.trans (gW.mono g0.size)
              have gwws := gww.size
              have x2 := bcell gww hb x1
              obtain ⟨gA, cA, eA, a1, a2, a3⟩ := oA.at_ (by rw [flat_length, HN.out]; omega)
              rw [flat_length, HN.out] at eA
              injection eA with eA1 eA2 eA3
              subst eA1 eA3
              have hP' := Lib.hid (show wrap64 (((j : Int) + i') * (K : Int)) = (P : Int) by rw [← hP]; push_cast; rfl)
              have hP2' := Lib.hid hP2
              clear hs' HX x1 hJ hJ2 hPJ2 hJN2 hP hRR hKK
              go_wp2
              refine wp_region_net (by kernel_rfl) [.eq (.pointer (some ⟨w1.heap.size, 2, none⟩)), .eq (.slice (some ⟨gA, 0, none⟩) N c1), .eq (.pointer (some ⟨w0.heap.size, 0, none⟩)), .eq (.int .i64 j), .eq (.int .i64 i'), .eq (.int .i64 ((j : Int) + i')), .eq (.pointer (some ⟨w1.heap.size, 1, none⟩)), .eq (.int .i64 K), .eq (.int .i64 P), .eq (.pointer (some ⟨w0.heap.size, 1, none⟩)), .eq (.int .i64 c), .eq (.int .i64 ((P : Int) + c)), .eq (.int .i64 k), .eq (.int .i64 ((P : Int) + c + k)), .eq (.pointer (some ⟨w0.heap.size + 1, 2, none⟩)), .eq (.slice (some ⟨b, o, none⟩) L' vc), .eq (.int .i64 i'), .eq (.pointer (some ⟨w0.heap.size + 1, 1, none⟩)), .eq (.int .i64 d), .eq (.int .i64 P2), .eq (.int .i64 k), .eq (.int .i64 ((P2 : Int) + k)), .eq (.pointer (some ⟨b, o + (P2 + k), none⟩)), .eq (.int .i64 (g i' k)), .eq (.pointer (some ⟨gA, P + (c + k), none⟩))] [[], [0], [], [2], [], [2, 3, 4], [], [6], [2, 3, 4, 5, 6, 7], [], [9], [2, 3, 4, 5, 6, 7, 8, 9, 10], [], [2, 3, 4, 5, 6, 7, 8, 9, 10, 11, 12], [], [14], [], [], [17], [16, 17, 18], [], [16, 17, 18, 19, 20], [14, 15, 16, 17, 18, 19, 20, 21], [14, 15, 16, 17, 18, 19, 20, 21, 22], [0, 1, 2, 3, 4, 5, 6, 7, 8, 9, 10, 11, 12, 13, 14, 15, 16, 17, 18, 19, 20, 21, 22, 23], [0, 1, 2, 3, 4, 5, 6, 7, 8, 9, 10, 11, 12, 13, 14, 15, 16, 17, 18, 19, 20, 21, 22, 23, 24]] 25 (by kernel_rfl) ⟨trivial, trivial, trivial, trivial, trivial, trivial, trivial, trivial, trivial, trivial, trivial, trivial, trivial, trivial, trivial, trivial, trivial, trivial, trivial, trivial, trivial, trivial, trivial, trivial, trivial, trivial⟩ ⟨?_, ?_, ?_, ?_, ?_, ?_, ?_, ?_, ?_, ?_, ?_, ?_, ?_, ?_, ?_, ?_, ?_, ?_, ?_, ?_, ?_, ?_, ?_, ?_, ?_, trivial⟩ ?_
              · intro x w hb hk Q' hQ
                clear hk
                simp only [netAct, dstAt, List.getElem?_toArray, List.getElem?_cons_zero, List.getElem?_cons_succ, Option.bind_some, Act.put, List.setIfInBounds_toArray, List.set_cons_zero, List.set_cons_succ] at hQ ⊢
                go_wp2
                exact hQ (.pointer (some ⟨w1.heap.size, 2, none⟩)) _ (Below.refl _ _) rfl
              · intro x w hb hk Q' hQ
                have h0 : x.v 0 = .pointer (some ⟨w1.heap.size, 2, none⟩) := (hk 0 (by decide)).1
                clear hk
                simp only [netAct, dstAt, List.getElem?_toArray, List.getElem?_cons_zero, List.getElem?_cons_succ, Option.bind_some, Act.put, List.setIfInBounds_toArray, List.set_cons_zero, List.set_cons_succ] at hQ ⊢
                simp only [h0] at hQ ⊢
                clear h0
                have z2 := (k4.call hb).cell' (i := 2) rfl
                go_wp2
                exact hQ (.slice (some ⟨gA, 0, none⟩) N c1) _ (Below.refl _ _) rfl
              · intro x w hb hk Q' hQ
                clear hk
                simp only [netAct, dstAt, List.getElem?_toArray, List.getElem?_cons_zero, List.getElem?_cons_succ, Option.bind_some, Act.put, List.setIfInBounds_toArray, List.set_cons_zero, List.set_cons_succ] at hQ ⊢
                go_wp2
                exact hQ (.pointer (some ⟨w0.heap.size, 0, none⟩)) _ (Below.refl _ _) rfl
              · intro x w hb hk Q' hQ
                have h2 : x.v 2 = .pointer (some ⟨w0.heap.size, 0, none⟩) := (hk 2 (by decide)).1
                clear hk
                simp only [netAct, dstAt, List.getElem?_toArray, List.getElem?_cons_zero, List.getElem?_cons_succ, Option.bind_some, Act.put, List.setIfInBounds_toArray, List.set_cons_zero, List.set_cons_succ] at hQ ⊢
                simp only [h2] at hQ ⊢
                clear h2
                have z2 := (k1.call hb).cell' (i := 0) rfl
                go_wp2
                exact hQ (.int .i64 j) _ (Below.refl _ _) rfl
              · intro x w hb hk Q' hQ
                clear hk
                simp only [netAct, dstAt, List.getElem?_toArray, List.getElem?_cons_zero, List.getElem?_cons_succ, Option.bind_some, Act.put, List.setIfInBounds_toArray, List.set_cons_zero, List.set_cons_succ] at hQ ⊢
                go_wp2
                exact hQ (.int .i64 i') _ (Below.refl _ _) rfl
              · intro x w hb hk Q' hQ
                have h3 : x.v 3 = .int .i64 j := (hk 3 (by decide)).1
                have h4 : x.v 4 = .int .i64 i' := (hk 4 (by decide)).1
                clear hk
                simp only [netAct, dstAt, List.getElem?_toArray, List.getElem?_cons_zero, List.getElem?_cons_succ, Option.bind_some, Act.put, List.setIfInBounds_toArray, List.set_cons_zero, List.set_cons_succ] at hQ ⊢
                simp only [h3, h4] at hQ ⊢
                clear h3 h4
                go_wp2
                exact hQ (.int .i64 ((j : Int) + i')) _ (Below.refl _ _) rfl
              · intro x w hb hk Q' hQ
                clear hk
                simp only [netAct, dstAt, List.getElem?_toArray, List.getElem?_cons_zero, List.getElem?_cons_succ, Option.bind_some, Act.put, List.setIfInBounds_toArray, List.set_cons_zero, List.set_cons_succ] at hQ ⊢
                go_wp2
                exact hQ (.pointer (some ⟨w1.heap.size, 1, none⟩)) _ (Below.refl _ _) rfl
              · intro x w hb hk Q' hQ
                have h6 : x.v 6 = .pointer (some ⟨w1.heap.size, 1, none⟩) := (hk 6 (by decide)).1
                clear hk
                simp only [netAct, dstAt, List.getElem?_toArray, List.getElem?_cons_zero, List.getElem?_cons_succ, Option.bind_some, Act.put, List.setIfInBounds_toArray, List.set_cons_zero, List.set_cons_succ] at hQ ⊢
                simp only [h6] at hQ ⊢
                clear h6
                have z2 := (k4.call hb).cell' (i := 1) rfl
                go_wp2
                exact hQ (.int .i64 K) _ (Below.refl _ _) rfl
              · intro x w hb hk Q' hQ
                have h5 : x.v 5 = .int .i64 ((j : Int) + i') := (hk 5 (by decide)).1
                have h7 : x.v 7 = .int .i64 K := (hk 7 (by decide)).1
                clear hk
                simp only [netAct, dstAt, List.getElem?_toArray, List.getElem?_cons_zero, List.getElem?_cons_succ, Option.bind_some, Act.put, List.setIfInBounds_toArray, List.set_cons_zero, List.set_cons_succ] at hQ ⊢
                simp only [h5, h7] at hQ ⊢
                clear h5 h7
                go_wp2
                rw [hP'.out]
                exact hQ (.int .i64 P) _ (Below.refl _ _) rfl
              · intro x w hb hk Q' hQ
                clear hk
                simp only [netAct, dstAt, List.getElem?_toArray, List.getElem?_cons_zero, List.getElem?_cons_succ, Option.bind_some, Act.put, List.setIfInBounds_toArray, List.set_cons_zero, List.set_cons_succ] at hQ ⊢
                go_wp2
                exact hQ (.pointer (some ⟨w0.heap.size, 1, none⟩)) _ (Below.refl _ _) rfl
              · intro x w hb hk Q' hQ
                have h9 : x.v 9 = .pointer (some ⟨w0.heap.size, 1, none⟩) := (hk 9 (by decide)).1
                clear hk
                simp only [netAct, dstAt, List.getElem?_toArray, List.getElem?_cons_zero, List.getElem?_cons_succ, Option.bind_some, Act.put, List.setIfInBounds_toArray, List.set_cons_zero, List.set_cons_succ] at hQ ⊢
                simp only [h9] at hQ ⊢
                clear h9
                have z2 := (k1.call hb).cell' (i := 1) rfl
                go_wp2
                exact hQ (.int .i64 c) _ (Below.refl _ _) rfl
              · intro x w hb hk Q' hQ
                have h8 : x.v 8 = .int .i64 P := (hk 8 (by decide)).1
                have h10 : x.v 10 = .int .i64 c := (hk 10 (by decide)).1
                clear hk
                simp only [netAct, dstAt, List.getElem?_toArray, List.getElem?_cons_zero, List.getElem?_cons_succ, Option.bind_some, Act.put, List.setIfInBounds_toArray, List.set_cons_zero, List.set_cons_succ] at hQ ⊢
                simp only [h8, h10] at hQ ⊢
                clear h8 h10
                go_wp2
                exact hQ (.int .i64 ((P : Int) + c)) _ (Below.refl _ _) rfl
              · intro x w hb hk Q' hQ
                clear hk
                simp only [netAct, dstAt, List.getElem?_toArray, List.getElem?_cons_zero, List.getElem?_cons_succ, Option.bind_some, Act.put, List.setIfInBounds_toArray, List.set_cons_zero, List.set_cons_succ] at hQ ⊢
                go_wp2
                exact hQ (.int .i64 k) _ (Below.refl _ _) rfl
              · intro x w hb hk Q' hQ
                have h11 : x.v 11 = .int .i64 ((P : Int) + c) := (hk 11 (by decide)).1
                have h12 : x.v 12 = .int .i64 k := (hk 12 (by decide)).1
                clear hk
                simp only [netAct, dstAt, List.getElem?_toArray, List.getElem?_cons_zero, List.getElem?_cons_succ, Option.bind_some, Act.put, List.setIfInBounds_toArray, List.set_cons_zero, List.set_cons_succ] at hQ ⊢
                simp only [h11, h12] at hQ ⊢
                clear h11 h12
                go_wp2
                exact hQ (.int .i64 ((P : Int) + c + k)) _ (Below.refl _ _) rfl
              · intro x w hb hk Q' hQ
                clear hk
                simp only [netAct, dstAt, List.getElem?_toArray, List.getElem?_cons_zero, List.getElem?_cons_succ, Option.bind_some, Act.put, List.setIfInBounds_toArray, List.set_cons_zero, List.set_cons_succ] at hQ ⊢
                go_wp2
                exact hQ (.pointer (some ⟨w0.heap.size + 1, 2, none⟩)) _ (Below.refl _ _) rfl
              · intro x w hb hk Q' hQ
                have h14 : x.v 14 = .pointer (some ⟨w0.heap.size + 1, 2, none⟩) := (hk 14 (by decide)).1
                clear hk
                simp only [netAct, dstAt, List.getElem?_toArray, List.getElem?_cons_zero, List.getElem?_cons_succ, Option.bind_some, Act.put, List.setIfInBounds_toArray, List.set_cons_zero, List.set_cons_succ] at hQ ⊢
                simp only [h14] at hQ ⊢
                clear h14
                have z2 := (k2.call hb).cell' (i := 2) rfl
                go_wp2
                exact hQ (.slice (some ⟨b, o, none⟩) L' vc) _ (Below.refl _ _) rfl
              · intro x w hb hk Q' hQ
                clear hk
                simp only [netAct, dstAt, List.getElem?_toArray, List.getElem?_cons_zero, List.getElem?_cons_succ, Option.bind_some, Act.put, List.setIfInBounds_toArray, List.set_cons_zero, List.set_cons_succ] at hQ ⊢
                go_wp2
                exact hQ (.int .i64 i') _ (Below.refl _ _) rfl
              · intro x w hb hk Q' hQ
                clear hk
                simp only [netAct, dstAt, List.getElem?_toArray, List.getElem?_cons_zero, List.getElem?_cons_succ, Option.bind_some, Act.put, List.setIfInBounds_toArray, List.set_cons_zero, List.set_cons_succ] at hQ ⊢
                go_wp2
                exact hQ (.pointer (some ⟨w0.heap.size + 1, 1, none⟩)) _ (Below.refl _ _) rfl
              · intro x w hb hk Q' hQ
                have h17 : x.v 17 = .pointer (some ⟨w0.heap.size + 1, 1, none⟩) := (hk 17 (by decide)).1
                clear hk
                simp only [netAct, dstAt, List.getElem?_toArray, List.getElem?_cons_zero, List.getElem?_cons_succ, Option.bind_some, Act.put, List.setIfInBounds_toArray, List.set_cons_zero, List.set_cons_succ] at hQ ⊢
                simp only [h17] at hQ ⊢
                clear h17
                have z2 := (k2.call hb).cell' (i := 1) rfl
                go_wp2
                exact hQ (.int .i64 d) _ (Below.refl _ _) rfl
              · intro x w hb hk Q' hQ
                have h16 : x.v 16 = .int .i64 i' := (hk 16 (by decide)).1
                have h18 : x.v 18 = .int .i64 d := (hk 18 (by decide)).1
                clear hk
                simp only [netAct, dstAt, List.getElem?_toArray, List.getElem?_cons_zero, List.getElem?_cons_succ, Option.bind_some, Act.put, List.setIfInBounds_toArray, List.set_cons_zero, List.set_cons_succ] at hQ ⊢
                simp only [h16, h18] at hQ ⊢
                clear h16 h18
                go_wp2
                rw [hP2'.out]
                exact hQ (.int .i64 P2) _ (Below.refl _ _) rfl
              · intro x w hb hk Q' hQ
                clear hk
                simp only [netAct, dstAt, List.getElem?_toArray, List.getElem?_cons_zero, List.getElem?_cons_succ, Option.bind_some, Act.put, List.setIfInBounds_toArray, List.set_cons_zero, List.set_cons_succ] at hQ ⊢
                go_wp2
                exact hQ (.int .i64 k) _ (Below.refl _ _) rfl
              · intro x w hb hk Q' hQ
                have h19 : x.v 19 = .int .i64 P2 := (hk 19 (by decide)).1
                have h20 : x.v 20 = .int .i64 k := (hk 20 (by decide)).1
                clear hk
                simp only [netAct, dstAt, List.getElem?_toArray, List.getElem?_cons_zero, List.getElem?_cons_succ, Option.bind_some, Act.put, List.setIfInBounds_toArray, List.set_cons_zero, List.set_cons_succ] at hQ ⊢
                simp only [h19, h20] at hQ ⊢
                clear h19 h20
                go_wp2
                exact hQ (.int .i64 ((P2 : Int) + k)) _ (Below.refl _ _) rfl
              · intro x w hb hk Q' hQ
                have h15 : x.v 15 = .slice (some ⟨b, o, none⟩) L' vc := (hk 15 (by decide)).1
                have h21 : x.v 21 = .int .i64 ((P2 : Int) + k) := (hk 21 (by decide)).1
                clear hk
                simp only [netAct, dstAt, List.getElem?_toArray, List.getElem?_cons_zero, List.getElem?_cons_succ, Option.bind_some, Act.put, List.setIfInBounds_toArray, List.set_cons_zero, List.set_cons_succ] at hQ ⊢
                simp only [h15, h21] at hQ ⊢
                clear h15 h21
                go_wp2
                exact hQ (.pointer (some ⟨b, o + (P2 + k), none⟩)) _ (Below.refl _ _) rfl
              · intro x w hb hk Q' hQ
                have h22 : x.v 22 = .pointer (some ⟨b, o + (P2 + k), none⟩) := (hk 22 (by decide)).1
                clear hk
                simp only [netAct, dstAt, List.getElem?_toArray, List.getElem?_cons_zero, List.getElem?_cons_succ, Option.bind_some, Act.put, List.setIfInBounds_toArray, List.set_cons_zero, List.set_cons_succ] at hQ ⊢
                simp only [h22] at hQ ⊢
                clear h22
                have z2 := bcell hb (by omega) x2
                go_wp2
                exact hQ (.int .i64 (g i' k)) _ (Below.refl _ _) rfl
              · intro x w hb hk Q' hQ
                have h1 : x.v 1 = .slice (some ⟨gA, 0, none⟩) N c1 := (hk 1 (by decide)).1
                have h13 : x.v 13 = .int .i64 ((P : Int) + c + k) := (hk 13 (by decide)).1
                clear hk
                simp only [netAct, dstAt, List.getElem?_toArray, List.getElem?_cons_zero, List.getElem?_cons_succ, Option.bind_some, Act.put, List.setIfInBounds_toArray, List.set_cons_zero, List.set_cons_succ] at hQ ⊢
                simp only [h1, h13] at hQ ⊢
                clear h1 h13
                have hga : (P : Int) + c + k = ((P + (c + k) : Nat) : Int) := by push_cast; omega
                rw [hga] at hQ ⊢
                go_wp2
                exact hQ (.pointer (some ⟨gA, P + (c + k), none⟩)) _ (Below.refl _ _) rfl
              · intro x w hb hk hiv hdj
                have h0 : x.v 0 = .pointer (some ⟨w1.heap.size, 2, none⟩) := hk 0 (by decide)
                have h1 : x.v 1 = .slice (some ⟨gA, 0, none⟩) N c1 := hk 1 (by decide)
                have h2 : x.v 2 = .pointer (some ⟨w0.heap.size, 0, none⟩) := hk 2 (by decide)
                have h3 : x.v 3 = .int .i64 j := hk 3 (by decide)
                have h4 : x.v 4 = .int .i64 i' := hk 4 (by decide)
                have h5 : x.v 5 = .int .i64 ((j : Int) + i') := hk 5 (by decide)
                have h6 : x.v 6 = .pointer (some ⟨w1.heap.size, 1, none⟩) := hk 6 (by decide)
                have h7 : x.v 7 = .int .i64 K := hk 7 (by decide)
                have h8 : x.v 8 = .int .i64 P := hk 8 (by decide)
                have h9 : x.v 9 = .pointer (some ⟨w0.heap.size, 1, none⟩) := hk 9 (by decide)
                have h10 : x.v 10 = .int .i64 c := hk 10 (by decide)
                have h11 : x.v 11 = .int .i64 ((P : Int) + c) := hk 11 (by decide)
                have h12 : x.v 12 = .int .i64 k := hk 12 (by decide)
                have h13 : x.v 13 = .int .i64 ((P : Int) + c + k) := hk 13 (by decide)
                have h14 : x.v 14 = .pointer (some ⟨w0.heap.size + 1, 2, none⟩) := hk 14 (by decide)
                have h15 : x.v 15 = .slice (some ⟨b, o, none⟩) L' vc := hk 15 (by decide)
                have h16 : x.v 16 = .int .i64 i' := hk 16 (by decide)
                have h17 : x.v 17 = .pointer (some ⟨w0.heap.size + 1, 1, none⟩) := hk 17 (by decide)
                have h18 : x.v 18 = .int .i64 d := hk 18 (by decide)
                have h19 : x.v 19 = .int .i64 P2 := hk 19 (by decide)
                have h20 : x.v 20 = .int .i64 k := hk 20 (by decide)
                have h21 : x.v 21 = .int .i64 ((P2 : Int) + k) := hk 21 (by decide)
                have h22 : x.v 22 = .pointer (some ⟨b, o + (P2 + k), none⟩) := hk 22 (by decide)
                have h23 : x.v 23 = .int .i64 (g i' k) := hk 23 (by decide)
                have h24 : x.v 24 = .pointer (some ⟨gA, P + (c + k), none⟩) := hk 24 (by decide)
                clear hk
                simp only [netAct, dstAt, List.getElem?_toArray, List.getElem?_cons_zero, List.getElem?_cons_succ, Option.bind_some, Act.put, List.setIfInBounds_toArray, List.set_cons_zero, List.set_cons_succ]
                simp only [List.drop_succ_cons, List.drop_zero, h0, h1, h2, h3, h4, h5, h6, h7, h8, h9, h10, h11, h12, h13, h14, h15, h16, h17, h18, h19, h20, h21, h22, h23, h24]
                clear h0 h1 h2 h3 h4 h5 h6 h7 h8 h9 h10 h11 h12 h13 h14 h15 h16 h17 h18 h19 h20 h21 h22 h23 h24
                have oB := oA.below hb
                have k4b := k4.call hb
                have fA := oB.1.frozenG (P + (c + k))
                have cA := (oB.1.cellG (j := P + (c + k)) (by rw [flat_length, HN.out]; omega)).1
                have hws := hb.size
                have hc1 : Chg W.heap.size w1.heap.size w (w.setCell ⟨gA, P + (c + k), none⟩ (.int .i64 (g i' k))) := chg_set a1 a2
                have oA2 := oB.put (j := P + (c + k)) (x := g i' k) xr
                rw [hst] at oA2
                have OA2 := Lib.hid oA2
                have K4 := Lib.hid (k4b.chg hc1 (by omega))
                have GW := Lib.hid ((gW.trans (hb.mono s6)).trans (hc1.below (Nat.le_refl _) (by omega)))
                clear oA2 k4 oA gW hc1 hst oB k4b hiv hdj hb k1 k2 q1
                go_wp2
                go_roundw
                case rel => exact ⟨k + 1, by omega, by go_num, K4.out, OA2.out, GW.out⟩
                case measure => simp [intOf]; omega
            · obtain rfl : k = d := by omega
              rw [bkB_next f g HK.out.symm] at oA
              have OA := Lib.hid oA
              have K4 := Lib.hid k4
              have GW := Lib.hid gW
              clear oA k4 gW k1 k2
              go_wp2
              go_roundw
              case rel => exact ⟨i' + 1, by omega, by go_num, K4.out, OA.out, GW.out⟩
              case measure => simp [intOf]; omega
        · obtain rfl : i' = s := by omega
          rw [bkB_end f g HR.out.symm] at oA
          have k3 := K3.out.below gW (by have := SZ.out; omega)
          have z0 := k4.cell' (i := 0) rfl
          have z1 := k4.cell' (i := 1) rfl
          have z2 := k4.cell' (i := 2) rfl
          have p0 := k3.cell' (i := 0) rfl
          have p1 := k3.cell' (i := 1) rfl
          have p2 := k3.cell' (i := 2) rfl
          have f2 := k3.frozen
          have h2 := chg3 wr (w0.heap.size + 1 + 1) (.int .i64 (R : Int)) (.int .i64 K) (.slice A1 N c1)
          have gw : Below w0.heap.size w0 wr := g0.trans (gW.mono g0.size)
          have gs := gw.size
          have oA2 := (oA.chg h2 (.inr (by have := SZ.out; omega))).wider (lo' := w0.heap.size) (hi' := wr.heap.size) (by have := SZ.out; omega) (by have := k4.lt; omega)
          have fg := gw.trans (h2.below (by omega) gs)
          have OA2 := Lib.hid oA2
          have FG := Lib.hid fg
          clear oA oA2 fg gw h2 k2 k3 k4 gW
          go_wp2
          exact bodyPost_ret (v := .agg #[.int .i64 (R : Int), .int .i64 K, .slice A1 N c1]) (by simp [results, go_sem, p0, p1, p2]) rfl ⟨_, rfl, ⟨_, rfl, by simpa using OA2.out, hr2, hc2⟩, FG.out⟩
end Go.Proofs.Ytcmlflppndfdcaa
