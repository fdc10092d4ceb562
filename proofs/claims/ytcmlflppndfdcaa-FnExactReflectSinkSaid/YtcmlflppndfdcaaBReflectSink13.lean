/- FnExactReflectSink: for every argument the program's function returns what the reference's returns. Part 13 of 13 of the proof: RsS, RsZ, LawReflectSink, LawReflectSinkRow. No condition. -/
import Derived.Test.YtcmlflppndfdcaaBReflectSink12
/- The reference's ReflectSink. -/
namespace Go.Proofs.Ytcmlflppndfdcaa
set_option linter.unusedVariables false
set_option linter.unusedSimpArgs false
open Go.RowKit

theorem ix_pk {a b K yf P : Nat} (ha : a < yf) (hb : b < K) (hy : yf ≤ 4) (hK : K ≤ 24) (hP : P = a * K) : wrap64 ((a : Int) * (K : Int)) = (P : Int) ∧ P + b < yf * K ∧ yf * K ≤ 96 := by
  have h1 : (a + 1) * K ≤ yf * K := Nat.mul_le_mul_right _ ha
  have h2 : yf * K ≤ 4 * 24 := Nat.mul_le_mul hy hK
  have h3 : (a + 1) * K = a * K + K := by rw [Nat.add_mul, Nat.one_mul]
  refine ⟨?_, by omega, by omega⟩
  rw [show ((a : Int) * (K : Int)) = ((a * K : Nat) : Int) by simp, hP]
  exact IntWalk.wrap64_in _ ⟨by omega, by omega⟩
set_option maxHeartbeats 6400000 in
set_option maxRecDepth 100000 in
theorem specReflectSink_any (u : Value) (y : Rp) (v : Int) (w0 : World) (hu : RpR w0 w0.heap.size u y) (hv : I64 v) :
    Calls Try.prog 23 #[u, .int .i64 v] w0 fun e w' => ∃ r, e = .returned (.tuple #[r, .bool (rsP y v).2]) ∧ RpR w' w'.heap.size r (rsP y v).1 ∧ Below w0.heap.size w0 w' := by
  have hu' := hu
  obtain ⟨A, a, C, c, E, ec, H, hc, rfl, hqr, hdr, hmr, _⟩ := hu.open_
  clear hu
  obtain ⟨W, hW⟩ : ∃ W, W = (w0.alloc (.cells #[.int .i64 y.p, .int .i64 y.q.v, .slice A y.q.f.length a, .slice C y.q.t.length c, .slice E y.d.length ec, .slice H y.m.length hc] 31)).alloc (.cells #[.int .i64 0, .int .i64 0, .slice none 0 0, .slice none 0 0, .slice none 0 0, .slice none 0 0] 31) := ⟨_, rfl⟩
  have g0 : Below w0.heap.size w0 W := by rw [hW]; exact ((Below.refl _ _).alloc (Nat.le_refl _) _).alloc (by simp) _
  have k1 : Blk W w0.heap.size 31 #[.int .i64 y.p, .int .i64 y.q.v, .slice A y.q.f.length a, .slice C y.q.t.length c, .slice E y.d.length ec, .slice H y.m.length hc] := by rw [hW]; exact (Blk.new _ _ _).alloc _
  have k2 : Blk W (w0.heap.size + 1) 31 #[.int .i64 0, .int .i64 0, .slice none 0 0, .slice none 0 0, .slice none 0 0, .slice none 0 0] := by
    rw [hW]
    have := Blk.new (w0.alloc (.cells #[.int .i64 y.p, .int .i64 y.q.v, .slice A y.q.f.length a, .slice C y.q.t.length c, .slice E y.d.length ec, .slice H y.m.length hc] 31)) 31 #[.int .i64 0, .int .i64 0, .slice none 0 0, .slice none 0 0, .slice none 0 0, .slice none 0 0]
    simpa only [World.size_alloc] using this
  have sz : W.heap.size = w0.heap.size + 1 + 1 := by rw [hW]; simp
  have SZ := Lib.hid sz
  have HR := Lib.hid (RpR.next g0 hu')
  have HQR := Lib.hid (QvR.next g0 hqr)
  have HDR := Lib.hid (SlI.next g0 hdr)
  have HMR := Lib.hid (SlM.next g0 hmr)
  have c0 := k1.cell' (i := 0) rfl
  have c1 := k1.cell' (i := 1) rfl
  have c2 := k1.cell' (i := 2) rfl
  have c3 := k1.cell' (i := 3) rfl
  have c4 := k1.cell' (i := 4) rfl
  have c5 := k1.cell' (i := 5) rfl
  clear hu' sz hqr hdr hmr
  go_enter Try.func23, Try.ntmps23
  go_wp2_with fail
  rw [← hW]; clear hW
  refine (specIncomingMatrix_any _ y v _ HR.out hv).mono ?_; rintro e w1 ⟨r1, rfl, hM, hb1⟩
  clear c0 c1 c2 c3 c4 c5
  rcases hok : inOk y v with _ | _
  · have hP : inP y v = (mx0, false) := by rw [inP, if_neg (by rw [hok]; decide)]
    have HE := Lib.hid (show rsP y v = (rp0, false) by rw [rsP, if_neg (by rw [hok]; decide)])
    rw [hP] at hM ⊢
    obtain ⟨MA, mc, em⟩ := hM.form
    simp only [mx0, List.length_nil] at em ⊢
    subst em
    obtain ⟨W2, hW2⟩ : ∃ u, w1.alloc (.cells #[.int .i64 0, .int .i64 0, .slice MA 0 mc] 84) = u := ⟨_, rfl⟩
    have ga : Below w1.heap.size w1 W2 := by rw [← hW2]; exact below_alloc _ _
    have gW := bthen hb1 ga
    have kz := k2.call gW
    have fr := kz.frozen
    have s0 := kz.cell' (i := 0) rfl
    have s1 := kz.cell' (i := 1) rfl
    have s2 := kz.cell' (i := 2) rfl
    have s3 := kz.cell' (i := 3) rfl
    have s4 := kz.cell' (i := 4) rfl
    have s5 := kz.cell' (i := 5) rfl
    have gf := g0.trans (gW.mono g0.size)
    have GF := Lib.hid gf
    clear kz gf gW hM hP hok hb1 ga k1 k2 g0
    go_wp2
    have gf := GF.out
    have hE := HE.out
    exact bodyPost_ret (v := .tuple #[.agg #[.int .i64 0, .int .i64 0, .slice none 0 0, .slice none 0 0, .slice none 0 0, .slice none 0 0], .bool false]) (by simp [results, go_sem, s0, s1, s2, s3, s4, s5]) rfl ⟨_, by rw [hE], by rw [hE]; exact (RepO.zero _ 0 0).rd, (((((gf.setCell (by simp) _).setCell (by simp) _).setCell (by simp) _).setCell (by simp) _).setCell (by simp) _).setCell (by simp) _⟩
  · obtain ⟨hy, hs⟩ : isRep y = true ∧ endV y.q.f y.q v = true := by simpa [inOk] using hok
    obtain ⟨n, D, env, hnl, hdn, hdA, hD4, hn5⟩ := vert_at hy hs
    subst env
    have hP := inP_yes hok hdA
    have hN := inS_le (v := n) (C := D) hy _ (Nat.le_refl _)
    have hqq : isQ y.q = true := (areDims_t.1 (isRep_t.1 hy).2.1).1
    have hn6 : y.q.f.length ≤ 6 := (isQ_t.1 hqq).2.2.1
    have hat := atN_in (C := D) hy hs _ (Nat.le_refl _)
    have hinF := inS_inF hy rfl hdn _ (Nat.le_refl _)
    have hfld := (isRep_t.1 hy).1
    have hIp : I64 y.p := by have := isFld_r hfld; simp only [I64]; omega
    have HE := Lib.hid (show rsP y n = rfP y n (ksL y n).length (gSink y n (ksL y n).length (ksF y n)) by rw [rsP, if_pos hok])
    have hks : ksL y n = kerR y.p D (inS y n D y.q.f.length).1 (inS y n D y.q.f.length).2 := by rw [ksL, hdA, Int.toNat_natCast]
    rw [hP] at hM ⊢
    simp only [inM] at hM
    obtain ⟨N, hNN⟩ : ∃ N, (inS y n D y.q.f.length).1 = N := ⟨_, rfl⟩
    obtain ⟨F0, hF0⟩ : ∃ F0, (inS y n D y.q.f.length).2 = F0 := ⟨_, rfl⟩
    rw [hNN, hF0] at hM hks hinF
    rw [hNN] at hat hN
    have hkr := kerR_rows y.p D N F0
    have hkl := kerR_len y.p D N F0
    rw [← hks] at hkr hkl
    obtain ⟨F, hF⟩ : ∃ F, ksF y n = F := ⟨_, rfl⟩
    obtain ⟨K, hK⟩ : ∃ K, (ksL y n).length = K := ⟨_, rfl⟩
    rw [hK, hF] at HE
    rw [hK] at hkr hkl
    have hkr2 : ksL y n = rowsF K N F := by rw [← hF]; exact hkr
    have HKR := Lib.hid hkr2
    have HKS := Lib.hid hks
    have HY := Lib.hid hy
    have HS := Lib.hid hs
    have HIN := Lib.hid hinF
    have HFL := Lib.hid hfld
    have HAT := Lib.hid hat
    have HQQ := Lib.hid hqq
    have HDN := Lib.hid hdn
    have HML2 := Lib.hid (isRep_t.1 hy).2.2.1
    clear hok hP hNN hF0 hkr hkr2 hF hks hy hs hinF hfld hat hK hdA hdn hqq
    obtain ⟨MA, mc, em⟩ := hM.form
    simp only [mxF] at em hM
    rw [flat_length] at em
    subst em
    obtain ⟨ML, hML⟩ : ∃ z, D * N = z := ⟨_, rfl⟩
    rw [hML] at hM ⊢
    have HML := Lib.hid hML
    clear hML
    obtain ⟨W2, hW2⟩ : ∃ u, w1.alloc (.cells #[.int .i64 D, .int .i64 N, .slice MA ML mc] 84) = u := ⟨_, rfl⟩
    have ga : Below w1.heap.size w1 W2 := by rw [← hW2]; exact below_alloc _ _
    have kM : Blk W2 w1.heap.size 84 #[.int .i64 D, .int .i64 N, .slice MA ML mc] := by rw [← hW2]; exact Blk.new _ _ _
    have gW := bthen hb1 ga
    have k12 := k1.call gW
    have c1 := k12.cell' (i := 1) rfl
    have c2 := k12.cell' (i := 2) rfl
    have c3 := k12.cell' (i := 3) rfl
    have HM := Lib.hid (hM.below ga).rd
    have GW := Lib.hid gW
    clear hM hb1 ga gW k12
    go_wp2_with fail
    clear hW2
    refine (specReverseAt_any _ y.q n _ (QvR.next GW.out HQR.out) HQQ.out (.inr HS.out)).mono ?_; rintro e w3 ⟨v3, rfl, hQ3, hb3⟩
    obtain ⟨QA, qa, QB, qb, ev⟩ := hQ3.form
    obtain ⟨l1, l2, l3⟩ := rvQ_len y.q n
    rw [l1, l2, l3] at ev
    subst ev
    obtain ⟨W4, hW4⟩ : ∃ u, w3.alloc (.cells #[.int .i64 y.q.v, .slice QA y.q.f.length qa, .slice QB y.q.f.length qb] 28) = u := ⟨_, rfl⟩
    have ga : Below w3.heap.size w3 W4 := by rw [← hW4]; exact below_alloc _ _
    have kq : Blk W4 w3.heap.size 28 #[.int .i64 y.q.v, .slice QA y.q.f.length qa, .slice QB y.q.f.length qb] := by rw [← hW4]; exact Blk.new _ _ _
    have g34 := bthen hb3 ga
    have G4 := Lib.hid (GW.out.trans (g34.mono GW.out.size))
    have HQ4 := Lib.hid (hQ3.below ga).rd
    have HM4 := Lib.hid (MxR.next g34 HM.out)
    have kM4 := kM.call g34
    have k14 := k1.call G4.out
    clear c1 c2 c3 l1 l2 l3 hQ3 hb3 ga g34 kM
    have c0 := k14.cell' (i := 0) rfl
    have m0 := kM4.cell' (i := 0) rfl
    have m1 := kM4.cell' (i := 1) rfl
    have m2 := kM4.cell' (i := 2) rfl
    go_wp2_with fail
    clear hW4
    refine (l4Kernel_any y.p _ D N F0 _ HFL.out (by omega) (by omega) HM4.out HIN.out).mono ?_; rintro e w5 ⟨v5, rfl, hK5, hb5⟩
    rw [← HKS.out, HKR.out] at hK5
    obtain ⟨KA, kc, ev, _⟩ := hK5.form2
    rw [rowsF_length] at ev
    subst ev
    have G5 := Lib.hid (G4.out.trans (hb5.mono G4.out.size))
    have HK5 := Lib.hid hK5.rd
    have HQ5 := Lib.hid (QvR.next hb5 HQ4.out)
    have kq5 := kq.call hb5
    have k15 := k1.call G5.out
    clear c0 m0 m1 m2 hK5 hb5 kq k14 kM4
    obtain ⟨X, hX⟩ : ∃ z, w5.alloc (.cells #[] 3) = z := ⟨_, rfl⟩
    have bX : Below w5.heap.size w5 X := by rw [← hX]; exact below_alloc _ _
    have kX : Blk X w5.heap.size 3 #[] := by rw [← hX]; exact Blk.new _ _ _
    have HDX := Lib.hid (SlI.next (bthen G5.out bX) HDR.out)
    have c4 := (k15.call bX).cell' (i := 4) rfl
    obtain ⟨gx, hgx⟩ : ∃ z, w5.heap.size = z := ⟨_, rfl⟩
    rw [hgx] at kX
    (go_wp2_with (at_builtin; refine Hold.stop ?_)); unfold Hold
    clear hX
    refine wpList_append_fresh (by rfl) (.tmp 37) (.tmp 39) (by rfl) gx gx X.heap.size #[] (by rfl) kX rfl (Nat.le_refl _) E ec y.d (by rfl) HDX.out ?_
    intro v6 w6 ho6 hb6
    obtain ⟨DA, dc, ev, hdc1, hdc2⟩ := ho6.form
    subst ev
    obtain ⟨gd, hgd⟩ : ∃ gd, DA = some ⟨gd, 0, none⟩ := by
      obtain ⟨g, k, e, _⟩ := (IntsO.of_own ho6).at_ (by omega)
      simp only [Value.slice.injEq, true_and] at e
      exact ⟨g, e.1⟩
    subst hgd
    have dcell := (ho6.cellG (j := n) hnl).1
    have dfr := ho6.frozenG n
    have dput := (ho6.put (j := n) (x := (K : Int)) (by unfold I64; omega)).1
    have hgdl := ho6.lt gd rfl
    obtain ⟨W7, hW7⟩ : ∃ z, w6.setCell ⟨gd, n, none⟩ (.int .i64 K) = z := ⟨_, rfl⟩
    rw [hW7] at dput
    have hc7 : Chg gd (gd + 1) w6 W7 := by rw [← hW7]; exact chg_set1 _ _ _ _
    have b57 : Below w5.heap.size w5 W7 := (bX.trans (hb6.mono bX.size)).trans (hc7.below (by omega) (by have := bX.size; have := hb6.size; omega))
    have G7 := Lib.hid (G5.out.trans (b57.mono G5.out.size))
    have kq7 := kq5.call b57
    have HQ7 := Lib.hid (QvR.next b57 HQ5.out)
    have HK7 := Lib.hid (SlII.next b57 HK5.out)
    have HD7 : Hid (SlI W7 W7.heap.size (.slice (some ⟨gd, 0, none⟩) y.d.length dc) (rsD y n K)) := by
      have := dput.rd
      show SlI _ _ _ (y.d.set (n : Int).toNat K)
      rw [Int.toNat_natCast]
      exact this
    clear ho6 dput hc7 b57 bX kX hb6 kq5 k15 c4
    have q0 := kq7.cell' (i := 0) rfl
    have q1 := kq7.cell' (i := 1) rfl
    have q2 := kq7.cell' (i := 2) rfl
    go_wp2_with fail
    clear hW7 dcell dfr hgx
    refine (specAreDims_any _ _ (rvQ y.q n) (rsD y n K) _ HQ7.out HD7.out).mono ?_; rintro e w8 ⟨rfl, hb8⟩
    have G8 := Lib.hid (G7.out.trans (hb8.mono G7.out.size))
    rcases hA : areDims (rvQ y.q n) (rsD y n K) with _ | _
    · have HE2 := Lib.hid (HE.out.trans (rfP_no (G := gSink y n K F) hA))
      have kz := k2.call G8.out
      have fr := kz.frozen
      have s0 := kz.cell' (i := 0) rfl
      have s1' := kz.cell' (i := 1) rfl
      have s2' := kz.cell' (i := 2) rfl
      have s3' := kz.cell' (i := 3) rfl
      have s4' := kz.cell' (i := 4) rfl
      have s5' := kz.cell' (i := 5) rfl
      have gf := g0.trans (G8.out.mono g0.size)
      have GF := Lib.hid gf
      clear kz gf hA hb8 q0 q1 q2
      go_wp2
      have gf := GF.out
      have hE := HE2.out
      exact bodyPost_ret (v := .tuple #[.agg #[.int .i64 0, .int .i64 0, .slice none 0 0, .slice none 0 0, .slice none 0 0, .slice none 0 0], .bool false]) (by simp [results, go_sem, s0, s1', s2', s3', s4', s5']) rfl ⟨_, by rw [hE], by rw [hE]; exact (RepO.zero _ 0 0).rd, (((((gf.setCell (by simp) _).setCell (by simp) _).setCell (by simp) _).setCell (by simp) _).setCell (by simp) _).setCell (by simp) _⟩
    · have HE2 := Lib.hid (HE.out.trans (rfP_yes (G := gSink y n K F) hA))
      have HA := Lib.hid hA
      have k18 := k1.call G8.out
      have kq8 := kq7.call hb8
      have HQ8 := Lib.hid (QvR.next hb8 HQ7.out)
      have HD8 := Lib.hid (SlI.next hb8 HD7.out)
      have HK8 := Lib.hid (SlII.next hb8 HK7.out)
      clear hA q0 q1 q2 kq7 hb8
      have c0 := k18.cell' (i := 0) rfl
      have q0 := kq8.cell' (i := 0) rfl
      have q1 := kq8.cell' (i := 1) rfl
      have q2 := kq8.cell' (i := 2) rfl
      go_wp2_with fail
      refine (l8Zero_any y.p _ _ (rvQ y.q n) (rsD y n K) _ hIp HQ8.out HD8.out HA.out).mono ?_; rintro e w9 ⟨v9, rfl, hO9, hb9⟩
      obtain ⟨QA2, qa2, QB2, qb2, DA2, dc2, HM, hm, ev⟩ := hO9.rd.form
      have e1 : (zRep y.p (rvQ y.q n) (rsD y n K)).q.f.length = y.q.f.length := rowF_length _ _
      have e2 : (zRep y.p (rvQ y.q n) (rsD y n K)).q.t.length = y.q.f.length := rowF_length _ _
      have e3 : (zRep y.p (rvQ y.q n) (rsD y n K)).d.length = y.d.length := by simp [zRep, rsD]
      have e4 : (zRep y.p (rvQ y.q n) (rsD y n K)).m.length = y.q.f.length := by rw [zRep, zms_F, msF_length]; exact e1
      have e5 : (zRep y.p (rvQ y.q n) (rsD y n K)).q.v = y.q.v := rfl
      have e6 : (zRep y.p (rvQ y.q n) (rsD y n K)).p = y.p := rfl
      rw [e1, e2, e3, e4, e5, e6] at ev
      subst ev
      have hO9' : RepI w9 w8.heap.size w9.heap.size (.agg #[.int .i64 y.p, .int .i64 y.q.v, .slice QA2 y.q.f.length qa2, .slice QB2 y.q.f.length qb2, .slice DA2 y.d.length dc2, .slice HM y.q.f.length hm]) ⟨y.p, rvQ y.q n, rsD y n K, msF y.q.f.length (rsM y n K F 0)⟩ := by
        have hz : zRep y.p (rvQ y.q n) (rsD y n K) = ⟨y.p, rvQ y.q n, rsD y n K, msF y.q.f.length (rsM y n K F 0)⟩ := by
          rw [zRep, zms_F, show (rvQ y.q (n : Int)).f.length = y.q.f.length from rowF_length _ _]
          congr 1
        rw [← hz]
        exact hO9
      obtain ⟨W10, hW10⟩ : ∃ z, w9.alloc (.cells #[.int .i64 y.p, .int .i64 y.q.v, .slice QA2 y.q.f.length qa2, .slice QB2 y.q.f.length qb2, .slice DA2 y.d.length dc2, .slice HM y.q.f.length hm] 31) = z := ⟨_, rfl⟩
      have ga : Below w9.heap.size w9 W10 := by rw [← hW10]; exact below_alloc _ _
      have kO : Blk W10 w9.heap.size 31 #[.int .i64 y.p, .int .i64 y.q.v, .slice QA2 y.q.f.length qa2, .slice QB2 y.q.f.length qb2, .slice DA2 y.d.length dc2, .slice HM y.q.f.length hm] := by rw [← hW10]; exact Blk.new _ _ _
      have lO := kO.lt
      have hO10 := (hO9'.below ga).wider (Nat.le_refl _) ga.size
      have hb810 := bthen hb9 ga
      have hHM : Hid (∀ (j : Nat) (m : Mx), j < y.q.f.length → ∃ gH, HM = some ⟨gH, 0, none⟩ ∧ gH < w9.heap.size) := fun j m hj => by
        obtain ⟨g, c', s', e, h1, h2, _⟩ := hO9'.mxAt (j := j) (List.getElem?_eq_getElem (by rw [msF_length]; exact hj))
        simp only [Value.slice.injEq, true_and] at e
        exact ⟨g, e.1, h2⟩
      have s9 := hb9.size
      clear e1 e2 e3 e4 e5 e6 hO9 hO9' hb9 ga c0 q0 q1 q2 k18 kq8
      go_wp2
      clear hW10
      go_loopw [13, 14] (fun av i wr => ∃ k : Nat, k ≤ y.q.f.length ∧ i = .int .i64 k ∧ av = .int .i64 (atN y n k) ∧ Below w8.heap.size w8 wr ∧ Blk wr w9.heap.size 31 #[.int .i64 y.p, .int .i64 y.q.v, .slice QA2 y.q.f.length qa2, .slice QB2 y.q.f.length qb2, .slice DA2 y.d.length dc2, .slice HM y.q.f.length hm] ∧ RepI wr w8.heap.size wr.heap.size (.agg #[.int .i64 y.p, .int .i64 y.q.v, .slice QA2 y.q.f.length qa2, .slice QB2 y.q.f.length qb2, .slice DA2 y.d.length dc2, .slice HM y.q.f.length hm]) ⟨y.p, rvQ y.q n, rsD y n K, msF y.q.f.length (rsM y n K F k)⟩ ∧ w9.heap.size < wr.heap.size) (fun _ i _ => y.q.f.length - (intOf i).toNat)
      case atStart => exact ⟨0, Nat.zero_le _, rfl, rfl, hb810, kO, hO10, lO⟩
      case round =>
        clear hb810 kO hO10 lO
        obtain ⟨k, hk, rfl, rfl, hb, hB, hO, hlO⟩ := hrel
        have gWr := G8.out.trans (hb.mono G8.out.size)
        have gws := gWr.size
        have hbs := hb.size
        have kr := k1.call gWr
        have c5 := kr.cell' (i := 5) rfl
        have hml : y.m.length ≤ y.q.f.length := Nat.le_of_eq HML2.out
        have hml2 : y.q.f.length ≤ y.m.length := Nat.le_of_eq HML2.out.symm
        by_cases hkn : k < y.q.f.length
        · obtain ⟨m, nf, nt, yf, yt, em, ef, et, df, dt, eM, _, b1, b2, b3, b4, hfd, htd, b8, b9⟩ := isRep_at HY.out hkn
          obtain ⟨bt, ot, xt, eC, hbt, HXT, t1, _⟩ := SlI.at_ (QvR.sl HQR.out).2 b8
          subst eC
          have q2 := HXT.out
          rw [et] at q2
          injection q2 with q2
          subst q2
          obtain ⟨bm, om, m', MB, mb, eH, hbm, HXM, x0, x1, x2, hsl, hr1, hr2, _⟩ := SlM.at_ HMR.out b9
          subst eH
          have q3 := HXM.out
          rw [em] at q3
          injection q3 with q3
          subst q3
          have hMR : MxR W W.heap.size (.agg #[.int .i64 m.r, .int .i64 m.c, .slice MB m.a.length mb]) m := ⟨_, rfl, hsl, hr1, hr2⟩
          have hmc : m.c = (yf : Int) := by rw [eM]; rfl
          rw [hmc] at x1
          have t1' := bcell gWr hbt t1
          have c3 := kr.cell' (i := 3) rfl
          obtain ⟨gH, eHM, hgHl⟩ := hHM.out k m hkn
          subst eHM
          have HTC := Lib.hid (tch_of (v := (n : Int)) ef et)
          have hne : nf ≠ n := by
            rintro rfl
            exact (endV_not HS.out).1 (List.mem_of_getElem? ef)
          obtain ⟨o1, o2⟩ := oth_at (v := (n : Int)) ef et df dt
          by_cases hnt : (nt : Int) = n
          · have hd : ((nt : Int) != (n : Int)) = false := by rw [bne_eq_false_iff_eq]; exact hnt
            have htc : tch y.q n k = true := by rw [HTC.out, hnt]; simp
            have hoth : othN y n k = yf := o1 hnt
            have hzm : zmAt (rvQ y.q n) (rsD y n K) k = mxF (othN y n k) K fun _ _ => 0 := by
              rw [hoth]
              exact zm_sink hkn ef (by rw [hnt] at et; exact et) df hne hnl
            have hA1 : atN y n (k + 1) = atN y n k + yf := by rw [atN, if_pos htc, hoth]
            have hfit := atN_fit htc hkn
            rw [HAT.out, hoth] at hfit
            have hI0 := rsI_0 (F := F) hzm
            have HEND := Lib.hid (rsI_end (K := K) (F := F) htc)
            have HOTH := Lib.hid hoth
            have HA1 := Lib.hid hA1
            obtain ⟨at_, hat_⟩ : ∃ z, atN y n k = z := ⟨_, rfl⟩
            rw [hat_] at hfit ⊢
            have HAT_ := Lib.hid hat_
            have X1 := Lib.hid x1
            rw [hI0] at hO
            have GWr := Lib.hid gWr
            have htn : (nt : Int) = n := hnt
            obtain ⟨wa, hwa⟩ : ∃ z, z = wr := ⟨_, rfl⟩
            subst hwa
            have HB := Lib.hid hB
            have HO := Lib.hid hO
            have HBB := Lib.hid hb
            clear hat_ hA1 htc hnt htn hMR hsl hr1 hr2 x0 x1 x2 em ef et df dt eM hB hO hb kr HTC HXT HXM o1 o2 hne hmc t1 gWr hI0 hzm hoth
            go_wp2
            clear c5 c3 t1'
            go_loopw [15] (fun i wr => ∃ ja : Nat, ja ≤ yf ∧ i = .int .i64 ja ∧ Below w8.heap.size w8 wr ∧ Blk wr w9.heap.size 31 #[.int .i64 y.p, .int .i64 y.q.v, .slice QA2 y.q.f.length qa2, .slice QB2 y.q.f.length qb2, .slice DA2 y.d.length dc2, .slice (some ⟨gH, 0, none⟩) y.q.f.length hm] ∧ RepI wr w8.heap.size wr.heap.size (.agg #[.int .i64 y.p, .int .i64 y.q.v, .slice QA2 y.q.f.length qa2, .slice QB2 y.q.f.length qb2, .slice DA2 y.d.length dc2, .slice (some ⟨gH, 0, none⟩) y.q.f.length hm]) ⟨y.p, rvQ y.q n, rsD y n K, msF y.q.f.length (rsI y n K F k ja 0)⟩ ∧ w9.heap.size < wr.heap.size) (fun i _ => yf - (intOf i).toNat)
            case atStart => exact ⟨0, Nat.zero_le _, rfl, HBB.out, HB.out, HO.out, hlO⟩
            case round =>
              clear HBB HB HO
              obtain ⟨ja, hja, rfl, hb, hB, hO, hl2⟩ := hrel
              have gWr := G8.out.trans (hb.mono G8.out.size)
              have kr := k1.call gWr
              have c5 := kr.cell' (i := 5) rfl
              have x1 := bcell gWr hbm X1.out
              have hbs2 := hb.size
              by_cases hjl : ja < yf
              · have HB := Lib.hid hB
                have HO := Lib.hid hO
                have HBB := Lib.hid hb
                have HJL := Lib.hid hjl
                clear hB hO hb kr gWr
                obtain ⟨wb, hwb⟩ : ∃ z, z = wr := ⟨_, rfl⟩
                subst hwb
                go_wp2
                clear c5 x1
                go_loopw [16] (fun i wr => ∃ jb : Nat, jb ≤ K ∧ i = .int .i64 jb ∧ Below w8.heap.size w8 wr ∧ Blk wr w9.heap.size 31 #[.int .i64 y.p, .int .i64 y.q.v, .slice QA2 y.q.f.length qa2, .slice QB2 y.q.f.length qb2, .slice DA2 y.d.length dc2, .slice (some ⟨gH, 0, none⟩) y.q.f.length hm] ∧ RepI wr w8.heap.size wr.heap.size (.agg #[.int .i64 y.p, .int .i64 y.q.v, .slice QA2 y.q.f.length qa2, .slice QB2 y.q.f.length qb2, .slice DA2 y.d.length dc2, .slice (some ⟨gH, 0, none⟩) y.q.f.length hm]) ⟨y.p, rvQ y.q n, rsD y n K, msF y.q.f.length (rsI y n K F k ja jb)⟩ ∧ w9.heap.size < wr.heap.size) (fun i _ => K - (intOf i).toNat)
                case atStart => exact ⟨0, Nat.zero_le _, rfl, HBB.out, HB.out, HO.out, hl2⟩
                case round =>
                  clear HBB HB HO
                  obtain ⟨jb, hjb, rfl, hb, hB, hO, hl3⟩ := hrel
                  have hbs3 := hb.size
                  by_cases hjk : jb < K
                  · have hKKl : (rowsF K N F).length = K := rowsF_length _ _ _
                    have hKs := HK8.out
                    obtain ⟨bb, oo, lr, A', c', eK, hbb, HXL, r1, hrow⟩ := SlII.at_ (k := jb) (xs := rowsF K N F) (by rw [hKKl]; exact hKs) (by rw [hKKl]; exact hjk)
                    subst eK
                    have hlr := HXL.out
                    rw [rowsF_get _ hjk] at hlr
                    injection hlr with hlr
                    subst hlr
                    rw [rowF_length] at r1 hrow
                    obtain ⟨br, ob, xv, eR, hbr, HXV, v1, hx1, hx2⟩ := SlI.atM (k := at_ + ja) hrow (rowF_length _ _) (by omega)
                    subst eR
                    have hxv := HXV.out
                    rw [rowF_get _ (show at_ + ja < N by omega)] at hxv
                    injection hxv with hxv
                    have hyl := rsI_at y n K k F ja jb hkn
                    rw [HOTH.out] at hyl
                    obtain ⟨P, hP⟩ : ∃ P, P = ja * K := ⟨_, rfl⟩
                    obtain ⟨p1, p2, p3⟩ := ix_pk hjl hjk b1 (by omega) hP
                    obtain ⟨Lk, hLk⟩ : ∃ z, yf * K = z := ⟨_, rfl⟩
                    rw [hLk] at p2 p3
                    have hput := hO.putMx (i := P + jb) (z := xv) hyl (by simp only [mxF]; rw [flat_length, hLk]; exact p2) ⟨hx1, hx2⟩
                    simp only [mxF] at hput
                    rw [flat_length, hLk] at hput
                    obtain ⟨g, cg, gr, cr, eg, z1, z2, ⟨u0, z3⟩, z4, ⟨cg1, cg2⟩, ⟨cr1, cr2⟩, ⟨hgr1, hgr2⟩, hapart, _⟩ := hput
                    simp only [Value.slice.injEq, Option.some.injEq, Addr.mk.injEq, and_true, true_and, msF_length] at eg cg1
                    obtain ⟨eg1, eg2⟩ := eg
                    subst eg1
                    subst eg2
                    have HPUT := Lib.hid (fun (w : World) (h : RepI w w8.heap.size w.heap.size (.agg #[.int .i64 y.p, .int .i64 y.q.v, .slice QA2 y.q.f.length qa2, .slice QB2 y.q.f.length qb2, .slice DA2 y.d.length dc2, .slice (some ⟨gH, 0, none⟩) y.q.f.length hm]) ⟨y.p, rvQ y.q n, rsD y n K, msF y.q.f.length (rsI y n K F k ja jb)⟩) => RepI.putMx (i := P + jb) (z := xv) h hyl (by simp only [mxF]; rw [flat_length, hLk]; exact p2) ⟨hx1, hx2⟩)
                    have hst := rsI_put (x := y) (v := (n : Int)) (K := K) (k := k) (F := F) (a := ja) (b := jb) (by rw [HOTH.out]; exact hjl) hjk
                    have hxv2 : F jb (atN y n k + ja) = xv := by rw [HAT_.out]; exact hxv
                    rw [HOTH.out, hxv2, ← hP] at hst
                    have HST := Lib.hid hst
                    have hgo := hapart _ _ _ hB (by decide)
                    have HP1 := Lib.hid p1
                    have Z2 := Lib.hid z2
                    have V1 := Lib.hid v1
                    have R1 := Lib.hid r1
                    have HBr := Lib.hid hB
                    have HOr := Lib.hid hO
                    have HBBr := Lib.hid hb
                    have hgHw : gH < wr.heap.size := by omega
                    have hLKe := Lib.hid hLk
                    obtain ⟨wc, hwc⟩ : ∃ z, z = wr := ⟨_, rfl⟩
                    subst hwc
                    clear hKs hKKl hrow HXL HXV hxv hxv2 hyl hLk hst hB hO hb z1 z2 z3 z4 v1 r1 hapart p1 hP
                    go_wp2
                    refine wp_region_net (by kernel_rfl) [.eq (.pointer (some ⟨w9.heap.size, 5, none⟩)), .eq (.slice (some ⟨gH, 0, none⟩) y.q.f.length hm), .eq (.int .i64 k), .eq (.pointer (some ⟨gH, k * 3, none⟩)), .eq (.pointer (some ⟨gH, k * 3 + 2, none⟩)), .eq (.slice (some ⟨gr, 0, none⟩) Lk cr), .eq (.int .i64 ja), .eq (.slice (some ⟨bb, oo, none⟩) K kc), .eq (.int .i64 K), .eq (.int .i64 P), .eq (.int .i64 jb), .eq (.int .i64 ((P : Int) + jb)), .eq (.slice (some ⟨bb, oo, none⟩) K kc), .eq (.int .i64 jb), .eq (.pointer (some ⟨bb, oo + jb, none⟩)), .eq (.slice (some ⟨br, ob, none⟩) N c'), .eq (.int .i64 at_), .eq (.int .i64 ja), .eq (.int .i64 ((at_ : Int) + ja)), .eq (.pointer (some ⟨br, ob + (at_ + ja), none⟩)), .eq (.int .i64 xv), .eq (.pointer (some ⟨gr, P + jb, none⟩))] [[], [0], [], [0, 1, 2], [0, 1, 2, 3], [0, 1, 2, 3, 4], [], [], [7], [6, 7, 8], [], [6, 7, 8, 9, 10], [], [], [12, 13], [12, 13, 14], [], [], [16, 17], [12, 13, 14, 15, 16, 17, 18], [12, 13, 14, 15, 16, 17, 18, 19], [0, 1, 2, 3, 4, 5, 6, 7, 8, 9, 10, 11, 12, 13, 14, 15, 16, 17, 18, 19, 20], [0, 1, 2, 3, 4, 5, 6, 7, 8, 9, 10, 11, 12, 13, 14, 15, 16, 17, 18, 19, 20, 21]] 22 (by kernel_rfl) ⟨trivial, trivial, trivial, trivial, trivial, trivial, trivial, trivial, trivial, trivial, trivial, trivial, trivial, trivial, trivial, trivial, trivial, trivial, trivial, trivial, trivial, trivial, trivial⟩ ⟨?_, ?_, ?_, ?_, ?_, ?_, ?_, ?_, ?_, ?_, ?_, ?_, ?_, ?_, ?_, ?_, ?_, ?_, ?_, ?_, ?_, ?_, trivial⟩ ?_
                    · intro x w hb hk Q' hQ
                      clear hk
                      simp only [netAct, dstAt, List.getElem?_toArray, List.getElem?_cons_zero, List.getElem?_cons_succ, Option.bind_some, Act.put, List.setIfInBounds_toArray, List.set_cons_zero, List.set_cons_succ] at hQ ⊢
                      go_wp2
                      exact hQ (.pointer (some ⟨w9.heap.size, 5, none⟩)) _ (Below.refl _ _) rfl
                    · intro x w hb hk Q' hQ
                      have h0 : x.v 0 = .pointer (some ⟨w9.heap.size, 5, none⟩) := (hk 0 (by decide)).1
                      clear hk
                      simp only [netAct, dstAt, List.getElem?_toArray, List.getElem?_cons_zero, List.getElem?_cons_succ, Option.bind_some, Act.put, List.setIfInBounds_toArray, List.set_cons_zero, List.set_cons_succ] at hQ ⊢
                      simp only [h0] at hQ ⊢
                      clear h0
                      have z := (HBr.out.call hb).cell' (i := 5) rfl
                      go_wp2
                      exact hQ (.slice (some ⟨gH, 0, none⟩) y.q.f.length hm) _ (Below.refl _ _) rfl
                    · intro x w hb hk Q' hQ
                      clear hk
                      simp only [netAct, dstAt, List.getElem?_toArray, List.getElem?_cons_zero, List.getElem?_cons_succ, Option.bind_some, Act.put, List.setIfInBounds_toArray, List.set_cons_zero, List.set_cons_succ] at hQ ⊢
                      go_wp2
                      exact hQ (.int .i64 k) _ (Below.refl _ _) rfl
                    · intro x w hb hk Q' hQ
                      have h1 : x.v 1 = .slice (some ⟨gH, 0, none⟩) y.q.f.length hm := (hk 1 (by decide)).1
                      have h2 : x.v 2 = .int .i64 k := (hk 2 (by decide)).1
                      clear hk
                      simp only [netAct, dstAt, List.getElem?_toArray, List.getElem?_cons_zero, List.getElem?_cons_succ, Option.bind_some, Act.put, List.setIfInBounds_toArray, List.set_cons_zero, List.set_cons_succ] at hQ ⊢
                      simp only [h1, h2] at hQ ⊢
                      clear h1 h2
                      go_wp2
                      exact hQ (.pointer (some ⟨gH, k * 3, none⟩)) _ (Below.refl _ _) rfl
                    · intro x w hb hk Q' hQ
                      have h3 : x.v 3 = .pointer (some ⟨gH, k * 3, none⟩) := (hk 3 (by decide)).1
                      clear hk
                      simp only [netAct, dstAt, List.getElem?_toArray, List.getElem?_cons_zero, List.getElem?_cons_succ, Option.bind_some, Act.put, List.setIfInBounds_toArray, List.set_cons_zero, List.set_cons_succ] at hQ ⊢
                      simp only [h3] at hQ ⊢
                      clear h3
                      go_wp2
                      exact hQ (.pointer (some ⟨gH, k * 3 + 2, none⟩)) _ (Below.refl _ _) rfl
                    · intro x w hb hk Q' hQ
                      have h4 : x.v 4 = .pointer (some ⟨gH, k * 3 + 2, none⟩) := (hk 4 (by decide)).1
                      clear hk
                      simp only [netAct, dstAt, List.getElem?_toArray, List.getElem?_cons_zero, List.getElem?_cons_succ, Option.bind_some, Act.put, List.setIfInBounds_toArray, List.set_cons_zero, List.set_cons_succ] at hQ ⊢
                      simp only [h4] at hQ ⊢
                      clear h4
                      have z := bcell hb hgHw Z2.out
                      go_wp2
                      exact hQ (.slice (some ⟨gr, 0, none⟩) Lk cr) _ (Below.refl _ _) rfl
                    · intro x w hb hk Q' hQ
                      clear hk
                      simp only [netAct, dstAt, List.getElem?_toArray, List.getElem?_cons_zero, List.getElem?_cons_succ, Option.bind_some, Act.put, List.setIfInBounds_toArray, List.set_cons_zero, List.set_cons_succ] at hQ ⊢
                      go_wp2
                      exact hQ (.int .i64 ja) _ (Below.refl _ _) rfl
                    · intro x w hb hk Q' hQ
                      clear hk
                      simp only [netAct, dstAt, List.getElem?_toArray, List.getElem?_cons_zero, List.getElem?_cons_succ, Option.bind_some, Act.put, List.setIfInBounds_toArray, List.set_cons_zero, List.set_cons_succ] at hQ ⊢
                      go_wp2
                      exact hQ (.slice (some ⟨bb, oo, none⟩) K kc) _ (Below.refl _ _) rfl
                    · intro x w hb hk Q' hQ
                      have h7 : x.v 7 = .slice (some ⟨bb, oo, none⟩) K kc := (hk 7 (by decide)).1
                      clear hk
                      simp only [netAct, dstAt, List.getElem?_toArray, List.getElem?_cons_zero, List.getElem?_cons_succ, Option.bind_some, Act.put, List.setIfInBounds_toArray, List.set_cons_zero, List.set_cons_succ] at hQ ⊢
                      simp only [h7] at hQ ⊢
                      clear h7
                      go_wp2
                      exact hQ (.int .i64 K) _ (Below.refl _ _) rfl
                    · intro x w hb hk Q' hQ
                      have h6 : x.v 6 = .int .i64 ja := (hk 6 (by decide)).1
                      have h8 : x.v 8 = .int .i64 K := (hk 8 (by decide)).1
                      clear hk
                      simp only [netAct, dstAt, List.getElem?_toArray, List.getElem?_cons_zero, List.getElem?_cons_succ, Option.bind_some, Act.put, List.setIfInBounds_toArray, List.set_cons_zero, List.set_cons_succ] at hQ ⊢
                      simp only [h6, h8] at hQ ⊢
                      clear h6 h8
                      go_wp2
                      rw [HP1.out]
                      exact hQ (.int .i64 P) _ (Below.refl _ _) rfl
                    · intro x w hb hk Q' hQ
                      clear hk
                      simp only [netAct, dstAt, List.getElem?_toArray, List.getElem?_cons_zero, List.getElem?_cons_succ, Option.bind_some, Act.put, List.setIfInBounds_toArray, List.set_cons_zero, List.set_cons_succ] at hQ ⊢
                      go_wp2
                      exact hQ (.int .i64 jb) _ (Below.refl _ _) rfl
                    · intro x w hb hk Q' hQ
                      have h9 : x.v 9 = .int .i64 P := (hk 9 (by decide)).1
                      have h10 : x.v 10 = .int .i64 jb := (hk 10 (by decide)).1
                      clear hk
                      simp only [netAct, dstAt, List.getElem?_toArray, List.getElem?_cons_zero, List.getElem?_cons_succ, Option.bind_some, Act.put, List.setIfInBounds_toArray, List.set_cons_zero, List.set_cons_succ] at hQ ⊢
                      simp only [h9, h10] at hQ ⊢
                      clear h9 h10
                      go_wp2
                      exact hQ (.int .i64 ((P : Int) + jb)) _ (Below.refl _ _) rfl
                    · intro x w hb hk Q' hQ
                      clear hk
                      simp only [netAct, dstAt, List.getElem?_toArray, List.getElem?_cons_zero, List.getElem?_cons_succ, Option.bind_some, Act.put, List.setIfInBounds_toArray, List.set_cons_zero, List.set_cons_succ] at hQ ⊢
                      go_wp2
                      exact hQ (.slice (some ⟨bb, oo, none⟩) K kc) _ (Below.refl _ _) rfl
                    · intro x w hb hk Q' hQ
                      clear hk
                      simp only [netAct, dstAt, List.getElem?_toArray, List.getElem?_cons_zero, List.getElem?_cons_succ, Option.bind_some, Act.put, List.setIfInBounds_toArray, List.set_cons_zero, List.set_cons_succ] at hQ ⊢
                      go_wp2
                      exact hQ (.int .i64 jb) _ (Below.refl _ _) rfl
                    · intro x w hb hk Q' hQ
                      have h12 : x.v 12 = .slice (some ⟨bb, oo, none⟩) K kc := (hk 12 (by decide)).1
                      have h13 : x.v 13 = .int .i64 jb := (hk 13 (by decide)).1
                      clear hk
                      simp only [netAct, dstAt, List.getElem?_toArray, List.getElem?_cons_zero, List.getElem?_cons_succ, Option.bind_some, Act.put, List.setIfInBounds_toArray, List.set_cons_zero, List.set_cons_succ] at hQ ⊢
                      simp only [h12, h13] at hQ ⊢
                      clear h12 h13
                      go_wp2
                      exact hQ (.pointer (some ⟨bb, oo + jb, none⟩)) _ (Below.refl _ _) rfl
                    · intro x w hb hk Q' hQ
                      have h14 : x.v 14 = .pointer (some ⟨bb, oo + jb, none⟩) := (hk 14 (by decide)).1
                      clear hk
                      simp only [netAct, dstAt, List.getElem?_toArray, List.getElem?_cons_zero, List.getElem?_cons_succ, Option.bind_some, Act.put, List.setIfInBounds_toArray, List.set_cons_zero, List.set_cons_succ] at hQ ⊢
                      simp only [h14] at hQ ⊢
                      clear h14
                      have z := bcell (HBBr.out.trans (hb.mono hbs3)) hbb R1.out
                      go_wp2
                      exact hQ (.slice (some ⟨br, ob, none⟩) N c') _ (Below.refl _ _) rfl
                    · intro x w hb hk Q' hQ
                      clear hk
                      simp only [netAct, dstAt, List.getElem?_toArray, List.getElem?_cons_zero, List.getElem?_cons_succ, Option.bind_some, Act.put, List.setIfInBounds_toArray, List.set_cons_zero, List.set_cons_succ] at hQ ⊢
                      go_wp2
                      exact hQ (.int .i64 at_) _ (Below.refl _ _) rfl
                    · intro x w hb hk Q' hQ
                      clear hk
                      simp only [netAct, dstAt, List.getElem?_toArray, List.getElem?_cons_zero, List.getElem?_cons_succ, Option.bind_some, Act.put, List.setIfInBounds_toArray, List.set_cons_zero, List.set_cons_succ] at hQ ⊢
                      go_wp2
                      exact hQ (.int .i64 ja) _ (Below.refl _ _) rfl
                    · intro x w hb hk Q' hQ
                      have h16 : x.v 16 = .int .i64 at_ := (hk 16 (by decide)).1
                      have h17 : x.v 17 = .int .i64 ja := (hk 17 (by decide)).1
                      clear hk
                      simp only [netAct, dstAt, List.getElem?_toArray, List.getElem?_cons_zero, List.getElem?_cons_succ, Option.bind_some, Act.put, List.setIfInBounds_toArray, List.set_cons_zero, List.set_cons_succ] at hQ ⊢
                      simp only [h16, h17] at hQ ⊢
                      clear h16 h17
                      go_wp2
                      exact hQ (.int .i64 ((at_ : Int) + ja)) _ (Below.refl _ _) rfl
                    · intro x w hb hk Q' hQ
                      have h15 : x.v 15 = .slice (some ⟨br, ob, none⟩) N c' := (hk 15 (by decide)).1
                      have h18 : x.v 18 = .int .i64 ((at_ : Int) + ja) := (hk 18 (by decide)).1
                      clear hk
                      simp only [netAct, dstAt, List.getElem?_toArray, List.getElem?_cons_zero, List.getElem?_cons_succ, Option.bind_some, Act.put, List.setIfInBounds_toArray, List.set_cons_zero, List.set_cons_succ] at hQ ⊢
                      simp only [h15, h18] at hQ ⊢
                      clear h15 h18
                      go_wp2
                      exact hQ (.pointer (some ⟨br, ob + (at_ + ja), none⟩)) _ (Below.refl _ _) rfl
                    · intro x w hb hk Q' hQ
                      have h19 : x.v 19 = .pointer (some ⟨br, ob + (at_ + ja), none⟩) := (hk 19 (by decide)).1
                      clear hk
                      simp only [netAct, dstAt, List.getElem?_toArray, List.getElem?_cons_zero, List.getElem?_cons_succ, Option.bind_some, Act.put, List.setIfInBounds_toArray, List.set_cons_zero, List.set_cons_succ] at hQ ⊢
                      simp only [h19] at hQ ⊢
                      clear h19
                      have z := bcell (HBBr.out.trans (hb.mono hbs3)) hbr V1.out
                      go_wp2
                      exact hQ (.int .i64 xv) _ (Below.refl _ _) rfl
                    · intro x w hb hk Q' hQ
                      have h5 : x.v 5 = .slice (some ⟨gr, 0, none⟩) Lk cr := (hk 5 (by decide)).1
                      have h11 : x.v 11 = .int .i64 ((P : Int) + jb) := (hk 11 (by decide)).1
                      clear hk
                      simp only [netAct, dstAt, List.getElem?_toArray, List.getElem?_cons_zero, List.getElem?_cons_succ, Option.bind_some, Act.put, List.setIfInBounds_toArray, List.set_cons_zero, List.set_cons_succ] at hQ ⊢
                      simp only [h5, h11] at hQ ⊢
                      clear h5 h11
                      go_wp2
                      exact hQ (.pointer (some ⟨gr, P + jb, none⟩)) _ (Below.refl _ _) rfl
                    · intro x w hb hk hiv hdj
                      have h0 : x.v 0 = .pointer (some ⟨w9.heap.size, 5, none⟩) := hk 0 (by decide)
                      have h1 : x.v 1 = .slice (some ⟨gH, 0, none⟩) y.q.f.length hm := hk 1 (by decide)
                      have h2 : x.v 2 = .int .i64 k := hk 2 (by decide)
                      have h3 : x.v 3 = .pointer (some ⟨gH, k * 3, none⟩) := hk 3 (by decide)
                      have h4 : x.v 4 = .pointer (some ⟨gH, k * 3 + 2, none⟩) := hk 4 (by decide)
                      have h5 : x.v 5 = .slice (some ⟨gr, 0, none⟩) Lk cr := hk 5 (by decide)
                      have h6 : x.v 6 = .int .i64 ja := hk 6 (by decide)
                      have h7 : x.v 7 = .slice (some ⟨bb, oo, none⟩) K kc := hk 7 (by decide)
                      have h8 : x.v 8 = .int .i64 K := hk 8 (by decide)
                      have h9 : x.v 9 = .int .i64 P := hk 9 (by decide)
                      have h10 : x.v 10 = .int .i64 jb := hk 10 (by decide)
                      have h11 : x.v 11 = .int .i64 ((P : Int) + jb) := hk 11 (by decide)
                      have h12 : x.v 12 = .slice (some ⟨bb, oo, none⟩) K kc := hk 12 (by decide)
                      have h13 : x.v 13 = .int .i64 jb := hk 13 (by decide)
                      have h14 : x.v 14 = .pointer (some ⟨bb, oo + jb, none⟩) := hk 14 (by decide)
                      have h15 : x.v 15 = .slice (some ⟨br, ob, none⟩) N c' := hk 15 (by decide)
                      have h16 : x.v 16 = .int .i64 at_ := hk 16 (by decide)
                      have h17 : x.v 17 = .int .i64 ja := hk 17 (by decide)
                      have h18 : x.v 18 = .int .i64 ((at_ : Int) + ja) := hk 18 (by decide)
                      have h19 : x.v 19 = .pointer (some ⟨br, ob + (at_ + ja), none⟩) := hk 19 (by decide)
                      have h20 : x.v 20 = .int .i64 xv := hk 20 (by decide)
                      have h21 : x.v 21 = .pointer (some ⟨gr, P + jb, none⟩) := hk 21 (by decide)
                      clear hk
                      simp only [netAct, dstAt, List.getElem?_toArray, List.getElem?_cons_zero, List.getElem?_cons_succ, Option.bind_some, Act.put, List.setIfInBounds_toArray, List.set_cons_zero, List.set_cons_succ]
                      simp only [List.drop_succ_cons, List.drop_zero, h0, h1, h2, h3, h4, h5, h6, h7, h8, h9, h10, h11, h12, h13, h14, h15, h16, h17, h18, h19, h20, h21]
                      clear h0 h1 h2 h3 h4 h5 h6 h7 h8 h9 h10 h11 h12 h13 h14 h15 h16 h17 h18 h19 h20 h21
                      have hOw := (HOr.out.below hb).wider (Nat.le_refl _) hb.size
                      have hput := HPUT.out w hOw
                      simp only [mxF] at hput
                      rw [flat_length, hLKe.out] at hput
                      obtain ⟨g, cg, gr2, cr2, eg, z1, z2, ⟨u0, z3⟩, z4, _, _, ⟨hg1, hg2⟩, _, hnew⟩ := hput
                      simp only [Value.slice.injEq, Option.some.injEq, Addr.mk.injEq, and_true, true_and, msF_length] at eg
                      obtain ⟨eg1, eg2⟩ := eg
                      subst eg1
                      subst eg2
                      have hz := bcell hb hgHw Z2.out
                      rw [z2] at hz
                      simp only [Option.some.injEq, Value.slice.injEq, Addr.mk.injEq, and_true, true_and] at hz
                      obtain ⟨hz1, hz2⟩ := hz
                      subst hz1
                      subst hz2
                      rw [HST.out] at hnew
                      obtain ⟨W14, hW14⟩ : ∃ u, w.setCell ⟨gr2, P + jb, none⟩ (.int .i64 xv) = u := ⟨_, rfl⟩
                      rw [hW14] at hnew
                      have hch3 : Chg gr2 (gr2 + 1) w W14 := by rw [← hW14]; exact chg_set1 _ _ _ _
                      have hs14 : W14.heap.size = w.heap.size := by rw [← hW14]; simp
                      have hbsw := hb.size
                      have HREP := Lib.hid (hnew.wider (Nat.le_refl _) (show w.heap.size ≤ W14.heap.size by omega))
                      have hB14 := Lib.hid ((HBr.out.call hb).chg hch3 (by omega))
                      have hb14 := Lib.hid ((HBBr.out.trans (hb.mono (by omega))).trans (hch3.below (B := w8.heap.size) hg1 (by omega)))
                      have hl14 : w9.heap.size < W14.heap.size := by omega
                      clear hnew hch3 hs14 hOw hiv hdj z1 z2
                      go_wp2
                      clear hW14 z3 z4
                      refine ⟨⟨jb + 1, by omega, by go_num, hb14.out, hB14.out, HREP.out, hl14⟩, ?_⟩
                      simp [intOf]; omega
                  · obtain rfl : jb = K := by omega
                    rw [rsI_next] at hO
                    have HB := Lib.hid hB
                    have HO := Lib.hid hO
                    have HBB := Lib.hid hb
                    have hjl := HJL.out
                    clear hB hO hb
                    go_wp2
                    go_roundw
                    case rel => exact ⟨ja + 1, by omega, by go_num, HBB.out, HB.out, HO.out, hl3⟩
                    case measure => simp [intOf]; omega
              · obtain rfl : ja = yf := by omega
                have hend := HEND.out
                rw [HOTH.out] at hend
                rw [hend] at hO
                have HB := Lib.hid hB
                have HO := Lib.hid hO
                have HBB := Lib.hid hb
                have hatb : at_ ≤ 24 := by omega
                clear hB hO hb hend kr gWr
                go_wp2
                refine ⟨⟨k + 1, by omega, by go_num, by rw [HA1.out, HAT_.out]; go_num, HBB.out, HB.out, HO.out, hl2⟩, ?_⟩
                simp [intOf]; omega
          · have hd : ((nt : Int) != (n : Int)) = true := by rw [bne_iff_ne]; exact hnt
            have htc : tch y.q n k = false := by rw [HTC.out]; simp; exact ⟨by omega, by omega⟩
            have hcp := rsM_copy (K := K) (F := F) htc em
            have hA1 : atN y n (k + 1) = atN y n k := by rw [atN, if_neg (by rw [htc]; decide)]
            have HCP := Lib.hid hcp
            have HA1 := Lib.hid hA1
            have HMRr := Lib.hid (MxR.next gWr hMR)
            have X0 := Lib.hid (bcell gWr hbm x0)
            have X1 := Lib.hid (bcell gWr hbm x1)
            have X2 := Lib.hid (bcell gWr hbm x2)
            have HMC := Lib.hid hmc
            have KR := Lib.hid kr
            have HB := Lib.hid hB
            have HO := Lib.hid hO
            have HBB := Lib.hid hb
            obtain ⟨at_, hat_⟩ : ∃ z, atN y n k = z := ⟨_, rfl⟩
            rw [hat_] at HA1 ⊢
            have hbmr : bm < wr.heap.size := by omega
            obtain ⟨wa, hwa⟩ : ∃ z, z = wr := ⟨_, rfl⟩
            subst hwa
            clear hat_ hcp hA1 htc hnt hMR hsl hr1 hr2 x0 x1 x2 em ef et df dt eM hB hO hb kr HTC HXT HXM o1 o2 hne hmc t1
            go_wp2
            clear c5 c3 t1'
            refine wp_region_net (by kernel_rfl) [.eq (.pointer (some ⟨w9.heap.size, 5, none⟩)), .eq (.slice (some ⟨gH, 0, none⟩) y.q.f.length hm), .eq (.int .i64 k), .eq (.pointer (some ⟨w0.heap.size, 5, none⟩)), .eq (.slice (some ⟨bm, om, none⟩) y.m.length hc), .eq (.int .i64 k), .eq (.pointer (some ⟨bm, om + k * 3, none⟩)), .eq (.agg #[.int .i64 m.r, .int .i64 yf, .slice MB m.a.length mb]), rel 8 (fun u lo hi w => MxO w lo hi u m), .eq (.pointer (some ⟨gH, k * 3, none⟩))] [[], [0], [], [], [3], [], [3, 4, 5], [3, 4, 5, 6], [3, 4, 5, 6, 7], [0, 1, 2, 3, 4, 5, 6, 7, 8], [0, 1, 2, 3, 4, 5, 6, 7, 8, 9]] 10 (by kernel_rfl) ⟨trivial, trivial, trivial, trivial, trivial, trivial, trivial, trivial, rel_stable (fun u lo hi w w' h hb => h.below hb), trivial, trivial⟩ ⟨?_, ?_, ?_, ?_, ?_, ?_, ?_, ?_, ?_, ?_, trivial⟩ ?_
            · intro x w hb hk Q' hQ
              clear hk
              simp only [netAct, dstAt, List.getElem?_toArray, List.getElem?_cons_zero, List.getElem?_cons_succ, Option.bind_some, Act.put, List.setIfInBounds_toArray, List.set_cons_zero, List.set_cons_succ] at hQ ⊢
              go_wp2
              exact hQ (.pointer (some ⟨w9.heap.size, 5, none⟩)) _ (Below.refl _ _) rfl
            · intro x w hb hk Q' hQ
              have h0 : x.v 0 = .pointer (some ⟨w9.heap.size, 5, none⟩) := (hk 0 (by decide)).1
              clear hk
              simp only [netAct, dstAt, List.getElem?_toArray, List.getElem?_cons_zero, List.getElem?_cons_succ, Option.bind_some, Act.put, List.setIfInBounds_toArray, List.set_cons_zero, List.set_cons_succ] at hQ ⊢
              simp only [h0] at hQ ⊢
              clear h0
              have z := (HB.out.call hb).cell' (i := 5) rfl
              go_wp2
              exact hQ (.slice (some ⟨gH, 0, none⟩) y.q.f.length hm) _ (Below.refl _ _) rfl
            · intro x w hb hk Q' hQ
              clear hk
              simp only [netAct, dstAt, List.getElem?_toArray, List.getElem?_cons_zero, List.getElem?_cons_succ, Option.bind_some, Act.put, List.setIfInBounds_toArray, List.set_cons_zero, List.set_cons_succ] at hQ ⊢
              go_wp2
              exact hQ (.int .i64 k) _ (Below.refl _ _) rfl
            · intro x w hb hk Q' hQ
              clear hk
              simp only [netAct, dstAt, List.getElem?_toArray, List.getElem?_cons_zero, List.getElem?_cons_succ, Option.bind_some, Act.put, List.setIfInBounds_toArray, List.set_cons_zero, List.set_cons_succ] at hQ ⊢
              go_wp2
              exact hQ (.pointer (some ⟨w0.heap.size, 5, none⟩)) _ (Below.refl _ _) rfl
            · intro x w hb hk Q' hQ
              have h3 : x.v 3 = .pointer (some ⟨w0.heap.size, 5, none⟩) := (hk 3 (by decide)).1
              clear hk
              simp only [netAct, dstAt, List.getElem?_toArray, List.getElem?_cons_zero, List.getElem?_cons_succ, Option.bind_some, Act.put, List.setIfInBounds_toArray, List.set_cons_zero, List.set_cons_succ] at hQ ⊢
              simp only [h3] at hQ ⊢
              clear h3
              have z := (KR.out.call hb).cell' (i := 5) rfl
              go_wp2
              exact hQ (.slice (some ⟨bm, om, none⟩) y.m.length hc) _ (Below.refl _ _) rfl
            · intro x w hb hk Q' hQ
              clear hk
              simp only [netAct, dstAt, List.getElem?_toArray, List.getElem?_cons_zero, List.getElem?_cons_succ, Option.bind_some, Act.put, List.setIfInBounds_toArray, List.set_cons_zero, List.set_cons_succ] at hQ ⊢
              go_wp2
              exact hQ (.int .i64 k) _ (Below.refl _ _) rfl
            · intro x w hb hk Q' hQ
              have h4 : x.v 4 = .slice (some ⟨bm, om, none⟩) y.m.length hc := (hk 4 (by decide)).1
              have h5 : x.v 5 = .int .i64 k := (hk 5 (by decide)).1
              clear hk
              simp only [netAct, dstAt, List.getElem?_toArray, List.getElem?_cons_zero, List.getElem?_cons_succ, Option.bind_some, Act.put, List.setIfInBounds_toArray, List.set_cons_zero, List.set_cons_succ] at hQ ⊢
              simp only [h4, h5] at hQ ⊢
              clear h4 h5
              go_wp2
              exact hQ (.pointer (some ⟨bm, om + k * 3, none⟩)) _ (Below.refl _ _) rfl
            · intro x w hb hk Q' hQ
              have h6 : x.v 6 = .pointer (some ⟨bm, om + k * 3, none⟩) := (hk 6 (by decide)).1
              clear hk
              simp only [netAct, dstAt, List.getElem?_toArray, List.getElem?_cons_zero, List.getElem?_cons_succ, Option.bind_some, Act.put, List.setIfInBounds_toArray, List.set_cons_zero, List.set_cons_succ] at hQ ⊢
              simp only [h6] at hQ ⊢
              clear h6
              have z0 := bcell hb hbmr X0.out
              have z1 := bcell hb hbmr X1.out
              have z2 := bcell hb hbmr X2.out
              go_wp2
              exact hQ (.agg #[.int .i64 m.r, .int .i64 yf, .slice MB m.a.length mb]) _ (Below.refl _ _) rfl
            · intro x w hb hk Q' hQ
              have h3 : x.v 3 = .pointer (some ⟨w0.heap.size, 5, none⟩) := (hk 3 (by decide)).1
              have h4 : x.v 4 = .slice (some ⟨bm, om, none⟩) y.m.length hc := (hk 4 (by decide)).1
              have h5 : x.v 5 = .int .i64 k := (hk 5 (by decide)).1
              have h6 : x.v 6 = .pointer (some ⟨bm, om + k * 3, none⟩) := (hk 6 (by decide)).1
              have h7 : x.v 7 = .agg #[.int .i64 m.r, .int .i64 yf, .slice MB m.a.length mb] := (hk 7 (by decide)).1
              clear hk
              simp only [netAct, dstAt, List.getElem?_toArray, List.getElem?_cons_zero, List.getElem?_cons_succ, Option.bind_some, Act.put, List.setIfInBounds_toArray, List.set_cons_zero, List.set_cons_succ] at hQ ⊢
              simp only [h3, h4, h5, h6, h7] at hQ ⊢
              clear h3 h4 h5 h6 h7
              go_wp2_with fail
              refine (l3Copy_any _ m _ (by have := MxR.next hb HMRr.out; rw [HMC.out] at this; exact this)).mono ?_; rintro e w6 ⟨v6, rfl, ho6, hb6⟩
              go_wp2
              exact hQ _ _ hb6 ho6
            · intro x w hb hk Q' hQ
              have h1 : x.v 1 = .slice (some ⟨gH, 0, none⟩) y.q.f.length hm := (hk 1 (by decide)).1
              have h2 : x.v 2 = .int .i64 k := (hk 2 (by decide)).1
              clear hk
              simp only [netAct, dstAt, List.getElem?_toArray, List.getElem?_cons_zero, List.getElem?_cons_succ, Option.bind_some, Act.put, List.setIfInBounds_toArray, List.set_cons_zero, List.set_cons_succ] at hQ ⊢
              simp only [h1, h2] at hQ ⊢
              clear h1 h2
              go_wp2
              exact hQ (.pointer (some ⟨gH, k * 3, none⟩)) _ (Below.refl _ _) rfl
            · intro x w hb hk hiv hdj
              have h0 : x.v 0 = .pointer (some ⟨w9.heap.size, 5, none⟩) := hk 0 (by decide)
              have h1 : x.v 1 = .slice (some ⟨gH, 0, none⟩) y.q.f.length hm := hk 1 (by decide)
              have h2 : x.v 2 = .int .i64 k := hk 2 (by decide)
              have h3 : x.v 3 = .pointer (some ⟨w0.heap.size, 5, none⟩) := hk 3 (by decide)
              have h4 : x.v 4 = .slice (some ⟨bm, om, none⟩) y.m.length hc := hk 4 (by decide)
              have h5 : x.v 5 = .int .i64 k := hk 5 (by decide)
              have h6 : x.v 6 = .pointer (some ⟨bm, om + k * 3, none⟩) := hk 6 (by decide)
              have h7 : x.v 7 = .agg #[.int .i64 m.r, .int .i64 yf, .slice MB m.a.length mb] := hk 7 (by decide)
              have h8 : MxO w (x.lo 8) (x.hi 8) (x.v 8) m := hk 8 (by decide)
              have h9 : x.v 9 = .pointer (some ⟨gH, k * 3, none⟩) := hk 9 (by decide)
              clear hk
              simp only [netAct, dstAt, List.getElem?_toArray, List.getElem?_cons_zero, List.getElem?_cons_succ, Option.bind_some, Act.put, List.setIfInBounds_toArray, List.set_cons_zero, List.set_cons_succ]
              simp only [List.drop_succ_cons, List.drop_zero, h0, h1, h2, h3, h4, h5, h6, h7, h9]
              clear h0 h1 h2 h3 h4 h5 h6 h7 h9
              have i8 := hiv 8 (by decide)
              obtain ⟨AM, am, e8⟩ := h8.form
              rw [e8] at h8 ⊢
              obtain ⟨mr, hmr⟩ : ∃ z, m.r = z := ⟨_, rfl⟩
              obtain ⟨mk, hmk⟩ : ∃ z, m.c = z := ⟨_, rfl⟩
              obtain ⟨ml, hml3⟩ : ∃ z, m.a.length = z := ⟨_, rfl⟩
              rw [hmr, hmk, hml3] at h8 ⊢
              have hOw := HO.out.below hb
              have hbs2 := hb.size
              have o8 := h8.wider (lo' := wa.heap.size) (hi' := w.heap.size) i8.1 i8.2.2
              have hset := RepI.setMx hOw (j := k) (by rw [msF_length]; exact hkn) o8 (Nat.le_refl _) (by omega)
              obtain ⟨W14, hW14⟩ : ∃ u, set3 w gH (k * 3) (.int .i64 mr) (.int .i64 mk) (.slice AM ml am) = u := ⟨_, rfl⟩
              rw [hW14] at hset
              have hch3 : Chg gH (gH + 1) w W14 := by rw [← hW14]; exact chg_set3 _ _ _ _ _ _
              have hs14 : W14.heap.size = w.heap.size := by rw [← hW14]; simp
              have HREP := Lib.hid (show RepI W14 w8.heap.size W14.heap.size _ ⟨y.p, rvQ y.q n, rsD y n K, msF y.q.f.length (rsM y n K F (k + 1))⟩ from by
                rw [← HCP.out]
                exact hset.1.wider (Nat.le_refl _) (by omega))
              have hB14 := Lib.hid ((HB.out.call hb).chg hch3 (.inr (by omega)))
              have hb14 := Lib.hid ((HBB.out.trans (hb.mono (by omega))).trans (hch3.below (B := w8.heap.size) hset.2.1 (by omega)))
              have hl14 : w9.heap.size < W14.heap.size := by omega
              obtain ⟨g, c', s', e, _, _, z0, z1, z2, _, zf⟩ := hOw.mxAt (j := k) (List.getElem?_eq_getElem (by rw [msF_length]; exact hkn))
              simp only [Value.slice.injEq, Option.some.injEq, Addr.mk.injEq, and_true, true_and] at e
              obtain ⟨eg1, _, eg2⟩ := e
              subst eg1
              subst eg2
              replace z0 : ∃ u, w.cell? ⟨gH, k * 3, none⟩ = some u := ⟨_, z0⟩
              replace z1 : ∃ u, w.cell? ⟨gH, k * 3 + 1, none⟩ = some u := ⟨_, z1⟩
              replace z2 : ∃ u, w.cell? ⟨gH, k * 3 + 2, none⟩ = some u := ⟨_, z2⟩
              obtain ⟨u0, z0⟩ := z0
              obtain ⟨u1, z1⟩ := z1
              obtain ⟨u2, z2⟩ := z2
              clear hset hch3 hs14 hOw hmr hmk hml3 hiv hdj e8 o8 h8 i8
              go_wp2
              clear hW14 z0 z1 z2 zf
              refine ⟨⟨k + 1, by omega, by go_num, by rw [HA1.out], hb14.out, hB14.out, HREP.out, hl14⟩, ?_⟩
              simp [intOf]; omega
        · obtain rfl : k = y.q.f.length := by omega
          have kz := k2.call gWr
          have fr := kz.frozen
          have s0 := kz.cell' (i := 0) rfl
          have s1 := kz.cell' (i := 1) rfl
          have s2 := kz.cell' (i := 2) rfl
          have s3 := kz.cell' (i := 3) rfl
          have s4 := kz.cell' (i := 4) rfl
          have s5 := kz.cell' (i := 5) rfl
          have r0 := hB.cell' (i := 0) rfl
          have r1 := hB.cell' (i := 1) rfl
          have r2 := hB.cell' (i := 2) rfl
          have r3 := hB.cell' (i := 3) rfl
          have r4 := hB.cell' (i := 4) rfl
          have r5 := hB.cell' (i := 5) rfl
          have gf := g0.trans (gWr.mono g0.size)
          have hc6 := chg6 wr (w0.heap.size + 1) (.int .i64 y.p) (.int .i64 y.q.v) (.slice QA2 y.q.f.length qa2) (.slice QB2 y.q.f.length qb2) (.slice DA2 y.d.length dc2) (.slice HM y.q.f.length hm)
          have hw8 := G8.out.size
          have OF := Lib.hid ((hO.chg hc6 (.inr (by have := SZ.out; omega))).rd)
          have GF := Lib.hid (gf.trans (hc6.below (by omega) gf.size))
          have HRS := Lib.hid (rsM_end y n K F)
          clear hO hB kz gf hc6 hb kr gWr
          go_wp2
          have hE := HE2.out
          exact bodyPost_ret (v := .tuple #[.agg #[.int .i64 y.p, .int .i64 y.q.v, .slice QA2 y.q.f.length qa2, .slice QB2 y.q.f.length qb2, .slice DA2 y.d.length dc2, .slice HM y.q.f.length hm], .bool true]) (by simp [results, go_sem, s0, s1, s2, s3, s4, s5]) rfl ⟨_, by rw [hE], by rw [hE, rfK, ← HRS.out]; exact OF.out, GF.out⟩
end Go.Proofs.Ytcmlflppndfdcaa

/- Sizes of reflected representations. -/
namespace Go.Proofs.Ytcmlflppndfdcaa
set_option linter.unusedVariables false
set_option linter.unusedSimpArgs false
open Go.RowKit

theorem rsP_size (y : Rp) (v : Int) : (rsP y v).1.size ≤ 1000 := by
  unfold rsP
  split
  · rename_i hok
    obtain ⟨hy, hs⟩ : isRep y = true ∧ endV y.q.f y.q v = true := by simpa [inOk] using hok
    obtain ⟨n, D, env, hnl, hdn, hdA, hD4, hn5⟩ := vert_at hy hs
    have hN := inS_le (v := v) (C := D) hy _ (Nat.le_refl _)
    have hkl := kerR_len y.p D (inS y v D y.q.f.length).1 (inS y v D y.q.f.length).2
    have hks : ksL y v = kerR y.p D (inS y v D y.q.f.length).1 (inS y v D y.q.f.length).2 := by rw [ksL, hdA, Int.toNat_natCast]
    rw [← hks] at hkl
    have hn6 : y.q.f.length ≤ 6 := (isQ_t.1 (areDims_t.1 (isRep_t.1 hy).2.1).1).2.2.1
    unfold rfP
    split
    · have hdl : y.d.length ≤ 5 := by
        have h1 := (areDims_t.1 (isRep_t.1 hy).2.1).2.1
        have h2 := (isQ_t.1 (areDims_t.1 (isRep_t.1 hy).2.1).1).1
        omega
      have hm : ∀ m ∈ (rfK y v (ksL y v).length (gSink y v (ksL y v).length (ksF y v)) y.q.f.length).m, m.a.length ≤ 96 := by
        intro m hm
        obtain ⟨i, hi, rfl⟩ := msF_mem hm
        obtain ⟨m, nf, nt, yf, yt, em, ef, et, df, dt, eM, _, b1, b2, _⟩ := isRep_at hy hi
        obtain ⟨o1, o2⟩ := oth_at (v := v) ef et df dt
        unfold rfM
        split
        · rename_i h
          have ho : othN y v i ≤ 4 := by
            have := h.2
            rw [tch_of ef et] at this
            simp only [Bool.or_eq_true, decide_eq_true_eq] at this
            rcases this with h | h
            · rw [o2 h]; exact b2
            · rw [o1 h]; exact b1
          simp only [gSink, mxF, flat_length]
          exact Nat.le_trans (Nat.mul_le_mul ho (show (ksL y v).length ≤ 24 by omega)) (by decide)
        · rw [List.getD_eq_getElem?_getD, em, eM]
          simp only [Option.getD_some, mxF, flat_length]
          exact Nat.le_trans (Nat.mul_le_mul b2 b1) (by decide)
      have h5 := totA_le (ms := (rfK y v (ksL y v).length (gSink y v (ksL y v).length (ksF y v)) y.q.f.length).m) (n := 96) hm
      have hl : (rfK y v (ksL y v).length (gSink y v (ksL y v).length (ksF y v)) y.q.f.length).m.length = y.q.f.length := msF_length _ _
      have hf : (rfK y v (ksL y v).length (gSink y v (ksL y v).length (ksF y v)) y.q.f.length).q.f.length = y.q.f.length := rowF_length _ _
      have ht : (rfK y v (ksL y v).length (gSink y v (ksL y v).length (ksF y v)) y.q.f.length).q.t.length = y.q.f.length := rowF_length _ _
      have hd : (rfK y v (ksL y v).length (gSink y v (ksL y v).length (ksF y v)) y.q.f.length).d.length = y.d.length := by simp [rfK]
      simp only [Rp.size, Qv.size, szM]
      rw [hf, ht, hd]
      try rw [hl]
      rw [hl] at h5
      omega
    · decide
  · decide
end Go.Proofs.Ytcmlflppndfdcaa

/- The walk of FnExactReflectSink, printed by program (wip/law.py) out of the contracts of what it calls. -/
namespace Go.Proofs.Ytcmlflppndfdcaa
set_option linter.unusedVariables false
set_option linter.unusedSimpArgs false
open Go.RowKit

set_option maxHeartbeats 1600000 in
set_option maxRecDepth 100000 in
theorem lawReflectSink_any (ur : Value) (r : Rp) (v : Int) (w : World) (hr : RpR w w.heap.size ur r) (rng_v : I64 v) :
    Calls Try.prog 5 #[ur, .int .i64 v] w fun e w' => e = .returned (.bool true) ∧ Below w.heap.size w w' := by
  obtain ⟨Aur, aur, Cur, cur, Eur, eur, Hur, hur, er⟩ := RpR.form hr
  subst er
  have lr := RpR.lens hr
  have zr := rsP_size r v
  have g0 := Below.refl w.heap.size w
  by_cases z0 : (1048576 : Int) < (r.size : Nat)
  · have y0 : szLeft (1048576 : Int) (r.size) = -1 := by rw [szLeft, if_pos z0]
    go_enter Try.func5, Try.ntmps5
    go_wp2_with fail
    obtain ⟨W2, e3⟩ : ∃ W, W = w.alloc (.cells #[.int .i64 (r).p, .int .i64 (r).q.v, .slice Aur (r).q.f.length aur, .slice Cur (r).q.t.length cur, .slice Eur (r).d.length eur, .slice Hur (r).m.length hur] 46) := ⟨_, rfl⟩
    rw [← e3]
    have b4 : Below w.heap.size w W2 := by rw [e3]; exact below_alloc _ _
    have k5 : Blk W2 w.heap.size 46 #[.int .i64 (r).p, .int .i64 (r).q.v, .slice Aur (r).q.f.length aur, .slice Cur (r).q.t.length cur, .slice Eur (r).d.length eur, .slice Hur (r).m.length hur] := by rw [e3]; exact Blk.new _ _ _
    have s6 : w.heap.size < W2.heap.size := by rw [e3]; simp
    clear e3
    have h7 := RpR.below (b4.mono (by omega)) hr
    have s8 : w.heap.size ≤ W2.heap.size := b4.size
    have g9 := bthen g0 b4
    clear hr g0 b4
    have c10 := k5.cell' (i := 0) rfl
    have c11 := k5.cell' (i := 1) rfl
    have c12 := k5.cell' (i := 2) rfl
    have c13 := k5.cell' (i := 3) rfl
    have c14 := k5.cell' (i := 4) rfl
    have c15 := k5.cell' (i := 5) rfl
    refine (szRep_any _ _ (1048576 : Int) _ (RpR.more (by omega) h7) (by omega) (by omega)).mono ?_; rintro e W16 ⟨rfl, b1⟩
    have h17 := RpR.below (b1.mono (by omega)) h7
    have k18 := k5.call b1
    have s19 : W2.heap.size ≤ W16.heap.size := b1.size
    have g20 := bthen g9 b1
    clear h7 k5 g9 b1 c10 c11 c12 c13 c14 c15
    have c21 := k18.cell' (i := 0) rfl
    have c22 := k18.cell' (i := 1) rfl
    have c23 := k18.cell' (i := 2) rfl
    have c24 := k18.cell' (i := 3) rfl
    have c25 := k18.cell' (i := 4) rfl
    have c26 := k18.cell' (i := 5) rfl
    go_wp2
    go_ret
    exact ⟨rfl, g20⟩
  have y0 : szLeft (1048576 : Int) (r.size) = (1048576 : Int) - (r.size : Nat) := by rw [szLeft, if_neg z0]
  have x0 : ¬ ((1048576 : Int) - ((r.size : Nat) : Int) < 0) := by omega
  go_enter Try.func5, Try.ntmps5
  go_wp2_with fail
  obtain ⟨W28, e29⟩ : ∃ W, W = w.alloc (.cells #[.int .i64 (r).p, .int .i64 (r).q.v, .slice Aur (r).q.f.length aur, .slice Cur (r).q.t.length cur, .slice Eur (r).d.length eur, .slice Hur (r).m.length hur] 46) := ⟨_, rfl⟩
  rw [← e29]
  have b30 : Below w.heap.size w W28 := by rw [e29]; exact below_alloc _ _
  have k31 : Blk W28 w.heap.size 46 #[.int .i64 (r).p, .int .i64 (r).q.v, .slice Aur (r).q.f.length aur, .slice Cur (r).q.t.length cur, .slice Eur (r).d.length eur, .slice Hur (r).m.length hur] := by rw [e29]; exact Blk.new _ _ _
  have s32 : w.heap.size < W28.heap.size := by rw [e29]; simp
  clear e29
  have h33 := RpR.below (b30.mono (by omega)) hr
  have s34 : w.heap.size ≤ W28.heap.size := b30.size
  have g35 := bthen g0 b30
  clear hr g0 b30
  have c36 := k31.cell' (i := 0) rfl
  have c37 := k31.cell' (i := 1) rfl
  have c38 := k31.cell' (i := 2) rfl
  have c39 := k31.cell' (i := 3) rfl
  have c40 := k31.cell' (i := 4) rfl
  have c41 := k31.cell' (i := 5) rfl
  refine (szRep_any _ _ (1048576 : Int) _ (RpR.more (by omega) h33) (by omega) (by omega)).mono ?_; rintro e W42 ⟨rfl, b27⟩
  have h43 := RpR.below (b27.mono (by omega)) h33
  have k44 := k31.call b27
  have s45 : W28.heap.size ≤ W42.heap.size := b27.size
  have g46 := bthen g35 b27
  clear h33 k31 g35 b27 c36 c37 c38 c39 c40 c41
  have c47 := k44.cell' (i := 0) rfl
  have c48 := k44.cell' (i := 1) rfl
  have c49 := k44.cell' (i := 2) rfl
  have c50 := k44.cell' (i := 3) rfl
  have c51 := k44.cell' (i := 4) rfl
  have c52 := k44.cell' (i := 5) rfl
  go_wp2_with fail
  refine (rep_to _ _ _ (RpR.more (by omega) h43) (by omega)).mono ?_; rintro e W56 ⟨v53, rfl, h54, b55⟩
  have h57 := RpR.below (b55.mono (by omega)) h43
  have k58 := k44.call b55
  have s59 : W42.heap.size ≤ W56.heap.size := b55.size
  have g60 := bthen g46 b55
  clear h43 k44 g46 b55 c47 c48 c49 c50 c51 c52
  have c61 := k58.cell' (i := 0) rfl
  have c62 := k58.cell' (i := 1) rfl
  have c63 := k58.cell' (i := 2) rfl
  have c64 := k58.cell' (i := 3) rfl
  have c65 := k58.cell' (i := 4) rfl
  have c66 := k58.cell' (i := 5) rfl
  go_wp2_with fail
  refine (specReflectSink_any _ _ _ _ h54.rd rng_v).mono ?_; rintro e W70 ⟨r67, rfl, h68, b69⟩
  have h71 := RpR.below (b69.mono (by omega)) h57
  have h72 := h54.below b69
  have k73 := k58.call b69
  have s74 : W56.heap.size ≤ W70.heap.size := b69.size
  have g75 := bthen g60 b69
  clear h57 h54 k58 g60 b69 c61 c62 c63 c64 c65 c66
  have c76 := k73.cell' (i := 0) rfl
  have c77 := k73.cell' (i := 1) rfl
  have c78 := k73.cell' (i := 2) rfl
  have c79 := k73.cell' (i := 3) rfl
  have c80 := k73.cell' (i := 4) rfl
  have c81 := k73.cell' (i := 5) rfl
  clear h72
  obtain ⟨Ax82, ax82, Cx82, cx82, Ex82, ex82, Hx82, hx82, e83⟩ := RpR.form h68
  subst e83
  have c87 := fun o => (k73.alloc o).cell' (i := 0) rfl
  have c88 := fun o => (k73.alloc o).cell' (i := 1) rfl
  have c89 := fun o => (k73.alloc o).cell' (i := 2) rfl
  have c90 := fun o => (k73.alloc o).cell' (i := 3) rfl
  have c91 := fun o => (k73.alloc o).cell' (i := 4) rfl
  have c92 := fun o => (k73.alloc o).cell' (i := 5) rfl
  go_wp2_with fail
  obtain ⟨W93, e94⟩ : ∃ W, W = W70.alloc (.cells #[.int .i64 ((rsP r v).1).p, .int .i64 ((rsP r v).1).q.v, .slice Ax82 ((rsP r v).1).q.f.length ax82, .slice Cx82 ((rsP r v).1).q.t.length cx82, .slice Ex82 ((rsP r v).1).d.length ex82, .slice Hx82 ((rsP r v).1).m.length hx82] 31) := ⟨_, rfl⟩
  rw [← e94]
  have b95 : Below W70.heap.size W70 W93 := by rw [e94]; exact below_alloc _ _
  have k96 : Blk W93 W70.heap.size 31 #[.int .i64 ((rsP r v).1).p, .int .i64 ((rsP r v).1).q.v, .slice Ax82 ((rsP r v).1).q.f.length ax82, .slice Cx82 ((rsP r v).1).q.t.length cx82, .slice Ex82 ((rsP r v).1).d.length ex82, .slice Hx82 ((rsP r v).1).m.length hx82] := by rw [e94]; exact Blk.new _ _ _
  have s97 : W70.heap.size < W93.heap.size := by rw [e94]; simp
  clear e94
  have h98 := RpR.below (b95.mono (by omega)) h71
  have h99 := RpR.below (b95.mono (by omega)) h68
  have k100 := k73.call b95
  have s101 : W70.heap.size ≤ W93.heap.size := b95.size
  have g102 := bthen g75 b95
  clear h71 h68 k73 g75 b95 c76 c77 c78 c79 c80 c81 c87 c88 c89 c90 c91 c92
  have c103 := k100.cell' (i := 0) rfl
  have c104 := k100.cell' (i := 1) rfl
  have c105 := k100.cell' (i := 2) rfl
  have c106 := k100.cell' (i := 3) rfl
  have c107 := k100.cell' (i := 4) rfl
  have c108 := k100.cell' (i := 5) rfl
  have c109 := k96.cell' (i := 0) rfl
  have c110 := k96.cell' (i := 1) rfl
  have c111 := k96.cell' (i := 2) rfl
  have c112 := k96.cell' (i := 3) rfl
  have c113 := k96.cell' (i := 4) rfl
  have c114 := k96.cell' (i := 5) rfl
  refine (rep_to _ _ _ (RpR.more (by omega) h98) (by omega)).mono ?_; rintro e W115 ⟨v84, rfl, h85, b86⟩
  have h116 := RpR.below (b86.mono (by omega)) h98
  have h117 := RpR.below (b86.mono (by omega)) h99
  have k118 := k100.call b86
  have k119 := k96.call b86
  have s120 : W93.heap.size ≤ W115.heap.size := b86.size
  have g121 := bthen g102 b86
  clear h98 h99 k100 k96 g102 b86 c103 c104 c105 c106 c107 c108 c109 c110 c111 c112 c113 c114
  have c122 := k118.cell' (i := 0) rfl
  have c123 := k118.cell' (i := 1) rfl
  have c124 := k118.cell' (i := 2) rfl
  have c125 := k118.cell' (i := 3) rfl
  have c126 := k118.cell' (i := 4) rfl
  have c127 := k118.cell' (i := 5) rfl
  have c128 := k119.cell' (i := 0) rfl
  have c129 := k119.cell' (i := 1) rfl
  have c130 := k119.cell' (i := 2) rfl
  have c131 := k119.cell' (i := 3) rfl
  have c132 := k119.cell' (i := 4) rfl
  have c133 := k119.cell' (i := 5) rfl
  obtain ⟨Ax134, ax134, Cx134, cx134, Ex134, ex134, Hx134, hx134, e135⟩ := h85.form
  subst e135
  have c139 := fun o => (k118.alloc o).cell' (i := 0) rfl
  have c140 := fun o => (k118.alloc o).cell' (i := 1) rfl
  have c141 := fun o => (k118.alloc o).cell' (i := 2) rfl
  have c142 := fun o => (k118.alloc o).cell' (i := 3) rfl
  have c143 := fun o => (k118.alloc o).cell' (i := 4) rfl
  have c144 := fun o => (k118.alloc o).cell' (i := 5) rfl
  have c145 := fun o => (k119.alloc o).cell' (i := 0) rfl
  have c146 := fun o => (k119.alloc o).cell' (i := 1) rfl
  have c147 := fun o => (k119.alloc o).cell' (i := 2) rfl
  have c148 := fun o => (k119.alloc o).cell' (i := 3) rfl
  have c149 := fun o => (k119.alloc o).cell' (i := 4) rfl
  have c150 := fun o => (k119.alloc o).cell' (i := 5) rfl
  go_wp2_with fail
  obtain ⟨W151, e152⟩ : ∃ W, W = W115.alloc (.cells #[.int .i64 (r).p, .int .i64 (r).q.v, .slice Ax134 (r).q.f.length ax134, .slice Cx134 (r).q.t.length cx134, .slice Ex134 (r).d.length ex134, .slice Hx134 (r).m.length hx134] 31) := ⟨_, rfl⟩
  rw [← e152]
  have b153 : Below W115.heap.size W115 W151 := by rw [e152]; exact below_alloc _ _
  have k154 : Blk W151 W115.heap.size 31 #[.int .i64 (r).p, .int .i64 (r).q.v, .slice Ax134 (r).q.f.length ax134, .slice Cx134 (r).q.t.length cx134, .slice Ex134 (r).d.length ex134, .slice Hx134 (r).m.length hx134] := by rw [e152]; exact Blk.new _ _ _
  have s155 : W115.heap.size < W151.heap.size := by rw [e152]; simp
  clear e152
  have h156 := RpR.below (b153.mono (by omega)) h116
  have h157 := RpR.below (b153.mono (by omega)) h117
  have h158 := h85.below b153
  have k159 := k118.call b153
  have k160 := k119.call b153
  have s161 : W115.heap.size ≤ W151.heap.size := b153.size
  have g162 := bthen g121 b153
  clear h116 h117 h85 k118 k119 g121 b153 c122 c123 c124 c125 c126 c127 c128 c129 c130 c131 c132 c133 c139 c140 c141 c142 c143 c144 c145 c146 c147 c148 c149 c150
  have c163 := k159.cell' (i := 0) rfl
  have c164 := k159.cell' (i := 1) rfl
  have c165 := k159.cell' (i := 2) rfl
  have c166 := k159.cell' (i := 3) rfl
  have c167 := k159.cell' (i := 4) rfl
  have c168 := k159.cell' (i := 5) rfl
  have c169 := k160.cell' (i := 0) rfl
  have c170 := k160.cell' (i := 1) rfl
  have c171 := k160.cell' (i := 2) rfl
  have c172 := k160.cell' (i := 3) rfl
  have c173 := k160.cell' (i := 4) rfl
  have c174 := k160.cell' (i := 5) rfl
  have c175 := k154.cell' (i := 0) rfl
  have c176 := k154.cell' (i := 1) rfl
  have c177 := k154.cell' (i := 2) rfl
  have c178 := k154.cell' (i := 3) rfl
  have c179 := k154.cell' (i := 4) rfl
  have c180 := k154.cell' (i := 5) rfl
  refine (implReflectSink_any _ _ _ _ h158.rd rng_v).mono ?_; rintro e W181 ⟨r136, rfl, h137, b138⟩
  have h182 := RpR.below (b138.mono (by omega)) h156
  have h183 := RpR.below (b138.mono (by omega)) h157
  have h184 := h158.below b138
  have k185 := k159.call b138
  have k186 := k160.call b138
  have k187 := k154.call b138
  have s188 : W151.heap.size ≤ W181.heap.size := b138.size
  have g189 := bthen g162 b138
  clear h156 h157 h158 k159 k160 k154 g162 b138 c163 c164 c165 c166 c167 c168 c169 c170 c171 c172 c173 c174 c175 c176 c177 c178 c179 c180
  have c190 := k185.cell' (i := 0) rfl
  have c191 := k185.cell' (i := 1) rfl
  have c192 := k185.cell' (i := 2) rfl
  have c193 := k185.cell' (i := 3) rfl
  have c194 := k185.cell' (i := 4) rfl
  have c195 := k185.cell' (i := 5) rfl
  have c196 := k186.cell' (i := 0) rfl
  have c197 := k186.cell' (i := 1) rfl
  have c198 := k186.cell' (i := 2) rfl
  have c199 := k186.cell' (i := 3) rfl
  have c200 := k186.cell' (i := 4) rfl
  have c201 := k186.cell' (i := 5) rfl
  have c202 := k187.cell' (i := 0) rfl
  have c203 := k187.cell' (i := 1) rfl
  have c204 := k187.cell' (i := 2) rfl
  have c205 := k187.cell' (i := 3) rfl
  have c206 := k187.cell' (i := 4) rfl
  have c207 := k187.cell' (i := 5) rfl
  obtain ⟨Ax208, ax208, Cx208, cx208, Ex208, ex208, Hx208, hx208, e209⟩ := h137.form
  subst e209
  have c211 := fun o => (k185.alloc o).cell' (i := 0) rfl
  have c212 := fun o => (k185.alloc o).cell' (i := 1) rfl
  have c213 := fun o => (k185.alloc o).cell' (i := 2) rfl
  have c214 := fun o => (k185.alloc o).cell' (i := 3) rfl
  have c215 := fun o => (k185.alloc o).cell' (i := 4) rfl
  have c216 := fun o => (k185.alloc o).cell' (i := 5) rfl
  have c217 := fun o => (k186.alloc o).cell' (i := 0) rfl
  have c218 := fun o => (k186.alloc o).cell' (i := 1) rfl
  have c219 := fun o => (k186.alloc o).cell' (i := 2) rfl
  have c220 := fun o => (k186.alloc o).cell' (i := 3) rfl
  have c221 := fun o => (k186.alloc o).cell' (i := 4) rfl
  have c222 := fun o => (k186.alloc o).cell' (i := 5) rfl
  have c223 := fun o => (k187.alloc o).cell' (i := 0) rfl
  have c224 := fun o => (k187.alloc o).cell' (i := 1) rfl
  have c225 := fun o => (k187.alloc o).cell' (i := 2) rfl
  have c226 := fun o => (k187.alloc o).cell' (i := 3) rfl
  have c227 := fun o => (k187.alloc o).cell' (i := 4) rfl
  have c228 := fun o => (k187.alloc o).cell' (i := 5) rfl
  go_wp2_with fail
  obtain ⟨W229, e230⟩ : ∃ W, W = W181.alloc (.cells #[.int .i64 ((rsP r v).1).p, .int .i64 ((rsP r v).1).q.v, .slice Ax208 ((rsP r v).1).q.f.length ax208, .slice Cx208 ((rsP r v).1).q.t.length cx208, .slice Ex208 ((rsP r v).1).d.length ex208, .slice Hx208 ((rsP r v).1).m.length hx208] 31) := ⟨_, rfl⟩
  rw [← e230]
  have b231 : Below W181.heap.size W181 W229 := by rw [e230]; exact below_alloc _ _
  have k232 : Blk W229 W181.heap.size 31 #[.int .i64 ((rsP r v).1).p, .int .i64 ((rsP r v).1).q.v, .slice Ax208 ((rsP r v).1).q.f.length ax208, .slice Cx208 ((rsP r v).1).q.t.length cx208, .slice Ex208 ((rsP r v).1).d.length ex208, .slice Hx208 ((rsP r v).1).m.length hx208] := by rw [e230]; exact Blk.new _ _ _
  have s233 : W181.heap.size < W229.heap.size := by rw [e230]; simp
  clear e230
  have h234 := RpR.below (b231.mono (by omega)) h182
  have h235 := RpR.below (b231.mono (by omega)) h183
  have h236 := h184.below b231
  have h237 := h137.below b231
  have k238 := k185.call b231
  have k239 := k186.call b231
  have k240 := k187.call b231
  have s241 : W181.heap.size ≤ W229.heap.size := b231.size
  have g242 := bthen g189 b231
  clear h182 h183 h184 h137 k185 k186 k187 g189 b231 c190 c191 c192 c193 c194 c195 c196 c197 c198 c199 c200 c201 c202 c203 c204 c205 c206 c207 c211 c212 c213 c214 c215 c216 c217 c218 c219 c220 c221 c222 c223 c224 c225 c226 c227 c228
  have c243 := k238.cell' (i := 0) rfl
  have c244 := k238.cell' (i := 1) rfl
  have c245 := k238.cell' (i := 2) rfl
  have c246 := k238.cell' (i := 3) rfl
  have c247 := k238.cell' (i := 4) rfl
  have c248 := k238.cell' (i := 5) rfl
  have c249 := k239.cell' (i := 0) rfl
  have c250 := k239.cell' (i := 1) rfl
  have c251 := k239.cell' (i := 2) rfl
  have c252 := k239.cell' (i := 3) rfl
  have c253 := k239.cell' (i := 4) rfl
  have c254 := k239.cell' (i := 5) rfl
  have c255 := k240.cell' (i := 0) rfl
  have c256 := k240.cell' (i := 1) rfl
  have c257 := k240.cell' (i := 2) rfl
  have c258 := k240.cell' (i := 3) rfl
  have c259 := k240.cell' (i := 4) rfl
  have c260 := k240.cell' (i := 5) rfl
  have c261 := k232.cell' (i := 0) rfl
  have c262 := k232.cell' (i := 1) rfl
  have c263 := k232.cell' (i := 2) rfl
  have c264 := k232.cell' (i := 3) rfl
  have c265 := k232.cell' (i := 4) rfl
  have c266 := k232.cell' (i := 5) rfl
  refine (eqRep_any _ _ _ _ _ h237.rd (RpR.more (by omega) h235)).mono ?_; rintro e W267 ⟨rfl, b210⟩
  have h268 := RpR.below (b210.mono (by omega)) h234
  have h269 := RpR.below (b210.mono (by omega)) h235
  have h270 := h236.below b210
  have h271 := h237.below b210
  have k272 := k238.call b210
  have k273 := k239.call b210
  have k274 := k240.call b210
  have k275 := k232.call b210
  have s276 : W229.heap.size ≤ W267.heap.size := b210.size
  have g277 := bthen g242 b210
  clear h234 h235 h236 h237 k238 k239 k240 k232 g242 b210 c243 c244 c245 c246 c247 c248 c249 c250 c251 c252 c253 c254 c255 c256 c257 c258 c259 c260 c261 c262 c263 c264 c265 c266
  have c278 := k272.cell' (i := 0) rfl
  have c279 := k272.cell' (i := 1) rfl
  have c280 := k272.cell' (i := 2) rfl
  have c281 := k272.cell' (i := 3) rfl
  have c282 := k272.cell' (i := 4) rfl
  have c283 := k272.cell' (i := 5) rfl
  have c284 := k273.cell' (i := 0) rfl
  have c285 := k273.cell' (i := 1) rfl
  have c286 := k273.cell' (i := 2) rfl
  have c287 := k273.cell' (i := 3) rfl
  have c288 := k273.cell' (i := 4) rfl
  have c289 := k273.cell' (i := 5) rfl
  have c290 := k274.cell' (i := 0) rfl
  have c291 := k274.cell' (i := 1) rfl
  have c292 := k274.cell' (i := 2) rfl
  have c293 := k274.cell' (i := 3) rfl
  have c294 := k274.cell' (i := 4) rfl
  have c295 := k274.cell' (i := 5) rfl
  have c296 := k275.cell' (i := 0) rfl
  have c297 := k275.cell' (i := 1) rfl
  have c298 := k275.cell' (i := 2) rfl
  have c299 := k275.cell' (i := 3) rfl
  have c300 := k275.cell' (i := 4) rfl
  have c301 := k275.cell' (i := 5) rfl
  go_wp2_with fail
  have b302 := drew_below W267
  have h303 := RpR.below (b302.mono (by omega)) h268
  have h304 := RpR.below (b302.mono (by omega)) h269
  have h305 := h270.below b302
  have h306 := h271.below b302
  have k307 := k272.call b302
  have k308 := k273.call b302
  have k309 := k274.call b302
  have k310 := k275.call b302
  have s311 : W267.heap.size ≤ W267.drew.heap.size := b302.size
  have g312 := bthen g277 b302
  clear h268 h269 h270 h271 k272 k273 k274 k275 g277 b302 c278 c279 c280 c281 c282 c283 c284 c285 c286 c287 c288 c289 c290 c291 c292 c293 c294 c295 c296 c297 c298 c299 c300 c301
  have c313 := k307.cell' (i := 0) rfl
  have c314 := k307.cell' (i := 1) rfl
  have c315 := k307.cell' (i := 2) rfl
  have c316 := k307.cell' (i := 3) rfl
  have c317 := k307.cell' (i := 4) rfl
  have c318 := k307.cell' (i := 5) rfl
  have c319 := k308.cell' (i := 0) rfl
  have c320 := k308.cell' (i := 1) rfl
  have c321 := k308.cell' (i := 2) rfl
  have c322 := k308.cell' (i := 3) rfl
  have c323 := k308.cell' (i := 4) rfl
  have c324 := k308.cell' (i := 5) rfl
  have c325 := k309.cell' (i := 0) rfl
  have c326 := k309.cell' (i := 1) rfl
  have c327 := k309.cell' (i := 2) rfl
  have c328 := k309.cell' (i := 3) rfl
  have c329 := k309.cell' (i := 4) rfl
  have c330 := k309.cell' (i := 5) rfl
  have c331 := k310.cell' (i := 0) rfl
  have c332 := k310.cell' (i := 1) rfl
  have c333 := k310.cell' (i := 2) rfl
  have c334 := k310.cell' (i := 3) rfl
  have c335 := k310.cell' (i := 4) rfl
  have c336 := k310.cell' (i := 5) rfl
  go_region_held3 (fun W' => W'.cell? ⟨w.heap.size, 0, none⟩ = some (.int .i64 (r).p) ∧ W'.cell? ⟨w.heap.size, 1, none⟩ = some (.int .i64 (r).q.v) ∧ W'.cell? ⟨w.heap.size, 2, none⟩ = some (.slice Aur (r).q.f.length aur) ∧ W'.cell? ⟨w.heap.size, 3, none⟩ = some (.slice Cur (r).q.t.length cur) ∧ W'.cell? ⟨w.heap.size, 4, none⟩ = some (.slice Eur (r).d.length eur) ∧ W'.cell? ⟨w.heap.size, 5, none⟩ = some (.slice Hur (r).m.length hur) ∧ W'.cell? ⟨W70.heap.size, 0, none⟩ = some (.int .i64 ((rsP r v).1).p) ∧ W'.cell? ⟨W70.heap.size, 1, none⟩ = some (.int .i64 ((rsP r v).1).q.v) ∧ W'.cell? ⟨W70.heap.size, 2, none⟩ = some (.slice Ax82 ((rsP r v).1).q.f.length ax82) ∧ W'.cell? ⟨W70.heap.size, 3, none⟩ = some (.slice Cx82 ((rsP r v).1).q.t.length cx82) ∧ W'.cell? ⟨W70.heap.size, 4, none⟩ = some (.slice Ex82 ((rsP r v).1).d.length ex82) ∧ W'.cell? ⟨W70.heap.size, 5, none⟩ = some (.slice Hx82 ((rsP r v).1).m.length hx82) ∧ W'.cell? ⟨W115.heap.size, 0, none⟩ = some (.int .i64 (r).p) ∧ W'.cell? ⟨W115.heap.size, 1, none⟩ = some (.int .i64 (r).q.v) ∧ W'.cell? ⟨W115.heap.size, 2, none⟩ = some (.slice Ax134 (r).q.f.length ax134) ∧ W'.cell? ⟨W115.heap.size, 3, none⟩ = some (.slice Cx134 (r).q.t.length cx134) ∧ W'.cell? ⟨W115.heap.size, 4, none⟩ = some (.slice Ex134 (r).d.length ex134) ∧ W'.cell? ⟨W115.heap.size, 5, none⟩ = some (.slice Hx134 (r).m.length hx134) ∧ W'.cell? ⟨W181.heap.size, 0, none⟩ = some (.int .i64 ((rsP r v).1).p) ∧ W'.cell? ⟨W181.heap.size, 1, none⟩ = some (.int .i64 ((rsP r v).1).q.v) ∧ W'.cell? ⟨W181.heap.size, 2, none⟩ = some (.slice Ax208 ((rsP r v).1).q.f.length ax208) ∧ W'.cell? ⟨W181.heap.size, 3, none⟩ = some (.slice Cx208 ((rsP r v).1).q.t.length cx208) ∧ W'.cell? ⟨W181.heap.size, 4, none⟩ = some (.slice Ex208 ((rsP r v).1).d.length ex208) ∧ W'.cell? ⟨W181.heap.size, 5, none⟩ = some (.slice Hx208 ((rsP r v).1).m.length hx208))
    (first | exact ⟨c313, c314, c315, c316, c317, c318, c319, c320, c321, c322, c323, c324, c325, c326, c327, c328, c329, c330, c331, c332, c333, c334, c335, c336⟩ | exact ⟨c351, c352, c353, c354, c355, c356, c357, c358, c359, c360, c361, c362, c363, c364, c365, c366, c367, c368, c369, c370, c371, c372, c373, c374⟩ | exact ⟨c388, c389, c390, c391, c392, c393, c394, c395, c396, c397, c398, c399, c400, c401, c402, c403, c404, c405, c406, c407, c408, c409, c410, c411⟩)
    (first | (go_at_call 24; refine (rep_to _ _ _ (RpR.more (by omega) h303) (by omega)).mono ?_; rintro e W340 ⟨v337, rfl, h338, b339⟩; have h341 := RpR.below (b339.mono (by omega)) h303; have h342 := RpR.below (b339.mono (by omega)) h304; have h343 := h305.below b339; have h344 := h306.below b339; have k345 := k307.call b339; have k346 := k308.call b339; have k347 := k309.call b339; have k348 := k310.call b339; have s349 : W267.drew.heap.size ≤ W340.heap.size := b339.size; have g350 := bthen g312 b339; clear h303 h304 h305 h306 k307 k308 k309 k310 g312 b339 c313 c314 c315 c316 c317 c318 c319 c320 c321 c322 c323 c324 c325 c326 c327 c328 c329 c330 c331 c332 c333 c334 c335 c336; have c351 := k345.cell' (i := 0) rfl; have c352 := k345.cell' (i := 1) rfl; have c353 := k345.cell' (i := 2) rfl; have c354 := k345.cell' (i := 3) rfl; have c355 := k345.cell' (i := 4) rfl; have c356 := k345.cell' (i := 5) rfl; have c357 := k346.cell' (i := 0) rfl; have c358 := k346.cell' (i := 1) rfl; have c359 := k346.cell' (i := 2) rfl; have c360 := k346.cell' (i := 3) rfl; have c361 := k346.cell' (i := 4) rfl; have c362 := k346.cell' (i := 5) rfl; have c363 := k347.cell' (i := 0) rfl; have c364 := k347.cell' (i := 1) rfl; have c365 := k347.cell' (i := 2) rfl; have c366 := k347.cell' (i := 3) rfl; have c367 := k347.cell' (i := 4) rfl; have c368 := k347.cell' (i := 5) rfl; have c369 := k348.cell' (i := 0) rfl; have c370 := k348.cell' (i := 1) rfl; have c371 := k348.cell' (i := 2) rfl; have c372 := k348.cell' (i := 3) rfl; have c373 := k348.cell' (i := 4) rfl; have c374 := k348.cell' (i := 5) rfl) | (go_at_call 13; refine (eqRep_any _ _ _ _ _ h343.rd h338.rd).mono ?_; rintro e W376 ⟨rfl, b375⟩; have h377 := RpR.below (b375.mono (by omega)) h341; have h378 := RpR.below (b375.mono (by omega)) h342; have h379 := h343.below b375; have h380 := h344.below b375; have h381 := h338.below b375; have k382 := k345.call b375; have k383 := k346.call b375; have k384 := k347.call b375; have k385 := k348.call b375; have s386 : W340.heap.size ≤ W376.heap.size := b375.size; have g387 := bthen g350 b375; clear h341 h342 h343 h344 h338 k345 k346 k347 k348 g350 b375 c351 c352 c353 c354 c355 c356 c357 c358 c359 c360 c361 c362 c363 c364 c365 c366 c367 c368 c369 c370 c371 c372 c373 c374; have c388 := k382.cell' (i := 0) rfl; have c389 := k382.cell' (i := 1) rfl; have c390 := k382.cell' (i := 2) rfl; have c391 := k382.cell' (i := 3) rfl; have c392 := k382.cell' (i := 4) rfl; have c393 := k382.cell' (i := 5) rfl; have c394 := k383.cell' (i := 0) rfl; have c395 := k383.cell' (i := 1) rfl; have c396 := k383.cell' (i := 2) rfl; have c397 := k383.cell' (i := 3) rfl; have c398 := k383.cell' (i := 4) rfl; have c399 := k383.cell' (i := 5) rfl; have c400 := k384.cell' (i := 0) rfl; have c401 := k384.cell' (i := 1) rfl; have c402 := k384.cell' (i := 2) rfl; have c403 := k384.cell' (i := 3) rfl; have c404 := k384.cell' (i := 4) rfl; have c405 := k384.cell' (i := 5) rfl; have c406 := k385.cell' (i := 0) rfl; have c407 := k385.cell' (i := 1) rfl; have c408 := k385.cell' (i := 2) rfl; have c409 := k385.cell' (i := 3) rfl; have c410 := k385.cell' (i := 4) rfl; have c411 := k385.cell' (i := 5) rfl))
  clear h381
  go_wp2_with fail
  refine (rep_mark _ _ _ _ _ _ h379 (by omega) (by omega) (by omega) (by omega)).mono ?_; rintro e W414 ⟨rfl, h412, q413⟩
  have h415 := RpR.chg h377 q413 (by omega) (by omega)
  have h416 := RpR.chg h378 q413 (by omega) (by omega)
  have h417 := h380.chg q413 (by omega)
  have k418 := k382.chg q413 (by omega)
  have k419 := k383.chg q413 (by omega)
  have k420 := k384.chg q413 (by omega)
  have k421 := k385.chg q413 (by omega)
  have s422 : W376.heap.size ≤ W414.heap.size := q413.size
  have g423 := g387.trans (q413.below (by omega) (by omega))
  clear h377 h378 h380 k382 k383 k384 k385 g387 q413 c388 c389 c390 c391 c392 c393 c394 c395 c396 c397 c398 c399 c400 c401 c402 c403 c404 c405 c406 c407 c408 c409 c410 c411
  have c424 := k418.cell' (i := 0) rfl
  have c425 := k418.cell' (i := 1) rfl
  have c426 := k418.cell' (i := 2) rfl
  have c427 := k418.cell' (i := 3) rfl
  have c428 := k418.cell' (i := 4) rfl
  have c429 := k418.cell' (i := 5) rfl
  have c430 := k419.cell' (i := 0) rfl
  have c431 := k419.cell' (i := 1) rfl
  have c432 := k419.cell' (i := 2) rfl
  have c433 := k419.cell' (i := 3) rfl
  have c434 := k419.cell' (i := 4) rfl
  have c435 := k419.cell' (i := 5) rfl
  have c436 := k420.cell' (i := 0) rfl
  have c437 := k420.cell' (i := 1) rfl
  have c438 := k420.cell' (i := 2) rfl
  have c439 := k420.cell' (i := 3) rfl
  have c440 := k420.cell' (i := 4) rfl
  have c441 := k420.cell' (i := 5) rfl
  have c442 := k421.cell' (i := 0) rfl
  have c443 := k421.cell' (i := 1) rfl
  have c444 := k421.cell' (i := 2) rfl
  have c445 := k421.cell' (i := 3) rfl
  have c446 := k421.cell' (i := 4) rfl
  have c447 := k421.cell' (i := 5) rfl
  clear h379
  go_wp2_with fail
  refine (eqRep_any _ _ _ _ _ h417.rd (RpR.more (by omega) h416)).mono ?_; rintro e W449 ⟨rfl, b448⟩
  have h450 := RpR.below (b448.mono (by omega)) h415
  have h451 := RpR.below (b448.mono (by omega)) h416
  have h452 := h412.below b448
  have h453 := h417.below b448
  have k454 := k418.call b448
  have k455 := k419.call b448
  have k456 := k420.call b448
  have k457 := k421.call b448
  have s458 : W414.heap.size ≤ W449.heap.size := b448.size
  have g459 := bthen g423 b448
  clear h415 h416 h412 h417 k418 k419 k420 k421 g423 b448 c424 c425 c426 c427 c428 c429 c430 c431 c432 c433 c434 c435 c436 c437 c438 c439 c440 c441 c442 c443 c444 c445 c446 c447
  have c460 := k454.cell' (i := 0) rfl
  have c461 := k454.cell' (i := 1) rfl
  have c462 := k454.cell' (i := 2) rfl
  have c463 := k454.cell' (i := 3) rfl
  have c464 := k454.cell' (i := 4) rfl
  have c465 := k454.cell' (i := 5) rfl
  have c466 := k455.cell' (i := 0) rfl
  have c467 := k455.cell' (i := 1) rfl
  have c468 := k455.cell' (i := 2) rfl
  have c469 := k455.cell' (i := 3) rfl
  have c470 := k455.cell' (i := 4) rfl
  have c471 := k455.cell' (i := 5) rfl
  have c472 := k456.cell' (i := 0) rfl
  have c473 := k456.cell' (i := 1) rfl
  have c474 := k456.cell' (i := 2) rfl
  have c475 := k456.cell' (i := 3) rfl
  have c476 := k456.cell' (i := 4) rfl
  have c477 := k456.cell' (i := 5) rfl
  have c478 := k457.cell' (i := 0) rfl
  have c479 := k457.cell' (i := 1) rfl
  have c480 := k457.cell' (i := 2) rfl
  have c481 := k457.cell' (i := 3) rfl
  have c482 := k457.cell' (i := 4) rfl
  have c483 := k457.cell' (i := 5) rfl
  clear h452
  go_wp2_with fail
  refine (rep_mark _ _ _ _ _ _ h453 (by omega) (by omega) (by omega) (by omega)).mono ?_; rintro e W486 ⟨rfl, h484, q485⟩
  have h487 := RpR.chg h450 q485 (by omega) (by omega)
  have h488 := RpR.chg h451 q485 (by omega) (by omega)
  have k489 := k454.chg q485 (by omega)
  have k490 := k455.chg q485 (by omega)
  have k491 := k456.chg q485 (by omega)
  have k492 := k457.chg q485 (by omega)
  have s493 : W449.heap.size ≤ W486.heap.size := q485.size
  have g494 := g459.trans (q485.below (by omega) (by omega))
  clear h450 h451 k454 k455 k456 k457 g459 q485 c460 c461 c462 c463 c464 c465 c466 c467 c468 c469 c470 c471 c472 c473 c474 c475 c476 c477 c478 c479 c480 c481 c482 c483
  have c495 := k489.cell' (i := 0) rfl
  have c496 := k489.cell' (i := 1) rfl
  have c497 := k489.cell' (i := 2) rfl
  have c498 := k489.cell' (i := 3) rfl
  have c499 := k489.cell' (i := 4) rfl
  have c500 := k489.cell' (i := 5) rfl
  have c501 := k490.cell' (i := 0) rfl
  have c502 := k490.cell' (i := 1) rfl
  have c503 := k490.cell' (i := 2) rfl
  have c504 := k490.cell' (i := 3) rfl
  have c505 := k490.cell' (i := 4) rfl
  have c506 := k490.cell' (i := 5) rfl
  have c507 := k491.cell' (i := 0) rfl
  have c508 := k491.cell' (i := 1) rfl
  have c509 := k491.cell' (i := 2) rfl
  have c510 := k491.cell' (i := 3) rfl
  have c511 := k491.cell' (i := 4) rfl
  have c512 := k491.cell' (i := 5) rfl
  have c513 := k492.cell' (i := 0) rfl
  have c514 := k492.cell' (i := 1) rfl
  have c515 := k492.cell' (i := 2) rfl
  have c516 := k492.cell' (i := 3) rfl
  have c517 := k492.cell' (i := 4) rfl
  have c518 := k492.cell' (i := 5) rfl
  clear h453
  go_wp2_with fail
  refine (rep_held _ _ _ _ h484.rd (by omega) (by omega) (by omega)).mono ?_; rintro e W520 ⟨rfl, b519⟩
  have h521 := RpR.below (b519.mono (by omega)) h487
  have h522 := RpR.below (b519.mono (by omega)) h488
  have h523 := h484.below b519
  have k524 := k489.call b519
  have k525 := k490.call b519
  have k526 := k491.call b519
  have k527 := k492.call b519
  have s528 : W486.heap.size ≤ W520.heap.size := b519.size
  have g529 := bthen g494 b519
  clear h487 h488 h484 k489 k490 k491 k492 g494 b519 c495 c496 c497 c498 c499 c500 c501 c502 c503 c504 c505 c506 c507 c508 c509 c510 c511 c512 c513 c514 c515 c516 c517 c518
  have c530 := k524.cell' (i := 0) rfl
  have c531 := k524.cell' (i := 1) rfl
  have c532 := k524.cell' (i := 2) rfl
  have c533 := k524.cell' (i := 3) rfl
  have c534 := k524.cell' (i := 4) rfl
  have c535 := k524.cell' (i := 5) rfl
  have c536 := k525.cell' (i := 0) rfl
  have c537 := k525.cell' (i := 1) rfl
  have c538 := k525.cell' (i := 2) rfl
  have c539 := k525.cell' (i := 3) rfl
  have c540 := k525.cell' (i := 4) rfl
  have c541 := k525.cell' (i := 5) rfl
  have c542 := k526.cell' (i := 0) rfl
  have c543 := k526.cell' (i := 1) rfl
  have c544 := k526.cell' (i := 2) rfl
  have c545 := k526.cell' (i := 3) rfl
  have c546 := k526.cell' (i := 4) rfl
  have c547 := k526.cell' (i := 5) rfl
  have c548 := k527.cell' (i := 0) rfl
  have c549 := k527.cell' (i := 1) rfl
  have c550 := k527.cell' (i := 2) rfl
  have c551 := k527.cell' (i := 3) rfl
  have c552 := k527.cell' (i := 4) rfl
  have c553 := k527.cell' (i := 5) rfl
  go_wp2_with fail
  refine (rep_to _ _ _ (RpR.more (by omega) h521) (by omega)).mono ?_; rintro e W557 ⟨v554, rfl, h555, b556⟩
  have h558 := RpR.below (b556.mono (by omega)) h521
  have h559 := RpR.below (b556.mono (by omega)) h522
  have h560 := h523.below b556
  have k561 := k524.call b556
  have k562 := k525.call b556
  have k563 := k526.call b556
  have k564 := k527.call b556
  have s565 : W520.heap.size ≤ W557.heap.size := b556.size
  have g566 := bthen g529 b556
  clear h521 h522 h523 k524 k525 k526 k527 g529 b556 c530 c531 c532 c533 c534 c535 c536 c537 c538 c539 c540 c541 c542 c543 c544 c545 c546 c547 c548 c549 c550 c551 c552 c553
  have c567 := k561.cell' (i := 0) rfl
  have c568 := k561.cell' (i := 1) rfl
  have c569 := k561.cell' (i := 2) rfl
  have c570 := k561.cell' (i := 3) rfl
  have c571 := k561.cell' (i := 4) rfl
  have c572 := k561.cell' (i := 5) rfl
  have c573 := k562.cell' (i := 0) rfl
  have c574 := k562.cell' (i := 1) rfl
  have c575 := k562.cell' (i := 2) rfl
  have c576 := k562.cell' (i := 3) rfl
  have c577 := k562.cell' (i := 4) rfl
  have c578 := k562.cell' (i := 5) rfl
  have c579 := k563.cell' (i := 0) rfl
  have c580 := k563.cell' (i := 1) rfl
  have c581 := k563.cell' (i := 2) rfl
  have c582 := k563.cell' (i := 3) rfl
  have c583 := k563.cell' (i := 4) rfl
  have c584 := k563.cell' (i := 5) rfl
  have c585 := k564.cell' (i := 0) rfl
  have c586 := k564.cell' (i := 1) rfl
  have c587 := k564.cell' (i := 2) rfl
  have c588 := k564.cell' (i := 3) rfl
  have c589 := k564.cell' (i := 4) rfl
  have c590 := k564.cell' (i := 5) rfl
  go_wp2_with fail
  refine (implReflectSink_any _ _ _ _ h555.rd rng_v).mono ?_; rintro e W594 ⟨r591, rfl, h592, b593⟩
  have h595 := RpR.below (b593.mono (by omega)) h558
  have h596 := RpR.below (b593.mono (by omega)) h559
  have h597 := h560.below b593
  have h598 := h555.below b593
  have k599 := k561.call b593
  have k600 := k562.call b593
  have k601 := k563.call b593
  have k602 := k564.call b593
  have s603 : W557.heap.size ≤ W594.heap.size := b593.size
  have g604 := bthen g566 b593
  clear h558 h559 h560 h555 k561 k562 k563 k564 g566 b593 c567 c568 c569 c570 c571 c572 c573 c574 c575 c576 c577 c578 c579 c580 c581 c582 c583 c584 c585 c586 c587 c588 c589 c590
  have c605 := k599.cell' (i := 0) rfl
  have c606 := k599.cell' (i := 1) rfl
  have c607 := k599.cell' (i := 2) rfl
  have c608 := k599.cell' (i := 3) rfl
  have c609 := k599.cell' (i := 4) rfl
  have c610 := k599.cell' (i := 5) rfl
  have c611 := k600.cell' (i := 0) rfl
  have c612 := k600.cell' (i := 1) rfl
  have c613 := k600.cell' (i := 2) rfl
  have c614 := k600.cell' (i := 3) rfl
  have c615 := k600.cell' (i := 4) rfl
  have c616 := k600.cell' (i := 5) rfl
  have c617 := k601.cell' (i := 0) rfl
  have c618 := k601.cell' (i := 1) rfl
  have c619 := k601.cell' (i := 2) rfl
  have c620 := k601.cell' (i := 3) rfl
  have c621 := k601.cell' (i := 4) rfl
  have c622 := k601.cell' (i := 5) rfl
  have c623 := k602.cell' (i := 0) rfl
  have c624 := k602.cell' (i := 1) rfl
  have c625 := k602.cell' (i := 2) rfl
  have c626 := k602.cell' (i := 3) rfl
  have c627 := k602.cell' (i := 4) rfl
  have c628 := k602.cell' (i := 5) rfl
  clear h598
  obtain ⟨Ax629, ax629, Cx629, cx629, Ex629, ex629, Hx629, hx629, e630⟩ := h592.form
  subst e630
  have c632 := fun o => (k599.alloc o).cell' (i := 0) rfl
  have c633 := fun o => (k599.alloc o).cell' (i := 1) rfl
  have c634 := fun o => (k599.alloc o).cell' (i := 2) rfl
  have c635 := fun o => (k599.alloc o).cell' (i := 3) rfl
  have c636 := fun o => (k599.alloc o).cell' (i := 4) rfl
  have c637 := fun o => (k599.alloc o).cell' (i := 5) rfl
  have c638 := fun o => (k600.alloc o).cell' (i := 0) rfl
  have c639 := fun o => (k600.alloc o).cell' (i := 1) rfl
  have c640 := fun o => (k600.alloc o).cell' (i := 2) rfl
  have c641 := fun o => (k600.alloc o).cell' (i := 3) rfl
  have c642 := fun o => (k600.alloc o).cell' (i := 4) rfl
  have c643 := fun o => (k600.alloc o).cell' (i := 5) rfl
  have c644 := fun o => (k601.alloc o).cell' (i := 0) rfl
  have c645 := fun o => (k601.alloc o).cell' (i := 1) rfl
  have c646 := fun o => (k601.alloc o).cell' (i := 2) rfl
  have c647 := fun o => (k601.alloc o).cell' (i := 3) rfl
  have c648 := fun o => (k601.alloc o).cell' (i := 4) rfl
  have c649 := fun o => (k601.alloc o).cell' (i := 5) rfl
  have c650 := fun o => (k602.alloc o).cell' (i := 0) rfl
  have c651 := fun o => (k602.alloc o).cell' (i := 1) rfl
  have c652 := fun o => (k602.alloc o).cell' (i := 2) rfl
  have c653 := fun o => (k602.alloc o).cell' (i := 3) rfl
  have c654 := fun o => (k602.alloc o).cell' (i := 4) rfl
  have c655 := fun o => (k602.alloc o).cell' (i := 5) rfl
  go_wp2_with fail
  obtain ⟨W656, e657⟩ : ∃ W, W = W594.alloc (.cells #[.int .i64 ((rsP r v).1).p, .int .i64 ((rsP r v).1).q.v, .slice Ax629 ((rsP r v).1).q.f.length ax629, .slice Cx629 ((rsP r v).1).q.t.length cx629, .slice Ex629 ((rsP r v).1).d.length ex629, .slice Hx629 ((rsP r v).1).m.length hx629] 31) := ⟨_, rfl⟩
  rw [← e657]
  have b658 : Below W594.heap.size W594 W656 := by rw [e657]; exact below_alloc _ _
  have k659 : Blk W656 W594.heap.size 31 #[.int .i64 ((rsP r v).1).p, .int .i64 ((rsP r v).1).q.v, .slice Ax629 ((rsP r v).1).q.f.length ax629, .slice Cx629 ((rsP r v).1).q.t.length cx629, .slice Ex629 ((rsP r v).1).d.length ex629, .slice Hx629 ((rsP r v).1).m.length hx629] := by rw [e657]; exact Blk.new _ _ _
  have s660 : W594.heap.size < W656.heap.size := by rw [e657]; simp
  clear e657
  have h661 := RpR.below (b658.mono (by omega)) h595
  have h662 := RpR.below (b658.mono (by omega)) h596
  have h663 := h597.below b658
  have h664 := h592.below b658
  have k665 := k599.call b658
  have k666 := k600.call b658
  have k667 := k601.call b658
  have k668 := k602.call b658
  have s669 : W594.heap.size ≤ W656.heap.size := b658.size
  have g670 := bthen g604 b658
  clear h595 h596 h597 h592 k599 k600 k601 k602 g604 b658 c605 c606 c607 c608 c609 c610 c611 c612 c613 c614 c615 c616 c617 c618 c619 c620 c621 c622 c623 c624 c625 c626 c627 c628 c632 c633 c634 c635 c636 c637 c638 c639 c640 c641 c642 c643 c644 c645 c646 c647 c648 c649 c650 c651 c652 c653 c654 c655
  have c671 := k665.cell' (i := 0) rfl
  have c672 := k665.cell' (i := 1) rfl
  have c673 := k665.cell' (i := 2) rfl
  have c674 := k665.cell' (i := 3) rfl
  have c675 := k665.cell' (i := 4) rfl
  have c676 := k665.cell' (i := 5) rfl
  have c677 := k666.cell' (i := 0) rfl
  have c678 := k666.cell' (i := 1) rfl
  have c679 := k666.cell' (i := 2) rfl
  have c680 := k666.cell' (i := 3) rfl
  have c681 := k666.cell' (i := 4) rfl
  have c682 := k666.cell' (i := 5) rfl
  have c683 := k667.cell' (i := 0) rfl
  have c684 := k667.cell' (i := 1) rfl
  have c685 := k667.cell' (i := 2) rfl
  have c686 := k667.cell' (i := 3) rfl
  have c687 := k667.cell' (i := 4) rfl
  have c688 := k667.cell' (i := 5) rfl
  have c689 := k668.cell' (i := 0) rfl
  have c690 := k668.cell' (i := 1) rfl
  have c691 := k668.cell' (i := 2) rfl
  have c692 := k668.cell' (i := 3) rfl
  have c693 := k668.cell' (i := 4) rfl
  have c694 := k668.cell' (i := 5) rfl
  have c695 := k659.cell' (i := 0) rfl
  have c696 := k659.cell' (i := 1) rfl
  have c697 := k659.cell' (i := 2) rfl
  have c698 := k659.cell' (i := 3) rfl
  have c699 := k659.cell' (i := 4) rfl
  have c700 := k659.cell' (i := 5) rfl
  refine (eqRep_any _ _ _ _ _ h664.rd (RpR.more (by omega) h662)).mono ?_; rintro e W701 ⟨rfl, b631⟩
  have h702 := RpR.below (b631.mono (by omega)) h661
  have h703 := RpR.below (b631.mono (by omega)) h662
  have h704 := h663.below b631
  have h705 := h664.below b631
  have k706 := k665.call b631
  have k707 := k666.call b631
  have k708 := k667.call b631
  have k709 := k668.call b631
  have k710 := k659.call b631
  have s711 : W656.heap.size ≤ W701.heap.size := b631.size
  have g712 := bthen g670 b631
  clear h661 h662 h663 h664 k665 k666 k667 k668 k659 g670 b631 c671 c672 c673 c674 c675 c676 c677 c678 c679 c680 c681 c682 c683 c684 c685 c686 c687 c688 c689 c690 c691 c692 c693 c694 c695 c696 c697 c698 c699 c700
  have c713 := k706.cell' (i := 0) rfl
  have c714 := k706.cell' (i := 1) rfl
  have c715 := k706.cell' (i := 2) rfl
  have c716 := k706.cell' (i := 3) rfl
  have c717 := k706.cell' (i := 4) rfl
  have c718 := k706.cell' (i := 5) rfl
  have c719 := k707.cell' (i := 0) rfl
  have c720 := k707.cell' (i := 1) rfl
  have c721 := k707.cell' (i := 2) rfl
  have c722 := k707.cell' (i := 3) rfl
  have c723 := k707.cell' (i := 4) rfl
  have c724 := k707.cell' (i := 5) rfl
  have c725 := k708.cell' (i := 0) rfl
  have c726 := k708.cell' (i := 1) rfl
  have c727 := k708.cell' (i := 2) rfl
  have c728 := k708.cell' (i := 3) rfl
  have c729 := k708.cell' (i := 4) rfl
  have c730 := k708.cell' (i := 5) rfl
  have c731 := k709.cell' (i := 0) rfl
  have c732 := k709.cell' (i := 1) rfl
  have c733 := k709.cell' (i := 2) rfl
  have c734 := k709.cell' (i := 3) rfl
  have c735 := k709.cell' (i := 4) rfl
  have c736 := k709.cell' (i := 5) rfl
  have c737 := k710.cell' (i := 0) rfl
  have c738 := k710.cell' (i := 1) rfl
  have c739 := k710.cell' (i := 2) rfl
  have c740 := k710.cell' (i := 3) rfl
  have c741 := k710.cell' (i := 4) rfl
  have c742 := k710.cell' (i := 5) rfl
  clear h705
  go_wp2_with fail
  refine (rep_held _ _ _ _ h704.rd (by omega) (by omega) (by omega)).mono ?_; rintro e W744 ⟨rfl, b743⟩
  have h745 := RpR.below (b743.mono (by omega)) h702
  have h746 := RpR.below (b743.mono (by omega)) h703
  have h747 := h704.below b743
  have k748 := k706.call b743
  have k749 := k707.call b743
  have k750 := k708.call b743
  have k751 := k709.call b743
  have k752 := k710.call b743
  have s753 : W701.heap.size ≤ W744.heap.size := b743.size
  have g754 := bthen g712 b743
  clear h702 h703 h704 k706 k707 k708 k709 k710 g712 b743 c713 c714 c715 c716 c717 c718 c719 c720 c721 c722 c723 c724 c725 c726 c727 c728 c729 c730 c731 c732 c733 c734 c735 c736 c737 c738 c739 c740 c741 c742
  have c755 := k748.cell' (i := 0) rfl
  have c756 := k748.cell' (i := 1) rfl
  have c757 := k748.cell' (i := 2) rfl
  have c758 := k748.cell' (i := 3) rfl
  have c759 := k748.cell' (i := 4) rfl
  have c760 := k748.cell' (i := 5) rfl
  have c761 := k749.cell' (i := 0) rfl
  have c762 := k749.cell' (i := 1) rfl
  have c763 := k749.cell' (i := 2) rfl
  have c764 := k749.cell' (i := 3) rfl
  have c765 := k749.cell' (i := 4) rfl
  have c766 := k749.cell' (i := 5) rfl
  have c767 := k750.cell' (i := 0) rfl
  have c768 := k750.cell' (i := 1) rfl
  have c769 := k750.cell' (i := 2) rfl
  have c770 := k750.cell' (i := 3) rfl
  have c771 := k750.cell' (i := 4) rfl
  have c772 := k750.cell' (i := 5) rfl
  have c773 := k751.cell' (i := 0) rfl
  have c774 := k751.cell' (i := 1) rfl
  have c775 := k751.cell' (i := 2) rfl
  have c776 := k751.cell' (i := 3) rfl
  have c777 := k751.cell' (i := 4) rfl
  have c778 := k751.cell' (i := 5) rfl
  have c779 := k752.cell' (i := 0) rfl
  have c780 := k752.cell' (i := 1) rfl
  have c781 := k752.cell' (i := 2) rfl
  have c782 := k752.cell' (i := 3) rfl
  have c783 := k752.cell' (i := 4) rfl
  have c784 := k752.cell' (i := 5) rfl
  go_wp2
  go_ret
  exact ⟨rfl, g754⟩
end Go.Proofs.Ytcmlflppndfdcaa

/- FnExactReflectSink is proved: for every argument the program's ReflectSink returns what the reference's returns, leaves its arguments as they were, and returns memory of its own. No condition. -/
namespace Go.Proofs.Ytcmlflppndfdcaa
set_option linter.unusedVariables false
set_option linter.unusedSimpArgs false
open Go.RowKit Go.ChangeShapes Go.WideShapes Go.ChangeAt Go.Deep

set_option maxRecDepth 100000 in
theorem reflectSink_lifted (os : Os) (started : os.Started) (H : Type) (enc : TypeId × Value → H) :
    ReturnsInHanded {} Try.checked os 5 .any (Rows.fnExactReflectSinkSpec.pre6 enc Try.prog Try.f5 Rows.fnExactReflectSinkRow.domain false) (Rows.fnExactReflectSinkSpec.post enc Try.prog Try.f5 false true false false) := by
  refine lift_law started (by kernel_rfl) Try.func5 (ChangeSpec.witness6 (enc := enc) (C := Try.checked) false ⟨#[], #[.agg #[.int .i64 0, .int .i64 0, .slice none 0 0, .slice none 0 0, .slice none 0 0, .slice none 0 0], .int .i64 0], []⟩ 8 (by kernel_rfl) (by kernel_rfl) (by kernel_rfl) (by kernel_rfl))
    rfl rfl (by rw [Try.params5]; intro t ht; simp only [List.mem_cons, List.not_mem_nil, or_false] at ht; rcases ht with rfl | rfl <;> exact ⟨by kernel_rfl, of_decide_eq_true (by kernel_rfl)⟩) (fun ds hl => by rw [Try.params5] at hl; match ds, hl with | [_, _], _ => rfl) ?_
  intro W args ds ps base hval hA hwt
  rw [Try.params5] at hA hval hwt
  obtain ⟨v0, v1, d0, d1, p0, p1, hargs, rfl, rfl, h0, h1⟩ := trodAll_two hA
  obtain rfl : args = #[v0, v1] := by cases args; simp_all
  obtain ⟨x0, r0⟩ := argRep (hval 0 _ _ rfl rfl) h0 (hwt 0 _ _ rfl rfl)
  obtain ⟨x1, rfl, r1⟩ := argInt (hval 1 _ _ rfl rfl) h1
  exact lawReflectSink_any _ _ _ W r0 r1

theorem reflectSink_closed : joinedFacts Try.prog 5 Try.f5 Rows.fnExactReflectSinkSpec Rows.fnExactReflectSinkRow = true := by
  unfold joinedFacts
  refine band (band (band (band (band (band (band ?_ seatEnter) seatLifts) seatMake) ?_) ?_) ?_) ?_ <;> kernel_rfl

theorem reflectSink_holds : Rows.FnExactReflectSinkSaid :=
  OpenClaim.holds_of_wide 5 Try.f5 rfl rfl rfl rfl rfl rfl rfl ⟨rfl, rfl, rfl, rfl, rfl⟩ rfl rfl rfl rfl rfl (by kernel_rfl) Try.func5 reflectSink_closed
    (of_decide_eq_true (by kernel_rfl)) (by unfold Func.isWrapper; first | (rw [if_pos (by decide +kernel)]; kernel_rfl) | (rw [if_neg (by decide +kernel)]; exact ⟨rfl, rfl⟩))
    (fun os started H enc _ => reflectSink_lifted os started H enc)
#print axioms reflectSink_holds
end Go.Proofs.Ytcmlflppndfdcaa
