/- FnExactReflectSource: for every argument the program's function returns what the reference's returns. Part 13 of 14 of the proof: RsrS. No condition. -/
import Derived.Test.YtaefpblpfjhgoaaGreatBReflectSource12
/- The reference's ReflectSource. -/
namespace Go.Proofs.YtaefpblpfjhgoaaGreat
set_option linter.unusedVariables false
set_option linter.unusedSimpArgs false
open Go.RowKit

theorem ix_pk2 {a b K yt P : Nat} (ha : a < K) (hb : b < yt) (hy : yt ≤ 4) (hK : K ≤ 24) (hP : P = a * yt) : wrap64 ((a : Int) * (yt : Int)) = (P : Int) ∧ P + b < K * yt ∧ K * yt ≤ 96 := by
  have h1 : (a + 1) * yt ≤ K * yt := Nat.mul_le_mul_right _ ha
  have h2 : K * yt ≤ 24 * 4 := Nat.mul_le_mul hK hy
  have h3 : (a + 1) * yt = a * yt + yt := by rw [Nat.add_mul, Nat.one_mul]
  refine ⟨?_, by omega, by omega⟩
  rw [show ((a : Int) * (yt : Int)) = ((a * yt : Nat) : Int) by simp, hP]
  exact IntWalk.wrap64_in _ ⟨by omega, by omega⟩
set_option maxHeartbeats 6400000 in
set_option maxRecDepth 100000 in
theorem specReflectSource_any (u : Value) (y : Rp) (v : Int) (w0 : World) (hu : RpR w0 w0.heap.size u y) (hv : I64 v) :
    Calls Tryz.prog 6 #[u, .int .i64 v] w0 fun e w' => ∃ r, e = .returned (.tuple #[r, .bool (rsrP y v).2]) ∧ RpR w' w'.heap.size r (rsrP y v).1 ∧ Below w0.heap.size w0 w' := by
  have hu' := hu
  obtain ⟨A, a, C, c, E, ec, H, hc, rfl, hqr, hdr, hmr, _⟩ := hu.open_
  clear hu
  obtain ⟨W, hW⟩ : ∃ W, W = (w0.alloc (.cells #[.int .i64 y.p, .int .i64 y.q.v, .slice A y.q.f.length a, .slice C y.q.t.length c, .slice E y.d.length ec, .slice H y.m.length hc] 32)).alloc (.cells #[.int .i64 0, .int .i64 0, .slice none 0 0, .slice none 0 0, .slice none 0 0, .slice none 0 0] 32) := ⟨_, rfl⟩
  have g0 : Below w0.heap.size w0 W := by rw [hW]; exact ((Below.refl _ _).alloc (Nat.le_refl _) _).alloc (by simp) _
  have k1 : Blk W w0.heap.size 32 #[.int .i64 y.p, .int .i64 y.q.v, .slice A y.q.f.length a, .slice C y.q.t.length c, .slice E y.d.length ec, .slice H y.m.length hc] := by rw [hW]; exact (Blk.new _ _ _).alloc _
  have k2 : Blk W (w0.heap.size + 1) 32 #[.int .i64 0, .int .i64 0, .slice none 0 0, .slice none 0 0, .slice none 0 0, .slice none 0 0] := by
    rw [hW]
    have := Blk.new (w0.alloc (.cells #[.int .i64 y.p, .int .i64 y.q.v, .slice A y.q.f.length a, .slice C y.q.t.length c, .slice E y.d.length ec, .slice H y.m.length hc] 32)) 32 #[.int .i64 0, .int .i64 0, .slice none 0 0, .slice none 0 0, .slice none 0 0, .slice none 0 0]
    simpa only [World.size_alloc] using this
  have sz : W.heap.size = w0.heap.size + 1 + 1 := by rw [hW]; simp
  have SZ := Lib.hid sz
  have HR := Lib.hid (RpR.next g0 hu')
  have HQR := Lib.hid (QvR.next g0 hqr)
  have HDR := Lib.hid (SlI.next g0 hdr)
  have HMR := Lib.hid (SlM.next g0 hmr)
  have c0 := k1.cell' (i := 0) rfl
  have c1 := k1.cell' (i := 1) rfl
  have c2 := k1.cell' (i := 2) rfl
  have c3 := k1.cell' (i := 3) rfl
  have c4 := k1.cell' (i := 4) rfl
  have c5 := k1.cell' (i := 5) rfl
  clear hu' sz hqr hdr hmr
  go_enter Tryz.func6, Tryz.ntmps6
  go_wp2_with fail
  rw [← hW]; clear hW
  refine (specOutgoingMatrix_any _ y v _ HR.out hv).mono ?_; rintro e w1 ⟨r1, rfl, hM, hb1⟩
  clear c0 c1 c2 c3 c4 c5
  rcases hok : outOk y v with _ | _
  · have hP : outP y v = (mx0, false) := by rw [outP, if_neg (by rw [hok]; decide)]
    have HE := Lib.hid (show rsrP y v = (rp0, false) by rw [rsrP, if_neg (by rw [hok]; decide)])
    rw [hP] at hM ⊢
    obtain ⟨MA, mc, em⟩ := hM.form
    simp only [mx0, List.length_nil] at em ⊢
    subst em
    obtain ⟨W2, hW2⟩ : ∃ u, w1.alloc (.cells #[.int .i64 0, .int .i64 0, .slice MA 0 mc] 50) = u := ⟨_, rfl⟩
    have ga : Below w1.heap.size w1 W2 := by rw [← hW2]; exact below_alloc _ _
    have gW := bthen hb1 ga
    have kz := k2.call gW
    have fr := kz.frozen
    have s0 := kz.cell' (i := 0) rfl
    have s1 := kz.cell' (i := 1) rfl
    have s2 := kz.cell' (i := 2) rfl
    have s3 := kz.cell' (i := 3) rfl
    have s4 := kz.cell' (i := 4) rfl
    have s5 := kz.cell' (i := 5) rfl
    have gf := g0.trans (gW.mono g0.size)
    have GF := Lib.hid gf
    clear kz gf gW hM hP hok hb1 ga k1 k2 g0
    go_wp2
    have gf := GF.out
    have hE := HE.out
    exact bodyPost_ret (v := .tuple #[.agg #[.int .i64 0, .int .i64 0, .slice none 0 0, .slice none 0 0, .slice none 0 0, .slice none 0 0], .bool false]) (by simp [results, go_sem, s0, s1, s2, s3, s4, s5]) rfl ⟨_, by rw [hE], by rw [hE]; exact (RepO.zero _ 0 0).rd, (((((gf.setCell (by simp) _).setCell (by simp) _).setCell (by simp) _).setCell (by simp) _).setCell (by simp) _).setCell (by simp) _⟩
  · obtain ⟨hy, hs⟩ : isRep y = true ∧ endV y.q.t y.q v = true := by simpa [outOk] using hok
    obtain ⟨n, D, env, hnl, hdn, hdA, hD4, hn5⟩ := vert_at hy hs
    subst env
    have hP := outP_yes hok hdA
    have hN := outS_le (v := n) (C := D) hy _ (Nat.le_refl _)
    have hqq : isQ y.q = true := (areDims_t.1 (isRep_t.1 hy).2.1).1
    have hn6 : y.q.f.length ≤ 6 := (isQ_t.1 hqq).2.2.1
    have hat := atN_out (C := D) hy hs _ (Nat.le_refl _)
    have houF := outS_inF hy rfl hdn _ (Nat.le_refl _)
    have hfld := (isRep_t.1 hy).1
    have hIp : I64 y.p := by have := isFld_r hfld; simp only [I64]; omega
    have hpr := isFld_r hfld
    have HE := Lib.hid (show rsrP y n = rfP y n (srK y n) (gSrc y n (srK y n) (srF y n)) by rw [rsrP, if_pos hok])
    rw [hP] at hM ⊢
    simp only [outM] at hM
    obtain ⟨N, hNN⟩ : ∃ N, (outS y n D y.q.f.length).1 = N := ⟨_, rfl⟩
    obtain ⟨F0, hF0⟩ : ∃ F0, (outS y n D y.q.f.length).2 = F0 := ⟨_, rfl⟩
    rw [hNN, hF0] at hM houF
    rw [hNN] at hat hN
    obtain ⟨hsr1, hsr2, hsr3⟩ := srF_ref hfld hdA hNN hF0 houF
    obtain ⟨ps0, hps0⟩ : ∃ ps0, (rdTo y.p N F0 D).2 = ps0 := ⟨_, rfl⟩
    have hpl0 := (rdTo_len y.p N F0 D).2
    have hinp := inF_pv hfld hpr.1 houF
    rw [hps0] at hsr1 hsr2 hpl0 hinp
    obtain ⟨g1, hg1⟩ : ∃ g1, (rdTo y.p ps0.length (pvF F0 ps0) N).1 = g1 := ⟨_, rfl⟩
    obtain ⟨ps, hps⟩ : ∃ ps, (rdTo y.p ps0.length (pvF F0 ps0) N).2 = ps := ⟨_, rfl⟩
    have hgp : rdTo y.p ps0.length (pvF F0 ps0) N = (g1, ps) := by rw [← hg1, ← hps]
    have hpl := (rdTo_len y.p ps0.length (pvF F0 ps0) N).1
    have hgF : InF y.p ps.length N g1 := fun i j hi hj => by
      rw [← hg1]; rw [hps] at hpl; exact inF_to hpr.1 hinp N i j (by omega) hj
    have hlead := leads2_rd hfld hpr.1 hinp
    rw [hg1, hps] at hlead
    rw [hps] at hpl
    rw [hps] at hsr1 hsr2
    rw [hg1] at hsr2
    obtain ⟨K, hK⟩ : ∃ K, srK y n = K := ⟨_, rfl⟩
    have hKf : (freeV ps N).length = K := by rw [← hK, srK, hsr1, hsr3]
    have hkl : K ≤ N := by rw [← hKf]; exact freeV_length _ _
    obtain ⟨F, hF⟩ : ∃ F, srF y n = F := ⟨_, rfl⟩
    rw [hK, hF] at HE hsr2
    rw [hKf] at hsr2
    have HSR := Lib.hid hsr2
    have HPS0 := Lib.hid hps0
    have HGP := Lib.hid hgp
    have HGF := Lib.hid hgF
    have HLE := Lib.hid hlead
    have HKF := Lib.hid hKf
    have HINP := Lib.hid hinp
    have HPR := Lib.hid hpr
    have HY := Lib.hid hy
    have HS := Lib.hid hs
    have HIN := Lib.hid houF
    have HFL := Lib.hid hfld
    have HAT := Lib.hid hat
    have HQQ := Lib.hid hqq
    have HDN := Lib.hid hdn
    have HML2 := Lib.hid (isRep_t.1 hy).2.2.1
    clear hok hP hNN hF0 hF hsr1 hsr2 hsr3 hps0 hinp hg1 hps hgp hgF hlead hKf hpr hy hs houF hfld hat hK hdA hdn hqq
    obtain ⟨MA, mc, em⟩ := hM.form
    simp only [mxF] at em hM
    rw [flat_length] at em
    subst em
    obtain ⟨ML, hML⟩ : ∃ z, N * D = z := ⟨_, rfl⟩
    rw [hML] at hM ⊢
    have HML := Lib.hid hML
    clear hML
    obtain ⟨W2, hW2⟩ : ∃ u, w1.alloc (.cells #[.int .i64 N, .int .i64 D, .slice MA ML mc] 50) = u := ⟨_, rfl⟩
    have ga : Below w1.heap.size w1 W2 := by rw [← hW2]; exact below_alloc _ _
    have kM : Blk W2 w1.heap.size 50 #[.int .i64 N, .int .i64 D, .slice MA ML mc] := by rw [← hW2]; exact Blk.new _ _ _
    have gW := bthen hb1 ga
    have k12 := k1.call gW
    have c1 := k12.cell' (i := 1) rfl
    have c2 := k12.cell' (i := 2) rfl
    have c3 := k12.cell' (i := 3) rfl
    have HM := Lib.hid (hM.below ga).rd
    have GW := Lib.hid gW
    clear hM hb1 ga gW k12
    go_wp2_with fail
    clear hW2
    refine (specReverseAt_any _ y.q n _ (QvR.next GW.out HQR.out) HQQ.out (.inl HS.out)).mono ?_; rintro e w3 ⟨v3, rfl, hQ3, hb3⟩
    obtain ⟨QA, qa, QB, qb, ev⟩ := hQ3.form
    obtain ⟨l1, l2, l3⟩ := rvQ_len y.q n
    rw [l1, l2, l3] at ev
    subst ev
    obtain ⟨W4, hW4⟩ : ∃ u, w3.alloc (.cells #[.int .i64 y.q.v, .slice QA y.q.f.length qa, .slice QB y.q.f.length qb] 29) = u := ⟨_, rfl⟩
    have ga : Below w3.heap.size w3 W4 := by rw [← hW4]; exact below_alloc _ _
    have kq : Blk W4 w3.heap.size 29 #[.int .i64 y.q.v, .slice QA y.q.f.length qa, .slice QB y.q.f.length qb] := by rw [← hW4]; exact Blk.new _ _ _
    have g34 := bthen hb3 ga
    have G4 := Lib.hid (GW.out.trans (g34.mono GW.out.size))
    have HQ4 := Lib.hid (hQ3.below ga).rd
    have HM4 := Lib.hid (MxR.next g34 HM.out)
    have kM4 := kM.call g34
    have k14 := k1.call G4.out
    clear c1 c2 c3 l1 l2 l3 hQ3 hb3 ga g34 kM
    go_wp2
    clear hW4
    have s4w := kM4.lt
    refine wp_region_net2 (by kernel_rfl) [.eq (.pointer (some ⟨w0.heap.size, 0, none⟩)), .eq (.int .i64 y.p), .eq (.pointer (some ⟨w0.heap.size, 0, none⟩)), .eq (.int .i64 y.p), .eq (.pointer (some ⟨w1.heap.size, 0, none⟩)), .eq (.int .i64 N), .eq (.pointer (some ⟨w0.heap.size, 0, none⟩)), .eq (.int .i64 y.p), .eq (.agg #[.int .i64 N, .int .i64 D, .slice MA ML mc]), rel 9 (fun u lo hi w => IntssO w lo hi u (rowsF ps0.length N (pvF F0 ps0))), rel 10 (fun u lo hi w => ∃ GA gc, u = .agg #[.int .i64 N, .slice GA ps.length gc] ∧ IntssO w lo hi (.slice GA ps.length gc) (rowsF ps.length N g1)), .rel (fun x w => ∃ FA FL fc x2 y2 A2 n2 c2, x.v 11 = .tuple #[.agg #[.int .i64 K, .int .i64 N, .slice FA FL fc], .agg #[.int .i64 x2, .int .i64 y2, .slice A2 n2 c2]] ∧ MxO w (x.lo 11) (x.hi 11) (.agg #[.int .i64 K, .int .i64 N, .slice FA FL fc]) (mxF K N F)), .rel (fun x w => x.v 12 = x.v 11), .rel (fun x w => ∃ a b, x.v 11 = .tuple #[a, b] ∧ x.v 13 = a), .rel (fun x w => ∃ a b, x.v 11 = .tuple #[a, b] ∧ x.v 14 = b), rel 15 (fun u lo hi w => ∃ gp, u = .pointer (some ⟨gp, 0, none⟩) ∧ (lo ≤ gp ∧ gp < hi) ∧ Blk w gp 50 #[.int .i64 0, .int .i64 0, .slice none 0 0]), rel 16 (fun u lo hi w => ∃ gp, u = .pointer (some ⟨gp, 0, none⟩) ∧ (lo ≤ gp ∧ gp < hi) ∧ Blk w gp 50 #[.int .i64 0, .int .i64 0, .slice none 0 0])] [[], [0], [], [2], [], [4], [], [6], [], [6, 7, 8], [2, 3, 4, 5, 6, 7, 8, 9], [0, 1, 2, 3, 4, 5, 6, 7, 8, 9, 10], [0, 1, 2, 3, 4, 5, 6, 7, 8, 9, 10, 11], [0, 1, 2, 3, 4, 5, 6, 7, 8, 9, 10, 11, 12], [0, 1, 2, 3, 4, 5, 6, 7, 8, 9, 10, 11, 12], [], [], [0, 1, 2, 3, 4, 5, 6, 7, 8, 9, 10, 11, 12, 13, 15, 16], [0, 1, 2, 3, 4, 5, 6, 7, 8, 9, 10, 11, 12, 13, 14, 15, 16, 17]] 17 14 [0, 1, 2, 3, 4, 5, 6, 7, 8, 9, 10, 11, 12, 13, 15, 16] (by kernel_rfl) rfl ⟨trivial, trivial, trivial, trivial, trivial, trivial, trivial, trivial, trivial, rel_stable (fun u lo hi w w' h hb => h.below hb), rel_stable (fun u lo hi w w' ⟨GA, gc, e, h⟩ hb => ⟨GA, gc, e, h.below hb⟩), fun x w w' ⟨FA, FL, fc, x2, y2, A2, n2, c2, e, h⟩ hb => ⟨FA, FL, fc, x2, y2, A2, n2, c2, e, h.below hb⟩, fun x w w' e hb => e, fun x w w' e hb => e, fun x w w' e hb => e, rel_stable (fun u lo hi w w' ⟨gp, e, h1, h⟩ hb => ⟨gp, e, h1, h.call hb⟩), rel_stable (fun u lo hi w w' ⟨gp, e, h1, h⟩ hb => ⟨gp, e, h1, h.call hb⟩), trivial⟩ ⟨?_, ?_, ?_, ?_, ?_, ?_, ?_, ?_, ?_, ?_, ?_, ?_, ?_, ?_, ?_, ?_, ?_, trivial⟩ ?_ ?_
    · intro x w hb hk Q' hQ
      clear hk
      simp only [netAct, dstAt, List.getElem?_toArray, List.getElem?_cons_zero, List.getElem?_cons_succ, Option.bind_some, Act.put, List.setIfInBounds_toArray, List.set_cons_zero, List.set_cons_succ] at hQ ⊢
      go_wp2
      exact hQ (.pointer (some ⟨w0.heap.size, 0, none⟩)) _ (Below.refl _ _) rfl
    · intro x w hb hk Q' hQ
      have h0 : x.v 0 = .pointer (some ⟨w0.heap.size, 0, none⟩) := (hk 0 (by decide)).1
      clear hk
      simp only [netAct, dstAt, List.getElem?_toArray, List.getElem?_cons_zero, List.getElem?_cons_succ, Option.bind_some, Act.put, List.setIfInBounds_toArray, List.set_cons_zero, List.set_cons_succ] at hQ ⊢
      simp only [h0] at hQ ⊢
      clear h0
      have z := (k14.call hb).cell' (i := 0) rfl
      go_wp2
      exact hQ (.int .i64 y.p) _ (Below.refl _ _) rfl
    · intro x w hb hk Q' hQ
      clear hk
      simp only [netAct, dstAt, List.getElem?_toArray, List.getElem?_cons_zero, List.getElem?_cons_succ, Option.bind_some, Act.put, List.setIfInBounds_toArray, List.set_cons_zero, List.set_cons_succ] at hQ ⊢
      go_wp2
      exact hQ (.pointer (some ⟨w0.heap.size, 0, none⟩)) _ (Below.refl _ _) rfl
    · intro x w hb hk Q' hQ
      have h2 : x.v 2 = .pointer (some ⟨w0.heap.size, 0, none⟩) := (hk 2 (by decide)).1
      clear hk
      simp only [netAct, dstAt, List.getElem?_toArray, List.getElem?_cons_zero, List.getElem?_cons_succ, Option.bind_some, Act.put, List.setIfInBounds_toArray, List.set_cons_zero, List.set_cons_succ] at hQ ⊢
      simp only [h2] at hQ ⊢
      clear h2
      have z := (k14.call hb).cell' (i := 0) rfl
      go_wp2
      exact hQ (.int .i64 y.p) _ (Below.refl _ _) rfl
    · intro x w hb hk Q' hQ
      clear hk
      simp only [netAct, dstAt, List.getElem?_toArray, List.getElem?_cons_zero, List.getElem?_cons_succ, Option.bind_some, Act.put, List.setIfInBounds_toArray, List.set_cons_zero, List.set_cons_succ] at hQ ⊢
      go_wp2
      exact hQ (.pointer (some ⟨w1.heap.size, 0, none⟩)) _ (Below.refl _ _) rfl
    · intro x w hb hk Q' hQ
      have h4 : x.v 4 = .pointer (some ⟨w1.heap.size, 0, none⟩) := (hk 4 (by decide)).1
      clear hk
      simp only [netAct, dstAt, List.getElem?_toArray, List.getElem?_cons_zero, List.getElem?_cons_succ, Option.bind_some, Act.put, List.setIfInBounds_toArray, List.set_cons_zero, List.set_cons_succ] at hQ ⊢
      simp only [h4] at hQ ⊢
      clear h4
      have z := (kM4.call hb).cell' (i := 0) rfl
      go_wp2
      exact hQ (.int .i64 N) _ (Below.refl _ _) rfl
    · intro x w hb hk Q' hQ
      clear hk
      simp only [netAct, dstAt, List.getElem?_toArray, List.getElem?_cons_zero, List.getElem?_cons_succ, Option.bind_some, Act.put, List.setIfInBounds_toArray, List.set_cons_zero, List.set_cons_succ] at hQ ⊢
      go_wp2
      exact hQ (.pointer (some ⟨w0.heap.size, 0, none⟩)) _ (Below.refl _ _) rfl
    · intro x w hb hk Q' hQ
      have h6 : x.v 6 = .pointer (some ⟨w0.heap.size, 0, none⟩) := (hk 6 (by decide)).1
      clear hk
      simp only [netAct, dstAt, List.getElem?_toArray, List.getElem?_cons_zero, List.getElem?_cons_succ, Option.bind_some, Act.put, List.setIfInBounds_toArray, List.set_cons_zero, List.set_cons_succ] at hQ ⊢
      simp only [h6] at hQ ⊢
      clear h6
      have z := (k14.call hb).cell' (i := 0) rfl
      go_wp2
      exact hQ (.int .i64 y.p) _ (Below.refl _ _) rfl
    · intro x w hb hk Q' hQ
      clear hk
      simp only [netAct, dstAt, List.getElem?_toArray, List.getElem?_cons_zero, List.getElem?_cons_succ, Option.bind_some, Act.put, List.setIfInBounds_toArray, List.set_cons_zero, List.set_cons_succ] at hQ ⊢
      have z0 := (kM4.call hb).cell' (i := 0) rfl
      have z1 := (kM4.call hb).cell' (i := 1) rfl
      have z2 := (kM4.call hb).cell' (i := 2) rfl
      go_wp2
      exact hQ (.agg #[.int .i64 N, .int .i64 D, .slice MA ML mc]) _ (Below.refl _ _) rfl
    · intro x w hb hk Q' hQ
      have h6 : x.v 6 = .pointer (some ⟨w0.heap.size, 0, none⟩) := (hk 6 (by decide)).1
      have h7 : x.v 7 = .int .i64 y.p := (hk 7 (by decide)).1
      have h8 : x.v 8 = .agg #[.int .i64 N, .int .i64 D, .slice MA ML mc] := (hk 8 (by decide)).1
      clear hk
      simp only [netAct, dstAt, List.getElem?_toArray, List.getElem?_cons_zero, List.getElem?_cons_succ, Option.bind_some, Act.put, List.setIfInBounds_toArray, List.set_cons_zero, List.set_cons_succ] at hQ ⊢
      simp only [h6, h7, h8] at hQ ⊢
      clear h6 h7 h8
      go_wp2_with fail
      refine (l4Image_any y.p _ N D F0 _ HFL.out (by omega) (by omega) (MxR.next hb HM4.out) HIN.out).mono ?_; rintro e w6 ⟨v6, rfl, ho6, hb6⟩
      rw [HPS0.out] at ho6
      go_wp2
      exact hQ _ _ hb6 ho6
    · intro x w hb hk Q' hQ
      have h2 : x.v 2 = .pointer (some ⟨w0.heap.size, 0, none⟩) := (hk 2 (by decide)).1
      have h3 : x.v 3 = .int .i64 y.p := (hk 3 (by decide)).1
      have h4 : x.v 4 = .pointer (some ⟨w1.heap.size, 0, none⟩) := (hk 4 (by decide)).1
      have h5 : x.v 5 = .int .i64 N := (hk 5 (by decide)).1
      have h6 : x.v 6 = .pointer (some ⟨w0.heap.size, 0, none⟩) := (hk 6 (by decide)).1
      have h7 : x.v 7 = .int .i64 y.p := (hk 7 (by decide)).1
      have h8 : x.v 8 = .agg #[.int .i64 N, .int .i64 D, .slice MA ML mc] := (hk 8 (by decide)).1
      have h9 : IntssO w (x.lo 9) (x.hi 9) (x.v 9) (rowsF ps0.length N (pvF F0 ps0)) := (hk 9 (by decide)).1
      have s9 := (hk 9 (by decide)).2
      clear hk
      simp only [netAct, dstAt, List.getElem?_toArray, List.getElem?_cons_zero, List.getElem?_cons_succ, Option.bind_some, Act.put, List.setIfInBounds_toArray, List.set_cons_zero, List.set_cons_succ] at hQ ⊢
      simp only [h2, h3, h4, h5, h6, h7, h8] at hQ ⊢
      clear h2 h3 h4 h5 h6 h7 h8
      obtain ⟨CA, cc, e5, _⟩ := h9.form2
      rw [e5] at h9 hQ ⊢
      rw [rowsF_length] at h9 hQ ⊢
      go_wp2_with fail
      refine (l5Span_any y.p _ ps0.length N (pvF F0 ps0) _ HFL.out (by omega) (by omega) h9.rd HINP.out).mono ?_; rintro e w6 ⟨v6, rfl, ho6, hb6⟩
      rw [HGP.out] at ho6
      obtain ⟨GA, gc, e6, _⟩ := ho6.form2
      rw [rowsF_length] at e6
      subst e6
      go_wp2
      exact hQ _ _ hb6 ⟨GA, gc, rfl, ho6⟩
    · intro x w hb hk Q' hQ
      have h0 : x.v 0 = .pointer (some ⟨w0.heap.size, 0, none⟩) := (hk 0 (by decide)).1
      have h1 : x.v 1 = .int .i64 y.p := (hk 1 (by decide)).1
      have h2 : x.v 2 = .pointer (some ⟨w0.heap.size, 0, none⟩) := (hk 2 (by decide)).1
      have h3 : x.v 3 = .int .i64 y.p := (hk 3 (by decide)).1
      have h4 : x.v 4 = .pointer (some ⟨w1.heap.size, 0, none⟩) := (hk 4 (by decide)).1
      have h5 : x.v 5 = .int .i64 N := (hk 5 (by decide)).1
      have h6 : x.v 6 = .pointer (some ⟨w0.heap.size, 0, none⟩) := (hk 6 (by decide)).1
      have h7 : x.v 7 = .int .i64 y.p := (hk 7 (by decide)).1
      have h8 : x.v 8 = .agg #[.int .i64 N, .int .i64 D, .slice MA ML mc] := (hk 8 (by decide)).1
      have h9 : IntssO w (x.lo 9) (x.hi 9) (x.v 9) (rowsF ps0.length N (pvF F0 ps0)) := (hk 9 (by decide)).1
      have h10 : ∃ GA gc, (x.v 10) = .agg #[.int .i64 N, .slice GA ps.length gc] ∧ IntssO w (x.lo 10) (x.hi 10) (.slice GA ps.length gc) (rowsF ps.length N g1) := (hk 10 (by decide)).1
      have s9 := (hk 9 (by decide)).2
      have s10 := (hk 10 (by decide)).2
      clear hk
      simp only [netAct, dstAt, List.getElem?_toArray, List.getElem?_cons_zero, List.getElem?_cons_succ, Option.bind_some, Act.put, List.setIfInBounds_toArray, List.set_cons_zero, List.set_cons_succ] at hQ ⊢
      simp only [h0, h1, h2, h3, h4, h5, h6, h7, h8] at hQ ⊢
      clear h0 h1 h2 h3 h4 h5 h6 h7 h8
      obtain ⟨GA, gc, e10, h10⟩ := h10
      rw [e10] at hQ ⊢
      go_wp2_with fail
      refine (l12Project_any y.p ps.length N g1 ps _ _ HPR.out (by omega) (by omega) h10.rd HGF.out HLE.out).mono ?_; rintro e w6 ⟨v6, x2, y2, A2, n2, c2, rfl, ho6, hb6⟩
      rw [HKF.out, ← HSR.out] at ho6
      obtain ⟨FA, fc, e6⟩ := ho6.form
      simp only [mxF] at e6
      subst e6
      go_wp2
      exact hQ _ _ hb6 ⟨FA, _, fc, x2, y2, A2, n2, c2, rfl, ho6⟩
    · intro x w hb hk Q' hQ
      have h0 : x.v 0 = .pointer (some ⟨w0.heap.size, 0, none⟩) := (hk 0 (by decide)).1
      have h1 : x.v 1 = .int .i64 y.p := (hk 1 (by decide)).1
      have h2 : x.v 2 = .pointer (some ⟨w0.heap.size, 0, none⟩) := (hk 2 (by decide)).1
      have h3 : x.v 3 = .int .i64 y.p := (hk 3 (by decide)).1
      have h4 : x.v 4 = .pointer (some ⟨w1.heap.size, 0, none⟩) := (hk 4 (by decide)).1
      have h5 : x.v 5 = .int .i64 N := (hk 5 (by decide)).1
      have h6 : x.v 6 = .pointer (some ⟨w0.heap.size, 0, none⟩) := (hk 6 (by decide)).1
      have h7 : x.v 7 = .int .i64 y.p := (hk 7 (by decide)).1
      have h8 : x.v 8 = .agg #[.int .i64 N, .int .i64 D, .slice MA ML mc] := (hk 8 (by decide)).1
      have h9 : IntssO w (x.lo 9) (x.hi 9) (x.v 9) (rowsF ps0.length N (pvF F0 ps0)) := (hk 9 (by decide)).1
      have h10 : ∃ GA gc, (x.v 10) = .agg #[.int .i64 N, .slice GA ps.length gc] ∧ IntssO w (x.lo 10) (x.hi 10) (.slice GA ps.length gc) (rowsF ps.length N g1) := (hk 10 (by decide)).1
      have h11 : ∃ FA FL fc x2 y2 A2 n2 c2, x.v 11 = .tuple #[.agg #[.int .i64 K, .int .i64 N, .slice FA FL fc], .agg #[.int .i64 x2, .int .i64 y2, .slice A2 n2 c2]] ∧ MxO w (x.lo 11) (x.hi 11) (.agg #[.int .i64 K, .int .i64 N, .slice FA FL fc]) (mxF K N F) := (hk 11 (by decide)).1
      have s9 := (hk 9 (by decide)).2
      have s10 := (hk 10 (by decide)).2
      have s11 := (hk 11 (by decide)).2
      clear hk
      simp only [netAct, dstAt, List.getElem?_toArray, List.getElem?_cons_zero, List.getElem?_cons_succ, Option.bind_some, Act.put, List.setIfInBounds_toArray, List.set_cons_zero, List.set_cons_succ] at hQ ⊢
      simp only [h0, h1, h2, h3, h4, h5, h6, h7, h8] at hQ ⊢
      clear h0 h1 h2 h3 h4 h5 h6 h7 h8
      obtain ⟨FA, FL, fc, x2, y2, A2, n2, c2, e, _⟩ := h11
      have hQ' := hQ (x.v 11) w (Below.refl _ _) rfl
      rw [e] at hQ' ⊢
      go_wp2
      exact hQ'
    · intro x w hb hk Q' hQ
      have h0 : x.v 0 = .pointer (some ⟨w0.heap.size, 0, none⟩) := (hk 0 (by decide)).1
      have h1 : x.v 1 = .int .i64 y.p := (hk 1 (by decide)).1
      have h2 : x.v 2 = .pointer (some ⟨w0.heap.size, 0, none⟩) := (hk 2 (by decide)).1
      have h3 : x.v 3 = .int .i64 y.p := (hk 3 (by decide)).1
      have h4 : x.v 4 = .pointer (some ⟨w1.heap.size, 0, none⟩) := (hk 4 (by decide)).1
      have h5 : x.v 5 = .int .i64 N := (hk 5 (by decide)).1
      have h6 : x.v 6 = .pointer (some ⟨w0.heap.size, 0, none⟩) := (hk 6 (by decide)).1
      have h7 : x.v 7 = .int .i64 y.p := (hk 7 (by decide)).1
      have h8 : x.v 8 = .agg #[.int .i64 N, .int .i64 D, .slice MA ML mc] := (hk 8 (by decide)).1
      have h9 : IntssO w (x.lo 9) (x.hi 9) (x.v 9) (rowsF ps0.length N (pvF F0 ps0)) := (hk 9 (by decide)).1
      have h10 : ∃ GA gc, (x.v 10) = .agg #[.int .i64 N, .slice GA ps.length gc] ∧ IntssO w (x.lo 10) (x.hi 10) (.slice GA ps.length gc) (rowsF ps.length N g1) := (hk 10 (by decide)).1
      have h11 : ∃ FA FL fc x2 y2 A2 n2 c2, x.v 11 = .tuple #[.agg #[.int .i64 K, .int .i64 N, .slice FA FL fc], .agg #[.int .i64 x2, .int .i64 y2, .slice A2 n2 c2]] ∧ MxO w (x.lo 11) (x.hi 11) (.agg #[.int .i64 K, .int .i64 N, .slice FA FL fc]) (mxF K N F) := (hk 11 (by decide)).1
      have h12 : x.v 12 = x.v 11 := (hk 12 (by decide)).1
      have s9 := (hk 9 (by decide)).2
      have s10 := (hk 10 (by decide)).2
      have s11 := (hk 11 (by decide)).2
      have s12 := (hk 12 (by decide)).2
      clear hk
      simp only [netAct, dstAt, List.getElem?_toArray, List.getElem?_cons_zero, List.getElem?_cons_succ, Option.bind_some, Act.put, List.setIfInBounds_toArray, List.set_cons_zero, List.set_cons_succ] at hQ ⊢
      simp only [h0, h1, h2, h3, h4, h5, h6, h7, h8] at hQ ⊢
      clear h0 h1 h2 h3 h4 h5 h6 h7 h8
      obtain ⟨FA, FL, fc, x2, y2, A2, n2, c2, e, _⟩ := h11
      have hQ' := hQ (.agg #[.int .i64 K, .int .i64 N, .slice FA FL fc]) w (Below.refl _ _) ⟨_, _, e, rfl⟩
      rw [h12, e] at hQ' ⊢
      go_wp2
      exact hQ'
    · intro x w hb hk Q' hQ
      have h0 : x.v 0 = .pointer (some ⟨w0.heap.size, 0, none⟩) := (hk 0 (by decide)).1
      have h1 : x.v 1 = .int .i64 y.p := (hk 1 (by decide)).1
      have h2 : x.v 2 = .pointer (some ⟨w0.heap.size, 0, none⟩) := (hk 2 (by decide)).1
      have h3 : x.v 3 = .int .i64 y.p := (hk 3 (by decide)).1
      have h4 : x.v 4 = .pointer (some ⟨w1.heap.size, 0, none⟩) := (hk 4 (by decide)).1
      have h5 : x.v 5 = .int .i64 N := (hk 5 (by decide)).1
      have h6 : x.v 6 = .pointer (some ⟨w0.heap.size, 0, none⟩) := (hk 6 (by decide)).1
      have h7 : x.v 7 = .int .i64 y.p := (hk 7 (by decide)).1
      have h8 : x.v 8 = .agg #[.int .i64 N, .int .i64 D, .slice MA ML mc] := (hk 8 (by decide)).1
      have h9 : IntssO w (x.lo 9) (x.hi 9) (x.v 9) (rowsF ps0.length N (pvF F0 ps0)) := (hk 9 (by decide)).1
      have h10 : ∃ GA gc, (x.v 10) = .agg #[.int .i64 N, .slice GA ps.length gc] ∧ IntssO w (x.lo 10) (x.hi 10) (.slice GA ps.length gc) (rowsF ps.length N g1) := (hk 10 (by decide)).1
      have h11 : ∃ FA FL fc x2 y2 A2 n2 c2, x.v 11 = .tuple #[.agg #[.int .i64 K, .int .i64 N, .slice FA FL fc], .agg #[.int .i64 x2, .int .i64 y2, .slice A2 n2 c2]] ∧ MxO w (x.lo 11) (x.hi 11) (.agg #[.int .i64 K, .int .i64 N, .slice FA FL fc]) (mxF K N F) := (hk 11 (by decide)).1
      have h12 : x.v 12 = x.v 11 := (hk 12 (by decide)).1
      have s9 := (hk 9 (by decide)).2
      have s10 := (hk 10 (by decide)).2
      have s11 := (hk 11 (by decide)).2
      have s12 := (hk 12 (by decide)).2
      clear hk
      simp only [netAct, dstAt, List.getElem?_toArray, List.getElem?_cons_zero, List.getElem?_cons_succ, Option.bind_some, Act.put, List.setIfInBounds_toArray, List.set_cons_zero, List.set_cons_succ] at hQ ⊢
      simp only [h0, h1, h2, h3, h4, h5, h6, h7, h8] at hQ ⊢
      clear h0 h1 h2 h3 h4 h5 h6 h7 h8
      obtain ⟨FA, FL, fc, x2, y2, A2, n2, c2, e, _⟩ := h11
      have hQ' := hQ (.agg #[.int .i64 x2, .int .i64 y2, .slice A2 n2 c2]) w (Below.refl _ _) ⟨_, _, e, rfl⟩
      rw [h12, e] at hQ' ⊢
      go_wp2
      exact hQ'
    · intro x w hb hk Q' hQ
      clear hk
      simp only [netAct, dstAt, List.getElem?_toArray, List.getElem?_cons_zero, List.getElem?_cons_succ, Option.bind_some, Act.put, List.setIfInBounds_toArray, List.set_cons_zero, List.set_cons_succ] at hQ ⊢
      go_wp2
      exact hQ _ _ (below_alloc _ _) ⟨_, rfl, ⟨Nat.le_refl _, by show w.heap.size < (w.alloc _).heap.size; simp⟩, Blk.new _ _ _⟩
    · intro x w hb hk Q' hQ
      clear hk
      simp only [netAct, dstAt, List.getElem?_toArray, List.getElem?_cons_zero, List.getElem?_cons_succ, Option.bind_some, Act.put, List.setIfInBounds_toArray, List.set_cons_zero, List.set_cons_succ] at hQ ⊢
      go_wp2
      exact hQ _ _ (below_alloc _ _) ⟨_, rfl, ⟨Nat.le_refl _, by show w.heap.size < (w.alloc _).heap.size; simp⟩, Blk.new _ _ _⟩
    · intro x w hb hk hiv hdj
      have h0 : x.v 0 = .pointer (some ⟨w0.heap.size, 0, none⟩) := hk 0 (by decide)
      have h1 : x.v 1 = .int .i64 y.p := hk 1 (by decide)
      have h2 : x.v 2 = .pointer (some ⟨w0.heap.size, 0, none⟩) := hk 2 (by decide)
      have h3 : x.v 3 = .int .i64 y.p := hk 3 (by decide)
      have h4 : x.v 4 = .pointer (some ⟨w1.heap.size, 0, none⟩) := hk 4 (by decide)
      have h5 : x.v 5 = .int .i64 N := hk 5 (by decide)
      have h6 : x.v 6 = .pointer (some ⟨w0.heap.size, 0, none⟩) := hk 6 (by decide)
      have h7 : x.v 7 = .int .i64 y.p := hk 7 (by decide)
      have h8 : x.v 8 = .agg #[.int .i64 N, .int .i64 D, .slice MA ML mc] := hk 8 (by decide)
      have h9 : IntssO w (x.lo 9) (x.hi 9) (x.v 9) (rowsF ps0.length N (pvF F0 ps0)) := hk 9 (by decide)
      have h10 : ∃ GA gc, (x.v 10) = .agg #[.int .i64 N, .slice GA ps.length gc] ∧ IntssO w (x.lo 10) (x.hi 10) (.slice GA ps.length gc) (rowsF ps.length N g1) := hk 10 (by decide)
      have h11 : ∃ FA FL fc x2 y2 A2 n2 c2, x.v 11 = .tuple #[.agg #[.int .i64 K, .int .i64 N, .slice FA FL fc], .agg #[.int .i64 x2, .int .i64 y2, .slice A2 n2 c2]] ∧ MxO w (x.lo 11) (x.hi 11) (.agg #[.int .i64 K, .int .i64 N, .slice FA FL fc]) (mxF K N F) := hk 11 (by decide)
      have h12 : x.v 12 = x.v 11 := hk 12 (by decide)
      have h13 : ∃ a b, x.v 11 = .tuple #[a, b] ∧ x.v 13 = a := hk 13 (by decide)
      have h14 : ∃ a b, x.v 11 = .tuple #[a, b] ∧ x.v 14 = b := hk 14 (by decide)
      have h15 : ∃ gp, (x.v 15) = .pointer (some ⟨gp, 0, none⟩) ∧ ((x.lo 15) ≤ gp ∧ gp < (x.hi 15)) ∧ Blk w gp 50 #[.int .i64 0, .int .i64 0, .slice none 0 0] := hk 15 (by decide)
      have h16 : ∃ gp, (x.v 16) = .pointer (some ⟨gp, 0, none⟩) ∧ ((x.lo 16) ≤ gp ∧ gp < (x.hi 16)) ∧ Blk w gp 50 #[.int .i64 0, .int .i64 0, .slice none 0 0] := hk 16 (by decide)
      clear hk
      simp only [netAct, dstAt, List.getElem?_toArray, List.getElem?_cons_zero, List.getElem?_cons_succ, Option.bind_some, Act.put, List.setIfInBounds_toArray, List.set_cons_zero, List.set_cons_succ]
      simp only [List.drop_succ_cons, List.drop_zero, h0, h1, h2, h3, h4, h5, h6, h7, h8]
      clear h0 h1 h2 h3 h4 h5 h6 h7 h8
      obtain ⟨FA, FL, fc, x2, y2, A2, n2, c2, e11, hMF⟩ := h11
      obtain ⟨a13, b13, e13a, e13⟩ := h13
      rw [e11] at e13a
      simp only [Value.tuple.injEq, Array.mk.injEq, List.cons.injEq, and_true] at e13a
      obtain ⟨ea1, ea2⟩ := e13a
      subst ea1 ea2
      obtain ⟨ga, e15, hga, kA⟩ := h15
      obtain ⟨gb, e16, hgb, kB⟩ := h16
      try
        obtain ⟨a14, b14, e14a, e14⟩ := h14
        rw [e11] at e14a
        simp only [Value.tuple.injEq, Array.mk.injEq, List.cons.injEq, and_true] at e14a
        obtain ⟨eb1, eb2⟩ := e14a
        subst eb1 eb2
        rw [e14]
      rw [e13, h12, e11, e15, e16]
      have i11 := hiv 11 (by decide)
      have i15 := hiv 15 (by decide)
      have i16 := hiv 16 (by decide)
      have d1 := hdj 11 15 (by decide) (by decide) (by decide)
      have d2 := hdj 11 16 (by decide) (by decide) (by decide)
      have d3 := hdj 15 16 (by decide) (by decide) (by decide)
      have hab : ga ≠ gb := by omega
      have fA := kA.frozen
      have fB := kB.frozen
      have a0 := kA.cell' (i := 0) rfl
      have a1 := kA.cell' (i := 1) rfl
      have a2 := kA.cell' (i := 2) rfl
      have b0 := kB.cell' (i := 0) rfl
      have b1 := kB.cell' (i := 1) rfl
      have b2 := kB.cell' (i := 2) rfl
      obtain ⟨wA, hwA⟩ : ∃ z, set3 w ga 0 (.int .i64 K) (.int .i64 N) (.slice FA FL fc) = z := ⟨_, rfl⟩
      have hcA : Chg ga (ga + 1) w wA := by rw [← hwA]; exact chg_set3 _ _ _ _ _ _
      have kA3 : Blk wA ga 50 #[.int .i64 K, .int .i64 N, .slice FA FL fc] := by rw [← hwA]; exact ((kA.set_ 0 _).set_ 1 _).set_ 2 _
      obtain ⟨w5, hw5⟩ : ∃ z, set3 wA gb 0 (.int .i64 x2) (.int .i64 y2) (.slice A2 n2 c2) = z := ⟨_, rfl⟩
      have hcB : Chg gb (gb + 1) wA w5 := by rw [← hw5]; exact chg_set3 _ _ _ _ _ _
      have hbs := hb.size
      have hsA := hcA.size
      have kf5 := kA3.chg hcB (by omega)
      have hb5 : Below W4.heap.size W4 w5 := (hb.trans (hcA.below (by omega) (by omega))).trans (hcB.below (by omega) (by omega))
      have HK5 := Lib.hid (((hMF.chg hcA (by omega)).chg hcB (by omega)).rd)
      have G5 := Lib.hid (G4.out.trans (hb5.mono G4.out.size))
      have HQ5 := Lib.hid (QvR.next hb5 HQ4.out)
      have kq5 := kq.call hb5
      have k15 := k1.call G5.out
      rw [← hwA] at hw5
      clear hMF kA kB hga hgb i11 i15 i16 d1 d2 d3 hcA hcB hwA kA3 hb hb5 hiv hdj e11 e13 e15 e16 h12 hbs hsA
      obtain ⟨X, hX⟩ : ∃ z, w5.alloc (.cells #[] 3) = z := ⟨_, rfl⟩
      have bX : Below w5.heap.size w5 X := by rw [← hX]; exact below_alloc _ _
      have kX : Blk X w5.heap.size 3 #[] := by rw [← hX]; exact Blk.new _ _ _
      have HDX := Lib.hid (SlI.next (bthen G5.out bX) HDR.out)
      have c4 := (k15.call bX).cell' (i := 4) rfl
      obtain ⟨gx, hgx⟩ : ∃ z, w5.heap.size = z := ⟨_, rfl⟩
      rw [hgx] at kX
      (go_wp2_with (at_builtin; refine Hold.stop ?_)); unfold Hold
      clear hX
      refine wpList_append_fresh (by rfl) (.tmp 49) (.tmp 51) (by rfl) gx gx X.heap.size #[] (by rfl) kX rfl (Nat.le_refl _) E ec y.d (by rfl) HDX.out ?_
      intro v6 w6 ho6 hb6
      obtain ⟨DA, dc, ev, hdc1, hdc2⟩ := ho6.form
      subst ev
      obtain ⟨gd, hgd⟩ : ∃ gd, DA = some ⟨gd, 0, none⟩ := by
        obtain ⟨g, k, e, _⟩ := (IntsO.of_own ho6).at_ (by omega)
        simp only [Value.slice.injEq, true_and] at e
        exact ⟨g, e.1⟩
      subst hgd
      have dcell := (ho6.cellG (j := n) hnl).1
      have dfr := ho6.frozenG n
      have dput := (ho6.put (j := n) (x := (K : Int)) (by unfold I64; omega)).1
      have hgdl := ho6.lt gd rfl
      obtain ⟨W7, hW7⟩ : ∃ z, w6.setCell ⟨gd, n, none⟩ (.int .i64 K) = z := ⟨_, rfl⟩
      rw [hW7] at dput
      have hc7 : Chg gd (gd + 1) w6 W7 := by rw [← hW7]; exact chg_set1 _ _ _ _
      have b57 : Below w5.heap.size w5 W7 := (bX.trans (hb6.mono bX.size)).trans (hc7.below (by omega) (by have := bX.size; have := hb6.size; omega))
      have G7 := Lib.hid (G5.out.trans (b57.mono G5.out.size))
      have kq7 := kq5.call b57
      have HQ7 := Lib.hid (QvR.next b57 HQ5.out)
      have HK7 := Lib.hid (MxR.next b57 HK5.out)
      have kf7 := kf5.call b57
      have f0 := ((kf5.call bX).call hb6).cell' (i := 0) rfl
      have hgaX : ga < w6.heap.size := ((kf5.call bX).call hb6).lt
      have hgad : ga ≠ gd := by have := kf5.lt; omega
      have HD7 : Hid (SlI W7 W7.heap.size (.slice (some ⟨gd, 0, none⟩) y.d.length dc) (rsdD y n K)) := by
        have := dput.rd
        show SlI _ _ _ (y.d.set (n : Int).toNat K)
        rw [Int.toNat_natCast]
        exact this
      clear ho6 dput hc7 b57 bX kX hb6 kq5 k15 c4 kf5
      have q0 := kq7.cell' (i := 0) rfl
      have q1 := kq7.cell' (i := 1) rfl
      have q2 := kq7.cell' (i := 2) rfl
      go_wp2_with fail
      clear hW7 dcell dfr hgx f0
      refine (specAreDims_any _ _ (rvQ y.q n) (rsdD y n K) _ HQ7.out HD7.out).mono ?_; rintro e w8 ⟨rfl, hb8⟩
      have G8 := Lib.hid (G7.out.trans (hb8.mono G7.out.size))
      rcases hA : areDims (rvQ y.q n) (rsdD y n K) with _ | _
      · have HE2 := Lib.hid (HE.out.trans (rfP_no (G := gSrc y n K F) hA))
        have kz := k2.call G8.out
        have fr := kz.frozen
        have s0 := kz.cell' (i := 0) rfl
        have s1' := kz.cell' (i := 1) rfl
        have s2' := kz.cell' (i := 2) rfl
        have s3' := kz.cell' (i := 3) rfl
        have s4' := kz.cell' (i := 4) rfl
        have s5' := kz.cell' (i := 5) rfl
        have gf := g0.trans (G8.out.mono g0.size)
        have GF := Lib.hid gf
        clear kz gf hA hb8 q0 q1 q2
        go_wp2
        have gf := GF.out
        have hE := HE2.out
        exact bodyPost_ret (v := .tuple #[.agg #[.int .i64 0, .int .i64 0, .slice none 0 0, .slice none 0 0, .slice none 0 0, .slice none 0 0], .bool false]) (by simp [results, go_sem, s0, s1', s2', s3', s4', s5']) rfl ⟨_, by rw [hE], by rw [hE]; exact (RepO.zero _ 0 0).rd, (((((gf.setCell (by simp) _).setCell (by simp) _).setCell (by simp) _).setCell (by simp) _).setCell (by simp) _).setCell (by simp) _⟩
      · have HE2 := Lib.hid (HE.out.trans (rfP_yes (G := gSrc y n K F) hA))
        have HA := Lib.hid hA
        have k18 := k1.call G8.out
        have kq8 := kq7.call hb8
        have HQ8 := Lib.hid (QvR.next hb8 HQ7.out)
        have HD8 := Lib.hid (SlI.next hb8 HD7.out)
        have HK8 := Lib.hid (MxR.next hb8 HK7.out)
        have kf8 := kf7.call hb8
        have hga8 := kf8.lt
        clear hA q0 q1 q2 kq7 hb8
        have c0 := k18.cell' (i := 0) rfl
        have q0 := kq8.cell' (i := 0) rfl
        have q1 := kq8.cell' (i := 1) rfl
        have q2 := kq8.cell' (i := 2) rfl
        go_wp2_with fail
        refine (l8Zero_any y.p _ _ (rvQ y.q n) (rsdD y n K) _ hIp HQ8.out HD8.out HA.out).mono ?_; rintro e w9 ⟨v9, rfl, hO9, hb9⟩
        obtain ⟨QA2, qa2, QB2, qb2, DA2, dc2, HM, hm, ev⟩ := hO9.rd.form
        have e1 : (zRep y.p (rvQ y.q n) (rsdD y n K)).q.f.length = y.q.f.length := rowF_length _ _
        have e2 : (zRep y.p (rvQ y.q n) (rsdD y n K)).q.t.length = y.q.f.length := rowF_length _ _
        have e3 : (zRep y.p (rvQ y.q n) (rsdD y n K)).d.length = y.d.length := by simp [zRep, rsdD]
        have e4 : (zRep y.p (rvQ y.q n) (rsdD y n K)).m.length = y.q.f.length := by rw [zRep, zms_F, msF_length]; exact e1
        have e5 : (zRep y.p (rvQ y.q n) (rsdD y n K)).q.v = y.q.v := rfl
        have e6 : (zRep y.p (rvQ y.q n) (rsdD y n K)).p = y.p := rfl
        rw [e1, e2, e3, e4, e5, e6] at ev
        subst ev
        have hO9' : RepI w9 w8.heap.size w9.heap.size (.agg #[.int .i64 y.p, .int .i64 y.q.v, .slice QA2 y.q.f.length qa2, .slice QB2 y.q.f.length qb2, .slice DA2 y.d.length dc2, .slice HM y.q.f.length hm]) ⟨y.p, rvQ y.q n, rsdD y n K, msF y.q.f.length (rsrM y n K F 0)⟩ := by
          have hz : zRep y.p (rvQ y.q n) (rsdD y n K) = ⟨y.p, rvQ y.q n, rsdD y n K, msF y.q.f.length (rsrM y n K F 0)⟩ := by
            rw [zRep, zms_F, show (rvQ y.q (n : Int)).f.length = y.q.f.length from rowF_length _ _]
            congr 1
          rw [← hz]
          exact hO9
        obtain ⟨W10, hW10⟩ : ∃ z, w9.alloc (.cells #[.int .i64 y.p, .int .i64 y.q.v, .slice QA2 y.q.f.length qa2, .slice QB2 y.q.f.length qb2, .slice DA2 y.d.length dc2, .slice HM y.q.f.length hm] 32) = z := ⟨_, rfl⟩
        have ga : Below w9.heap.size w9 W10 := by rw [← hW10]; exact below_alloc _ _
        have kO : Blk W10 w9.heap.size 32 #[.int .i64 y.p, .int .i64 y.q.v, .slice QA2 y.q.f.length qa2, .slice QB2 y.q.f.length qb2, .slice DA2 y.d.length dc2, .slice HM y.q.f.length hm] := by rw [← hW10]; exact Blk.new _ _ _
        have lO := kO.lt
        have hO10 := (hO9'.below ga).wider (Nat.le_refl _) ga.size
        have hb810 := bthen hb9 ga
        have hHM : Hid (∀ (j : Nat) (m : Mx), j < y.q.f.length → ∃ gH, HM = some ⟨gH, 0, none⟩ ∧ gH < w9.heap.size) := fun j m hj => by
          obtain ⟨g, c', s', e, h1, h2, _⟩ := hO9'.mxAt (j := j) (List.getElem?_eq_getElem (by rw [msF_length]; exact hj))
          simp only [Value.slice.injEq, true_and] at e
          exact ⟨g, e.1, h2⟩
        have s9 := hb9.size
        clear e1 e2 e3 e4 e5 e6 hO9 hO9' hb9 ga c0 q0 q1 q2 k18 kq8
        go_wp2
        clear hW10
        go_loopw [14, 15] (fun av i wr => ∃ k : Nat, k ≤ y.q.f.length ∧ i = .int .i64 k ∧ av = .int .i64 (atN y n k) ∧ Below w8.heap.size w8 wr ∧ Blk wr w9.heap.size 32 #[.int .i64 y.p, .int .i64 y.q.v, .slice QA2 y.q.f.length qa2, .slice QB2 y.q.f.length qb2, .slice DA2 y.d.length dc2, .slice HM y.q.f.length hm] ∧ RepI wr w8.heap.size wr.heap.size (.agg #[.int .i64 y.p, .int .i64 y.q.v, .slice QA2 y.q.f.length qa2, .slice QB2 y.q.f.length qb2, .slice DA2 y.d.length dc2, .slice HM y.q.f.length hm]) ⟨y.p, rvQ y.q n, rsdD y n K, msF y.q.f.length (rsrM y n K F k)⟩ ∧ w9.heap.size < wr.heap.size) (fun _ i _ => y.q.f.length - (intOf i).toNat)
        case atStart => exact ⟨0, Nat.zero_le _, rfl, rfl, hb810, kO, hO10, lO⟩
        case round =>
          clear hb810 kO hO10 lO
          obtain ⟨k, hk, rfl, rfl, hb, hB, hO, hlO⟩ := hrel
          have gWr := G8.out.trans (hb.mono G8.out.size)
          have gws := gWr.size
          have hbs := hb.size
          have kr := k1.call gWr
          have c5 := kr.cell' (i := 5) rfl
          have hml : y.m.length ≤ y.q.f.length := Nat.le_of_eq HML2.out
          have hml2 : y.q.f.length ≤ y.m.length := Nat.le_of_eq HML2.out.symm
          by_cases hkn : k < y.q.f.length
          · obtain ⟨m, nf, nt, yf, yt, em, ef, et, df, dt, eM, _, b1, b2, b3, b4, hfd, htd, b8, b9⟩ := isRep_at HY.out hkn
            have hlt := (isQ_t.1 HQQ.out).2.1
            obtain ⟨bt, ot, xt, eC, hbt, HXT, t1, _⟩ := SlI.at_ (QvR.sl HQR.out).1 hkn
            subst eC
            have q2 := HXT.out
            rw [ef] at q2
            injection q2 with q2
            subst q2
            obtain ⟨bm, om, m', MB, mb, eH, hbm, HXM, x0, x1, x2, hsl, hr1, hr2, _⟩ := SlM.at_ HMR.out b9
            subst eH
            have q3 := HXM.out
            rw [em] at q3
            injection q3 with q3
            subst q3
            have hMR : MxR W W.heap.size (.agg #[.int .i64 m.r, .int .i64 m.c, .slice MB m.a.length mb]) m := ⟨_, rfl, hsl, hr1, hr2⟩
            have hmc : m.r = (yt : Int) := by rw [eM]; rfl
            rw [hmc] at x0
            have t1' := bcell gWr hbt t1
            have c3 := kr.cell' (i := 2) rfl
            obtain ⟨gH, eHM, hgHl⟩ := hHM.out k m hkn
            subst eHM
            have HTC := Lib.hid (tch_of (v := (n : Int)) ef et)
            have hne : nt ≠ n := by
              rintro rfl
              exact (endV_not HS.out).1 (List.mem_of_getElem? et)
            obtain ⟨o1, o2⟩ := oth_at (v := (n : Int)) ef et df dt
            by_cases hnf : (nf : Int) = n
            · have hd : ((nf : Int) != (n : Int)) = false := by rw [bne_eq_false_iff_eq]; exact hnf
              have htc : tch y.q n k = true := by rw [HTC.out, hnf]; simp
              have hoth : othN y n k = yt := o2 hnf
              have hzm : zmAt (rvQ y.q n) (rsdD y n K) k = mxF K (othN y n k) fun _ _ => 0 := by
                rw [hoth]
                exact zm_src hkn hlt (by rw [hnf] at ef; exact ef) et dt hne hnl
              have hA1 : atN y n (k + 1) = atN y n k + yt := by rw [atN, if_pos htc, hoth]
              have hfit := atN_fit htc hkn
              rw [HAT.out, hoth] at hfit
              have hI0 := rsrI_0 (F := F) hzm
              have HEND := Lib.hid (rsrI_end (K := K) (F := F) htc)
              have HOTH := Lib.hid hoth
              have HA1 := Lib.hid hA1
              obtain ⟨at_, hat_⟩ : ∃ z, atN y n k = z := ⟨_, rfl⟩
              rw [hat_] at hfit ⊢
              have HAT_ := Lib.hid hat_
              have X1 := Lib.hid x0
              rw [hI0] at hO
              have GWr := Lib.hid gWr
              obtain ⟨wa, hwa⟩ : ∃ z, z = wr := ⟨_, rfl⟩
              subst hwa
              have HB := Lib.hid hB
              have HO := Lib.hid hO
              have HBB := Lib.hid hb
              clear hat_ hA1 htc hnf hMR hsl hr1 hr2 x0 x1 x2 em ef et df dt eM hB hO hb kr HTC HXT HXM o1 o2 hne hmc t1 gWr hI0 hzm hoth hlt
              go_wp2
              clear c5 c3 t1'
              go_loopw [16] (fun i wr => ∃ ja : Nat, ja ≤ K ∧ i = .int .i64 ja ∧ Below w8.heap.size w8 wr ∧ Blk wr w9.heap.size 32 #[.int .i64 y.p, .int .i64 y.q.v, .slice QA2 y.q.f.length qa2, .slice QB2 y.q.f.length qb2, .slice DA2 y.d.length dc2, .slice (some ⟨gH, 0, none⟩) y.q.f.length hm] ∧ RepI wr w8.heap.size wr.heap.size (.agg #[.int .i64 y.p, .int .i64 y.q.v, .slice QA2 y.q.f.length qa2, .slice QB2 y.q.f.length qb2, .slice DA2 y.d.length dc2, .slice (some ⟨gH, 0, none⟩) y.q.f.length hm]) ⟨y.p, rvQ y.q n, rsdD y n K, msF y.q.f.length (rsrI y n K F k ja 0)⟩ ∧ w9.heap.size < wr.heap.size) (fun i _ => K - (intOf i).toNat)
              case atStart => exact ⟨0, Nat.zero_le _, rfl, HBB.out, HB.out, HO.out, hlO⟩
              case round =>
                clear HBB HB HO
                obtain ⟨ja, hja, rfl, hb, hB, hO, hl2⟩ := hrel
                have gWr := G8.out.trans (hb.mono G8.out.size)
                have kr := k1.call gWr
                have kfr := kf8.below hb hga8
                have y0 := kfr.cell' (i := 0) rfl
                have hbs2 := hb.size
                by_cases hjl : ja < K
                · have HB := Lib.hid hB
                  have HO := Lib.hid hO
                  have HBB := Lib.hid hb
                  have HJL := Lib.hid hjl
                  clear hB hO hb kr gWr kfr
                  obtain ⟨wb, hwb⟩ : ∃ z, z = wr := ⟨_, rfl⟩
                  subst hwb
                  go_wp2
                  clear y0
                  go_loopw [17] (fun i wr => ∃ jb : Nat, jb ≤ yt ∧ i = .int .i64 jb ∧ Below w8.heap.size w8 wr ∧ Blk wr w9.heap.size 32 #[.int .i64 y.p, .int .i64 y.q.v, .slice QA2 y.q.f.length qa2, .slice QB2 y.q.f.length qb2, .slice DA2 y.d.length dc2, .slice (some ⟨gH, 0, none⟩) y.q.f.length hm] ∧ RepI wr w8.heap.size wr.heap.size (.agg #[.int .i64 y.p, .int .i64 y.q.v, .slice QA2 y.q.f.length qa2, .slice QB2 y.q.f.length qb2, .slice DA2 y.d.length dc2, .slice (some ⟨gH, 0, none⟩) y.q.f.length hm]) ⟨y.p, rvQ y.q n, rsdD y n K, msF y.q.f.length (rsrI y n K F k ja jb)⟩ ∧ w9.heap.size < wr.heap.size) (fun i _ => yt - (intOf i).toNat)
                  case atStart => exact ⟨0, Nat.zero_le _, rfl, HBB.out, HB.out, HO.out, hl2⟩
                  case round =>
                    clear HBB HB HO
                    obtain ⟨jb, hjb, rfl, hb, hB, hO, hl3⟩ := hrel
                    have hbs3 := hb.size
                    have gWr := G8.out.trans (hb.mono G8.out.size)
                    have kr := k1.call gWr
                    have c5 := kr.cell' (i := 5) rfl
                    have x1 := bcell gWr hbm X1.out
                    have hbmw : bm < wr.heap.size := Nat.lt_of_lt_of_le hbm gWr.size
                    by_cases hjk : jb < yt
                    · obtain ⟨FM, eFM, hSM, _, _⟩ := HK8.out
                      simp only [mxF, Value.agg.injEq, Array.mk.injEq, List.cons.injEq, and_true, true_and] at eFM
                      subst eFM
                      simp only [mxF] at hSM
                      obtain ⟨Q, hQ⟩ : ∃ Q, Q = ja * N := ⟨_, rfl⟩
                      have hQw := Lib.hid (ixP (i := ja) (k := at_ + jb) (r := K) (c := N) hjl (by omega) (by omega) (by omega) hQ)
                      obtain ⟨f1, _, f3⟩ := rowP (i := ja) (k := at_ + jb) (r := K) (c := N) hjl (by omega) (by omega) (by omega) hQ
                      have hFL : FL = K * N := by obtain ⟨_, _, e, _⟩ := hSM; injection e with _ e _; rw [e, flat_length]
                      obtain ⟨bf, of_, xv, eR, hbr, HXV, v1, hx1, hx2⟩ := SlI.atM (k := Q + (at_ + jb)) hSM (by rw [flat_length, hFL]) (by rw [hFL]; exact f1)
                      subst eR
                      have hxv := HXV.out
                      rw [hQ, flat_get F hjl (show at_ + jb < N by omega)] at hxv
                      injection hxv with hxv
                      have hfl1 : Q + (at_ + jb) < FL := by rw [hFL]; exact f1
                      have hfl3 : FL ≤ 1000000 := by rw [hFL]; exact f3
                      have hyl := rsrI_at y n K k F ja jb hkn
                      rw [HOTH.out] at hyl
                      obtain ⟨P, hP⟩ : ∃ P, P = ja * yt := ⟨_, rfl⟩
                      obtain ⟨p1, p2, p3⟩ := ix_pk2 hjl hjk b2 (by omega) hP
                      obtain ⟨Lk, hLk⟩ : ∃ z, K * yt = z := ⟨_, rfl⟩
                      rw [hLk] at p2 p3
                      have hput := hO.putMx (i := P + jb) (z := xv) hyl (by simp only [mxF]; rw [flat_length, hLk]; exact p2) ⟨hx1, hx2⟩
                      simp only [mxF] at hput
                      rw [flat_length, hLk] at hput
                      obtain ⟨g, cg, gr, cr, eg, z1, z2, ⟨u0, z3⟩, z4, ⟨cg1, cg2⟩, ⟨cr1, cr2⟩, ⟨hgr1, hgr2⟩, hapart, _⟩ := hput
                      simp only [Value.slice.injEq, Option.some.injEq, Addr.mk.injEq, and_true, true_and, msF_length] at eg cg1
                      obtain ⟨eg1, eg2⟩ := eg
                      subst eg1
                      subst eg2
                      have HPUT := Lib.hid (fun (w : World) (h : RepI w w8.heap.size w.heap.size (.agg #[.int .i64 y.p, .int .i64 y.q.v, .slice QA2 y.q.f.length qa2, .slice QB2 y.q.f.length qb2, .slice DA2 y.d.length dc2, .slice (some ⟨gH, 0, none⟩) y.q.f.length hm]) ⟨y.p, rvQ y.q n, rsdD y n K, msF y.q.f.length (rsrI y n K F k ja jb)⟩) => RepI.putMx (i := P + jb) (z := xv) h hyl (by simp only [mxF]; rw [flat_length, hLk]; exact p2) ⟨hx1, hx2⟩)
                      have hst := rsrI_put (x := y) (v := (n : Int)) (K := K) (k := k) (F := F) (a := ja) (b := jb) hjl (by rw [HOTH.out]; exact hjk)
                      have hxv2 : F ja (atN y n k + jb) = xv := by rw [HAT_.out]; exact hxv
                      rw [HOTH.out, hxv2, ← hP] at hst
                      have HST := Lib.hid hst
                      have hgo := hapart _ _ _ hB (by decide)
                      have HP1 := Lib.hid p1
                      have Z2 := Lib.hid z2
                      have V1 := Lib.hid v1
                      have XR := Lib.hid x1
                      have KR := Lib.hid kr
                      have KF := Lib.hid (kf8.below hb hga8)
                      have HBr := Lib.hid hB
                      have HOr := Lib.hid hO
                      have HBBr := Lib.hid hb
                      have hgHw : gH < wr.heap.size := by omega
                      have hLKe := Lib.hid hLk
                      obtain ⟨wc, hwc⟩ : ∃ z, z = wr := ⟨_, rfl⟩
                      subst hwc
                      clear hSM HXV hxv hxv2 hyl hLk hst hB hO hb z1 z2 z3 z4 v1 hapart p1 hP hQ hFL f1 f3 kr gWr
                      go_wp2
                      clear c5 x1
                      refine wp_region_net (by kernel_rfl) [.eq (.pointer (some ⟨w9.heap.size, 5, none⟩)), .eq (.slice (some ⟨gH, 0, none⟩) y.q.f.length hm), .eq (.int .i64 k), .eq (.pointer (some ⟨gH, k * 3, none⟩)), .eq (.pointer (some ⟨gH, k * 3 + 2, none⟩)), .eq (.slice (some ⟨gr, 0, none⟩) Lk cr), .eq (.int .i64 ja), .eq (.pointer (some ⟨w0.heap.size, 5, none⟩)), .eq (.slice (some ⟨bm, om, none⟩) y.m.length hc), .eq (.int .i64 k), .eq (.pointer (some ⟨bm, om + k * 3, none⟩)), .eq (.pointer (some ⟨bm, om + k * 3, none⟩)), .eq (.int .i64 yt), .eq (.int .i64 P), .eq (.int .i64 jb), .eq (.int .i64 ((P : Int) + jb)), .eq (.pointer (some ⟨ga, 2, none⟩)), .eq (.slice (some ⟨bf, of_, none⟩) FL fc), .eq (.int .i64 ja), .eq (.pointer (some ⟨ga, 1, none⟩)), .eq (.int .i64 N), .eq (.int .i64 Q), .eq (.int .i64 at_), .eq (.int .i64 ((Q : Int) + at_)), .eq (.int .i64 jb), .eq (.int .i64 ((Q : Int) + at_ + jb)), .eq (.pointer (some ⟨bf, of_ + (Q + (at_ + jb)), none⟩)), .eq (.int .i64 xv)] [[], [0], [], [0, 1, 2], [0, 1, 2, 3], [0, 1, 2, 3, 4], [], [], [7], [], [7, 8, 9], [7, 8, 9, 10], [7, 8, 9, 10, 11], [6, 7, 8, 9, 10, 11, 12], [], [6, 7, 8, 9, 10, 11, 12, 13, 14], [], [16], [], [], [19], [18, 19, 20], [], [18, 19, 20, 21, 22], [], [18, 19, 20, 21, 22, 23, 24], [16, 17, 18, 19, 20, 21, 22, 23, 24, 25], [16, 17, 18, 19, 20, 21, 22, 23, 24, 25, 26], [0, 1, 2, 3, 4, 5, 6, 7, 8, 9, 10, 11, 12, 13, 14, 15, 16, 17, 18, 19, 20, 21, 22, 23, 24, 25, 26, 27], [0, 1, 2, 3, 4, 5, 6, 7, 8, 9, 10, 11, 12, 13, 14, 15, 16, 17, 18, 19, 20, 21, 22, 23, 24, 25, 26, 27, 28]] 28 (by kernel_rfl) ⟨trivial, trivial, trivial, trivial, trivial, trivial, trivial, trivial, trivial, trivial, trivial, trivial, trivial, trivial, trivial, trivial, trivial, trivial, trivial, trivial, trivial, trivial, trivial, trivial, trivial, trivial, trivial, trivial, trivial⟩ ⟨?_, ?_, ?_, ?_, ?_, ?_, ?_, ?_, ?_, ?_, ?_, ?_, ?_, ?_, ?_, ?_, ?_, ?_, ?_, ?_, ?_, ?_, ?_, ?_, ?_, ?_, ?_, ?_, trivial⟩ ?_
                      · intro x w hb hk Q' hQ
                        clear hk
                        simp only [netAct, dstAt, List.getElem?_toArray, List.getElem?_cons_zero, List.getElem?_cons_succ, Option.bind_some, Act.put, List.setIfInBounds_toArray, List.set_cons_zero, List.set_cons_succ] at hQ ⊢
                        go_wp2
                        exact hQ (.pointer (some ⟨w9.heap.size, 5, none⟩)) _ (Below.refl _ _) rfl
                      · intro x w hb hk Q' hQ
                        have h0 : x.v 0 = .pointer (some ⟨w9.heap.size, 5, none⟩) := (hk 0 (by decide)).1
                        clear hk
                        simp only [netAct, dstAt, List.getElem?_toArray, List.getElem?_cons_zero, List.getElem?_cons_succ, Option.bind_some, Act.put, List.setIfInBounds_toArray, List.set_cons_zero, List.set_cons_succ] at hQ ⊢
                        simp only [h0] at hQ ⊢
                        clear h0
                        have z := (HBr.out.call hb).cell' (i := 5) rfl
                        go_wp2
                        exact hQ (.slice (some ⟨gH, 0, none⟩) y.q.f.length hm) _ (Below.refl _ _) rfl
                      · intro x w hb hk Q' hQ
                        clear hk
                        simp only [netAct, dstAt, List.getElem?_toArray, List.getElem?_cons_zero, List.getElem?_cons_succ, Option.bind_some, Act.put, List.setIfInBounds_toArray, List.set_cons_zero, List.set_cons_succ] at hQ ⊢
                        go_wp2
                        exact hQ (.int .i64 k) _ (Below.refl _ _) rfl
                      · intro x w hb hk Q' hQ
                        have h1 : x.v 1 = .slice (some ⟨gH, 0, none⟩) y.q.f.length hm := (hk 1 (by decide)).1
                        have h2 : x.v 2 = .int .i64 k := (hk 2 (by decide)).1
                        clear hk
                        simp only [netAct, dstAt, List.getElem?_toArray, List.getElem?_cons_zero, List.getElem?_cons_succ, Option.bind_some, Act.put, List.setIfInBounds_toArray, List.set_cons_zero, List.set_cons_succ] at hQ ⊢
                        simp only [h1, h2] at hQ ⊢
                        clear h1 h2
                        go_wp2
                        exact hQ (.pointer (some ⟨gH, k * 3, none⟩)) _ (Below.refl _ _) rfl
                      · intro x w hb hk Q' hQ
                        have h3 : x.v 3 = .pointer (some ⟨gH, k * 3, none⟩) := (hk 3 (by decide)).1
                        clear hk
                        simp only [netAct, dstAt, List.getElem?_toArray, List.getElem?_cons_zero, List.getElem?_cons_succ, Option.bind_some, Act.put, List.setIfInBounds_toArray, List.set_cons_zero, List.set_cons_succ] at hQ ⊢
                        simp only [h3] at hQ ⊢
                        clear h3
                        go_wp2
                        exact hQ (.pointer (some ⟨gH, k * 3 + 2, none⟩)) _ (Below.refl _ _) rfl
                      · intro x w hb hk Q' hQ
                        have h4 : x.v 4 = .pointer (some ⟨gH, k * 3 + 2, none⟩) := (hk 4 (by decide)).1
                        clear hk
                        simp only [netAct, dstAt, List.getElem?_toArray, List.getElem?_cons_zero, List.getElem?_cons_succ, Option.bind_some, Act.put, List.setIfInBounds_toArray, List.set_cons_zero, List.set_cons_succ] at hQ ⊢
                        simp only [h4] at hQ ⊢
                        clear h4
                        have z := bcell hb hgHw Z2.out
                        go_wp2
                        exact hQ (.slice (some ⟨gr, 0, none⟩) Lk cr) _ (Below.refl _ _) rfl
                      · intro x w hb hk Q' hQ
                        clear hk
                        simp only [netAct, dstAt, List.getElem?_toArray, List.getElem?_cons_zero, List.getElem?_cons_succ, Option.bind_some, Act.put, List.setIfInBounds_toArray, List.set_cons_zero, List.set_cons_succ] at hQ ⊢
                        go_wp2
                        exact hQ (.int .i64 ja) _ (Below.refl _ _) rfl
                      · intro x w hb hk Q' hQ
                        clear hk
                        simp only [netAct, dstAt, List.getElem?_toArray, List.getElem?_cons_zero, List.getElem?_cons_succ, Option.bind_some, Act.put, List.setIfInBounds_toArray, List.set_cons_zero, List.set_cons_succ] at hQ ⊢
                        go_wp2
                        exact hQ (.pointer (some ⟨w0.heap.size, 5, none⟩)) _ (Below.refl _ _) rfl
                      · intro x w hb hk Q' hQ
                        have h7 : x.v 7 = .pointer (some ⟨w0.heap.size, 5, none⟩) := (hk 7 (by decide)).1
                        clear hk
                        simp only [netAct, dstAt, List.getElem?_toArray, List.getElem?_cons_zero, List.getElem?_cons_succ, Option.bind_some, Act.put, List.setIfInBounds_toArray, List.set_cons_zero, List.set_cons_succ] at hQ ⊢
                        simp only [h7] at hQ ⊢
                        clear h7
                        have z := (KR.out.call hb).cell' (i := 5) rfl
                        go_wp2
                        exact hQ (.slice (some ⟨bm, om, none⟩) y.m.length hc) _ (Below.refl _ _) rfl
                      · intro x w hb hk Q' hQ
                        clear hk
                        simp only [netAct, dstAt, List.getElem?_toArray, List.getElem?_cons_zero, List.getElem?_cons_succ, Option.bind_some, Act.put, List.setIfInBounds_toArray, List.set_cons_zero, List.set_cons_succ] at hQ ⊢
                        go_wp2
                        exact hQ (.int .i64 k) _ (Below.refl _ _) rfl
                      · intro x w hb hk Q' hQ
                        have h8 : x.v 8 = .slice (some ⟨bm, om, none⟩) y.m.length hc := (hk 8 (by decide)).1
                        have h9 : x.v 9 = .int .i64 k := (hk 9 (by decide)).1
                        clear hk
                        simp only [netAct, dstAt, List.getElem?_toArray, List.getElem?_cons_zero, List.getElem?_cons_succ, Option.bind_some, Act.put, List.setIfInBounds_toArray, List.set_cons_zero, List.set_cons_succ] at hQ ⊢
                        simp only [h8, h9] at hQ ⊢
                        clear h8 h9
                        go_wp2
                        exact hQ (.pointer (some ⟨bm, om + k * 3, none⟩)) _ (Below.refl _ _) rfl
                      · intro x w hb hk Q' hQ
                        have h10 : x.v 10 = .pointer (some ⟨bm, om + k * 3, none⟩) := (hk 10 (by decide)).1
                        clear hk
                        simp only [netAct, dstAt, List.getElem?_toArray, List.getElem?_cons_zero, List.getElem?_cons_succ, Option.bind_some, Act.put, List.setIfInBounds_toArray, List.set_cons_zero, List.set_cons_succ] at hQ ⊢
                        simp only [h10] at hQ ⊢
                        clear h10
                        go_wp2
                        exact hQ (.pointer (some ⟨bm, om + k * 3, none⟩)) _ (Below.refl _ _) rfl
                      · intro x w hb hk Q' hQ
                        have h11 : x.v 11 = .pointer (some ⟨bm, om + k * 3, none⟩) := (hk 11 (by decide)).1
                        clear hk
                        simp only [netAct, dstAt, List.getElem?_toArray, List.getElem?_cons_zero, List.getElem?_cons_succ, Option.bind_some, Act.put, List.setIfInBounds_toArray, List.set_cons_zero, List.set_cons_succ] at hQ ⊢
                        simp only [h11] at hQ ⊢
                        clear h11
                        have z := bcell hb hbmw XR.out
                        go_wp2
                        exact hQ (.int .i64 yt) _ (Below.refl _ _) rfl
                      · intro x w hb hk Q' hQ
                        have h6 : x.v 6 = .int .i64 ja := (hk 6 (by decide)).1
                        have h12 : x.v 12 = .int .i64 yt := (hk 12 (by decide)).1
                        clear hk
                        simp only [netAct, dstAt, List.getElem?_toArray, List.getElem?_cons_zero, List.getElem?_cons_succ, Option.bind_some, Act.put, List.setIfInBounds_toArray, List.set_cons_zero, List.set_cons_succ] at hQ ⊢
                        simp only [h6, h12] at hQ ⊢
                        clear h6 h12
                        go_wp2
                        rw [HP1.out]
                        exact hQ (.int .i64 P) _ (Below.refl _ _) rfl
                      · intro x w hb hk Q' hQ
                        clear hk
                        simp only [netAct, dstAt, List.getElem?_toArray, List.getElem?_cons_zero, List.getElem?_cons_succ, Option.bind_some, Act.put, List.setIfInBounds_toArray, List.set_cons_zero, List.set_cons_succ] at hQ ⊢
                        go_wp2
                        exact hQ (.int .i64 jb) _ (Below.refl _ _) rfl
                      · intro x w hb hk Q' hQ
                        have h13 : x.v 13 = .int .i64 P := (hk 13 (by decide)).1
                        have h14 : x.v 14 = .int .i64 jb := (hk 14 (by decide)).1
                        clear hk
                        simp only [netAct, dstAt, List.getElem?_toArray, List.getElem?_cons_zero, List.getElem?_cons_succ, Option.bind_some, Act.put, List.setIfInBounds_toArray, List.set_cons_zero, List.set_cons_succ] at hQ ⊢
                        simp only [h13, h14] at hQ ⊢
                        clear h13 h14
                        go_wp2
                        exact hQ (.int .i64 ((P : Int) + jb)) _ (Below.refl _ _) rfl
                      · intro x w hb hk Q' hQ
                        clear hk
                        simp only [netAct, dstAt, List.getElem?_toArray, List.getElem?_cons_zero, List.getElem?_cons_succ, Option.bind_some, Act.put, List.setIfInBounds_toArray, List.set_cons_zero, List.set_cons_succ] at hQ ⊢
                        go_wp2
                        exact hQ (.pointer (some ⟨ga, 2, none⟩)) _ (Below.refl _ _) rfl
                      · intro x w hb hk Q' hQ
                        have h16 : x.v 16 = .pointer (some ⟨ga, 2, none⟩) := (hk 16 (by decide)).1
                        clear hk
                        simp only [netAct, dstAt, List.getElem?_toArray, List.getElem?_cons_zero, List.getElem?_cons_succ, Option.bind_some, Act.put, List.setIfInBounds_toArray, List.set_cons_zero, List.set_cons_succ] at hQ ⊢
                        simp only [h16] at hQ ⊢
                        clear h16
                        have z := (KF.out.call hb).cell' (i := 2) rfl
                        go_wp2
                        exact hQ (.slice (some ⟨bf, of_, none⟩) FL fc) _ (Below.refl _ _) rfl
                      · intro x w hb hk Q' hQ
                        clear hk
                        simp only [netAct, dstAt, List.getElem?_toArray, List.getElem?_cons_zero, List.getElem?_cons_succ, Option.bind_some, Act.put, List.setIfInBounds_toArray, List.set_cons_zero, List.set_cons_succ] at hQ ⊢
                        go_wp2
                        exact hQ (.int .i64 ja) _ (Below.refl _ _) rfl
                      · intro x w hb hk Q' hQ
                        clear hk
                        simp only [netAct, dstAt, List.getElem?_toArray, List.getElem?_cons_zero, List.getElem?_cons_succ, Option.bind_some, Act.put, List.setIfInBounds_toArray, List.set_cons_zero, List.set_cons_succ] at hQ ⊢
                        go_wp2
                        exact hQ (.pointer (some ⟨ga, 1, none⟩)) _ (Below.refl _ _) rfl
                      · intro x w hb hk Q' hQ
                        have h19 : x.v 19 = .pointer (some ⟨ga, 1, none⟩) := (hk 19 (by decide)).1
                        clear hk
                        simp only [netAct, dstAt, List.getElem?_toArray, List.getElem?_cons_zero, List.getElem?_cons_succ, Option.bind_some, Act.put, List.setIfInBounds_toArray, List.set_cons_zero, List.set_cons_succ] at hQ ⊢
                        simp only [h19] at hQ ⊢
                        clear h19
                        have z := (KF.out.call hb).cell' (i := 1) rfl
                        go_wp2
                        exact hQ (.int .i64 N) _ (Below.refl _ _) rfl
                      · intro x w hb hk Q' hQ
                        have h18 : x.v 18 = .int .i64 ja := (hk 18 (by decide)).1
                        have h20 : x.v 20 = .int .i64 N := (hk 20 (by decide)).1
                        clear hk
                        simp only [netAct, dstAt, List.getElem?_toArray, List.getElem?_cons_zero, List.getElem?_cons_succ, Option.bind_some, Act.put, List.setIfInBounds_toArray, List.set_cons_zero, List.set_cons_succ] at hQ ⊢
                        simp only [h18, h20] at hQ ⊢
                        clear h18 h20
                        go_wp2
                        rw [hQw.out]
                        exact hQ (.int .i64 Q) _ (Below.refl _ _) rfl
                      · intro x w hb hk Q' hQ
                        clear hk
                        simp only [netAct, dstAt, List.getElem?_toArray, List.getElem?_cons_zero, List.getElem?_cons_succ, Option.bind_some, Act.put, List.setIfInBounds_toArray, List.set_cons_zero, List.set_cons_succ] at hQ ⊢
                        go_wp2
                        exact hQ (.int .i64 at_) _ (Below.refl _ _) rfl
                      · intro x w hb hk Q' hQ
                        have h21 : x.v 21 = .int .i64 Q := (hk 21 (by decide)).1
                        have h22 : x.v 22 = .int .i64 at_ := (hk 22 (by decide)).1
                        clear hk
                        simp only [netAct, dstAt, List.getElem?_toArray, List.getElem?_cons_zero, List.getElem?_cons_succ, Option.bind_some, Act.put, List.setIfInBounds_toArray, List.set_cons_zero, List.set_cons_succ] at hQ ⊢
                        simp only [h21, h22] at hQ ⊢
                        clear h21 h22
                        go_wp2
                        exact hQ (.int .i64 ((Q : Int) + at_)) _ (Below.refl _ _) rfl
                      · intro x w hb hk Q' hQ
                        clear hk
                        simp only [netAct, dstAt, List.getElem?_toArray, List.getElem?_cons_zero, List.getElem?_cons_succ, Option.bind_some, Act.put, List.setIfInBounds_toArray, List.set_cons_zero, List.set_cons_succ] at hQ ⊢
                        go_wp2
                        exact hQ (.int .i64 jb) _ (Below.refl _ _) rfl
                      · intro x w hb hk Q' hQ
                        have h23 : x.v 23 = .int .i64 ((Q : Int) + at_) := (hk 23 (by decide)).1
                        have h24 : x.v 24 = .int .i64 jb := (hk 24 (by decide)).1
                        clear hk
                        simp only [netAct, dstAt, List.getElem?_toArray, List.getElem?_cons_zero, List.getElem?_cons_succ, Option.bind_some, Act.put, List.setIfInBounds_toArray, List.set_cons_zero, List.set_cons_succ] at hQ ⊢
                        simp only [h23, h24] at hQ ⊢
                        clear h23 h24
                        go_wp2
                        exact hQ (.int .i64 ((Q : Int) + at_ + jb)) _ (Below.refl _ _) rfl
                      · intro x w hb hk Q' hQ
                        have h17 : x.v 17 = .slice (some ⟨bf, of_, none⟩) FL fc := (hk 17 (by decide)).1
                        have h25 : x.v 25 = .int .i64 ((Q : Int) + at_ + jb) := (hk 25 (by decide)).1
                        clear hk
                        simp only [netAct, dstAt, List.getElem?_toArray, List.getElem?_cons_zero, List.getElem?_cons_succ, Option.bind_some, Act.put, List.setIfInBounds_toArray, List.set_cons_zero, List.set_cons_succ] at hQ ⊢
                        simp only [h17, h25] at hQ ⊢
                        clear h17 h25
                        go_wp2
                        rw [show Q + at_ + jb = Q + (at_ + jb) by omega]
                        exact hQ (.pointer (some ⟨bf, of_ + (Q + (at_ + jb)), none⟩)) _ (Below.refl _ _) rfl
                      · intro x w hb hk Q' hQ
                        have h26 : x.v 26 = .pointer (some ⟨bf, of_ + (Q + (at_ + jb)), none⟩) := (hk 26 (by decide)).1
                        clear hk
                        simp only [netAct, dstAt, List.getElem?_toArray, List.getElem?_cons_zero, List.getElem?_cons_succ, Option.bind_some, Act.put, List.setIfInBounds_toArray, List.set_cons_zero, List.set_cons_succ] at hQ ⊢
                        simp only [h26] at hQ ⊢
                        clear h26
                        have z := bcell (HBBr.out.trans (hb.mono hbs3)) hbr V1.out
                        go_wp2
                        exact hQ (.int .i64 xv) _ (Below.refl _ _) rfl
                      · intro x w hb hk hiv hdj
                        have h0 : x.v 0 = .pointer (some ⟨w9.heap.size, 5, none⟩) := hk 0 (by decide)
                        have h1 : x.v 1 = .slice (some ⟨gH, 0, none⟩) y.q.f.length hm := hk 1 (by decide)
                        have h2 : x.v 2 = .int .i64 k := hk 2 (by decide)
                        have h3 : x.v 3 = .pointer (some ⟨gH, k * 3, none⟩) := hk 3 (by decide)
                        have h4 : x.v 4 = .pointer (some ⟨gH, k * 3 + 2, none⟩) := hk 4 (by decide)
                        have h5 : x.v 5 = .slice (some ⟨gr, 0, none⟩) Lk cr := hk 5 (by decide)
                        have h6 : x.v 6 = .int .i64 ja := hk 6 (by decide)
                        have h7 : x.v 7 = .pointer (some ⟨w0.heap.size, 5, none⟩) := hk 7 (by decide)
                        have h8 : x.v 8 = .slice (some ⟨bm, om, none⟩) y.m.length hc := hk 8 (by decide)
                        have h9 : x.v 9 = .int .i64 k := hk 9 (by decide)
                        have h10 : x.v 10 = .pointer (some ⟨bm, om + k * 3, none⟩) := hk 10 (by decide)
                        have h11 : x.v 11 = .pointer (some ⟨bm, om + k * 3, none⟩) := hk 11 (by decide)
                        have h12 : x.v 12 = .int .i64 yt := hk 12 (by decide)
                        have h13 : x.v 13 = .int .i64 P := hk 13 (by decide)
                        have h14 : x.v 14 = .int .i64 jb := hk 14 (by decide)
                        have h15 : x.v 15 = .int .i64 ((P : Int) + jb) := hk 15 (by decide)
                        have h16 : x.v 16 = .pointer (some ⟨ga, 2, none⟩) := hk 16 (by decide)
                        have h17 : x.v 17 = .slice (some ⟨bf, of_, none⟩) FL fc := hk 17 (by decide)
                        have h18 : x.v 18 = .int .i64 ja := hk 18 (by decide)
                        have h19 : x.v 19 = .pointer (some ⟨ga, 1, none⟩) := hk 19 (by decide)
                        have h20 : x.v 20 = .int .i64 N := hk 20 (by decide)
                        have h21 : x.v 21 = .int .i64 Q := hk 21 (by decide)
                        have h22 : x.v 22 = .int .i64 at_ := hk 22 (by decide)
                        have h23 : x.v 23 = .int .i64 ((Q : Int) + at_) := hk 23 (by decide)
                        have h24 : x.v 24 = .int .i64 jb := hk 24 (by decide)
                        have h25 : x.v 25 = .int .i64 ((Q : Int) + at_ + jb) := hk 25 (by decide)
                        have h26 : x.v 26 = .pointer (some ⟨bf, of_ + (Q + (at_ + jb)), none⟩) := hk 26 (by decide)
                        have h27 : x.v 27 = .int .i64 xv := hk 27 (by decide)
                        clear hk
                        simp only [netAct, dstAt, List.getElem?_toArray, List.getElem?_cons_zero, List.getElem?_cons_succ, Option.bind_some, Act.put, List.setIfInBounds_toArray, List.set_cons_zero, List.set_cons_succ]
                        simp only [List.drop_succ_cons, List.drop_zero, h0, h1, h2, h3, h4, h5, h6, h7, h8, h9, h10, h11, h12, h13, h14, h15, h16, h17, h18, h19, h20, h21, h22, h23, h24, h25, h26, h27]
                        clear h0 h1 h2 h3 h4 h5 h6 h7 h8 h9 h10 h11 h12 h13 h14 h15 h16 h17 h18 h19 h20 h21 h22 h23 h24 h25 h26 h27
                        have hOw := (HOr.out.below hb).wider (Nat.le_refl _) hb.size
                        have hput := HPUT.out w hOw
                        simp only [mxF] at hput
                        rw [flat_length, hLKe.out] at hput
                        obtain ⟨g, cg, gr2, cr2, eg, z1, z2, ⟨u0, z3⟩, z4, _, _, ⟨hg1, hg2⟩, _, hnew⟩ := hput
                        simp only [Value.slice.injEq, Option.some.injEq, Addr.mk.injEq, and_true, true_and, msF_length] at eg
                        obtain ⟨eg1, eg2⟩ := eg
                        subst eg1
                        subst eg2
                        have hz := bcell hb hgHw Z2.out
                        rw [z2] at hz
                        simp only [Option.some.injEq, Value.slice.injEq, Addr.mk.injEq, and_true, true_and] at hz
                        obtain ⟨hz1, hz2⟩ := hz
                        subst hz1
                        subst hz2
                        rw [HST.out] at hnew
                        obtain ⟨W14, hW14⟩ : ∃ u, w.setCell ⟨gr2, P + jb, none⟩ (.int .i64 xv) = u := ⟨_, rfl⟩
                        rw [hW14] at hnew
                        have hch3 : Chg gr2 (gr2 + 1) w W14 := by rw [← hW14]; exact chg_set1 _ _ _ _
                        have hs14 : W14.heap.size = w.heap.size := by rw [← hW14]; simp
                        have hbsw := hb.size
                        have HREP := Lib.hid (hnew.wider (Nat.le_refl _) (show w.heap.size ≤ W14.heap.size by omega))
                        have hB14 := Lib.hid ((HBr.out.call hb).chg hch3 (by omega))
                        have hb14 := Lib.hid ((HBBr.out.trans (hb.mono (by omega))).trans (hch3.below (B := w8.heap.size) hg1 (by omega)))
                        have hl14 : w9.heap.size < W14.heap.size := by omega
                        clear hnew hch3 hs14 hOw hiv hdj z1 z2
                        go_wp2
                        clear hW14 z3 z4
                        refine ⟨⟨jb + 1, by omega, by go_num, hb14.out, hB14.out, HREP.out, hl14⟩, ?_⟩
                        simp [intOf]; omega
                    · obtain rfl : jb = yt := by omega
                      have hnx := rsrI_next y n K k F ja
                      rw [HOTH.out] at hnx
                      rw [hnx] at hO
                      have HB := Lib.hid hB
                      have HO := Lib.hid hO
                      have HBB := Lib.hid hb
                      have hjl := HJL.out
                      clear hB hO hb hnx kr gWr
                      go_wp2
                      go_roundw
                      case rel => exact ⟨ja + 1, by omega, by go_num, HBB.out, HB.out, HO.out, hl3⟩
                      case measure => simp [intOf]; omega
                · obtain rfl : ja = K := by omega
                  rw [HEND.out] at hO
                  have c5 := kr.cell' (i := 5) rfl
                  have x1 := bcell gWr hbm X1.out
                  have HB := Lib.hid hB
                  have HO := Lib.hid hO
                  have HBB := Lib.hid hb
                  have hatb : at_ ≤ 24 := by omega
                  clear hB hO hb kr gWr kfr
                  go_wp2
                  refine ⟨⟨k + 1, by omega, by go_num, by rw [HA1.out, HAT_.out]; go_num, HBB.out, HB.out, HO.out, hl2⟩, ?_⟩
                  simp [intOf]; omega
            · have hd : ((nf : Int) != (n : Int)) = true := by rw [bne_iff_ne]; exact hnf
              have htc : tch y.q n k = false := by rw [HTC.out]; simp; exact ⟨by omega, by omega⟩
              have hcp := rsrM_copy (K := K) (F := F) htc em
              have hA1 : atN y n (k + 1) = atN y n k := by rw [atN, if_neg (by rw [htc]; decide)]
              have HCP := Lib.hid hcp
              have HA1 := Lib.hid hA1
              have HMRr := Lib.hid (MxR.next gWr hMR)
              have X0 := Lib.hid (bcell gWr hbm x0)
              have X1 := Lib.hid (bcell gWr hbm x1)
              have X2 := Lib.hid (bcell gWr hbm x2)
              have HMC := Lib.hid hmc
              have KR := Lib.hid kr
              have HB := Lib.hid hB
              have HO := Lib.hid hO
              have HBB := Lib.hid hb
              obtain ⟨at_, hat_⟩ : ∃ z, atN y n k = z := ⟨_, rfl⟩
              rw [hat_] at HA1 ⊢
              have hbmr : bm < wr.heap.size := by omega
              obtain ⟨wa, hwa⟩ : ∃ z, z = wr := ⟨_, rfl⟩
              subst hwa
              clear hat_ hcp hA1 htc hnf hlt hMR hsl hr1 hr2 x0 x1 x2 em ef et df dt eM hB hO hb kr HTC HXT HXM o1 o2 hne hmc t1
              go_wp2
              clear c5 c3 t1'
              refine wp_region_net (by kernel_rfl) [.eq (.pointer (some ⟨w9.heap.size, 5, none⟩)), .eq (.slice (some ⟨gH, 0, none⟩) y.q.f.length hm), .eq (.int .i64 k), .eq (.pointer (some ⟨w0.heap.size, 5, none⟩)), .eq (.slice (some ⟨bm, om, none⟩) y.m.length hc), .eq (.int .i64 k), .eq (.pointer (some ⟨bm, om + k * 3, none⟩)), .eq (.agg #[.int .i64 yt, .int .i64 m.c, .slice MB m.a.length mb]), rel 8 (fun u lo hi w => MxO w lo hi u m), .eq (.pointer (some ⟨gH, k * 3, none⟩))] [[], [0], [], [], [3], [], [3, 4, 5], [3, 4, 5, 6], [3, 4, 5, 6, 7], [0, 1, 2, 3, 4, 5, 6, 7, 8], [0, 1, 2, 3, 4, 5, 6, 7, 8, 9]] 10 (by kernel_rfl) ⟨trivial, trivial, trivial, trivial, trivial, trivial, trivial, trivial, rel_stable (fun u lo hi w w' h hb => h.below hb), trivial, trivial⟩ ⟨?_, ?_, ?_, ?_, ?_, ?_, ?_, ?_, ?_, ?_, trivial⟩ ?_
              · intro x w hb hk Q' hQ
                clear hk
                simp only [netAct, dstAt, List.getElem?_toArray, List.getElem?_cons_zero, List.getElem?_cons_succ, Option.bind_some, Act.put, List.setIfInBounds_toArray, List.set_cons_zero, List.set_cons_succ] at hQ ⊢
                go_wp2
                exact hQ (.pointer (some ⟨w9.heap.size, 5, none⟩)) _ (Below.refl _ _) rfl
              · intro x w hb hk Q' hQ
                have h0 : x.v 0 = .pointer (some ⟨w9.heap.size, 5, none⟩) := (hk 0 (by decide)).1
                clear hk
                simp only [netAct, dstAt, List.getElem?_toArray, List.getElem?_cons_zero, List.getElem?_cons_succ, Option.bind_some, Act.put, List.setIfInBounds_toArray, List.set_cons_zero, List.set_cons_succ] at hQ ⊢
                simp only [h0] at hQ ⊢
                clear h0
                have z := (HB.out.call hb).cell' (i := 5) rfl
                go_wp2
                exact hQ (.slice (some ⟨gH, 0, none⟩) y.q.f.length hm) _ (Below.refl _ _) rfl
              · intro x w hb hk Q' hQ
                clear hk
                simp only [netAct, dstAt, List.getElem?_toArray, List.getElem?_cons_zero, List.getElem?_cons_succ, Option.bind_some, Act.put, List.setIfInBounds_toArray, List.set_cons_zero, List.set_cons_succ] at hQ ⊢
                go_wp2
                exact hQ (.int .i64 k) _ (Below.refl _ _) rfl
              · intro x w hb hk Q' hQ
                clear hk
                simp only [netAct, dstAt, List.getElem?_toArray, List.getElem?_cons_zero, List.getElem?_cons_succ, Option.bind_some, Act.put, List.setIfInBounds_toArray, List.set_cons_zero, List.set_cons_succ] at hQ ⊢
                go_wp2
                exact hQ (.pointer (some ⟨w0.heap.size, 5, none⟩)) _ (Below.refl _ _) rfl
              · intro x w hb hk Q' hQ
                have h3 : x.v 3 = .pointer (some ⟨w0.heap.size, 5, none⟩) := (hk 3 (by decide)).1
                clear hk
                simp only [netAct, dstAt, List.getElem?_toArray, List.getElem?_cons_zero, List.getElem?_cons_succ, Option.bind_some, Act.put, List.setIfInBounds_toArray, List.set_cons_zero, List.set_cons_succ] at hQ ⊢
                simp only [h3] at hQ ⊢
                clear h3
                have z := (KR.out.call hb).cell' (i := 5) rfl
                go_wp2
                exact hQ (.slice (some ⟨bm, om, none⟩) y.m.length hc) _ (Below.refl _ _) rfl
              · intro x w hb hk Q' hQ
                clear hk
                simp only [netAct, dstAt, List.getElem?_toArray, List.getElem?_cons_zero, List.getElem?_cons_succ, Option.bind_some, Act.put, List.setIfInBounds_toArray, List.set_cons_zero, List.set_cons_succ] at hQ ⊢
                go_wp2
                exact hQ (.int .i64 k) _ (Below.refl _ _) rfl
              · intro x w hb hk Q' hQ
                have h4 : x.v 4 = .slice (some ⟨bm, om, none⟩) y.m.length hc := (hk 4 (by decide)).1
                have h5 : x.v 5 = .int .i64 k := (hk 5 (by decide)).1
                clear hk
                simp only [netAct, dstAt, List.getElem?_toArray, List.getElem?_cons_zero, List.getElem?_cons_succ, Option.bind_some, Act.put, List.setIfInBounds_toArray, List.set_cons_zero, List.set_cons_succ] at hQ ⊢
                simp only [h4, h5] at hQ ⊢
                clear h4 h5
                go_wp2
                exact hQ (.pointer (some ⟨bm, om + k * 3, none⟩)) _ (Below.refl _ _) rfl
              · intro x w hb hk Q' hQ
                have h6 : x.v 6 = .pointer (some ⟨bm, om + k * 3, none⟩) := (hk 6 (by decide)).1
                clear hk
                simp only [netAct, dstAt, List.getElem?_toArray, List.getElem?_cons_zero, List.getElem?_cons_succ, Option.bind_some, Act.put, List.setIfInBounds_toArray, List.set_cons_zero, List.set_cons_succ] at hQ ⊢
                simp only [h6] at hQ ⊢
                clear h6
                have z0 := bcell hb hbmr X0.out
                have z1 := bcell hb hbmr X1.out
                have z2 := bcell hb hbmr X2.out
                go_wp2
                exact hQ (.agg #[.int .i64 yt, .int .i64 m.c, .slice MB m.a.length mb]) _ (Below.refl _ _) rfl
              · intro x w hb hk Q' hQ
                have h3 : x.v 3 = .pointer (some ⟨w0.heap.size, 5, none⟩) := (hk 3 (by decide)).1
                have h4 : x.v 4 = .slice (some ⟨bm, om, none⟩) y.m.length hc := (hk 4 (by decide)).1
                have h5 : x.v 5 = .int .i64 k := (hk 5 (by decide)).1
                have h6 : x.v 6 = .pointer (some ⟨bm, om + k * 3, none⟩) := (hk 6 (by decide)).1
                have h7 : x.v 7 = .agg #[.int .i64 yt, .int .i64 m.c, .slice MB m.a.length mb] := (hk 7 (by decide)).1
                clear hk
                simp only [netAct, dstAt, List.getElem?_toArray, List.getElem?_cons_zero, List.getElem?_cons_succ, Option.bind_some, Act.put, List.setIfInBounds_toArray, List.set_cons_zero, List.set_cons_succ] at hQ ⊢
                simp only [h3, h4, h5, h6, h7] at hQ ⊢
                clear h3 h4 h5 h6 h7
                go_wp2_with fail
                refine (l3Copy_any _ m _ (by have := MxR.next hb HMRr.out; rw [HMC.out] at this; exact this)).mono ?_; rintro e w6 ⟨v6, rfl, ho6, hb6⟩
                go_wp2
                exact hQ _ _ hb6 ho6
              · intro x w hb hk Q' hQ
                have h1 : x.v 1 = .slice (some ⟨gH, 0, none⟩) y.q.f.length hm := (hk 1 (by decide)).1
                have h2 : x.v 2 = .int .i64 k := (hk 2 (by decide)).1
                clear hk
                simp only [netAct, dstAt, List.getElem?_toArray, List.getElem?_cons_zero, List.getElem?_cons_succ, Option.bind_some, Act.put, List.setIfInBounds_toArray, List.set_cons_zero, List.set_cons_succ] at hQ ⊢
                simp only [h1, h2] at hQ ⊢
                clear h1 h2
                go_wp2
                exact hQ (.pointer (some ⟨gH, k * 3, none⟩)) _ (Below.refl _ _) rfl
              · intro x w hb hk hiv hdj
                have h0 : x.v 0 = .pointer (some ⟨w9.heap.size, 5, none⟩) := hk 0 (by decide)
                have h1 : x.v 1 = .slice (some ⟨gH, 0, none⟩) y.q.f.length hm := hk 1 (by decide)
                have h2 : x.v 2 = .int .i64 k := hk 2 (by decide)
                have h3 : x.v 3 = .pointer (some ⟨w0.heap.size, 5, none⟩) := hk 3 (by decide)
                have h4 : x.v 4 = .slice (some ⟨bm, om, none⟩) y.m.length hc := hk 4 (by decide)
                have h5 : x.v 5 = .int .i64 k := hk 5 (by decide)
                have h6 : x.v 6 = .pointer (some ⟨bm, om + k * 3, none⟩) := hk 6 (by decide)
                have h7 : x.v 7 = .agg #[.int .i64 yt, .int .i64 m.c, .slice MB m.a.length mb] := hk 7 (by decide)
                have h8 : MxO w (x.lo 8) (x.hi 8) (x.v 8) m := hk 8 (by decide)
                have h9 : x.v 9 = .pointer (some ⟨gH, k * 3, none⟩) := hk 9 (by decide)
                clear hk
                simp only [netAct, dstAt, List.getElem?_toArray, List.getElem?_cons_zero, List.getElem?_cons_succ, Option.bind_some, Act.put, List.setIfInBounds_toArray, List.set_cons_zero, List.set_cons_succ]
                simp only [List.drop_succ_cons, List.drop_zero, h0, h1, h2, h3, h4, h5, h6, h7, h9]
                clear h0 h1 h2 h3 h4 h5 h6 h7 h9
                have i8 := hiv 8 (by decide)
                obtain ⟨AM, am, e8⟩ := h8.form
                rw [e8] at h8 ⊢
                obtain ⟨mr, hmr⟩ : ∃ z, m.r = z := ⟨_, rfl⟩
                obtain ⟨mk, hmk⟩ : ∃ z, m.c = z := ⟨_, rfl⟩
                obtain ⟨ml, hml3⟩ : ∃ z, m.a.length = z := ⟨_, rfl⟩
                rw [hmr, hmk, hml3] at h8 ⊢
                have hOw := HO.out.below hb
                have hbs2 := hb.size
                have o8 := h8.wider (lo' := wa.heap.size) (hi' := w.heap.size) i8.1 i8.2.2
                have hset := RepI.setMx hOw (j := k) (by rw [msF_length]; exact hkn) o8 (Nat.le_refl _) (by omega)
                obtain ⟨W14, hW14⟩ : ∃ u, set3 w gH (k * 3) (.int .i64 mr) (.int .i64 mk) (.slice AM ml am) = u := ⟨_, rfl⟩
                rw [hW14] at hset
                have hch3 : Chg gH (gH + 1) w W14 := by rw [← hW14]; exact chg_set3 _ _ _ _ _ _
                have hs14 : W14.heap.size = w.heap.size := by rw [← hW14]; simp
                have HREP := Lib.hid (show RepI W14 w8.heap.size W14.heap.size _ ⟨y.p, rvQ y.q n, rsdD y n K, msF y.q.f.length (rsrM y n K F (k + 1))⟩ from by
                  rw [← HCP.out]
                  exact hset.1.wider (Nat.le_refl _) (by omega))
                have hB14 := Lib.hid ((HB.out.call hb).chg hch3 (.inr (by omega)))
                have hb14 := Lib.hid ((HBB.out.trans (hb.mono (by omega))).trans (hch3.below (B := w8.heap.size) hset.2.1 (by omega)))
                have hl14 : w9.heap.size < W14.heap.size := by omega
                obtain ⟨g, c', s', e, _, _, z0, z1, z2, _, zf⟩ := hOw.mxAt (j := k) (List.getElem?_eq_getElem (by rw [msF_length]; exact hkn))
                simp only [Value.slice.injEq, Option.some.injEq, Addr.mk.injEq, and_true, true_and] at e
                obtain ⟨eg1, _, eg2⟩ := e
                subst eg1
                subst eg2
                replace z0 : ∃ u, w.cell? ⟨gH, k * 3, none⟩ = some u := ⟨_, z0⟩
                replace z1 : ∃ u, w.cell? ⟨gH, k * 3 + 1, none⟩ = some u := ⟨_, z1⟩
                replace z2 : ∃ u, w.cell? ⟨gH, k * 3 + 2, none⟩ = some u := ⟨_, z2⟩
                obtain ⟨u0, z0⟩ := z0
                obtain ⟨u1, z1⟩ := z1
                obtain ⟨u2, z2⟩ := z2
                clear hset hch3 hs14 hOw hmr hmk hml3 hiv hdj e8 o8 h8 i8
                go_wp2
                clear hW14 z0 z1 z2 zf
                refine ⟨⟨k + 1, by omega, by go_num, by rw [HA1.out], hb14.out, hB14.out, HREP.out, hl14⟩, ?_⟩
                simp [intOf]; omega
          · obtain rfl : k = y.q.f.length := by omega
            have kz := k2.call gWr
            have fr := kz.frozen
            have s0 := kz.cell' (i := 0) rfl
            have s1 := kz.cell' (i := 1) rfl
            have s2 := kz.cell' (i := 2) rfl
            have s3 := kz.cell' (i := 3) rfl
            have s4 := kz.cell' (i := 4) rfl
            have s5 := kz.cell' (i := 5) rfl
            have r0 := hB.cell' (i := 0) rfl
            have r1 := hB.cell' (i := 1) rfl
            have r2 := hB.cell' (i := 2) rfl
            have r3 := hB.cell' (i := 3) rfl
            have r4 := hB.cell' (i := 4) rfl
            have r5 := hB.cell' (i := 5) rfl
            have gf := g0.trans (gWr.mono g0.size)
            have hc6 := chg6 wr (w0.heap.size + 1) (.int .i64 y.p) (.int .i64 y.q.v) (.slice QA2 y.q.f.length qa2) (.slice QB2 y.q.f.length qb2) (.slice DA2 y.d.length dc2) (.slice HM y.q.f.length hm)
            have hw8 := G8.out.size
            have OF := Lib.hid ((hO.chg hc6 (.inr (by have := SZ.out; omega))).rd)
            have GF := Lib.hid (gf.trans (hc6.below (by omega) gf.size))
            have HRS := Lib.hid (rsrM_end y n K F)
            clear hO hB kz gf hc6 hb kr gWr
            go_wp2
            have hE := HE2.out
            exact bodyPost_ret (v := .tuple #[.agg #[.int .i64 y.p, .int .i64 y.q.v, .slice QA2 y.q.f.length qa2, .slice QB2 y.q.f.length qb2, .slice DA2 y.d.length dc2, .slice HM y.q.f.length hm], .bool true]) (by simp [results, go_sem, s0, s1, s2, s3, s4, s5]) rfl ⟨_, by rw [hE], by rw [hE, rfK, ← HRS.out]; exact OF.out, GF.out⟩
    · intro x w hb hk hiv hdj om os hom hos
      simp only [List.getElem?_cons_zero, List.getElem?_cons_succ, Option.some.injEq] at hom hos
      subst hom hos
      have h0 : x.v 0 = .pointer (some ⟨w0.heap.size, 0, none⟩) := hk 0 (by decide)
      have h1 : x.v 1 = .int .i64 y.p := hk 1 (by decide)
      have h2 : x.v 2 = .pointer (some ⟨w0.heap.size, 0, none⟩) := hk 2 (by decide)
      have h3 : x.v 3 = .int .i64 y.p := hk 3 (by decide)
      have h4 : x.v 4 = .pointer (some ⟨w1.heap.size, 0, none⟩) := hk 4 (by decide)
      have h5 : x.v 5 = .int .i64 N := hk 5 (by decide)
      have h6 : x.v 6 = .pointer (some ⟨w0.heap.size, 0, none⟩) := hk 6 (by decide)
      have h7 : x.v 7 = .int .i64 y.p := hk 7 (by decide)
      have h8 : x.v 8 = .agg #[.int .i64 N, .int .i64 D, .slice MA ML mc] := hk 8 (by decide)
      have h9 : IntssO w (x.lo 9) (x.hi 9) (x.v 9) (rowsF ps0.length N (pvF F0 ps0)) := hk 9 (by decide)
      have h10 : ∃ GA gc, (x.v 10) = .agg #[.int .i64 N, .slice GA ps.length gc] ∧ IntssO w (x.lo 10) (x.hi 10) (.slice GA ps.length gc) (rowsF ps.length N g1) := hk 10 (by decide)
      have h11 : ∃ FA FL fc x2 y2 A2 n2 c2, x.v 11 = .tuple #[.agg #[.int .i64 K, .int .i64 N, .slice FA FL fc], .agg #[.int .i64 x2, .int .i64 y2, .slice A2 n2 c2]] ∧ MxO w (x.lo 11) (x.hi 11) (.agg #[.int .i64 K, .int .i64 N, .slice FA FL fc]) (mxF K N F) := hk 11 (by decide)
      have h12 : x.v 12 = x.v 11 := hk 12 (by decide)
      have h13 : ∃ a b, x.v 11 = .tuple #[a, b] ∧ x.v 13 = a := hk 13 (by decide)
      have h15 : ∃ gp, (x.v 15) = .pointer (some ⟨gp, 0, none⟩) ∧ ((x.lo 15) ≤ gp ∧ gp < (x.hi 15)) ∧ Blk w gp 50 #[.int .i64 0, .int .i64 0, .slice none 0 0] := hk 15 (by decide)
      have h16 : ∃ gp, (x.v 16) = .pointer (some ⟨gp, 0, none⟩) ∧ ((x.lo 16) ≤ gp ∧ gp < (x.hi 16)) ∧ Blk w gp 50 #[.int .i64 0, .int .i64 0, .slice none 0 0] := hk 16 (by decide)
      clear hk
      simp only [List.foldl_cons, List.foldl_nil, netAct, dstAt, List.getElem?_toArray, List.getElem?_cons_zero, List.getElem?_cons_succ, Option.bind_some, Act.put, List.setIfInBounds_toArray, List.set_cons_zero, List.set_cons_succ]
      simp only [List.drop_succ_cons, List.drop_zero, h0, h1, h2, h3, h4, h5, h6, h7, h8]
      clear h0 h1 h2 h3 h4 h5 h6 h7 h8
      obtain ⟨FA, FL, fc, x2, y2, A2, n2, c2, e11, hMF⟩ := h11
      obtain ⟨a13, b13, e13a, e13⟩ := h13
      rw [e11] at e13a
      simp only [Value.tuple.injEq, Array.mk.injEq, List.cons.injEq, and_true] at e13a
      obtain ⟨ea1, ea2⟩ := e13a
      subst ea1 ea2
      obtain ⟨ga, e15, hga, kA⟩ := h15
      obtain ⟨gb, e16, hgb, kB⟩ := h16
      try
        obtain ⟨a14, b14, e14a, e14⟩ := h14
        rw [e11] at e14a
        simp only [Value.tuple.injEq, Array.mk.injEq, List.cons.injEq, and_true] at e14a
        obtain ⟨eb1, eb2⟩ := e14a
        subst eb1 eb2
        rw [e14]
      rw [e13, h12, e11, e15, e16]
      have i11 := hiv 11 (by decide)
      have i15 := hiv 15 (by decide)
      have i16 := hiv 16 (by decide)
      have d1 := hdj 11 15 (by decide) (by decide) (by decide)
      have d2 := hdj 11 16 (by decide) (by decide) (by decide)
      have d3 := hdj 15 16 (by decide) (by decide) (by decide)
      have hab : ga ≠ gb := by omega
      have fA := kA.frozen
      have fB := kB.frozen
      have a0 := kA.cell' (i := 0) rfl
      have a1 := kA.cell' (i := 1) rfl
      have a2 := kA.cell' (i := 2) rfl
      have b0 := kB.cell' (i := 0) rfl
      have b1 := kB.cell' (i := 1) rfl
      have b2 := kB.cell' (i := 2) rfl
      obtain ⟨wA, hwA⟩ : ∃ z, set3 w ga 0 (.int .i64 K) (.int .i64 N) (.slice FA FL fc) = z := ⟨_, rfl⟩
      have hcA : Chg ga (ga + 1) w wA := by rw [← hwA]; exact chg_set3 _ _ _ _ _ _
      have kA3 : Blk wA ga 50 #[.int .i64 K, .int .i64 N, .slice FA FL fc] := by rw [← hwA]; exact ((kA.set_ 0 _).set_ 1 _).set_ 2 _
      obtain ⟨w5, hw5⟩ : ∃ z, set3 wA gb 0 (.int .i64 x2) (.int .i64 y2) (.slice A2 n2 c2) = z := ⟨_, rfl⟩
      have hcB : Chg gb (gb + 1) wA w5 := by rw [← hw5]; exact chg_set3 _ _ _ _ _ _
      have hbs := hb.size
      have hsA := hcA.size
      have kf5 := kA3.chg hcB (by omega)
      have hb5 : Below W4.heap.size W4 w5 := (hb.trans (hcA.below (by omega) (by omega))).trans (hcB.below (by omega) (by omega))
      have HK5 := Lib.hid (((hMF.chg hcA (by omega)).chg hcB (by omega)).rd)
      have G5 := Lib.hid (G4.out.trans (hb5.mono G4.out.size))
      have HQ5 := Lib.hid (QvR.next hb5 HQ4.out)
      have kq5 := kq.call hb5
      have k15 := k1.call G5.out
      rw [← hwA] at hw5
      clear hMF kA kB hga hgb i11 i15 i16 d1 d2 d3 hcA hcB hwA kA3 hb hb5 hiv hdj e11 e13 e15 e16 h12 hbs hsA
      obtain ⟨X, hX⟩ : ∃ z, w5.alloc (.cells #[] 3) = z := ⟨_, rfl⟩
      have bX : Below w5.heap.size w5 X := by rw [← hX]; exact below_alloc _ _
      have kX : Blk X w5.heap.size 3 #[] := by rw [← hX]; exact Blk.new _ _ _
      have HDX := Lib.hid (SlI.next (bthen G5.out bX) HDR.out)
      have c4 := (k15.call bX).cell' (i := 4) rfl
      obtain ⟨gx, hgx⟩ : ∃ z, w5.heap.size = z := ⟨_, rfl⟩
      rw [hgx] at kX
      (go_wp2_with (at_builtin; refine Hold.stop ?_)); unfold Hold
      clear hX
      refine wpList_append_fresh (by rfl) (.tmp 49) (.tmp 51) (by rfl) gx gx X.heap.size #[] (by rfl) kX rfl (Nat.le_refl _) E ec y.d (by rfl) HDX.out ?_
      intro v6 w6 ho6 hb6
      obtain ⟨DA, dc, ev, hdc1, hdc2⟩ := ho6.form
      subst ev
      obtain ⟨gd, hgd⟩ : ∃ gd, DA = some ⟨gd, 0, none⟩ := by
        obtain ⟨g, k, e, _⟩ := (IntsO.of_own ho6).at_ (by omega)
        simp only [Value.slice.injEq, true_and] at e
        exact ⟨g, e.1⟩
      subst hgd
      have dcell := (ho6.cellG (j := n) hnl).1
      have dfr := ho6.frozenG n
      have dput := (ho6.put (j := n) (x := (K : Int)) (by unfold I64; omega)).1
      have hgdl := ho6.lt gd rfl
      obtain ⟨W7, hW7⟩ : ∃ z, w6.setCell ⟨gd, n, none⟩ (.int .i64 K) = z := ⟨_, rfl⟩
      rw [hW7] at dput
      have hc7 : Chg gd (gd + 1) w6 W7 := by rw [← hW7]; exact chg_set1 _ _ _ _
      have b57 : Below w5.heap.size w5 W7 := (bX.trans (hb6.mono bX.size)).trans (hc7.below (by omega) (by have := bX.size; have := hb6.size; omega))
      have G7 := Lib.hid (G5.out.trans (b57.mono G5.out.size))
      have kq7 := kq5.call b57
      have HQ7 := Lib.hid (QvR.next b57 HQ5.out)
      have HK7 := Lib.hid (MxR.next b57 HK5.out)
      have kf7 := kf5.call b57
      have f0 := ((kf5.call bX).call hb6).cell' (i := 0) rfl
      have hgaX : ga < w6.heap.size := ((kf5.call bX).call hb6).lt
      have hgad : ga ≠ gd := by have := kf5.lt; omega
      have HD7 : Hid (SlI W7 W7.heap.size (.slice (some ⟨gd, 0, none⟩) y.d.length dc) (rsdD y n K)) := by
        have := dput.rd
        show SlI _ _ _ (y.d.set (n : Int).toNat K)
        rw [Int.toNat_natCast]
        exact this
      clear ho6 dput hc7 b57 bX kX hb6 kq5 k15 c4 kf5
      have q0 := kq7.cell' (i := 0) rfl
      have q1 := kq7.cell' (i := 1) rfl
      have q2 := kq7.cell' (i := 2) rfl
      go_wp2_with fail
      clear hW7 dcell dfr hgx f0
      refine (specAreDims_any _ _ (rvQ y.q n) (rsdD y n K) _ HQ7.out HD7.out).mono ?_; rintro e w8 ⟨rfl, hb8⟩
      have G8 := Lib.hid (G7.out.trans (hb8.mono G7.out.size))
      rcases hA : areDims (rvQ y.q n) (rsdD y n K) with _ | _
      · have HE2 := Lib.hid (HE.out.trans (rfP_no (G := gSrc y n K F) hA))
        have kz := k2.call G8.out
        have fr := kz.frozen
        have s0 := kz.cell' (i := 0) rfl
        have s1' := kz.cell' (i := 1) rfl
        have s2' := kz.cell' (i := 2) rfl
        have s3' := kz.cell' (i := 3) rfl
        have s4' := kz.cell' (i := 4) rfl
        have s5' := kz.cell' (i := 5) rfl
        have gf := g0.trans (G8.out.mono g0.size)
        have GF := Lib.hid gf
        clear kz gf hA hb8 q0 q1 q2
        go_wp2
        have gf := GF.out
        have hE := HE2.out
        exact bodyPost_ret (v := .tuple #[.agg #[.int .i64 0, .int .i64 0, .slice none 0 0, .slice none 0 0, .slice none 0 0, .slice none 0 0], .bool false]) (by simp [results, go_sem, s0, s1', s2', s3', s4', s5']) rfl ⟨_, by rw [hE], by rw [hE]; exact (RepO.zero _ 0 0).rd, (((((gf.setCell (by simp) _).setCell (by simp) _).setCell (by simp) _).setCell (by simp) _).setCell (by simp) _).setCell (by simp) _⟩
      · have HE2 := Lib.hid (HE.out.trans (rfP_yes (G := gSrc y n K F) hA))
        have HA := Lib.hid hA
        have k18 := k1.call G8.out
        have kq8 := kq7.call hb8
        have HQ8 := Lib.hid (QvR.next hb8 HQ7.out)
        have HD8 := Lib.hid (SlI.next hb8 HD7.out)
        have HK8 := Lib.hid (MxR.next hb8 HK7.out)
        have kf8 := kf7.call hb8
        have hga8 := kf8.lt
        clear hA q0 q1 q2 kq7 hb8
        have c0 := k18.cell' (i := 0) rfl
        have q0 := kq8.cell' (i := 0) rfl
        have q1 := kq8.cell' (i := 1) rfl
        have q2 := kq8.cell' (i := 2) rfl
        go_wp2_with fail
        refine (l8Zero_any y.p _ _ (rvQ y.q n) (rsdD y n K) _ hIp HQ8.out HD8.out HA.out).mono ?_; rintro e w9 ⟨v9, rfl, hO9, hb9⟩
        obtain ⟨QA2, qa2, QB2, qb2, DA2, dc2, HM, hm, ev⟩ := hO9.rd.form
        have e1 : (zRep y.p (rvQ y.q n) (rsdD y n K)).q.f.length = y.q.f.length := rowF_length _ _
        have e2 : (zRep y.p (rvQ y.q n) (rsdD y n K)).q.t.length = y.q.f.length := rowF_length _ _
        have e3 : (zRep y.p (rvQ y.q n) (rsdD y n K)).d.length = y.d.length := by simp [zRep, rsdD]
        have e4 : (zRep y.p (rvQ y.q n) (rsdD y n K)).m.length = y.q.f.length := by rw [zRep, zms_F, msF_length]; exact e1
        have e5 : (zRep y.p (rvQ y.q n) (rsdD y n K)).q.v = y.q.v := rfl
        have e6 : (zRep y.p (rvQ y.q n) (rsdD y n K)).p = y.p := rfl
        rw [e1, e2, e3, e4, e5, e6] at ev
        subst ev
        have hO9' : RepI w9 w8.heap.size w9.heap.size (.agg #[.int .i64 y.p, .int .i64 y.q.v, .slice QA2 y.q.f.length qa2, .slice QB2 y.q.f.length qb2, .slice DA2 y.d.length dc2, .slice HM y.q.f.length hm]) ⟨y.p, rvQ y.q n, rsdD y n K, msF y.q.f.length (rsrM y n K F 0)⟩ := by
          have hz : zRep y.p (rvQ y.q n) (rsdD y n K) = ⟨y.p, rvQ y.q n, rsdD y n K, msF y.q.f.length (rsrM y n K F 0)⟩ := by
            rw [zRep, zms_F, show (rvQ y.q (n : Int)).f.length = y.q.f.length from rowF_length _ _]
            congr 1
          rw [← hz]
          exact hO9
        obtain ⟨W10, hW10⟩ : ∃ z, w9.alloc (.cells #[.int .i64 y.p, .int .i64 y.q.v, .slice QA2 y.q.f.length qa2, .slice QB2 y.q.f.length qb2, .slice DA2 y.d.length dc2, .slice HM y.q.f.length hm] 32) = z := ⟨_, rfl⟩
        have ga : Below w9.heap.size w9 W10 := by rw [← hW10]; exact below_alloc _ _
        have kO : Blk W10 w9.heap.size 32 #[.int .i64 y.p, .int .i64 y.q.v, .slice QA2 y.q.f.length qa2, .slice QB2 y.q.f.length qb2, .slice DA2 y.d.length dc2, .slice HM y.q.f.length hm] := by rw [← hW10]; exact Blk.new _ _ _
        have lO := kO.lt
        have hO10 := (hO9'.below ga).wider (Nat.le_refl _) ga.size
        have hb810 := bthen hb9 ga
        have hHM : Hid (∀ (j : Nat) (m : Mx), j < y.q.f.length → ∃ gH, HM = some ⟨gH, 0, none⟩ ∧ gH < w9.heap.size) := fun j m hj => by
          obtain ⟨g, c', s', e, h1, h2, _⟩ := hO9'.mxAt (j := j) (List.getElem?_eq_getElem (by rw [msF_length]; exact hj))
          simp only [Value.slice.injEq, true_and] at e
          exact ⟨g, e.1, h2⟩
        have s9 := hb9.size
        clear e1 e2 e3 e4 e5 e6 hO9 hO9' hb9 ga c0 q0 q1 q2 k18 kq8
        go_wp2
        clear hW10
        go_loopw [14, 15] (fun av i wr => ∃ k : Nat, k ≤ y.q.f.length ∧ i = .int .i64 k ∧ av = .int .i64 (atN y n k) ∧ Below w8.heap.size w8 wr ∧ Blk wr w9.heap.size 32 #[.int .i64 y.p, .int .i64 y.q.v, .slice QA2 y.q.f.length qa2, .slice QB2 y.q.f.length qb2, .slice DA2 y.d.length dc2, .slice HM y.q.f.length hm] ∧ RepI wr w8.heap.size wr.heap.size (.agg #[.int .i64 y.p, .int .i64 y.q.v, .slice QA2 y.q.f.length qa2, .slice QB2 y.q.f.length qb2, .slice DA2 y.d.length dc2, .slice HM y.q.f.length hm]) ⟨y.p, rvQ y.q n, rsdD y n K, msF y.q.f.length (rsrM y n K F k)⟩ ∧ w9.heap.size < wr.heap.size) (fun _ i _ => y.q.f.length - (intOf i).toNat)
        case atStart => exact ⟨0, Nat.zero_le _, rfl, rfl, hb810, kO, hO10, lO⟩
        case round =>
          clear hb810 kO hO10 lO
          obtain ⟨k, hk, rfl, rfl, hb, hB, hO, hlO⟩ := hrel
          have gWr := G8.out.trans (hb.mono G8.out.size)
          have gws := gWr.size
          have hbs := hb.size
          have kr := k1.call gWr
          have c5 := kr.cell' (i := 5) rfl
          have hml : y.m.length ≤ y.q.f.length := Nat.le_of_eq HML2.out
          have hml2 : y.q.f.length ≤ y.m.length := Nat.le_of_eq HML2.out.symm
          by_cases hkn : k < y.q.f.length
          · obtain ⟨m, nf, nt, yf, yt, em, ef, et, df, dt, eM, _, b1, b2, b3, b4, hfd, htd, b8, b9⟩ := isRep_at HY.out hkn
            have hlt := (isQ_t.1 HQQ.out).2.1
            obtain ⟨bt, ot, xt, eC, hbt, HXT, t1, _⟩ := SlI.at_ (QvR.sl HQR.out).1 hkn
            subst eC
            have q2 := HXT.out
            rw [ef] at q2
            injection q2 with q2
            subst q2
            obtain ⟨bm, om, m', MB, mb, eH, hbm, HXM, x0, x1, x2, hsl, hr1, hr2, _⟩ := SlM.at_ HMR.out b9
            subst eH
            have q3 := HXM.out
            rw [em] at q3
            injection q3 with q3
            subst q3
            have hMR : MxR W W.heap.size (.agg #[.int .i64 m.r, .int .i64 m.c, .slice MB m.a.length mb]) m := ⟨_, rfl, hsl, hr1, hr2⟩
            have hmc : m.r = (yt : Int) := by rw [eM]; rfl
            rw [hmc] at x0
            have t1' := bcell gWr hbt t1
            have c3 := kr.cell' (i := 2) rfl
            obtain ⟨gH, eHM, hgHl⟩ := hHM.out k m hkn
            subst eHM
            have HTC := Lib.hid (tch_of (v := (n : Int)) ef et)
            have hne : nt ≠ n := by
              rintro rfl
              exact (endV_not HS.out).1 (List.mem_of_getElem? et)
            obtain ⟨o1, o2⟩ := oth_at (v := (n : Int)) ef et df dt
            by_cases hnf : (nf : Int) = n
            · have hd : ((nf : Int) != (n : Int)) = false := by rw [bne_eq_false_iff_eq]; exact hnf
              have htc : tch y.q n k = true := by rw [HTC.out, hnf]; simp
              have hoth : othN y n k = yt := o2 hnf
              have hzm : zmAt (rvQ y.q n) (rsdD y n K) k = mxF K (othN y n k) fun _ _ => 0 := by
                rw [hoth]
                exact zm_src hkn hlt (by rw [hnf] at ef; exact ef) et dt hne hnl
              have hA1 : atN y n (k + 1) = atN y n k + yt := by rw [atN, if_pos htc, hoth]
              have hfit := atN_fit htc hkn
              rw [HAT.out, hoth] at hfit
              have hI0 := rsrI_0 (F := F) hzm
              have HEND := Lib.hid (rsrI_end (K := K) (F := F) htc)
              have HOTH := Lib.hid hoth
              have HA1 := Lib.hid hA1
              obtain ⟨at_, hat_⟩ : ∃ z, atN y n k = z := ⟨_, rfl⟩
              rw [hat_] at hfit ⊢
              have HAT_ := Lib.hid hat_
              have X1 := Lib.hid x0
              rw [hI0] at hO
              have GWr := Lib.hid gWr
              obtain ⟨wa, hwa⟩ : ∃ z, z = wr := ⟨_, rfl⟩
              subst hwa
              have HB := Lib.hid hB
              have HO := Lib.hid hO
              have HBB := Lib.hid hb
              clear hat_ hA1 htc hnf hMR hsl hr1 hr2 x0 x1 x2 em ef et df dt eM hB hO hb kr HTC HXT HXM o1 o2 hne hmc t1 gWr hI0 hzm hoth hlt
              go_wp2
              clear c5 c3 t1'
              go_loopw [16] (fun i wr => ∃ ja : Nat, ja ≤ K ∧ i = .int .i64 ja ∧ Below w8.heap.size w8 wr ∧ Blk wr w9.heap.size 32 #[.int .i64 y.p, .int .i64 y.q.v, .slice QA2 y.q.f.length qa2, .slice QB2 y.q.f.length qb2, .slice DA2 y.d.length dc2, .slice (some ⟨gH, 0, none⟩) y.q.f.length hm] ∧ RepI wr w8.heap.size wr.heap.size (.agg #[.int .i64 y.p, .int .i64 y.q.v, .slice QA2 y.q.f.length qa2, .slice QB2 y.q.f.length qb2, .slice DA2 y.d.length dc2, .slice (some ⟨gH, 0, none⟩) y.q.f.length hm]) ⟨y.p, rvQ y.q n, rsdD y n K, msF y.q.f.length (rsrI y n K F k ja 0)⟩ ∧ w9.heap.size < wr.heap.size) (fun i _ => K - (intOf i).toNat)
              case atStart => exact ⟨0, Nat.zero_le _, rfl, HBB.out, HB.out, HO.out, hlO⟩
              case round =>
                clear HBB HB HO
                obtain ⟨ja, hja, rfl, hb, hB, hO, hl2⟩ := hrel
                have gWr := G8.out.trans (hb.mono G8.out.size)
                have kr := k1.call gWr
                have kfr := kf8.below hb hga8
                have y0 := kfr.cell' (i := 0) rfl
                have hbs2 := hb.size
                by_cases hjl : ja < K
                · have HB := Lib.hid hB
                  have HO := Lib.hid hO
                  have HBB := Lib.hid hb
                  have HJL := Lib.hid hjl
                  clear hB hO hb kr gWr kfr
                  obtain ⟨wb, hwb⟩ : ∃ z, z = wr := ⟨_, rfl⟩
                  subst hwb
                  go_wp2
                  clear y0
                  go_loopw [17] (fun i wr => ∃ jb : Nat, jb ≤ yt ∧ i = .int .i64 jb ∧ Below w8.heap.size w8 wr ∧ Blk wr w9.heap.size 32 #[.int .i64 y.p, .int .i64 y.q.v, .slice QA2 y.q.f.length qa2, .slice QB2 y.q.f.length qb2, .slice DA2 y.d.length dc2, .slice (some ⟨gH, 0, none⟩) y.q.f.length hm] ∧ RepI wr w8.heap.size wr.heap.size (.agg #[.int .i64 y.p, .int .i64 y.q.v, .slice QA2 y.q.f.length qa2, .slice QB2 y.q.f.length qb2, .slice DA2 y.d.length dc2, .slice (some ⟨gH, 0, none⟩) y.q.f.length hm]) ⟨y.p, rvQ y.q n, rsdD y n K, msF y.q.f.length (rsrI y n K F k ja jb)⟩ ∧ w9.heap.size < wr.heap.size) (fun i _ => yt - (intOf i).toNat)
                  case atStart => exact ⟨0, Nat.zero_le _, rfl, HBB.out, HB.out, HO.out, hl2⟩
                  case round =>
                    clear HBB HB HO
                    obtain ⟨jb, hjb, rfl, hb, hB, hO, hl3⟩ := hrel
                    have hbs3 := hb.size
                    have gWr := G8.out.trans (hb.mono G8.out.size)
                    have kr := k1.call gWr
                    have c5 := kr.cell' (i := 5) rfl
                    have x1 := bcell gWr hbm X1.out
                    have hbmw : bm < wr.heap.size := Nat.lt_of_lt_of_le hbm gWr.size
                    by_cases hjk : jb < yt
                    · obtain ⟨FM, eFM, hSM, _, _⟩ := HK8.out
                      simp only [mxF, Value.agg.injEq, Array.mk.injEq, List.cons.injEq, and_true, true_and] at eFM
                      subst eFM
                      simp only [mxF] at hSM
                      obtain ⟨Q, hQ⟩ : ∃ Q, Q = ja * N := ⟨_, rfl⟩
                      have hQw := Lib.hid (ixP (i := ja) (k := at_ + jb) (r := K) (c := N) hjl (by omega) (by omega) (by omega) hQ)
                      obtain ⟨f1, _, f3⟩ := rowP (i := ja) (k := at_ + jb) (r := K) (c := N) hjl (by omega) (by omega) (by omega) hQ
                      have hFL : FL = K * N := by obtain ⟨_, _, e, _⟩ := hSM; injection e with _ e _; rw [e, flat_length]
                      obtain ⟨bf, of_, xv, eR, hbr, HXV, v1, hx1, hx2⟩ := SlI.atM (k := Q + (at_ + jb)) hSM (by rw [flat_length, hFL]) (by rw [hFL]; exact f1)
                      subst eR
                      have hxv := HXV.out
                      rw [hQ, flat_get F hjl (show at_ + jb < N by omega)] at hxv
                      injection hxv with hxv
                      have hfl1 : Q + (at_ + jb) < FL := by rw [hFL]; exact f1
                      have hfl3 : FL ≤ 1000000 := by rw [hFL]; exact f3
                      have hyl := rsrI_at y n K k F ja jb hkn
                      rw [HOTH.out] at hyl
                      obtain ⟨P, hP⟩ : ∃ P, P = ja * yt := ⟨_, rfl⟩
                      obtain ⟨p1, p2, p3⟩ := ix_pk2 hjl hjk b2 (by omega) hP
                      obtain ⟨Lk, hLk⟩ : ∃ z, K * yt = z := ⟨_, rfl⟩
                      rw [hLk] at p2 p3
                      have hput := hO.putMx (i := P + jb) (z := xv) hyl (by simp only [mxF]; rw [flat_length, hLk]; exact p2) ⟨hx1, hx2⟩
                      simp only [mxF] at hput
                      rw [flat_length, hLk] at hput
                      obtain ⟨g, cg, gr, cr, eg, z1, z2, ⟨u0, z3⟩, z4, ⟨cg1, cg2⟩, ⟨cr1, cr2⟩, ⟨hgr1, hgr2⟩, hapart, _⟩ := hput
                      simp only [Value.slice.injEq, Option.some.injEq, Addr.mk.injEq, and_true, true_and, msF_length] at eg cg1
                      obtain ⟨eg1, eg2⟩ := eg
                      subst eg1
                      subst eg2
                      have HPUT := Lib.hid (fun (w : World) (h : RepI w w8.heap.size w.heap.size (.agg #[.int .i64 y.p, .int .i64 y.q.v, .slice QA2 y.q.f.length qa2, .slice QB2 y.q.f.length qb2, .slice DA2 y.d.length dc2, .slice (some ⟨gH, 0, none⟩) y.q.f.length hm]) ⟨y.p, rvQ y.q n, rsdD y n K, msF y.q.f.length (rsrI y n K F k ja jb)⟩) => RepI.putMx (i := P + jb) (z := xv) h hyl (by simp only [mxF]; rw [flat_length, hLk]; exact p2) ⟨hx1, hx2⟩)
                      have hst := rsrI_put (x := y) (v := (n : Int)) (K := K) (k := k) (F := F) (a := ja) (b := jb) hjl (by rw [HOTH.out]; exact hjk)
                      have hxv2 : F ja (atN y n k + jb) = xv := by rw [HAT_.out]; exact hxv
                      rw [HOTH.out, hxv2, ← hP] at hst
                      have HST := Lib.hid hst
                      have hgo := hapart _ _ _ hB (by decide)
                      have HP1 := Lib.hid p1
                      have Z2 := Lib.hid z2
                      have V1 := Lib.hid v1
                      have XR := Lib.hid x1
                      have KR := Lib.hid kr
                      have KF := Lib.hid (kf8.below hb hga8)
                      have HBr := Lib.hid hB
                      have HOr := Lib.hid hO
                      have HBBr := Lib.hid hb
                      have hgHw : gH < wr.heap.size := by omega
                      have hLKe := Lib.hid hLk
                      obtain ⟨wc, hwc⟩ : ∃ z, z = wr := ⟨_, rfl⟩
                      subst hwc
                      clear hSM HXV hxv hxv2 hyl hLk hst hB hO hb z1 z2 z3 z4 v1 hapart p1 hP hQ hFL f1 f3 kr gWr
                      go_wp2
                      clear c5 x1
                      refine wp_region_net (by kernel_rfl) [.eq (.pointer (some ⟨w9.heap.size, 5, none⟩)), .eq (.slice (some ⟨gH, 0, none⟩) y.q.f.length hm), .eq (.int .i64 k), .eq (.pointer (some ⟨gH, k * 3, none⟩)), .eq (.pointer (some ⟨gH, k * 3 + 2, none⟩)), .eq (.slice (some ⟨gr, 0, none⟩) Lk cr), .eq (.int .i64 ja), .eq (.pointer (some ⟨w0.heap.size, 5, none⟩)), .eq (.slice (some ⟨bm, om, none⟩) y.m.length hc), .eq (.int .i64 k), .eq (.pointer (some ⟨bm, om + k * 3, none⟩)), .eq (.pointer (some ⟨bm, om + k * 3, none⟩)), .eq (.int .i64 yt), .eq (.int .i64 P), .eq (.int .i64 jb), .eq (.int .i64 ((P : Int) + jb)), .eq (.pointer (some ⟨ga, 2, none⟩)), .eq (.slice (some ⟨bf, of_, none⟩) FL fc), .eq (.int .i64 ja), .eq (.pointer (some ⟨ga, 1, none⟩)), .eq (.int .i64 N), .eq (.int .i64 Q), .eq (.int .i64 at_), .eq (.int .i64 ((Q : Int) + at_)), .eq (.int .i64 jb), .eq (.int .i64 ((Q : Int) + at_ + jb)), .eq (.pointer (some ⟨bf, of_ + (Q + (at_ + jb)), none⟩)), .eq (.int .i64 xv)] [[], [0], [], [0, 1, 2], [0, 1, 2, 3], [0, 1, 2, 3, 4], [], [], [7], [], [7, 8, 9], [7, 8, 9, 10], [7, 8, 9, 10, 11], [6, 7, 8, 9, 10, 11, 12], [], [6, 7, 8, 9, 10, 11, 12, 13, 14], [], [16], [], [], [19], [18, 19, 20], [], [18, 19, 20, 21, 22], [], [18, 19, 20, 21, 22, 23, 24], [16, 17, 18, 19, 20, 21, 22, 23, 24, 25], [16, 17, 18, 19, 20, 21, 22, 23, 24, 25, 26], [0, 1, 2, 3, 4, 5, 6, 7, 8, 9, 10, 11, 12, 13, 14, 15, 16, 17, 18, 19, 20, 21, 22, 23, 24, 25, 26, 27], [0, 1, 2, 3, 4, 5, 6, 7, 8, 9, 10, 11, 12, 13, 14, 15, 16, 17, 18, 19, 20, 21, 22, 23, 24, 25, 26, 27, 28]] 28 (by kernel_rfl) ⟨trivial, trivial, trivial, trivial, trivial, trivial, trivial, trivial, trivial, trivial, trivial, trivial, trivial, trivial, trivial, trivial, trivial, trivial, trivial, trivial, trivial, trivial, trivial, trivial, trivial, trivial, trivial, trivial, trivial⟩ ⟨?_, ?_, ?_, ?_, ?_, ?_, ?_, ?_, ?_, ?_, ?_, ?_, ?_, ?_, ?_, ?_, ?_, ?_, ?_, ?_, ?_, ?_, ?_, ?_, ?_, ?_, ?_, ?_, trivial⟩ ?_
                      · intro x w hb hk Q' hQ
                        clear hk
                        simp only [netAct, dstAt, List.getElem?_toArray, List.getElem?_cons_zero, List.getElem?_cons_succ, Option.bind_some, Act.put, List.setIfInBounds_toArray, List.set_cons_zero, List.set_cons_succ] at hQ ⊢
                        go_wp2
                        exact hQ (.pointer (some ⟨w9.heap.size, 5, none⟩)) _ (Below.refl _ _) rfl
                      · intro x w hb hk Q' hQ
                        have h0 : x.v 0 = .pointer (some ⟨w9.heap.size, 5, none⟩) := (hk 0 (by decide)).1
                        clear hk
                        simp only [netAct, dstAt, List.getElem?_toArray, List.getElem?_cons_zero, List.getElem?_cons_succ, Option.bind_some, Act.put, List.setIfInBounds_toArray, List.set_cons_zero, List.set_cons_succ] at hQ ⊢
                        simp only [h0] at hQ ⊢
                        clear h0
                        have z := (HBr.out.call hb).cell' (i := 5) rfl
                        go_wp2
                        exact hQ (.slice (some ⟨gH, 0, none⟩) y.q.f.length hm) _ (Below.refl _ _) rfl
                      · intro x w hb hk Q' hQ
                        clear hk
                        simp only [netAct, dstAt, List.getElem?_toArray, List.getElem?_cons_zero, List.getElem?_cons_succ, Option.bind_some, Act.put, List.setIfInBounds_toArray, List.set_cons_zero, List.set_cons_succ] at hQ ⊢
                        go_wp2
                        exact hQ (.int .i64 k) _ (Below.refl _ _) rfl
                      · intro x w hb hk Q' hQ
                        have h1 : x.v 1 = .slice (some ⟨gH, 0, none⟩) y.q.f.length hm := (hk 1 (by decide)).1
                        have h2 : x.v 2 = .int .i64 k := (hk 2 (by decide)).1
                        clear hk
                        simp only [netAct, dstAt, List.getElem?_toArray, List.getElem?_cons_zero, List.getElem?_cons_succ, Option.bind_some, Act.put, List.setIfInBounds_toArray, List.set_cons_zero, List.set_cons_succ] at hQ ⊢
                        simp only [h1, h2] at hQ ⊢
                        clear h1 h2
                        go_wp2
                        exact hQ (.pointer (some ⟨gH, k * 3, none⟩)) _ (Below.refl _ _) rfl
                      · intro x w hb hk Q' hQ
                        have h3 : x.v 3 = .pointer (some ⟨gH, k * 3, none⟩) := (hk 3 (by decide)).1
                        clear hk
                        simp only [netAct, dstAt, List.getElem?_toArray, List.getElem?_cons_zero, List.getElem?_cons_succ, Option.bind_some, Act.put, List.setIfInBounds_toArray, List.set_cons_zero, List.set_cons_succ] at hQ ⊢
                        simp only [h3] at hQ ⊢
                        clear h3
                        go_wp2
                        exact hQ (.pointer (some ⟨gH, k * 3 + 2, none⟩)) _ (Below.refl _ _) rfl
                      · intro x w hb hk Q' hQ
                        have h4 : x.v 4 = .pointer (some ⟨gH, k * 3 + 2, none⟩) := (hk 4 (by decide)).1
                        clear hk
                        simp only [netAct, dstAt, List.getElem?_toArray, List.getElem?_cons_zero, List.getElem?_cons_succ, Option.bind_some, Act.put, List.setIfInBounds_toArray, List.set_cons_zero, List.set_cons_succ] at hQ ⊢
                        simp only [h4] at hQ ⊢
                        clear h4
                        have z := bcell hb hgHw Z2.out
                        go_wp2
                        exact hQ (.slice (some ⟨gr, 0, none⟩) Lk cr) _ (Below.refl _ _) rfl
                      · intro x w hb hk Q' hQ
                        clear hk
                        simp only [netAct, dstAt, List.getElem?_toArray, List.getElem?_cons_zero, List.getElem?_cons_succ, Option.bind_some, Act.put, List.setIfInBounds_toArray, List.set_cons_zero, List.set_cons_succ] at hQ ⊢
                        go_wp2
                        exact hQ (.int .i64 ja) _ (Below.refl _ _) rfl
                      · intro x w hb hk Q' hQ
                        clear hk
                        simp only [netAct, dstAt, List.getElem?_toArray, List.getElem?_cons_zero, List.getElem?_cons_succ, Option.bind_some, Act.put, List.setIfInBounds_toArray, List.set_cons_zero, List.set_cons_succ] at hQ ⊢
                        go_wp2
                        exact hQ (.pointer (some ⟨w0.heap.size, 5, none⟩)) _ (Below.refl _ _) rfl
                      · intro x w hb hk Q' hQ
                        have h7 : x.v 7 = .pointer (some ⟨w0.heap.size, 5, none⟩) := (hk 7 (by decide)).1
                        clear hk
                        simp only [netAct, dstAt, List.getElem?_toArray, List.getElem?_cons_zero, List.getElem?_cons_succ, Option.bind_some, Act.put, List.setIfInBounds_toArray, List.set_cons_zero, List.set_cons_succ] at hQ ⊢
                        simp only [h7] at hQ ⊢
                        clear h7
                        have z := (KR.out.call hb).cell' (i := 5) rfl
                        go_wp2
                        exact hQ (.slice (some ⟨bm, om, none⟩) y.m.length hc) _ (Below.refl _ _) rfl
                      · intro x w hb hk Q' hQ
                        clear hk
                        simp only [netAct, dstAt, List.getElem?_toArray, List.getElem?_cons_zero, List.getElem?_cons_succ, Option.bind_some, Act.put, List.setIfInBounds_toArray, List.set_cons_zero, List.set_cons_succ] at hQ ⊢
                        go_wp2
                        exact hQ (.int .i64 k) _ (Below.refl _ _) rfl
                      · intro x w hb hk Q' hQ
                        have h8 : x.v 8 = .slice (some ⟨bm, om, none⟩) y.m.length hc := (hk 8 (by decide)).1
                        have h9 : x.v 9 = .int .i64 k := (hk 9 (by decide)).1
                        clear hk
                        simp only [netAct, dstAt, List.getElem?_toArray, List.getElem?_cons_zero, List.getElem?_cons_succ, Option.bind_some, Act.put, List.setIfInBounds_toArray, List.set_cons_zero, List.set_cons_succ] at hQ ⊢
                        simp only [h8, h9] at hQ ⊢
                        clear h8 h9
                        go_wp2
                        exact hQ (.pointer (some ⟨bm, om + k * 3, none⟩)) _ (Below.refl _ _) rfl
                      · intro x w hb hk Q' hQ
                        have h10 : x.v 10 = .pointer (some ⟨bm, om + k * 3, none⟩) := (hk 10 (by decide)).1
                        clear hk
                        simp only [netAct, dstAt, List.getElem?_toArray, List.getElem?_cons_zero, List.getElem?_cons_succ, Option.bind_some, Act.put, List.setIfInBounds_toArray, List.set_cons_zero, List.set_cons_succ] at hQ ⊢
                        simp only [h10] at hQ ⊢
                        clear h10
                        go_wp2
                        exact hQ (.pointer (some ⟨bm, om + k * 3, none⟩)) _ (Below.refl _ _) rfl
                      · intro x w hb hk Q' hQ
                        have h11 : x.v 11 = .pointer (some ⟨bm, om + k * 3, none⟩) := (hk 11 (by decide)).1
                        clear hk
                        simp only [netAct, dstAt, List.getElem?_toArray, List.getElem?_cons_zero, List.getElem?_cons_succ, Option.bind_some, Act.put, List.setIfInBounds_toArray, List.set_cons_zero, List.set_cons_succ] at hQ ⊢
                        simp only [h11] at hQ ⊢
                        clear h11
                        have z := bcell hb hbmw XR.out
                        go_wp2
                        exact hQ (.int .i64 yt) _ (Below.refl _ _) rfl
                      · intro x w hb hk Q' hQ
                        have h6 : x.v 6 = .int .i64 ja := (hk 6 (by decide)).1
                        have h12 : x.v 12 = .int .i64 yt := (hk 12 (by decide)).1
                        clear hk
                        simp only [netAct, dstAt, List.getElem?_toArray, List.getElem?_cons_zero, List.getElem?_cons_succ, Option.bind_some, Act.put, List.setIfInBounds_toArray, List.set_cons_zero, List.set_cons_succ] at hQ ⊢
                        simp only [h6, h12] at hQ ⊢
                        clear h6 h12
                        go_wp2
                        rw [HP1.out]
                        exact hQ (.int .i64 P) _ (Below.refl _ _) rfl
                      · intro x w hb hk Q' hQ
                        clear hk
                        simp only [netAct, dstAt, List.getElem?_toArray, List.getElem?_cons_zero, List.getElem?_cons_succ, Option.bind_some, Act.put, List.setIfInBounds_toArray, List.set_cons_zero, List.set_cons_succ] at hQ ⊢
                        go_wp2
                        exact hQ (.int .i64 jb) _ (Below.refl _ _) rfl
                      · intro x w hb hk Q' hQ
                        have h13 : x.v 13 = .int .i64 P := (hk 13 (by decide)).1
                        have h14 : x.v 14 = .int .i64 jb := (hk 14 (by decide)).1
                        clear hk
                        simp only [netAct, dstAt, List.getElem?_toArray, List.getElem?_cons_zero, List.getElem?_cons_succ, Option.bind_some, Act.put, List.setIfInBounds_toArray, List.set_cons_zero, List.set_cons_succ] at hQ ⊢
                        simp only [h13, h14] at hQ ⊢
                        clear h13 h14
                        go_wp2
                        exact hQ (.int .i64 ((P : Int) + jb)) _ (Below.refl _ _) rfl
                      · intro x w hb hk Q' hQ
                        clear hk
                        simp only [netAct, dstAt, List.getElem?_toArray, List.getElem?_cons_zero, List.getElem?_cons_succ, Option.bind_some, Act.put, List.setIfInBounds_toArray, List.set_cons_zero, List.set_cons_succ] at hQ ⊢
                        go_wp2
                        exact hQ (.pointer (some ⟨ga, 2, none⟩)) _ (Below.refl _ _) rfl
                      · intro x w hb hk Q' hQ
                        have h16 : x.v 16 = .pointer (some ⟨ga, 2, none⟩) := (hk 16 (by decide)).1
                        clear hk
                        simp only [netAct, dstAt, List.getElem?_toArray, List.getElem?_cons_zero, List.getElem?_cons_succ, Option.bind_some, Act.put, List.setIfInBounds_toArray, List.set_cons_zero, List.set_cons_succ] at hQ ⊢
                        simp only [h16] at hQ ⊢
                        clear h16
                        have z := (KF.out.call hb).cell' (i := 2) rfl
                        go_wp2
                        exact hQ (.slice (some ⟨bf, of_, none⟩) FL fc) _ (Below.refl _ _) rfl
                      · intro x w hb hk Q' hQ
                        clear hk
                        simp only [netAct, dstAt, List.getElem?_toArray, List.getElem?_cons_zero, List.getElem?_cons_succ, Option.bind_some, Act.put, List.setIfInBounds_toArray, List.set_cons_zero, List.set_cons_succ] at hQ ⊢
                        go_wp2
                        exact hQ (.int .i64 ja) _ (Below.refl _ _) rfl
                      · intro x w hb hk Q' hQ
                        clear hk
                        simp only [netAct, dstAt, List.getElem?_toArray, List.getElem?_cons_zero, List.getElem?_cons_succ, Option.bind_some, Act.put, List.setIfInBounds_toArray, List.set_cons_zero, List.set_cons_succ] at hQ ⊢
                        go_wp2
                        exact hQ (.pointer (some ⟨ga, 1, none⟩)) _ (Below.refl _ _) rfl
                      · intro x w hb hk Q' hQ
                        have h19 : x.v 19 = .pointer (some ⟨ga, 1, none⟩) := (hk 19 (by decide)).1
                        clear hk
                        simp only [netAct, dstAt, List.getElem?_toArray, List.getElem?_cons_zero, List.getElem?_cons_succ, Option.bind_some, Act.put, List.setIfInBounds_toArray, List.set_cons_zero, List.set_cons_succ] at hQ ⊢
                        simp only [h19] at hQ ⊢
                        clear h19
                        have z := (KF.out.call hb).cell' (i := 1) rfl
                        go_wp2
                        exact hQ (.int .i64 N) _ (Below.refl _ _) rfl
                      · intro x w hb hk Q' hQ
                        have h18 : x.v 18 = .int .i64 ja := (hk 18 (by decide)).1
                        have h20 : x.v 20 = .int .i64 N := (hk 20 (by decide)).1
                        clear hk
                        simp only [netAct, dstAt, List.getElem?_toArray, List.getElem?_cons_zero, List.getElem?_cons_succ, Option.bind_some, Act.put, List.setIfInBounds_toArray, List.set_cons_zero, List.set_cons_succ] at hQ ⊢
                        simp only [h18, h20] at hQ ⊢
                        clear h18 h20
                        go_wp2
                        rw [hQw.out]
                        exact hQ (.int .i64 Q) _ (Below.refl _ _) rfl
                      · intro x w hb hk Q' hQ
                        clear hk
                        simp only [netAct, dstAt, List.getElem?_toArray, List.getElem?_cons_zero, List.getElem?_cons_succ, Option.bind_some, Act.put, List.setIfInBounds_toArray, List.set_cons_zero, List.set_cons_succ] at hQ ⊢
                        go_wp2
                        exact hQ (.int .i64 at_) _ (Below.refl _ _) rfl
                      · intro x w hb hk Q' hQ
                        have h21 : x.v 21 = .int .i64 Q := (hk 21 (by decide)).1
                        have h22 : x.v 22 = .int .i64 at_ := (hk 22 (by decide)).1
                        clear hk
                        simp only [netAct, dstAt, List.getElem?_toArray, List.getElem?_cons_zero, List.getElem?_cons_succ, Option.bind_some, Act.put, List.setIfInBounds_toArray, List.set_cons_zero, List.set_cons_succ] at hQ ⊢
                        simp only [h21, h22] at hQ ⊢
                        clear h21 h22
                        go_wp2
                        exact hQ (.int .i64 ((Q : Int) + at_)) _ (Below.refl _ _) rfl
                      · intro x w hb hk Q' hQ
                        clear hk
                        simp only [netAct, dstAt, List.getElem?_toArray, List.getElem?_cons_zero, List.getElem?_cons_succ, Option.bind_some, Act.put, List.setIfInBounds_toArray, List.set_cons_zero, List.set_cons_succ] at hQ ⊢
                        go_wp2
                        exact hQ (.int .i64 jb) _ (Below.refl _ _) rfl
                      · intro x w hb hk Q' hQ
                        have h23 : x.v 23 = .int .i64 ((Q : Int) + at_) := (hk 23 (by decide)).1
                        have h24 : x.v 24 = .int .i64 jb := (hk 24 (by decide)).1
                        clear hk
                        simp only [netAct, dstAt, List.getElem?_toArray, List.getElem?_cons_zero, List.getElem?_cons_succ, Option.bind_some, Act.put, List.setIfInBounds_toArray, List.set_cons_zero, List.set_cons_succ] at hQ ⊢
                        simp only [h23, h24] at hQ ⊢
                        clear h23 h24
                        go_wp2
                        exact hQ (.int .i64 ((Q : Int) + at_ + jb)) _ (Below.refl _ _) rfl
                      · intro x w hb hk Q' hQ
                        have h17 : x.v 17 = .slice (some ⟨bf, of_, none⟩) FL fc := (hk 17 (by decide)).1
                        have h25 : x.v 25 = .int .i64 ((Q : Int) + at_ + jb) := (hk 25 (by decide)).1
                        clear hk
                        simp only [netAct, dstAt, List.getElem?_toArray, List.getElem?_cons_zero, List.getElem?_cons_succ, Option.bind_some, Act.put, List.setIfInBounds_toArray, List.set_cons_zero, List.set_cons_succ] at hQ ⊢
                        simp only [h17, h25] at hQ ⊢
                        clear h17 h25
                        go_wp2
                        rw [show Q + at_ + jb = Q + (at_ + jb) by omega]
                        exact hQ (.pointer (some ⟨bf, of_ + (Q + (at_ + jb)), none⟩)) _ (Below.refl _ _) rfl
                      · intro x w hb hk Q' hQ
                        have h26 : x.v 26 = .pointer (some ⟨bf, of_ + (Q + (at_ + jb)), none⟩) := (hk 26 (by decide)).1
                        clear hk
                        simp only [netAct, dstAt, List.getElem?_toArray, List.getElem?_cons_zero, List.getElem?_cons_succ, Option.bind_some, Act.put, List.setIfInBounds_toArray, List.set_cons_zero, List.set_cons_succ] at hQ ⊢
                        simp only [h26] at hQ ⊢
                        clear h26
                        have z := bcell (HBBr.out.trans (hb.mono hbs3)) hbr V1.out
                        go_wp2
                        exact hQ (.int .i64 xv) _ (Below.refl _ _) rfl
                      · intro x w hb hk hiv hdj
                        have h0 : x.v 0 = .pointer (some ⟨w9.heap.size, 5, none⟩) := hk 0 (by decide)
                        have h1 : x.v 1 = .slice (some ⟨gH, 0, none⟩) y.q.f.length hm := hk 1 (by decide)
                        have h2 : x.v 2 = .int .i64 k := hk 2 (by decide)
                        have h3 : x.v 3 = .pointer (some ⟨gH, k * 3, none⟩) := hk 3 (by decide)
                        have h4 : x.v 4 = .pointer (some ⟨gH, k * 3 + 2, none⟩) := hk 4 (by decide)
                        have h5 : x.v 5 = .slice (some ⟨gr, 0, none⟩) Lk cr := hk 5 (by decide)
                        have h6 : x.v 6 = .int .i64 ja := hk 6 (by decide)
                        have h7 : x.v 7 = .pointer (some ⟨w0.heap.size, 5, none⟩) := hk 7 (by decide)
                        have h8 : x.v 8 = .slice (some ⟨bm, om, none⟩) y.m.length hc := hk 8 (by decide)
                        have h9 : x.v 9 = .int .i64 k := hk 9 (by decide)
                        have h10 : x.v 10 = .pointer (some ⟨bm, om + k * 3, none⟩) := hk 10 (by decide)
                        have h11 : x.v 11 = .pointer (some ⟨bm, om + k * 3, none⟩) := hk 11 (by decide)
                        have h12 : x.v 12 = .int .i64 yt := hk 12 (by decide)
                        have h13 : x.v 13 = .int .i64 P := hk 13 (by decide)
                        have h14 : x.v 14 = .int .i64 jb := hk 14 (by decide)
                        have h15 : x.v 15 = .int .i64 ((P : Int) + jb) := hk 15 (by decide)
                        have h16 : x.v 16 = .pointer (some ⟨ga, 2, none⟩) := hk 16 (by decide)
                        have h17 : x.v 17 = .slice (some ⟨bf, of_, none⟩) FL fc := hk 17 (by decide)
                        have h18 : x.v 18 = .int .i64 ja := hk 18 (by decide)
                        have h19 : x.v 19 = .pointer (some ⟨ga, 1, none⟩) := hk 19 (by decide)
                        have h20 : x.v 20 = .int .i64 N := hk 20 (by decide)
                        have h21 : x.v 21 = .int .i64 Q := hk 21 (by decide)
                        have h22 : x.v 22 = .int .i64 at_ := hk 22 (by decide)
                        have h23 : x.v 23 = .int .i64 ((Q : Int) + at_) := hk 23 (by decide)
                        have h24 : x.v 24 = .int .i64 jb := hk 24 (by decide)
                        have h25 : x.v 25 = .int .i64 ((Q : Int) + at_ + jb) := hk 25 (by decide)
                        have h26 : x.v 26 = .pointer (some ⟨bf, of_ + (Q + (at_ + jb)), none⟩) := hk 26 (by decide)
                        have h27 : x.v 27 = .int .i64 xv := hk 27 (by decide)
                        clear hk
                        simp only [netAct, dstAt, List.getElem?_toArray, List.getElem?_cons_zero, List.getElem?_cons_succ, Option.bind_some, Act.put, List.setIfInBounds_toArray, List.set_cons_zero, List.set_cons_succ]
                        simp only [List.drop_succ_cons, List.drop_zero, h0, h1, h2, h3, h4, h5, h6, h7, h8, h9, h10, h11, h12, h13, h14, h15, h16, h17, h18, h19, h20, h21, h22, h23, h24, h25, h26, h27]
                        clear h0 h1 h2 h3 h4 h5 h6 h7 h8 h9 h10 h11 h12 h13 h14 h15 h16 h17 h18 h19 h20 h21 h22 h23 h24 h25 h26 h27
                        have hOw := (HOr.out.below hb).wider (Nat.le_refl _) hb.size
                        have hput := HPUT.out w hOw
                        simp only [mxF] at hput
                        rw [flat_length, hLKe.out] at hput
                        obtain ⟨g, cg, gr2, cr2, eg, z1, z2, ⟨u0, z3⟩, z4, _, _, ⟨hg1, hg2⟩, _, hnew⟩ := hput
                        simp only [Value.slice.injEq, Option.some.injEq, Addr.mk.injEq, and_true, true_and, msF_length] at eg
                        obtain ⟨eg1, eg2⟩ := eg
                        subst eg1
                        subst eg2
                        have hz := bcell hb hgHw Z2.out
                        rw [z2] at hz
                        simp only [Option.some.injEq, Value.slice.injEq, Addr.mk.injEq, and_true, true_and] at hz
                        obtain ⟨hz1, hz2⟩ := hz
                        subst hz1
                        subst hz2
                        rw [HST.out] at hnew
                        obtain ⟨W14, hW14⟩ : ∃ u, w.setCell ⟨gr2, P + jb, none⟩ (.int .i64 xv) = u := ⟨_, rfl⟩
                        rw [hW14] at hnew
                        have hch3 : Chg gr2 (gr2 + 1) w W14 := by rw [← hW14]; exact chg_set1 _ _ _ _
                        have hs14 : W14.heap.size = w.heap.size := by rw [← hW14]; simp
                        have hbsw := hb.size
                        have HREP := Lib.hid (hnew.wider (Nat.le_refl _) (show w.heap.size ≤ W14.heap.size by omega))
                        have hB14 := Lib.hid ((HBr.out.call hb).chg hch3 (by omega))
                        have hb14 := Lib.hid ((HBBr.out.trans (hb.mono (by omega))).trans (hch3.below (B := w8.heap.size) hg1 (by omega)))
                        have hl14 : w9.heap.size < W14.heap.size := by omega
                        clear hnew hch3 hs14 hOw hiv hdj z1 z2
                        go_wp2
                        clear hW14 z3 z4
                        refine ⟨⟨jb + 1, by omega, by go_num, hb14.out, hB14.out, HREP.out, hl14⟩, ?_⟩
                        simp [intOf]; omega
                    · obtain rfl : jb = yt := by omega
                      have hnx := rsrI_next y n K k F ja
                      rw [HOTH.out] at hnx
                      rw [hnx] at hO
                      have HB := Lib.hid hB
                      have HO := Lib.hid hO
                      have HBB := Lib.hid hb
                      have hjl := HJL.out
                      clear hB hO hb hnx kr gWr
                      go_wp2
                      go_roundw
                      case rel => exact ⟨ja + 1, by omega, by go_num, HBB.out, HB.out, HO.out, hl3⟩
                      case measure => simp [intOf]; omega
                · obtain rfl : ja = K := by omega
                  rw [HEND.out] at hO
                  have c5 := kr.cell' (i := 5) rfl
                  have x1 := bcell gWr hbm X1.out
                  have HB := Lib.hid hB
                  have HO := Lib.hid hO
                  have HBB := Lib.hid hb
                  have hatb : at_ ≤ 24 := by omega
                  clear hB hO hb kr gWr kfr
                  go_wp2
                  refine ⟨⟨k + 1, by omega, by go_num, by rw [HA1.out, HAT_.out]; go_num, HBB.out, HB.out, HO.out, hl2⟩, ?_⟩
                  simp [intOf]; omega
            · have hd : ((nf : Int) != (n : Int)) = true := by rw [bne_iff_ne]; exact hnf
              have htc : tch y.q n k = false := by rw [HTC.out]; simp; exact ⟨by omega, by omega⟩
              have hcp := rsrM_copy (K := K) (F := F) htc em
              have hA1 : atN y n (k + 1) = atN y n k := by rw [atN, if_neg (by rw [htc]; decide)]
              have HCP := Lib.hid hcp
              have HA1 := Lib.hid hA1
              have HMRr := Lib.hid (MxR.next gWr hMR)
              have X0 := Lib.hid (bcell gWr hbm x0)
              have X1 := Lib.hid (bcell gWr hbm x1)
              have X2 := Lib.hid (bcell gWr hbm x2)
              have HMC := Lib.hid hmc
              have KR := Lib.hid kr
              have HB := Lib.hid hB
              have HO := Lib.hid hO
              have HBB := Lib.hid hb
              obtain ⟨at_, hat_⟩ : ∃ z, atN y n k = z := ⟨_, rfl⟩
              rw [hat_] at HA1 ⊢
              have hbmr : bm < wr.heap.size := by omega
              obtain ⟨wa, hwa⟩ : ∃ z, z = wr := ⟨_, rfl⟩
              subst hwa
              clear hat_ hcp hA1 htc hnf hlt hMR hsl hr1 hr2 x0 x1 x2 em ef et df dt eM hB hO hb kr HTC HXT HXM o1 o2 hne hmc t1
              go_wp2
              clear c5 c3 t1'
              refine wp_region_net (by kernel_rfl) [.eq (.pointer (some ⟨w9.heap.size, 5, none⟩)), .eq (.slice (some ⟨gH, 0, none⟩) y.q.f.length hm), .eq (.int .i64 k), .eq (.pointer (some ⟨w0.heap.size, 5, none⟩)), .eq (.slice (some ⟨bm, om, none⟩) y.m.length hc), .eq (.int .i64 k), .eq (.pointer (some ⟨bm, om + k * 3, none⟩)), .eq (.agg #[.int .i64 yt, .int .i64 m.c, .slice MB m.a.length mb]), rel 8 (fun u lo hi w => MxO w lo hi u m), .eq (.pointer (some ⟨gH, k * 3, none⟩))] [[], [0], [], [], [3], [], [3, 4, 5], [3, 4, 5, 6], [3, 4, 5, 6, 7], [0, 1, 2, 3, 4, 5, 6, 7, 8], [0, 1, 2, 3, 4, 5, 6, 7, 8, 9]] 10 (by kernel_rfl) ⟨trivial, trivial, trivial, trivial, trivial, trivial, trivial, trivial, rel_stable (fun u lo hi w w' h hb => h.below hb), trivial, trivial⟩ ⟨?_, ?_, ?_, ?_, ?_, ?_, ?_, ?_, ?_, ?_, trivial⟩ ?_
              · intro x w hb hk Q' hQ
                clear hk
                simp only [netAct, dstAt, List.getElem?_toArray, List.getElem?_cons_zero, List.getElem?_cons_succ, Option.bind_some, Act.put, List.setIfInBounds_toArray, List.set_cons_zero, List.set_cons_succ] at hQ ⊢
                go_wp2
                exact hQ (.pointer (some ⟨w9.heap.size, 5, none⟩)) _ (Below.refl _ _) rfl
              · intro x w hb hk Q' hQ
                have h0 : x.v 0 = .pointer (some ⟨w9.heap.size, 5, none⟩) := (hk 0 (by decide)).1
                clear hk
                simp only [netAct, dstAt, List.getElem?_toArray, List.getElem?_cons_zero, List.getElem?_cons_succ, Option.bind_some, Act.put, List.setIfInBounds_toArray, List.set_cons_zero, List.set_cons_succ] at hQ ⊢
                simp only [h0] at hQ ⊢
                clear h0
                have z := (HB.out.call hb).cell' (i := 5) rfl
                go_wp2
                exact hQ (.slice (some ⟨gH, 0, none⟩) y.q.f.length hm) _ (Below.refl _ _) rfl
              · intro x w hb hk Q' hQ
                clear hk
                simp only [netAct, dstAt, List.getElem?_toArray, List.getElem?_cons_zero, List.getElem?_cons_succ, Option.bind_some, Act.put, List.setIfInBounds_toArray, List.set_cons_zero, List.set_cons_succ] at hQ ⊢
                go_wp2
                exact hQ (.int .i64 k) _ (Below.refl _ _) rfl
              · intro x w hb hk Q' hQ
                clear hk
                simp only [netAct, dstAt, List.getElem?_toArray, List.getElem?_cons_zero, List.getElem?_cons_succ, Option.bind_some, Act.put, List.setIfInBounds_toArray, List.set_cons_zero, List.set_cons_succ] at hQ ⊢
                go_wp2
                exact hQ (.pointer (some ⟨w0.heap.size, 5, none⟩)) _ (Below.refl _ _) rfl
              · intro x w hb hk Q' hQ
                have h3 : x.v 3 = .pointer (some ⟨w0.heap.size, 5, none⟩) := (hk 3 (by decide)).1
                clear hk
                simp only [netAct, dstAt, List.getElem?_toArray, List.getElem?_cons_zero, List.getElem?_cons_succ, Option.bind_some, Act.put, List.setIfInBounds_toArray, List.set_cons_zero, List.set_cons_succ] at hQ ⊢
                simp only [h3] at hQ ⊢
                clear h3
                have z := (KR.out.call hb).cell' (i := 5) rfl
                go_wp2
                exact hQ (.slice (some ⟨bm, om, none⟩) y.m.length hc) _ (Below.refl _ _) rfl
              · intro x w hb hk Q' hQ
                clear hk
                simp only [netAct, dstAt, List.getElem?_toArray, List.getElem?_cons_zero, List.getElem?_cons_succ, Option.bind_some, Act.put, List.setIfInBounds_toArray, List.set_cons_zero, List.set_cons_succ] at hQ ⊢
                go_wp2
                exact hQ (.int .i64 k) _ (Below.refl _ _) rfl
              · intro x w hb hk Q' hQ
                have h4 : x.v 4 = .slice (some ⟨bm, om, none⟩) y.m.length hc := (hk 4 (by decide)).1
                have h5 : x.v 5 = .int .i64 k := (hk 5 (by decide)).1
                clear hk
                simp only [netAct, dstAt, List.getElem?_toArray, List.getElem?_cons_zero, List.getElem?_cons_succ, Option.bind_some, Act.put, List.setIfInBounds_toArray, List.set_cons_zero, List.set_cons_succ] at hQ ⊢
                simp only [h4, h5] at hQ ⊢
                clear h4 h5
                go_wp2
                exact hQ (.pointer (some ⟨bm, om + k * 3, none⟩)) _ (Below.refl _ _) rfl
              · intro x w hb hk Q' hQ
                have h6 : x.v 6 = .pointer (some ⟨bm, om + k * 3, none⟩) := (hk 6 (by decide)).1
                clear hk
                simp only [netAct, dstAt, List.getElem?_toArray, List.getElem?_cons_zero, List.getElem?_cons_succ, Option.bind_some, Act.put, List.setIfInBounds_toArray, List.set_cons_zero, List.set_cons_succ] at hQ ⊢
                simp only [h6] at hQ ⊢
                clear h6
                have z0 := bcell hb hbmr X0.out
                have z1 := bcell hb hbmr X1.out
                have z2 := bcell hb hbmr X2.out
                go_wp2
                exact hQ (.agg #[.int .i64 yt, .int .i64 m.c, .slice MB m.a.length mb]) _ (Below.refl _ _) rfl
              · intro x w hb hk Q' hQ
                have h3 : x.v 3 = .pointer (some ⟨w0.heap.size, 5, none⟩) := (hk 3 (by decide)).1
                have h4 : x.v 4 = .slice (some ⟨bm, om, none⟩) y.m.length hc := (hk 4 (by decide)).1
                have h5 : x.v 5 = .int .i64 k := (hk 5 (by decide)).1
                have h6 : x.v 6 = .pointer (some ⟨bm, om + k * 3, none⟩) := (hk 6 (by decide)).1
                have h7 : x.v 7 = .agg #[.int .i64 yt, .int .i64 m.c, .slice MB m.a.length mb] := (hk 7 (by decide)).1
                clear hk
                simp only [netAct, dstAt, List.getElem?_toArray, List.getElem?_cons_zero, List.getElem?_cons_succ, Option.bind_some, Act.put, List.setIfInBounds_toArray, List.set_cons_zero, List.set_cons_succ] at hQ ⊢
                simp only [h3, h4, h5, h6, h7] at hQ ⊢
                clear h3 h4 h5 h6 h7
                go_wp2_with fail
                refine (l3Copy_any _ m _ (by have := MxR.next hb HMRr.out; rw [HMC.out] at this; exact this)).mono ?_; rintro e w6 ⟨v6, rfl, ho6, hb6⟩
                go_wp2
                exact hQ _ _ hb6 ho6
              · intro x w hb hk Q' hQ
                have h1 : x.v 1 = .slice (some ⟨gH, 0, none⟩) y.q.f.length hm := (hk 1 (by decide)).1
                have h2 : x.v 2 = .int .i64 k := (hk 2 (by decide)).1
                clear hk
                simp only [netAct, dstAt, List.getElem?_toArray, List.getElem?_cons_zero, List.getElem?_cons_succ, Option.bind_some, Act.put, List.setIfInBounds_toArray, List.set_cons_zero, List.set_cons_succ] at hQ ⊢
                simp only [h1, h2] at hQ ⊢
                clear h1 h2
                go_wp2
                exact hQ (.pointer (some ⟨gH, k * 3, none⟩)) _ (Below.refl _ _) rfl
              · intro x w hb hk hiv hdj
                have h0 : x.v 0 = .pointer (some ⟨w9.heap.size, 5, none⟩) := hk 0 (by decide)
                have h1 : x.v 1 = .slice (some ⟨gH, 0, none⟩) y.q.f.length hm := hk 1 (by decide)
                have h2 : x.v 2 = .int .i64 k := hk 2 (by decide)
                have h3 : x.v 3 = .pointer (some ⟨w0.heap.size, 5, none⟩) := hk 3 (by decide)
                have h4 : x.v 4 = .slice (some ⟨bm, om, none⟩) y.m.length hc := hk 4 (by decide)
                have h5 : x.v 5 = .int .i64 k := hk 5 (by decide)
                have h6 : x.v 6 = .pointer (some ⟨bm, om + k * 3, none⟩) := hk 6 (by decide)
                have h7 : x.v 7 = .agg #[.int .i64 yt, .int .i64 m.c, .slice MB m.a.length mb] := hk 7 (by decide)
                have h8 : MxO w (x.lo 8) (x.hi 8) (x.v 8) m := hk 8 (by decide)
                have h9 : x.v 9 = .pointer (some ⟨gH, k * 3, none⟩) := hk 9 (by decide)
                clear hk
                simp only [netAct, dstAt, List.getElem?_toArray, List.getElem?_cons_zero, List.getElem?_cons_succ, Option.bind_some, Act.put, List.setIfInBounds_toArray, List.set_cons_zero, List.set_cons_succ]
                simp only [List.drop_succ_cons, List.drop_zero, h0, h1, h2, h3, h4, h5, h6, h7, h9]
                clear h0 h1 h2 h3 h4 h5 h6 h7 h9
                have i8 := hiv 8 (by decide)
                obtain ⟨AM, am, e8⟩ := h8.form
                rw [e8] at h8 ⊢
                obtain ⟨mr, hmr⟩ : ∃ z, m.r = z := ⟨_, rfl⟩
                obtain ⟨mk, hmk⟩ : ∃ z, m.c = z := ⟨_, rfl⟩
                obtain ⟨ml, hml3⟩ : ∃ z, m.a.length = z := ⟨_, rfl⟩
                rw [hmr, hmk, hml3] at h8 ⊢
                have hOw := HO.out.below hb
                have hbs2 := hb.size
                have o8 := h8.wider (lo' := wa.heap.size) (hi' := w.heap.size) i8.1 i8.2.2
                have hset := RepI.setMx hOw (j := k) (by rw [msF_length]; exact hkn) o8 (Nat.le_refl _) (by omega)
                obtain ⟨W14, hW14⟩ : ∃ u, set3 w gH (k * 3) (.int .i64 mr) (.int .i64 mk) (.slice AM ml am) = u := ⟨_, rfl⟩
                rw [hW14] at hset
                have hch3 : Chg gH (gH + 1) w W14 := by rw [← hW14]; exact chg_set3 _ _ _ _ _ _
                have hs14 : W14.heap.size = w.heap.size := by rw [← hW14]; simp
                have HREP := Lib.hid (show RepI W14 w8.heap.size W14.heap.size _ ⟨y.p, rvQ y.q n, rsdD y n K, msF y.q.f.length (rsrM y n K F (k + 1))⟩ from by
                  rw [← HCP.out]
                  exact hset.1.wider (Nat.le_refl _) (by omega))
                have hB14 := Lib.hid ((HB.out.call hb).chg hch3 (.inr (by omega)))
                have hb14 := Lib.hid ((HBB.out.trans (hb.mono (by omega))).trans (hch3.below (B := w8.heap.size) hset.2.1 (by omega)))
                have hl14 : w9.heap.size < W14.heap.size := by omega
                obtain ⟨g, c', s', e, _, _, z0, z1, z2, _, zf⟩ := hOw.mxAt (j := k) (List.getElem?_eq_getElem (by rw [msF_length]; exact hkn))
                simp only [Value.slice.injEq, Option.some.injEq, Addr.mk.injEq, and_true, true_and] at e
                obtain ⟨eg1, _, eg2⟩ := e
                subst eg1
                subst eg2
                replace z0 : ∃ u, w.cell? ⟨gH, k * 3, none⟩ = some u := ⟨_, z0⟩
                replace z1 : ∃ u, w.cell? ⟨gH, k * 3 + 1, none⟩ = some u := ⟨_, z1⟩
                replace z2 : ∃ u, w.cell? ⟨gH, k * 3 + 2, none⟩ = some u := ⟨_, z2⟩
                obtain ⟨u0, z0⟩ := z0
                obtain ⟨u1, z1⟩ := z1
                obtain ⟨u2, z2⟩ := z2
                clear hset hch3 hs14 hOw hmr hmk hml3 hiv hdj e8 o8 h8 i8
                go_wp2
                clear hW14 z0 z1 z2 zf
                refine ⟨⟨k + 1, by omega, by go_num, by rw [HA1.out], hb14.out, hB14.out, HREP.out, hl14⟩, ?_⟩
                simp [intOf]; omega
          · obtain rfl : k = y.q.f.length := by omega
            have kz := k2.call gWr
            have fr := kz.frozen
            have s0 := kz.cell' (i := 0) rfl
            have s1 := kz.cell' (i := 1) rfl
            have s2 := kz.cell' (i := 2) rfl
            have s3 := kz.cell' (i := 3) rfl
            have s4 := kz.cell' (i := 4) rfl
            have s5 := kz.cell' (i := 5) rfl
            have r0 := hB.cell' (i := 0) rfl
            have r1 := hB.cell' (i := 1) rfl
            have r2 := hB.cell' (i := 2) rfl
            have r3 := hB.cell' (i := 3) rfl
            have r4 := hB.cell' (i := 4) rfl
            have r5 := hB.cell' (i := 5) rfl
            have gf := g0.trans (gWr.mono g0.size)
            have hc6 := chg6 wr (w0.heap.size + 1) (.int .i64 y.p) (.int .i64 y.q.v) (.slice QA2 y.q.f.length qa2) (.slice QB2 y.q.f.length qb2) (.slice DA2 y.d.length dc2) (.slice HM y.q.f.length hm)
            have hw8 := G8.out.size
            have OF := Lib.hid ((hO.chg hc6 (.inr (by have := SZ.out; omega))).rd)
            have GF := Lib.hid (gf.trans (hc6.below (by omega) gf.size))
            have HRS := Lib.hid (rsrM_end y n K F)
            clear hO hB kz gf hc6 hb kr gWr
            go_wp2
            have hE := HE2.out
            exact bodyPost_ret (v := .tuple #[.agg #[.int .i64 y.p, .int .i64 y.q.v, .slice QA2 y.q.f.length qa2, .slice QB2 y.q.f.length qb2, .slice DA2 y.d.length dc2, .slice HM y.q.f.length hm], .bool true]) (by simp [results, go_sem, s0, s1, s2, s3, s4, s5]) rfl ⟨_, by rw [hE], by rw [hE, rfK, ← HRS.out]; exact OF.out, GF.out⟩
end Go.Proofs.YtaefpblpfjhgoaaGreat
