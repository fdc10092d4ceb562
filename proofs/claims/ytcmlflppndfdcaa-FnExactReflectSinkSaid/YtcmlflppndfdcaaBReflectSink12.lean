/- FnExactReflectSink: for every argument the program's function returns what the reference's returns. Part 12 of 13 of the proof: RsI, RsP, RpJ, CpQ, RvB, KerS. No condition. -/
import Derived.Test.YtcmlflppndfdcaaBReflectSink11
/- The program's ReflectSink. -/
namespace Go.Proofs.Ytcmlflppndfdcaa
set_option linter.unusedVariables false
set_option linter.unusedSimpArgs false
open Go.RowKit

theorem kerM_rows (p : Int) (c : Nat) (g : Nat → Nat → Int) (ps L : List Int) : kerM p c g ps L = rowsF L.length c fun a b => ((kerM p c g ps L).getD a []).getD b 0 := by
  apply List.ext_getElem?
  intro i
  by_cases h : i < L.length
  · have e : (kerM p c g ps L)[i]? = some (rowF c (kvG p g ps (L[i]'h).toNat ps.length)) := by simp [kerM, h]
    rw [rowsF_get _ h, e, List.getD_eq_getElem?_getD, e]
    congr 1
    simp only [Option.getD_some]
    exact rowF_congr fun a ha => (rowF_getD _ ha).symm
  · rw [List.getElem?_eq_none (by rw [kerM_length]; omega), List.getElem?_eq_none (by rw [rowsF_length]; omega)]
theorem kerR_len (p : Int) (r c : Nat) (f : Nat → Nat → Int) : (kerR p r c f).length ≤ c := by
  rw [kerR, kerM_length]
  exact freeV_length _ _
theorem kerR_rows (p : Int) (r c : Nat) (f : Nat → Nat → Int) : kerR p r c f = rowsF (kerR p r c f).length c fun a b => ((kerR p r c f).getD a []).getD b 0 := by
  have := kerM_rows p c (rdTo p r f c).1 (rdTo p r f c).2 (freeV (rdTo p r f c).2 c)
  rw [kerR, kerM_length]
  exact this
/-- the basis of the kernel at a sink -/
def ksL (x : Rp) (v : Int) : List (List Int) := kerR x.p (dAt x.d v).toNat (inS x v (dAt x.d v).toNat x.q.f.length).1 (inS x v (dAt x.d v).toNat x.q.f.length).2
def ksF (x : Rp) (v : Int) (a b : Nat) : Int := ((ksL x v).getD a []).getD b 0
def rsP (x : Rp) (v : Int) : Rp × Bool := if inOk x v then rfP x v (ksL x v).length (gSink x v (ksL x v).length (ksF x v)) else (rp0, false)
set_option maxHeartbeats 3200000 in
set_option maxRecDepth 100000 in
theorem implReflectSink_any (u : Value) (y : Rp) (v : Int) (w0 : World) (hu : RpR w0 w0.heap.size u y) (hv : I64 v) :
    Calls Try.prog 25 #[u, .int .i64 v] w0 fun e w' => ∃ r, e = .returned (.tuple #[r, .bool (rsP y v).2]) ∧ RepO w' w0.heap.size w'.heap.size r (rsP y v).1 ∧ Below w0.heap.size w0 w' := by
  have hu' := hu
  obtain ⟨A, a, C, c, E, ec, H, hc, rfl⟩ := hu.form
  clear hu
  obtain ⟨W, hW⟩ : ∃ W, W = (w0.alloc (.cells #[.int .i64 y.p, .int .i64 y.q.v, .slice A y.q.f.length a, .slice C y.q.t.length c, .slice E y.d.length ec, .slice H y.m.length hc] 31)).alloc (.cells #[.int .i64 0, .int .i64 0, .slice none 0 0, .slice none 0 0, .slice none 0 0, .slice none 0 0] 31) := ⟨_, rfl⟩
  have g0 : Below w0.heap.size w0 W := by rw [hW]; exact ((Below.refl _ _).alloc (Nat.le_refl _) _).alloc (by simp) _
  have k1 : Blk W w0.heap.size 31 #[.int .i64 y.p, .int .i64 y.q.v, .slice A y.q.f.length a, .slice C y.q.t.length c, .slice E y.d.length ec, .slice H y.m.length hc] := by rw [hW]; exact (Blk.new _ _ _).alloc _
  have k2 : Blk W (w0.heap.size + 1) 31 #[.int .i64 0, .int .i64 0, .slice none 0 0, .slice none 0 0, .slice none 0 0, .slice none 0 0] := by
    rw [hW]
    have := Blk.new (w0.alloc (.cells #[.int .i64 y.p, .int .i64 y.q.v, .slice A y.q.f.length a, .slice C y.q.t.length c, .slice E y.d.length ec, .slice H y.m.length hc] 31)) 31 #[.int .i64 0, .int .i64 0, .slice none 0 0, .slice none 0 0, .slice none 0 0, .slice none 0 0]
    simpa only [World.size_alloc] using this
  have sz : W.heap.size = w0.heap.size + 1 + 1 := by rw [hW]; simp
  have SZ := Lib.hid sz
  have HR := Lib.hid (RpR.next g0 hu')
  have c0 := k1.cell' (i := 0) rfl
  have c1 := k1.cell' (i := 1) rfl
  have c2 := k1.cell' (i := 2) rfl
  have c3 := k1.cell' (i := 3) rfl
  have c4 := k1.cell' (i := 4) rfl
  have c5 := k1.cell' (i := 5) rfl
  clear hu' sz
  go_enter Try.func25, Try.ntmps25
  go_wp2_with fail
  rw [← hW]; clear hW
  refine (implIncomingMatrix_any _ y v _ HR.out hv).mono ?_; rintro e w1 ⟨r1, rfl, hM, hb1⟩
  clear c0 c1 c2 c3 c4 c5
  rcases hok : inOk y v with _ | _
  · have hP : inP y v = (mx0, false) := by rw [inP, if_neg (by rw [hok]; decide)]
    have HE := Lib.hid (show rsP y v = (rp0, false) by rw [rsP, if_neg (by rw [hok]; decide)])
    rw [hP] at hM ⊢
    obtain ⟨MA, mc, em⟩ := hM.form
    simp only [mx0, List.length_nil] at em ⊢
    subst em
    obtain ⟨W2, hW2⟩ : ∃ u, w1.alloc (.cells #[.int .i64 0, .int .i64 0, .slice MA 0 mc] 84) = u := ⟨_, rfl⟩
    have ga : Below w1.heap.size w1 W2 := by rw [← hW2]; exact below_alloc _ _
    have gW := bthen hb1 ga
    have kz := k2.call gW
    have fr := kz.frozen
    have s0 := kz.cell' (i := 0) rfl
    have s1 := kz.cell' (i := 1) rfl
    have s2 := kz.cell' (i := 2) rfl
    have s3 := kz.cell' (i := 3) rfl
    have s4 := kz.cell' (i := 4) rfl
    have s5 := kz.cell' (i := 5) rfl
    have gf := g0.trans (gW.mono g0.size)
    have GF := Lib.hid gf
    clear kz gf gW hM hP hok hb1 ga k1 k2 g0
    go_wp2
    have gf := GF.out
    have hE := HE.out
    exact bodyPost_ret (v := .tuple #[.agg #[.int .i64 0, .int .i64 0, .slice none 0 0, .slice none 0 0, .slice none 0 0, .slice none 0 0], .bool false]) (by simp [results, go_sem, s0, s1, s2, s3, s4, s5]) rfl ⟨_, by rw [hE], by rw [hE]; exact RepO.zero _ _ _, (((((gf.setCell (by simp) _).setCell (by simp) _).setCell (by simp) _).setCell (by simp) _).setCell (by simp) _).setCell (by simp) _⟩
  · obtain ⟨hy, hs⟩ : isRep y = true ∧ endV y.q.f y.q v = true := by simpa [inOk] using hok
    obtain ⟨n, D, env, hnl, hdn, hdA, hD4, hn5⟩ := vert_at hy hs
    have hP := inP_yes hok hdA
    have hN := inS_le (v := v) (C := D) hy _ (Nat.le_refl _)
    have hn6 : y.q.f.length ≤ 6 := (isQ_t.1 (areDims_t.1 (isRep_t.1 hy).2.1).1).2.2.1
    have hat := atN_in (C := D) hy hs _ (Nat.le_refl _)
    have hinF := inS_inF hy env hdn _ (Nat.le_refl _)
    have hfld := (isRep_t.1 hy).1
    have HE := Lib.hid (show rsP y v = rfP y v (ksL y v).length (gSink y v (ksL y v).length (ksF y v)) by rw [rsP, if_pos hok])
    have hks : ksL y v = kerR y.p D (inS y v D y.q.f.length).1 (inS y v D y.q.f.length).2 := by rw [ksL, hdA, Int.toNat_natCast]
    rw [hP] at hM ⊢
    simp only [inM] at hM
    obtain ⟨N, hNN⟩ : ∃ N, (inS y v D y.q.f.length).1 = N := ⟨_, rfl⟩
    obtain ⟨F0, hF0⟩ : ∃ F0, (inS y v D y.q.f.length).2 = F0 := ⟨_, rfl⟩
    rw [hNN, hF0] at hM hks hinF
    rw [hNN] at hat hN
    have hkr := kerR_rows y.p D N F0
    have hkl := kerR_len y.p D N F0
    rw [← hks] at hkr hkl
    obtain ⟨K, hK⟩ : ∃ K, (ksL y v).length = K := ⟨_, rfl⟩
    obtain ⟨R, hR⟩ : ∃ R, rfP y v (ksL y v).length (gSink y v (ksL y v).length (ksF y v)) = R := ⟨_, rfl⟩
    rw [hR] at HE
    rw [hK] at hkr hkl hR
    have HRR := Lib.hid hR
    have HKR := Lib.hid (show ksL y v = rowsF K N (ksF y v) from hkr)
    have HKS := Lib.hid hks
    have HY := Lib.hid hy
    have HS := Lib.hid hs
    have HIN := Lib.hid hinF
    have HFL := Lib.hid hfld
    have HAT := Lib.hid hat
    have HK := Lib.hid hK
    clear hok hP hNN hF0 hkr hR hks hy hs hinF hfld hat hK hdA hdn env
    obtain ⟨MA, mc, em⟩ := hM.form
    simp only [mxF] at em hM
    rw [flat_length] at em
    subst em
    obtain ⟨ML, hML⟩ : ∃ z, D * N = z := ⟨_, rfl⟩
    rw [hML] at hM ⊢
    have HML := Lib.hid hML
    clear hML
    obtain ⟨W2, hW2⟩ : ∃ u, w1.alloc (.cells #[.int .i64 D, .int .i64 N, .slice MA ML mc] 84) = u := ⟨_, rfl⟩
    have ga : Below w1.heap.size w1 W2 := by rw [← hW2]; exact below_alloc _ _
    have kM : Blk W2 w1.heap.size 84 #[.int .i64 D, .int .i64 N, .slice MA ML mc] := by rw [← hW2]; exact Blk.new _ _ _
    have gW := bthen hb1 ga
    have k12 := k1.call gW
    have c0 := k12.cell' (i := 0) rfl
    have m0 := kM.cell' (i := 0) rfl
    have m1 := kM.cell' (i := 1) rfl
    have m2 := kM.cell' (i := 2) rfl
    have HM := Lib.hid (hM.below ga).rd
    have GW := Lib.hid gW
    clear hM hb1 ga gW k12
    go_wp2_with fail
    clear hW2
    refine (kernel_any y.p _ D N F0 _ HFL.out (by omega) (by omega) HM.out HIN.out).mono ?_; rintro e w3 ⟨v3, rfl, hK3, hb3⟩
    rw [← HKS.out, HKR.out] at hK3
    obtain ⟨KA, kc, ev, _⟩ := hK3.form2
    rw [rowsF_length] at ev
    subst ev
    have G3 := Lib.hid (GW.out.trans (hb3.mono GW.out.size))
    have kM3 := kM.call hb3
    have k13 := k1.call G3.out
    have HK3 := Lib.hid hK3.rd
    have HR3 := Lib.hid (RpR.next G3.out HR.out)
    clear c0 m0 m1 m2 hK3 hb3 kM
    go_wp2
    refine wp_region_net2 (by kernel_rfl) [.eq (.agg #[.int .i64 y.p, .int .i64 y.q.v, .slice A y.q.f.length a, .slice C y.q.t.length c, .slice E y.d.length ec, .slice H y.m.length hc]), .eq (.int .i64 v), .eq (.pointer (some ⟨w1.heap.size, 1, none⟩)), .eq (.int .i64 N), .eq (.slice KA K kc), rel 5 (fun u lo hi w => MxO w lo hi u (mxF K N (ksF y v))), .rel (fun x w => ∃ Ar ar Cr cr Er er Hr hr', x.v 6 = .tuple #[.agg #[.int .i64 R.1.p, .int .i64 R.1.q.v, .slice Ar R.1.q.f.length ar, .slice Cr R.1.q.t.length cr, .slice Er R.1.d.length er, .slice Hr R.1.m.length hr'], .bool R.2] ∧ RepO w (x.lo 6) (x.hi 6) (.agg #[.int .i64 R.1.p, .int .i64 R.1.q.v, .slice Ar R.1.q.f.length ar, .slice Cr R.1.q.t.length cr, .slice Er R.1.d.length er, .slice Hr R.1.m.length hr']) R.1), .rel (fun x w => ∃ Ar ar Cr cr Er er Hr hr', x.v 7 = .agg #[.int .i64 R.1.p, .int .i64 R.1.q.v, .slice Ar R.1.q.f.length ar, .slice Cr R.1.q.t.length cr, .slice Er R.1.d.length er, .slice Hr R.1.m.length hr'] ∧ RepO w (x.lo 6) (x.hi 6) (.agg #[.int .i64 R.1.p, .int .i64 R.1.q.v, .slice Ar R.1.q.f.length ar, .slice Cr R.1.q.t.length cr, .slice Er R.1.d.length er, .slice Hr R.1.m.length hr']) R.1), .eq (.bool R.2)] [[], [], [], [2], [], [2, 3, 4], [0, 1, 2, 3, 4, 5], [0, 1, 2, 3, 4, 5, 6], [0, 1, 2, 3, 4, 5, 6], [0, 1, 2, 3, 4, 5, 6, 7, 8], [0, 1, 2, 3, 4, 5, 6, 7, 8, 9]] 9 8 [0, 1, 2, 3, 4, 5, 6, 7] (by kernel_rfl) rfl ⟨trivial, trivial, trivial, trivial, trivial, rel_stable (fun u lo hi w w' h hb => h.below hb), fun x w w' ⟨Ar, ar, Cr, cr, Er, er, Hr, hr', e1, h1⟩ hb => ⟨Ar, ar, Cr, cr, Er, er, Hr, hr', e1, h1.below hb⟩, fun x w w' ⟨Ar, ar, Cr, cr, Er, er, Hr, hr', e1, h1⟩ hb => ⟨Ar, ar, Cr, cr, Er, er, Hr, hr', e1, h1.below hb⟩, trivial, trivial⟩ ⟨?_, ?_, ?_, ?_, ?_, ?_, ?_, ?_, ?_, trivial⟩ ?_ ?_
    · intro x w hb hk Q' hQ
      clear hk
      simp only [netAct, dstAt, List.getElem?_toArray, List.getElem?_cons_zero, List.getElem?_cons_succ, Option.bind_some, Act.put, List.setIfInBounds_toArray, List.set_cons_zero, List.set_cons_succ] at hQ ⊢
      have z0 := (k13.call hb).cell' (i := 0) rfl
      have z1 := (k13.call hb).cell' (i := 1) rfl
      have z2 := (k13.call hb).cell' (i := 2) rfl
      have z3 := (k13.call hb).cell' (i := 3) rfl
      have z4 := (k13.call hb).cell' (i := 4) rfl
      have z5 := (k13.call hb).cell' (i := 5) rfl
      go_wp2
      exact hQ (.agg #[.int .i64 y.p, .int .i64 y.q.v, .slice A y.q.f.length a, .slice C y.q.t.length c, .slice E y.d.length ec, .slice H y.m.length hc]) _ (Below.refl _ _) rfl
    · intro x w hb hk Q' hQ
      clear hk
      simp only [netAct, dstAt, List.getElem?_toArray, List.getElem?_cons_zero, List.getElem?_cons_succ, Option.bind_some, Act.put, List.setIfInBounds_toArray, List.set_cons_zero, List.set_cons_succ] at hQ ⊢
      go_wp2
      exact hQ (.int .i64 v) _ (Below.refl _ _) rfl
    · intro x w hb hk Q' hQ
      clear hk
      simp only [netAct, dstAt, List.getElem?_toArray, List.getElem?_cons_zero, List.getElem?_cons_succ, Option.bind_some, Act.put, List.setIfInBounds_toArray, List.set_cons_zero, List.set_cons_succ] at hQ ⊢
      go_wp2
      exact hQ (.pointer (some ⟨w1.heap.size, 1, none⟩)) _ (Below.refl _ _) rfl
    · intro x w hb hk Q' hQ
      have h2 : x.v 2 = .pointer (some ⟨w1.heap.size, 1, none⟩) := (hk 2 (by decide)).1
      clear hk
      simp only [netAct, dstAt, List.getElem?_toArray, List.getElem?_cons_zero, List.getElem?_cons_succ, Option.bind_some, Act.put, List.setIfInBounds_toArray, List.set_cons_zero, List.set_cons_succ] at hQ ⊢
      simp only [h2] at hQ ⊢
      clear h2
      have z1 := (kM3.call hb).cell' (i := 1) rfl
      go_wp2
      exact hQ (.int .i64 N) _ (Below.refl _ _) rfl
    · intro x w hb hk Q' hQ
      clear hk
      simp only [netAct, dstAt, List.getElem?_toArray, List.getElem?_cons_zero, List.getElem?_cons_succ, Option.bind_some, Act.put, List.setIfInBounds_toArray, List.set_cons_zero, List.set_cons_succ] at hQ ⊢
      go_wp2
      exact hQ (.slice KA K kc) _ (Below.refl _ _) rfl
    · intro x w hb hk Q' hQ
      have h2 : x.v 2 = .pointer (some ⟨w1.heap.size, 1, none⟩) := (hk 2 (by decide)).1
      have h3 : x.v 3 = .int .i64 N := (hk 3 (by decide)).1
      have h4 : x.v 4 = .slice KA K kc := (hk 4 (by decide)).1
      clear hk
      simp only [netAct, dstAt, List.getElem?_toArray, List.getElem?_cons_zero, List.getElem?_cons_succ, Option.bind_some, Act.put, List.setIfInBounds_toArray, List.set_cons_zero, List.set_cons_succ] at hQ ⊢
      simp only [h2, h3, h4] at hQ ⊢
      clear h2 h3 h4
      go_wp2_with fail
      refine (fromRows_any _ N K (ksF y v) _ (SlII.next hb HK3.out) (by omega) (by omega)).mono ?_; rintro e w6 ⟨v6, rfl, ho6, hb6⟩
      go_wp2
      exact hQ _ _ hb6 ho6
    · intro x w hb hk Q' hQ
      have h0 : x.v 0 = .agg #[.int .i64 y.p, .int .i64 y.q.v, .slice A y.q.f.length a, .slice C y.q.t.length c, .slice E y.d.length ec, .slice H y.m.length hc] := (hk 0 (by decide)).1
      have h1 : x.v 1 = .int .i64 v := (hk 1 (by decide)).1
      have h2 : x.v 2 = .pointer (some ⟨w1.heap.size, 1, none⟩) := (hk 2 (by decide)).1
      have h3 : x.v 3 = .int .i64 N := (hk 3 (by decide)).1
      have h4 : x.v 4 = .slice KA K kc := (hk 4 (by decide)).1
      have h5 : MxO w (x.lo 5) (x.hi 5) (x.v 5) (mxF K N (ksF y v)) := (hk 5 (by decide)).1
      have s5 := (hk 5 (by decide)).2
      clear hk
      simp only [netAct, dstAt, List.getElem?_toArray, List.getElem?_cons_zero, List.getElem?_cons_succ, Option.bind_some, Act.put, List.setIfInBounds_toArray, List.set_cons_zero, List.set_cons_succ] at hQ ⊢
      simp only [h0, h1, h2, h3, h4] at hQ ⊢
      clear h0 h1 h2 h3 h4
      obtain ⟨A5, c5, e5⟩ := h5.form
      simp only [mxF] at e5
      have H5 := Lib.hid h5.rd
      rw [e5] at H5 hQ ⊢
      go_wp2_with fail
      refine (reflSink_any _ _ y v K (ksF y v) _ (RpR.next hb HR3.out) (by rw [HAT.out]; exact H5.out) HY.out (.inr HS.out) (by omega)).mono ?_; rintro e w6 ⟨v6, rfl, hO6, hb6⟩
      rw [HRR.out] at hO6 ⊢
      have HO6 := Lib.hid hO6
      obtain ⟨Ar, ar, Cr, cr, Er, er, Hr, hr', e6⟩ := hO6.form
      subst e6
      clear hO6
      go_wp2
      exact hQ _ _ hb6 ⟨Ar, ar, Cr, cr, Er, er, Hr, hr', rfl, HO6.out⟩
    · intro x w hb hk Q' hQ
      have h0 : x.v 0 = .agg #[.int .i64 y.p, .int .i64 y.q.v, .slice A y.q.f.length a, .slice C y.q.t.length c, .slice E y.d.length ec, .slice H y.m.length hc] := (hk 0 (by decide)).1
      have h1 : x.v 1 = .int .i64 v := (hk 1 (by decide)).1
      have h2 : x.v 2 = .pointer (some ⟨w1.heap.size, 1, none⟩) := (hk 2 (by decide)).1
      have h3 : x.v 3 = .int .i64 N := (hk 3 (by decide)).1
      have h4 : x.v 4 = .slice KA K kc := (hk 4 (by decide)).1
      have h5 : MxO w (x.lo 5) (x.hi 5) (x.v 5) (mxF K N (ksF y v)) := (hk 5 (by decide)).1
      have h6 : ∃ Ar ar Cr cr Er er Hr hr', x.v 6 = .tuple #[.agg #[.int .i64 R.1.p, .int .i64 R.1.q.v, .slice Ar R.1.q.f.length ar, .slice Cr R.1.q.t.length cr, .slice Er R.1.d.length er, .slice Hr R.1.m.length hr'], .bool R.2] ∧ RepO w (x.lo 6) (x.hi 6) (.agg #[.int .i64 R.1.p, .int .i64 R.1.q.v, .slice Ar R.1.q.f.length ar, .slice Cr R.1.q.t.length cr, .slice Er R.1.d.length er, .slice Hr R.1.m.length hr']) R.1 := (hk 6 (by decide)).1
      have s5 := (hk 5 (by decide)).2
      have s6 := (hk 6 (by decide)).2
      clear hk
      simp only [netAct, dstAt, List.getElem?_toArray, List.getElem?_cons_zero, List.getElem?_cons_succ, Option.bind_some, Act.put, List.setIfInBounds_toArray, List.set_cons_zero, List.set_cons_succ] at hQ ⊢
      simp only [h0, h1, h2, h3, h4] at hQ ⊢
      clear h0 h1 h2 h3 h4
      obtain ⟨Ar, ar, Cr, cr, Er, er, Hr, hr', e4, ho⟩ := h6
      have hQ' := hQ (.agg #[.int .i64 R.1.p, .int .i64 R.1.q.v, .slice Ar R.1.q.f.length ar, .slice Cr R.1.q.t.length cr, .slice Er R.1.d.length er, .slice Hr R.1.m.length hr']) w (Below.refl _ _) ⟨Ar, ar, Cr, cr, Er, er, Hr, hr', rfl, ho⟩
      rw [e4] at hQ' ⊢
      go_wp2
      exact hQ'
    · intro x w hb hk Q' hQ
      have h6 : ∃ Ar ar Cr cr Er er Hr hr', x.v 6 = .tuple #[.agg #[.int .i64 R.1.p, .int .i64 R.1.q.v, .slice Ar R.1.q.f.length ar, .slice Cr R.1.q.t.length cr, .slice Er R.1.d.length er, .slice Hr R.1.m.length hr'], .bool R.2] ∧ RepO w (x.lo 6) (x.hi 6) (.agg #[.int .i64 R.1.p, .int .i64 R.1.q.v, .slice Ar R.1.q.f.length ar, .slice Cr R.1.q.t.length cr, .slice Er R.1.d.length er, .slice Hr R.1.m.length hr']) R.1 := (hk 6 (by decide)).1
      clear hk
      simp only [netAct, dstAt, List.getElem?_toArray, List.getElem?_cons_zero, List.getElem?_cons_succ, Option.bind_some, Act.put, List.setIfInBounds_toArray, List.set_cons_zero, List.set_cons_succ] at hQ ⊢
      obtain ⟨Ar, ar, Cr, cr, Er, er, Hr, hr', e4, ho⟩ := h6
      rw [e4] at hQ ⊢
      go_wp2
      exact hQ (.bool R.2) _ (Below.refl _ _) rfl
    · intro x w hb hk hiv hdj
      have h0 : x.v 0 = .agg #[.int .i64 y.p, .int .i64 y.q.v, .slice A y.q.f.length a, .slice C y.q.t.length c, .slice E y.d.length ec, .slice H y.m.length hc] := hk 0 (by decide)
      have h1 : x.v 1 = .int .i64 v := hk 1 (by decide)
      have h2 : x.v 2 = .pointer (some ⟨w1.heap.size, 1, none⟩) := hk 2 (by decide)
      have h3 : x.v 3 = .int .i64 N := hk 3 (by decide)
      have h4 : x.v 4 = .slice KA K kc := hk 4 (by decide)
      have h5 : MxO w (x.lo 5) (x.hi 5) (x.v 5) (mxF K N (ksF y v)) := hk 5 (by decide)
      have h6 : ∃ Ar ar Cr cr Er er Hr hr', x.v 6 = .tuple #[.agg #[.int .i64 R.1.p, .int .i64 R.1.q.v, .slice Ar R.1.q.f.length ar, .slice Cr R.1.q.t.length cr, .slice Er R.1.d.length er, .slice Hr R.1.m.length hr'], .bool R.2] ∧ RepO w (x.lo 6) (x.hi 6) (.agg #[.int .i64 R.1.p, .int .i64 R.1.q.v, .slice Ar R.1.q.f.length ar, .slice Cr R.1.q.t.length cr, .slice Er R.1.d.length er, .slice Hr R.1.m.length hr']) R.1 := hk 6 (by decide)
      have h7 : ∃ Ar ar Cr cr Er er Hr hr', x.v 7 = .agg #[.int .i64 R.1.p, .int .i64 R.1.q.v, .slice Ar R.1.q.f.length ar, .slice Cr R.1.q.t.length cr, .slice Er R.1.d.length er, .slice Hr R.1.m.length hr'] ∧ RepO w (x.lo 6) (x.hi 6) (.agg #[.int .i64 R.1.p, .int .i64 R.1.q.v, .slice Ar R.1.q.f.length ar, .slice Cr R.1.q.t.length cr, .slice Er R.1.d.length er, .slice Hr R.1.m.length hr']) R.1 := hk 7 (by decide)
      have h8 : x.v 8 = .bool R.2 := hk 8 (by decide)
      clear hk
      simp only [netAct, dstAt, List.getElem?_toArray, List.getElem?_cons_zero, List.getElem?_cons_succ, Option.bind_some, Act.put, List.setIfInBounds_toArray, List.set_cons_zero, List.set_cons_succ]
      simp only [List.drop_succ_cons, List.drop_zero, h0, h1, h2, h3, h4, h8]
      clear h0 h1 h2 h3 h4 h8
      obtain ⟨Ar, ar, Cr, cr, Er, er, Hr, hr', e7, ho⟩ := h7
      obtain ⟨A6, a6, C6, c6, E6, ec6, H6, h6', e6, _⟩ := h6
      have i6 := hiv 6 (by decide)
      rw [e7, e6]
      have gf3 := G3.out.trans (hb.mono G3.out.size)
      have kz := k2.call gf3
      have fr := kz.frozen
      have s0 := kz.cell' (i := 0) rfl
      have s1 := kz.cell' (i := 1) rfl
      have s2 := kz.cell' (i := 2) rfl
      have s3 := kz.cell' (i := 3) rfl
      have s4 := kz.cell' (i := 4) rfl
      have s5 := kz.cell' (i := 5) rfl
      have gf := g0.trans (gf3.mono g0.size)
      have hc6 := chg6 w (w0.heap.size + 1) (.int .i64 R.1.p) (.int .i64 R.1.q.v) (.slice Ar R.1.q.f.length ar) (.slice Cr R.1.q.t.length cr) (.slice Er R.1.d.length er) (.slice Hr R.1.m.length hr')
      have g3s := G3.out.size
      have sz := SZ.out
      have OF := Lib.hid ((ho.chg hc6 (.inr (by omega))).wider (lo' := w0.heap.size) (hi' := w.heap.size) (by omega) (by omega))
      have GF := Lib.hid (gf.trans (hc6.below (by omega) gf.size))
      clear h5 ho e7 e6 kz gf gf3 hc6 hiv hdj i6 hb g3s sz kM3 k13
      go_wp2
      have hE := HE.out
      exact bodyPost_ret (v := .tuple #[.agg #[.int .i64 R.1.p, .int .i64 R.1.q.v, .slice Ar R.1.q.f.length ar, .slice Cr R.1.q.t.length cr, .slice Er R.1.d.length er, .slice Hr R.1.m.length hr'], .bool R.2]) (by simp [results, go_sem, s0, s1, s2, s3, s4, s5]) rfl ⟨_, by rw [hE], by rw [hE]; have := OF.out.wider (Nat.le_refl _) (Nat.le_refl _); simpa using this, GF.out⟩
    · intro x w hb hk hiv hdj om os hom hos
      simp only [List.getElem?_cons_zero, List.getElem?_cons_succ, Option.some.injEq] at hom hos
      subst hom hos
      have h0 : x.v 0 = .agg #[.int .i64 y.p, .int .i64 y.q.v, .slice A y.q.f.length a, .slice C y.q.t.length c, .slice E y.d.length ec, .slice H y.m.length hc] := hk 0 (by decide)
      have h1 : x.v 1 = .int .i64 v := hk 1 (by decide)
      have h2 : x.v 2 = .pointer (some ⟨w1.heap.size, 1, none⟩) := hk 2 (by decide)
      have h3 : x.v 3 = .int .i64 N := hk 3 (by decide)
      have h4 : x.v 4 = .slice KA K kc := hk 4 (by decide)
      have h5 : MxO w (x.lo 5) (x.hi 5) (x.v 5) (mxF K N (ksF y v)) := hk 5 (by decide)
      have h6 : ∃ Ar ar Cr cr Er er Hr hr', x.v 6 = .tuple #[.agg #[.int .i64 R.1.p, .int .i64 R.1.q.v, .slice Ar R.1.q.f.length ar, .slice Cr R.1.q.t.length cr, .slice Er R.1.d.length er, .slice Hr R.1.m.length hr'], .bool R.2] ∧ RepO w (x.lo 6) (x.hi 6) (.agg #[.int .i64 R.1.p, .int .i64 R.1.q.v, .slice Ar R.1.q.f.length ar, .slice Cr R.1.q.t.length cr, .slice Er R.1.d.length er, .slice Hr R.1.m.length hr']) R.1 := hk 6 (by decide)
      have h7 : ∃ Ar ar Cr cr Er er Hr hr', x.v 7 = .agg #[.int .i64 R.1.p, .int .i64 R.1.q.v, .slice Ar R.1.q.f.length ar, .slice Cr R.1.q.t.length cr, .slice Er R.1.d.length er, .slice Hr R.1.m.length hr'] ∧ RepO w (x.lo 6) (x.hi 6) (.agg #[.int .i64 R.1.p, .int .i64 R.1.q.v, .slice Ar R.1.q.f.length ar, .slice Cr R.1.q.t.length cr, .slice Er R.1.d.length er, .slice Hr R.1.m.length hr']) R.1 := hk 7 (by decide)
      clear hk
      simp only [List.foldl_cons, List.foldl_nil, netAct, dstAt, List.getElem?_toArray, List.getElem?_cons_zero, List.getElem?_cons_succ, Option.bind_some, Act.put, List.setIfInBounds_toArray, List.set_cons_zero, List.set_cons_succ]
      simp only [List.drop_succ_cons, List.drop_zero, h0, h1, h2, h3, h4]
      clear h0 h1 h2 h3 h4
      obtain ⟨Ar, ar, Cr, cr, Er, er, Hr, hr', e7, ho⟩ := h7
      obtain ⟨A6, a6, C6, c6, E6, ec6, H6, h6', e6, _⟩ := h6
      have i6 := hiv 6 (by decide)
      rw [e7, e6]
      have gf3 := G3.out.trans (hb.mono G3.out.size)
      have kz := k2.call gf3
      have fr := kz.frozen
      have s0 := kz.cell' (i := 0) rfl
      have s1 := kz.cell' (i := 1) rfl
      have s2 := kz.cell' (i := 2) rfl
      have s3 := kz.cell' (i := 3) rfl
      have s4 := kz.cell' (i := 4) rfl
      have s5 := kz.cell' (i := 5) rfl
      have gf := g0.trans (gf3.mono g0.size)
      have hc6 := chg6 w (w0.heap.size + 1) (.int .i64 R.1.p) (.int .i64 R.1.q.v) (.slice Ar R.1.q.f.length ar) (.slice Cr R.1.q.t.length cr) (.slice Er R.1.d.length er) (.slice Hr R.1.m.length hr')
      have g3s := G3.out.size
      have sz := SZ.out
      have OF := Lib.hid ((ho.chg hc6 (.inr (by omega))).wider (lo' := w0.heap.size) (hi' := w.heap.size) (by omega) (by omega))
      have GF := Lib.hid (gf.trans (hc6.below (by omega) gf.size))
      clear h5 ho e7 e6 kz gf gf3 hc6 hiv hdj i6 hb g3s sz kM3 k13
      go_wp2
      have hE := HE.out
      exact bodyPost_ret (v := .tuple #[.agg #[.int .i64 R.1.p, .int .i64 R.1.q.v, .slice Ar R.1.q.f.length ar, .slice Cr R.1.q.t.length cr, .slice Er R.1.d.length er, .slice Hr R.1.m.length hr'], .bool R.2]) (by simp [results, go_sem, s0, s1, s2, s3, s4, s5]) rfl ⟨_, by rw [hE], by rw [hE]; have := OF.out.wider (Nat.le_refl _) (Nat.le_refl _); simpa using this, GF.out⟩
end Go.Proofs.Ytcmlflppndfdcaa

/- The reference's ReflectSink, plain. -/
namespace Go.Proofs.Ytcmlflppndfdcaa
set_option linter.unusedVariables false
set_option linter.unusedSimpArgs false
open Go.RowKit

def pkF (F : Nat → Nat → Int) (o a b i j : Nat) : Int := if i < a ∨ (i = a ∧ j < b) then F j (o + i) else 0
theorem pkF_0 (F : Nat → Nat → Int) (o r c : Nat) : mxF r c (fun _ _ => 0) = mxF r c (pkF F o 0 0) := mxF_congr fun i j _ _ => by simp [pkF]
theorem pkF_put {F : Nat → Nat → Int} {o r c a b : Nat} (ha : a < r) (hb : b < c) : (flat r c (pkF F o a b)).set (a * c + b) (F b (o + a)) = flat r c (pkF F o a (b + 1)) := by
  rw [flat_set _ _ ha hb]
  refine flat_congr fun i j _ _ => ?_
  by_cases h : i = a ∧ j = b
  · obtain ⟨rfl, rfl⟩ := h
    rw [if_pos ⟨rfl, rfl⟩, pkF, if_pos (by omega)]
  · rw [if_neg h]
    unfold pkF
    by_cases h2 : i < a ∨ (i = a ∧ j < b)
    · rw [if_pos h2, if_pos (by omega)]
    · rw [if_neg h2, if_neg (by omega)]
theorem pkF_next (F : Nat → Nat → Int) (o r c a : Nat) : mxF r c (pkF F o a c) = mxF r c (pkF F o (a + 1) 0) := mxF_congr fun i j _ hj => by
  unfold pkF
  by_cases h2 : i < a ∨ (i = a ∧ j < c)
  · rw [if_pos h2, if_pos (by omega)]
  · rw [if_neg h2, if_neg (by omega)]
theorem pkF_end (F : Nat → Nat → Int) (o r c : Nat) : mxF r c (pkF F o r 0) = mxF r c fun a b => F b (o + a) := mxF_congr fun i j hi _ => by
  rw [pkF, if_pos (.inl hi)]
def rsD (x : Rp) (v : Int) (K : Nat) : List Int := x.d.set v.toNat K
def rsM (x : Rp) (v : Int) (K : Nat) (F : Nat → Nat → Int) (k i : Nat) : Mx := if i < k then (if tch x.q v i = true then gSink x v K F i else x.m.getD i mx0) else zmAt (rvQ x.q v) (rsD x v K) i
def rsI (x : Rp) (v : Int) (K : Nat) (F : Nat → Nat → Int) (k a b i : Nat) : Mx := if i = k then mxF (othN x v k) K (pkF F (atN x v k) a b) else rsM x v K F k i
theorem rsM_end (x : Rp) (v : Int) (K : Nat) (F : Nat → Nat → Int) : msF x.q.f.length (rsM x v K F x.q.f.length) = msF x.q.f.length (rfM x v (gSink x v K F) x.q.f.length) := msF_congr fun i hi => by
  rw [rsM, if_pos hi, rfM]
  by_cases h : tch x.q v i = true
  · rw [if_pos h, if_pos ⟨hi, h⟩]
  · rw [if_neg h, if_neg fun e => h e.2]
theorem rsM_copy {x : Rp} {v : Int} {K k : Nat} {F : Nat → Nat → Int} {m : Mx} (h : tch x.q v k = false) (hm : x.m[k]? = some m) : (msF x.q.f.length (rsM x v K F k)).set k m = msF x.q.f.length (rsM x v K F (k + 1)) := by
  rw [msF_set]
  refine msF_congr fun i _ => ?_
  by_cases e : i = k
  · subst e
    rw [if_pos rfl, rsM, if_pos (by omega), if_neg (by rw [h]; decide), List.getD_eq_getElem?_getD, hm]; rfl
  · rw [if_neg e]; unfold rsM
    by_cases e2 : i < k
    · rw [if_pos e2, if_pos (show i < k + 1 by omega)]
    · rw [if_neg e2, if_neg (show ¬ i < k + 1 by omega)]
theorem rsI_0 {x : Rp} {v : Int} {K k : Nat} {F : Nat → Nat → Int} (hz : zmAt (rvQ x.q v) (rsD x v K) k = mxF (othN x v k) K fun _ _ => 0) : msF x.q.f.length (rsM x v K F k) = msF x.q.f.length (rsI x v K F k 0 0) := msF_congr fun i _ => by
  unfold rsI
  by_cases e : i = k
  · subst e
    rw [if_pos rfl, rsM, if_neg (by omega), hz, pkF_0]
  · rw [if_neg e]
theorem rsI_at (x : Rp) (v : Int) (K k : Nat) (F : Nat → Nat → Int) (a b : Nat) (hk : k < x.q.f.length) : (msF x.q.f.length (rsI x v K F k a b))[k]? = some (mxF (othN x v k) K (pkF F (atN x v k) a b)) := by
  rw [msF_get _ hk, rsI, if_pos rfl]
theorem rsI_put {x : Rp} {v : Int} {K k : Nat} {F : Nat → Nat → Int} {a b : Nat} (ha : a < othN x v k) (hb : b < K) :
    (msF x.q.f.length (rsI x v K F k a b)).set k ⟨(othN x v k : Int), (K : Int), (flat (othN x v k) K (pkF F (atN x v k) a b)).set (a * K + b) (F b (atN x v k + a))⟩ = msF x.q.f.length (rsI x v K F k a (b + 1)) := by
  rw [msF_set]
  refine msF_congr fun i _ => ?_
  unfold rsI
  by_cases e : i = k
  · rw [if_pos e, if_pos e, pkF_put ha hb]; rfl
  · rw [if_neg e, if_neg e, if_neg e]
theorem rsI_next (x : Rp) (v : Int) (K k : Nat) (F : Nat → Nat → Int) (a : Nat) : msF x.q.f.length (rsI x v K F k a K) = msF x.q.f.length (rsI x v K F k (a + 1) 0) := msF_congr fun i _ => by
  unfold rsI
  by_cases e : i = k
  · rw [if_pos e, if_pos e, pkF_next]
  · rw [if_neg e, if_neg e]
theorem rsI_end {x : Rp} {v : Int} {K k : Nat} {F : Nat → Nat → Int} (h : tch x.q v k = true) : msF x.q.f.length (rsI x v K F k (othN x v k) 0) = msF x.q.f.length (rsM x v K F (k + 1)) := msF_congr fun i _ => by
  unfold rsI
  by_cases e : i = k
  · subst e
    rw [if_pos rfl, rsM, if_pos (by omega), if_pos h, pkF_end, gSink]
  · rw [if_neg e]; unfold rsM
    by_cases e2 : i < k
    · rw [if_pos e2, if_pos (show i < k + 1 by omega)]
    · rw [if_neg e2, if_neg (show ¬ i < k + 1 by omega)]
/-- the matrix of zeros at an arrow to the sink -/
theorem zm_sink {x : Rp} {n k nf yf K : Nat} (hk : k < x.q.f.length) (ef : x.q.f[k]? = some (nf : Int)) (et : x.q.t[k]? = some (n : Int)) (df : x.d[nf]? = some (yf : Int)) (hne : nf ≠ n) (hn : n < x.d.length) : zmAt (rvQ x.q (n : Int)) (rsD x (n : Int) K) k = mxF yf K fun _ _ => 0 := by
  have ht : tch x.q (n : Int) k = true := by rw [tch_of ef et]; simp
  have e1 : (rvQ x.q (n : Int)).t.getD k 0 = (nf : Int) := by
    rw [rvQ, rvK, rowF_getD _ hk, rvT, if_pos ⟨hk, ht⟩, List.getD_eq_getElem?_getD, ef]; rfl
  have e2 : (rvQ x.q (n : Int)).f.getD k 0 = (n : Int) := by
    rw [rvQ, rvK, rowF_getD _ hk, rvF, if_pos ⟨hk, ht⟩, List.getD_eq_getElem?_getD, et]; rfl
  have e3 : dAt (rsD x (n : Int) K) (nf : Int) = (yf : Int) := by
    rw [dAt, rsD, Int.toNat_natCast, Int.toNat_natCast, List.getD_eq_getElem?_getD, List.getElem?_set, if_neg (by omega), df]; rfl
  have e4 : dAt (rsD x (n : Int) K) (n : Int) = (K : Int) := by
    rw [dAt, rsD, Int.toNat_natCast, List.getD_eq_getElem?_getD, List.getElem?_set, if_pos rfl, if_pos hn]; rfl
  rw [zmAt, e1, e2, e3, e4, zmx_flat]
end Go.Proofs.Ytcmlflppndfdcaa

/- Writes into representations of the reference's making: a matrix put in its place, a number put into a matrix. -/
namespace Go.Proofs.Ytcmlflppndfdcaa
set_option linter.unusedVariables false
set_option linter.unusedSimpArgs false
open Go.RowKit

theorem OutM.setMx2 {w : World} {lo hi g n c j : Nat} {vs : List Value} {ms : List Mx} (h : OutM w lo hi (.slice (some ⟨g, 0, none⟩) n c) vs ms) (hl : vs.length = ms.length) (hj : j < ms.length) (m : Mx) (u : Value) :
    OutM (set3 w g (j * 3) (.int .i64 m.r) (.int .i64 m.c) u) lo hi (.slice (some ⟨g, 0, none⟩) n c) (vs.set j u) (ms.set j m) := OutM.setMx h hl hj m u
theorem IntsO.set3 {w : World} {lo hi g i : Nat} {v : Value} {l : List Int} {t : TypeId} {cs : Array Value} (h : IntsO w lo hi v l) (hb : Blk w g t cs) (ht : 3 ≠ t) (a b c : Value) : IntsO (set3 w g i a b c) lo hi v l := by
  have h1 : Fam w lo hi [(v, l)] := ⟨fun p hp => by simp at hp; rw [hp]; exact h, by simp⟩
  exact (h1.set3 (i := i) hb ht a b c).1 (v, l) (by simp)
theorem RepI.setMx {w : World} {lo hi mi hi' g n c j : Nat} {p v r k : Int} {f t d u : Value} {x : Rp} {m : Mx} (h : RepI w lo hi (.agg #[.int .i64 p, .int .i64 v, f, t, d, .slice (some ⟨g, 0, none⟩) n c]) x) (hj : j < x.m.length)
    (hu : MxO w mi hi' (.agg #[.int .i64 r, .int .i64 k, u]) m) (h1 : hi ≤ mi) (h2 : mi ≤ hi') :
    RepI (set3 w g (j * 3) (.int .i64 r) (.int .i64 k) u) lo hi' (.agg #[.int .i64 p, .int .i64 v, f, t, d, .slice (some ⟨g, 0, none⟩) n c]) ⟨x.p, x.q, x.d, x.m.set j m⟩ ∧ lo ≤ g ∧ g < hi := by
  obtain ⟨f', t', d', m', vs, mi0, e, i1, i2, i3, hO, hvl, hF, hmi, hi1, hi2⟩ := h
  simp only [Value.agg.injEq, Array.mk.injEq, List.cons.injEq, and_true] at e
  obtain ⟨rfl2, rfl3, rfl, rfl, rfl, rfl⟩ := e
  obtain ⟨s, e, hs, j1, j2⟩ := hu
  simp only [Value.agg.injEq, Array.mk.injEq, List.cons.injEq, and_true, Value.int.injEq, true_and] at e
  obtain ⟨rfl, rfl, rfl⟩ := e
  obtain ⟨cs, hb, hg1, hg2⟩ := OutM.blk hO
  refine ⟨⟨f, t, d, _, vs.set j u, mi0, by rw [rfl2, rfl3], i1.set3 hb (by decide) _ _ _, i2.set3 hb (by decide) _ _ _, i3.set3 hb (by decide) _ _ _, (OutM.setMx hO hvl hj m u).mono (Nat.le_refl _) (by omega), by simp [hvl], ?_, ⟨hmi.1, by omega⟩, hi1, fun y hy => ?_⟩, hg1, hg2⟩
  · have hF' : Fam w mi0 hi ([] ++ vs.zip (x.m.map Mx.a)) := by simpa using hF
    have hF2 := hF'.swap (j := j) (by simpa using hj) (by simpa using hvl) hs h1 h2 (by omega)
    have hF3 := hF2.set3 (i := j * 3) hb (by decide) (.int .i64 m.r) (.int .i64 m.c) u
    rw [List.map_set]
    simpa using hF3
  · rcases List.mem_or_eq_of_mem_set hy with hy | rfl
    · exact hi2 y hy
    · exact ⟨j1, j2⟩
theorem RepI.blk {w : World} {lo hi g n c : Nat} {p v : Int} {f t d : Value} {x : Rp} (h : RepI w lo hi (.agg #[.int .i64 p, .int .i64 v, f, t, d, .slice (some ⟨g, 0, none⟩) n c]) x) : ∃ cs, Blk w g 84 cs ∧ lo ≤ g ∧ g < hi := by
  obtain ⟨f', t', d', m', vs, mi0, e, i1, i2, i3, hO, hvl, hF, hmi, hi1, hi2⟩ := h
  simp only [Value.agg.injEq, Array.mk.injEq, List.cons.injEq, and_true] at e
  obtain ⟨rfl2, rfl3, rfl, rfl, rfl, rfl⟩ := e
  exact OutM.blk hO
/-- the cells of a matrix -/
theorem RepI.mxAt {w : World} {lo hi j : Nat} {p v : Int} {f t d m : Value} {x : Rp} {y : Mx} (h : RepI w lo hi (.agg #[.int .i64 p, .int .i64 v, f, t, d, m]) x) (hj : x.m[j]? = some y) :
    ∃ g c s, m = .slice (some ⟨g, 0, none⟩) x.m.length c ∧ lo ≤ g ∧ g < hi ∧ w.cell? ⟨g, j * 3, none⟩ = some (.int .i64 y.r) ∧ w.cell? ⟨g, j * 3 + 1, none⟩ = some (.int .i64 y.c) ∧ w.cell? ⟨g, j * 3 + 2, none⟩ = some s ∧ IntsO w lo hi s y.a ∧ (∀ i, w.frozen? ⟨g, i, none⟩ = false) := by
  obtain ⟨f', t', d', m', vs, mi0, e, i1, i2, i3, hO, hvl, hF, hmi, hi1, hi2⟩ := h
  simp only [Value.agg.injEq, Array.mk.injEq, List.cons.injEq, and_true] at e
  obtain ⟨_, _, rfl, rfl, rfl, rfl⟩ := e
  have hjl := lt_of_some hj
  have hv : vs[j]? = some (vs[j]'(by omega)) := List.getElem?_eq_getElem (by omega)
  obtain ⟨a, b, c⟩ := mxCs_get hv hj
  have hR : RepO w lo hi (.agg #[.int .i64 x.p, .int .i64 x.q.v, .slice none 0 0, .slice none 0 0, .slice none 0 0, m]) ⟨x.p, ⟨x.q.v, [], []⟩, [], x.m⟩ := by
    refine ⟨_, _, _, _, vs, rfl, hO, hvl, ?_, hi1, hi2⟩
    have hn : ∀ b : Value × List Int, (Value.slice none 0 0).ownBlock = none ∨ (Value.slice none 0 0).ownBlock ≠ b.1.ownBlock := fun b => .inl rfl
    refine ⟨fun p hp => ?_, ?_⟩
    · simp only [List.cons_append, List.nil_append, List.mem_cons] at hp
      rcases hp with rfl | rfl | rfl | hp
      · exact ⟨OwnI.nil _ _, by simp [Value.ownBlock]⟩
      · exact ⟨OwnI.nil _ _, by simp [Value.ownBlock]⟩
      · exact ⟨OwnI.nil _ _, by simp [Value.ownBlock]⟩
      · exact (hF.1 p hp).wider hmi.1 (Nat.le_refl _)
    · simp only [List.cons_append, List.nil_append, List.pairwise_cons]
      exact ⟨fun b _ => .inl rfl, fun b _ => .inl rfl, fun b _ => .inl rfl, hF.2⟩
  obtain ⟨g, c', s, e, k1, k2, z0, z1, z2, hs, hf, _⟩ := hR.mxAt hj
  exact ⟨g, c', s, e, k1, k2, z0, z1, z2, hs, hf⟩
/-- a number put into a matrix -/
theorem RepI.putMx {w : World} {lo hi j i : Nat} {p v z : Int} {f t d m : Value} {x : Rp} {y : Mx} (h : RepI w lo hi (.agg #[.int .i64 p, .int .i64 v, f, t, d, m]) x) (hj : x.m[j]? = some y) (hi' : i < y.a.length) (hz : I64 z) :
    ∃ g c gr cr, m = .slice (some ⟨g, 0, none⟩) x.m.length c ∧ w.cell? ⟨g, j * 3 + 1, none⟩ = some (.int .i64 y.c) ∧ w.cell? ⟨g, j * 3 + 2, none⟩ = some (.slice (some ⟨gr, 0, none⟩) y.a.length cr) ∧ (∃ u, w.cell? ⟨gr, i, none⟩ = some u) ∧ w.frozen? ⟨gr, i, none⟩ = false ∧
      (x.m.length ≤ c ∧ c ≤ 9223372036854775807) ∧ (y.a.length ≤ cr ∧ cr ≤ 9223372036854775807) ∧ (lo ≤ gr ∧ gr < hi) ∧ (∀ (g' : Nat) (t' : TypeId) (cs' : Array Value), Blk w g' t' cs' → 3 ≠ t' → g' ≠ gr) ∧ RepI (w.setCell ⟨gr, i, none⟩ (.int .i64 z)) lo hi (.agg #[.int .i64 p, .int .i64 v, f, t, d, m]) ⟨x.p, x.q, x.d, x.m.set j ⟨y.r, y.c, y.a.set i z⟩⟩ := by
  obtain ⟨f', t', d', m', vs, mi0, e, i1, i2, i3, hO, hvl, hF, hmi, hi1, hi2⟩ := h
  simp only [Value.agg.injEq, Array.mk.injEq, List.cons.injEq, and_true] at e
  obtain ⟨e1, e2, rfl, rfl, rfl, rfl⟩ := e
  have hF' : Fam w mi0 hi ([] ++ vs.zip (x.m.map Mx.a)) := by simpa using hF
  obtain ⟨gm, cm, g, c, em, hgm, hv, c0, c1, c2, ho, hgb, k1, k2, k3, k4⟩ := OutM.at_ hO hvl hF' hj (by omega)
  have hput := mats_put (i := i) hO hF' hv hj ho hz
  have hcell := (ho.cellG hi').1
  have hfr := ho.frozenG i
  have lowp : ∀ {u : Value} {l : List Int}, IntsO w lo mi0 u l → IntsO (w.setCell ⟨g, i, none⟩ (.int .i64 z)) lo mi0 u l := fun h => h.chg (chg_set1 w g i _) (.inl hgb.1)
  refine ⟨gm, cm, g, c, em, c1, c2, ⟨_, hcell⟩, hfr, ⟨k3, k4⟩, ⟨k1, k2⟩, ⟨by omega, hgb.2⟩, fun g' t' cs' hb ht e => ho.blkne hb ht (by rw [e]; rfl), f, t, d, m, vs, mi0, by rw [e1, e2], lowp i1, lowp i2, lowp i3, hput.1, by simp [hvl], by simpa using hput.2, hmi, hi1, mats_I64 hi2 hj⟩
end Go.Proofs.Ytcmlflppndfdcaa

/- l6Copy: rows apart from one another. -/
namespace Go.Proofs.Ytcmlflppndfdcaa
set_option linter.unusedVariables false
set_option linter.unusedSimpArgs false
open Go.RowKit

/-- append onto a slice that holds nothing: into its own block, or into new memory -/
theorem wpList_append_fresh2 {w : World} {ops : Array Oper} {rest : List Oper} {o : Oper} {a : Act} {Q : Exit → Act → World → Prop} (hgd : o.guard = none) (s x : Operand)
    (ho : o.op = .call { callee := .builtin .append, args := #[s, x], argTypes := #[22, 22] })
    (g lo B : Nat) (cs : Array Value) (hs : a.eval s = .slice (some ⟨g, 0, none⟩) 0 0) (hg : Blk w g 3 cs) (hcs : cs.size = 0) (hlo : lo ≤ g) (A : Option Addr) (c : Nat) (news : List Int) (hx : a.eval x = .slice A news.length c) (hr : SlI w B (.slice A news.length c) news)
    (h : ∀ v' w', OwnI w' lo v' news → (v'.ownBlock = some g ∨ ∀ k, v'.ownBlock = some k → w.heap.size ≤ k) → Below w.heap.size w w' → wpList Try.prog ops Q rest (a.put o.dst v') w') : wpList Try.prog ops Q (o :: rest) a w := by
  obtain ⟨i0, hi, hz0, hz1, hz2⟩ := info_parts infoInt
  have hn := hr
  obtain ⟨_, _, _, _, _, hn, hcell⟩ := hn
  have hI := SlI.i64 hr
  refine wpList_plain hgd fun K hK => ?_
  by_cases hp : 0 < news.length
  · obtain ⟨b, of, eA, hb, hc⟩ := hcell hp
    have hA := NewsAt.of_sl hr
    obtain ⟨hl, hnews⟩ := hA
    obtain ⟨b', of', eA', hc'⟩ := hnews.resolve_left (by omega)
    subst eA'
    have hadd : ∀ j, (⟨b', of', none⟩ : Addr).add j = ⟨b', of' + j, none⟩ := by intro j; unfold Addr.add; split <;> simp_all
    obtain ⟨v', w', hrun, hown, hgr⟩ := run_append_arg_grows (P := Try.prog) w 22 o.type 3 i0 _ 1 8 Try.underlying22 hi hz0 hz1 hz2 rfl (by decide) ⟨g, 0, none⟩ 0 0 [] (by simp) (by intro j u hj; simp at hj) ⟨b', of', none⟩ news.length c (news.map (Value.int .i64)) hl (fun j u hj => by rw [hadd]; exact hc' j u hj) (by omega) (by simp only [maxLen]; omega) (by omega)
    unfold Oper.wp execOp
    simp only [ho, resolve, invoke, builtin, Sem.run_bind, Sem.run_pure, Result.andThen_ok, List.map_toArray, List.map_cons, List.map_nil, hs, hx, hrun]
    have hgl := hg.lt
    have hOw : OwnI w' w.heap.size v' news := ⟨by simpa using hown, hn, hI⟩
    refine hK _ _ (h v' w' (hOw.lower (by omega)) (.inr fun k hk => (hOw.lt k hk).1) ⟨hgr.os, hgr.tape, hgr.output, hgr.size, fun k hk => hgr.block k hk (by simp)⟩)
  · have h0 : news = [] := List.eq_nil_of_length_eq_zero (by omega)
    subst h0
    have hrun : (Builtin.append_ #[22, 22] o.type #[.slice (some ⟨g, 0, none⟩) 0 0, .slice A 0 c]).run Try.prog w = .ok (.slice (some ⟨g, 0, none⟩) 0 0) w := by
      cases A <;> simp [Builtin.append_, run_underlying (P := Try.prog) Try.underlying22, sizeOf, typeInfo, hi, Builtin.lenOf, Builtin.firstCells, storeCells, loadCells, loadCellsFrom]
    simp only [List.length_nil] at hx
    unfold Oper.wp execOp
    simp only [ho, resolve, invoke, builtin, Sem.run_bind, Sem.run_pure, Result.andThen_ok, List.map_toArray, List.map_cons, List.map_nil, hs, hx, hrun]
    refine hK _ _ (h _ w ?_ (.inl (by simp [Value.ownBlock])) (Below.refl _ _))
    have := hg.own (base := lo) (n := 0) (cap := 0) (size := 1) hlo (Nat.le_refl _) (by simp only [maxLen]; omega) (by omega)
    exact ⟨by simpa using this, by simp, by simp⟩
theorem fam_twoQ {w : World} {lo : Nat} {a b : Value} {l m : List Int} (ha : OwnI w lo a l) (hb : OwnI w lo b m) (h : ∀ k, a.ownBlock = some k → b.ownBlock ≠ some k) : Fam w lo w.heap.size [(a, l), (b, m)] := by
  refine ⟨fun p hp => ?_, ?_⟩
  · simp only [List.mem_cons, List.not_mem_nil, or_false] at hp
    rcases hp with rfl | rfl
    · exact IntsO.of_own ha
    · exact IntsO.of_own hb
  · simp only [List.pairwise_cons, List.mem_cons, List.not_mem_nil, or_false, forall_eq, false_implies, implies_true, List.Pairwise.nil, and_true]
    rcases hA : a.ownBlock with _ | x
    · exact .inl rfl
    · exact .inr fun e => h x hA e.symm
set_option maxHeartbeats 3200000 in
theorem l6Copy_own (u : Value) (q : Qv) (w0 : World) (hu : QvR w0 w0.heap.size u q) :
    Calls Try.prog 91 #[u] w0 fun e w' => ∃ v, e = .returned v ∧ QuivO w' w0.heap.size w'.heap.size v q ∧ Below w0.heap.size w0 w' := by
  obtain ⟨A, c, C, d, rfl, hf, ht, hr, lf, lt⟩ := hu.open_
  clear hu
  obtain ⟨W, hW⟩ : ∃ W, W = (w0.alloc (.cells #[.int .i64 q.v, .slice A q.f.length c, .slice C q.t.length d] 28)).alloc (.cells #[.int .i64 0, .slice none 0 0, .slice none 0 0] 28) := ⟨_, rfl⟩
  have g0 : Below w0.heap.size w0 W := by rw [hW]; exact ((Below.refl _ _).alloc (Nat.le_refl _) _).alloc (by simp) _
  have k1 : Blk W w0.heap.size 28 #[.int .i64 q.v, .slice A q.f.length c, .slice C q.t.length d] := by rw [hW]; exact (Blk.new _ _ _).alloc _
  have k2 : Blk W (w0.heap.size + 1) 28 #[.int .i64 0, .slice none 0 0, .slice none 0 0] := by
    rw [hW]
    have := Blk.new (w0.alloc (.cells #[.int .i64 q.v, .slice A q.f.length c, .slice C q.t.length d] 28)) 28 #[.int .i64 0, .slice none 0 0, .slice none 0 0]
    simpa only [World.size_alloc] using this
  have sz : W.heap.size = w0.heap.size + 1 + 1 := by rw [hW]; simp
  have SZ := Lib.hid sz
  clear sz
  replace hf := SlI.next g0 hf
  replace ht := SlI.next g0 ht
  go_enter Try.func91, Try.ntmps91
  go_wp2
  rw [← hW]; clear hW
  refine wp_region_net (by kernel_rfl) [.eq (.pointer (some ⟨w0.heap.size, 0, none⟩)), .eq (.int .i64 q.v), rel 2 (fun u lo hi w => ∃ g, u = .slice (some ⟨g, 0, none⟩) 0 0 ∧ (lo ≤ g ∧ g < hi) ∧ W.heap.size ≤ g ∧ Blk w g 3 #[]), .eq (.pointer (some ⟨w0.heap.size, 1, none⟩)), .eq (.slice A q.f.length c), .rel (fun x w => OwnI w W.heap.size (x.v 5) q.f ∧ ∀ k, (x.v 5).ownBlock = some k → (x.lo 2 ≤ k ∧ k < x.hi 2) ∨ (x.lo 5 ≤ k ∧ k < x.hi 5)), rel 6 (fun u lo hi w => ∃ g, u = .slice (some ⟨g, 0, none⟩) 0 0 ∧ (lo ≤ g ∧ g < hi) ∧ W.heap.size ≤ g ∧ Blk w g 3 #[]), .eq (.pointer (some ⟨w0.heap.size, 2, none⟩)), .eq (.slice C q.t.length d), .rel (fun x w => OwnI w W.heap.size (x.v 9) q.t ∧ ∀ k, (x.v 9).ownBlock = some k → (x.lo 6 ≤ k ∧ k < x.hi 6) ∨ (x.lo 9 ≤ k ∧ k < x.hi 9)), .rel (fun x w => x.v 10 = .agg #[.int .i64 q.v, x.v 5, x.v 9])] [[], [0], [], [], [3], [2, 3, 4], [], [], [7], [2, 3, 4, 5, 6, 7, 8], [0, 1, 2, 3, 4, 5, 6, 7, 8, 9], [0, 1, 2, 3, 4, 5, 6, 7, 8, 9, 10]] 11 (by kernel_rfl) ⟨trivial, trivial, rel_stable (fun u lo hi w w' ⟨g, e, h1, h2, h3⟩ hb => ⟨g, e, h1, h2, h3.call hb⟩), trivial, trivial, fun x w w' ⟨h1, h2⟩ hb => ⟨h1.below hb, h2⟩, rel_stable (fun u lo hi w w' ⟨g, e, h1, h2, h3⟩ hb => ⟨g, e, h1, h2, h3.call hb⟩), trivial, trivial, fun x w w' ⟨h1, h2⟩ hb => ⟨h1.below hb, h2⟩, fun x w w' h hb => h, trivial⟩ ⟨?_, ?_, ?_, ?_, ?_, ?_, ?_, ?_, ?_, ?_, ?_, trivial⟩ ?_
  · intro x w hb hk Q' hQ
    clear hk
    simp only [netAct, dstAt, List.getElem?_toArray, List.getElem?_cons_zero, List.getElem?_cons_succ, Option.bind_some, Act.put, List.setIfInBounds_toArray, List.set_cons_zero, List.set_cons_succ] at hQ ⊢
    go_wp2
    exact hQ (.pointer (some ⟨w0.heap.size, 0, none⟩)) _ (Below.refl _ _) rfl
  · intro x w hb hk Q' hQ
    have h0 : x.v 0 = .pointer (some ⟨w0.heap.size, 0, none⟩) := (hk 0 (by decide)).1
    clear hk
    simp only [netAct, dstAt, List.getElem?_toArray, List.getElem?_cons_zero, List.getElem?_cons_succ, Option.bind_some, Act.put, List.setIfInBounds_toArray, List.set_cons_zero, List.set_cons_succ] at hQ ⊢
    simp only [h0] at hQ ⊢
    clear h0
    have c0 := (k1.call hb).cell' (i := 0) rfl
    go_wp2
    exact hQ (.int .i64 q.v) _ (Below.refl _ _) rfl
  · intro x w hb hk Q' hQ
    clear hk
    simp only [netAct, dstAt, List.getElem?_toArray, List.getElem?_cons_zero, List.getElem?_cons_succ, Option.bind_some, Act.put, List.setIfInBounds_toArray, List.set_cons_zero, List.set_cons_succ] at hQ ⊢
    have hbs := hb.size
    go_wp2
    exact hQ _ _ (below_alloc _ _) ⟨_, rfl, ⟨Nat.le_refl _, by show w.heap.size < (w.alloc _).heap.size; simp⟩, hbs, Blk.new _ _ _⟩
  · intro x w hb hk Q' hQ
    clear hk
    simp only [netAct, dstAt, List.getElem?_toArray, List.getElem?_cons_zero, List.getElem?_cons_succ, Option.bind_some, Act.put, List.setIfInBounds_toArray, List.set_cons_zero, List.set_cons_succ] at hQ ⊢
    go_wp2
    exact hQ (.pointer (some ⟨w0.heap.size, 1, none⟩)) _ (Below.refl _ _) rfl
  · intro x w hb hk Q' hQ
    have h3 : x.v 3 = .pointer (some ⟨w0.heap.size, 1, none⟩) := (hk 3 (by decide)).1
    clear hk
    simp only [netAct, dstAt, List.getElem?_toArray, List.getElem?_cons_zero, List.getElem?_cons_succ, Option.bind_some, Act.put, List.setIfInBounds_toArray, List.set_cons_zero, List.set_cons_succ] at hQ ⊢
    simp only [h3] at hQ ⊢
    clear h3
    have c1 := (k1.call hb).cell' (i := 1) rfl
    go_wp2
    exact hQ (.slice A q.f.length c) _ (Below.refl _ _) rfl
  · intro x w hb hk Q' hQ
    have h2 : ∃ g, (x.v 2) = .slice (some ⟨g, 0, none⟩) 0 0 ∧ ((x.lo 2) ≤ g ∧ g < (x.hi 2)) ∧ W.heap.size ≤ g ∧ Blk w g 3 #[] := (hk 2 (by decide)).1
    have h3 : x.v 3 = .pointer (some ⟨w0.heap.size, 1, none⟩) := (hk 3 (by decide)).1
    have h4 : x.v 4 = .slice A q.f.length c := (hk 4 (by decide)).1
    have s2 := (hk 2 (by decide)).2
    clear hk
    simp only [netAct, dstAt, List.getElem?_toArray, List.getElem?_cons_zero, List.getElem?_cons_succ, Option.bind_some, Act.put, List.setIfInBounds_toArray, List.set_cons_zero, List.set_cons_succ] at hQ ⊢
    simp only [h3, h4] at hQ ⊢
    clear h3 h4
    obtain ⟨g, e2, hg1, hg, hB⟩ := h2
    rw [e2] at hQ ⊢
    refine wpList_append_fresh2 (by rfl) (.tmp 5) (.tmp 7) (by rfl) g W.heap.size w.heap.size #[] (by rfl) hB rfl hg A c q.f (by rfl) (SlI.next hb hf) ?_
    intro v' w' ho ho2 hb'
    refine hQ v' w' hb' ⟨ho, fun k hk => ?_⟩
    replace hk : v'.ownBlock = some k := hk
    rcases ho2 with ho2 | ho2
    · rw [ho2] at hk; injection hk with hk; subst hk; exact .inl hg1
    · exact .inr ⟨ho2 k hk, (ho.lt k hk).2⟩
  · intro x w hb hk Q' hQ
    clear hk
    simp only [netAct, dstAt, List.getElem?_toArray, List.getElem?_cons_zero, List.getElem?_cons_succ, Option.bind_some, Act.put, List.setIfInBounds_toArray, List.set_cons_zero, List.set_cons_succ] at hQ ⊢
    have hbs := hb.size
    go_wp2
    exact hQ _ _ (below_alloc _ _) ⟨_, rfl, ⟨Nat.le_refl _, by show w.heap.size < (w.alloc _).heap.size; simp⟩, hbs, Blk.new _ _ _⟩
  · intro x w hb hk Q' hQ
    clear hk
    simp only [netAct, dstAt, List.getElem?_toArray, List.getElem?_cons_zero, List.getElem?_cons_succ, Option.bind_some, Act.put, List.setIfInBounds_toArray, List.set_cons_zero, List.set_cons_succ] at hQ ⊢
    go_wp2
    exact hQ (.pointer (some ⟨w0.heap.size, 2, none⟩)) _ (Below.refl _ _) rfl
  · intro x w hb hk Q' hQ
    have h7 : x.v 7 = .pointer (some ⟨w0.heap.size, 2, none⟩) := (hk 7 (by decide)).1
    clear hk
    simp only [netAct, dstAt, List.getElem?_toArray, List.getElem?_cons_zero, List.getElem?_cons_succ, Option.bind_some, Act.put, List.setIfInBounds_toArray, List.set_cons_zero, List.set_cons_succ] at hQ ⊢
    simp only [h7] at hQ ⊢
    clear h7
    have c2 := (k1.call hb).cell' (i := 2) rfl
    go_wp2
    exact hQ (.slice C q.t.length d) _ (Below.refl _ _) rfl
  · intro x w hb hk Q' hQ
    have h2 : ∃ g, (x.v 2) = .slice (some ⟨g, 0, none⟩) 0 0 ∧ ((x.lo 2) ≤ g ∧ g < (x.hi 2)) ∧ W.heap.size ≤ g ∧ Blk w g 3 #[] := (hk 2 (by decide)).1
    have h3 : x.v 3 = .pointer (some ⟨w0.heap.size, 1, none⟩) := (hk 3 (by decide)).1
    have h4 : x.v 4 = .slice A q.f.length c := (hk 4 (by decide)).1
    have h5 : OwnI w W.heap.size (x.v 5) q.f ∧ ∀ k, (x.v 5).ownBlock = some k → (x.lo 2 ≤ k ∧ k < x.hi 2) ∨ (x.lo 5 ≤ k ∧ k < x.hi 5) := (hk 5 (by decide)).1
    have h6 : ∃ g, (x.v 6) = .slice (some ⟨g, 0, none⟩) 0 0 ∧ ((x.lo 6) ≤ g ∧ g < (x.hi 6)) ∧ W.heap.size ≤ g ∧ Blk w g 3 #[] := (hk 6 (by decide)).1
    have h7 : x.v 7 = .pointer (some ⟨w0.heap.size, 2, none⟩) := (hk 7 (by decide)).1
    have h8 : x.v 8 = .slice C q.t.length d := (hk 8 (by decide)).1
    have s2 := (hk 2 (by decide)).2
    have s5 := (hk 5 (by decide)).2
    have s6 := (hk 6 (by decide)).2
    clear hk
    simp only [netAct, dstAt, List.getElem?_toArray, List.getElem?_cons_zero, List.getElem?_cons_succ, Option.bind_some, Act.put, List.setIfInBounds_toArray, List.set_cons_zero, List.set_cons_succ] at hQ ⊢
    simp only [h3, h4, h7, h8] at hQ ⊢
    clear h3 h4 h7 h8
    obtain ⟨g, e6, hg1, hg, hB⟩ := h6
    rw [e6] at hQ ⊢
    refine wpList_append_fresh2 (by rfl) (.tmp 9) (.tmp 11) (by rfl) g W.heap.size w.heap.size #[] (by rfl) hB rfl hg C d q.t (by rfl) (SlI.next hb ht) ?_
    intro v' w' ho ho2 hb'
    refine hQ v' w' hb' ⟨ho, fun k hk => ?_⟩
    replace hk : v'.ownBlock = some k := hk
    rcases ho2 with ho2 | ho2
    · rw [ho2] at hk; injection hk with hk; subst hk; exact .inl hg1
    · exact .inr ⟨ho2 k hk, (ho.lt k hk).2⟩
  · intro x w hb hk Q' hQ
    have h0 : x.v 0 = .pointer (some ⟨w0.heap.size, 0, none⟩) := (hk 0 (by decide)).1
    have h1 : x.v 1 = .int .i64 q.v := (hk 1 (by decide)).1
    have h2 : ∃ g, (x.v 2) = .slice (some ⟨g, 0, none⟩) 0 0 ∧ ((x.lo 2) ≤ g ∧ g < (x.hi 2)) ∧ W.heap.size ≤ g ∧ Blk w g 3 #[] := (hk 2 (by decide)).1
    have h3 : x.v 3 = .pointer (some ⟨w0.heap.size, 1, none⟩) := (hk 3 (by decide)).1
    have h4 : x.v 4 = .slice A q.f.length c := (hk 4 (by decide)).1
    have h5 : OwnI w W.heap.size (x.v 5) q.f ∧ ∀ k, (x.v 5).ownBlock = some k → (x.lo 2 ≤ k ∧ k < x.hi 2) ∨ (x.lo 5 ≤ k ∧ k < x.hi 5) := (hk 5 (by decide)).1
    have h6 : ∃ g, (x.v 6) = .slice (some ⟨g, 0, none⟩) 0 0 ∧ ((x.lo 6) ≤ g ∧ g < (x.hi 6)) ∧ W.heap.size ≤ g ∧ Blk w g 3 #[] := (hk 6 (by decide)).1
    have h7 : x.v 7 = .pointer (some ⟨w0.heap.size, 2, none⟩) := (hk 7 (by decide)).1
    have h8 : x.v 8 = .slice C q.t.length d := (hk 8 (by decide)).1
    have h9 : OwnI w W.heap.size (x.v 9) q.t ∧ ∀ k, (x.v 9).ownBlock = some k → (x.lo 6 ≤ k ∧ k < x.hi 6) ∨ (x.lo 9 ≤ k ∧ k < x.hi 9) := (hk 9 (by decide)).1
    have s2 := (hk 2 (by decide)).2
    have s5 := (hk 5 (by decide)).2
    have s6 := (hk 6 (by decide)).2
    have s9 := (hk 9 (by decide)).2
    clear hk
    simp only [netAct, dstAt, List.getElem?_toArray, List.getElem?_cons_zero, List.getElem?_cons_succ, Option.bind_some, Act.put, List.setIfInBounds_toArray, List.set_cons_zero, List.set_cons_succ] at hQ ⊢
    simp only [h0, h1, h3, h4, h7, h8] at hQ ⊢
    clear h0 h1 h3 h4 h7 h8
    obtain ⟨s4A, s4c, e4, _, _⟩ := h5.1.form
    obtain ⟨s7A, s7c, e7, _, _⟩ := h9.1.form
    have hQ' := hQ (.agg #[.int .i64 q.v, x.v 5, x.v 9]) w (Below.refl _ _) rfl
    rw [e4, e7] at hQ' ⊢
    go_wp2
    exact hQ'
  · intro x w hb hk hiv hdj
    have h0 : x.v 0 = .pointer (some ⟨w0.heap.size, 0, none⟩) := hk 0 (by decide)
    have h1 : x.v 1 = .int .i64 q.v := hk 1 (by decide)
    have h2 : ∃ g, (x.v 2) = .slice (some ⟨g, 0, none⟩) 0 0 ∧ ((x.lo 2) ≤ g ∧ g < (x.hi 2)) ∧ W.heap.size ≤ g ∧ Blk w g 3 #[] := hk 2 (by decide)
    have h3 : x.v 3 = .pointer (some ⟨w0.heap.size, 1, none⟩) := hk 3 (by decide)
    have h4 : x.v 4 = .slice A q.f.length c := hk 4 (by decide)
    have h5 : OwnI w W.heap.size (x.v 5) q.f ∧ ∀ k, (x.v 5).ownBlock = some k → (x.lo 2 ≤ k ∧ k < x.hi 2) ∨ (x.lo 5 ≤ k ∧ k < x.hi 5) := hk 5 (by decide)
    have h6 : ∃ g, (x.v 6) = .slice (some ⟨g, 0, none⟩) 0 0 ∧ ((x.lo 6) ≤ g ∧ g < (x.hi 6)) ∧ W.heap.size ≤ g ∧ Blk w g 3 #[] := hk 6 (by decide)
    have h7 : x.v 7 = .pointer (some ⟨w0.heap.size, 2, none⟩) := hk 7 (by decide)
    have h8 : x.v 8 = .slice C q.t.length d := hk 8 (by decide)
    have h9 : OwnI w W.heap.size (x.v 9) q.t ∧ ∀ k, (x.v 9).ownBlock = some k → (x.lo 6 ≤ k ∧ k < x.hi 6) ∨ (x.lo 9 ≤ k ∧ k < x.hi 9) := hk 9 (by decide)
    have h10 : x.v 10 = .agg #[.int .i64 q.v, x.v 5, x.v 9] := hk 10 (by decide)
    clear hk
    simp only [netAct, dstAt, List.getElem?_toArray, List.getElem?_cons_zero, List.getElem?_cons_succ, Option.bind_some, Act.put, List.setIfInBounds_toArray, List.set_cons_zero, List.set_cons_succ]
    simp only [List.drop_succ_cons, List.drop_zero, h0, h1, h3, h4, h7, h8]
    clear h0 h1 h3 h4 h7 h8
    have d1 := hdj 2 6 (by decide) (by decide) (by decide)
    have d2 := hdj 2 9 (by decide) (by decide) (by decide)
    have d3 := hdj 5 6 (by decide) (by decide) (by decide)
    have d4 := hdj 5 9 (by decide) (by decide) (by decide)
    have hQ : QuivO w W.heap.size w.heap.size (.agg #[.int .i64 q.v, x.v 5, x.v 9]) q := ⟨_, _, rfl, fam_twoQ h5.1 h9.1 (fun k hk e => by
      have a1 := h5.2 k hk
      have a2 := h9.2 k e
      omega), hr⟩
    obtain ⟨s4A, s4c, e4, _, _⟩ := h5.1.form
    obtain ⟨s7A, s7c, e7, _, _⟩ := h9.1.form
    rw [e4, e7] at hQ h10
    rw [h10]
    have k2' := k2.call hb
    have f2 := k2'.frozen
    have r0 := k2'.cell' (i := 0) rfl
    have r1 := k2'.cell' (i := 1) rfl
    have r2 := k2'.cell' (i := 2) rfl
    have gf := g0.trans (hb.mono g0.size)
    have HBS := Lib.hid hb.size
    have HQ := Lib.hid hQ
    clear h2 h5 h6 h9 h10 e4 e7 k1 k2 hb hf ht hQ hdj hiv d1 d2 d3 d4
    go_wp2
    have sz := SZ.out
    have hbs := HBS.out
    refine bodyPost_ret (v := .agg #[.int .i64 q.v, .slice s4A q.f.length s4c, .slice s7A q.t.length s7c]) (by simp [results, go_sem, r0, r1, r2]) rfl ⟨_, rfl, QuivO.wider (lo := W.heap.size) (hi := w.heap.size) ?_ (by omega) (by simp), ((gf.setCell (by simp) _).setCell (by simp) _).setCell (by simp) _⟩
    exact ((HQ.out.setLow (by simp; omega) _).setLow (by simp; omega) _).setLow (by simp; omega) _
end Go.Proofs.Ytcmlflppndfdcaa

/- Arrows at a vertex turned: the reference's ReverseAt. -/
namespace Go.Proofs.Ytcmlflppndfdcaa
set_option linter.unusedVariables false
set_option linter.unusedSimpArgs false
open Go.RowKit

set_option maxHeartbeats 6400000 in
set_option maxRecDepth 100000 in
theorem specReverseAt_any (u : Value) (q : Qv) (v : Int) (w0 : World) (hu : QvR w0 w0.heap.size u q) (hq : isQ q = true) (hs : endV q.t q v = true ∨ endV q.f q v = true) :
    Calls Try.prog 61 #[u, .int .i64 v] w0 fun e w' => ∃ r, e = .returned (.tuple #[r, .bool true]) ∧ QuivO w' w0.heap.size w'.heap.size r (rvQ q v) ∧ Below w0.heap.size w0 w' := by
  have hu' := hu
  obtain ⟨A, c, C, d, rfl, hf, hT, hr, lf, lt⟩ := hu.open_
  clear hu
  have hlen := (isQ_t.1 hq).2.1
  have hl6 := (isQ_t.1 hq).2.2.1
  obtain ⟨W, hW⟩ : ∃ W, W = (w0.alloc (.cells #[.int .i64 q.v, .slice A q.f.length c, .slice C q.t.length d] 28)).alloc (.cells #[.int .i64 0, .slice none 0 0, .slice none 0 0] 28) := ⟨_, rfl⟩
  have g0 : Below w0.heap.size w0 W := by rw [hW]; exact ((Below.refl _ _).alloc (Nat.le_refl _) _).alloc (by simp) _
  have k1 : Blk W w0.heap.size 28 #[.int .i64 q.v, .slice A q.f.length c, .slice C q.t.length d] := by rw [hW]; exact (Blk.new _ _ _).alloc _
  have k2 : Blk W (w0.heap.size + 1) 28 #[.int .i64 0, .slice none 0 0, .slice none 0 0] := by
    rw [hW]
    have := Blk.new (w0.alloc (.cells #[.int .i64 q.v, .slice A q.f.length c, .slice C q.t.length d] 28)) 28 #[.int .i64 0, .slice none 0 0, .slice none 0 0]
    simpa only [World.size_alloc] using this
  have sz : W.heap.size = w0.heap.size + 1 + 1 := by rw [hW]; simp
  have SZ := Lib.hid sz
  have HQV := Lib.hid (QvR.next g0 hu')
  have HF := Lib.hid (SlI.next g0 hf)
  have HT := Lib.hid (SlI.next g0 hT)
  have HQ := Lib.hid hq
  have HL := Lib.hid hlen
  have c0 := k1.cell' (i := 0) rfl
  have c1 := k1.cell' (i := 1) rfl
  have c2 := k1.cell' (i := 2) rfl
  clear hu' hf hT sz hq hlen
  obtain ⟨V, hV⟩ : ∃ V : Nat, q.v = (V : Int) := ⟨q.v.toNat, by have := (isQ_t.1 HQ.out).1; omega⟩
  have hVt : q.v.toNat = V := by omega
  have HM1 := Lib.hid (freeV_mem q.t V q v hV)
  have HM2 := Lib.hid (freeV_mem q.f V q v hV)
  have HVT := Lib.hid hVt
  clear hV hVt
  rcases h1 : endV q.t q v with _ | _
  · have h2 : endV q.f q v = true := by rw [h1] at hs; simpa using hs
    have H1 := Lib.hid h1
    have H2 := Lib.hid h2
    clear h1 h2 hs
    go_enter Try.func61, Try.ntmps61
    go_wp2_with fail
    rw [← hW]; clear hW
    refine (sourcesOf_any _ q _ HQV.out HQ.out).mono ?_; rintro e wa ⟨va, rfl, hLa, hba⟩
    rw [HVT.out] at hLa
    have HLa := Lib.hid hLa
    obtain ⟨La, la, ea, _⟩ := hLa
    subst ea
    go_wp2_with fail
    refine (l4Has_any _ _ v _ HLa.out).mono ?_; rintro e wb ⟨rfl, hbb⟩
    rw [HM1.out, H1.out]
    have gb := bthen hba hbb
    have ka := k1.call gb
    clear c0 c1 c2
    have c0 := ka.cell' (i := 0) rfl
    have c1 := ka.cell' (i := 1) rfl
    have c2 := ka.cell' (i := 2) rfl
    clear ka hba hbb HLa
    go_wp2_with fail
    refine (sinksOf_any _ q _ (QvR.next gb HQV.out) HQ.out).mono ?_; rintro e wc ⟨vc, rfl, hLc, hbc⟩
    rw [HVT.out] at hLc
    have HLc := Lib.hid hLc
    obtain ⟨Lc, lc, ec, _⟩ := hLc
    subst ec
    go_wp2_with fail
    refine (l4Has_any _ _ v _ HLc.out).mono ?_; rintro e wd ⟨rfl, hbd⟩
    rw [HM2.out, H2.out]
    have GZ := Lib.hid (bthen (bthen gb hbc) hbd)
    clear gb hbc hbd HLc
    have kz1 := k1.call GZ.out
    clear c0 c1 c2
    have c0 := kz1.cell' (i := 0) rfl
    have c1 := kz1.cell' (i := 1) rfl
    have c2 := kz1.cell' (i := 2) rfl
    clear kz1
    go_wp2_with fail
    refine (l6Copy_own _ q _ (QvR.next GZ.out HQV.out)).mono ?_; rintro e w3 ⟨v3, rfl, hC, hb3⟩
    obtain ⟨FA, fc, TA, tc, ev⟩ := hC.form
    subst ev
    obtain ⟨W4, hW4⟩ : ∃ u, w3.alloc (.cells #[.int .i64 q.v, .slice FA q.f.length fc, .slice TA q.t.length tc] 28) = u := ⟨_, rfl⟩
    have ga : Below w3.heap.size w3 W4 := by rw [← hW4]; exact below_alloc _ _
    have kO : Blk W4 w3.heap.size 28 #[.int .i64 q.v, .slice FA q.f.length fc, .slice TA q.t.length tc] := by rw [← hW4]; exact Blk.new _ _ _
    have hC4 : QuivO W4 wd.heap.size w3.heap.size (.agg #[.int .i64 q.v, .slice FA q.f.length fc, .slice TA q.t.length tc]) (rvK q v 0) := by rw [rvK_0 HL.out.symm v]; exact hC.below ga
    have gz4 := bthen hb3 ga
    have gW4 := GZ.out.trans (gz4.mono GZ.out.size)
    have sz4 := GZ.out.size
    have s3 := hb3.size
    have lO := kO.lt
    clear c0 c1 c2 hC ga hb3
    go_wp2
    clear hW4
    go_loopw [7] (fun i wr => ∃ k : Nat, k ≤ q.f.length ∧ i = .int .i64 k ∧ Below W.heap.size W wr ∧ Blk wr w3.heap.size 28 #[.int .i64 q.v, .slice FA q.f.length fc, .slice TA q.t.length tc] ∧ QuivO wr wd.heap.size w3.heap.size (.agg #[.int .i64 q.v, .slice FA q.f.length fc, .slice TA q.t.length tc]) (rvK q v k) ∧ w3.heap.size ≤ wr.heap.size) (fun i _ => q.f.length - (intOf i).toNat)
    case atStart => exact ⟨0, Nat.zero_le _, rfl, gW4, kO, hC4, by omega⟩
    case round =>
      clear gW4 kO hC4
      obtain ⟨k, hk, rfl, gW, hB, hO, hs⟩ := hrel
      by_cases hlt : k < q.f.length
      · have hlt2 : k < q.t.length := by have := HL.out; omega
        obtain ⟨bf, of_, xf, eA, hbf, HXF, f1, rf⟩ := SlI.at_ HF.out hlt
        obtain ⟨bt, ot, xt, eC, hbt, HXT, t1, rt⟩ := SlI.at_ HT.out hlt2
        subst eA eC
        have F1 := Lib.hid f1
        have T1 := Lib.hid t1
        have f1' := bcell gW hbf f1
        have t1' := bcell gW hbt t1
        have HT0 := Lib.hid (tch_of (v := v) HXF.out HXT.out)
        have kB := k1.call gW
        have c1 := kB.cell' (i := 1) rfl
        have c2 := kB.cell' (i := 2) rfl
        have o1 := hB.cell' (i := 1) rfl
        have o2 := hB.cell' (i := 2) rfl
        obtain ⟨gF, gT, eF, eT, l1, l2, l3, l4⟩ := hO.addr (by simp only [rvK, rowF_length]; omega) (by simp only [rvK, rowF_length]; omega)
        subst eF eT
        have hyes : tch q v k = true → ∃ Y1 Y2, Y1 = (wr.setCell ⟨gF, k, none⟩ (.int .i64 xt)).drew ∧ Y2 = (Y1.setCell ⟨gT, k, none⟩ (.int .i64 xf)).drew ∧ QuivO Y2 wd.heap.size w3.heap.size (.agg #[.int .i64 q.v, .slice (some ⟨gF, 0, none⟩) q.f.length fc, .slice (some ⟨gT, 0, none⟩) q.t.length tc]) (rvK q v (k + 1)) ∧ Chg wd.heap.size w3.heap.size wr Y1 ∧ Chg wd.heap.size w3.heap.size wr Y2 ∧ (∃ u, wr.cell? ⟨gF, k, none⟩ = some u) ∧ wr.frozen? ⟨gF, k, none⟩ = false ∧ (∃ u, Y1.cell? ⟨gT, k, none⟩ = some u) ∧ Y1.frozen? ⟨gT, k, none⟩ = false := by
          intro ht
          have p1 := hO.putF (k := k) (x := xt) rt
          have p1' := p1.1.below (drew_below _)
          have p2 := p1'.putT (k := k) (x := xf) rf
          have z1 := hO.cellF (k := k) (by simp only [rvK, rowF_length]; omega)
          have z2 := p1'.cellT (k := k) (by simp only [rvK, rowF_length]; omega)
          have h1 : Chg wd.heap.size w3.heap.size wr ((wr.setCell ⟨gF, k, none⟩ (.int .i64 xt)).drew) := (chg_set l1 l2).trans (Chg.of_below (drew_below _))
          refine ⟨_, _, rfl, rfl, ?_, h1, ?_, ⟨_, z1.1⟩, z1.2, ⟨_, z2.1⟩, z2.2⟩
          · rw [rvK_yes ht]
            have e1 : q.t.getD k 0 = xt := by rw [List.getD_eq_getElem?_getD, HXT.out]; rfl
            have e2 : q.f.getD k 0 = xf := by rw [List.getD_eq_getElem?_getD, HXF.out]; rfl
            rw [e1, e2]
            exact p2.1.below (drew_below _)
          · exact (h1.trans (chg_set l3 l4)).trans (Chg.of_below (drew_below _))
        have HYES := Lib.hid hyes
        have HNO := Lib.hid (fun h : tch q v k = false => rvK_no (q := q) (v := v) h)
        have HO := Lib.hid hO
        have HB := Lib.hid hB
        have GW := Lib.hid gW
        have gws := gW.size
        clear f1 t1 hyes hO hB gW kB HXF HXT
        have hne1 : gF ≠ w3.heap.size := by omega
        have hne2 : gT ≠ w3.heap.size := by omega
        by_cases h1 : xf = v
        · have hd : (xf == v) = true := by rw [h1]; exact beq_self_eq_true v
          have htc : tch q v k = true := by rw [HT0.out, h1]; simp
          obtain ⟨Y1, Y2, eY1, eY2, hOY, hcY1, hcY2, ⟨u1, z1⟩, z2, ⟨u2, z3⟩, z4⟩ := HYES.out htc
          clear HT0 HYES HNO h1 htc
          have hmo : Try.prog.follows .mixedOrders = true := by kernel_rfl
          have HOY := Lib.hid hOY
          have HCY1 := Lib.hid hcY1
          have HCY2 := Lib.hid hcY2
          have Z3 := Lib.hid z3
          have Z4 := Lib.hid z4
          have EY2 := Lib.hid eY2
          have gb1 := hcY1.below (B := W.heap.size) (by omega) (by omega)
          have kb1 := Lib.hid (k1.call (GW.out.trans gb1))
          have ko1 := Lib.hid (HB.out.chg hcY1 (.inr (Nat.le_refl _)))
          have F2 := Lib.hid (bcell (GW.out.trans gb1) hbf F1.out)
          have T2 := Lib.hid (bcell (GW.out.trans gb1) hbt T1.out)
          clear hOY hcY1 hcY2 z3 z4 eY2 gb1
          go_wp2_with fail
          go_region_o
          rw [← eY1]
          clear eY1 z1 z2 c1 c2 o1 o2 f1' t1'
          have c1 := kb1.out.cell' (i := 1) rfl
          have c2 := kb1.out.cell' (i := 2) rfl
          have o1 := ko1.out.cell' (i := 1) rfl
          have o2 := ko1.out.cell' (i := 2) rfl
          have z3 := Z3.out
          have z4 := Z4.out
          have f2' := F2.out
          have t2' := T2.out
          go_wp2_with fail
          go_region_o
          rw [← EY2.out]
          clear z3 z4 c1 c2 o1 o2 f2' t2'
          have hsY := HCY2.out.size
          have HBY := Lib.hid (HB.out.chg HCY2.out (.inr (Nat.le_refl _)))
          have GWY := Lib.hid (GW.out.trans (HCY2.out.below (B := W.heap.size) (by omega) (by omega)))
          go_wp2
          go_roundw
          case rel => exact ⟨k + 1, by omega, by go_num, GWY.out, HBY.out, HOY.out, by omega⟩
          case measure => simp [intOf]; omega
        · have hd : (xf == v) = false := by rw [beq_eq_false_iff_ne]; exact h1
          by_cases h2 : xt = v
          · have hd2 : (xt == v) = true := by rw [h2]; exact beq_self_eq_true v
            have htc : tch q v k = true := by rw [HT0.out, h2]; simp
            obtain ⟨Y1, Y2, eY1, eY2, hOY, hcY1, hcY2, ⟨u1, z1⟩, z2, ⟨u2, z3⟩, z4⟩ := HYES.out htc
            clear HT0 HYES HNO h1 h2 htc
            have hmo : Try.prog.follows .mixedOrders = true := by kernel_rfl
            have HOY := Lib.hid hOY
            have HCY1 := Lib.hid hcY1
            have HCY2 := Lib.hid hcY2
            have Z3 := Lib.hid z3
            have Z4 := Lib.hid z4
            have EY2 := Lib.hid eY2
            have gb1 := hcY1.below (B := W.heap.size) (by omega) (by omega)
            have kb1 := Lib.hid (k1.call (GW.out.trans gb1))
            have ko1 := Lib.hid (HB.out.chg hcY1 (.inr (Nat.le_refl _)))
            have F2 := Lib.hid (bcell (GW.out.trans gb1) hbf F1.out)
            have T2 := Lib.hid (bcell (GW.out.trans gb1) hbt T1.out)
            clear hOY hcY1 hcY2 z3 z4 eY2 gb1
            go_wp2_with fail
            go_region_o
            rw [← eY1]
            clear eY1 z1 z2 c1 c2 o1 o2 f1' t1'
            have c1 := kb1.out.cell' (i := 1) rfl
            have c2 := kb1.out.cell' (i := 2) rfl
            have o1 := ko1.out.cell' (i := 1) rfl
            have o2 := ko1.out.cell' (i := 2) rfl
            have z3 := Z3.out
            have z4 := Z4.out
            have f2' := F2.out
            have t2' := T2.out
            go_wp2_with fail
            go_region_o
            rw [← EY2.out]
            clear z3 z4 c1 c2 o1 o2 f2' t2'
            have hsY := HCY2.out.size
            have HBY := Lib.hid (HB.out.chg HCY2.out (.inr (Nat.le_refl _)))
            have GWY := Lib.hid (GW.out.trans (HCY2.out.below (B := W.heap.size) (by omega) (by omega)))
            go_wp2
            go_roundw
            case rel => exact ⟨k + 1, by omega, by go_num, GWY.out, HBY.out, HOY.out, by omega⟩
            case measure => simp [intOf]; omega
          · have hd2 : (xt == v) = false := by rw [beq_eq_false_iff_ne]; exact h2
            have HN := Lib.hid (HNO.out (by rw [HT0.out]; simp [h1, h2]))
            clear HT0 HYES HNO h1 h2
            go_wp2
            go_roundw
            case rel => exact ⟨k + 1, by omega, by go_num, GW.out, HB.out, by rw [HN.out]; exact HO.out, hs⟩
            case measure => simp [intOf]; omega
      · obtain rfl : k = q.f.length := by omega
        have kw := k1.call gW
        have c1 := kw.cell' (i := 1) rfl
        clear kw
        have gf := g0.trans (gW.mono g0.size)
        have kz := k2.call gW
        have fr := kz.frozen
        have s0 := kz.cell' (i := 0) rfl
        have s1 := kz.cell' (i := 1) rfl
        have s2 := kz.cell' (i := 2) rfl
        have r0 := hB.cell' (i := 0) rfl
        have r1 := hB.cell' (i := 1) rfl
        have r2 := hB.cell' (i := 2) rfl
        have sz := SZ.out
        have hc := chg3 wr (w0.heap.size + 1) (.int .i64 q.v) (.slice FA q.f.length fc) (.slice TA q.t.length tc)
        have OF := Lib.hid ((hO.chg hc (.inr (by omega))).wider (lo' := w0.heap.size) (hi' := wr.heap.size) (by omega) (by omega))
        have GF := Lib.hid (gf.trans (hc.below (by omega) gf.size))
        clear hO hB kz gf hc
        go_wp2
        exact bodyPost_ret (v := .tuple #[.agg #[.int .i64 q.v, .slice FA q.f.length fc, .slice TA q.t.length tc], .bool true]) (by simp [results, go_sem, s0, s1, s2]) rfl ⟨_, rfl, by have := OF.out.wider (Nat.le_refl _) (Nat.le_refl _); simpa [rvQ] using this, GF.out⟩
  · have H1 := Lib.hid h1
    clear h1 hs
    go_enter Try.func61, Try.ntmps61
    go_wp2_with fail
    rw [← hW]; clear hW
    refine (sourcesOf_any _ q _ HQV.out HQ.out).mono ?_; rintro e wa ⟨va, rfl, hLa, hba⟩
    rw [HVT.out] at hLa
    have HLa := Lib.hid hLa
    obtain ⟨La, la, ea, _⟩ := hLa
    subst ea
    go_wp2_with fail
    refine (l4Has_any _ _ v _ HLa.out).mono ?_; rintro e wb ⟨rfl, hbb⟩
    rw [HM1.out, H1.out]
    have GZ := Lib.hid (bthen hba hbb)
    clear hba hbb HLa
    have kz1 := k1.call GZ.out
    clear c0 c1 c2
    have c0 := kz1.cell' (i := 0) rfl
    have c1 := kz1.cell' (i := 1) rfl
    have c2 := kz1.cell' (i := 2) rfl
    clear kz1
    go_wp2_with fail
    refine (l6Copy_own _ q _ (QvR.next GZ.out HQV.out)).mono ?_; rintro e w3 ⟨v3, rfl, hC, hb3⟩
    obtain ⟨FA, fc, TA, tc, ev⟩ := hC.form
    subst ev
    obtain ⟨W4, hW4⟩ : ∃ u, w3.alloc (.cells #[.int .i64 q.v, .slice FA q.f.length fc, .slice TA q.t.length tc] 28) = u := ⟨_, rfl⟩
    have ga : Below w3.heap.size w3 W4 := by rw [← hW4]; exact below_alloc _ _
    have kO : Blk W4 w3.heap.size 28 #[.int .i64 q.v, .slice FA q.f.length fc, .slice TA q.t.length tc] := by rw [← hW4]; exact Blk.new _ _ _
    have hC4 : QuivO W4 wb.heap.size w3.heap.size (.agg #[.int .i64 q.v, .slice FA q.f.length fc, .slice TA q.t.length tc]) (rvK q v 0) := by rw [rvK_0 HL.out.symm v]; exact hC.below ga
    have gz4 := bthen hb3 ga
    have gW4 := GZ.out.trans (gz4.mono GZ.out.size)
    have sz4 := GZ.out.size
    have s3 := hb3.size
    have lO := kO.lt
    clear c0 c1 c2 hC ga hb3
    go_wp2
    clear hW4
    go_loopw [7] (fun i wr => ∃ k : Nat, k ≤ q.f.length ∧ i = .int .i64 k ∧ Below W.heap.size W wr ∧ Blk wr w3.heap.size 28 #[.int .i64 q.v, .slice FA q.f.length fc, .slice TA q.t.length tc] ∧ QuivO wr wb.heap.size w3.heap.size (.agg #[.int .i64 q.v, .slice FA q.f.length fc, .slice TA q.t.length tc]) (rvK q v k) ∧ w3.heap.size ≤ wr.heap.size) (fun i _ => q.f.length - (intOf i).toNat)
    case atStart => exact ⟨0, Nat.zero_le _, rfl, gW4, kO, hC4, by omega⟩
    case round =>
      clear gW4 kO hC4
      obtain ⟨k, hk, rfl, gW, hB, hO, hs⟩ := hrel
      by_cases hlt : k < q.f.length
      · have hlt2 : k < q.t.length := by have := HL.out; omega
        obtain ⟨bf, of_, xf, eA, hbf, HXF, f1, rf⟩ := SlI.at_ HF.out hlt
        obtain ⟨bt, ot, xt, eC, hbt, HXT, t1, rt⟩ := SlI.at_ HT.out hlt2
        subst eA eC
        have F1 := Lib.hid f1
        have T1 := Lib.hid t1
        have f1' := bcell gW hbf f1
        have t1' := bcell gW hbt t1
        have HT0 := Lib.hid (tch_of (v := v) HXF.out HXT.out)
        have kB := k1.call gW
        have c1 := kB.cell' (i := 1) rfl
        have c2 := kB.cell' (i := 2) rfl
        have o1 := hB.cell' (i := 1) rfl
        have o2 := hB.cell' (i := 2) rfl
        obtain ⟨gF, gT, eF, eT, l1, l2, l3, l4⟩ := hO.addr (by simp only [rvK, rowF_length]; omega) (by simp only [rvK, rowF_length]; omega)
        subst eF eT
        have hyes : tch q v k = true → ∃ Y1 Y2, Y1 = (wr.setCell ⟨gF, k, none⟩ (.int .i64 xt)).drew ∧ Y2 = (Y1.setCell ⟨gT, k, none⟩ (.int .i64 xf)).drew ∧ QuivO Y2 wb.heap.size w3.heap.size (.agg #[.int .i64 q.v, .slice (some ⟨gF, 0, none⟩) q.f.length fc, .slice (some ⟨gT, 0, none⟩) q.t.length tc]) (rvK q v (k + 1)) ∧ Chg wb.heap.size w3.heap.size wr Y1 ∧ Chg wb.heap.size w3.heap.size wr Y2 ∧ (∃ u, wr.cell? ⟨gF, k, none⟩ = some u) ∧ wr.frozen? ⟨gF, k, none⟩ = false ∧ (∃ u, Y1.cell? ⟨gT, k, none⟩ = some u) ∧ Y1.frozen? ⟨gT, k, none⟩ = false := by
          intro ht
          have p1 := hO.putF (k := k) (x := xt) rt
          have p1' := p1.1.below (drew_below _)
          have p2 := p1'.putT (k := k) (x := xf) rf
          have z1 := hO.cellF (k := k) (by simp only [rvK, rowF_length]; omega)
          have z2 := p1'.cellT (k := k) (by simp only [rvK, rowF_length]; omega)
          have h1 : Chg wb.heap.size w3.heap.size wr ((wr.setCell ⟨gF, k, none⟩ (.int .i64 xt)).drew) := (chg_set l1 l2).trans (Chg.of_below (drew_below _))
          refine ⟨_, _, rfl, rfl, ?_, h1, ?_, ⟨_, z1.1⟩, z1.2, ⟨_, z2.1⟩, z2.2⟩
          · rw [rvK_yes ht]
            have e1 : q.t.getD k 0 = xt := by rw [List.getD_eq_getElem?_getD, HXT.out]; rfl
            have e2 : q.f.getD k 0 = xf := by rw [List.getD_eq_getElem?_getD, HXF.out]; rfl
            rw [e1, e2]
            exact p2.1.below (drew_below _)
          · exact (h1.trans (chg_set l3 l4)).trans (Chg.of_below (drew_below _))
        have HYES := Lib.hid hyes
        have HNO := Lib.hid (fun h : tch q v k = false => rvK_no (q := q) (v := v) h)
        have HO := Lib.hid hO
        have HB := Lib.hid hB
        have GW := Lib.hid gW
        have gws := gW.size
        clear f1 t1 hyes hO hB gW kB HXF HXT
        have hne1 : gF ≠ w3.heap.size := by omega
        have hne2 : gT ≠ w3.heap.size := by omega
        by_cases h1 : xf = v
        · have hd : (xf == v) = true := by rw [h1]; exact beq_self_eq_true v
          have htc : tch q v k = true := by rw [HT0.out, h1]; simp
          obtain ⟨Y1, Y2, eY1, eY2, hOY, hcY1, hcY2, ⟨u1, z1⟩, z2, ⟨u2, z3⟩, z4⟩ := HYES.out htc
          clear HT0 HYES HNO h1 htc
          have hmo : Try.prog.follows .mixedOrders = true := by kernel_rfl
          have HOY := Lib.hid hOY
          have HCY1 := Lib.hid hcY1
          have HCY2 := Lib.hid hcY2
          have Z3 := Lib.hid z3
          have Z4 := Lib.hid z4
          have EY2 := Lib.hid eY2
          have gb1 := hcY1.below (B := W.heap.size) (by omega) (by omega)
          have kb1 := Lib.hid (k1.call (GW.out.trans gb1))
          have ko1 := Lib.hid (HB.out.chg hcY1 (.inr (Nat.le_refl _)))
          have F2 := Lib.hid (bcell (GW.out.trans gb1) hbf F1.out)
          have T2 := Lib.hid (bcell (GW.out.trans gb1) hbt T1.out)
          clear hOY hcY1 hcY2 z3 z4 eY2 gb1
          go_wp2_with fail
          go_region_o
          rw [← eY1]
          clear eY1 z1 z2 c1 c2 o1 o2 f1' t1'
          have c1 := kb1.out.cell' (i := 1) rfl
          have c2 := kb1.out.cell' (i := 2) rfl
          have o1 := ko1.out.cell' (i := 1) rfl
          have o2 := ko1.out.cell' (i := 2) rfl
          have z3 := Z3.out
          have z4 := Z4.out
          have f2' := F2.out
          have t2' := T2.out
          go_wp2_with fail
          go_region_o
          rw [← EY2.out]
          clear z3 z4 c1 c2 o1 o2 f2' t2'
          have hsY := HCY2.out.size
          have HBY := Lib.hid (HB.out.chg HCY2.out (.inr (Nat.le_refl _)))
          have GWY := Lib.hid (GW.out.trans (HCY2.out.below (B := W.heap.size) (by omega) (by omega)))
          go_wp2
          go_roundw
          case rel => exact ⟨k + 1, by omega, by go_num, GWY.out, HBY.out, HOY.out, by omega⟩
          case measure => simp [intOf]; omega
        · have hd : (xf == v) = false := by rw [beq_eq_false_iff_ne]; exact h1
          by_cases h2 : xt = v
          · have hd2 : (xt == v) = true := by rw [h2]; exact beq_self_eq_true v
            have htc : tch q v k = true := by rw [HT0.out, h2]; simp
            obtain ⟨Y1, Y2, eY1, eY2, hOY, hcY1, hcY2, ⟨u1, z1⟩, z2, ⟨u2, z3⟩, z4⟩ := HYES.out htc
            clear HT0 HYES HNO h1 h2 htc
            have hmo : Try.prog.follows .mixedOrders = true := by kernel_rfl
            have HOY := Lib.hid hOY
            have HCY1 := Lib.hid hcY1
            have HCY2 := Lib.hid hcY2
            have Z3 := Lib.hid z3
            have Z4 := Lib.hid z4
            have EY2 := Lib.hid eY2
            have gb1 := hcY1.below (B := W.heap.size) (by omega) (by omega)
            have kb1 := Lib.hid (k1.call (GW.out.trans gb1))
            have ko1 := Lib.hid (HB.out.chg hcY1 (.inr (Nat.le_refl _)))
            have F2 := Lib.hid (bcell (GW.out.trans gb1) hbf F1.out)
            have T2 := Lib.hid (bcell (GW.out.trans gb1) hbt T1.out)
            clear hOY hcY1 hcY2 z3 z4 eY2 gb1
            go_wp2_with fail
            go_region_o
            rw [← eY1]
            clear eY1 z1 z2 c1 c2 o1 o2 f1' t1'
            have c1 := kb1.out.cell' (i := 1) rfl
            have c2 := kb1.out.cell' (i := 2) rfl
            have o1 := ko1.out.cell' (i := 1) rfl
            have o2 := ko1.out.cell' (i := 2) rfl
            have z3 := Z3.out
            have z4 := Z4.out
            have f2' := F2.out
            have t2' := T2.out
            go_wp2_with fail
            go_region_o
            rw [← EY2.out]
            clear z3 z4 c1 c2 o1 o2 f2' t2'
            have hsY := HCY2.out.size
            have HBY := Lib.hid (HB.out.chg HCY2.out (.inr (Nat.le_refl _)))
            have GWY := Lib.hid (GW.out.trans (HCY2.out.below (B := W.heap.size) (by omega) (by omega)))
            go_wp2
            go_roundw
            case rel => exact ⟨k + 1, by omega, by go_num, GWY.out, HBY.out, HOY.out, by omega⟩
            case measure => simp [intOf]; omega
          · have hd2 : (xt == v) = false := by rw [beq_eq_false_iff_ne]; exact h2
            have HN := Lib.hid (HNO.out (by rw [HT0.out]; simp [h1, h2]))
            clear HT0 HYES HNO h1 h2
            go_wp2
            go_roundw
            case rel => exact ⟨k + 1, by omega, by go_num, GW.out, HB.out, by rw [HN.out]; exact HO.out, hs⟩
            case measure => simp [intOf]; omega
      · obtain rfl : k = q.f.length := by omega
        have kw := k1.call gW
        have c1 := kw.cell' (i := 1) rfl
        clear kw
        have gf := g0.trans (gW.mono g0.size)
        have kz := k2.call gW
        have fr := kz.frozen
        have s0 := kz.cell' (i := 0) rfl
        have s1 := kz.cell' (i := 1) rfl
        have s2 := kz.cell' (i := 2) rfl
        have r0 := hB.cell' (i := 0) rfl
        have r1 := hB.cell' (i := 1) rfl
        have r2 := hB.cell' (i := 2) rfl
        have sz := SZ.out
        have hc := chg3 wr (w0.heap.size + 1) (.int .i64 q.v) (.slice FA q.f.length fc) (.slice TA q.t.length tc)
        have OF := Lib.hid ((hO.chg hc (.inr (by omega))).wider (lo' := w0.heap.size) (hi' := wr.heap.size) (by omega) (by omega))
        have GF := Lib.hid (gf.trans (hc.below (by omega) gf.size))
        clear hO hB kz gf hc
        go_wp2
        exact bodyPost_ret (v := .tuple #[.agg #[.int .i64 q.v, .slice FA q.f.length fc, .slice TA q.t.length tc], .bool true]) (by simp [results, go_sem, s0, s1, s2]) rfl ⟨_, rfl, by have := OF.out.wider (Nat.le_refl _) (Nat.le_refl _); simpa [rvQ] using this, GF.out⟩
end Go.Proofs.Ytcmlflppndfdcaa

/- The reference's l4Kernel. -/
namespace Go.Proofs.Ytcmlflppndfdcaa
set_option linter.unusedVariables false
set_option linter.unusedSimpArgs false
open Go.RowKit

set_option maxHeartbeats 6400000 in
set_option maxRecDepth 100000 in
theorem l4Kernel_any (p : Int) (u : Value) (r c : Nat) (f : Nat → Nat → Int) (w0 : World) (hp : isFld p = true) (hr : r ≤ 1000) (hc : c ≤ 1000) (hu : MxR w0 w0.heap.size u (mxF r c f)) (hf : InF p r c f) :
    Calls Try.prog 62 #[.int .i64 p, u] w0 fun e w' => ∃ v, e = .returned v ∧ IntssO w' w0.heap.size w'.heap.size v (kerR p r c f) ∧ Below w0.heap.size w0 w' := by
  have hpr := isFld_r hp
  have hu' := hu
  obtain ⟨UA, uc, rfl⟩ := hu.form
  simp only [mxF] at hu hu' ⊢
  rw [flat_length] at hu hu' ⊢
  obtain ⟨UL, hUL⟩ : ∃ n, r * c = n := ⟨_, rfl⟩
  rw [hUL] at hu hu' ⊢
  have HUL := Lib.hid hUL
  clear hUL hu
  obtain ⟨W, hW⟩ : ∃ W, W = w0.alloc (.cells #[.int .i64 r, .int .i64 c, .slice UA UL uc] 84) := ⟨_, rfl⟩
  have g0 : Below w0.heap.size w0 W := by rw [hW]; exact below_alloc _ _
  have kB : Blk W w0.heap.size 84 #[.int .i64 r, .int .i64 c, .slice UA UL uc] := by rw [hW]; exact Blk.new _ _ _
  have HU := Lib.hid (MxR.next g0 hu')
  have HF := Lib.hid hf
  have HP := Lib.hid hp
  have sW : W.heap.size = w0.heap.size + 1 := by rw [hW]; simp
  have SW := Lib.hid sW
  have c0 := kB.cell' (i := 0) rfl
  have c1 := kB.cell' (i := 1) rfl
  have c2 := kB.cell' (i := 2) rfl
  clear hu' hf hp sW
  go_enter Try.func62, Try.ntmps62
  go_wp2_with fail
  rw [← hW]; clear hW
  refine (l4Reduce_any p _ r c f _ HP.out hr hc HU.out HF.out).mono ?_; rintro e w1 ⟨m, v, rfl, hM, hI, hb1⟩
  have HPS := Lib.hid (rd_ps HP.out hpr.1 HF.out)
  have HG := Lib.hid (inF_to hpr.1 HF.out c)
  have hpl := rdTo_len p r f c
  have HK := Lib.hid (show kerR p r c f = kerM p c (rdTo p r f c).1 (rdTo p r f c).2 (freeV (rdTo p r f c).2 c) from rfl)
  obtain ⟨g, hg⟩ : ∃ g, (rdTo p r f c).1 = g := ⟨_, rfl⟩
  obtain ⟨ps, hps⟩ : ∃ ps, (rdTo p r f c).2 = ps := ⟨_, rfl⟩
  rw [hg] at hM HG HK
  rw [hps] at hI HPS hpl HK
  clear hg hps
  obtain ⟨MA, mc, em⟩ := hM.form
  obtain ⟨PA, pc, ev⟩ := hI.form
  subst em ev
  simp only [mxF] at hM ⊢
  rw [flat_length] at hM ⊢
  rw [HUL.out] at hM ⊢
  obtain ⟨pn, hpn⟩ : ∃ n, ps.length = n := ⟨_, rfl⟩
  rw [hpn] at hI hpl ⊢
  have HPN := Lib.hid hpn
  clear hpn c0 c1 c2
  obtain ⟨W2, hW2⟩ : ∃ u, w1.alloc (.cells #[.int .i64 r, .int .i64 c, .slice MA UL mc] 84) = u := ⟨_, rfl⟩
  have ga : Below w1.heap.size w1 W2 := by rw [← hW2]; exact below_alloc _ _
  have kM : Blk W2 w1.heap.size 84 #[.int .i64 r, .int .i64 c, .slice MA UL mc] := by rw [← hW2]; exact Blk.new _ _ _
  have g12 := bthen hb1 ga
  have s12 := g12.size
  have sa : W2.heap.size = w1.heap.size + 1 := by rw [← hW2]; simp
  obtain ⟨W3, hW3⟩ : ∃ u, W2.alloc (.cells #[] 22) = u := ⟨_, rfl⟩
  have gb : Below W2.heap.size W2 W3 := by rw [← hW3]; exact below_alloc _ _
  have hO3 : IntssO W3 W2.heap.size W3.heap.size (.slice (some ⟨W2.heap.size, 0, none⟩) 0 0) (kerM p c g ps (freeV ps 0)) := by rw [← hW3]; exact IntssO.made0 _ (Nat.le_refl _)
  have HM2 := Lib.hid (hM.below ga).rd
  have HI2 := Lib.hid (hI.below ga).rd
  have G2 := Lib.hid (bthen g0 g12)
  have sb := gb.size
  have lM := kM.lt
  clear hM hI ga hb1 g12 g0 kB
  go_wp2
  clear hW2 hW3
  go_loopw [7, 8] (fun out i wr => ∃ (k : Nat) (OA : Option Addr) (on oc : Nat), k ≤ c ∧ i = .int .i64 k ∧ out = .slice OA on oc ∧ IntssO wr W2.heap.size wr.heap.size (.slice OA on oc) (kerM p c g ps (freeV ps k)) ∧ Below W2.heap.size W2 wr) (fun _ i _ => c - (intOf i).toNat)
  case atStart => exact ⟨0, _, _, _, Nat.zero_le _, rfl, rfl, by have := hO3; rw [sa] at this ⊢; exact this, gb⟩
  case round =>
    clear hO3 gb
    obtain ⟨k, OA, on, oc, hk, rfl, rfl, hO, hb⟩ := hrel
    have s3 := hb.size
    have kMr := kM.call hb
    have m1 := kMr.cell' (i := 1) rfl
    by_cases hlt : k < c
    · have HIr := Lib.hid (SlI.next hb HI2.out)
      have HB := Lib.hid hb
      have HO := Lib.hid hO
      clear hb hO kMr
      go_wp2_with fail
      refine (l4Has_any _ ps k _ HIr.out).mono ?_; rintro e w4 ⟨rfl, hb4⟩
      have hB4 := HB.out.trans (hb4.mono s3)
      have hO4 := (HO.out.below hb4).wider (Nat.le_refl _) hb4.size
      have s4 := hB4.size
      rcases hd : decide ((k : Int) ∈ ps) with _ | _
      · have HFY := Lib.hid (freeV_yes hd)
        have kM4 := kM.call hB4
        have m1' := kM4.cell' (i := 1) rfl
        have hmkX := run_mkI w4 (n := c) (by omega)
        obtain ⟨X, hX⟩ : ∃ u, w4.alloc (.cells (mkCells (.int .i64 0) c) 3) = u := ⟨_, rfl⟩
        have bX : Below w4.heap.size w4 X := by rw [← hX]; exact below_alloc _ _
        have rX : IntsO X w4.heap.size X.heap.size (.slice (some ⟨w4.heap.size, 0, none⟩) c c) (List.replicate c 0) := by rw [← hX]; exact IntsO.of_own (OwnI.made0 (Nat.le_refl _) (by omega))
        rw [hX] at hmkX
        obtain ⟨G, hG⟩ : ∃ z, w4.heap.size = z := ⟨_, rfl⟩
        have cX := (rX.1.cellG (j := k) (by simp; omega)).1
        have fX := rX.1.frozenG k
        have rY := rX.put (j := k) (x := 1) (by unfold I64; omega)
        rw [kvG_0 p g ps] at rY
        obtain ⟨Y, hY⟩ : ∃ u, X.setCell ⟨w4.heap.size, k, none⟩ (.int .i64 1) = u := ⟨_, rfl⟩
        have hcY : Chg G (G + 1) X Y := by rw [← hY, hG]; exact chg_set (Nat.le_refl _) (Nat.lt_succ_self _)
        have sX : X.heap.size = G + 1 := by rw [← hX, ← hG]; simp
        have hs3G : W2.heap.size ≤ G := by omega
        have bY : Below w4.heap.size w4 Y := bX.trans (hcY.below (by omega) (by omega))
        rw [hY, hG, sX] at rY
        have BY := Lib.hid (hB4.trans (bY.mono (by omega)))
        have HO := Lib.hid ((hO4.below bX).chg hcY (.inl (by omega)))
        rw [hG] at HO
        have sY : G + 1 ≤ Y.heap.size := by have := hcY.size; omega
        have RY := Lib.hid rY
        clear rX rY bX hcY bY sX hO4 hB4 hb4 kM4 hd HIr
        rw [hG] at hmkX cX fX hY
        go_wp2
        clear hX hY cX fX hmkX m1 m1' hG
        go_loopw [10] (fun i wr => ∃ j : Nat, j ≤ pn ∧ i = .int .i64 j ∧ Below W2.heap.size W2 wr ∧ IntssO wr W2.heap.size G (.slice OA on oc) (kerM p c g ps (freeV ps k)) ∧ IntsO wr G (G + 1) (.slice (some ⟨G, 0, none⟩) c c) (rowF c (kvG p g ps k j)) ∧ G + 1 ≤ wr.heap.size) (fun i _ => pn - (intOf i).toNat)
        case atStart => exact ⟨0, Nat.zero_le _, rfl, BY.out, HO.out, RY.out, sY⟩
        case round =>
          clear BY HO RY sY s4 s3
          obtain ⟨j, hj, rfl, hb, hO, hR, hs⟩ := hrel
          have s4 := hb.size
          by_cases hjl : j < pn
          · obtain ⟨bp, op, x, ep, hbp, HXP, p1, _⟩ := SlI.atM (k := j) HI2.out HPN.out hjl
            subst ep
            obtain ⟨pk, rfl, hpk⟩ := HPS.out j x HXP.out
            have hgr := HG.out j k (by omega) hlt
            have hgm := emod_rng (p := p) (x := - g j k) hpr.1
            obtain ⟨P, hP⟩ : ∃ P, P = j * c := ⟨_, rfl⟩
            have hPw := Lib.hid (ixP (i := j) (k := k) (by omega) hlt hr hc hP)
            obtain ⟨d1, d2, d3⟩ := rowP (i := j) (k := k) (r := r) (c := c) (by omega) hlt hr hc hP
            rw [HUL.out] at d1 d2 d3
            obtain ⟨gv, hgv⟩ : ∃ z, g j k = z := ⟨_, rfl⟩
            have hU : (flat r c g)[P + k]? = some gv := by rw [hP, ← hgv]; exact flat_get g (by omega) hlt
            obtain ⟨_, _, ema, hMs, _, _, hml⟩ := HM2.out.open_
            simp only [Value.agg.injEq, Array.mk.injEq, List.cons.injEq, and_true, true_and, Value.slice.injEq] at ema
            obtain ⟨eMA, eUL, emc⟩ := ema
            subst eMA emc
            rw [← eUL] at hMs
            clear eUL
            obtain ⟨bm, om, x', em, hbm, HXM, x1, _⟩ := SlI.atM (k := P + k) hMs (by simp only [flat_length]; exact HUL.out) d1
            subst em
            have hx' := HXM.out
            simp only at hx'
            rw [hU] at hx'
            injection hx' with hx'
            subst hx'
            rw [hgv] at hgr hgm
            have hput := kvG_put (p := p) (g := g) (k := k) (c := c) HXP.out
            rw [hgv] at hput
            have HPUT := Lib.hid hput
            have HB := Lib.hid hb
            have HO := Lib.hid hO
            have HR := Lib.hid hR
            have P1 := Lib.hid p1
            have X1 := Lib.hid x1
            have hgI : Hid (I64 (- gv)) := by show _ ∧ _; omega
            have hgI2 : Hid (I64 ((- gv) % p)) := by show _ ∧ _; omega
            clear hb hO hR p1 x1 hput hMs hml hU HXM hgv hP
            go_wp2
            refine wp_region_net (by kernel_rfl) [.eq (.slice (some ⟨G, 0, none⟩) c c), .eq (.slice (some ⟨bp, op, none⟩) pn pc), .eq (.int .i64 j), .eq (.pointer (some ⟨bp, op + j, none⟩)), .eq (.int .i64 pk), .eq (.int .i64 p), .eq (.pointer (some ⟨w1.heap.size, 2, none⟩)), .eq (.slice (some ⟨bm, om, none⟩) UL mc), .eq (.int .i64 j), .eq (.pointer (some ⟨w1.heap.size, 1, none⟩)), .eq (.int .i64 c), .eq (.int .i64 P), .eq (.int .i64 k), .eq (.int .i64 ((P : Int) + k)), .eq (.pointer (some ⟨bm, om + (P + k), none⟩)), .eq (.int .i64 gv), .eq (.int .i64 (- gv)), .eq (.int .i64 ((- gv) % p)), .eq (.pointer (some ⟨G, pk, none⟩))] [[], [], [], [1, 2], [1, 2, 3], [], [], [6], [], [], [9], [8, 9, 10], [], [8, 9, 10, 11, 12], [6, 7, 8, 9, 10, 11, 12, 13], [6, 7, 8, 9, 10, 11, 12, 13, 14], [6, 7, 8, 9, 10, 11, 12, 13, 14, 15], [5, 6, 7, 8, 9, 10, 11, 12, 13, 14, 15, 16], [0, 1, 2, 3, 4, 5, 6, 7, 8, 9, 10, 11, 12, 13, 14, 15, 16, 17], [0, 1, 2, 3, 4, 5, 6, 7, 8, 9, 10, 11, 12, 13, 14, 15, 16, 17, 18]] 19 (by kernel_rfl) ⟨trivial, trivial, trivial, trivial, trivial, trivial, trivial, trivial, trivial, trivial, trivial, trivial, trivial, trivial, trivial, trivial, trivial, trivial, trivial, trivial⟩ ⟨?_, ?_, ?_, ?_, ?_, ?_, ?_, ?_, ?_, ?_, ?_, ?_, ?_, ?_, ?_, ?_, ?_, ?_, ?_, trivial⟩ ?_
            · intro x w hb hk Q' hQ
              clear hk
              simp only [netAct, dstAt, List.getElem?_toArray, List.getElem?_cons_zero, List.getElem?_cons_succ, Option.bind_some, Act.put, List.setIfInBounds_toArray, List.set_cons_zero, List.set_cons_succ] at hQ ⊢
              go_wp2
              exact hQ (.slice (some ⟨G, 0, none⟩) c c) _ (Below.refl _ _) rfl
            · intro x w hb hk Q' hQ
              clear hk
              simp only [netAct, dstAt, List.getElem?_toArray, List.getElem?_cons_zero, List.getElem?_cons_succ, Option.bind_some, Act.put, List.setIfInBounds_toArray, List.set_cons_zero, List.set_cons_succ] at hQ ⊢
              go_wp2
              exact hQ (.slice (some ⟨bp, op, none⟩) pn pc) _ (Below.refl _ _) rfl
            · intro x w hb hk Q' hQ
              clear hk
              simp only [netAct, dstAt, List.getElem?_toArray, List.getElem?_cons_zero, List.getElem?_cons_succ, Option.bind_some, Act.put, List.setIfInBounds_toArray, List.set_cons_zero, List.set_cons_succ] at hQ ⊢
              go_wp2
              exact hQ (.int .i64 j) _ (Below.refl _ _) rfl
            · intro x w hb hk Q' hQ
              have h1 : x.v 1 = .slice (some ⟨bp, op, none⟩) pn pc := (hk 1 (by decide)).1
              have h2 : x.v 2 = .int .i64 j := (hk 2 (by decide)).1
              clear hk
              simp only [netAct, dstAt, List.getElem?_toArray, List.getElem?_cons_zero, List.getElem?_cons_succ, Option.bind_some, Act.put, List.setIfInBounds_toArray, List.set_cons_zero, List.set_cons_succ] at hQ ⊢
              simp only [h1, h2] at hQ ⊢
              clear h1 h2
              go_wp2
              exact hQ (.pointer (some ⟨bp, op + j, none⟩)) _ (Below.refl _ _) rfl
            · intro x w hb hk Q' hQ
              have h3 : x.v 3 = .pointer (some ⟨bp, op + j, none⟩) := (hk 3 (by decide)).1
              clear hk
              simp only [netAct, dstAt, List.getElem?_toArray, List.getElem?_cons_zero, List.getElem?_cons_succ, Option.bind_some, Act.put, List.setIfInBounds_toArray, List.set_cons_zero, List.set_cons_succ] at hQ ⊢
              simp only [h3] at hQ ⊢
              clear h3
              have z := bcell (HB.out.trans (hb.mono s4)) hbp P1.out
              go_wp2
              exact hQ (.int .i64 pk) _ (Below.refl _ _) rfl
            · intro x w hb hk Q' hQ
              clear hk
              simp only [netAct, dstAt, List.getElem?_toArray, List.getElem?_cons_zero, List.getElem?_cons_succ, Option.bind_some, Act.put, List.setIfInBounds_toArray, List.set_cons_zero, List.set_cons_succ] at hQ ⊢
              go_wp2
              exact hQ (.int .i64 p) _ (Below.refl _ _) rfl
            · intro x w hb hk Q' hQ
              clear hk
              simp only [netAct, dstAt, List.getElem?_toArray, List.getElem?_cons_zero, List.getElem?_cons_succ, Option.bind_some, Act.put, List.setIfInBounds_toArray, List.set_cons_zero, List.set_cons_succ] at hQ ⊢
              go_wp2
              exact hQ (.pointer (some ⟨w1.heap.size, 2, none⟩)) _ (Below.refl _ _) rfl
            · intro x w hb hk Q' hQ
              have h6 : x.v 6 = .pointer (some ⟨w1.heap.size, 2, none⟩) := (hk 6 (by decide)).1
              clear hk
              simp only [netAct, dstAt, List.getElem?_toArray, List.getElem?_cons_zero, List.getElem?_cons_succ, Option.bind_some, Act.put, List.setIfInBounds_toArray, List.set_cons_zero, List.set_cons_succ] at hQ ⊢
              simp only [h6] at hQ ⊢
              clear h6
              have z := (kM.call (HB.out.trans (hb.mono s4))).cell' (i := 2) rfl
              go_wp2
              exact hQ (.slice (some ⟨bm, om, none⟩) UL mc) _ (Below.refl _ _) rfl
            · intro x w hb hk Q' hQ
              clear hk
              simp only [netAct, dstAt, List.getElem?_toArray, List.getElem?_cons_zero, List.getElem?_cons_succ, Option.bind_some, Act.put, List.setIfInBounds_toArray, List.set_cons_zero, List.set_cons_succ] at hQ ⊢
              go_wp2
              exact hQ (.int .i64 j) _ (Below.refl _ _) rfl
            · intro x w hb hk Q' hQ
              clear hk
              simp only [netAct, dstAt, List.getElem?_toArray, List.getElem?_cons_zero, List.getElem?_cons_succ, Option.bind_some, Act.put, List.setIfInBounds_toArray, List.set_cons_zero, List.set_cons_succ] at hQ ⊢
              go_wp2
              exact hQ (.pointer (some ⟨w1.heap.size, 1, none⟩)) _ (Below.refl _ _) rfl
            · intro x w hb hk Q' hQ
              have h9 : x.v 9 = .pointer (some ⟨w1.heap.size, 1, none⟩) := (hk 9 (by decide)).1
              clear hk
              simp only [netAct, dstAt, List.getElem?_toArray, List.getElem?_cons_zero, List.getElem?_cons_succ, Option.bind_some, Act.put, List.setIfInBounds_toArray, List.set_cons_zero, List.set_cons_succ] at hQ ⊢
              simp only [h9] at hQ ⊢
              clear h9
              have z := (kM.call (HB.out.trans (hb.mono s4))).cell' (i := 1) rfl
              go_wp2
              exact hQ (.int .i64 c) _ (Below.refl _ _) rfl
            · intro x w hb hk Q' hQ
              have h8 : x.v 8 = .int .i64 j := (hk 8 (by decide)).1
              have h10 : x.v 10 = .int .i64 c := (hk 10 (by decide)).1
              clear hk
              simp only [netAct, dstAt, List.getElem?_toArray, List.getElem?_cons_zero, List.getElem?_cons_succ, Option.bind_some, Act.put, List.setIfInBounds_toArray, List.set_cons_zero, List.set_cons_succ] at hQ ⊢
              simp only [h8, h10] at hQ ⊢
              clear h8 h10
              go_wp2
              rw [hPw.out]
              exact hQ (.int .i64 P) _ (Below.refl _ _) rfl
            · intro x w hb hk Q' hQ
              clear hk
              simp only [netAct, dstAt, List.getElem?_toArray, List.getElem?_cons_zero, List.getElem?_cons_succ, Option.bind_some, Act.put, List.setIfInBounds_toArray, List.set_cons_zero, List.set_cons_succ] at hQ ⊢
              go_wp2
              exact hQ (.int .i64 k) _ (Below.refl _ _) rfl
            · intro x w hb hk Q' hQ
              have h11 : x.v 11 = .int .i64 P := (hk 11 (by decide)).1
              have h12 : x.v 12 = .int .i64 k := (hk 12 (by decide)).1
              clear hk
              simp only [netAct, dstAt, List.getElem?_toArray, List.getElem?_cons_zero, List.getElem?_cons_succ, Option.bind_some, Act.put, List.setIfInBounds_toArray, List.set_cons_zero, List.set_cons_succ] at hQ ⊢
              simp only [h11, h12] at hQ ⊢
              clear h11 h12
              go_wp2
              exact hQ (.int .i64 ((P : Int) + k)) _ (Below.refl _ _) rfl
            · intro x w hb hk Q' hQ
              have h7 : x.v 7 = .slice (some ⟨bm, om, none⟩) UL mc := (hk 7 (by decide)).1
              have h13 : x.v 13 = .int .i64 ((P : Int) + k) := (hk 13 (by decide)).1
              clear hk
              simp only [netAct, dstAt, List.getElem?_toArray, List.getElem?_cons_zero, List.getElem?_cons_succ, Option.bind_some, Act.put, List.setIfInBounds_toArray, List.set_cons_zero, List.set_cons_succ] at hQ ⊢
              simp only [h7, h13] at hQ ⊢
              clear h7 h13
              go_wp2
              exact hQ (.pointer (some ⟨bm, om + (P + k), none⟩)) _ (Below.refl _ _) rfl
            · intro x w hb hk Q' hQ
              have h14 : x.v 14 = .pointer (some ⟨bm, om + (P + k), none⟩) := (hk 14 (by decide)).1
              clear hk
              simp only [netAct, dstAt, List.getElem?_toArray, List.getElem?_cons_zero, List.getElem?_cons_succ, Option.bind_some, Act.put, List.setIfInBounds_toArray, List.set_cons_zero, List.set_cons_succ] at hQ ⊢
              simp only [h14] at hQ ⊢
              clear h14
              have z := bcell (HB.out.trans (hb.mono s4)) hbm X1.out
              go_wp2
              exact hQ (.int .i64 gv) _ (Below.refl _ _) rfl
            · intro x w hb hk Q' hQ
              have h15 : x.v 15 = .int .i64 gv := (hk 15 (by decide)).1
              clear hk
              simp only [netAct, dstAt, List.getElem?_toArray, List.getElem?_cons_zero, List.getElem?_cons_succ, Option.bind_some, Act.put, List.setIfInBounds_toArray, List.set_cons_zero, List.set_cons_succ] at hQ ⊢
              simp only [h15] at hQ ⊢
              clear h15
              go_wp2
              exact hQ (.int .i64 (- gv)) _ (Below.refl _ _) rfl
            · intro x w hb hk Q' hQ
              have h5 : x.v 5 = .int .i64 p := (hk 5 (by decide)).1
              have h16 : x.v 16 = .int .i64 (- gv) := (hk 16 (by decide)).1
              clear hk
              simp only [netAct, dstAt, List.getElem?_toArray, List.getElem?_cons_zero, List.getElem?_cons_succ, Option.bind_some, Act.put, List.setIfInBounds_toArray, List.set_cons_zero, List.set_cons_succ] at hQ ⊢
              simp only [h5, h16] at hQ ⊢
              clear h5 h16
              go_wp2_with fail
              refine (l2Mod_any p (- gv) _ hpr hgI.out).mono ?_; rintro e w5 ⟨rfl, hww⟩; replace hww := hww.symm; subst hww
              go_wp2
              exact hQ (.int .i64 ((- gv) % p)) _ (Below.refl _ _) rfl
            · intro x w hb hk Q' hQ
              have h0 : x.v 0 = .slice (some ⟨G, 0, none⟩) c c := (hk 0 (by decide)).1
              have h4 : x.v 4 = .int .i64 pk := (hk 4 (by decide)).1
              clear hk
              simp only [netAct, dstAt, List.getElem?_toArray, List.getElem?_cons_zero, List.getElem?_cons_succ, Option.bind_some, Act.put, List.setIfInBounds_toArray, List.set_cons_zero, List.set_cons_succ] at hQ ⊢
              simp only [h0, h4] at hQ ⊢
              clear h0 h4
              go_wp2
              exact hQ (.pointer (some ⟨G, pk, none⟩)) _ (Below.refl _ _) rfl
            · intro x w hb hk hiv hdj
              have h0 : x.v 0 = .slice (some ⟨G, 0, none⟩) c c := hk 0 (by decide)
              have h1 : x.v 1 = .slice (some ⟨bp, op, none⟩) pn pc := hk 1 (by decide)
              have h2 : x.v 2 = .int .i64 j := hk 2 (by decide)
              have h3 : x.v 3 = .pointer (some ⟨bp, op + j, none⟩) := hk 3 (by decide)
              have h4 : x.v 4 = .int .i64 pk := hk 4 (by decide)
              have h5 : x.v 5 = .int .i64 p := hk 5 (by decide)
              have h6 : x.v 6 = .pointer (some ⟨w1.heap.size, 2, none⟩) := hk 6 (by decide)
              have h7 : x.v 7 = .slice (some ⟨bm, om, none⟩) UL mc := hk 7 (by decide)
              have h8 : x.v 8 = .int .i64 j := hk 8 (by decide)
              have h9 : x.v 9 = .pointer (some ⟨w1.heap.size, 1, none⟩) := hk 9 (by decide)
              have h10 : x.v 10 = .int .i64 c := hk 10 (by decide)
              have h11 : x.v 11 = .int .i64 P := hk 11 (by decide)
              have h12 : x.v 12 = .int .i64 k := hk 12 (by decide)
              have h13 : x.v 13 = .int .i64 ((P : Int) + k) := hk 13 (by decide)
              have h14 : x.v 14 = .pointer (some ⟨bm, om + (P + k), none⟩) := hk 14 (by decide)
              have h15 : x.v 15 = .int .i64 gv := hk 15 (by decide)
              have h16 : x.v 16 = .int .i64 (- gv) := hk 16 (by decide)
              have h17 : x.v 17 = .int .i64 ((- gv) % p) := hk 17 (by decide)
              have h18 : x.v 18 = .pointer (some ⟨G, pk, none⟩) := hk 18 (by decide)
              clear hk
              simp only [netAct, dstAt, List.getElem?_toArray, List.getElem?_cons_zero, List.getElem?_cons_succ, Option.bind_some, Act.put, List.setIfInBounds_toArray, List.set_cons_zero, List.set_cons_succ]
              simp only [List.drop_succ_cons, List.drop_zero, h0, h1, h2, h3, h4, h5, h6, h7, h8, h9, h10, h11, h12, h13, h14, h15, h16, h17, h18]
              clear h0 h1 h2 h3 h4 h5 h6 h7 h8 h9 h10 h11 h12 h13 h14 h15 h16 h17 h18
              have hR6 := HR.out.below hb
              have cX := (hR6.1.cellG (j := pk) (by rw [rowF_length]; exact hpk)).1
              have fX := hR6.1.frozenG pk
              have rY := hR6.put (j := pk) (x := (- gv) % p) hgI2.out
              rw [HPUT.out] at rY
              have RY := Lib.hid rY
              obtain ⟨Y, hY⟩ : ∃ u, w.setCell ⟨G, pk, none⟩ (.int .i64 ((- gv) % p)) = u := ⟨_, rfl⟩
              have hcY : Chg G (G + 1) w Y := by rw [← hY]; exact chg_set (Nat.le_refl _) (Nat.lt_succ_self _)
              have s6 := hb.size
              have sY := hcY.size
              rw [hY] at RY
              have BY := Lib.hid ((HB.out.trans (hb.mono s4)).trans (hcY.below hs3G (by omega)))
              have HO6 := Lib.hid ((HO.out.below hb).chg hcY (.inl (by omega)))
              clear rY hcY hR6 hiv hdj
              go_wp2
              clear hY cX fX
              go_roundw
              case rel => exact ⟨j + 1, by omega, by go_num, BY.out, HO6.out, RY.out, by omega⟩
              case measure => simp [intOf]; omega
          · obtain rfl : j = pn := by omega
            rw [← HPN.out] at hR
            have hn1 := kerM_snoc p c g ps (freeV ps k) k
            rw [← HFY.out] at hn1
            have HN1 := Lib.hid hn1
            have hfl := freeV_length ps k
            obtain ⟨Z, hZ⟩ : ∃ Z, wr.alloc (.cells #[.slice (some ⟨G, 0, none⟩) c c] 22) = Z := ⟨_, rfl⟩
            obtain ⟨gz, hgz⟩ : ∃ z, wr.heap.size = z := ⟨_, rfl⟩
            have bZ : Below wr.heap.size wr Z := by rw [← hZ]; exact below_alloc _ _
            have kZ : Blk Z gz 22 #[.slice (some ⟨G, 0, none⟩) c c] := by rw [← hZ, ← hgz]; exact Blk.new _ _ _
            have HOZ := Lib.hid (hO.below bZ)
            have HRZ := Lib.hid (hR.below bZ)
            have HBZ := Lib.hid (hb.trans (bZ.mono s4))
            have sZ := bZ.size
            have C0 := Lib.hid (kZ.cell' (i := 0) rfl)
            clear hO hR hb hn1 bZ kZ
            (go_wp2_with (at_builtin; refine Hold.stop ?_)); unfold Hold
            clear hZ hgz
            refine wpList_appR (by rfl) (.tmp 58) (.tmp 60) (by rfl) W2.heap.size G G (G + 1) _ _ _ (by rfl) HOZ.out (some ⟨gz, 0, none⟩) 1 _ (by rfl) ⟨_, _, rfl, C0.out⟩ HRZ.out (by omega) (by omega) (by omega) (by rw [kerM_length]; omega) (by omega) (by omega) ?_
            intro v' w' h1 h2 h3
            rw [← HN1.out] at h1
            obtain ⟨A', c', ev', _⟩ := h1.form2
            subst ev'
            have H1 := Lib.hid h1
            have H2 := Lib.hid (HBZ.out.trans h2)
            clear h1 h2 h3
            go_wp2
            go_roundw
            case rel => exact ⟨k + 1, A', _, c', by omega, by go_num, rfl, H1.out, H2.out⟩
            case measure => simp [intOf]; omega
      · have HFN := Lib.hid (freeV_no hd)
        have HO4 := Lib.hid hO4
        have HB4 := Lib.hid hB4
        clear hd hO4 hB4 hb4 m1
        go_wp2
        go_roundw
        case rel => exact ⟨k + 1, OA, on, oc, by omega, by go_num, rfl, by rw [HFN.out]; exact HO4.out, HB4.out⟩
        case measure => simp [intOf]; omega
    · obtain rfl : k = c := by omega
      have HOF := Lib.hid hO
      have GF := Lib.hid (bthen G2.out hb)
      have sz := SW.out
      have s5 := s12
      clear hO hb
      go_wp2
      go_ret
      exact ⟨_, rfl, by rw [HK.out]; exact HOF.out.wider (by omega) (Nat.le_refl _), GF.out⟩
end Go.Proofs.Ytcmlflppndfdcaa
