/- FnPencils: the law holds for every argument. Part 16 of 18 of the proof: DrY3, DrY4, DrwT, DrwU. No condition. -/
import Derived.Test.YthhjoamgcfiecaaGreatBPencils15
set_option linter.unusedVariables false
set_option linter.unusedSimpArgs false
namespace Go.Proofs.YthhjoamgcfiecaaGreat
open Go.RowKit
theorem RepO.toL {w : World} {lo hi : Nat} {v : Value} {x : Rp} (h : RepO w lo hi v x) : RepL w lo hi v x := by
 obtain ⟨f, t, d, m, vs, e, h1, h2, h3, h4, h5⟩ := h
 exact ⟨f, t, d, m, vs, e, h3.1 (f, x.q.f) (by simp), h3.1 (t, x.q.t) (by simp), h3.1 (d, x.d) (by simp), h1, h2, fun p hp => h3.1 p (by simp only [List.cons_append, List.nil_append, List.mem_cons]; exact .inr (.inr (.inr hp))), h4, h5⟩
theorem RepL.below {w w' : World} {lo hi : Nat} {v : Value} {x : Rp} (h : RepL w lo hi v x) (hb : Below w.heap.size w w') : RepL w' lo hi v x := by
 obtain ⟨f, t, d, m, vs, e, h1, h2, h3, h4, h5, h6, h7, h8⟩ := h
 exact ⟨f, t, d, m, vs, e, h1.below hb, h2.below hb, h3.below hb, h4.below hb, h5, fun p hp => (h6 p hp).below hb, h7, h8⟩
set_option maxHeartbeats 6400000 in
set_option maxRecDepth 100000 in
theorem l26Pencil_any (c : Nat) (w0 : World) (hc : Cur w0 c) :
  Calls Tryz.prog 54 #[.pointer (some ⟨c, 0, none⟩)] w0 fun e w' => AnyP c w0 e w' := by
 have hcl := hc.ltF
 obtain ⟨W, hW⟩ : ∃ W, W = w0.alloc (.cells #[.int .i64 0, .int .i64 0, .slice none 0 0, .slice none 0 0, .slice none 0 0, .slice none 0 0] 31) := ⟨_, rfl⟩
 have g0 : Ck c w0 W := by rw [hW]; exact Ck.of_below (below_alloc _ _)
 have kR : Blk W w0.heap.size 31 #[.int .i64 0, .int .i64 0, .slice none 0 0, .slice none 0 0, .slice none 0 0, .slice none 0 0] := by rw [hW]; exact Blk.new _ _ _
 have sW : W.heap.size = w0.heap.size + 1 := by rw [hW]; simp
 have hcw : w0.heap.size ≠ c := by omega
 have KR := Lib.hid kR
 have G0 := Lib.hid g0
 have HC := Lib.hid (g0.keep hc)
 clear kR hc g0
 go_enter Tryz.func54, Tryz.ntmps54
 go_wp2_with fail
 rw [← hW]; clear hW
 refine (l8Prime_any c _ HC.out).mono ?_; rintro e w1 ⟨p, rfl, hp, hb1⟩
 have HC1 := Lib.hid (hb1.keep HC.out)
 have HB1 := Lib.hid hb1
 have hs1 := hb1.size
 clear hb1 HC
 go_wp2_with fail
 refine (l1Below_any c 6 _ HC1.out ⟨by omega, by omega⟩).mono ?_; rintro e w2 ⟨t, ht, _, rfl, hb2⟩
 have HC2 := Lib.hid (hb2.keep HC1.out)
 have HB2 := Lib.hid (HB1.out.trans hb2)
 have hs2 := hb2.size
 clear hb2 HC1 HB1
 by_cases e0 : t = 0
 ·subst e0
  go_wp2_with fail
  refine (l1Below_any c 4 _ HC2.out ⟨by omega, by omega⟩).mono ?_; rintro e w3 ⟨n, hn, _, rfl, hb3⟩
  have HB3 := Lib.hid (HB2.out.trans hb3)
  have HC3 := Lib.hid (hb3.keep HC2.out)
  have hs3 := hb3.size
  clear hb3 HC2 HB2
  go_wp2_with fail
  refine (specPreprojectivePencil_any p n _ ⟨by omega, by omega⟩ ⟨by omega, by omega⟩).mono ?_; rintro e w4 ⟨r, rfl, hR, hb4⟩
  obtain ⟨lo1, hlo1⟩ : ∃ z, z = w3.heap.size := ⟨_, rfl⟩
  have hL := hR.toL
  rw [← hlo1] at hL
  obtain ⟨x, hx⟩ : ∃ z, (prepP p (n : Int)).1 = z := ⟨_, rfl⟩
  rw [hx] at hL
  clear hx hR
  obtain ⟨A, a, C, cc, E, ee, H, h, rfl⟩ := hL.rd.form
  obtain ⟨P, ⟨V, F, T⟩, D, M⟩ := x
  simp only at hL ⊢
  obtain ⟨nf, hnf⟩ : ∃ z, F.length = z := ⟨_, rfl⟩
  obtain ⟨nt, hnt⟩ : ∃ z, T.length = z := ⟨_, rfl⟩
  obtain ⟨nd, hnd⟩ : ∃ z, D.length = z := ⟨_, rfl⟩
  obtain ⟨nm, hnm⟩ : ∃ z, M.length = z := ⟨_, rfl⟩
  rw [hnf, hnt, hnd, hnm] at hL ⊢
  clear hnf hnt hnd hnm
  have hs4 := hb4.size
  obtain ⟨W5, hW5⟩ : ∃ z, w4.alloc (.cells #[.int .i64 P, .int .i64 V, .slice A nf a, .slice C nt cc, .slice E nd ee, .slice H nm h] 31) = z := ⟨_, rfl⟩
  have gb : Below w4.heap.size w4 W5 := by rw [← hW5]; exact below_alloc _ _
  obtain ⟨g5, hg5⟩ : ∃ z, w4.heap.size = z := ⟨_, rfl⟩
  have k5 : Blk W5 g5 31 #[.int .i64 P, .int .i64 V, .slice A nf a, .slice C nt cc, .slice E nd ee, .slice H nm h] := by rw [← hW5, ← hg5]; exact Blk.new _ _ _
  have r0 := k5.cell' (i := 0) rfl
  have r1 := k5.cell' (i := 1) rfl
  have r2 := k5.cell' (i := 2) rfl
  have r3 := k5.cell' (i := 3) rfl
  have r4 := k5.cell' (i := 4) rfl
  have r5 := k5.cell' (i := 5) rfl
  have HBF := Lib.hid ((HB3.out.trans (Ck.of_below hb4)).trans (Ck.of_below gb))
  have HRF := Lib.hid ((hL.below gb).wider (Nat.le_refl _) gb.size)
  have hs3 := HB3.out.size
  clear hL hb4 gb k5 HB3 HC3
  have kz := KR.out.ck HBF.out hcw
  have fr := kz.frozen
  have s0 := kz.cell' (i := 0) rfl
  have s1 := kz.cell' (i := 1) rfl
  have s2 := kz.cell' (i := 2) rfl
  have s3 := kz.cell' (i := 3) rfl
  have s4 := kz.cell' (i := 4) rfl
  have s5 := kz.cell' (i := 5) rfl
  have hc6 := chg6 W5 w0.heap.size (.int .i64 P) (.int .i64 V) (.slice A nf a) (.slice C nt cc) (.slice E nd ee) (.slice H nm h)
  have hsr := HBF.out.size
  have OF := Lib.hid ((HRF.out.chg hc6 (.inr (by omega))).wider (by omega : w0.heap.size + 1 ≤ lo1) hc6.size)
  have GS := Lib.hid ((G0.out.trans HBF.out).lowF (lo := w0.heap.size) (hc6.below (Nat.le_refl _) (by omega)) (Nat.le_refl _) hcl)
  clear kz hc6
  go_wp2
  refine bodyPost_ret (v := .agg #[.int .i64 P, .int .i64 V, .slice A nf a, .slice C nt cc, .slice E nd ee, .slice H nm h]) (by simp [results, go_sem, s0, s1, s2, s3, s4, s5]) rfl ?_
  unfold AnyP
  exact ⟨_, ⟨P, ⟨V, F, T⟩, D, M⟩, rfl, OF.out, GS.out⟩
 ·by_cases e1 : t = 1
  ·subst e1
   go_wp2_with fail
   refine (l1Below_any c 4 _ HC2.out ⟨by omega, by omega⟩).mono ?_; rintro e w3 ⟨n, hn, _, rfl, hb3⟩
   have HB3 := Lib.hid (HB2.out.trans hb3)
   have HC3 := Lib.hid (hb3.keep HC2.out)
   have hs3 := hb3.size
   clear hb3 HC2 HB2
   go_wp2_with fail
   refine (specPreinjectivePencil_any p n _ ⟨by omega, by omega⟩ ⟨by omega, by omega⟩).mono ?_; rintro e w4 ⟨r, rfl, hR, hb4⟩
   obtain ⟨lo1, hlo1⟩ : ∃ z, z = w3.heap.size := ⟨_, rfl⟩
   have hL := hR.toL
   rw [← hlo1] at hL
   obtain ⟨x, hx⟩ : ∃ z, (preiP p (n : Int)).1 = z := ⟨_, rfl⟩
   rw [hx] at hL
   clear hx hR
   obtain ⟨A, a, C, cc, E, ee, H, h, rfl⟩ := hL.rd.form
   obtain ⟨P, ⟨V, F, T⟩, D, M⟩ := x
   simp only at hL ⊢
   obtain ⟨nf, hnf⟩ : ∃ z, F.length = z := ⟨_, rfl⟩
   obtain ⟨nt, hnt⟩ : ∃ z, T.length = z := ⟨_, rfl⟩
   obtain ⟨nd, hnd⟩ : ∃ z, D.length = z := ⟨_, rfl⟩
   obtain ⟨nm, hnm⟩ : ∃ z, M.length = z := ⟨_, rfl⟩
   rw [hnf, hnt, hnd, hnm] at hL ⊢
   clear hnf hnt hnd hnm
   have hs4 := hb4.size
   obtain ⟨W5, hW5⟩ : ∃ z, w4.alloc (.cells #[.int .i64 P, .int .i64 V, .slice A nf a, .slice C nt cc, .slice E nd ee, .slice H nm h] 31) = z := ⟨_, rfl⟩
   have gb : Below w4.heap.size w4 W5 := by rw [← hW5]; exact below_alloc _ _
   obtain ⟨g5, hg5⟩ : ∃ z, w4.heap.size = z := ⟨_, rfl⟩
   have k5 : Blk W5 g5 31 #[.int .i64 P, .int .i64 V, .slice A nf a, .slice C nt cc, .slice E nd ee, .slice H nm h] := by rw [← hW5, ← hg5]; exact Blk.new _ _ _
   have r0 := k5.cell' (i := 0) rfl
   have r1 := k5.cell' (i := 1) rfl
   have r2 := k5.cell' (i := 2) rfl
   have r3 := k5.cell' (i := 3) rfl
   have r4 := k5.cell' (i := 4) rfl
   have r5 := k5.cell' (i := 5) rfl
   have HBF := Lib.hid ((HB3.out.trans (Ck.of_below hb4)).trans (Ck.of_below gb))
   have HRF := Lib.hid ((hL.below gb).wider (Nat.le_refl _) gb.size)
   have hs3 := HB3.out.size
   clear hL hb4 gb k5 HB3 HC3
   have kz := KR.out.ck HBF.out hcw
   have fr := kz.frozen
   have s0 := kz.cell' (i := 0) rfl
   have s1 := kz.cell' (i := 1) rfl
   have s2 := kz.cell' (i := 2) rfl
   have s3 := kz.cell' (i := 3) rfl
   have s4 := kz.cell' (i := 4) rfl
   have s5 := kz.cell' (i := 5) rfl
   have hc6 := chg6 W5 w0.heap.size (.int .i64 P) (.int .i64 V) (.slice A nf a) (.slice C nt cc) (.slice E nd ee) (.slice H nm h)
   have hsr := HBF.out.size
   have OF := Lib.hid ((HRF.out.chg hc6 (.inr (by omega))).wider (by omega : w0.heap.size + 1 ≤ lo1) hc6.size)
   have GS := Lib.hid ((G0.out.trans HBF.out).lowF (lo := w0.heap.size) (hc6.below (Nat.le_refl _) (by omega)) (Nat.le_refl _) hcl)
   clear kz hc6
   go_wp2
   refine bodyPost_ret (v := .agg #[.int .i64 P, .int .i64 V, .slice A nf a, .slice C nt cc, .slice E nd ee, .slice H nm h]) (by simp [results, go_sem, s0, s1, s2, s3, s4, s5]) rfl ?_
   unfold AnyP
   exact ⟨_, ⟨P, ⟨V, F, T⟩, D, M⟩, rfl, OF.out, GS.out⟩
  ·by_cases e2 : t = 2
   ·subst e2
    go_wp2_with fail
    refine (l1Below_any c 3 _ HC2.out ⟨by omega, by omega⟩).mono ?_; rintro e w2' ⟨n, hn, _, rfl, hb2'⟩
    have HC2' := Lib.hid (hb2'.keep HC2.out)
    have HB2' := Lib.hid (HB2.out.trans hb2')
    have hs2' := hb2'.size
    clear hb2' HC2 HB2
    go_wp2_with fail
    refine (l1Below_any c p _ HC2'.out ⟨by omega, by omega⟩).mono ?_; rintro e w3 ⟨k, hk, _, rfl, hb3⟩
    have HB3 := Lib.hid (HB2'.out.trans hb3)
    have HC3 := Lib.hid (hb3.keep HC2'.out)
    have hs3 := hb3.size
    clear hb3 HC2' HB2'
    go_wp2_with fail
    refine (specRegularPencil_any p _ k _ ⟨by omega, by omega⟩ ⟨by omega, by omega⟩ ⟨by omega, by omega⟩).mono ?_; rintro e w4 ⟨r, rfl, hR, hb4⟩
    obtain ⟨lo1, hlo1⟩ : ∃ z, z = w3.heap.size := ⟨_, rfl⟩
    have hL := hR.toL
    rw [← hlo1] at hL
    obtain ⟨x, hx⟩ : ∃ z, (regP p (1 + (n : Int)) (k : Int)).1 = z := ⟨_, rfl⟩
    rw [hx] at hL
    clear hx hR
    obtain ⟨A, a, C, cc, E, ee, H, h, rfl⟩ := hL.rd.form
    obtain ⟨P, ⟨V, F, T⟩, D, M⟩ := x
    simp only at hL ⊢
    obtain ⟨nf, hnf⟩ : ∃ z, F.length = z := ⟨_, rfl⟩
    obtain ⟨nt, hnt⟩ : ∃ z, T.length = z := ⟨_, rfl⟩
    obtain ⟨nd, hnd⟩ : ∃ z, D.length = z := ⟨_, rfl⟩
    obtain ⟨nm, hnm⟩ : ∃ z, M.length = z := ⟨_, rfl⟩
    rw [hnf, hnt, hnd, hnm] at hL ⊢
    clear hnf hnt hnd hnm
    have hs4 := hb4.size
    obtain ⟨W5, hW5⟩ : ∃ z, w4.alloc (.cells #[.int .i64 P, .int .i64 V, .slice A nf a, .slice C nt cc, .slice E nd ee, .slice H nm h] 31) = z := ⟨_, rfl⟩
    have gb : Below w4.heap.size w4 W5 := by rw [← hW5]; exact below_alloc _ _
    obtain ⟨g5, hg5⟩ : ∃ z, w4.heap.size = z := ⟨_, rfl⟩
    have k5 : Blk W5 g5 31 #[.int .i64 P, .int .i64 V, .slice A nf a, .slice C nt cc, .slice E nd ee, .slice H nm h] := by rw [← hW5, ← hg5]; exact Blk.new _ _ _
    have r0 := k5.cell' (i := 0) rfl
    have r1 := k5.cell' (i := 1) rfl
    have r2 := k5.cell' (i := 2) rfl
    have r3 := k5.cell' (i := 3) rfl
    have r4 := k5.cell' (i := 4) rfl
    have r5 := k5.cell' (i := 5) rfl
    have HBF := Lib.hid ((HB3.out.trans (Ck.of_below hb4)).trans (Ck.of_below gb))
    have HRF := Lib.hid ((hL.below gb).wider (Nat.le_refl _) gb.size)
    have hs3 := HB3.out.size
    clear hL hb4 gb k5 HB3 HC3
    have kz := KR.out.ck HBF.out hcw
    have fr := kz.frozen
    have s0 := kz.cell' (i := 0) rfl
    have s1 := kz.cell' (i := 1) rfl
    have s2 := kz.cell' (i := 2) rfl
    have s3 := kz.cell' (i := 3) rfl
    have s4 := kz.cell' (i := 4) rfl
    have s5 := kz.cell' (i := 5) rfl
    have hc6 := chg6 W5 w0.heap.size (.int .i64 P) (.int .i64 V) (.slice A nf a) (.slice C nt cc) (.slice E nd ee) (.slice H nm h)
    have hsr := HBF.out.size
    have OF := Lib.hid ((HRF.out.chg hc6 (.inr (by omega))).wider (by omega : w0.heap.size + 1 ≤ lo1) hc6.size)
    have GS := Lib.hid ((G0.out.trans HBF.out).lowF (lo := w0.heap.size) (hc6.below (Nat.le_refl _) (by omega)) (Nat.le_refl _) hcl)
    clear kz hc6
    go_wp2
    refine bodyPost_ret (v := .agg #[.int .i64 P, .int .i64 V, .slice A nf a, .slice C nt cc, .slice E nd ee, .slice H nm h]) (by simp [results, go_sem, s0, s1, s2, s3, s4, s5]) rfl ?_
    unfold AnyP
    exact ⟨_, ⟨P, ⟨V, F, T⟩, D, M⟩, rfl, OF.out, GS.out⟩
   ·by_cases e3 : t = 3
    ·subst e3
     go_wp2_with fail
     refine (l8Any_any c _ HC2.out).mono ?_
     intro e w3 hAny
     unfold AnyP at hAny
     obtain ⟨v, x, rfl, hL, hb3⟩ := hAny
     obtain ⟨lo1, hlo1⟩ : ∃ z, z = w2.heap.size + 1 := ⟨_, rfl⟩
     rw [← hlo1] at hL
     obtain ⟨A, a, C, cc, E, ee, H, h, rfl⟩ := hL.rd.form
     obtain ⟨P, ⟨V, F, T⟩, D, M⟩ := x
     simp only at hL ⊢
     obtain ⟨nf, hnf⟩ : ∃ z, F.length = z := ⟨_, rfl⟩
     obtain ⟨nt, hnt⟩ : ∃ z, T.length = z := ⟨_, rfl⟩
     obtain ⟨nd, hnd⟩ : ∃ z, D.length = z := ⟨_, rfl⟩
     obtain ⟨nm, hnm⟩ : ∃ z, M.length = z := ⟨_, rfl⟩
     rw [hnf, hnt, hnd, hnm] at hL ⊢
     clear hnf hnt hnd hnm
     have HBF := Lib.hid (HB2.out.trans hb3)
     have HRF := Lib.hid hL
     clear hL hb3 HB2 HC2
     have kz := KR.out.ck HBF.out hcw
     have fr := kz.frozen
     have s0 := kz.cell' (i := 0) rfl
     have s1 := kz.cell' (i := 1) rfl
     have s2 := kz.cell' (i := 2) rfl
     have s3 := kz.cell' (i := 3) rfl
     have s4 := kz.cell' (i := 4) rfl
     have s5 := kz.cell' (i := 5) rfl
     have hc6 := chg6 w3 w0.heap.size (.int .i64 P) (.int .i64 V) (.slice A nf a) (.slice C nt cc) (.slice E nd ee) (.slice H nm h)
     have hsr := HBF.out.size
     have OF := Lib.hid ((HRF.out.chg hc6 (.inr (by omega))).wider (by omega : w0.heap.size + 1 ≤ lo1) hc6.size)
     have GS := Lib.hid ((G0.out.trans HBF.out).lowF (lo := w0.heap.size) (hc6.below (Nat.le_refl _) (by omega)) (Nat.le_refl _) hcl)
     clear kz hc6
     go_wp2
     refine bodyPost_ret (v := .agg #[.int .i64 P, .int .i64 V, .slice A nf a, .slice C nt cc, .slice E nd ee, .slice H nm h]) (by simp [results, go_sem, s0, s1, s2, s3, s4, s5]) rfl ?_
     unfold AnyP
     exact ⟨_, ⟨P, ⟨V, F, T⟩, D, M⟩, rfl, OF.out, GS.out⟩
    ·go_wp2_with fail
     refine (l26Quiver_any _).mono ?_; rintro e w3 ⟨v1, rfl, ho, hb3⟩
     have hcl2 := HC2.out.ltF
     have hs3 := hb3.size
     obtain ⟨av, bv, rfl, hF, hV⟩ := ho
     have ha := hF.1 (av, pQ.f) (by simp)
     have hb := hF.1 (bv, pQ.t) (by simp)
     simp only at ha hb
     have HQI := Lib.hid (show QuivI w3 w2.heap.size w3.heap.size (.agg #[.int .i64 pQ.v, av, bv]) pQ from ⟨_, _, rfl, ha, hb, hV⟩)
     have HB3 := Lib.hid (HB2.out.trans (Ck.of_below hb3))
     have HC3 := Lib.hid ((Ck.of_below (c := c) hb3).keep HC2.out)
     clear hb3 HC2 HB2 hF ha hb
     go_wp2_with fail
     refine (l8Of_any c p _ pQ 3 w2.heap.size w3.heap.size w3 HC3.out ⟨by omega, by omega⟩ HQI.out hcl2 (Nat.le_refl _) hs3 (by omega)).mono ?_
     intro e w4 hOf
     unfold OfP at hOf
     obtain ⟨v4, ⟨P, ⟨V, F, T⟩, D, M⟩, lo1, rfl, hR, hS, _, hlo1, hb4⟩ := hOf
     have hL := hR.toL
     obtain ⟨A, a, C, cc, E, ee, H, h, rfl⟩ := hL.rd.form
     simp only at hL ⊢
     obtain ⟨nf, hnf⟩ : ∃ z, F.length = z := ⟨_, rfl⟩
     obtain ⟨nt, hnt⟩ : ∃ z, T.length = z := ⟨_, rfl⟩
     obtain ⟨nd, hnd⟩ : ∃ z, D.length = z := ⟨_, rfl⟩
     obtain ⟨nm, hnm⟩ : ∃ z, M.length = z := ⟨_, rfl⟩
     rw [hnf, hnt, hnd, hnm] at hL ⊢
     clear hnf hnt hnd hnm hS hR
     have HBF := Lib.hid (HB3.out.trans hb4)
     have HRF := Lib.hid hL
     clear hL hb4 HB3 HC3 HQI
     have kz := KR.out.ck HBF.out hcw
     have fr := kz.frozen
     have s0 := kz.cell' (i := 0) rfl
     have s1 := kz.cell' (i := 1) rfl
     have s2 := kz.cell' (i := 2) rfl
     have s3 := kz.cell' (i := 3) rfl
     have s4 := kz.cell' (i := 4) rfl
     have s5 := kz.cell' (i := 5) rfl
     have hc6 := chg6 w4 w0.heap.size (.int .i64 P) (.int .i64 V) (.slice A nf a) (.slice C nt cc) (.slice E nd ee) (.slice H nm h)
     have hsr := HBF.out.size
     have OF := Lib.hid ((HRF.out.chg hc6 (.inr (by omega))).wider (by omega : w0.heap.size + 1 ≤ lo1) hc6.size)
     have GS := Lib.hid ((G0.out.trans HBF.out).lowF (lo := w0.heap.size) (hc6.below (Nat.le_refl _) (by omega)) (Nat.le_refl _) hcl)
     clear kz hc6
     go_wp2
     refine bodyPost_ret (v := .agg #[.int .i64 P, .int .i64 V, .slice A nf a, .slice C nt cc, .slice E nd ee, .slice H nm h]) (by simp [results, go_sem, s0, s1, s2, s3, s4, s5]) rfl ?_
     unfold AnyP
     exact ⟨_, ⟨P, ⟨V, F, T⟩, D, M⟩, rfl, OF.out, GS.out⟩
theorem QB.noYR {w : World} {d o : Nat} {x : Int} (h : QB w d) (hc : w.cell? ⟨d, o, none⟩ = some (.int .u8 x)) : False := by
 obtain ⟨P, V, A, nf, a, C, nt, cc, E, nd, ee, H, nm, h, hB⟩ := h
 match o, hc with
 | 0, hc => rw [hB.cell' (i := 0) rfl] at hc; simp at hc
 | 1, hc => rw [hB.cell' (i := 1) rfl] at hc; simp at hc
 | 2, hc => rw [hB.cell' (i := 2) rfl] at hc; simp at hc
 | 3, hc => rw [hB.cell' (i := 3) rfl] at hc; simp at hc
 | 4, hc => rw [hB.cell' (i := 4) rfl] at hc; simp at hc
 | 5, hc => rw [hB.cell' (i := 5) rfl] at hc; simp at hc
 | o + 6, hc =>
  unfold Blk at hB
  simp [World.cell?, hB] at hc
set_option maxHeartbeats 3200000 in
set_option maxRecDepth 100000 in
theorem Cd.storeR {c d : Nat} {w : World} {P V : Int} {A C E H : Option Addr} {nf a nt cc nd ee nm h : Nat} (hdc : d ≠ c) (hE : QB w d) :
  Cd c d #[.int .i64 P, .int .i64 V, .slice A nf a, .slice C nt cc, .slice E nd ee, .slice H nm h] w ((((((w.setCell ⟨d, 0, none⟩ (.int .i64 P)).setCell ⟨d, 1, none⟩ (.int .i64 V)).setCell ⟨d, 2, none⟩ (.slice A nf a)).setCell ⟨d, 3, none⟩ (.slice C nt cc)).setCell ⟨d, 4, none⟩ (.slice E nd ee)).setCell ⟨d, 5, none⟩ (.slice H nm h)) ∧ Blk ((((((w.setCell ⟨d, 0, none⟩ (.int .i64 P)).setCell ⟨d, 1, none⟩ (.int .i64 V)).setCell ⟨d, 2, none⟩ (.slice A nf a)).setCell ⟨d, 3, none⟩ (.slice C nt cc)).setCell ⟨d, 4, none⟩ (.slice E nd ee)).setCell ⟨d, 5, none⟩ (.slice H nm h)) d 31 #[.int .i64 P, .int .i64 V, .slice A nf a, .slice C nt cc, .slice E nd ee, .slice H nm h] := by
 obtain ⟨W', hW'⟩ : ∃ z, (((((w.setCell ⟨d, 0, none⟩ (.int .i64 P)).setCell ⟨d, 1, none⟩ (.int .i64 V)).setCell ⟨d, 2, none⟩ (.slice A nf a)).setCell ⟨d, 3, none⟩ (.slice C nt cc)).setCell ⟨d, 4, none⟩ (.slice E nd ee)).setCell ⟨d, 5, none⟩ (.slice H nm h) = z := ⟨_, rfl⟩
 rw [hW']
 have h3 : Blk W' d 31 #[.int .i64 P, .int .i64 V, .slice A nf a, .slice C nt cc, .slice E nd ee, .slice H nm h] := by
  obtain ⟨P', V', A', nf', a', C', nt', cc', E', nd', ee', H', nm', h', hB⟩ := hE
  rw [← hW']
  exact ((((((hB.set_ 0 _).set_ 1 _).set_ 2 _).set_ 3 _).set_ 4 _).set_ 5 _)
 have hc : Chg d (d + 1) w W' := by rw [← hW']; exact chg6 w d _ _ _ _ _ _
 clear hW'
 refine ⟨⟨hc.os, hc.tape, hc.output, hc.size, fun k hk hn => hc.block k hk (by omega), ?_, fun _ => h3, fun _ => ⟨P, V, A, nf, a, C, nt, cc, E, nd, ee, H, nm, h, h3⟩⟩, h3⟩
 rintro ⟨X, cc', i, h', l, hB', h1, h2, hy⟩
 refine ⟨X, cc', i, h', l, (hc.block c hB'.lt (by omega)).trans hB', h1, h2, ?_⟩
 refine SlG.mono (B := c) (B' := c) (fun b o x hlt hx => ?_) (Nat.le_refl _) hy
 have hbd : b ≠ d := fun hbd => by
  subst hbd
  exact hE.noYR hx.1
 exact ⟨(World.cell?_of_block (w := w) (hc.block b (by have := hB'.lt; omega) (by omega))).trans hx.1, hx.2⟩
def PatP (w0 : World) (e : Ending) (w' : World) : Prop := ∃ (v : Value) (x : Rp) (i j : Int), e = .returned (.tuple #[v, .int .i64 i, .int .i64 j]) ∧ RpR w' w'.heap.size v x ∧ I64 i ∧ I64 j ∧ Below w0.heap.size w0 w'
set_option maxHeartbeats 6400000 in
set_option maxRecDepth 100000 in
theorem drawPencilAt_any (u : Value) (l : List Int) (w0 : World) (hu : SlY w0 w0.heap.size u l) :
  Calls Tryz.prog 18 #[u] w0 fun e w' => PatP w0 e w' := by
 obtain ⟨W, hW⟩ : ∃ W, W = w0.alloc (.cells #[.int .i64 0, .int .i64 0, .slice none 0 0, .slice none 0 0, .slice none 0 0, .slice none 0 0] 31) := ⟨_, rfl⟩
 have g0 : Below w0.heap.size w0 W := by rw [hW]; exact below_alloc _ _
 have kR : Blk W w0.heap.size 31 #[.int .i64 0, .int .i64 0, .slice none 0 0, .slice none 0 0, .slice none 0 0, .slice none 0 0] := by rw [hW]; exact Blk.new _ _ _
 have sW : W.heap.size = w0.heap.size + 1 := by rw [hW]; simp
 have hu' := SlY.next g0 hu
 clear hu
 have KR := Lib.hid kR
 have G0 := Lib.hid g0
 clear kR g0
 go_enter Tryz.func18, Tryz.ntmps18
 go_wp2_with fail
 rw [← hW]; clear hW
 refine (l1New_any u l _ hu').mono ?_; rintro e w1 ⟨c, rfl, hcs, hC1, hb1⟩
 have hs1 := hb1.size
 have HR1 := Lib.hid (KR.out.call hb1)
 have HW1 := Lib.hid (G0.out.trans (hb1.mono (by omega)))
 clear hu' hb1
 have hdc : w0.heap.size ≠ c := by omega
 go_wp2_with fail
 refine (l26Pencil_any c _ hC1).mono ?_
 intro e w2 hAny
 unfold AnyP at hAny
 obtain ⟨v, ⟨P, ⟨V, F, T⟩, D, M⟩, rfl, hL, hb2⟩ := hAny
 have hcl1 := hC1.ltF
 have hs2 := hb2.size
 have hC2 := hb2.keep hC1
 have HR2 := Lib.hid (HR1.out.ck hb2 hdc)
 have HW2 := Lib.hid (HW1.out.trans (hb2.below (B := w0.heap.size) (by omega) (by omega)))
 obtain ⟨A, a, C, cc, E, ee, H, h, rfl⟩ := hL.rd.form
 simp only at hL ⊢
 obtain ⟨nf, hnf⟩ : ∃ z, F.length = z := ⟨_, rfl⟩
 obtain ⟨nt, hnt⟩ : ∃ z, T.length = z := ⟨_, rfl⟩
 obtain ⟨nd, hnd⟩ : ∃ z, D.length = z := ⟨_, rfl⟩
 obtain ⟨nm, hnm⟩ : ∃ z, M.length = z := ⟨_, rfl⟩
 rw [hnf, hnt, hnd, hnm] at hL ⊢
 clear hnf hnt hnd hnm hb2 hC1 HR1 HW1
 obtain ⟨W3, hW3⟩ : ∃ z, w2.alloc (.cells #[.int .i64 P, .int .i64 V, .slice A nf a, .slice C nt cc, .slice E nd ee, .slice H nm h] 31) = z := ⟨_, rfl⟩
 have gb : Below w2.heap.size w2 W3 := by rw [← hW3]; exact below_alloc _ _
 obtain ⟨g5, hg5⟩ : ∃ z, w2.heap.size = z := ⟨_, rfl⟩
 have k5 : Blk W3 g5 31 #[.int .i64 P, .int .i64 V, .slice A nf a, .slice C nt cc, .slice E nd ee, .slice H nm h] := by rw [← hW3, ← hg5]; exact Blk.new _ _ _
 have hs3 : W3.heap.size = g5 + 1 := by rw [← hW3, ← hg5]; simp
 have hcl2 := hC2.ltF
 have HC3 := Lib.hid ((Ck.of_below (c := c) gb).keep hC2)
 have HR3 := Lib.hid (HR2.out.call gb)
 have HW3 := Lib.hid (HW2.out.trans (gb.mono (by omega)))
 have HL3 := Lib.hid (hL.below gb)
 have HG3 := Lib.hid k5
 have hg5c : g5 ≠ c := by omega
 have hg5d : g5 ≠ w0.heap.size := by omega
 clear hL gb k5 hC2 HR2 HW2
 go_wp2_with fail
 try rw [hW3]
 try rw [hg5]
 clear hW3
 refine (l2Number_any c _ HC3.out).mono ?_; rintro e w4 ⟨i, rfl, hi, hb4⟩
 have HC4 := Lib.hid (hb4.keep HC3.out)
 have HR4 := Lib.hid (HR3.out.ck hb4 hdc)
 have HG4 := Lib.hid (HG3.out.ck hb4 hg5c)
 have hs4 := hb4.size
 have HW4 := Lib.hid (HW3.out.trans (hb4.below (B := w0.heap.size) (by omega) (by omega)))
 have HL4 := Lib.hid (HL3.out.chg hb4.chg (.inr (by omega)))
 clear hb4 HC3 HR3 HG3 HW3 HL3
 go_wp2_with fail
 refine wp_region_netD (c) (w0.heap.size) (#[.int .i64 P, .int .i64 V, .slice A nf a, .slice C nt cc, .slice E nd ee, .slice H nm h]) (by kernel_rfl) [.eq (.agg #[.int .i64 P, .int .i64 V, .slice A nf a, .slice C nt cc, .slice E nd ee, .slice H nm h]), .eq (.int .i64 i), .eq (.pointer (some ⟨c, 0, none⟩)), rel 3 (fun u lo hi w => ∃ k : Int, u = .int .i64 k ∧ I64 k), .rel (fun x w => Blk w w0.heap.size 31 #[.int .i64 P, .int .i64 V, .slice A nf a, .slice C nt cc, .slice E nd ee, .slice H nm h])] [[], [], [], [2], [0, 2, 3], [0, 1, 2, 3, 4], [0, 1, 2, 3, 4, 5]] 5 (by kernel_rfl) ⟨trivial, trivial, trivial, rel_stableD (fun u lo hi w w' h hb => h), fun x w w' h hb => hb.keepD h, trivial⟩ ⟨?_, ?_, ?_, ?_, ?_, trivial⟩ ?_
 ·intro x w hb hk Q' hQ
  clear hk
  simp only [netE] at hQ ⊢
  have z0 := (HG4.out.cd hb hg5c hg5d).cell' (i := 0) rfl
  have z1 := (HG4.out.cd hb hg5c hg5d).cell' (i := 1) rfl
  have z2 := (HG4.out.cd hb hg5c hg5d).cell' (i := 2) rfl
  have z3 := (HG4.out.cd hb hg5c hg5d).cell' (i := 3) rfl
  have z4 := (HG4.out.cd hb hg5c hg5d).cell' (i := 4) rfl
  have z5 := (HG4.out.cd hb hg5c hg5d).cell' (i := 5) rfl
  go_wp2
  exact hQ (.agg #[.int .i64 P, .int .i64 V, .slice A nf a, .slice C nt cc, .slice E nd ee, .slice H nm h]) _ (Cd.refl _ _ _ _) rfl
 ·intro x w hb hk Q' hQ
  clear hk
  simp only [netE] at hQ ⊢
  go_wp2
  exact hQ (.int .i64 i) _ (Cd.refl _ _ _ _) rfl
 ·intro x w hb hk Q' hQ
  clear hk
  simp only [netE] at hQ ⊢
  go_wp2
  exact hQ (.pointer (some ⟨c, 0, none⟩)) _ (Cd.refl _ _ _ _) rfl
 ·intro x w hb hk Q' hQ
  have h2 : x.v 2 = _ := (hk 2 (by decide)).1
  clear hk
  simp only [netE] at hQ ⊢
  simp only [h2] at hQ ⊢
  clear h2
  go_wp2_with fail
  refine (l2Number_any c _ (hb.keep HC4.out)).mono ?_; rintro e w7 ⟨k, rfl, hk, hb7⟩
  go_wp2
  exact hQ _ _ (Cd.of_ck hb7 hdc) ⟨k, rfl, hk⟩
 ·intro x w hb hk Q' hQ
  have h0 : x.v 0 = _ := (hk 0 (by decide)).1
  have h2 : x.v 2 = _ := (hk 2 (by decide)).1
  have h3 : ∃ k : Int, (x.v 3) = .int .i64 k ∧ I64 k := (hk 3 (by decide)).1
  have s3 := (hk 3 (by decide)).2
  clear hk
  simp only [netE] at hQ ⊢
  simp only [h0, h2] at hQ ⊢
  clear h0 h2
  have hE := hb.keepE ⟨_, _, _, _, _, _, _, _, _, _, _, _, _, _, HR4.out⟩
  have hS := Cd.storeR (P := P) (V := V) (A := A) (nf := nf) (a := a) (C := C) (nt := nt) (cc := cc) (E := E) (nd := nd) (ee := ee) (H := H) (nm := nm) (h := h) hdc hE
  obtain ⟨P', V', A', nf', a', C', nt', cc', E', nd', ee', H', nm', h', hB⟩ := hE
  have y0 := hB.cell' (i := 0) rfl
  have y1 := hB.cell' (i := 1) rfl
  have y2 := hB.cell' (i := 2) rfl
  have y3 := hB.cell' (i := 3) rfl
  have y4 := hB.cell' (i := 4) rfl
  have y5 := hB.cell' (i := 5) rfl
  have fr := hB.frozen
  have HS := Lib.hid hS
  clear hS hB
  go_wp2
  exact hQ undef _ HS.out.1 HS.out.2
 ·intro x w hb hk hiv hdj
  have h0 : x.v 0 = .agg #[.int .i64 P, .int .i64 V, .slice A nf a, .slice C nt cc, .slice E nd ee, .slice H nm h] := hk 0 (by decide)
  have h1 : x.v 1 = .int .i64 i := hk 1 (by decide)
  have h2 : x.v 2 = .pointer (some ⟨c, 0, none⟩) := hk 2 (by decide)
  have h3 : ∃ k : Int, (x.v 3) = .int .i64 k ∧ I64 k := hk 3 (by decide)
  have h4 : Blk w w0.heap.size 31 #[.int .i64 P, .int .i64 V, .slice A nf a, .slice C nt cc, .slice E nd ee, .slice H nm h] := hk 4 (by decide)
  clear hk
  simp only [netE]
  simp only [List.drop_succ_cons, List.drop_zero, h0, h1, h2]
  clear h0 h1 h2
  obtain ⟨k, e3, hk⟩ := h3
  rw [e3]
  have r0 := h4.cell' (i := 0) rfl
  have r1 := h4.cell' (i := 1) rfl
  have r2 := h4.cell' (i := 2) rfl
  have r3 := h4.cell' (i := 3) rfl
  have r4 := h4.cell' (i := 4) rfl
  have r5 := h4.cell' (i := 5) rfl
  have hch := hb.chg (hi := w1.heap.size + 1) (by omega) (by omega)
  have HLF := Lib.hid (HL4.out.chg hch (.inr (by omega)))
  have GF := Lib.hid (HW4.out.trans (hb.low (B := w0.heap.size) (by omega) (Nat.le_refl _) (by omega)))
  clear hb hiv hdj hch
  go_wp2
  refine bodyPost_ret (v := .tuple #[.agg #[.int .i64 P, .int .i64 V, .slice A nf a, .slice C nt cc, .slice E nd ee, .slice H nm h], .int .i64 i, .int .i64 k]) (by simp [results, go_sem, r0, r1, r2, r3, r4, r5]) rfl ?_
  unfold PatP
  exact ⟨_, ⟨P, ⟨V, F, T⟩, D, M⟩, i, k, rfl, HLF.out.rd, hi, hk, GF.out⟩
def TwoM (w0 : World) (e : Ending) (w' : World) : Prop := ∃ (p : Int) (v : Value) (a : Mx) (z : Value) (b : Mx), e = .returned (.tuple #[.int .i64 p, v, z]) ∧ I64 p ∧ MxO w' w0.heap.size w'.heap.size v a ∧ MxO w' w0.heap.size w'.heap.size z b ∧ a.a.length ≤ 10 ∧ b.a.length ≤ 16 ∧ Below w0.heap.size w0 w'
theorem mxO_of {w : World} {lo hi n c : Nat} {A : Option Addr} {r k : Int} {l : List Int} (h : IntsO w lo hi (.slice A n c) l) (h2 : I64 r ∧ I64 k) : MxO w lo hi (.agg #[.int .i64 r, .int .i64 k, .slice A n c]) ⟨r, k, l⟩ := ⟨_, rfl, h, h2⟩
set_option maxHeartbeats 6400000 in
set_option maxRecDepth 100000 in
theorem l3Two_any (u : Value) (l : List Int) (w0 : World) (hu : SlY w0 w0.heap.size u l) :
  Calls Tryz.prog 59 #[u] w0 fun e w' => TwoM w0 e w' := by
 obtain ⟨W, hW⟩ : ∃ W, W = (w0.alloc (.cells #[.int .i64 0, .int .i64 0, .slice none 0 0] 44)).alloc (.cells #[.int .i64 0, .int .i64 0, .slice none 0 0] 44) := ⟨_, rfl⟩
 have g0 : Below w0.heap.size w0 W := by rw [hW]; exact ((Below.refl _ _).alloc (Nat.le_refl _) _).alloc (by simp) _
 have k1 : Blk W w0.heap.size 44 #[.int .i64 0, .int .i64 0, .slice none 0 0] := by rw [hW]; exact (Blk.new _ _ _).alloc _
 have k2 : Blk W (w0.heap.size + 1) 44 #[.int .i64 0, .int .i64 0, .slice none 0 0] := by
  rw [hW]
  have := Blk.new (w0.alloc (.cells #[.int .i64 0, .int .i64 0, .slice none 0 0] 44)) 44 #[.int .i64 0, .int .i64 0, .slice none 0 0]
  simpa only [World.size_alloc] using this
 have sW : W.heap.size = w0.heap.size + 1 + 1 := by rw [hW]; simp
 have hu' := SlY.next g0 hu
 clear hu
 have K1 := Lib.hid k1
 have K2 := Lib.hid k2
 have G0 := Lib.hid g0
 clear k1 k2 g0
 go_enter Tryz.func59, Tryz.ntmps59
 go_wp2_with fail
 rw [← hW]; clear hW
 refine (l1New_any u l _ hu').mono ?_; rintro e w1 ⟨c, rfl, hcs, hC1, hb1⟩
 have hs1 := hb1.size
 clear hu'
 go_wp2_with fail
 refine (l2Prime_any c _ hC1).mono ?_; rintro e w2 ⟨p, rfl, hp, hb2⟩
 have hs2 := hb2.size
 have hC2 := hb2.keep hC1
 have hcl2 := hC2.ltF
 have HW2 := Lib.hid (hb1.trans (hb2.below hcs hs1))
 clear hb1 hC1 hb2
 go_wp2_with fail
 refine (l3Any_any c p _ hC2 hp).mono ?_; rintro e w3 ⟨v, ⟨r, k, l3⟩, rfl, hM, hml, hb3⟩
 have hs3 := hb3.size
 have hC3 := hb3.keep hC2
 have hW3 := HW2.out.trans (hb3.below hcs (by omega))
 obtain ⟨s, rfl, hs, hI1, hI2⟩ := hM
 obtain ⟨A, cp, rfl, _⟩ := hs.1.form
 simp only at hs hml hI1 hI2 ⊢
 obtain ⟨n, hn⟩ : ∃ n, l3.length = n := ⟨_, rfl⟩
 rw [hn] at hs hml ⊢
 have hIr := hI1
 have hIk := hI2
 obtain ⟨hr1, hr2⟩ := hIr
 obtain ⟨hk1, hk2⟩ := hIk
 obtain ⟨W4, hW4⟩ : ∃ z, w3.alloc (.cells #[.int .i64 r, .int .i64 k, .slice A n cp] 44) = z := ⟨_, rfl⟩
 have gb : Below w3.heap.size w3 W4 := by rw [← hW4]; exact below_alloc _ _
 obtain ⟨gm, hgm⟩ : ∃ z, w3.heap.size = z := ⟨_, rfl⟩
 have kM : Blk W4 gm 44 #[.int .i64 r, .int .i64 k, .slice A n cp] := by rw [← hW4, ← hgm]; exact Blk.new _ _ _
 have hs4 : W4.heap.size = gm + 1 := by rw [← hW4, ← hgm]; simp
 have hR4 := (hs.below gb).wider (by omega : w2.heap.size ≤ w2.heap.size + 1) (Nat.le_of_eq hgm)
 have hcl3 := hC3.ltF
 have HC4 := Lib.hid ((Ck.of_below (c := c) gb).keep hC3)
 have HW4 := Lib.hid (hW3.trans (gb.mono (by omega)))
 have HM4 := Lib.hid kM
 have HR4 := Lib.hid hR4
 have HI := Lib.hid (And.intro hI1 hI2)
 have hgmc : gm ≠ c := by omega
 have hgW : W.heap.size ≤ gm := by omega
 clear kM hR4 gb hs hW3 hC3 hb3 hC2 HW2 hI1 hI2
 go_wp2_with fail
 try rw [hW4]
 try rw [hgm]
 clear hW4 hgm
 refine (l1Once_any c 6 _ HC4.out ⟨by omega, by omega⟩).mono ?_; rintro e w5 ⟨b, rfl, hb5⟩
 have HC5 := Lib.hid (hb5.keep HC4.out)
 have HW5 := Lib.hid (HW4.out.trans (hb5.below hcs (by omega)))
 have HM5 := Lib.hid (HM4.out.ck hb5 hgmc)
 have HR5 := Lib.hid (HR4.out.ckF hb5 hcl2)
 have hs5 := hb5.size
 have hgm5 : gm < w5.heap.size := by omega
 clear hb5 HC4 HW4 HM4 HR4
 rcases b with _ | _
 ·obtain ⟨r4, hr4, er4⟩ : ∃ z : Nat, z ≤ 4 ∧ max 0 (min 4 r) = (z : Int) := ⟨(max 0 (min 4 r)).toNat, by omega, by omega⟩
  obtain ⟨k4, hk4, ek4⟩ : ∃ z : Nat, z ≤ 4 ∧ max 0 (min 4 k) = (z : Int) := ⟨(max 0 (min 4 k)).toNat, by omega, by omega⟩
  have HE := Lib.hid (And.intro er4 ek4)
  clear er4 ek4
  go_wp2
  refine wp_region_netK (c) (by kernel_rfl) [.eq (.int .i64 p), .eq (.agg #[.int .i64 r, .int .i64 k, .slice A n cp]), .eq (.pointer (some ⟨c, 0, none⟩)), .eq (.int .i64 p), .eq (.pointer (some ⟨gm, 0, none⟩)), .eq (.int .i64 r), .eq (.int .i64 (min 4 r)), .eq (.int .i64 (max 0 (min 4 r))), .eq (.pointer (some ⟨gm, 1, none⟩)), .eq (.int .i64 k), .eq (.int .i64 (min 4 k)), .eq (.int .i64 (max 0 (min 4 k))), rel 12 (fun u lo hi w => ∃ m2, MxO w lo hi u m2 ∧ m2.a.length ≤ 16 ∧ c < lo), .eq (.int .i64 p)] [[], [], [], [], [], [4], [4, 5], [4, 5, 6], [], [8], [8, 9], [8, 9, 10], [2, 3, 4, 5, 6, 7, 8, 9, 10, 11], [0, 2, 3, 4, 5, 6, 7, 8, 9, 10, 11, 12], [0, 1, 2, 3, 4, 5, 6, 7, 8, 9, 10, 11, 12, 13], [0, 1, 2, 3, 4, 5, 6, 7, 8, 9, 10, 11, 12, 13, 14]] 14 (by kernel_rfl) ⟨trivial, trivial, trivial, trivial, trivial, trivial, trivial, trivial, trivial, trivial, trivial, trivial, rel_stableK (fun u lo hi w w' ⟨m2, h1, h2, h3⟩ hb => ⟨m2, h1.chg hb.chg (.inr (by omega)), h2, h3⟩), trivial, trivial⟩ ⟨?_, ?_, ?_, ?_, ?_, ?_, ?_, ?_, ?_, ?_, ?_, ?_, ?_, ?_, trivial⟩ ?_
  ·intro x w hb hk Q' hQ
   clear hk
   simp only [netE] at hQ ⊢
   go_wp2
   exact hQ (.int .i64 p) _ (Ck.refl _ _) rfl
  ·intro x w hb hk Q' hQ
   clear hk
   simp only [netE] at hQ ⊢
   have z0 := (HM5.out.ck hb hgmc).cell' (i := 0) rfl
   have z1 := (HM5.out.ck hb hgmc).cell' (i := 1) rfl
   have z2 := (HM5.out.ck hb hgmc).cell' (i := 2) rfl
   go_wp2
   exact hQ (.agg #[.int .i64 r, .int .i64 k, .slice A n cp]) _ (Ck.refl _ _) rfl
  ·intro x w hb hk Q' hQ
   clear hk
   simp only [netE] at hQ ⊢
   go_wp2
   exact hQ (.pointer (some ⟨c, 0, none⟩)) _ (Ck.refl _ _) rfl
  ·intro x w hb hk Q' hQ
   clear hk
   simp only [netE] at hQ ⊢
   go_wp2
   exact hQ (.int .i64 p) _ (Ck.refl _ _) rfl
  ·intro x w hb hk Q' hQ
   clear hk
   simp only [netE] at hQ ⊢
   go_wp2
   exact hQ (.pointer (some ⟨gm, 0, none⟩)) _ (Ck.refl _ _) rfl
  ·intro x w hb hk Q' hQ
   have h4 : x.v 4 = _ := (hk 4 (by decide)).1
   clear hk
   simp only [netE] at hQ ⊢
   simp only [h4] at hQ ⊢
   clear h4
   have z0 := (HM5.out.ck hb hgmc).cell' (i := 0) rfl
   go_wp2
   exact hQ (.int .i64 r) _ (Ck.refl _ _) rfl
  ·intro x w hb hk Q' hQ
   have h5 : x.v 5 = _ := (hk 5 (by decide)).1
   clear hk
   simp only [netE] at hQ ⊢
   simp only [h5] at hQ ⊢
   clear h5
   go_wp2
   exact hQ (.int .i64 (min 4 r)) _ (Ck.refl _ _) rfl
  ·intro x w hb hk Q' hQ
   have h6 : x.v 6 = _ := (hk 6 (by decide)).1
   clear hk
   simp only [netE] at hQ ⊢
   simp only [h6] at hQ ⊢
   clear h6
   go_wp2
   exact hQ (.int .i64 (max 0 (min 4 r))) _ (Ck.refl _ _) rfl
  ·intro x w hb hk Q' hQ
   clear hk
   simp only [netE] at hQ ⊢
   go_wp2
   exact hQ (.pointer (some ⟨gm, 1, none⟩)) _ (Ck.refl _ _) rfl
  ·intro x w hb hk Q' hQ
   have h8 : x.v 8 = _ := (hk 8 (by decide)).1
   clear hk
   simp only [netE] at hQ ⊢
   simp only [h8] at hQ ⊢
   clear h8
   have z0 := (HM5.out.ck hb hgmc).cell' (i := 1) rfl
   go_wp2
   exact hQ (.int .i64 k) _ (Ck.refl _ _) rfl
  ·intro x w hb hk Q' hQ
   have h9 : x.v 9 = _ := (hk 9 (by decide)).1
   clear hk
   simp only [netE] at hQ ⊢
   simp only [h9] at hQ ⊢
   clear h9
   go_wp2
   exact hQ (.int .i64 (min 4 k)) _ (Ck.refl _ _) rfl
  ·intro x w hb hk Q' hQ
   have h10 : x.v 10 = _ := (hk 10 (by decide)).1
   clear hk
   simp only [netE] at hQ ⊢
   simp only [h10] at hQ ⊢
   clear h10
   go_wp2
   exact hQ (.int .i64 (max 0 (min 4 k))) _ (Ck.refl _ _) rfl
  ·intro x w hb hk Q' hQ
   have h2 : x.v 2 = _ := (hk 2 (by decide)).1
   have h3 : x.v 3 = _ := (hk 3 (by decide)).1
   have h4 : x.v 4 = _ := (hk 4 (by decide)).1
   have h5 : x.v 5 = _ := (hk 5 (by decide)).1
   have h6 : x.v 6 = _ := (hk 6 (by decide)).1
   have h7 : x.v 7 = _ := (hk 7 (by decide)).1
   have h8 : x.v 8 = _ := (hk 8 (by decide)).1
   have h9 : x.v 9 = _ := (hk 9 (by decide)).1
   have h10 : x.v 10 = _ := (hk 10 (by decide)).1
   have h11 : x.v 11 = _ := (hk 11 (by decide)).1
   clear hk
   simp only [netE] at hQ ⊢
   simp only [h2, h3, h4, h5, h6, h7, h8, h9, h10, h11] at hQ ⊢
   clear h2 h3 h4 h5 h6 h7 h8 h9 h10 h11
   have hcw := (hb.keep HC5.out).ltF
   go_wp2_with fail
   rw [HE.out.1, HE.out.2] at hQ ⊢
   refine (l3Random_any c p r4 k4 _ (hb.keep HC5.out) hp (by omega) (by omega)).mono ?_; rintro e w7 ⟨v7, l7, rfl, hM7, hl7, _, hb7⟩
   go_wp2
   have h16 : l7.length ≤ 16 := by
    rw [hl7]
    have : r4 * k4 ≤ 4 * 4 := Nat.mul_le_mul hr4 hk4
    omega
   exact hQ _ _ hb7 ⟨_, hM7.wider (Nat.le_succ _) (Nat.le_refl _), h16, hcw⟩
  ·intro x w hb hk Q' hQ
   have h0 : x.v 0 = _ := (hk 0 (by decide)).1
   clear hk
   simp only [netE] at hQ ⊢
   simp only [h0] at hQ ⊢
   clear h0
   go_wp2
   exact hQ (.int .i64 p) _ (Ck.refl _ _) rfl
  ·intro x w hb hk hiv hdj
   have h0 : x.v 0 = .int .i64 p := hk 0 (by decide)
   have h1 : x.v 1 = .agg #[.int .i64 r, .int .i64 k, .slice A n cp] := hk 1 (by decide)
   have h2 : x.v 2 = .pointer (some ⟨c, 0, none⟩) := hk 2 (by decide)
   have h3 : x.v 3 = .int .i64 p := hk 3 (by decide)
   have h4 : x.v 4 = .pointer (some ⟨gm, 0, none⟩) := hk 4 (by decide)
   have h5 : x.v 5 = .int .i64 r := hk 5 (by decide)
   have h6 : x.v 6 = .int .i64 (min 4 r) := hk 6 (by decide)
   have h7 : x.v 7 = .int .i64 (max 0 (min 4 r)) := hk 7 (by decide)
   have h8 : x.v 8 = .pointer (some ⟨gm, 1, none⟩) := hk 8 (by decide)
   have h9 : x.v 9 = .int .i64 k := hk 9 (by decide)
   have h10 : x.v 10 = .int .i64 (min 4 k) := hk 10 (by decide)
   have h11 : x.v 11 = .int .i64 (max 0 (min 4 k)) := hk 11 (by decide)
   have h12 : ∃ m2, MxO w (x.lo 12) (x.hi 12) (x.v 12) m2 ∧ m2.a.length ≤ 16 ∧ c < (x.lo 12) := hk 12 (by decide)
   have h13 : x.v 13 = .int .i64 p := hk 13 (by decide)
   clear hk
   simp only [netE]
   simp only [List.drop_succ_cons, List.drop_zero, h0, h1, h2, h3, h4, h5, h6, h7, h8, h9, h10, h11, h13]
   clear h0 h1 h2 h3 h4 h5 h6 h7 h8 h9 h10 h11 h13
   obtain ⟨⟨r9, k9, l9⟩, hM9, hl9, hcl9⟩ := h12
   obtain ⟨s9, e9, hs9, hI9⟩ := hM9
   obtain ⟨A9, c9, rfl, _⟩ := hs9.1.form
   simp only at hs9 e9 hl9 hI9
   obtain ⟨n9, hn9⟩ : ∃ n, l9.length = n := ⟨_, rfl⟩
   rw [hn9] at hs9 e9 hl9
   rw [e9]
   have hiv4 := hiv 12 (by omega)
   have hsb := hb.size
   have hb0 := HW5.out.trans (hb.below hcs (by omega))
   have HA := Lib.hid (HR5.out.ckF hb hcl2)
   have HZ := Lib.hid hs9
   have HI9 := Lib.hid hI9
   have HL9 := Lib.hid (And.intro (hn ▸ hml : l3.length ≤ 10) (by omega : l9.length ≤ 16))
   clear hb hiv hdj e9 hs9 hI9
   have kz := K1.out.below hb0 (by omega)
   have kz2 := K2.out.below hb0 (by omega)
   have fr := kz.frozen
   have fr2 := kz2.frozen
   have r0 := kz.cell' (i := 0) rfl
   have r1 := kz.cell' (i := 1) rfl
   have r2 := kz.cell' (i := 2) rfl
   have s0 := kz2.cell' (i := 0) rfl
   have s1 := kz2.cell' (i := 1) rfl
   have s2 := kz2.cell' (i := 2) rfl
   have hcA : Chg w0.heap.size (w0.heap.size + 2) w _ := ((chg_set (lo := w0.heap.size) (hi := w0.heap.size + 2) (w := w) (p := ⟨w0.heap.size, 0, none⟩) (u := .int .i64 r) (by simp) (by simp)).trans (chg_set (p := ⟨w0.heap.size, 1, none⟩) (u := .int .i64 k) (by simp) (by simp))).trans (chg_set (p := ⟨w0.heap.size, 2, none⟩) (u := .slice A n cp) (by simp) (by simp))
   have hcB := ((hcA.trans (chg_set (p := ⟨w0.heap.size + 1, 0, none⟩) (u := .int .i64 r9) (by simp) (by simp))).trans (chg_set (p := ⟨w0.heap.size + 1, 1, none⟩) (u := .int .i64 k9) (by simp) (by simp))).trans (chg_set (p := ⟨w0.heap.size + 1, 2, none⟩) (u := .slice A9 n9 c9) (by simp) (by simp))
   have hzB := hcB.size
   have OF := Lib.hid ((HA.out.chg hcB (.inr (by omega))).wider (lo' := w0.heap.size) (by omega) (by omega : _ ≤ (w).heap.size))
   have OG := Lib.hid ((HZ.out.chg hcB (.inr (by omega))).wider (lo' := w0.heap.size) (by omega) (by omega : _ ≤ (w).heap.size))
   have GS := Lib.hid ((G0.out.trans (hb0.mono (by omega))).trans (hcB.below (Nat.le_refl _) (by omega)))
   clear hcA hcB kz kz2 hb0 hzB
   go_wp2
   refine bodyPost_ret (v := .tuple #[.int .i64 p, .agg #[.int .i64 r, .int .i64 k, .slice A n cp], .agg #[.int .i64 r9, .int .i64 k9, .slice A9 n9 c9]]) (by simp [results, go_sem, r0, r1, r2, s0, s1, s2]) rfl ?_
   clear fr fr2 r0 r1 r2 s0 s1 s2
   unfold TwoM
   simp only [World.size_setCell]
   exact ⟨p, _, ⟨r, k, l3⟩, _, ⟨r9, k9, l9⟩, rfl, hp, mxO_of OF.out HI.out, mxO_of OG.out HI9.out, HL9.out.1, HL9.out.2, GS.out⟩
 ·go_wp2
  refine wp_region_netK (c) (by kernel_rfl) [.eq (.int .i64 p), .eq (.agg #[.int .i64 r, .int .i64 k, .slice A n cp]), .eq (.pointer (some ⟨c, 0, none⟩)), .eq (.int .i64 p), rel 4 (fun u lo hi w => ∃ m2, MxO w lo hi u m2 ∧ m2.a.length ≤ 10 ∧ c < lo), .eq (.int .i64 p)] [[], [], [], [], [2, 3], [0, 2, 3, 4], [0, 1, 2, 3, 4, 5], [0, 1, 2, 3, 4, 5, 6]] 6 (by kernel_rfl) ⟨trivial, trivial, trivial, trivial, rel_stableK (fun u lo hi w w' ⟨m2, h1, h2, h3⟩ hb => ⟨m2, h1.chg hb.chg (.inr (by omega)), h2, h3⟩), trivial, trivial⟩ ⟨?_, ?_, ?_, ?_, ?_, ?_, trivial⟩ ?_
  ·intro x w hb hk Q' hQ
   clear hk
   simp only [netE] at hQ ⊢
   go_wp2
   exact hQ (.int .i64 p) _ (Ck.refl _ _) rfl
  ·intro x w hb hk Q' hQ
   clear hk
   simp only [netE] at hQ ⊢
   have z0 := (HM5.out.ck hb hgmc).cell' (i := 0) rfl
   have z1 := (HM5.out.ck hb hgmc).cell' (i := 1) rfl
   have z2 := (HM5.out.ck hb hgmc).cell' (i := 2) rfl
   go_wp2
   exact hQ (.agg #[.int .i64 r, .int .i64 k, .slice A n cp]) _ (Ck.refl _ _) rfl
  ·intro x w hb hk Q' hQ
   clear hk
   simp only [netE] at hQ ⊢
   go_wp2
   exact hQ (.pointer (some ⟨c, 0, none⟩)) _ (Ck.refl _ _) rfl
  ·intro x w hb hk Q' hQ
   clear hk
   simp only [netE] at hQ ⊢
   go_wp2
   exact hQ (.int .i64 p) _ (Ck.refl _ _) rfl
  ·intro x w hb hk Q' hQ
   have h2 : x.v 2 = _ := (hk 2 (by decide)).1
   have h3 : x.v 3 = _ := (hk 3 (by decide)).1
   clear hk
   simp only [netE] at hQ ⊢
   simp only [h2, h3] at hQ ⊢
   clear h2 h3
   have hcw := (hb.keep HC5.out).ltF
   go_wp2_with fail
   refine (l3Any_any c p _ (hb.keep HC5.out) hp).mono ?_; rintro e w7 ⟨v7, m7, rfl, hM7, hl7, hb7⟩
   go_wp2
   exact hQ _ _ hb7 ⟨m7, hM7.wider (Nat.le_succ _) (Nat.le_refl _), hl7, hcw⟩
  ·intro x w hb hk Q' hQ
   have h0 : x.v 0 = _ := (hk 0 (by decide)).1
   clear hk
   simp only [netE] at hQ ⊢
   simp only [h0] at hQ ⊢
   clear h0
   go_wp2
   exact hQ (.int .i64 p) _ (Ck.refl _ _) rfl
  ·intro x w hb hk hiv hdj
   have h0 : x.v 0 = .int .i64 p := hk 0 (by decide)
   have h1 : x.v 1 = .agg #[.int .i64 r, .int .i64 k, .slice A n cp] := hk 1 (by decide)
   have h2 : x.v 2 = .pointer (some ⟨c, 0, none⟩) := hk 2 (by decide)
   have h3 : x.v 3 = .int .i64 p := hk 3 (by decide)
   have h4 : ∃ m2, MxO w (x.lo 4) (x.hi 4) (x.v 4) m2 ∧ m2.a.length ≤ 10 ∧ c < (x.lo 4) := hk 4 (by decide)
   have h5 : x.v 5 = .int .i64 p := hk 5 (by decide)
   clear hk
   simp only [netE]
   simp only [List.drop_succ_cons, List.drop_zero, h0, h1, h2, h3, h5]
   clear h0 h1 h2 h3 h5
   obtain ⟨⟨r9, k9, l9⟩, hM9, hl9, hcl9⟩ := h4
   obtain ⟨s9, e9, hs9, hI9⟩ := hM9
   obtain ⟨A9, c9, rfl, _⟩ := hs9.1.form
   simp only at hs9 e9 hl9 hI9
   obtain ⟨n9, hn9⟩ : ∃ n, l9.length = n := ⟨_, rfl⟩
   rw [hn9] at hs9 e9 hl9
   rw [e9]
   have hiv4 := hiv 4 (by omega)
   have hsb := hb.size
   have hb0 := HW5.out.trans (hb.below hcs (by omega))
   have HA := Lib.hid (HR5.out.ckF hb hcl2)
   have HZ := Lib.hid hs9
   have HI9 := Lib.hid hI9
   have HL9 := Lib.hid (And.intro (hn ▸ hml : l3.length ≤ 10) (by omega : l9.length ≤ 16))
   clear hb hiv hdj e9 hs9 hI9
   have kz := K1.out.below hb0 (by omega)
   have kz2 := K2.out.below hb0 (by omega)
   have fr := kz.frozen
   have fr2 := kz2.frozen
   have r0 := kz.cell' (i := 0) rfl
   have r1 := kz.cell' (i := 1) rfl
   have r2 := kz.cell' (i := 2) rfl
   have s0 := kz2.cell' (i := 0) rfl
   have s1 := kz2.cell' (i := 1) rfl
   have s2 := kz2.cell' (i := 2) rfl
   have hcA : Chg w0.heap.size (w0.heap.size + 2) w _ := ((chg_set (lo := w0.heap.size) (hi := w0.heap.size + 2) (w := w) (p := ⟨w0.heap.size, 0, none⟩) (u := .int .i64 r) (by simp) (by simp)).trans (chg_set (p := ⟨w0.heap.size, 1, none⟩) (u := .int .i64 k) (by simp) (by simp))).trans (chg_set (p := ⟨w0.heap.size, 2, none⟩) (u := .slice A n cp) (by simp) (by simp))
   have hcB := ((hcA.trans (chg_set (p := ⟨w0.heap.size + 1, 0, none⟩) (u := .int .i64 r9) (by simp) (by simp))).trans (chg_set (p := ⟨w0.heap.size + 1, 1, none⟩) (u := .int .i64 k9) (by simp) (by simp))).trans (chg_set (p := ⟨w0.heap.size + 1, 2, none⟩) (u := .slice A9 n9 c9) (by simp) (by simp))
   have hzB := hcB.size
   have OF := Lib.hid ((HA.out.chg hcB (.inr (by omega))).wider (lo' := w0.heap.size) (by omega) (by omega : _ ≤ (w).heap.size))
   have OG := Lib.hid ((HZ.out.chg hcB (.inr (by omega))).wider (lo' := w0.heap.size) (by omega) (by omega : _ ≤ (w).heap.size))
   have GS := Lib.hid ((G0.out.trans (hb0.mono (by omega))).trans (hcB.below (Nat.le_refl _) (by omega)))
   clear hcA hcB kz kz2 hb0 hzB
   go_wp2
   refine bodyPost_ret (v := .tuple #[.int .i64 p, .agg #[.int .i64 r, .int .i64 k, .slice A n cp], .agg #[.int .i64 r9, .int .i64 k9, .slice A9 n9 c9]]) (by simp [results, go_sem, r0, r1, r2, s0, s1, s2]) rfl ?_
   clear fr fr2 r0 r1 r2 s0 s1 s2
   unfold TwoM
   simp only [World.size_setCell]
   exact ⟨p, _, ⟨r, k, l3⟩, _, ⟨r9, k9, l9⟩, rfl, hp, mxO_of OF.out HI.out, mxO_of OG.out HI9.out, HL9.out.1, HL9.out.2, GS.out⟩
set_option maxHeartbeats 3200000 in
set_option maxRecDepth 100000 in
theorem drawPencilOf_any (u : Value) (l : List Int) (w0 : World) (hu : SlY w0 w0.heap.size u l) :
  Calls Tryz.prog 21 #[u] w0 fun e w' => TwoM w0 e w' := by
 obtain ⟨W, hW⟩ : ∃ W, W = (w0.alloc (.cells #[.int .i64 0, .int .i64 0, .slice none 0 0] 44)).alloc (.cells #[.int .i64 0, .int .i64 0, .slice none 0 0] 44) := ⟨_, rfl⟩
 have g0 : Below w0.heap.size w0 W := by rw [hW]; exact ((Below.refl _ _).alloc (Nat.le_refl _) _).alloc (by simp) _
 have k1 : Blk W w0.heap.size 44 #[.int .i64 0, .int .i64 0, .slice none 0 0] := by rw [hW]; exact (Blk.new _ _ _).alloc _
 have k2 : Blk W (w0.heap.size + 1) 44 #[.int .i64 0, .int .i64 0, .slice none 0 0] := by
  rw [hW]
  have := Blk.new (w0.alloc (.cells #[.int .i64 0, .int .i64 0, .slice none 0 0] 44)) 44 #[.int .i64 0, .int .i64 0, .slice none 0 0]
  simpa only [World.size_alloc] using this
 have sW : W.heap.size = w0.heap.size + 1 + 1 := by rw [hW]; simp
 have hu' := SlY.next g0 hu
 clear hu
 have K1 := Lib.hid k1
 have K2 := Lib.hid k2
 have G0 := Lib.hid g0
 clear k1 k2 g0
 go_enter Tryz.func21, Tryz.ntmps21
 go_wp2_with fail
 rw [← hW]; clear hW
 refine (l3Two_any u l _ hu').mono ?_; rintro e w1 ⟨p, v, ⟨r, k, l3⟩, z, ⟨r9, k9, l9⟩, rfl, hp, hA, hZ, hl3, hl9, hb1⟩
 obtain ⟨s, rfl, hs, hI⟩ := hA
 obtain ⟨A, cp, rfl, _⟩ := hs.1.form
 obtain ⟨s9, rfl, hs9, hI9⟩ := hZ
 obtain ⟨A9, c9, rfl, _⟩ := hs9.1.form
 simp only at hs hs9 hI hI9 hl3 hl9 ⊢
 have HL9 := Lib.hid (And.intro hl3 hl9)
 obtain ⟨n, hn⟩ : ∃ n, l3.length = n := ⟨_, rfl⟩
 obtain ⟨n9, hn9⟩ : ∃ n, l9.length = n := ⟨_, rfl⟩
 rw [hn] at hs ⊢
 rw [hn9] at hs9 ⊢
 obtain ⟨W2, hW2⟩ : ∃ z, (w1.alloc (.cells #[.int .i64 r, .int .i64 k, .slice A n cp] 44)).alloc (.cells #[.int .i64 r9, .int .i64 k9, .slice A9 n9 c9] 44) = z := ⟨_, rfl⟩
 have gb : Below w1.heap.size w1 W2 := by rw [← hW2]; exact ((Below.refl _ _).alloc (Nat.le_refl _) _).alloc (by simp) _
 obtain ⟨g6, hg6⟩ : ∃ z, w1.heap.size = z := ⟨_, rfl⟩
 have k6 : Blk W2 g6 44 #[.int .i64 r, .int .i64 k, .slice A n cp] := by rw [← hW2, ← hg6]; exact (Blk.new _ _ _).alloc _
 have k7 : Blk W2 (g6 + 1) 44 #[.int .i64 r9, .int .i64 k9, .slice A9 n9 c9] := by
  rw [← hW2, ← hg6]
  have := Blk.new (w1.alloc (.cells #[.int .i64 r, .int .i64 k, .slice A n cp] 44)) 44 #[.int .i64 r9, .int .i64 k9, .slice A9 n9 c9]
  simpa only [World.size_alloc] using this
 have hs2 : W2.heap.size = g6 + 1 + 1 := by rw [← hW2, ← hg6]; simp
 have hs1 := hb1.size
 have HA2 := Lib.hid (hs.below gb)
 have HZ2 := Lib.hid (hs9.below gb)
 have HB2 := Lib.hid (hb1.trans (gb.mono (by omega)))
 have HM6 := Lib.hid k6
 have HM7 := Lib.hid k7
 have HI := Lib.hid hI
 have HI9 := Lib.hid hI9
 have hW6 : W.heap.size ≤ g6 := by omega
 have hne7 : g6 + 1 ≠ w0.heap.size := by omega
 rw [hg6] at HA2 HZ2
 clear k6 k7 gb hs hs9 hb1 hI hI9 hl3 hl9
 go_wp2_with fail
 try rw [hW2]
 try rw [hg6]
 clear hW2 hg6
 refine wp_region_net2 (by kernel_rfl) [.eq (.int .i64 p), .eq (.agg #[.int .i64 r, .int .i64 k, .slice A n cp]), .eq (.agg #[.int .i64 r9, .int .i64 k9, .slice A9 n9 c9]), .eq (.int .i64 p)] [[], [], [], [0], [0, 1, 3], [0, 1, 2, 3, 4]] 4 2 [0, 1, 3] (by kernel_rfl) rfl ⟨trivial, trivial, trivial, trivial, trivial⟩ ⟨?_, ?_, ?_, ?_, trivial⟩ ?_ ?_
 ·intro x w hb hk Q' hQ
  clear hk
  simp only [netE] at hQ ⊢
  go_wp2
  exact hQ _ _ (Below.refl _ _) rfl
 ·intro x w hb hk Q' hQ
  clear hk
  simp only [netE] at hQ ⊢
  have z0 := (HM6.out.below hb (by omega)).cell' (i := 0) rfl
  have z1 := (HM6.out.below hb (by omega)).cell' (i := 1) rfl
  have z2 := (HM6.out.below hb (by omega)).cell' (i := 2) rfl
  go_wp2
  exact hQ _ _ (Below.refl _ _) rfl
 ·intro x w hb hk Q' hQ
  clear hk
  simp only [netE] at hQ ⊢
  have z0 := (HM7.out.below hb (by omega)).cell' (i := 0) rfl
  have z1 := (HM7.out.below hb (by omega)).cell' (i := 1) rfl
  have z2 := (HM7.out.below hb (by omega)).cell' (i := 2) rfl
  go_wp2
  exact hQ _ _ (Below.refl _ _) rfl
 ·intro x w hb hk Q' hQ
  have h0 : x.v 0 = _ := (hk 0 (by decide)).1
  clear hk
  simp only [netE] at hQ ⊢
  simp only [h0] at hQ ⊢
  clear h0
  go_wp2
  exact hQ _ _ (Below.refl _ _) rfl
 ·intro x w hb hk hiv hdj
  have h0 : x.v 0 = .int .i64 p := hk 0 (by decide)
  have h1 : x.v 1 = .agg #[.int .i64 r, .int .i64 k, .slice A n cp] := hk 1 (by decide)
  have h2 : x.v 2 = .agg #[.int .i64 r9, .int .i64 k9, .slice A9 n9 c9] := hk 2 (by decide)
  have h3 : x.v 3 = .int .i64 p := hk 3 (by decide)
  clear hk
  simp only [netE]
  simp only [List.drop_succ_cons, List.drop_zero, h0, h1, h2, h3]
  clear h0 h1 h2 h3
  have z0 := (HM7.out.below hb (by omega)).cell' (i := 0) rfl
  have z1 := (HM7.out.below hb (by omega)).cell' (i := 1) rfl
  have z2 := (HM7.out.below hb (by omega)).cell' (i := 2) rfl
  have hsb := hb.size
  have hb0 := HB2.out.trans (hb.mono (by omega))
  have HA := Lib.hid (HA2.out.below (hb.mono (by omega)))
  have HZ := Lib.hid (HZ2.out.below (hb.mono (by omega)))
  clear hb hiv hdj
  have kz := K1.out.below hb0 (by omega)
  have kz2 := K2.out.below hb0 (by omega)
  have fr := kz.frozen
  have fr2 := kz2.frozen
  have r0 := kz.cell' (i := 0) rfl
  have r1 := kz.cell' (i := 1) rfl
  have r2 := kz.cell' (i := 2) rfl
  have s0 := kz2.cell' (i := 0) rfl
  have s1 := kz2.cell' (i := 1) rfl
  have s2 := kz2.cell' (i := 2) rfl
  have hcA : Chg w0.heap.size (w0.heap.size + 2) w _ := ((chg_set (lo := w0.heap.size) (hi := w0.heap.size + 2) (w := w) (p := ⟨w0.heap.size, 0, none⟩) (u := .int .i64 r) (by simp) (by simp)).trans (chg_set (p := ⟨w0.heap.size, 1, none⟩) (u := .int .i64 k) (by simp) (by simp))).trans (chg_set (p := ⟨w0.heap.size, 2, none⟩) (u := .slice A n cp) (by simp) (by simp))
  have hcB := ((hcA.trans (chg_set (p := ⟨w0.heap.size + 1, 0, none⟩) (u := .int .i64 r9) (by simp) (by simp))).trans (chg_set (p := ⟨w0.heap.size + 1, 1, none⟩) (u := .int .i64 k9) (by simp) (by simp))).trans (chg_set (p := ⟨w0.heap.size + 1, 2, none⟩) (u := .slice A9 n9 c9) (by simp) (by simp))
  have hzB := hcB.size
  have OF := Lib.hid ((HA.out.chg hcB (.inr (by omega))).wider (lo' := w0.heap.size) (by omega) (by omega : _ ≤ (w).heap.size))
  have OG := Lib.hid ((HZ.out.chg hcB (.inr (by omega))).wider (lo' := w0.heap.size) (by omega) (by omega : _ ≤ (w).heap.size))
  have GS := Lib.hid ((G0.out.trans (hb0.mono (by omega))).trans (hcB.below (Nat.le_refl _) (by omega)))
  clear hcA hcB kz kz2 hb0 hzB
  go_wp2
  refine bodyPost_ret (v := .tuple #[.int .i64 p, .agg #[.int .i64 r, .int .i64 k, .slice A n cp], .agg #[.int .i64 r9, .int .i64 k9, .slice A9 n9 c9]]) (by simp [results, go_sem, r0, r1, r2, s0, s1, s2]) rfl ?_
  clear fr fr2 r0 r1 r2 s0 s1 s2
  unfold TwoM
  simp only [World.size_setCell]
  exact ⟨p, _, ⟨r, k, l3⟩, _, ⟨r9, k9, l9⟩, rfl, hp, mxO_of OF.out HI.out, mxO_of OG.out HI9.out, HL9.out.1, HL9.out.2, GS.out⟩
 ·intro x w hb hk hiv hdj om os hom hos
  simp only [List.getElem?_cons_zero, List.getElem?_cons_succ, Option.some.injEq] at hom hos
  subst hom hos
  have h0 : x.v 0 = .int .i64 p := hk 0 (by decide)
  have h1 : x.v 1 = .agg #[.int .i64 r, .int .i64 k, .slice A n cp] := hk 1 (by decide)
  have h3 : x.v 3 = .int .i64 p := hk 3 (by decide)
  clear hk
  simp only [List.foldl_cons, List.foldl_nil, netE]
  simp only [List.drop_succ_cons, List.drop_zero, h0, h1, h3]
  clear h0 h1 h3
  have z0 := (HM7.out.below hb (by omega)).cell' (i := 0) rfl
  have z1 := (HM7.out.below hb (by omega)).cell' (i := 1) rfl
  have z2 := (HM7.out.below hb (by omega)).cell' (i := 2) rfl
  have hsb := hb.size
  have hb0 := HB2.out.trans (hb.mono (by omega))
  have HA := Lib.hid (HA2.out.below (hb.mono (by omega)))
  have HZ := Lib.hid (HZ2.out.below (hb.mono (by omega)))
  clear hb hiv hdj
  have kz := K1.out.below hb0 (by omega)
  have kz2 := K2.out.below hb0 (by omega)
  have fr := kz.frozen
  have fr2 := kz2.frozen
  have r0 := kz.cell' (i := 0) rfl
  have r1 := kz.cell' (i := 1) rfl
  have r2 := kz.cell' (i := 2) rfl
  have s0 := kz2.cell' (i := 0) rfl
  have s1 := kz2.cell' (i := 1) rfl
  have s2 := kz2.cell' (i := 2) rfl
  have hcA : Chg w0.heap.size (w0.heap.size + 2) w _ := ((chg_set (lo := w0.heap.size) (hi := w0.heap.size + 2) (w := w) (p := ⟨w0.heap.size, 0, none⟩) (u := .int .i64 r) (by simp) (by simp)).trans (chg_set (p := ⟨w0.heap.size, 1, none⟩) (u := .int .i64 k) (by simp) (by simp))).trans (chg_set (p := ⟨w0.heap.size, 2, none⟩) (u := .slice A n cp) (by simp) (by simp))
  have hcB := ((hcA.trans (chg_set (p := ⟨w0.heap.size + 1, 0, none⟩) (u := .int .i64 r9) (by simp) (by simp))).trans (chg_set (p := ⟨w0.heap.size + 1, 1, none⟩) (u := .int .i64 k9) (by simp) (by simp))).trans (chg_set (p := ⟨w0.heap.size + 1, 2, none⟩) (u := .slice A9 n9 c9) (by simp) (by simp))
  have hzB := hcB.size
  have OF := Lib.hid ((HA.out.chg hcB (.inr (by omega))).wider (lo' := w0.heap.size) (by omega) (by omega : _ ≤ (w).heap.size))
  have OG := Lib.hid ((HZ.out.chg hcB (.inr (by omega))).wider (lo' := w0.heap.size) (by omega) (by omega : _ ≤ (w).heap.size))
  have GS := Lib.hid ((G0.out.trans (hb0.mono (by omega))).trans (hcB.below (Nat.le_refl _) (by omega)))
  clear hcA hcB kz kz2 hb0 hzB
  go_wp2
  refine bodyPost_ret (v := .tuple #[.int .i64 p, .agg #[.int .i64 r, .int .i64 k, .slice A n cp], .agg #[.int .i64 r9, .int .i64 k9, .slice A9 n9 c9]]) (by simp [results, go_sem, r0, r1, r2, s0, s1, s2]) rfl ?_
  clear fr fr2 r0 r1 r2 s0 s1 s2
  unfold TwoM
  simp only [World.size_setCell]
  exact ⟨p, _, ⟨r, k, l3⟩, _, ⟨r9, k9, l9⟩, rfl, hp, mxO_of OF.out HI.out, mxO_of OG.out HI9.out, HL9.out.1, HL9.out.2, GS.out⟩
end Go.Proofs.YthhjoamgcfiecaaGreat
