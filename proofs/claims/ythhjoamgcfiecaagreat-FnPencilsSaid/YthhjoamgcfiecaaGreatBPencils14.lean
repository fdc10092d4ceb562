/- FnPencils: the law holds for every argument. Part 14 of 18 of the proof: PenAt4, PenR, HomF, HomG, PenR2. No condition. -/
import Derived.Test.YthhjoamgcfiecaaGreatBPencils13
set_option linter.unusedVariables false
set_option linter.unusedSimpArgs false
namespace Go.Proofs.YthhjoamgcfiecaaGreat
open Go.RowKit
theorem plF_adM (p a b : Int) (r c : Nat) (fa fb : Nat → Nat → Int) : mxF r c (plF p (b % p) (plF p (a % p) (fun _ _ => 0) fa) fb) = mxF r c (adM p (scM p a fa) (scM p b fb)) :=
 mxF_congr fun i j _ _ => by
  simp only [plF, adM, scM, Int.zero_add]
  rw [Int.add_emod_emod]
theorem scM_rng {p k : Int} {f : Nat → Nat → Int} (hp : 2 ≤ p ∧ p ≤ 5) (i j : Nat) : 0 ≤ scM p k f i j ∧ scM p k f i j ≤ p - 1 := by
 have h1 := Int.emod_nonneg (k % p * f i j) (show p ≠ 0 by omega)
 have h2 := Int.emod_lt_of_pos (k % p * f i j) (show 0 < p by omega)
 unfold scM
 omega
set_option maxHeartbeats 12800000 in
set_option maxRecDepth 100000 in
theorem specPA_yes (u : Value) (x : Rp) (v1 v2 : Int) (w0 : World) (hu : RpR w0 w0.heap.size u x) (hv1 : I64 v1) (hv2 : I64 v2) (hyes : isPen x = true) :
  Calls Tryz.prog 20 #[u, .int .i64 v1, .int .i64 v2] w0 fun e w' => ∃ r, e = .returned (.tuple #[r, .bool (pAtP x v1 v2).2]) ∧ MxO w' w0.heap.size w'.heap.size r (pAtP x v1 v2).1 ∧ Below w0.heap.size w0 w' := by
 obtain ⟨C, R, fa, fb, ed, em, hC, hR, hp, hqq, rfa, rfb⟩ := pen_at hyes
 clear hqq
 have hpr := isFld_r hp
 have HPM := Lib.hid (show pAtP x v1 v2 = (mxF R C (adM x.p (scM x.p v1 fa) (scM x.p v2 fb)), true) by rw [pAtP_yes hyes, penM_of em, plF_adM])
 have hu' := hu
 have ed0 := ed
 have em0 := em
 obtain ⟨UA, ua, UC, uc, UE, ue, UH, uh, rfl, hq, hd, hm, hpI, ld, lm⟩ := hu.open_
 clear hu hq
 rw [ed] at hd ⊢
 rw [em] at hm ⊢
 have zd : ([(C : Int), (R : Int)] : List Int).length = 2 := rfl
 have zm : ([mxF R C fa, mxF R C fb] : List Mx).length = 2 := rfl
 obtain ⟨bd, od, x0, rfl, hbd, HX0, d0, _⟩ := SlI.at_ (k := 0) hd (by simp)
 obtain ⟨bd', od', x1, e1, hbd', HX1, d1, _⟩ := SlI.at_ (k := 1) hd (by simp)
 injection e1 with e1
 injection e1 with e1 e2
 subst e1 e2
 obtain ⟨bm, om, m0, A0, c0, rfl, hbm, HM0, y0, y1, y2, hs0, r0, r1, _⟩ := SlM.at_ (k := 0) hm (by simp)
 obtain ⟨bm', om', m1, A1, c1, e1, hbm', HM1, z0, z1, z2, hs1, r2, r3, _⟩ := SlM.at_ (k := 1) hm (by simp)
 injection e1 with e1
 injection e1 with e1 e2
 subst e1 e2
 have t0 := HX0.out
 have t1 := HX1.out
 have t2 := HM0.out
 have t3 := HM1.out
 simp only [List.getElem?_cons_zero, List.getElem?_cons_succ, Option.some.injEq] at t0 t1 t2 t3
 subst t0 t1 t2 t3
 simp only [Nat.zero_mul, Nat.add_zero, Nat.one_mul] at y0 y1 y2 z0 z1 z2 d0 d1
 have q1 : (mxF R C fa).r = (R : Int) := rfl
 have q2 : (mxF R C fa).c = (C : Int) := rfl
 have q3 : (mxF R C fb).r = (R : Int) := rfl
 have q4 : (mxF R C fb).c = (C : Int) := rfl
 obtain ⟨LA, hLA⟩ : ∃ L, (mxF R C fa).a.length = L := ⟨_, rfl⟩
 obtain ⟨LB, hLB⟩ : ∃ L, (mxF R C fb).a.length = L := ⟨_, rfl⟩
 have hM0 : MxR w0 w0.heap.size (.agg #[.int .i64 (R : Int), .int .i64 C, .slice A0 LA c0]) (mxF R C fa) := ⟨_, rfl, by rw [← hLA]; exact hs0, r0, r1⟩
 have hM1 : MxR w0 w0.heap.size (.agg #[.int .i64 (R : Int), .int .i64 C, .slice A1 LB c1]) (mxF R C fb) := ⟨_, rfl, by rw [← hLB]; exact hs1, r2, r3⟩
 rw [q1] at y0
 rw [q2] at y1
 rw [hLA] at y2
 rw [q3] at z0
 rw [q4] at z1
 rw [hLB] at z2
 rw [zd, zm]
 rw [ed0, em0, zd, zm] at hu'
 clear q1 q2 q3 q4 hLA hLB hs0 hs1 r0 r1 r2 r3 zd zm hd hm ed em ed0 em0 HX0 HX1 HM0 HM1 ld lm hbd' hbm'
 have HFA := Lib.hid rfa
 have HFB := Lib.hid rfb
 clear rfa rfb
 obtain ⟨W, hW⟩ : ∃ W, W = (w0.alloc (.cells #[.int .i64 x.p, .int .i64 x.q.v, .slice UA x.q.f.length ua, .slice UC x.q.t.length uc, .slice (some ⟨bd, od, none⟩) 2 ue, .slice (some ⟨bm, om, none⟩) 2 uh] 31)).alloc (.cells #[.int .i64 0, .int .i64 0, .slice none 0 0] 44) := ⟨_, rfl⟩
 have g0 : Below w0.heap.size w0 W := by rw [hW]; exact ((Below.refl _ _).alloc (Nat.le_refl _) _).alloc (by simp) _
 have kB : Blk W w0.heap.size 31 #[.int .i64 x.p, .int .i64 x.q.v, .slice UA x.q.f.length ua, .slice UC x.q.t.length uc, .slice (some ⟨bd, od, none⟩) 2 ue, .slice (some ⟨bm, om, none⟩) 2 uh] := by rw [hW]; exact (Blk.new _ _ _).alloc _
 have kR : Blk W (w0.heap.size + 1) 44 #[.int .i64 0, .int .i64 0, .slice none 0 0] := by
  rw [hW]
  have := Blk.new (w0.alloc (.cells #[.int .i64 x.p, .int .i64 x.q.v, .slice UA x.q.f.length ua, .slice UC x.q.t.length uc, .slice (some ⟨bd, od, none⟩) 2 ue, .slice (some ⟨bm, om, none⟩) 2 uh] 31)) 44 #[.int .i64 0, .int .i64 0, .slice none 0 0]
  simpa only [World.size_alloc] using this
 have sz : W.heap.size = w0.heap.size + 1 + 1 := by rw [hW]; simp
 have SZ := Lib.hid sz
 have d0' := bcell g0 hbd d0
 have d1' := bcell g0 hbd d1
 have y0' := bcell g0 hbm y0
 have y1' := bcell g0 hbm y1
 have y2' := bcell g0 hbm y2
 have z0' := bcell g0 hbm z0
 have z1' := bcell g0 hbm z1
 have z2' := bcell g0 hbm z2
 have hbd2 : bd < W.heap.size := by omega
 have hbm2 : bm < W.heap.size := by omega
 have HM0 := Lib.hid (MxR.next g0 hM0)
 have HM1 := Lib.hid (MxR.next g0 hM1)
 have GW0 := Lib.hid g0
 have HXR := Lib.hid (RpR.next g0 hu')
 have HPY := Lib.hid hyes
 have HP := Lib.hid hp
 clear hu' hyes hp sz d0 d1 y0 y1 y2 z0 z1 z2 hbd hbm hM0 hM1 g0
 have c0 := kB.cell' (i := 0) rfl
 have c1 := kB.cell' (i := 1) rfl
 have c2 := kB.cell' (i := 2) rfl
 have c3 := kB.cell' (i := 3) rfl
 have c4 := kB.cell' (i := 4) rfl
 have c5 := kB.cell' (i := 5) rfl
 go_enter Tryz.func20, Tryz.ntmps20
 go_wp2_with fail
 rw [← hW]; clear hW
 refine (specIsPencil_any _ x _ HXR.out).mono ?_; rintro e wr ⟨rfl, hb1⟩
 rw [HPY.out]
 replace kR := kR.call hb1
 replace kB := kB.call hb1
 have hs1 := hb1.size
 have gW := hb1
 have HWS : Hid (w0.heap.size < W.heap.size) := by show _ < _; have := SZ.out; omega
 have y0r := bcell hb1 hbm2 y0'
 have y1r := bcell hb1 hbm2 y1'
 have y2r := bcell hb1 hbm2 y2'
 have hbmr : bm < wr.heap.size := by omega
 clear c0 c1 c2 c3 c4 c5 hb1
 go_wp2
 obtain ⟨y, hy⟩ : ∃ y, y = x := ⟨_, rfl⟩
 subst hy
 refine wp_region_net2 (by kernel_rfl) [.eq (.pointer (some ⟨w0.heap.size, 0, none⟩)), .eq (.int .i64 y.p), .eq (.int .i64 v1), .eq (.pointer (some ⟨w0.heap.size, 5, none⟩)), .eq (.slice (some ⟨bm, om, none⟩) 2 uh), .eq (.pointer (some ⟨bm, om, none⟩)), .eq (.agg #[.int .i64 R, .int .i64 C, .slice A0 LA c0]), .rel (fun x w => ∃ s n c', x.v 7 = .tuple #[.agg #[.int .i64 (R : Int), .int .i64 C, .slice s n c'], .bool true] ∧ MxO w (x.lo 7) (x.hi 7) (.agg #[.int .i64 (R : Int), .int .i64 C, .slice s n c']) (mxF R C (scM y.p v1 fa))), .rel (fun x w => ∃ s n c', x.v 8 = .tuple #[.agg #[.int .i64 (R : Int), .int .i64 C, .slice s n c'], .bool true] ∧ MxO w (x.lo 7) (x.hi 7) (.agg #[.int .i64 (R : Int), .int .i64 C, .slice s n c']) (mxF R C (scM y.p v1 fa))), .rel (fun x w => ∃ s n c', x.v 9 = .agg #[.int .i64 (R : Int), .int .i64 C, .slice s n c'] ∧ MxO w (x.lo 7) (x.hi 7) (.agg #[.int .i64 (R : Int), .int .i64 C, .slice s n c']) (mxF R C (scM y.p v1 fa))), .eq (.bool true), rel 11 (fun u lo hi w => ∃ g, u = .pointer (some ⟨g, 0, none⟩) ∧ (lo ≤ g ∧ g < hi) ∧ Blk w g 44 #[.int .i64 0, .int .i64 0, .slice none 0 0])] [[], [0], [], [], [3], [3, 4], [3, 4, 5], [0, 1, 2, 3, 4, 5, 6], [0, 1, 2, 3, 4, 5, 6, 7], [0, 1, 2, 3, 4, 5, 6, 7, 8], [0, 1, 2, 3, 4, 5, 6, 7, 8], [], [0, 1, 2, 3, 4, 5, 6, 7, 8, 9, 11], [0, 1, 2, 3, 4, 5, 6, 7, 8, 9, 10, 11, 12]] 12 10 [0, 1, 2, 3, 4, 5, 6, 7, 8, 9, 11] (by kernel_rfl) rfl ⟨trivial, trivial, trivial, trivial, trivial, trivial, trivial, fun x w w' ⟨s, n, c', e1, h1⟩ hb => ⟨s, n, c', e1, h1.below hb⟩, fun x w w' ⟨s, n, c', e1, h1⟩ hb => ⟨s, n, c', e1, h1.below hb⟩, fun x w w' ⟨s, n, c', e1, h1⟩ hb => ⟨s, n, c', e1, h1.below hb⟩, trivial, rel_stable (fun u lo hi w w' ⟨g, e, h1, h⟩ hb => ⟨g, e, h1, h.call hb⟩), trivial⟩ ⟨?_, ?_, ?_, ?_, ?_, ?_, ?_, ?_, ?_, ?_, ?_, ?_, trivial⟩ ?_ ?_
 ·intro x w hb hk Q' hQ
  clear hk
  simp only [netE] at hQ ⊢
  go_wp2
  exact hQ _ _ (Below.refl _ _) rfl
 ·intro x w hb hk Q' hQ
  have h0 : x.v 0 = _ := (hk 0 (by decide)).1
  clear hk
  simp only [netE] at hQ ⊢
  simp only [h0] at hQ ⊢
  clear h0
  have q0 := (kB.call hb).cell' (i := 0) rfl
  go_wp2
  exact hQ _ _ (Below.refl _ _) rfl
 ·intro x w hb hk Q' hQ
  clear hk
  simp only [netE] at hQ ⊢
  go_wp2
  exact hQ _ _ (Below.refl _ _) rfl
 ·intro x w hb hk Q' hQ
  clear hk
  simp only [netE] at hQ ⊢
  go_wp2
  exact hQ _ _ (Below.refl _ _) rfl
 ·intro x w hb hk Q' hQ
  have h3 : x.v 3 = _ := (hk 3 (by decide)).1
  clear hk
  simp only [netE] at hQ ⊢
  simp only [h3] at hQ ⊢
  clear h3
  have q0 := (kB.call hb).cell' (i := 5) rfl
  go_wp2
  exact hQ _ _ (Below.refl _ _) rfl
 ·intro x w hb hk Q' hQ
  have h4 : x.v 4 = _ := (hk 4 (by decide)).1
  clear hk
  simp only [netE] at hQ ⊢
  simp only [h4] at hQ ⊢
  clear h4
  go_wp2
  exact hQ _ _ (Below.refl _ _) rfl
 ·intro x w hb hk Q' hQ
  have h5 : x.v 5 = _ := (hk 5 (by decide)).1
  clear hk
  simp only [netE] at hQ ⊢
  simp only [h5] at hQ ⊢
  clear h5
  have q0 := bcell hb hbmr y0r
  have q1 := bcell hb hbmr y1r
  have q2 := bcell hb hbmr y2r
  go_wp2
  exact hQ _ _ (Below.refl _ _) rfl
 ·intro x w hb hk Q' hQ
  have h0 : x.v 0 = _ := (hk 0 (by decide)).1
  have h1 : x.v 1 = _ := (hk 1 (by decide)).1
  have h2 : x.v 2 = _ := (hk 2 (by decide)).1
  have h3 : x.v 3 = _ := (hk 3 (by decide)).1
  have h4 : x.v 4 = _ := (hk 4 (by decide)).1
  have h5 : x.v 5 = _ := (hk 5 (by decide)).1
  have h6 : x.v 6 = _ := (hk 6 (by decide)).1
  clear hk
  simp only [netE] at hQ ⊢
  simp only [h0, h1, h2, h3, h4, h5, h6] at hQ ⊢
  clear h0 h1 h2 h3 h4 h5 h6
  have hm3 := MxR.more (show W.heap.size ≤ w.heap.size by have := hb.size; omega) (MxR.below (gW.trans (hb.mono hs1)) HM0.out)
  have HM3 := Lib.hid hm3
  clear hm3
  go_wp2_with fail
  refine (scaleMatrix_any y.p v1 _ R C fa _ hv1 HM3.out (isMat_mxF HP.out (by omega) (by omega) HFA.out)).mono ?_; rintro e w5 ⟨v5, rfl, hO5, hb5⟩
  have HO5 := Lib.hid hO5
  obtain ⟨A5, c5, e5⟩ := hO5.form
  have e5' : v5 = .agg #[.int .i64 (R : Int), .int .i64 C, .slice A5 (mxF R C (scM y.p v1 fa)).a.length c5] := e5
  obtain ⟨n5, hn5⟩ : ∃ n, (mxF R C (scM y.p v1 fa)).a.length = n := ⟨_, rfl⟩
  rw [hn5] at e5'
  subst e5'
  clear hO5 e5 hn5
  go_wp2
  exact hQ _ _ hb5 ⟨_, _, _, rfl, HO5.out⟩
 ·intro x w hb hk Q' hQ
  have h0 : x.v 0 = _ := (hk 0 (by decide)).1
  have h1 : x.v 1 = _ := (hk 1 (by decide)).1
  have h2 : x.v 2 = _ := (hk 2 (by decide)).1
  have h3 : x.v 3 = _ := (hk 3 (by decide)).1
  have h4 : x.v 4 = _ := (hk 4 (by decide)).1
  have h5 : x.v 5 = _ := (hk 5 (by decide)).1
  have h6 : x.v 6 = _ := (hk 6 (by decide)).1
  have h7 : ∃ s n c', x.v 7 = .tuple #[.agg #[.int .i64 (R : Int), .int .i64 C, .slice s n c'], .bool true] ∧ MxO w (x.lo 7) (x.hi 7) (.agg #[.int .i64 (R : Int), .int .i64 C, .slice s n c']) (mxF R C (scM y.p v1 fa)) := (hk 7 (by decide)).1
  have s7 := (hk 7 (by decide)).2
  clear hk
  simp only [netE] at hQ ⊢
  simp only [h0, h1, h2, h3, h4, h5, h6] at hQ ⊢
  clear h0 h1 h2 h3 h4 h5 h6
  obtain ⟨s, n, c', e1, ho⟩ := h7
  have hQ' := hQ (.tuple #[.agg #[.int .i64 (R : Int), .int .i64 C, .slice s n c'], .bool true]) w (Below.refl _ _) ⟨s, n, c', rfl, ho⟩
  rw [e1] at hQ' ⊢
  go_wp2
  exact hQ'
 ·intro x w hb hk Q' hQ
  have h0 : x.v 0 = _ := (hk 0 (by decide)).1
  have h1 : x.v 1 = _ := (hk 1 (by decide)).1
  have h2 : x.v 2 = _ := (hk 2 (by decide)).1
  have h3 : x.v 3 = _ := (hk 3 (by decide)).1
  have h4 : x.v 4 = _ := (hk 4 (by decide)).1
  have h5 : x.v 5 = _ := (hk 5 (by decide)).1
  have h6 : x.v 6 = _ := (hk 6 (by decide)).1
  have h7 : ∃ s n c', x.v 7 = .tuple #[.agg #[.int .i64 (R : Int), .int .i64 C, .slice s n c'], .bool true] ∧ MxO w (x.lo 7) (x.hi 7) (.agg #[.int .i64 (R : Int), .int .i64 C, .slice s n c']) (mxF R C (scM y.p v1 fa)) := (hk 7 (by decide)).1
  have h8 : ∃ s n c', x.v 8 = .tuple #[.agg #[.int .i64 (R : Int), .int .i64 C, .slice s n c'], .bool true] ∧ MxO w (x.lo 7) (x.hi 7) (.agg #[.int .i64 (R : Int), .int .i64 C, .slice s n c']) (mxF R C (scM y.p v1 fa)) := (hk 8 (by decide)).1
  have s7 := (hk 7 (by decide)).2
  have s8 := (hk 8 (by decide)).2
  clear hk
  simp only [netE] at hQ ⊢
  simp only [h0, h1, h2, h3, h4, h5, h6] at hQ ⊢
  clear h0 h1 h2 h3 h4 h5 h6
  obtain ⟨s, n, c', e1, ho⟩ := h8
  have hQ' := hQ (.agg #[.int .i64 (R : Int), .int .i64 C, .slice s n c']) w (Below.refl _ _) ⟨s, n, c', rfl, ho⟩
  rw [e1] at hQ' ⊢
  go_wp2
  exact hQ'
 ·intro x w hb hk Q' hQ
  have h8 : ∃ s n c', x.v 8 = .tuple #[.agg #[.int .i64 (R : Int), .int .i64 C, .slice s n c'], .bool true] ∧ MxO w (x.lo 7) (x.hi 7) (.agg #[.int .i64 (R : Int), .int .i64 C, .slice s n c']) (mxF R C (scM y.p v1 fa)) := (hk 8 (by decide)).1
  clear hk
  simp only [netE] at hQ ⊢
  obtain ⟨s, n, c', e1, ho⟩ := h8
  rw [e1] at hQ ⊢
  go_wp2
  exact hQ _ _ (Below.refl _ _) rfl
 ·intro x w hb hk Q' hQ
  clear hk
  simp only [netE] at hQ ⊢
  go_wp2
  exact hQ _ _ (below_alloc _ _) ⟨_, rfl, ⟨Nat.le_refl _, by show w.heap.size < (w.alloc _).heap.size; simp⟩, Blk.new _ _ _⟩
 ·intro x w hb hk hiv hdj
  have h0 : x.v 0 = .pointer (some ⟨w0.heap.size, 0, none⟩) := hk 0 (by decide)
  have h1 : x.v 1 = .int .i64 y.p := hk 1 (by decide)
  have h2 : x.v 2 = .int .i64 v1 := hk 2 (by decide)
  have h3 : x.v 3 = .pointer (some ⟨w0.heap.size, 5, none⟩) := hk 3 (by decide)
  have h4 : x.v 4 = .slice (some ⟨bm, om, none⟩) 2 uh := hk 4 (by decide)
  have h5 : x.v 5 = .pointer (some ⟨bm, om, none⟩) := hk 5 (by decide)
  have h6 : x.v 6 = .agg #[.int .i64 R, .int .i64 C, .slice A0 LA c0] := hk 6 (by decide)
  have h7 : ∃ s n c', x.v 7 = .tuple #[.agg #[.int .i64 (R : Int), .int .i64 C, .slice s n c'], .bool true] ∧ MxO w (x.lo 7) (x.hi 7) (.agg #[.int .i64 (R : Int), .int .i64 C, .slice s n c']) (mxF R C (scM y.p v1 fa)) := hk 7 (by decide)
  have h8 : ∃ s n c', x.v 8 = .tuple #[.agg #[.int .i64 (R : Int), .int .i64 C, .slice s n c'], .bool true] ∧ MxO w (x.lo 7) (x.hi 7) (.agg #[.int .i64 (R : Int), .int .i64 C, .slice s n c']) (mxF R C (scM y.p v1 fa)) := hk 8 (by decide)
  have h9 : ∃ s n c', x.v 9 = .agg #[.int .i64 (R : Int), .int .i64 C, .slice s n c'] ∧ MxO w (x.lo 7) (x.hi 7) (.agg #[.int .i64 (R : Int), .int .i64 C, .slice s n c']) (mxF R C (scM y.p v1 fa)) := hk 9 (by decide)
  have h10 : x.v 10 = .bool true := hk 10 (by decide)
  have h11 : ∃ g, (x.v 11) = .pointer (some ⟨g, 0, none⟩) ∧ ((x.lo 11) ≤ g ∧ g < (x.hi 11)) ∧ Blk w g 44 #[.int .i64 0, .int .i64 0, .slice none 0 0] := hk 11 (by decide)
  clear hk
  simp only [netE]
  simp only [List.drop_succ_cons, List.drop_zero, h0, h1, h2, h3, h4, h5, h6, h10]
  clear h0 h1 h2 h3 h4 h5 h6 h10
  obtain ⟨gR, e17, hg, kG⟩ := h11
  obtain ⟨s1, n1, c1', e9, ho1⟩ := h9
  obtain ⟨s1', n1', c1'', e8, _⟩ := h8
  rw [e9, e17, e8]
  have i16 := hiv 7 (by decide)
  have i17 := hiv 11 (by decide)
  have d167 := hdj 7 11 (by decide) (by decide) (by decide)
  clear hiv hdj e9 e17 e8 h7
  have frG := kG.frozen
  have r0 := kG.cell' (i := 0) rfl
  have r1 := kG.cell' (i := 1) rfl
  have r2 := kG.cell' (i := 2) rfl
  have hbs := hb.size
  have hws0 := HWS.out
  obtain ⟨W3, e3⟩ : ∃ u, u = (((w.setCell ⟨gR, 0, none⟩ (.int .i64 R)).setCell ⟨gR, 1, none⟩ (.int .i64 C)).setCell ⟨gR, 2, none⟩ (.slice s1 n1 c1')) := ⟨_, rfl⟩
  have kG3 : Blk W3 gR 44 #[.int .i64 R, .int .i64 C, .slice s1 n1 c1'] := by rw [e3]; exact (((kG.set_ 0 _).set_ 1 _).set_ 2 _)
  have hc : Chg gR (gR + 1) w W3 := by rw [e3]; exact chg3 _ _ _ _ _
  have kB3 := (kB.call hb).chg hc (by omega)
  have kR3 := (kR.call hb).chg hc (by have := SZ.out; omega)
  have gW3 := gW.trans ((hb.mono hs1).trans (hc.below (B := W.heap.size) (by omega) (by omega)))
  have h16' := (ho1.chg hc (by omega)).rd
  have H16 := Lib.hid h16'
  have s3 := hc.size
  clear ho1 h16' kG hb hc d167 i16 i17 hg
  go_wp2
  rw [← e3]
  clear e3 frG r0 r1 r2 hbs
  have gs3 := gW3.size
  have hbm3 : bm < W3.heap.size := by omega
  have z0'' := bcell gW3 hbm2 z0'
  have z1'' := bcell gW3 hbm2 z1'
  have z2'' := bcell gW3 hbm2 z2'
  refine wp_region_net2 (by kernel_rfl) [.eq (.pointer (some ⟨w0.heap.size, 0, none⟩)), .eq (.int .i64 y.p), .eq (.int .i64 v2), .eq (.pointer (some ⟨w0.heap.size, 5, none⟩)), .eq (.slice (some ⟨bm, om, none⟩) 2 uh), .eq (.pointer (some ⟨bm, om + 3, none⟩)), .eq (.agg #[.int .i64 R, .int .i64 C, .slice A1 LB c1]), .rel (fun x w => ∃ s n c', x.v 7 = .tuple #[.agg #[.int .i64 (R : Int), .int .i64 C, .slice s n c'], .bool true] ∧ MxO w (x.lo 7) (x.hi 7) (.agg #[.int .i64 (R : Int), .int .i64 C, .slice s n c']) (mxF R C (scM y.p v2 fb))), .rel (fun x w => ∃ s n c', x.v 8 = .tuple #[.agg #[.int .i64 (R : Int), .int .i64 C, .slice s n c'], .bool true] ∧ MxO w (x.lo 7) (x.hi 7) (.agg #[.int .i64 (R : Int), .int .i64 C, .slice s n c']) (mxF R C (scM y.p v2 fb))), .rel (fun x w => ∃ s n c', x.v 9 = .agg #[.int .i64 (R : Int), .int .i64 C, .slice s n c'] ∧ MxO w (x.lo 7) (x.hi 7) (.agg #[.int .i64 (R : Int), .int .i64 C, .slice s n c']) (mxF R C (scM y.p v2 fb))), .eq (.bool true), rel 11 (fun u lo hi w => ∃ g, u = .pointer (some ⟨g, 0, none⟩) ∧ (lo ≤ g ∧ g < hi) ∧ Blk w g 44 #[.int .i64 0, .int .i64 0, .slice none 0 0])] [[], [0], [], [], [3], [3, 4], [3, 4, 5], [0, 1, 2, 3, 4, 5, 6], [0, 1, 2, 3, 4, 5, 6, 7], [0, 1, 2, 3, 4, 5, 6, 7, 8], [0, 1, 2, 3, 4, 5, 6, 7, 8], [], [0, 1, 2, 3, 4, 5, 6, 7, 8, 9, 11], [0, 1, 2, 3, 4, 5, 6, 7, 8, 9, 10, 11, 12]] 12 10 [0, 1, 2, 3, 4, 5, 6, 7, 8, 9, 11] (by kernel_rfl) rfl ⟨trivial, trivial, trivial, trivial, trivial, trivial, trivial, fun x w w' ⟨s, n, c', e1, h1⟩ hb => ⟨s, n, c', e1, h1.below hb⟩, fun x w w' ⟨s, n, c', e1, h1⟩ hb => ⟨s, n, c', e1, h1.below hb⟩, fun x w w' ⟨s, n, c', e1, h1⟩ hb => ⟨s, n, c', e1, h1.below hb⟩, trivial, rel_stable (fun u lo hi w w' ⟨g, e, h1, h⟩ hb => ⟨g, e, h1, h.call hb⟩), trivial⟩ ⟨?_, ?_, ?_, ?_, ?_, ?_, ?_, ?_, ?_, ?_, ?_, ?_, trivial⟩ ?_ ?_
  ·intro x w hb hk Q' hQ
   clear hk
   simp only [netE] at hQ ⊢
   go_wp2
   exact hQ _ _ (Below.refl _ _) rfl
  ·intro x w hb hk Q' hQ
   have h0 : x.v 0 = _ := (hk 0 (by decide)).1
   clear hk
   simp only [netE] at hQ ⊢
   simp only [h0] at hQ ⊢
   clear h0
   have q0 := (kB3.call hb).cell' (i := 0) rfl
   go_wp2
   exact hQ _ _ (Below.refl _ _) rfl
  ·intro x w hb hk Q' hQ
   clear hk
   simp only [netE] at hQ ⊢
   go_wp2
   exact hQ _ _ (Below.refl _ _) rfl
  ·intro x w hb hk Q' hQ
   clear hk
   simp only [netE] at hQ ⊢
   go_wp2
   exact hQ _ _ (Below.refl _ _) rfl
  ·intro x w hb hk Q' hQ
   have h3 : x.v 3 = _ := (hk 3 (by decide)).1
   clear hk
   simp only [netE] at hQ ⊢
   simp only [h3] at hQ ⊢
   clear h3
   have q0 := (kB3.call hb).cell' (i := 5) rfl
   go_wp2
   exact hQ _ _ (Below.refl _ _) rfl
  ·intro x w hb hk Q' hQ
   have h4 : x.v 4 = _ := (hk 4 (by decide)).1
   clear hk
   simp only [netE] at hQ ⊢
   simp only [h4] at hQ ⊢
   clear h4
   go_wp2
   exact hQ _ _ (Below.refl _ _) rfl
  ·intro x w hb hk Q' hQ
   have h5 : x.v 5 = _ := (hk 5 (by decide)).1
   clear hk
   simp only [netE] at hQ ⊢
   simp only [h5] at hQ ⊢
   clear h5
   have q0 := bcell hb hbm3 z0''
   have q1 := bcell hb hbm3 z1''
   have q2 := bcell hb hbm3 z2''
   go_wp2
   exact hQ _ _ (Below.refl _ _) rfl
  ·intro x w hb hk Q' hQ
   have h0 : x.v 0 = _ := (hk 0 (by decide)).1
   have h1 : x.v 1 = _ := (hk 1 (by decide)).1
   have h2 : x.v 2 = _ := (hk 2 (by decide)).1
   have h3 : x.v 3 = _ := (hk 3 (by decide)).1
   have h4 : x.v 4 = _ := (hk 4 (by decide)).1
   have h5 : x.v 5 = _ := (hk 5 (by decide)).1
   have h6 : x.v 6 = _ := (hk 6 (by decide)).1
   clear hk
   simp only [netE] at hQ ⊢
   simp only [h0, h1, h2, h3, h4, h5, h6] at hQ ⊢
   clear h0 h1 h2 h3 h4 h5 h6
   have hm3 := MxR.more (show W.heap.size ≤ w.heap.size by have := hb.size; omega) (MxR.below (gW3.trans (hb.mono gs3)) HM1.out)
   have HM3 := Lib.hid hm3
   clear hm3
   go_wp2_with fail
   refine (scaleMatrix_any y.p v2 _ R C fb _ hv2 HM3.out (isMat_mxF HP.out (by omega) (by omega) HFB.out)).mono ?_; rintro e w5 ⟨v5, rfl, hO5, hb5⟩
   have HO5 := Lib.hid hO5
   obtain ⟨A5, c5, e5⟩ := hO5.form
   have e5' : v5 = .agg #[.int .i64 (R : Int), .int .i64 C, .slice A5 (mxF R C (scM y.p v2 fb)).a.length c5] := e5
   obtain ⟨n5, hn5⟩ : ∃ n, (mxF R C (scM y.p v2 fb)).a.length = n := ⟨_, rfl⟩
   rw [hn5] at e5'
   subst e5'
   clear hO5 e5 hn5
   go_wp2
   exact hQ _ _ hb5 ⟨_, _, _, rfl, HO5.out⟩
  ·intro x w hb hk Q' hQ
   have h0 : x.v 0 = _ := (hk 0 (by decide)).1
   have h1 : x.v 1 = _ := (hk 1 (by decide)).1
   have h2 : x.v 2 = _ := (hk 2 (by decide)).1
   have h3 : x.v 3 = _ := (hk 3 (by decide)).1
   have h4 : x.v 4 = _ := (hk 4 (by decide)).1
   have h5 : x.v 5 = _ := (hk 5 (by decide)).1
   have h6 : x.v 6 = _ := (hk 6 (by decide)).1
   have h7 : ∃ s n c', x.v 7 = .tuple #[.agg #[.int .i64 (R : Int), .int .i64 C, .slice s n c'], .bool true] ∧ MxO w (x.lo 7) (x.hi 7) (.agg #[.int .i64 (R : Int), .int .i64 C, .slice s n c']) (mxF R C (scM y.p v2 fb)) := (hk 7 (by decide)).1
   have s7 := (hk 7 (by decide)).2
   clear hk
   simp only [netE] at hQ ⊢
   simp only [h0, h1, h2, h3, h4, h5, h6] at hQ ⊢
   clear h0 h1 h2 h3 h4 h5 h6
   obtain ⟨s, n, c', e1, ho⟩ := h7
   have hQ' := hQ (.tuple #[.agg #[.int .i64 (R : Int), .int .i64 C, .slice s n c'], .bool true]) w (Below.refl _ _) ⟨s, n, c', rfl, ho⟩
   rw [e1] at hQ' ⊢
   go_wp2
   exact hQ'
  ·intro x w hb hk Q' hQ
   have h0 : x.v 0 = _ := (hk 0 (by decide)).1
   have h1 : x.v 1 = _ := (hk 1 (by decide)).1
   have h2 : x.v 2 = _ := (hk 2 (by decide)).1
   have h3 : x.v 3 = _ := (hk 3 (by decide)).1
   have h4 : x.v 4 = _ := (hk 4 (by decide)).1
   have h5 : x.v 5 = _ := (hk 5 (by decide)).1
   have h6 : x.v 6 = _ := (hk 6 (by decide)).1
   have h7 : ∃ s n c', x.v 7 = .tuple #[.agg #[.int .i64 (R : Int), .int .i64 C, .slice s n c'], .bool true] ∧ MxO w (x.lo 7) (x.hi 7) (.agg #[.int .i64 (R : Int), .int .i64 C, .slice s n c']) (mxF R C (scM y.p v2 fb)) := (hk 7 (by decide)).1
   have h8 : ∃ s n c', x.v 8 = .tuple #[.agg #[.int .i64 (R : Int), .int .i64 C, .slice s n c'], .bool true] ∧ MxO w (x.lo 7) (x.hi 7) (.agg #[.int .i64 (R : Int), .int .i64 C, .slice s n c']) (mxF R C (scM y.p v2 fb)) := (hk 8 (by decide)).1
   have s7 := (hk 7 (by decide)).2
   have s8 := (hk 8 (by decide)).2
   clear hk
   simp only [netE] at hQ ⊢
   simp only [h0, h1, h2, h3, h4, h5, h6] at hQ ⊢
   clear h0 h1 h2 h3 h4 h5 h6
   obtain ⟨s, n, c', e1, ho⟩ := h8
   have hQ' := hQ (.agg #[.int .i64 (R : Int), .int .i64 C, .slice s n c']) w (Below.refl _ _) ⟨s, n, c', rfl, ho⟩
   rw [e1] at hQ' ⊢
   go_wp2
   exact hQ'
  ·intro x w hb hk Q' hQ
   have h8 : ∃ s n c', x.v 8 = .tuple #[.agg #[.int .i64 (R : Int), .int .i64 C, .slice s n c'], .bool true] ∧ MxO w (x.lo 7) (x.hi 7) (.agg #[.int .i64 (R : Int), .int .i64 C, .slice s n c']) (mxF R C (scM y.p v2 fb)) := (hk 8 (by decide)).1
   clear hk
   simp only [netE] at hQ ⊢
   obtain ⟨s, n, c', e1, ho⟩ := h8
   rw [e1] at hQ ⊢
   go_wp2
   exact hQ _ _ (Below.refl _ _) rfl
  ·intro x w hb hk Q' hQ
   clear hk
   simp only [netE] at hQ ⊢
   go_wp2
   exact hQ _ _ (below_alloc _ _) ⟨_, rfl, ⟨Nat.le_refl _, by show w.heap.size < (w.alloc _).heap.size; simp⟩, Blk.new _ _ _⟩
  ·intro x w hb hk hiv hdj
   have h0 : x.v 0 = .pointer (some ⟨w0.heap.size, 0, none⟩) := hk 0 (by decide)
   have h1 : x.v 1 = .int .i64 y.p := hk 1 (by decide)
   have h2 : x.v 2 = .int .i64 v2 := hk 2 (by decide)
   have h3 : x.v 3 = .pointer (some ⟨w0.heap.size, 5, none⟩) := hk 3 (by decide)
   have h4 : x.v 4 = .slice (some ⟨bm, om, none⟩) 2 uh := hk 4 (by decide)
   have h5 : x.v 5 = .pointer (some ⟨bm, om + 3, none⟩) := hk 5 (by decide)
   have h6 : x.v 6 = .agg #[.int .i64 R, .int .i64 C, .slice A1 LB c1] := hk 6 (by decide)
   have h7 : ∃ s n c', x.v 7 = .tuple #[.agg #[.int .i64 (R : Int), .int .i64 C, .slice s n c'], .bool true] ∧ MxO w (x.lo 7) (x.hi 7) (.agg #[.int .i64 (R : Int), .int .i64 C, .slice s n c']) (mxF R C (scM y.p v2 fb)) := hk 7 (by decide)
   have h8 : ∃ s n c', x.v 8 = .tuple #[.agg #[.int .i64 (R : Int), .int .i64 C, .slice s n c'], .bool true] ∧ MxO w (x.lo 7) (x.hi 7) (.agg #[.int .i64 (R : Int), .int .i64 C, .slice s n c']) (mxF R C (scM y.p v2 fb)) := hk 8 (by decide)
   have h9 : ∃ s n c', x.v 9 = .agg #[.int .i64 (R : Int), .int .i64 C, .slice s n c'] ∧ MxO w (x.lo 7) (x.hi 7) (.agg #[.int .i64 (R : Int), .int .i64 C, .slice s n c']) (mxF R C (scM y.p v2 fb)) := hk 9 (by decide)
   have h10 : x.v 10 = .bool true := hk 10 (by decide)
   have h11 : ∃ g, (x.v 11) = .pointer (some ⟨g, 0, none⟩) ∧ ((x.lo 11) ≤ g ∧ g < (x.hi 11)) ∧ Blk w g 44 #[.int .i64 0, .int .i64 0, .slice none 0 0] := hk 11 (by decide)
   clear hk
   simp only [netE]
   simp only [List.drop_succ_cons, List.drop_zero, h0, h1, h2, h3, h4, h5, h6, h10]
   clear h0 h1 h2 h3 h4 h5 h6 h10
   obtain ⟨gB, e11, hg2, kG2⟩ := h11
   obtain ⟨s2, n2, c2, e9, ho2⟩ := h9
   obtain ⟨s2', n2', c2', e8, _⟩ := h8
   rw [e9, e11, e8]
   have i7 := hiv 7 (by decide)
   have i11 := hiv 11 (by decide)
   have d7 := hdj 7 11 (by decide) (by decide) (by decide)
   clear hiv hdj e9 e11 e8 h7
   have frG := kG2.frozen
   have r0 := kG2.cell' (i := 0) rfl
   have r1 := kG2.cell' (i := 1) rfl
   have r2 := kG2.cell' (i := 2) rfl
   have hbs := hb.size
   obtain ⟨W5, e5⟩ : ∃ u, u = (((w.setCell ⟨gB, 0, none⟩ (.int .i64 R)).setCell ⟨gB, 1, none⟩ (.int .i64 C)).setCell ⟨gB, 2, none⟩ (.slice s2 n2 c2)) := ⟨_, rfl⟩
   have kGB : Blk W5 gB 44 #[.int .i64 R, .int .i64 C, .slice s2 n2 c2] := by rw [e5]; exact (((kG2.set_ 0 _).set_ 1 _).set_ 2 _)
   have hc : Chg gB (gB + 1) w W5 := by rw [e5]; exact chg3 _ _ _ _ _
   have kB5 := (kB3.call hb).chg hc (by omega)
   have kR5 := (kR3.call hb).chg hc (by have := SZ.out; omega)
   have kGA := (kG3.call hb).chg hc (by have := kG3.lt; omega)
   have gW5 := gW3.trans ((hb.mono gs3).trans (hc.below (B := W.heap.size) (by omega) (by omega)))
   have h2' := (ho2.chg hc (by omega)).rd
   have HB5 := Lib.hid h2'
   have HA5 := Lib.hid (MxR.more (show W3.heap.size ≤ W5.heap.size by have := hc.size; omega) (MxR.below (hb.trans (hc.below (B := W3.heap.size) (by omega) (by omega))) H16.out))
   clear ho2 h2' kG2 hb hc d7 i7 i11 hg2 kB3 kR3 kG3
   have p0 := kB5.cell' (i := 0) rfl
   have a0 := kGA.cell' (i := 0) rfl
   have a1 := kGA.cell' (i := 1) rfl
   have a2 := kGA.cell' (i := 2) rfl
   have b0 := kGB.cell' (i := 0) rfl
   have b1 := kGB.cell' (i := 1) rfl
   have b2 := kGB.cell' (i := 2) rfl
   have t0 := p0
   have t1 := a0
   have t2 := a1
   have t3 := a2
   have t4 := b0
   have t5 := b1
   have t6 := b2
   rw [e5] at t0 t1 t2 t3 t4 t5 t6
   go_wp2_with fail
   rw [← e5]
   clear e5 frG r0 r1 r2 hbs t0 t1 t2 t3 t4 t5 t6 p0 a0 a1 a2 b0 b1 b2
   refine (addMatrices_any y.p _ _ R C (scM y.p v1 fa) (scM y.p v2 fb) W5 HA5.out HB5.out (isMat_mxF HP.out (by omega) (by omega) (fun i j _ _ => scM_rng hpr i j)) (isMat_mxF HP.out (by omega) (by omega) (fun i j _ _ => scM_rng hpr i j))).mono ?_; rintro e w6 ⟨v6, rfl, ho6, hb6⟩
   obtain ⟨PM, hPM⟩ : ∃ M, M = mxF R C (adM y.p (scM y.p v1 fa) (scM y.p v2 fb)) := ⟨_, rfl⟩
   have HFF := Lib.hid (show pAtP y v1 v2 = (PM, true) by rw [hPM]; exact HPM.out)
   rw [← hPM] at ho6
   clear hPM
   obtain ⟨A7, c7, e7⟩ := ho6.form
   subst e7
   obtain ⟨N, hN⟩ : ∃ N, PM.a.length = N := ⟨_, rfl⟩
   rw [hN] at ho6 ⊢
   obtain ⟨W7, e7⟩ : ∃ u, u = w6.alloc (.cells #[.int .i64 PM.r, .int .i64 PM.c, .slice A7 N c7] 44) := ⟨_, rfl⟩
   have hb7 : Below w6.heap.size w6 W7 := by rw [e7]; exact below_alloc _ _
   have kX := (kR5.call hb6).call hb7
   have oX := ho6.below hb7
   have q0 := kX.cell' (i := 0) rfl
   have q1 := kX.cell' (i := 1) rfl
   have q2 := kX.cell' (i := 2) rfl
   have fr := kX.frozen
   have sz := SZ.out
   have s5 := gW5.size
   have s6 := hb6.size
   have s7 := hb7.size
   have gX := (GW0.out).trans (((gW5.mono (by omega)).trans (hb6.mono (by omega))).trans (hb7.mono (by omega)))
   have gXs := gX.size
   have h2 := chg3 W7 (w0.heap.size + 1) (.int .i64 PM.r) (.int .i64 PM.c) (.slice A7 N c7)
   have OF := Lib.hid ((oX.chg h2 (.inr (by omega))).wider (lo' := w0.heap.size) (hi' := W7.heap.size) (by omega) (by omega))
   have GF := Lib.hid (gX.trans (h2.below (by omega) gXs))
   clear ho6 oX h2 gX kX hN sz gXs hb6 hb7 s5 s6 s7 gW5 kB5 kR5 kGA kGB
   rw [e7] at q0 q1 q2 fr
   go_wp2
   rw [← e7]
   rw [← e7] at q0 q1 q2
   exact bodyPost_ret (v := .tuple #[.agg #[.int .i64 PM.r, .int .i64 PM.c, .slice A7 N c7], .bool true]) (by simp [results, go_sem, q0, q1, q2]) rfl ⟨_, by rw [HFF.out], by rw [HFF.out]; exact OF.out.wider (Nat.le_refl _) (by simp), GF.out⟩
  ·intro x w hb hk hiv hdj om os hom hos
   simp only [List.getElem?_cons_zero, List.getElem?_cons_succ, Option.some.injEq] at hom hos
   subst hom hos
   have h0 : x.v 0 = .pointer (some ⟨w0.heap.size, 0, none⟩) := hk 0 (by decide)
   have h1 : x.v 1 = .int .i64 y.p := hk 1 (by decide)
   have h2 : x.v 2 = .int .i64 v2 := hk 2 (by decide)
   have h3 : x.v 3 = .pointer (some ⟨w0.heap.size, 5, none⟩) := hk 3 (by decide)
   have h4 : x.v 4 = .slice (some ⟨bm, om, none⟩) 2 uh := hk 4 (by decide)
   have h5 : x.v 5 = .pointer (some ⟨bm, om + 3, none⟩) := hk 5 (by decide)
   have h6 : x.v 6 = .agg #[.int .i64 R, .int .i64 C, .slice A1 LB c1] := hk 6 (by decide)
   have h7 : ∃ s n c', x.v 7 = .tuple #[.agg #[.int .i64 (R : Int), .int .i64 C, .slice s n c'], .bool true] ∧ MxO w (x.lo 7) (x.hi 7) (.agg #[.int .i64 (R : Int), .int .i64 C, .slice s n c']) (mxF R C (scM y.p v2 fb)) := hk 7 (by decide)
   have h8 : ∃ s n c', x.v 8 = .tuple #[.agg #[.int .i64 (R : Int), .int .i64 C, .slice s n c'], .bool true] ∧ MxO w (x.lo 7) (x.hi 7) (.agg #[.int .i64 (R : Int), .int .i64 C, .slice s n c']) (mxF R C (scM y.p v2 fb)) := hk 8 (by decide)
   have h9 : ∃ s n c', x.v 9 = .agg #[.int .i64 (R : Int), .int .i64 C, .slice s n c'] ∧ MxO w (x.lo 7) (x.hi 7) (.agg #[.int .i64 (R : Int), .int .i64 C, .slice s n c']) (mxF R C (scM y.p v2 fb)) := hk 9 (by decide)
   have h11 : ∃ g, (x.v 11) = .pointer (some ⟨g, 0, none⟩) ∧ ((x.lo 11) ≤ g ∧ g < (x.hi 11)) ∧ Blk w g 44 #[.int .i64 0, .int .i64 0, .slice none 0 0] := hk 11 (by decide)
   clear hk
   simp only [List.foldl_cons, List.foldl_nil, netE]
   simp only [List.drop_succ_cons, List.drop_zero, h0, h1, h2, h3, h4, h5, h6]
   clear h0 h1 h2 h3 h4 h5 h6
   obtain ⟨gB, e11, hg2, kG2⟩ := h11
   obtain ⟨s2, n2, c2, e9, ho2⟩ := h9
   obtain ⟨s2', n2', c2', e8, _⟩ := h8
   rw [e9, e11, e8]
   have i7 := hiv 7 (by decide)
   have i11 := hiv 11 (by decide)
   have d7 := hdj 7 11 (by decide) (by decide) (by decide)
   clear hiv hdj e9 e11 e8 h7
   have frG := kG2.frozen
   have r0 := kG2.cell' (i := 0) rfl
   have r1 := kG2.cell' (i := 1) rfl
   have r2 := kG2.cell' (i := 2) rfl
   have hbs := hb.size
   obtain ⟨W5, e5⟩ : ∃ u, u = (((w.setCell ⟨gB, 0, none⟩ (.int .i64 R)).setCell ⟨gB, 1, none⟩ (.int .i64 C)).setCell ⟨gB, 2, none⟩ (.slice s2 n2 c2)) := ⟨_, rfl⟩
   have kGB : Blk W5 gB 44 #[.int .i64 R, .int .i64 C, .slice s2 n2 c2] := by rw [e5]; exact (((kG2.set_ 0 _).set_ 1 _).set_ 2 _)
   have hc : Chg gB (gB + 1) w W5 := by rw [e5]; exact chg3 _ _ _ _ _
   have kB5 := (kB3.call hb).chg hc (by omega)
   have kR5 := (kR3.call hb).chg hc (by have := SZ.out; omega)
   have kGA := (kG3.call hb).chg hc (by have := kG3.lt; omega)
   have gW5 := gW3.trans ((hb.mono gs3).trans (hc.below (B := W.heap.size) (by omega) (by omega)))
   have h2' := (ho2.chg hc (by omega)).rd
   have HB5 := Lib.hid h2'
   have HA5 := Lib.hid (MxR.more (show W3.heap.size ≤ W5.heap.size by have := hc.size; omega) (MxR.below (hb.trans (hc.below (B := W3.heap.size) (by omega) (by omega))) H16.out))
   clear ho2 h2' kG2 hb hc d7 i7 i11 hg2 kB3 kR3 kG3
   have p0 := kB5.cell' (i := 0) rfl
   have a0 := kGA.cell' (i := 0) rfl
   have a1 := kGA.cell' (i := 1) rfl
   have a2 := kGA.cell' (i := 2) rfl
   have b0 := kGB.cell' (i := 0) rfl
   have b1 := kGB.cell' (i := 1) rfl
   have b2 := kGB.cell' (i := 2) rfl
   have t0 := p0
   have t1 := a0
   have t2 := a1
   have t3 := a2
   have t4 := b0
   have t5 := b1
   have t6 := b2
   rw [e5] at t0 t1 t2 t3 t4 t5 t6
   go_wp2_with fail
   rw [← e5]
   clear e5 frG r0 r1 r2 hbs t0 t1 t2 t3 t4 t5 t6 p0 a0 a1 a2 b0 b1 b2
   refine (addMatrices_any y.p _ _ R C (scM y.p v1 fa) (scM y.p v2 fb) W5 HA5.out HB5.out (isMat_mxF HP.out (by omega) (by omega) (fun i j _ _ => scM_rng hpr i j)) (isMat_mxF HP.out (by omega) (by omega) (fun i j _ _ => scM_rng hpr i j))).mono ?_; rintro e w6 ⟨v6, rfl, ho6, hb6⟩
   obtain ⟨PM, hPM⟩ : ∃ M, M = mxF R C (adM y.p (scM y.p v1 fa) (scM y.p v2 fb)) := ⟨_, rfl⟩
   have HFF := Lib.hid (show pAtP y v1 v2 = (PM, true) by rw [hPM]; exact HPM.out)
   rw [← hPM] at ho6
   clear hPM
   obtain ⟨A7, c7, e7⟩ := ho6.form
   subst e7
   obtain ⟨N, hN⟩ : ∃ N, PM.a.length = N := ⟨_, rfl⟩
   rw [hN] at ho6 ⊢
   obtain ⟨W7, e7⟩ : ∃ u, u = w6.alloc (.cells #[.int .i64 PM.r, .int .i64 PM.c, .slice A7 N c7] 44) := ⟨_, rfl⟩
   have hb7 : Below w6.heap.size w6 W7 := by rw [e7]; exact below_alloc _ _
   have kX := (kR5.call hb6).call hb7
   have oX := ho6.below hb7
   have q0 := kX.cell' (i := 0) rfl
   have q1 := kX.cell' (i := 1) rfl
   have q2 := kX.cell' (i := 2) rfl
   have fr := kX.frozen
   have sz := SZ.out
   have s5 := gW5.size
   have s6 := hb6.size
   have s7 := hb7.size
   have gX := (GW0.out).trans (((gW5.mono (by omega)).trans (hb6.mono (by omega))).trans (hb7.mono (by omega)))
   have gXs := gX.size
   have h2 := chg3 W7 (w0.heap.size + 1) (.int .i64 PM.r) (.int .i64 PM.c) (.slice A7 N c7)
   have OF := Lib.hid ((oX.chg h2 (.inr (by omega))).wider (lo' := w0.heap.size) (hi' := W7.heap.size) (by omega) (by omega))
   have GF := Lib.hid (gX.trans (h2.below (by omega) gXs))
   clear ho6 oX h2 gX kX hN sz gXs hb6 hb7 s5 s6 s7 gW5 kB5 kR5 kGA kGB
   rw [e7] at q0 q1 q2 fr
   go_wp2
   rw [← e7]
   rw [← e7] at q0 q1 q2
   exact bodyPost_ret (v := .tuple #[.agg #[.int .i64 PM.r, .int .i64 PM.c, .slice A7 N c7], .bool true]) (by simp [results, go_sem, q0, q1, q2]) rfl ⟨_, by rw [HFF.out], by rw [HFF.out]; exact OF.out.wider (Nat.le_refl _) (by simp), GF.out⟩
 ·intro x w hb hk hiv hdj om os hom hos
  simp only [List.getElem?_cons_zero, List.getElem?_cons_succ, Option.some.injEq] at hom hos
  subst hom hos
  have h0 : x.v 0 = .pointer (some ⟨w0.heap.size, 0, none⟩) := hk 0 (by decide)
  have h1 : x.v 1 = .int .i64 y.p := hk 1 (by decide)
  have h2 : x.v 2 = .int .i64 v1 := hk 2 (by decide)
  have h3 : x.v 3 = .pointer (some ⟨w0.heap.size, 5, none⟩) := hk 3 (by decide)
  have h4 : x.v 4 = .slice (some ⟨bm, om, none⟩) 2 uh := hk 4 (by decide)
  have h5 : x.v 5 = .pointer (some ⟨bm, om, none⟩) := hk 5 (by decide)
  have h6 : x.v 6 = .agg #[.int .i64 R, .int .i64 C, .slice A0 LA c0] := hk 6 (by decide)
  have h7 : ∃ s n c', x.v 7 = .tuple #[.agg #[.int .i64 (R : Int), .int .i64 C, .slice s n c'], .bool true] ∧ MxO w (x.lo 7) (x.hi 7) (.agg #[.int .i64 (R : Int), .int .i64 C, .slice s n c']) (mxF R C (scM y.p v1 fa)) := hk 7 (by decide)
  have h8 : ∃ s n c', x.v 8 = .tuple #[.agg #[.int .i64 (R : Int), .int .i64 C, .slice s n c'], .bool true] ∧ MxO w (x.lo 7) (x.hi 7) (.agg #[.int .i64 (R : Int), .int .i64 C, .slice s n c']) (mxF R C (scM y.p v1 fa)) := hk 8 (by decide)
  have h9 : ∃ s n c', x.v 9 = .agg #[.int .i64 (R : Int), .int .i64 C, .slice s n c'] ∧ MxO w (x.lo 7) (x.hi 7) (.agg #[.int .i64 (R : Int), .int .i64 C, .slice s n c']) (mxF R C (scM y.p v1 fa)) := hk 9 (by decide)
  have h11 : ∃ g, (x.v 11) = .pointer (some ⟨g, 0, none⟩) ∧ ((x.lo 11) ≤ g ∧ g < (x.hi 11)) ∧ Blk w g 44 #[.int .i64 0, .int .i64 0, .slice none 0 0] := hk 11 (by decide)
  clear hk
  simp only [List.foldl_cons, List.foldl_nil, netE]
  simp only [List.drop_succ_cons, List.drop_zero, h0, h1, h2, h3, h4, h5, h6]
  clear h0 h1 h2 h3 h4 h5 h6
  obtain ⟨gR, e17, hg, kG⟩ := h11
  obtain ⟨s1, n1, c1', e9, ho1⟩ := h9
  obtain ⟨s1', n1', c1'', e8, _⟩ := h8
  rw [e9, e17, e8]
  have i16 := hiv 7 (by decide)
  have i17 := hiv 11 (by decide)
  have d167 := hdj 7 11 (by decide) (by decide) (by decide)
  clear hiv hdj e9 e17 e8 h7
  have frG := kG.frozen
  have r0 := kG.cell' (i := 0) rfl
  have r1 := kG.cell' (i := 1) rfl
  have r2 := kG.cell' (i := 2) rfl
  have hbs := hb.size
  have hws0 := HWS.out
  obtain ⟨W3, e3⟩ : ∃ u, u = (((w.setCell ⟨gR, 0, none⟩ (.int .i64 R)).setCell ⟨gR, 1, none⟩ (.int .i64 C)).setCell ⟨gR, 2, none⟩ (.slice s1 n1 c1')) := ⟨_, rfl⟩
  have kG3 : Blk W3 gR 44 #[.int .i64 R, .int .i64 C, .slice s1 n1 c1'] := by rw [e3]; exact (((kG.set_ 0 _).set_ 1 _).set_ 2 _)
  have hc : Chg gR (gR + 1) w W3 := by rw [e3]; exact chg3 _ _ _ _ _
  have kB3 := (kB.call hb).chg hc (by omega)
  have kR3 := (kR.call hb).chg hc (by have := SZ.out; omega)
  have gW3 := gW.trans ((hb.mono hs1).trans (hc.below (B := W.heap.size) (by omega) (by omega)))
  have h16' := (ho1.chg hc (by omega)).rd
  have H16 := Lib.hid h16'
  have s3 := hc.size
  clear ho1 h16' kG hb hc d167 i16 i17 hg
  go_wp2
  rw [← e3]
  clear e3 frG r0 r1 r2 hbs
  have gs3 := gW3.size
  have hbm3 : bm < W3.heap.size := by omega
  have z0'' := bcell gW3 hbm2 z0'
  have z1'' := bcell gW3 hbm2 z1'
  have z2'' := bcell gW3 hbm2 z2'
  refine wp_region_net2 (by kernel_rfl) [.eq (.pointer (some ⟨w0.heap.size, 0, none⟩)), .eq (.int .i64 y.p), .eq (.int .i64 v2), .eq (.pointer (some ⟨w0.heap.size, 5, none⟩)), .eq (.slice (some ⟨bm, om, none⟩) 2 uh), .eq (.pointer (some ⟨bm, om + 3, none⟩)), .eq (.agg #[.int .i64 R, .int .i64 C, .slice A1 LB c1]), .rel (fun x w => ∃ s n c', x.v 7 = .tuple #[.agg #[.int .i64 (R : Int), .int .i64 C, .slice s n c'], .bool true] ∧ MxO w (x.lo 7) (x.hi 7) (.agg #[.int .i64 (R : Int), .int .i64 C, .slice s n c']) (mxF R C (scM y.p v2 fb))), .rel (fun x w => ∃ s n c', x.v 8 = .tuple #[.agg #[.int .i64 (R : Int), .int .i64 C, .slice s n c'], .bool true] ∧ MxO w (x.lo 7) (x.hi 7) (.agg #[.int .i64 (R : Int), .int .i64 C, .slice s n c']) (mxF R C (scM y.p v2 fb))), .rel (fun x w => ∃ s n c', x.v 9 = .agg #[.int .i64 (R : Int), .int .i64 C, .slice s n c'] ∧ MxO w (x.lo 7) (x.hi 7) (.agg #[.int .i64 (R : Int), .int .i64 C, .slice s n c']) (mxF R C (scM y.p v2 fb))), .eq (.bool true), rel 11 (fun u lo hi w => ∃ g, u = .pointer (some ⟨g, 0, none⟩) ∧ (lo ≤ g ∧ g < hi) ∧ Blk w g 44 #[.int .i64 0, .int .i64 0, .slice none 0 0])] [[], [0], [], [], [3], [3, 4], [3, 4, 5], [0, 1, 2, 3, 4, 5, 6], [0, 1, 2, 3, 4, 5, 6, 7], [0, 1, 2, 3, 4, 5, 6, 7, 8], [0, 1, 2, 3, 4, 5, 6, 7, 8], [], [0, 1, 2, 3, 4, 5, 6, 7, 8, 9, 11], [0, 1, 2, 3, 4, 5, 6, 7, 8, 9, 10, 11, 12]] 12 10 [0, 1, 2, 3, 4, 5, 6, 7, 8, 9, 11] (by kernel_rfl) rfl ⟨trivial, trivial, trivial, trivial, trivial, trivial, trivial, fun x w w' ⟨s, n, c', e1, h1⟩ hb => ⟨s, n, c', e1, h1.below hb⟩, fun x w w' ⟨s, n, c', e1, h1⟩ hb => ⟨s, n, c', e1, h1.below hb⟩, fun x w w' ⟨s, n, c', e1, h1⟩ hb => ⟨s, n, c', e1, h1.below hb⟩, trivial, rel_stable (fun u lo hi w w' ⟨g, e, h1, h⟩ hb => ⟨g, e, h1, h.call hb⟩), trivial⟩ ⟨?_, ?_, ?_, ?_, ?_, ?_, ?_, ?_, ?_, ?_, ?_, ?_, trivial⟩ ?_ ?_
  ·intro x w hb hk Q' hQ
   clear hk
   simp only [netE] at hQ ⊢
   go_wp2
   exact hQ _ _ (Below.refl _ _) rfl
  ·intro x w hb hk Q' hQ
   have h0 : x.v 0 = _ := (hk 0 (by decide)).1
   clear hk
   simp only [netE] at hQ ⊢
   simp only [h0] at hQ ⊢
   clear h0
   have q0 := (kB3.call hb).cell' (i := 0) rfl
   go_wp2
   exact hQ _ _ (Below.refl _ _) rfl
  ·intro x w hb hk Q' hQ
   clear hk
   simp only [netE] at hQ ⊢
   go_wp2
   exact hQ _ _ (Below.refl _ _) rfl
  ·intro x w hb hk Q' hQ
   clear hk
   simp only [netE] at hQ ⊢
   go_wp2
   exact hQ _ _ (Below.refl _ _) rfl
  ·intro x w hb hk Q' hQ
   have h3 : x.v 3 = _ := (hk 3 (by decide)).1
   clear hk
   simp only [netE] at hQ ⊢
   simp only [h3] at hQ ⊢
   clear h3
   have q0 := (kB3.call hb).cell' (i := 5) rfl
   go_wp2
   exact hQ _ _ (Below.refl _ _) rfl
  ·intro x w hb hk Q' hQ
   have h4 : x.v 4 = _ := (hk 4 (by decide)).1
   clear hk
   simp only [netE] at hQ ⊢
   simp only [h4] at hQ ⊢
   clear h4
   go_wp2
   exact hQ _ _ (Below.refl _ _) rfl
  ·intro x w hb hk Q' hQ
   have h5 : x.v 5 = _ := (hk 5 (by decide)).1
   clear hk
   simp only [netE] at hQ ⊢
   simp only [h5] at hQ ⊢
   clear h5
   have q0 := bcell hb hbm3 z0''
   have q1 := bcell hb hbm3 z1''
   have q2 := bcell hb hbm3 z2''
   go_wp2
   exact hQ _ _ (Below.refl _ _) rfl
  ·intro x w hb hk Q' hQ
   have h0 : x.v 0 = _ := (hk 0 (by decide)).1
   have h1 : x.v 1 = _ := (hk 1 (by decide)).1
   have h2 : x.v 2 = _ := (hk 2 (by decide)).1
   have h3 : x.v 3 = _ := (hk 3 (by decide)).1
   have h4 : x.v 4 = _ := (hk 4 (by decide)).1
   have h5 : x.v 5 = _ := (hk 5 (by decide)).1
   have h6 : x.v 6 = _ := (hk 6 (by decide)).1
   clear hk
   simp only [netE] at hQ ⊢
   simp only [h0, h1, h2, h3, h4, h5, h6] at hQ ⊢
   clear h0 h1 h2 h3 h4 h5 h6
   have hm3 := MxR.more (show W.heap.size ≤ w.heap.size by have := hb.size; omega) (MxR.below (gW3.trans (hb.mono gs3)) HM1.out)
   have HM3 := Lib.hid hm3
   clear hm3
   go_wp2_with fail
   refine (scaleMatrix_any y.p v2 _ R C fb _ hv2 HM3.out (isMat_mxF HP.out (by omega) (by omega) HFB.out)).mono ?_; rintro e w5 ⟨v5, rfl, hO5, hb5⟩
   have HO5 := Lib.hid hO5
   obtain ⟨A5, c5, e5⟩ := hO5.form
   have e5' : v5 = .agg #[.int .i64 (R : Int), .int .i64 C, .slice A5 (mxF R C (scM y.p v2 fb)).a.length c5] := e5
   obtain ⟨n5, hn5⟩ : ∃ n, (mxF R C (scM y.p v2 fb)).a.length = n := ⟨_, rfl⟩
   rw [hn5] at e5'
   subst e5'
   clear hO5 e5 hn5
   go_wp2
   exact hQ _ _ hb5 ⟨_, _, _, rfl, HO5.out⟩
  ·intro x w hb hk Q' hQ
   have h0 : x.v 0 = _ := (hk 0 (by decide)).1
   have h1 : x.v 1 = _ := (hk 1 (by decide)).1
   have h2 : x.v 2 = _ := (hk 2 (by decide)).1
   have h3 : x.v 3 = _ := (hk 3 (by decide)).1
   have h4 : x.v 4 = _ := (hk 4 (by decide)).1
   have h5 : x.v 5 = _ := (hk 5 (by decide)).1
   have h6 : x.v 6 = _ := (hk 6 (by decide)).1
   have h7 : ∃ s n c', x.v 7 = .tuple #[.agg #[.int .i64 (R : Int), .int .i64 C, .slice s n c'], .bool true] ∧ MxO w (x.lo 7) (x.hi 7) (.agg #[.int .i64 (R : Int), .int .i64 C, .slice s n c']) (mxF R C (scM y.p v2 fb)) := (hk 7 (by decide)).1
   have s7 := (hk 7 (by decide)).2
   clear hk
   simp only [netE] at hQ ⊢
   simp only [h0, h1, h2, h3, h4, h5, h6] at hQ ⊢
   clear h0 h1 h2 h3 h4 h5 h6
   obtain ⟨s, n, c', e1, ho⟩ := h7
   have hQ' := hQ (.tuple #[.agg #[.int .i64 (R : Int), .int .i64 C, .slice s n c'], .bool true]) w (Below.refl _ _) ⟨s, n, c', rfl, ho⟩
   rw [e1] at hQ' ⊢
   go_wp2
   exact hQ'
  ·intro x w hb hk Q' hQ
   have h0 : x.v 0 = _ := (hk 0 (by decide)).1
   have h1 : x.v 1 = _ := (hk 1 (by decide)).1
   have h2 : x.v 2 = _ := (hk 2 (by decide)).1
   have h3 : x.v 3 = _ := (hk 3 (by decide)).1
   have h4 : x.v 4 = _ := (hk 4 (by decide)).1
   have h5 : x.v 5 = _ := (hk 5 (by decide)).1
   have h6 : x.v 6 = _ := (hk 6 (by decide)).1
   have h7 : ∃ s n c', x.v 7 = .tuple #[.agg #[.int .i64 (R : Int), .int .i64 C, .slice s n c'], .bool true] ∧ MxO w (x.lo 7) (x.hi 7) (.agg #[.int .i64 (R : Int), .int .i64 C, .slice s n c']) (mxF R C (scM y.p v2 fb)) := (hk 7 (by decide)).1
   have h8 : ∃ s n c', x.v 8 = .tuple #[.agg #[.int .i64 (R : Int), .int .i64 C, .slice s n c'], .bool true] ∧ MxO w (x.lo 7) (x.hi 7) (.agg #[.int .i64 (R : Int), .int .i64 C, .slice s n c']) (mxF R C (scM y.p v2 fb)) := (hk 8 (by decide)).1
   have s7 := (hk 7 (by decide)).2
   have s8 := (hk 8 (by decide)).2
   clear hk
   simp only [netE] at hQ ⊢
   simp only [h0, h1, h2, h3, h4, h5, h6] at hQ ⊢
   clear h0 h1 h2 h3 h4 h5 h6
   obtain ⟨s, n, c', e1, ho⟩ := h8
   have hQ' := hQ (.agg #[.int .i64 (R : Int), .int .i64 C, .slice s n c']) w (Below.refl _ _) ⟨s, n, c', rfl, ho⟩
   rw [e1] at hQ' ⊢
   go_wp2
   exact hQ'
  ·intro x w hb hk Q' hQ
   have h8 : ∃ s n c', x.v 8 = .tuple #[.agg #[.int .i64 (R : Int), .int .i64 C, .slice s n c'], .bool true] ∧ MxO w (x.lo 7) (x.hi 7) (.agg #[.int .i64 (R : Int), .int .i64 C, .slice s n c']) (mxF R C (scM y.p v2 fb)) := (hk 8 (by decide)).1
   clear hk
   simp only [netE] at hQ ⊢
   obtain ⟨s, n, c', e1, ho⟩ := h8
   rw [e1] at hQ ⊢
   go_wp2
   exact hQ _ _ (Below.refl _ _) rfl
  ·intro x w hb hk Q' hQ
   clear hk
   simp only [netE] at hQ ⊢
   go_wp2
   exact hQ _ _ (below_alloc _ _) ⟨_, rfl, ⟨Nat.le_refl _, by show w.heap.size < (w.alloc _).heap.size; simp⟩, Blk.new _ _ _⟩
  ·intro x w hb hk hiv hdj
   have h0 : x.v 0 = .pointer (some ⟨w0.heap.size, 0, none⟩) := hk 0 (by decide)
   have h1 : x.v 1 = .int .i64 y.p := hk 1 (by decide)
   have h2 : x.v 2 = .int .i64 v2 := hk 2 (by decide)
   have h3 : x.v 3 = .pointer (some ⟨w0.heap.size, 5, none⟩) := hk 3 (by decide)
   have h4 : x.v 4 = .slice (some ⟨bm, om, none⟩) 2 uh := hk 4 (by decide)
   have h5 : x.v 5 = .pointer (some ⟨bm, om + 3, none⟩) := hk 5 (by decide)
   have h6 : x.v 6 = .agg #[.int .i64 R, .int .i64 C, .slice A1 LB c1] := hk 6 (by decide)
   have h7 : ∃ s n c', x.v 7 = .tuple #[.agg #[.int .i64 (R : Int), .int .i64 C, .slice s n c'], .bool true] ∧ MxO w (x.lo 7) (x.hi 7) (.agg #[.int .i64 (R : Int), .int .i64 C, .slice s n c']) (mxF R C (scM y.p v2 fb)) := hk 7 (by decide)
   have h8 : ∃ s n c', x.v 8 = .tuple #[.agg #[.int .i64 (R : Int), .int .i64 C, .slice s n c'], .bool true] ∧ MxO w (x.lo 7) (x.hi 7) (.agg #[.int .i64 (R : Int), .int .i64 C, .slice s n c']) (mxF R C (scM y.p v2 fb)) := hk 8 (by decide)
   have h9 : ∃ s n c', x.v 9 = .agg #[.int .i64 (R : Int), .int .i64 C, .slice s n c'] ∧ MxO w (x.lo 7) (x.hi 7) (.agg #[.int .i64 (R : Int), .int .i64 C, .slice s n c']) (mxF R C (scM y.p v2 fb)) := hk 9 (by decide)
   have h10 : x.v 10 = .bool true := hk 10 (by decide)
   have h11 : ∃ g, (x.v 11) = .pointer (some ⟨g, 0, none⟩) ∧ ((x.lo 11) ≤ g ∧ g < (x.hi 11)) ∧ Blk w g 44 #[.int .i64 0, .int .i64 0, .slice none 0 0] := hk 11 (by decide)
   clear hk
   simp only [netE]
   simp only [List.drop_succ_cons, List.drop_zero, h0, h1, h2, h3, h4, h5, h6, h10]
   clear h0 h1 h2 h3 h4 h5 h6 h10
   obtain ⟨gB, e11, hg2, kG2⟩ := h11
   obtain ⟨s2, n2, c2, e9, ho2⟩ := h9
   obtain ⟨s2', n2', c2', e8, _⟩ := h8
   rw [e9, e11, e8]
   have i7 := hiv 7 (by decide)
   have i11 := hiv 11 (by decide)
   have d7 := hdj 7 11 (by decide) (by decide) (by decide)
   clear hiv hdj e9 e11 e8 h7
   have frG := kG2.frozen
   have r0 := kG2.cell' (i := 0) rfl
   have r1 := kG2.cell' (i := 1) rfl
   have r2 := kG2.cell' (i := 2) rfl
   have hbs := hb.size
   obtain ⟨W5, e5⟩ : ∃ u, u = (((w.setCell ⟨gB, 0, none⟩ (.int .i64 R)).setCell ⟨gB, 1, none⟩ (.int .i64 C)).setCell ⟨gB, 2, none⟩ (.slice s2 n2 c2)) := ⟨_, rfl⟩
   have kGB : Blk W5 gB 44 #[.int .i64 R, .int .i64 C, .slice s2 n2 c2] := by rw [e5]; exact (((kG2.set_ 0 _).set_ 1 _).set_ 2 _)
   have hc : Chg gB (gB + 1) w W5 := by rw [e5]; exact chg3 _ _ _ _ _
   have kB5 := (kB3.call hb).chg hc (by omega)
   have kR5 := (kR3.call hb).chg hc (by have := SZ.out; omega)
   have kGA := (kG3.call hb).chg hc (by have := kG3.lt; omega)
   have gW5 := gW3.trans ((hb.mono gs3).trans (hc.below (B := W.heap.size) (by omega) (by omega)))
   have h2' := (ho2.chg hc (by omega)).rd
   have HB5 := Lib.hid h2'
   have HA5 := Lib.hid (MxR.more (show W3.heap.size ≤ W5.heap.size by have := hc.size; omega) (MxR.below (hb.trans (hc.below (B := W3.heap.size) (by omega) (by omega))) H16.out))
   clear ho2 h2' kG2 hb hc d7 i7 i11 hg2 kB3 kR3 kG3
   have p0 := kB5.cell' (i := 0) rfl
   have a0 := kGA.cell' (i := 0) rfl
   have a1 := kGA.cell' (i := 1) rfl
   have a2 := kGA.cell' (i := 2) rfl
   have b0 := kGB.cell' (i := 0) rfl
   have b1 := kGB.cell' (i := 1) rfl
   have b2 := kGB.cell' (i := 2) rfl
   have t0 := p0
   have t1 := a0
   have t2 := a1
   have t3 := a2
   have t4 := b0
   have t5 := b1
   have t6 := b2
   rw [e5] at t0 t1 t2 t3 t4 t5 t6
   go_wp2_with fail
   rw [← e5]
   clear e5 frG r0 r1 r2 hbs t0 t1 t2 t3 t4 t5 t6 p0 a0 a1 a2 b0 b1 b2
   refine (addMatrices_any y.p _ _ R C (scM y.p v1 fa) (scM y.p v2 fb) W5 HA5.out HB5.out (isMat_mxF HP.out (by omega) (by omega) (fun i j _ _ => scM_rng hpr i j)) (isMat_mxF HP.out (by omega) (by omega) (fun i j _ _ => scM_rng hpr i j))).mono ?_; rintro e w6 ⟨v6, rfl, ho6, hb6⟩
   obtain ⟨PM, hPM⟩ : ∃ M, M = mxF R C (adM y.p (scM y.p v1 fa) (scM y.p v2 fb)) := ⟨_, rfl⟩
   have HFF := Lib.hid (show pAtP y v1 v2 = (PM, true) by rw [hPM]; exact HPM.out)
   rw [← hPM] at ho6
   clear hPM
   obtain ⟨A7, c7, e7⟩ := ho6.form
   subst e7
   obtain ⟨N, hN⟩ : ∃ N, PM.a.length = N := ⟨_, rfl⟩
   rw [hN] at ho6 ⊢
   obtain ⟨W7, e7⟩ : ∃ u, u = w6.alloc (.cells #[.int .i64 PM.r, .int .i64 PM.c, .slice A7 N c7] 44) := ⟨_, rfl⟩
   have hb7 : Below w6.heap.size w6 W7 := by rw [e7]; exact below_alloc _ _
   have kX := (kR5.call hb6).call hb7
   have oX := ho6.below hb7
   have q0 := kX.cell' (i := 0) rfl
   have q1 := kX.cell' (i := 1) rfl
   have q2 := kX.cell' (i := 2) rfl
   have fr := kX.frozen
   have sz := SZ.out
   have s5 := gW5.size
   have s6 := hb6.size
   have s7 := hb7.size
   have gX := (GW0.out).trans (((gW5.mono (by omega)).trans (hb6.mono (by omega))).trans (hb7.mono (by omega)))
   have gXs := gX.size
   have h2 := chg3 W7 (w0.heap.size + 1) (.int .i64 PM.r) (.int .i64 PM.c) (.slice A7 N c7)
   have OF := Lib.hid ((oX.chg h2 (.inr (by omega))).wider (lo' := w0.heap.size) (hi' := W7.heap.size) (by omega) (by omega))
   have GF := Lib.hid (gX.trans (h2.below (by omega) gXs))
   clear ho6 oX h2 gX kX hN sz gXs hb6 hb7 s5 s6 s7 gW5 kB5 kR5 kGA kGB
   rw [e7] at q0 q1 q2 fr
   go_wp2
   rw [← e7]
   rw [← e7] at q0 q1 q2
   exact bodyPost_ret (v := .tuple #[.agg #[.int .i64 PM.r, .int .i64 PM.c, .slice A7 N c7], .bool true]) (by simp [results, go_sem, q0, q1, q2]) rfl ⟨_, by rw [HFF.out], by rw [HFF.out]; exact OF.out.wider (Nat.le_refl _) (by simp), GF.out⟩
  ·intro x w hb hk hiv hdj om os hom hos
   simp only [List.getElem?_cons_zero, List.getElem?_cons_succ, Option.some.injEq] at hom hos
   subst hom hos
   have h0 : x.v 0 = .pointer (some ⟨w0.heap.size, 0, none⟩) := hk 0 (by decide)
   have h1 : x.v 1 = .int .i64 y.p := hk 1 (by decide)
   have h2 : x.v 2 = .int .i64 v2 := hk 2 (by decide)
   have h3 : x.v 3 = .pointer (some ⟨w0.heap.size, 5, none⟩) := hk 3 (by decide)
   have h4 : x.v 4 = .slice (some ⟨bm, om, none⟩) 2 uh := hk 4 (by decide)
   have h5 : x.v 5 = .pointer (some ⟨bm, om + 3, none⟩) := hk 5 (by decide)
   have h6 : x.v 6 = .agg #[.int .i64 R, .int .i64 C, .slice A1 LB c1] := hk 6 (by decide)
   have h7 : ∃ s n c', x.v 7 = .tuple #[.agg #[.int .i64 (R : Int), .int .i64 C, .slice s n c'], .bool true] ∧ MxO w (x.lo 7) (x.hi 7) (.agg #[.int .i64 (R : Int), .int .i64 C, .slice s n c']) (mxF R C (scM y.p v2 fb)) := hk 7 (by decide)
   have h8 : ∃ s n c', x.v 8 = .tuple #[.agg #[.int .i64 (R : Int), .int .i64 C, .slice s n c'], .bool true] ∧ MxO w (x.lo 7) (x.hi 7) (.agg #[.int .i64 (R : Int), .int .i64 C, .slice s n c']) (mxF R C (scM y.p v2 fb)) := hk 8 (by decide)
   have h9 : ∃ s n c', x.v 9 = .agg #[.int .i64 (R : Int), .int .i64 C, .slice s n c'] ∧ MxO w (x.lo 7) (x.hi 7) (.agg #[.int .i64 (R : Int), .int .i64 C, .slice s n c']) (mxF R C (scM y.p v2 fb)) := hk 9 (by decide)
   have h11 : ∃ g, (x.v 11) = .pointer (some ⟨g, 0, none⟩) ∧ ((x.lo 11) ≤ g ∧ g < (x.hi 11)) ∧ Blk w g 44 #[.int .i64 0, .int .i64 0, .slice none 0 0] := hk 11 (by decide)
   clear hk
   simp only [List.foldl_cons, List.foldl_nil, netE]
   simp only [List.drop_succ_cons, List.drop_zero, h0, h1, h2, h3, h4, h5, h6]
   clear h0 h1 h2 h3 h4 h5 h6
   obtain ⟨gB, e11, hg2, kG2⟩ := h11
   obtain ⟨s2, n2, c2, e9, ho2⟩ := h9
   obtain ⟨s2', n2', c2', e8, _⟩ := h8
   rw [e9, e11, e8]
   have i7 := hiv 7 (by decide)
   have i11 := hiv 11 (by decide)
   have d7 := hdj 7 11 (by decide) (by decide) (by decide)
   clear hiv hdj e9 e11 e8 h7
   have frG := kG2.frozen
   have r0 := kG2.cell' (i := 0) rfl
   have r1 := kG2.cell' (i := 1) rfl
   have r2 := kG2.cell' (i := 2) rfl
   have hbs := hb.size
   obtain ⟨W5, e5⟩ : ∃ u, u = (((w.setCell ⟨gB, 0, none⟩ (.int .i64 R)).setCell ⟨gB, 1, none⟩ (.int .i64 C)).setCell ⟨gB, 2, none⟩ (.slice s2 n2 c2)) := ⟨_, rfl⟩
   have kGB : Blk W5 gB 44 #[.int .i64 R, .int .i64 C, .slice s2 n2 c2] := by rw [e5]; exact (((kG2.set_ 0 _).set_ 1 _).set_ 2 _)
   have hc : Chg gB (gB + 1) w W5 := by rw [e5]; exact chg3 _ _ _ _ _
   have kB5 := (kB3.call hb).chg hc (by omega)
   have kR5 := (kR3.call hb).chg hc (by have := SZ.out; omega)
   have kGA := (kG3.call hb).chg hc (by have := kG3.lt; omega)
   have gW5 := gW3.trans ((hb.mono gs3).trans (hc.below (B := W.heap.size) (by omega) (by omega)))
   have h2' := (ho2.chg hc (by omega)).rd
   have HB5 := Lib.hid h2'
   have HA5 := Lib.hid (MxR.more (show W3.heap.size ≤ W5.heap.size by have := hc.size; omega) (MxR.below (hb.trans (hc.below (B := W3.heap.size) (by omega) (by omega))) H16.out))
   clear ho2 h2' kG2 hb hc d7 i7 i11 hg2 kB3 kR3 kG3
   have p0 := kB5.cell' (i := 0) rfl
   have a0 := kGA.cell' (i := 0) rfl
   have a1 := kGA.cell' (i := 1) rfl
   have a2 := kGA.cell' (i := 2) rfl
   have b0 := kGB.cell' (i := 0) rfl
   have b1 := kGB.cell' (i := 1) rfl
   have b2 := kGB.cell' (i := 2) rfl
   have t0 := p0
   have t1 := a0
   have t2 := a1
   have t3 := a2
   have t4 := b0
   have t5 := b1
   have t6 := b2
   rw [e5] at t0 t1 t2 t3 t4 t5 t6
   go_wp2_with fail
   rw [← e5]
   clear e5 frG r0 r1 r2 hbs t0 t1 t2 t3 t4 t5 t6 p0 a0 a1 a2 b0 b1 b2
   refine (addMatrices_any y.p _ _ R C (scM y.p v1 fa) (scM y.p v2 fb) W5 HA5.out HB5.out (isMat_mxF HP.out (by omega) (by omega) (fun i j _ _ => scM_rng hpr i j)) (isMat_mxF HP.out (by omega) (by omega) (fun i j _ _ => scM_rng hpr i j))).mono ?_; rintro e w6 ⟨v6, rfl, ho6, hb6⟩
   obtain ⟨PM, hPM⟩ : ∃ M, M = mxF R C (adM y.p (scM y.p v1 fa) (scM y.p v2 fb)) := ⟨_, rfl⟩
   have HFF := Lib.hid (show pAtP y v1 v2 = (PM, true) by rw [hPM]; exact HPM.out)
   rw [← hPM] at ho6
   clear hPM
   obtain ⟨A7, c7, e7⟩ := ho6.form
   subst e7
   obtain ⟨N, hN⟩ : ∃ N, PM.a.length = N := ⟨_, rfl⟩
   rw [hN] at ho6 ⊢
   obtain ⟨W7, e7⟩ : ∃ u, u = w6.alloc (.cells #[.int .i64 PM.r, .int .i64 PM.c, .slice A7 N c7] 44) := ⟨_, rfl⟩
   have hb7 : Below w6.heap.size w6 W7 := by rw [e7]; exact below_alloc _ _
   have kX := (kR5.call hb6).call hb7
   have oX := ho6.below hb7
   have q0 := kX.cell' (i := 0) rfl
   have q1 := kX.cell' (i := 1) rfl
   have q2 := kX.cell' (i := 2) rfl
   have fr := kX.frozen
   have sz := SZ.out
   have s5 := gW5.size
   have s6 := hb6.size
   have s7 := hb7.size
   have gX := (GW0.out).trans (((gW5.mono (by omega)).trans (hb6.mono (by omega))).trans (hb7.mono (by omega)))
   have gXs := gX.size
   have h2 := chg3 W7 (w0.heap.size + 1) (.int .i64 PM.r) (.int .i64 PM.c) (.slice A7 N c7)
   have OF := Lib.hid ((oX.chg h2 (.inr (by omega))).wider (lo' := w0.heap.size) (hi' := W7.heap.size) (by omega) (by omega))
   have GF := Lib.hid (gX.trans (h2.below (by omega) gXs))
   clear ho6 oX h2 gX kX hN sz gXs hb6 hb7 s5 s6 s7 gW5 kB5 kR5 kGA kGB
   rw [e7] at q0 q1 q2 fr
   go_wp2
   rw [← e7]
   rw [← e7] at q0 q1 q2
   exact bodyPost_ret (v := .tuple #[.agg #[.int .i64 PM.r, .int .i64 PM.c, .slice A7 N c7], .bool true]) (by simp [results, go_sem, q0, q1, q2]) rfl ⟨_, by rw [HFF.out], by rw [HFF.out]; exact OF.out.wider (Nat.le_refl _) (by simp), GF.out⟩
theorem specPencilAt_any (u : Value) (x : Rp) (v1 v2 : Int) (w0 : World) (hu : RpR w0 w0.heap.size u x) (hv1 : I64 v1) (hv2 : I64 v2) :
  Calls Tryz.prog 20 #[u, .int .i64 v1, .int .i64 v2] w0 fun e w' => ∃ r, e = .returned (.tuple #[r, .bool (pAtP x v1 v2).2]) ∧ MxO w' w0.heap.size w'.heap.size r (pAtP x v1 v2).1 ∧ Below w0.heap.size w0 w' := by
 rcases h : isPen x with _ | _
 ·exact specPA_no u x v1 v2 w0 hu h
 ·exact specPA_yes u x v1 v2 w0 hu hv1 hv2 h
def peA (x : Rp) : Nat → Nat → Int := entry (x.m.getD 0 mx0).a (x.d.getD 0 0).toNat
def peB (x : Rp) : Nat → Nat → Int := entry (x.m.getD 1 mx0).a (x.d.getD 0 0).toNat
def peK (x : Rp) (k : Int) : Nat → Nat → Int := plF x.p k (plF x.p 1 (fun _ _ => 0) (peA x)) (peB x)
def peR (x : Rp) (k : Nat) : Int := (rkF x.p (x.d.getD 1 0).toNat (x.d.getD 0 0).toNat (peK x k) : Int)
def peE (x : Rp) : Int := (rkF x.p (x.d.getD 1 0).toNat (x.d.getD 0 0).toNat (peB x) : Int)
def peL (x : Rp) (k : Nat) : List Int := (List.range k).map (peR x)
def pkL (x : Rp) : List Int := if isPen x then peL x x.p.toNat ++ [peE x] else []
theorem peL_succ (x : Rp) (k : Nat) : peL x (k + 1) = peL x k ++ [peR x k] := by simp [peL, List.range_succ]
theorem peL_length (x : Rp) (k : Nat) : (peL x k).length = k := by simp [peL]
theorem pen_at2 {x : Rp} (h : isPen x = true) : ∃ C R : Nat, x.d = [(C : Int), (R : Int)] ∧ x.m = [mxF R C (peA x), mxF R C (peB x)] ∧ C ≤ 4 ∧ R ≤ 4 ∧ isFld x.p = true ∧ InF x.p R C (peA x) ∧ InF x.p R C (peB x) ∧
  (∀ k, penM x 1 k = mxF R C (peK x k)) ∧ (∀ k : Nat, peR x k = (rkF x.p R C (peK x k) : Int)) ∧ peE x = (rkF x.p R C (peB x) : Int) := by
 obtain ⟨C, R, fa, fb, ed, em, hC, hR, hp, hqq, rfa, rfb⟩ := pen_at h
 have e0 : (x.d.getD 0 0).toNat = C := by rw [ed]; simp
 have e1 : (x.d.getD 1 0).toNat = R := by rw [ed]; simp
 have ea : ∀ i j, i < R → j < C → peA x i j = fa i j := fun i j hi hj => by
  rw [peA, em, e0]
  exact entry_flat fa hi hj
 have eb : ∀ i j, i < R → j < C → peB x i j = fb i j := fun i j hi hj => by
  rw [peB, em, e0]
  exact entry_flat fb hi hj
 have hm : x.m = [mxF R C (peA x), mxF R C (peB x)] := by rw [em, mxF_congr ea, mxF_congr eb]
 refine ⟨C, R, ed, hm, hC, hR, hp, fun i j hi hj => by rw [ea i j hi hj]; exact rfa i j hi hj, fun i j hi hj => by rw [eb i j hi hj]; exact rfb i j hi hj, fun k => penM_of hm, fun k => by rw [peR, e0, e1], by rw [peE, e0, e1]⟩
theorem peK_inF {x : Rp} {R C : Nat} (hp : 2 ≤ x.p) (k : Int) : InF x.p R C (peK x k) := fun i j _ _ => by
 unfold peK
 unfold plF
 exact emod_rng hp
set_option maxHeartbeats 6400000 in
set_option maxRecDepth 100000 in
theorem implPencilRanks_any (u : Value) (x : Rp) (w0 : World) (hu : RpR w0 w0.heap.size u x) :
  Calls Tryz.prog 11 #[u] w0 fun e w' => ∃ v, e = .returned v ∧ IntsO w' w0.heap.size w'.heap.size v (pkL x) ∧ Below w0.heap.size w0 w' := by
 have hu' := hu
 obtain ⟨A, a, C, c, E, e, H, h, rfl, hq, hd, hm, hp, ld, lm⟩ := hu.open_
 clear hu hq hd
 obtain ⟨W, hW⟩ : ∃ W, W = w0.alloc (.cells #[.int .i64 x.p, .int .i64 x.q.v, .slice A x.q.f.length a, .slice C x.q.t.length c, .slice E x.d.length e, .slice H x.m.length h] 31) := ⟨_, rfl⟩
 have g0 : Below w0.heap.size w0 W := by rw [hW]; exact below_alloc _ _
 have kB : Blk W w0.heap.size 31 #[.int .i64 x.p, .int .i64 x.q.v, .slice A x.q.f.length a, .slice C x.q.t.length c, .slice E x.d.length e, .slice H x.m.length h] := by rw [hW]; exact Blk.new _ _ _
 have HXR := Lib.hid (RpR.next g0 hu')
 replace hm := SlM.next g0 hm
 have c0 := kB.cell' (i := 0) rfl
 have c1 := kB.cell' (i := 1) rfl
 have c2 := kB.cell' (i := 2) rfl
 have c3 := kB.cell' (i := 3) rfl
 have c4 := kB.cell' (i := 4) rfl
 have c5 := kB.cell' (i := 5) rfl
 rcases hpen : isPen x with _ | _
 ·have HF := Lib.hid (show pkL x = [] by simp [pkL, hpen])
  have HPN := Lib.hid hpen
  clear hpen hm
  go_enter Tryz.func11, Tryz.ntmps11
  go_wp2_with fail
  rw [← hW]; clear hW
  refine (implIsPencil_any _ x _ HXR.out).mono ?_; rintro e w1 ⟨rfl, hb1⟩
  rw [HPN.out]
  go_wp2
  go_ret
  exact ⟨_, rfl, by rw [HF.out]; exact ⟨OwnI.nil _ _, by simp [Value.ownBlock]⟩, bthen g0 hb1⟩
 ·obtain ⟨DC, DR, ed, em, hC, hR, hfl, inA, inB, hpm, her, hee⟩ := pen_at2 hpen
  have hpr := isFld_r hfl
  have HF := Lib.hid (show pkL x = peL x x.p.toNat ++ [peE x] by simp [pkL, hpen])
  have HPN := Lib.hid hpen
  have HPM := Lib.hid hpm
  have HER := Lib.hid her
  have HEE := Lib.hid hee
  have HIA := Lib.hid inA
  have HIB := Lib.hid inB
  have HFL := Lib.hid hfl
  have hml : x.m.length = 2 := by rw [em]; rfl
  obtain ⟨bm, om, m1, A1, c1', eH, hbm, HM1, z0, z1, z2, hs1, i1, i2, _⟩ := SlM.at_ (k := 1) hm (by omega)
  subst eH
  have em1 := HM1.out
  rw [em] at em1
  simp only [List.getElem?_cons_succ, List.getElem?_cons_zero, Option.some.injEq] at em1
  subst em1
  have hMB : MxR W W.heap.size (.agg #[.int .i64 (mxF DR DC (peB x)).r, .int .i64 (mxF DR DC (peB x)).c, .slice A1 (mxF DR DC (peB x)).a.length c1']) (mxF DR DC (peB x)) := ⟨_, rfl, hs1, i1, i2⟩
  obtain ⟨P, hP⟩ := Int.eq_ofNat_of_zero_le (show 0 ≤ x.p by omega)
  simp only [mxF, flat_length] at hMB z0 z1 z2
  obtain ⟨ML, hML⟩ : ∃ z, DR * DC = z := ⟨_, rfl⟩
  rw [hML] at hMB z2
  simp only [Nat.one_mul] at z0 z1 z2
  have HMB := Lib.hid hMB
  have HPV := Lib.hid hP
  have hm1 : 1 < x.m.length := by omega
  clear hml hpen ed em hpm her hee inA inB hfl hm hMB hML hs1 i1 i2 HM1 hP
  go_enter Tryz.func11, Tryz.ntmps11
  go_wp2_with fail
  rw [← hW]; clear hW
  refine (implIsPencil_any _ x _ HXR.out).mono ?_; rintro e w1 ⟨rfl, hb1⟩
  rw [HPN.out]
  have kB1 := kB.call hb1
  have g1 := bthen g0 hb1
  have s1 := g1.size
  have GW := Lib.hid hb1
  clear c0 c1 c2 c3 c4 c5 g0 kB hb1
  have c0 := kB1.cell' (i := 0) rfl
  have c1 := kB1.cell' (i := 1) rfl
  have c2 := kB1.cell' (i := 2) rfl
  have c3 := kB1.cell' (i := 3) rfl
  have c4 := kB1.cell' (i := 4) rfl
  have c5 := kB1.cell' (i := 5) rfl
  go_wp2
  clear c0 c1 c2 c3 c4 c5
  go_loopw [3, 10] (fun ov i wr => ∃ k : Nat, (k : Int) ≤ x.p ∧ i = .int .i64 k ∧ IntsO wr w1.heap.size wr.heap.size ov (peL x k) ∧ Below w1.heap.size w1 wr) (fun _ i _ => (x.p - intOf i).toNat)
  case atStart => exact ⟨0, by omega, rfl, ⟨OwnI.nil _ _, by simp [Value.ownBlock]⟩, Below.refl _ _⟩
  case round =>
   obtain ⟨k, hk, rfl, hO, hbel⟩ := hrel
   obtain ⟨OA, oc, eo⟩ := hO.form
   subst eo
   have hol := peL_length x k
   have ws := hbel.size
   have kBr := kB1.call hbel
   rw [hol] at hO ⊢
   have HO := Lib.hid hO
   have HOL := Lib.hid hol
   clear hO hol
   by_cases hlt : (k : Int) < x.p
   ·have hrk := HER.out k
    obtain ⟨rk, hrk2⟩ : ∃ z, rkF x.p DR DC (peK x k) = z := ⟨_, rfl⟩
    have hrl := rkF_le x.p DR DC (peK x k)
    rw [hrk2] at hrl hrk
    have HRK2 := Lib.hid hrk2
    have HSU := Lib.hid (show peL x (k + 1) = peL x k ++ [(rk : Int)] by rw [peL_succ, hrk])
    have HXX := HXR.out
    have HINK := Lib.hid (peK_inF (x := x) (R := DR) (C := DC) hpr.1 (k : Int))
    clear hrk hrk2 HXX
    go_wp2
    obtain ⟨y, hy⟩ : ∃ y, y = x := ⟨_, rfl⟩
    subst hy
    refine wp_region_net (by kernel_rfl) [.eq (.slice OA k oc), .eq (.pointer (some ⟨w0.heap.size, 0, none⟩)), .eq (.int .i64 y.p), .eq (.agg #[.int .i64 y.p, .int .i64 y.q.v, .slice A y.q.f.length a, .slice C y.q.t.length c, .slice E y.d.length e, .slice (some ⟨bm, om, none⟩) y.m.length h]), .eq (.int .i64 k), rel 5 (fun u lo hi w => MxO w lo hi u (mxF DR DC (peK y k))), .eq (.int .i64 (rk : Int)), rel 7 (fun u lo hi w => ∃ g, u = .slice (some ⟨g, 0, none⟩) 1 1 ∧ Blk w g 3 #[.int .i64 (rk : Int)])] [[], [], [1], [], [], [3, 4], [1, 2, 3, 4, 5], [1, 2, 3, 4, 5, 6], [0, 1, 2, 3, 4, 5, 6, 7], [0, 1, 2, 3, 4, 5, 6, 7, 8]] 8 (by kernel_rfl) ⟨trivial, trivial, trivial, trivial, trivial, rel_stable (fun u lo hi w w' h hb => h.below hb), trivial, rel_stable (fun u lo hi w w' ⟨g, e, h⟩ hb => ⟨g, e, h.call hb⟩), trivial⟩ ⟨?_, ?_, ?_, ?_, ?_, ?_, ?_, ?_, trivial⟩ ?_
    ·intro x w hb hk Q' hQ
     clear hk
     simp only [netE] at hQ ⊢
     go_wp2
     exact hQ _ _ (Below.refl _ _) rfl
    ·intro x w hb hk Q' hQ
     clear hk
     simp only [netE] at hQ ⊢
     go_wp2
     exact hQ _ _ (Below.refl _ _) rfl
    ·intro x w hb hk Q' hQ
     have h1 : x.v 1 = _ := (hk 1 (by decide)).1
     clear hk
     simp only [netE] at hQ ⊢
     simp only [h1] at hQ ⊢
     clear h1
     have q0 := (kBr.call hb).cell' (i := 0) rfl
     go_wp2
     exact hQ _ _ (Below.refl _ _) rfl
    ·intro x w hb hk Q' hQ
     clear hk
     simp only [netE] at hQ ⊢
     have kb := kBr.call hb
     have c0 := kb.cell' (i := 0) rfl
     have c1 := kb.cell' (i := 1) rfl
     have c2 := kb.cell' (i := 2) rfl
     have c3 := kb.cell' (i := 3) rfl
     have c4 := kb.cell' (i := 4) rfl
     have c5 := kb.cell' (i := 5) rfl
     go_wp2
     exact hQ _ _ (Below.refl _ _) rfl
    ·intro x w hb hk Q' hQ
     clear hk
     simp only [netE] at hQ ⊢
     go_wp2
     exact hQ _ _ (Below.refl _ _) rfl
    ·intro x w hb hk Q' hQ
     have h3 : x.v 3 = _ := (hk 3 (by decide)).1
     have h4 : x.v 4 = _ := (hk 4 (by decide)).1
     clear hk
     simp only [netE] at hQ ⊢
     simp only [h3, h4] at hQ ⊢
     clear h3 h4
     have hsz := hb.size
     have hxr := RpR.next ((GW.out).trans (((hbel.mono (GW.out).size)).trans (hb.mono (Nat.le_trans (GW.out).size ws)))) HXR.out
     have HXW := Lib.hid hxr
     clear hxr
     go_wp2_with fail
     refine (pencilAt_any _ y 1 k _ HXW.out HPN.out (by omega) (by omega)).mono ?_; rintro e w5 ⟨v5, rfl, hM5, hb5⟩
     rw [HPM.out] at hM5
     go_wp2
     exact hQ _ _ hb5 hM5
    ·intro x w hb hk Q' hQ
     have h2 : x.v 2 = _ := (hk 2 (by decide)).1
     have h5 : MxO w (x.lo 5) (x.hi 5) (x.v 5) (mxF DR DC (peK y k)) := (hk 5 (by decide)).1
     clear hk
     simp only [netE] at hQ ⊢
     simp only [h2] at hQ ⊢
     clear h2
     obtain ⟨A5, c5, e5⟩ := h5.form
     rw [e5] at h5 hQ ⊢
     have H5 := Lib.hid h5.rd
     clear h5 e5
     go_wp2_with fail
     refine (implRank_any y.p _ DR DC (peK y k) _ HFL.out (by omega) (by omega) H5.out HINK.out).mono ?_; rintro e w6 ⟨rfl, hb6⟩
     rw [HRK2.out]
     go_wp2
     exact hQ _ _ hb6 rfl
    ·intro x w hb hk Q' hQ
     have h1 : x.v 1 = _ := (hk 1 (by decide)).1
     have h2 : x.v 2 = _ := (hk 2 (by decide)).1
     have h3 : x.v 3 = _ := (hk 3 (by decide)).1
     have h4 : x.v 4 = _ := (hk 4 (by decide)).1
     have h5 : MxO w (x.lo 5) (x.hi 5) (x.v 5) (mxF DR DC (peK y k)) := (hk 5 (by decide)).1
     have h6 : x.v 6 = _ := (hk 6 (by decide)).1
     have s5 := (hk 5 (by decide)).2
     clear hk
     simp only [netE] at hQ ⊢
     simp only [h1, h2, h3, h4, h6] at hQ ⊢
     clear h1 h2 h3 h4 h6
     go_wp2
     exact hQ _ _ (below_alloc _ _) ⟨_, rfl, Blk.new _ _ _⟩
    ·intro x w hb hk hiv hdj
     have h0 : x.v 0 = .slice OA k oc := hk 0 (by decide)
     have h1 : x.v 1 = .pointer (some ⟨w0.heap.size, 0, none⟩) := hk 1 (by decide)
     have h2 : x.v 2 = .int .i64 y.p := hk 2 (by decide)
     have h3 : x.v 3 = .agg #[.int .i64 y.p, .int .i64 y.q.v, .slice A y.q.f.length a, .slice C y.q.t.length c, .slice E y.d.length e, .slice (some ⟨bm, om, none⟩) y.m.length h] := hk 3 (by decide)
     have h4 : x.v 4 = .int .i64 k := hk 4 (by decide)
     have h5 : MxO w (x.lo 5) (x.hi 5) (x.v 5) (mxF DR DC (peK y k)) := hk 5 (by decide)
     have h6 : x.v 6 = .int .i64 (rk : Int) := hk 6 (by decide)
     have h7 : ∃ g, (x.v 7) = .slice (some ⟨g, 0, none⟩) 1 1 ∧ Blk w g 3 #[.int .i64 (rk : Int)] := hk 7 (by decide)
     clear hk
     simp only [netE]
     simp only [List.drop_succ_cons, List.drop_zero, h0, h1, h2, h3, h4, h6]
     clear h0 h1 h2 h3 h4 h6
     obtain ⟨g, e7, hk7⟩ := h7
     rw [e7]
     have hO2 := HO.out.below hb
     have sw := hb.size
     have H7 := Lib.hid (slOne hk7 (by unfold I64; omega))
     refine wpList_appI rfl (.tmp 13) (.tmp 20) rfl w1.heap.size _ (.slice OA k oc) (peL y k) rfl hO2.1 _ _ _ [(rk : Int)] rfl rfl H7.out (by rw [HOL.out]; simp; omega) (by omega) ?_
     intro v9 w9 ho9 hg9 hv9
     rw [← HSU.out] at ho9
     have hbg : Below w1.heap.size w w9 := below_grown hg9 (fun k hk => (hO2.1.lt k hk).1) (by omega)
     have HBT := Lib.hid ((hbel.trans (hb.mono ws)).trans hbg)
     have HO9 := Lib.hid (IntsO.of_own ho9)
     clear ho9 hg9 hv9 hbg hO2 hk7 e7
     go_wp2
     go_roundw
     case rel => exact ⟨k + 1, by omega, by go_num, HO9.out, HBT.out⟩
     case measure => simp [intOf]; omega
   ·have hkp : k = x.p.toNat := by omega
    have HFF := Lib.hid (show pkL x = peL x k ++ [peE x] by rw [HF.out, hkp])
    clear hkp
    have hre := HEE.out
    obtain ⟨rk, hrk2⟩ : ∃ z, rkF x.p DR DC (peB x) = z := ⟨_, rfl⟩
    have hrl := rkF_le x.p DR DC (peB x)
    rw [hrk2] at hrl hre
    have HRK2 := Lib.hid hrk2
    have HRE := Lib.hid hre
    have g1w := (GW.out).trans (hbel.mono (GW.out).size)
    have gWs := (GW.out).size
    have z0' := bcell g1w hbm z0
    have z1' := bcell g1w hbm z1
    have z2' := bcell g1w hbm z2
    have HG1W := Lib.hid g1w
    clear hrk2 hre g1w
    go_wp2
    obtain ⟨y, hy⟩ : ∃ y, y = x := ⟨_, rfl⟩
    subst hy
    refine wp_region_net (by kernel_rfl) [.eq (.slice OA k oc), .eq (.pointer (some ⟨w0.heap.size, 0, none⟩)), .eq (.int .i64 y.p), .eq (.pointer (some ⟨w0.heap.size, 5, none⟩)), .eq (.slice (some ⟨bm, om, none⟩) y.m.length h), .eq (.pointer (some ⟨bm, om + 3, none⟩)), .eq (.agg #[.int .i64 DR, .int .i64 DC, .slice A1 ML c1']), .eq (.int .i64 (rk : Int)), rel 8 (fun u lo hi w => ∃ g, u = .slice (some ⟨g, 0, none⟩) 1 1 ∧ Blk w g 3 #[.int .i64 (rk : Int)])] [[], [], [1], [], [3], [3, 4], [3, 4, 5], [1, 2, 3, 4, 5, 6], [1, 2, 3, 4, 5, 6, 7], [0, 1, 2, 3, 4, 5, 6, 7, 8], [0, 1, 2, 3, 4, 5, 6, 7, 8, 9]] 9 (by kernel_rfl) ⟨trivial, trivial, trivial, trivial, trivial, trivial, trivial, trivial, rel_stable (fun u lo hi w w' ⟨g, e, h⟩ hb => ⟨g, e, h.call hb⟩), trivial⟩ ⟨?_, ?_, ?_, ?_, ?_, ?_, ?_, ?_, ?_, trivial⟩ ?_
    ·intro x w hb hk Q' hQ
     clear hk
     simp only [netE] at hQ ⊢
     go_wp2
     exact hQ _ _ (Below.refl _ _) rfl
    ·intro x w hb hk Q' hQ
     clear hk
     simp only [netE] at hQ ⊢
     go_wp2
     exact hQ _ _ (Below.refl _ _) rfl
    ·intro x w hb hk Q' hQ
     have h1 : x.v 1 = _ := (hk 1 (by decide)).1
     clear hk
     simp only [netE] at hQ ⊢
     simp only [h1] at hQ ⊢
     clear h1
     have q0 := (kBr.call hb).cell' (i := 0) rfl
     go_wp2
     exact hQ _ _ (Below.refl _ _) rfl
    ·intro x w hb hk Q' hQ
     clear hk
     simp only [netE] at hQ ⊢
     go_wp2
     exact hQ _ _ (Below.refl _ _) rfl
    ·intro x w hb hk Q' hQ
     have h3 : x.v 3 = _ := (hk 3 (by decide)).1
     clear hk
     simp only [netE] at hQ ⊢
     simp only [h3] at hQ ⊢
     clear h3
     have q0 := (kBr.call hb).cell' (i := 5) rfl
     go_wp2
     exact hQ _ _ (Below.refl _ _) rfl
    ·intro x w hb hk Q' hQ
     have h4 : x.v 4 = _ := (hk 4 (by decide)).1
     clear hk
     simp only [netE] at hQ ⊢
     simp only [h4] at hQ ⊢
     clear h4
     go_wp2
     exact hQ _ _ (Below.refl _ _) rfl
    ·intro x w hb hk Q' hQ
     have h5 : x.v 5 = _ := (hk 5 (by decide)).1
     clear hk
     simp only [netE] at hQ ⊢
     simp only [h5] at hQ ⊢
     clear h5
     have q0 := bcell hb (by omega) z0'
     have q1 := bcell hb (by omega) z1'
     have q2 := bcell hb (by omega) z2'
     go_wp2
     exact hQ _ _ (Below.refl _ _) rfl
    ·intro x w hb hk Q' hQ
     have h2 : x.v 2 = _ := (hk 2 (by decide)).1
     have h6 : x.v 6 = _ := (hk 6 (by decide)).1
     clear hk
     simp only [netE] at hQ ⊢
     simp only [h2, h6] at hQ ⊢
     clear h2 h6
     have hmr := MxR.next ((HG1W.out).trans (hb.mono (HG1W.out).size)) HMB.out
     have HMR := Lib.hid hmr
     clear hmr
     go_wp2_with fail
     refine (implRank_any y.p _ DR DC (peB y) _ HFL.out (by omega) (by omega) HMR.out HIB.out).mono ?_; rintro e w6 ⟨rfl, hb6⟩
     rw [HRK2.out]
     go_wp2
     exact hQ _ _ hb6 rfl
    ·intro x w hb hk Q' hQ
     have h1 : x.v 1 = _ := (hk 1 (by decide)).1
     have h2 : x.v 2 = _ := (hk 2 (by decide)).1
     have h3 : x.v 3 = _ := (hk 3 (by decide)).1
     have h4 : x.v 4 = _ := (hk 4 (by decide)).1
     have h5 : x.v 5 = _ := (hk 5 (by decide)).1
     have h6 : x.v 6 = _ := (hk 6 (by decide)).1
     have h7 : x.v 7 = _ := (hk 7 (by decide)).1
     clear hk
     simp only [netE] at hQ ⊢
     simp only [h1, h2, h3, h4, h5, h6, h7] at hQ ⊢
     clear h1 h2 h3 h4 h5 h6 h7
     go_wp2
     exact hQ _ _ (below_alloc _ _) ⟨_, rfl, Blk.new _ _ _⟩
    ·intro x w hb hk hiv hdj
     have h0 : x.v 0 = .slice OA k oc := hk 0 (by decide)
     have h1 : x.v 1 = .pointer (some ⟨w0.heap.size, 0, none⟩) := hk 1 (by decide)
     have h2 : x.v 2 = .int .i64 y.p := hk 2 (by decide)
     have h3 : x.v 3 = .pointer (some ⟨w0.heap.size, 5, none⟩) := hk 3 (by decide)
     have h4 : x.v 4 = .slice (some ⟨bm, om, none⟩) y.m.length h := hk 4 (by decide)
     have h5 : x.v 5 = .pointer (some ⟨bm, om + 3, none⟩) := hk 5 (by decide)
     have h6 : x.v 6 = .agg #[.int .i64 DR, .int .i64 DC, .slice A1 ML c1'] := hk 6 (by decide)
     have h7 : x.v 7 = .int .i64 (rk : Int) := hk 7 (by decide)
     have h8 : ∃ g, (x.v 8) = .slice (some ⟨g, 0, none⟩) 1 1 ∧ Blk w g 3 #[.int .i64 (rk : Int)] := hk 8 (by decide)
     clear hk
     simp only [netE]
     simp only [List.drop_succ_cons, List.drop_zero, h0, h1, h2, h3, h4, h5, h6, h7]
     clear h0 h1 h2 h3 h4 h5 h6 h7
     obtain ⟨g, e7, hk7⟩ := h8
     rw [e7]
     have hO2 := HO.out.below hb
     have sw := hb.size
     have H7 := Lib.hid (slOne hk7 (by unfold I64; omega))
     refine wpList_appI rfl (.tmp 23) (.tmp 31) rfl w1.heap.size _ (.slice OA k oc) (peL y k) rfl hO2.1 _ _ _ [(rk : Int)] rfl rfl H7.out (by rw [HOL.out]; simp; omega) (by omega) ?_
     intro v9 w9 ho9 hg9 hv9
     rw [← HRE.out, ← HFF.out] at ho9
     have hbg : Below w1.heap.size w w9 := below_grown hg9 (fun k hk => (hO2.1.lt k hk).1) (by omega)
     have HBT := Lib.hid (g1.trans (((hbel.trans (hb.mono ws)).trans hbg).mono s1))
     have HO9 := Lib.hid ((IntsO.of_own ho9).wider s1 (Nat.le_refl _))
     clear ho9 hg9 hv9 hbg hO2 hk7 e7
     go_wp2
     go_ret
     exact ⟨_, rfl, HO9.out, HBT.out⟩
set_option maxHeartbeats 6400000 in
set_option maxRecDepth 100000 in
theorem fit_any (ua ub : Value) (X Y : Rp) (w0 : World) (ha : RpR w0 w0.heap.size ua X) (hb : RpR w0 w0.heap.size ub Y) (hf : Fit2 X Y) :
  Calls Tryz.prog 43 #[ua, ub] w0 fun e w' => e = .returned (.bool true) ∧ Below w0.heap.size w0 w' := by
 have HF := Lib.hid hf
 clear hf
 have ha' := ha
 have hb' := hb
 obtain ⟨A, a, C, c, Ea, ea, Ha, ha_, rfl, hqa, hda, hma, hpa, lda, lma⟩ := ha.open_
 obtain ⟨A2, a2, C2, c2, Eb, eb, Hb, hb_, rfl, hqb, hdb, hmb, hpb, ldb, lmb⟩ := hb.open_
 clear ha hb
 obtain ⟨W, hW⟩ : ∃ W, W = (w0.alloc (.cells #[.int .i64 X.p, .int .i64 X.q.v, .slice A X.q.f.length a, .slice C X.q.t.length c, .slice Ea X.d.length ea, .slice Ha X.m.length ha_] 31)).alloc (.cells #[.int .i64 Y.p, .int .i64 Y.q.v, .slice A2 Y.q.f.length a2, .slice C2 Y.q.t.length c2, .slice Eb Y.d.length eb, .slice Hb Y.m.length hb_] 31) := ⟨_, rfl⟩
 have g0 : Below w0.heap.size w0 W := by rw [hW]; exact ((Below.refl _ _).alloc (Nat.le_refl _) _).alloc (by simp) _
 have k1 : Blk W w0.heap.size 31 #[.int .i64 X.p, .int .i64 X.q.v, .slice A X.q.f.length a, .slice C X.q.t.length c, .slice Ea X.d.length ea, .slice Ha X.m.length ha_] := by rw [hW]; exact (Blk.new _ _ _).alloc _
 have k2 : Blk W (w0.heap.size + 1) 31 #[.int .i64 Y.p, .int .i64 Y.q.v, .slice A2 Y.q.f.length a2, .slice C2 Y.q.t.length c2, .slice Eb Y.d.length eb, .slice Hb Y.m.length hb_] := by
  rw [hW]
  have := Blk.new (w0.alloc (.cells #[.int .i64 X.p, .int .i64 X.q.v, .slice A X.q.f.length a, .slice C X.q.t.length c, .slice Ea X.d.length ea, .slice Ha X.m.length ha_] 31)) 31 #[.int .i64 Y.p, .int .i64 Y.q.v, .slice A2 Y.q.f.length a2, .slice C2 Y.q.t.length c2, .slice Eb Y.d.length eb, .slice Hb Y.m.length hb_]
  simpa only [World.size_alloc] using this
 have HXA := Lib.hid (RpR.next g0 ha')
 have HXB := Lib.hid (RpR.next g0 hb')
 have HQA := Lib.hid (QvR.next g0 hqa)
 have HDA := Lib.hid (SlI.next g0 hda)
 have HDB := Lib.hid (SlI.next g0 hdb)
 have HMA := Lib.hid (SlM.next g0 hma)
 have HMB := Lib.hid (SlM.next g0 hmb)
 have G0 := Lib.hid g0
 clear ha' hb' hqa hqb hda hdb hma hmb hpa hpb g0
 clear HDA HDB HMA HMB HQA
 have c0 := k1.cell' (i := 0) rfl
 have c1 := k1.cell' (i := 1) rfl
 have c2 := k1.cell' (i := 2) rfl
 have c3 := k1.cell' (i := 3) rfl
 have c4 := k1.cell' (i := 4) rfl
 have c5 := k1.cell' (i := 5) rfl
 have d0 := k2.cell' (i := 0) rfl
 have d1 := k2.cell' (i := 1) rfl
 have d2 := k2.cell' (i := 2) rfl
 have d3 := k2.cell' (i := 3) rfl
 have d4 := k2.cell' (i := 4) rfl
 have d5 := k2.cell' (i := 5) rfl
 go_enter Tryz.func43, Tryz.ntmps43
 go_wp2_with fail
 rw [← hW]; clear hW
 refine (implIsRep_any _ X _ HXA.out).mono ?_; rintro e w1 ⟨rfl, hb1⟩
 rw [HF.out.hx]
 have G1 := Lib.hid (G0.out.trans (hb1.mono G0.out.size))
 have HA1 := Lib.hid (RpR.next hb1 HXA.out)
 have HB1 := Lib.hid (RpR.next hb1 HXB.out)
 clear c0 c1 c2 c3 c4 c5 d0 d1 d2 d3 d4 d5
 replace k1 := k1.call hb1
 replace k2 := k2.call hb1
 clear hb1 G0 HXA HXB
 have c0 := k1.cell' (i := 0) rfl
 have c1 := k1.cell' (i := 1) rfl
 have c2 := k1.cell' (i := 2) rfl
 have c3 := k1.cell' (i := 3) rfl
 have c4 := k1.cell' (i := 4) rfl
 have c5 := k1.cell' (i := 5) rfl
 have d0 := k2.cell' (i := 0) rfl
 have d1 := k2.cell' (i := 1) rfl
 have d2 := k2.cell' (i := 2) rfl
 have d3 := k2.cell' (i := 3) rfl
 have d4 := k2.cell' (i := 4) rfl
 have d5 := k2.cell' (i := 5) rfl
 go_wp2_with fail
 refine (implIsRep_any _ Y _ HB1.out).mono ?_; rintro e w2 ⟨rfl, hb2⟩
 rw [HF.out.hy]
 have G2 := Lib.hid (G1.out.trans (hb2.mono G1.out.size))
 have HA2 := Lib.hid (RpR.next hb2 HA1.out)
 have HB2 := Lib.hid (RpR.next hb2 HB1.out)
 clear c0 c1 c2 c3 c4 c5 d0 d1 d2 d3 d4 d5
 replace k1 := k1.call hb2
 replace k2 := k2.call hb2
 clear hb2 G1 HA1 HB1
 have c0 := k1.cell' (i := 0) rfl
 have c1 := k1.cell' (i := 1) rfl
 have c2 := k1.cell' (i := 2) rfl
 have c3 := k1.cell' (i := 3) rfl
 have c4 := k1.cell' (i := 4) rfl
 have c5 := k1.cell' (i := 5) rfl
 have d0 := k2.cell' (i := 0) rfl
 have d1 := k2.cell' (i := 1) rfl
 have d2 := k2.cell' (i := 2) rfl
 have d3 := k2.cell' (i := 3) rfl
 have d4 := k2.cell' (i := 4) rfl
 have d5 := k2.cell' (i := 5) rfl
 have hpp : (X.p == Y.p) = true := by rw [beq_iff_eq]; exact HF.out.hp
 obtain ⟨_, _, _, _, _, _, _, _, ea2, hqa, _⟩ := HA2.out.open_
 obtain ⟨_, _, _, _, _, _, _, _, eb2, hqb, _⟩ := HB2.out.open_
 simp only [Value.agg.injEq, Array.mk.injEq, List.cons.injEq, and_true, true_and, Value.slice.injEq] at ea2 eb2
 obtain ⟨⟨rfl, rfl⟩, ⟨rfl, rfl⟩, ⟨rfl, rfl⟩, ⟨rfl, rfl⟩⟩ := ea2
 obtain ⟨⟨rfl, rfl⟩, ⟨rfl, rfl⟩, ⟨rfl, rfl⟩, ⟨rfl, rfl⟩⟩ := eb2
 have HQ1 := Lib.hid hqa
 have HQ2 := Lib.hid hqb
 clear hqa hqb
 go_wp2_with fail
 refine (implEqualQuivers_any _ _ X.q Y.q _ HQ1.out HQ2.out).mono ?_; rintro e w3 ⟨rfl, hb3⟩
 rw [decide_eq_true HF.out.hq]
 have G3 := Lib.hid (G2.out.trans (hb3.mono G2.out.size))
 clear hb3 G2
 go_wp2
 go_ret
 exact ⟨rfl, G3.out⟩
set_option maxHeartbeats 6400000 in
set_option maxRecDepth 100000 in
theorem implHomDim_any (ua ub : Value) (X Y : Rp) (w0 : World) (ha : RpR w0 w0.heap.size ua X) (hb : RpR w0 w0.heap.size ub Y) (hf : Fit2 X Y) :
  Calls Tryz.prog 12 #[ua, ub] w0 fun e w' => e = .returned (.int .i64 (homN X Y : Int)) ∧ Below w0.heap.size w0 w' := by
 have HF := Lib.hid hf
 clear hf
 have ha' := ha
 have hb' := hb
 obtain ⟨A, a, C, c, Ea, ea, Ha, ha_, rfl, hqa, hda, hma, hpa, lda, lma⟩ := ha.open_
 obtain ⟨A2, a2, C2, c2, Eb, eb, Hb, hb_, rfl, hqb, hdb, hmb, hpb, ldb, lmb⟩ := hb.open_
 clear ha hb
 obtain ⟨W, hW⟩ : ∃ W, W = (w0.alloc (.cells #[.int .i64 X.p, .int .i64 X.q.v, .slice A X.q.f.length a, .slice C X.q.t.length c, .slice Ea X.d.length ea, .slice Ha X.m.length ha_] 31)).alloc (.cells #[.int .i64 Y.p, .int .i64 Y.q.v, .slice A2 Y.q.f.length a2, .slice C2 Y.q.t.length c2, .slice Eb Y.d.length eb, .slice Hb Y.m.length hb_] 31) := ⟨_, rfl⟩
 have g0 : Below w0.heap.size w0 W := by rw [hW]; exact ((Below.refl _ _).alloc (Nat.le_refl _) _).alloc (by simp) _
 have k1 : Blk W w0.heap.size 31 #[.int .i64 X.p, .int .i64 X.q.v, .slice A X.q.f.length a, .slice C X.q.t.length c, .slice Ea X.d.length ea, .slice Ha X.m.length ha_] := by rw [hW]; exact (Blk.new _ _ _).alloc _
 have k2 : Blk W (w0.heap.size + 1) 31 #[.int .i64 Y.p, .int .i64 Y.q.v, .slice A2 Y.q.f.length a2, .slice C2 Y.q.t.length c2, .slice Eb Y.d.length eb, .slice Hb Y.m.length hb_] := by
  rw [hW]
  have := Blk.new (w0.alloc (.cells #[.int .i64 X.p, .int .i64 X.q.v, .slice A X.q.f.length a, .slice C X.q.t.length c, .slice Ea X.d.length ea, .slice Ha X.m.length ha_] 31)) 31 #[.int .i64 Y.p, .int .i64 Y.q.v, .slice A2 Y.q.f.length a2, .slice C2 Y.q.t.length c2, .slice Eb Y.d.length eb, .slice Hb Y.m.length hb_]
  simpa only [World.size_alloc] using this
 have HXA := Lib.hid (RpR.next g0 ha')
 have HXB := Lib.hid (RpR.next g0 hb')
 have HQA := Lib.hid (QvR.next g0 hqa)
 have HDA := Lib.hid (SlI.next g0 hda)
 have HDB := Lib.hid (SlI.next g0 hdb)
 have HMA := Lib.hid (SlM.next g0 hma)
 have HMB := Lib.hid (SlM.next g0 hmb)
 have G0 := Lib.hid g0
 clear ha' hb' hqa hqb hda hdb hma hmb hpa hpb g0
 clear HDA HDB HMA HMB HQA
 have c0 := k1.cell' (i := 0) rfl
 have c1 := k1.cell' (i := 1) rfl
 have c2 := k1.cell' (i := 2) rfl
 have c3 := k1.cell' (i := 3) rfl
 have c4 := k1.cell' (i := 4) rfl
 have c5 := k1.cell' (i := 5) rfl
 have d0 := k2.cell' (i := 0) rfl
 have d1 := k2.cell' (i := 1) rfl
 have d2 := k2.cell' (i := 2) rfl
 have d3 := k2.cell' (i := 3) rfl
 have d4 := k2.cell' (i := 4) rfl
 have d5 := k2.cell' (i := 5) rfl
 go_enter Tryz.func12, Tryz.ntmps12
 go_wp2_with fail
 rw [← hW]; clear hW
 refine (fit_any _ _ X Y _ HXA.out HXB.out HF.out).mono ?_; rintro e w1 ⟨rfl, hb1⟩
 have G1 := Lib.hid (G0.out.trans (hb1.mono G0.out.size))
 have HA1 := Lib.hid (RpR.next hb1 HXA.out)
 have HB1 := Lib.hid (RpR.next hb1 HXB.out)
 clear c0 c1 c2 c3 c4 c5 d0 d1 d2 d3 d4 d5
 replace k1 := k1.call hb1
 replace k2 := k2.call hb1
 clear hb1 G0 HXA HXB
 have c0 := k1.cell' (i := 0) rfl
 have c1 := k1.cell' (i := 1) rfl
 have c2 := k1.cell' (i := 2) rfl
 have c3 := k1.cell' (i := 3) rfl
 have c4 := k1.cell' (i := 4) rfl
 have c5 := k1.cell' (i := 5) rfl
 have d0 := k2.cell' (i := 0) rfl
 have d1 := k2.cell' (i := 1) rfl
 have d2 := k2.cell' (i := 2) rfl
 have d3 := k2.cell' (i := 3) rfl
 have d4 := k2.cell' (i := 4) rfl
 have d5 := k2.cell' (i := 5) rfl
 go_wp2_with fail
 refine (homDim_any _ _ X Y _ HA1.out HB1.out HF.out).mono ?_; rintro e w2 ⟨rfl, hb2⟩
 have G2 := Lib.hid (G1.out.trans (hb2.mono G1.out.size))
 clear hb2 G1
 go_wp2
 go_ret
 exact ⟨rfl, G2.out⟩
set_option maxHeartbeats 6400000 in
set_option maxRecDepth 100000 in
theorem extDim_any (ua ub : Value) (X Y : Rp) (w0 : World) (ha : RpR w0 w0.heap.size ua X) (hb : RpR w0 w0.heap.size ub Y) (hf : Fit2 X Y) :
  Calls Tryz.prog 45 #[ua, ub] w0 fun e w' => e = .returned (.int .i64 (extN X Y : Int)) ∧ Below w0.heap.size w0 w' := by
 have hp := (isRep_t.1 hf.hx).1
 have hN80 := hmN_le hf
 have hR96 := eqR_le hf
 have HIF := Lib.hid (eqG_inF (x := X) Y hf.p2.1)
 have HP := Lib.hid hp
 have ha' := ha
 have hb' := hb
 obtain ⟨A, a, C, c, Ea, ea, Ha, ha_, rfl, hqa, hda, hma, hpa, lda, lma⟩ := ha.open_
 obtain ⟨A2, a2, C2, c2, Eb, eb, Hb, hb_, rfl, hqb, hdb, hmb, hpb, ldb, lmb⟩ := hb.open_
 clear ha hb
 obtain ⟨W, hW⟩ : ∃ W, W = (w0.alloc (.cells #[.int .i64 X.p, .int .i64 X.q.v, .slice A X.q.f.length a, .slice C X.q.t.length c, .slice Ea X.d.length ea, .slice Ha X.m.length ha_] 31)).alloc (.cells #[.int .i64 Y.p, .int .i64 Y.q.v, .slice A2 Y.q.f.length a2, .slice C2 Y.q.t.length c2, .slice Eb Y.d.length eb, .slice Hb Y.m.length hb_] 31) := ⟨_, rfl⟩
 have g0 : Below w0.heap.size w0 W := by rw [hW]; exact ((Below.refl _ _).alloc (Nat.le_refl _) _).alloc (by simp) _
 have k1 : Blk W w0.heap.size 31 #[.int .i64 X.p, .int .i64 X.q.v, .slice A X.q.f.length a, .slice C X.q.t.length c, .slice Ea X.d.length ea, .slice Ha X.m.length ha_] := by rw [hW]; exact (Blk.new _ _ _).alloc _
 have k2 : Blk W (w0.heap.size + 1) 31 #[.int .i64 Y.p, .int .i64 Y.q.v, .slice A2 Y.q.f.length a2, .slice C2 Y.q.t.length c2, .slice Eb Y.d.length eb, .slice Hb Y.m.length hb_] := by
  rw [hW]
  have := Blk.new (w0.alloc (.cells #[.int .i64 X.p, .int .i64 X.q.v, .slice A X.q.f.length a, .slice C X.q.t.length c, .slice Ea X.d.length ea, .slice Ha X.m.length ha_] 31)) 31 #[.int .i64 Y.p, .int .i64 Y.q.v, .slice A2 Y.q.f.length a2, .slice C2 Y.q.t.length c2, .slice Eb Y.d.length eb, .slice Hb Y.m.length hb_]
  simpa only [World.size_alloc] using this
 have HXA := Lib.hid (RpR.next g0 ha')
 have HXB := Lib.hid (RpR.next g0 hb')
 have HQA := Lib.hid (QvR.next g0 hqa)
 have HDA := Lib.hid (SlI.next g0 hda)
 have HDB := Lib.hid (SlI.next g0 hdb)
 have HMA := Lib.hid (SlM.next g0 hma)
 have HMB := Lib.hid (SlM.next g0 hmb)
 have G0 := Lib.hid g0
 clear ha' hb' hqa hqb hda hdb hma hmb hpa hpb g0
 have HF := Lib.hid hf
 have c0 := k1.cell' (i := 0) rfl
 have c1 := k1.cell' (i := 1) rfl
 have c2_ := k1.cell' (i := 2) rfl
 have c3 := k1.cell' (i := 3) rfl
 have c4 := k1.cell' (i := 4) rfl
 have c5 := k1.cell' (i := 5) rfl
 have d0 := k2.cell' (i := 0) rfl
 have d1 := k2.cell' (i := 1) rfl
 have d2 := k2.cell' (i := 2) rfl
 have d3 := k2.cell' (i := 3) rfl
 have d4 := k2.cell' (i := 4) rfl
 have d5 := k2.cell' (i := 5) rfl
 have hVV : (extN X Y : Int) = ((eqR X Y : Nat) : Int) - (rkF X.p (eqR X Y) (hmN X Y) (eqG X Y) : Nat) := by
  have := rkF_le X.p (eqR X Y) (hmN X Y) (eqG X Y)
  unfold extN
  omega
 rw [hVV]
 have hrk := (rkF_le X.p (eqR X Y) (hmN X Y) (eqG X Y)).1
 obtain ⟨R, hR⟩ : ∃ R, eqR X Y = R := ⟨_, rfl⟩
 obtain ⟨n, hn⟩ : ∃ n, hmN X Y = n := ⟨_, rfl⟩
 obtain ⟨g, hg⟩ : ∃ g, eqG X Y = g := ⟨_, rfl⟩
 have HRE := Lib.hid hR
 have HNE := Lib.hid hn
 have HGE := Lib.hid hg
 rw [hR, hn, hg] at HIF hrk
 rw [hR] at hR96
 rw [hn] at hN80
 rw [hR, hn, hg]
 obtain ⟨rk, hrk2⟩ : ∃ z, rkF X.p R n g = z := ⟨_, rfl⟩
 have HRK := Lib.hid hrk2
 rw [hrk2] at hrk ⊢
 clear hf hp hR hn hg hrk2 hVV
 go_enter Tryz.func45, Tryz.ntmps45
 go_wp2_with fail
 rw [← hW]; clear hW
 refine (boundaries_any _ _ X Y _ HXA.out HXB.out HF.out).mono ?_; rintro e w1 ⟨v1, rfl, hM, hb1⟩
 rw [HRE.out, HNE.out, HGE.out] at hM
 obtain ⟨MA, mc, em⟩ := hM.form
 subst em
 simp only [mxF] at hM ⊢
 obtain ⟨ML, hML⟩ : ∃ z, (flat R n g).length = z := ⟨_, rfl⟩
 rw [hML] at hM ⊢
 obtain ⟨W2, hW2⟩ : ∃ z, w1.alloc (.cells #[.int .i64 R, .int .i64 n, .slice MA ML mc] 44) = z := ⟨_, rfl⟩
 have ga : Below w1.heap.size w1 W2 := by rw [← hW2]; exact below_alloc _ _
 obtain ⟨g2, hg2⟩ : ∃ z, w1.heap.size = z := ⟨_, rfl⟩
 have kM : Blk W2 g2 44 #[.int .i64 R, .int .i64 n, .slice MA ML mc] := by rw [← hW2, ← hg2]; exact Blk.new _ _ _
 have HM := Lib.hid (MxR.next ga hM.rd)
 have gW := bthen hb1 ga
 have K1 := Lib.hid (k1.call gW)
 have G2 := Lib.hid (bthen G0.out gW)
 clear hM hML hb1 ga gW c0 c1 c2_ c3 c4 c5 d0 d1 d2 d3 d4 d5 k1 k2
 go_wp2
 clear hW2
 try clear hg2
 refine wp_region_net (by kernel_rfl) [.eq (.pointer (some ⟨g2, 0, none⟩)), .eq (.int .i64 R), .eq (.pointer (some ⟨w0.heap.size, 0, none⟩)), .eq (.int .i64 X.p), .eq (.agg #[.int .i64 R, .int .i64 n, .slice MA ML mc]), .eq (.int .i64 rk), .eq (.int .i64 ((R : Int) - rk))] [[], [0], [], [2], [], [2, 3, 4], [0, 1, 2, 3, 4, 5], [0, 1, 2, 3, 4, 5, 6]] 7 (by kernel_rfl) ⟨trivial, trivial, trivial, trivial, trivial, trivial, trivial, trivial⟩ ⟨?_, ?_, ?_, ?_, ?_, ?_, ?_, trivial⟩ ?_
 ·intro x w hb hk Q' hQ
  clear hk
  simp only [netE] at hQ ⊢
  go_wp2
  exact hQ _ _ (Below.refl _ _) rfl
 ·intro x w hb hk Q' hQ
  have h0 : x.v 0 = _ := (hk 0 (by decide)).1
  clear hk
  simp only [netE] at hQ ⊢
  simp only [h0] at hQ ⊢
  clear h0
  have z := (kM.call hb).cell' (i := 0) rfl
  go_wp2
  exact hQ _ _ (Below.refl _ _) rfl
 ·intro x w hb hk Q' hQ
  clear hk
  simp only [netE] at hQ ⊢
  go_wp2
  exact hQ _ _ (Below.refl _ _) rfl
 ·intro x w hb hk Q' hQ
  have h2 : x.v 2 = _ := (hk 2 (by decide)).1
  clear hk
  simp only [netE] at hQ ⊢
  simp only [h2] at hQ ⊢
  clear h2
  have z := (K1.out.call hb).cell' (i := 0) rfl
  go_wp2
  exact hQ _ _ (Below.refl _ _) rfl
 ·intro x w hb hk Q' hQ
  clear hk
  simp only [netE] at hQ ⊢
  have z0 := (kM.call hb).cell' (i := 0) rfl
  have z1 := (kM.call hb).cell' (i := 1) rfl
  have z2 := (kM.call hb).cell' (i := 2) rfl
  go_wp2
  exact hQ _ _ (Below.refl _ _) rfl
 ·intro x w hb hk Q' hQ
  have h3 : x.v 3 = _ := (hk 3 (by decide)).1
  have h4 : x.v 4 = _ := (hk 4 (by decide)).1
  clear hk
  simp only [netE] at hQ ⊢
  simp only [h3, h4] at hQ ⊢
  clear h3 h4
  have hA := Lib.hid (MxR.next hb HM.out)
  go_wp2_with fail
  refine (implRank_any X.p _ R n g _ HP.out (by omega) (by omega) hA.out HIF.out).mono ?_; rintro e w3 ⟨rfl, hb3⟩
  rw [HRK.out]
  go_wp2
  exact hQ _ _ hb3 rfl
 ·intro x w hb hk Q' hQ
  have h1 : x.v 1 = _ := (hk 1 (by decide)).1
  have h5 : x.v 5 = _ := (hk 5 (by decide)).1
  clear hk
  simp only [netE] at hQ ⊢
  simp only [h1, h5] at hQ ⊢
  clear h1 h5
  go_wp2
  exact hQ (.int .i64 ((R : Int) - rk)) _ (Below.refl _ _) rfl
 ·intro x w hb hk hiv hdj
  have h0 : x.v 0 = .pointer (some ⟨g2, 0, none⟩) := hk 0 (by decide)
  have h1 : x.v 1 = .int .i64 R := hk 1 (by decide)
  have h2 : x.v 2 = .pointer (some ⟨w0.heap.size, 0, none⟩) := hk 2 (by decide)
  have h3 : x.v 3 = .int .i64 X.p := hk 3 (by decide)
  have h4 : x.v 4 = .agg #[.int .i64 R, .int .i64 n, .slice MA ML mc] := hk 4 (by decide)
  have h5 : x.v 5 = .int .i64 rk := hk 5 (by decide)
  have h6 : x.v 6 = .int .i64 ((R : Int) - rk) := hk 6 (by decide)
  clear hk
  simp only [netE]
  simp only [List.drop_succ_cons, List.drop_zero, h0, h1, h2, h3, h4, h5, h6]
  clear h0 h1 h2 h3 h4 h5 h6
  have GF := Lib.hid (bthen G2.out hb)
  clear hb hiv hdj
  go_wp2
  go_ret
  exact ⟨rfl, GF.out⟩
set_option maxHeartbeats 6400000 in
set_option maxRecDepth 100000 in
theorem implExtDim_any (ua ub : Value) (X Y : Rp) (w0 : World) (ha : RpR w0 w0.heap.size ua X) (hb : RpR w0 w0.heap.size ub Y) (hf : Fit2 X Y) :
  Calls Tryz.prog 13 #[ua, ub] w0 fun e w' => e = .returned (.int .i64 (extN X Y : Int)) ∧ Below w0.heap.size w0 w' := by
 have HF := Lib.hid hf
 clear hf
 have ha' := ha
 have hb' := hb
 obtain ⟨A, a, C, c, Ea, ea, Ha, ha_, rfl, hqa, hda, hma, hpa, lda, lma⟩ := ha.open_
 obtain ⟨A2, a2, C2, c2, Eb, eb, Hb, hb_, rfl, hqb, hdb, hmb, hpb, ldb, lmb⟩ := hb.open_
 clear ha hb
 obtain ⟨W, hW⟩ : ∃ W, W = (w0.alloc (.cells #[.int .i64 X.p, .int .i64 X.q.v, .slice A X.q.f.length a, .slice C X.q.t.length c, .slice Ea X.d.length ea, .slice Ha X.m.length ha_] 31)).alloc (.cells #[.int .i64 Y.p, .int .i64 Y.q.v, .slice A2 Y.q.f.length a2, .slice C2 Y.q.t.length c2, .slice Eb Y.d.length eb, .slice Hb Y.m.length hb_] 31) := ⟨_, rfl⟩
 have g0 : Below w0.heap.size w0 W := by rw [hW]; exact ((Below.refl _ _).alloc (Nat.le_refl _) _).alloc (by simp) _
 have k1 : Blk W w0.heap.size 31 #[.int .i64 X.p, .int .i64 X.q.v, .slice A X.q.f.length a, .slice C X.q.t.length c, .slice Ea X.d.length ea, .slice Ha X.m.length ha_] := by rw [hW]; exact (Blk.new _ _ _).alloc _
 have k2 : Blk W (w0.heap.size + 1) 31 #[.int .i64 Y.p, .int .i64 Y.q.v, .slice A2 Y.q.f.length a2, .slice C2 Y.q.t.length c2, .slice Eb Y.d.length eb, .slice Hb Y.m.length hb_] := by
  rw [hW]
  have := Blk.new (w0.alloc (.cells #[.int .i64 X.p, .int .i64 X.q.v, .slice A X.q.f.length a, .slice C X.q.t.length c, .slice Ea X.d.length ea, .slice Ha X.m.length ha_] 31)) 31 #[.int .i64 Y.p, .int .i64 Y.q.v, .slice A2 Y.q.f.length a2, .slice C2 Y.q.t.length c2, .slice Eb Y.d.length eb, .slice Hb Y.m.length hb_]
  simpa only [World.size_alloc] using this
 have HXA := Lib.hid (RpR.next g0 ha')
 have HXB := Lib.hid (RpR.next g0 hb')
 have HQA := Lib.hid (QvR.next g0 hqa)
 have HDA := Lib.hid (SlI.next g0 hda)
 have HDB := Lib.hid (SlI.next g0 hdb)
 have HMA := Lib.hid (SlM.next g0 hma)
 have HMB := Lib.hid (SlM.next g0 hmb)
 have G0 := Lib.hid g0
 clear ha' hb' hqa hqb hda hdb hma hmb hpa hpb g0
 clear HDA HDB HMA HMB HQA
 have c0 := k1.cell' (i := 0) rfl
 have c1 := k1.cell' (i := 1) rfl
 have c2 := k1.cell' (i := 2) rfl
 have c3 := k1.cell' (i := 3) rfl
 have c4 := k1.cell' (i := 4) rfl
 have c5 := k1.cell' (i := 5) rfl
 have d0 := k2.cell' (i := 0) rfl
 have d1 := k2.cell' (i := 1) rfl
 have d2 := k2.cell' (i := 2) rfl
 have d3 := k2.cell' (i := 3) rfl
 have d4 := k2.cell' (i := 4) rfl
 have d5 := k2.cell' (i := 5) rfl
 go_enter Tryz.func13, Tryz.ntmps13
 go_wp2_with fail
 rw [← hW]; clear hW
 refine (fit_any _ _ X Y _ HXA.out HXB.out HF.out).mono ?_; rintro e w1 ⟨rfl, hb1⟩
 have G1 := Lib.hid (G0.out.trans (hb1.mono G0.out.size))
 have HA1 := Lib.hid (RpR.next hb1 HXA.out)
 have HB1 := Lib.hid (RpR.next hb1 HXB.out)
 clear c0 c1 c2 c3 c4 c5 d0 d1 d2 d3 d4 d5
 replace k1 := k1.call hb1
 replace k2 := k2.call hb1
 clear hb1 G0 HXA HXB
 have c0 := k1.cell' (i := 0) rfl
 have c1 := k1.cell' (i := 1) rfl
 have c2 := k1.cell' (i := 2) rfl
 have c3 := k1.cell' (i := 3) rfl
 have c4 := k1.cell' (i := 4) rfl
 have c5 := k1.cell' (i := 5) rfl
 have d0 := k2.cell' (i := 0) rfl
 have d1 := k2.cell' (i := 1) rfl
 have d2 := k2.cell' (i := 2) rfl
 have d3 := k2.cell' (i := 3) rfl
 have d4 := k2.cell' (i := 4) rfl
 have d5 := k2.cell' (i := 5) rfl
 go_wp2_with fail
 refine (extDim_any _ _ X Y _ HA1.out HB1.out HF.out).mono ?_; rintro e w2 ⟨rfl, hb2⟩
 have G2 := Lib.hid (G1.out.trans (hb2.mono G1.out.size))
 clear hb2 G1
 go_wp2
 go_ret
 exact ⟨rfl, G2.out⟩
set_option maxHeartbeats 6400000 in
set_option maxRecDepth 100000 in
theorem specPencilRanks_any (u : Value) (x : Rp) (w0 : World) (hu : RpR w0 w0.heap.size u x) :
  Calls Tryz.prog 28 #[u] w0 fun e w' => ∃ v, e = .returned v ∧ IntsO w' w0.heap.size w'.heap.size v (pkL x) ∧ Below w0.heap.size w0 w' := by
 have hu' := hu
 obtain ⟨A, a, C, c, E, e, H, h, rfl, hq, hd, hm, hp, ld, lm⟩ := hu.open_
 clear hu hq hd
 obtain ⟨W, hW⟩ : ∃ W, W = (w0.alloc (.cells #[.int .i64 x.p, .int .i64 x.q.v, .slice A x.q.f.length a, .slice C x.q.t.length c, .slice E x.d.length e, .slice H x.m.length h] 31)).alloc (.cells #[] 3) := ⟨_, rfl⟩
 have g0 : Below w0.heap.size w0 W := by rw [hW]; exact ((Below.refl _ _).alloc (Nat.le_refl _) _).alloc (by simp) _
 have kB : Blk W w0.heap.size 31 #[.int .i64 x.p, .int .i64 x.q.v, .slice A x.q.f.length a, .slice C x.q.t.length c, .slice E x.d.length e, .slice H x.m.length h] := by rw [hW]; exact (Blk.new _ _ _).alloc _
 have hPv : IntsO W (w0.heap.size + 1) W.heap.size (.slice (some ⟨w0.heap.size + 1, 0, none⟩) 0 0) [] := by
  have := OwnI.made (w := w0.alloc (.cells #[.int .i64 x.p, .int .i64 x.q.v, .slice A x.q.f.length a, .slice C x.q.t.length c, .slice E x.d.length e, .slice H x.m.length h] 31)) (base := w0.heap.size + 1) 3 rfl (by simp)
  rw [← hW] at this
  simp only [World.size_alloc] at this
  exact IntsO.of_own this
 have sz : W.heap.size = w0.heap.size + 1 + 1 := by rw [hW]; simp
 have SZ := Lib.hid sz
 have HXR := Lib.hid (RpR.next g0 hu')
 have HU0 := Lib.hid hu'
 clear sz
 rcases hpen : isPen x with _ | _
 ·have HF := Lib.hid (show pkL x = [] by simp [pkL, hpen])
  have HPN := Lib.hid hpen
  have HPV := Lib.hid hPv
  clear hpen hm hPv
  have c0 := kB.cell' (i := 0) rfl
  have c1 := kB.cell' (i := 1) rfl
  have c2 := kB.cell' (i := 2) rfl
  have c3 := kB.cell' (i := 3) rfl
  have c4 := kB.cell' (i := 4) rfl
  have c5 := kB.cell' (i := 5) rfl
  by_cases h0 : 0 < x.p
  ·have h0' : (0 : Int) < x.p := h0
   rw [hW] at c0 c1 c2 c3 c4 c5
   go_enter Tryz.func28, Tryz.ntmps28
   go_wp2
   refine wp_loop_rounds 1 ?_
   rw [rounds_succ]
   go_wp2_with fail
   rw [← hW]; rw [← hW] at c0 c1 c2 c3 c4 c5; clear hW
   refine (specIsPencil_any _ x _ HXR.out).mono ?_; rintro e w1 ⟨rfl, hb1⟩
   rw [HPN.out]
   have kB1 := kB.call hb1
   have HXR1 := Lib.hid (RpR.next hb1 HXR.out)
   have g1 := bthen g0 hb1
   have HPV1 := Lib.hid (HPV.out.below hb1)
   have s1 := hb1.size
   clear c0 c1 c2 c3 c4 c5 g0 hb1 kB
   have c0 := kB1.cell' (i := 0) rfl
   have c1 := kB1.cell' (i := 1) rfl
   have c2 := kB1.cell' (i := 2) rfl
   have c3 := kB1.cell' (i := 3) rfl
   have c4 := kB1.cell' (i := 4) rfl
   have c5 := kB1.cell' (i := 5) rfl
   go_wp2_with fail
   refine (specIsPencil_any _ x _ HXR1.out).mono ?_; rintro e w2 ⟨rfl, hb2⟩
   rw [HPN.out]
   have HPV2 := Lib.hid (HPV1.out.below hb2)
   have g2 := bthen g1 hb2
   have s2 := hb2.size
   go_wp2
   go_ret
   exact ⟨_, rfl, by rw [HF.out]; exact HPV2.out.wider (by omega) (by omega), g2⟩
  ·rw [hW] at c0 c1 c2 c3 c4 c5
   go_enter Tryz.func28, Tryz.ntmps28
   go_wp2
   refine wp_loop_rounds 1 ?_
   rw [rounds_succ]
   go_wp2_with fail
   rw [← hW]; rw [← hW] at c0 c1 c2 c3 c4 c5; clear hW
   refine (specIsPencil_any _ x _ HXR.out).mono ?_; rintro e w2 ⟨rfl, hb2⟩
   rw [HPN.out]
   have HPV2 := Lib.hid (HPV.out.below hb2)
   have g2 := bthen g0 hb2
   have s2 := hb2.size
   go_wp2
   go_ret
   exact ⟨_, rfl, by rw [HF.out]; exact HPV2.out.wider (by omega) (by omega), g2⟩
 ·obtain ⟨DC, DR, ed, em, hC, hR, hfl, inA, inB, hpm, her, hee⟩ := pen_at2 hpen
  have hpr := isFld_r hfl
  have HF := Lib.hid (show pkL x = peL x x.p.toNat ++ [peE x] by simp [pkL, hpen])
  have HPN := Lib.hid hpen
  have HPM := Lib.hid hpm
  have HER := Lib.hid her
  have HEE := Lib.hid hee
  have HIA := Lib.hid inA
  have HIB := Lib.hid inB
  have HFL := Lib.hid hfl
  have hml : x.m.length = 2 := by rw [em]; rfl
  obtain ⟨bm, om, m1, A1, c1', eH, hbm, HM1, z0, z1, z2, hs1, i1, i2, _⟩ := SlM.at_ (k := 1) hm (by omega)
  subst eH
  have em1 := HM1.out
  rw [em] at em1
  simp only [List.getElem?_cons_succ, List.getElem?_cons_zero, Option.some.injEq] at em1
  subst em1
  have hMB : MxR w0 w0.heap.size (.agg #[.int .i64 (mxF DR DC (peB x)).r, .int .i64 (mxF DR DC (peB x)).c, .slice A1 (mxF DR DC (peB x)).a.length c1']) (mxF DR DC (peB x)) := ⟨_, rfl, hs1, i1, i2⟩
  simp only [mxF, flat_length] at hMB z0 z1 z2
  obtain ⟨ML, hML⟩ : ∃ z, DR * DC = z := ⟨_, rfl⟩
  rw [hML] at hMB z2
  simp only [Nat.one_mul] at z0 z1 z2
  have HMB := Lib.hid hMB
  have HML := Lib.hid hML
  have hm1 : 1 < x.m.length := by omega
  clear hml hpen ed em hpm her hee inA inB hfl hm hMB hML hs1 i1 i2 HM1
  go_enter Tryz.func28, Tryz.ntmps28
  go_wp2
  rw [← hW]; clear hW
  go_loopw [3, 4] (fun ov i wr => ∃ k : Nat, (k : Int) ≤ x.p ∧ i = .int .i64 k ∧ IntsO wr (w0.heap.size + 1) wr.heap.size ov (peL x k) ∧ Below (w0.heap.size + 1) W wr) (fun _ i _ => (x.p - intOf i).toNat)
  case atStart => exact ⟨0, by omega, rfl, hPv, Below.refl _ _⟩
  case round =>
   clear hPv
   obtain ⟨k, hk, rfl, hO, hbel⟩ := hrel
   obtain ⟨OA, oc, eo⟩ := hO.form
   subst eo
   have hol := peL_length x k
   have ws := hbel.size
   have kBr := kB.below hbel (by omega)
   have gw := g0.trans (hbel.mono (by omega))
   rw [hol] at hO ⊢
   have HO := Lib.hid hO
   have HOL := Lib.hid hol
   have HXR1 := Lib.hid (RpR.more gw.size (RpR.below gw HU0.out))
   have sz := SZ.out
   clear hO hol
   have c0 := kBr.cell' (i := 0) rfl
   have c1 := kBr.cell' (i := 1) rfl
   have c2 := kBr.cell' (i := 2) rfl
   have c3 := kBr.cell' (i := 3) rfl
   have c4 := kBr.cell' (i := 4) rfl
   have c5 := kBr.cell' (i := 5) rfl
   by_cases hlt : (k : Int) < x.p
   ·have hrk := HER.out k
    obtain ⟨rk, hrk2⟩ : ∃ z, rkF x.p DR DC (peK x k) = z := ⟨_, rfl⟩
    have hrl := rkF_le x.p DR DC (peK x k)
    rw [hrk2] at hrl hrk
    have HRK2 := Lib.hid hrk2
    have HSU := Lib.hid (show peL x (k + 1) = peL x k ++ [(rk : Int)] by rw [peL_succ, hrk])
    have HINK := Lib.hid (peK_inF (x := x) (R := DR) (C := DC) hpr.1 (k : Int))
    have hpa : Hid (pAtP x 1 k = (mxF DR DC (peK x k), true)) := by
     show _ = _
     rw [pAtP_yes HPN.out, Int.emod_eq_of_lt (by omega) (by omega), Int.emod_eq_of_lt (by omega) hlt, HPM.out]
    clear hrk hrk2
    go_wp2_with fail
    refine (specIsPencil_any _ x _ HXR1.out).mono ?_; rintro e w1 ⟨rfl, hb1⟩
    rw [HPN.out]
    have kB1 := kBr.call hb1
    have HXR2 := Lib.hid (RpR.next hb1 HXR1.out)
    have s1 := hb1.size
    clear c0 c1 c2 c3 c4 c5 kBr
    have c0 := kB1.cell' (i := 0) rfl
    have c1 := kB1.cell' (i := 1) rfl
    have c2 := kB1.cell' (i := 2) rfl
    have c3 := kB1.cell' (i := 3) rfl
    have c4 := kB1.cell' (i := 4) rfl
    have c5 := kB1.cell' (i := 5) rfl
    go_wp2_with fail
    refine (specPencilAt_any _ x 1 k _ HXR2.out ⟨by omega, by omega⟩ ⟨by omega, by omega⟩).mono ?_; rintro e w2 ⟨r2, rfl, hM2, hb2⟩
    rw [hpa.out] at hM2 ⊢
    obtain ⟨A5, c5', e5⟩ := hM2.form
    subst e5
    simp only [mxF, flat_length] at hM2 ⊢
    obtain ⟨ML2, hML2⟩ : ∃ z, DR * DC = z := ⟨_, rfl⟩
    rw [hML2] at hM2 ⊢
    clear hML2
    obtain ⟨X, hX⟩ : ∃ X, X = w2.alloc (.cells #[.int .i64 DR, .int .i64 DC, .slice A5 ML2 c5'] 44) := ⟨_, rfl⟩
    have bX : Below w2.heap.size w2 X := by rw [hX]; exact below_alloc _ _
    have kX : Blk X w2.heap.size 44 #[.int .i64 DR, .int .i64 DC, .slice A5 ML2 c5'] := by rw [hX]; exact Blk.new _ _ _
    have b12 := bthen hb1 (bthen hb2 bX)
    have kBX := (kB1.call hb2).call bX
    have HMX := Lib.hid (hM2.below bX).rd
    have HOX := Lib.hid (HO.out.below b12)
    have HBX := Lib.hid (hbel.trans (b12.mono (by omega)))
    have s12 := b12.size
    have d0 := kX.cell' (i := 0) rfl
    have d1 := kX.cell' (i := 1) rfl
    have d2 := kX.cell' (i := 2) rfl
    clear c0 c1 c2 c3 c4 c5 kB1 hM2 bX kX b12 hb1 hb2
    have c0 := kBX.cell' (i := 0) rfl
    have c1 := kBX.cell' (i := 1) rfl
    have c2 := kBX.cell' (i := 2) rfl
    have c3 := kBX.cell' (i := 3) rfl
    have c4 := kBX.cell' (i := 4) rfl
    have c5 := kBX.cell' (i := 5) rfl
    rw [hX] at c0 c1 c2 c3 c4 c5 d0 d1 d2
    go_wp2_with fail
    rw [← hX]; clear hX
    refine (rankOf_yes x.p _ DR DC (peK x k) _ HFL.out (by omega) (by omega) HMX.out HINK.out).mono ?_; rintro e w3 ⟨rfl, hb3⟩
    rw [HRK2.out]
    have s3 := hb3.size
    have hO3 := HOX.out.below hb3
    have hB3 := HBX.out.trans (hb3.mono (by omega))
    have hO4 := hO3.below (below_alloc w3 (.cells #[.int .i64 (rk : Int)] 3))
    have hB4 := hB3.trans ((below_alloc w3 (.cells #[.int .i64 (rk : Int)] 3)).mono (by omega))
    have HO4 := Lib.hid hO4
    have HB4 := Lib.hid hB4
    clear hO3 hB3 hO4 hB4 hb3 kBX c0 c1 c2 c3 c4 c5 d0 d1 d2
    (go_wp2_with (at_builtin; refine Hold.stop ?_)); unfold Hold
    refine wpList_appI rfl (.tmp 24) (.tmp 29) rfl (w0.heap.size + 1) _ (.slice OA k oc) (peL x k) rfl HO4.out.1 _ _ _ [(rk : Int)] rfl rfl (SlI.one w3 _ _ ⟨by omega, by omega⟩) (by rw [HOL.out]; simp; omega) (by simp; omega) ?_
    intro v9 w9 ho9 hg9 hv9
    rw [← HSU.out] at ho9
    have hbg : Below (w0.heap.size + 1) _ w9 := below_grown hg9 (fun k hk => (HO4.out.1.lt k hk).1) (by simp; omega)
    have HBT := Lib.hid (HB4.out.trans hbg)
    have HO9 := Lib.hid (IntsO.of_own ho9)
    clear ho9 hg9 hv9 hbg
    go_wp2
    go_roundw
    case rel => exact ⟨k + 1, by omega, by go_num, HO9.out, HBT.out⟩
    case measure => simp [intOf]; omega
   ·have hkp : k = x.p.toNat := by omega
    have HFF := Lib.hid (show pkL x = peL x k ++ [peE x] by rw [HF.out, hkp])
    clear hkp
    have hre := HEE.out
    obtain ⟨rk, hrk2⟩ : ∃ z, rkF x.p DR DC (peB x) = z := ⟨_, rfl⟩
    have hrl := rkF_le x.p DR DC (peB x)
    rw [hrk2] at hrl hre
    have HRK2 := Lib.hid hrk2
    have HRE := Lib.hid hre
    clear hrk2 hre
    go_wp2_with fail
    refine (specIsPencil_any _ x _ HXR1.out).mono ?_; rintro e w1 ⟨rfl, hb1⟩
    rw [HPN.out]
    have kB1 := kBr.call hb1
    have g1w := gw.trans (hb1.mono gw.size)
    have z0' := bcell g1w hbm z0
    have z1' := bcell g1w hbm z1
    have z2' := bcell g1w hbm z2
    have s1 := hb1.size
    have HG1W := Lib.hid g1w
    have HO1 := Lib.hid (HO.out.below hb1)
    have HB1 := Lib.hid (hbel.trans (hb1.mono (by omega)))
    clear c0 c1 c2 c3 c4 c5 kBr g1w gw hb1
    go_wp2
    obtain ⟨y, hy⟩ : ∃ y, y = x := ⟨_, rfl⟩
    subst hy
    refine wp_region_net (by kernel_rfl) [.eq (.slice OA k oc), .eq (.pointer (some ⟨w0.heap.size, 0, none⟩)), .eq (.int .i64 y.p), .eq (.pointer (some ⟨w0.heap.size, 5, none⟩)), .eq (.slice (some ⟨bm, om, none⟩) y.m.length h), .eq (.pointer (some ⟨bm, om + 3, none⟩)), .eq (.agg #[.int .i64 DR, .int .i64 DC, .slice A1 ML c1']), .eq (.int .i64 (rk : Int)), rel 8 (fun u lo hi w => ∃ g, u = .slice (some ⟨g, 0, none⟩) 1 1 ∧ Blk w g 3 #[.int .i64 (rk : Int)])] [[], [], [1], [], [3], [3, 4], [3, 4, 5], [1, 2, 3, 4, 5, 6], [1, 2, 3, 4, 5, 6, 7], [0, 1, 2, 3, 4, 5, 6, 7, 8], [0, 1, 2, 3, 4, 5, 6, 7, 8, 9]] 9 (by kernel_rfl) ⟨trivial, trivial, trivial, trivial, trivial, trivial, trivial, trivial, rel_stable (fun u lo hi w w' ⟨g, e, h⟩ hb => ⟨g, e, h.call hb⟩), trivial⟩ ⟨?_, ?_, ?_, ?_, ?_, ?_, ?_, ?_, ?_, trivial⟩ ?_
    ·intro x w hb hk Q' hQ
     clear hk
     simp only [netE] at hQ ⊢
     go_wp2
     exact hQ _ _ (Below.refl _ _) rfl
    ·intro x w hb hk Q' hQ
     clear hk
     simp only [netE] at hQ ⊢
     go_wp2
     exact hQ _ _ (Below.refl _ _) rfl
    ·intro x w hb hk Q' hQ
     have h1 : x.v 1 = _ := (hk 1 (by decide)).1
     clear hk
     simp only [netE] at hQ ⊢
     simp only [h1] at hQ ⊢
     clear h1
     have q0 := (kB1.call hb).cell' (i := 0) rfl
     go_wp2
     exact hQ _ _ (Below.refl _ _) rfl
    ·intro x w hb hk Q' hQ
     clear hk
     simp only [netE] at hQ ⊢
     go_wp2
     exact hQ _ _ (Below.refl _ _) rfl
    ·intro x w hb hk Q' hQ
     have h3 : x.v 3 = _ := (hk 3 (by decide)).1
     clear hk
     simp only [netE] at hQ ⊢
     simp only [h3] at hQ ⊢
     clear h3
     have q0 := (kB1.call hb).cell' (i := 5) rfl
     go_wp2
     exact hQ _ _ (Below.refl _ _) rfl
    ·intro x w hb hk Q' hQ
     have h4 : x.v 4 = _ := (hk 4 (by decide)).1
     clear hk
     simp only [netE] at hQ ⊢
     simp only [h4] at hQ ⊢
     clear h4
     go_wp2
     exact hQ _ _ (Below.refl _ _) rfl
    ·intro x w hb hk Q' hQ
     have h5 : x.v 5 = _ := (hk 5 (by decide)).1
     clear hk
     simp only [netE] at hQ ⊢
     simp only [h5] at hQ ⊢
     clear h5
     have q0 := bcell hb (by omega) z0'
     have q1 := bcell hb (by omega) z1'
     have q2 := bcell hb (by omega) z2'
     go_wp2
     exact hQ _ _ (Below.refl _ _) rfl
    ·intro x w hb hk Q' hQ
     have h2 : x.v 2 = _ := (hk 2 (by decide)).1
     have h6 : x.v 6 = _ := (hk 6 (by decide)).1
     clear hk
     simp only [netE] at hQ ⊢
     simp only [h2, h6] at hQ ⊢
     clear h2 h6
     have gq := (HG1W.out).trans (hb.mono (HG1W.out).size)
     have HMR := Lib.hid (MxR.more gq.size (MxR.below gq HMB.out))
     clear gq
     go_wp2_with fail
     refine (rankOf_yes y.p _ DR DC (peB y) _ HFL.out (by omega) (by omega) HMR.out HIB.out).mono ?_; rintro e w6 ⟨rfl, hb6⟩
     rw [HRK2.out]
     go_wp2
     exact hQ _ _ hb6 rfl
    ·intro x w hb hk Q' hQ
     have h1 : x.v 1 = _ := (hk 1 (by decide)).1
     have h2 : x.v 2 = _ := (hk 2 (by decide)).1
     have h3 : x.v 3 = _ := (hk 3 (by decide)).1
     have h4 : x.v 4 = _ := (hk 4 (by decide)).1
     have h5 : x.v 5 = _ := (hk 5 (by decide)).1
     have h6 : x.v 6 = _ := (hk 6 (by decide)).1
     have h7 : x.v 7 = _ := (hk 7 (by decide)).1
     clear hk
     simp only [netE] at hQ ⊢
     simp only [h1, h2, h3, h4, h5, h6, h7] at hQ ⊢
     clear h1 h2 h3 h4 h5 h6 h7
     go_wp2
     exact hQ _ _ (below_alloc _ _) ⟨_, rfl, Blk.new _ _ _⟩
    ·intro x w hb hk hiv hdj
     have h0 : x.v 0 = .slice OA k oc := hk 0 (by decide)
     have h1 : x.v 1 = .pointer (some ⟨w0.heap.size, 0, none⟩) := hk 1 (by decide)
     have h2 : x.v 2 = .int .i64 y.p := hk 2 (by decide)
     have h3 : x.v 3 = .pointer (some ⟨w0.heap.size, 5, none⟩) := hk 3 (by decide)
     have h4 : x.v 4 = .slice (some ⟨bm, om, none⟩) y.m.length h := hk 4 (by decide)
     have h5 : x.v 5 = .pointer (some ⟨bm, om + 3, none⟩) := hk 5 (by decide)
     have h6 : x.v 6 = .agg #[.int .i64 DR, .int .i64 DC, .slice A1 ML c1'] := hk 6 (by decide)
     have h7 : x.v 7 = .int .i64 (rk : Int) := hk 7 (by decide)
     have h8 : ∃ g, (x.v 8) = .slice (some ⟨g, 0, none⟩) 1 1 ∧ Blk w g 3 #[.int .i64 (rk : Int)] := hk 8 (by decide)
     clear hk
     simp only [netE]
     simp only [List.drop_succ_cons, List.drop_zero, h0, h1, h2, h3, h4, h5, h6, h7]
     clear h0 h1 h2 h3 h4 h5 h6 h7
     obtain ⟨g, e7, hk7⟩ := h8
     rw [e7]
     have hO2 := HO1.out.below hb
     have sw := hb.size
     have H7 := Lib.hid (slOne hk7 (by unfold I64; omega))
     refine wpList_appI rfl (.tmp 33) (.tmp 41) rfl (w0.heap.size + 1) _ (.slice OA k oc) (peL y k) rfl hO2.1 _ _ _ [(rk : Int)] rfl rfl H7.out (by rw [HOL.out]; simp; omega) (by omega) ?_
     intro v9 w9 ho9 hg9 hv9
     rw [← HRE.out, ← HFF.out] at ho9
     have hbg : Below (w0.heap.size + 1) w w9 := below_grown hg9 (fun k hk => (hO2.1.lt k hk).1) (by omega)
     have HBT := Lib.hid (g0.trans (((HB1.out.trans (hb.mono (by omega))).trans hbg).mono (by omega)))
     have HO9 := Lib.hid ((IntsO.of_own ho9).wider (Nat.le_succ _) (Nat.le_refl _))
     clear ho9 hg9 hv9 hbg hO2 hk7 e7
     go_wp2
     go_ret
     exact ⟨_, rfl, HO9.out, HBT.out⟩
end Go.Proofs.YthhjoamgcfiecaaGreat
