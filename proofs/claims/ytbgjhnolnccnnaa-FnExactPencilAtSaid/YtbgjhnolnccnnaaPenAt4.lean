/- PencilAt: the reference's. -/
import Derived.Test.YtbgjhnolnccnnaaPenAt3
import Derived.Test.YtbgjhnolnccnnaaAMat
namespace Go.Proofs.Ytbgjhnolnccnnaa
set_option linter.unusedVariables false
set_option linter.unusedSimpArgs false
open Go.RowKit
theorem plF_adM (p a b : Int) (r c : Nat) (fa fb : Nat → Nat → Int) : mxF r c (plF p (b % p) (plF p (a % p) (fun _ _ => 0) fa) fb) = mxF r c (adM p (scM p a fa) (scM p b fb)) :=
  mxF_congr fun i j _ _ => by
    simp only [plF, adM, scM, Int.zero_add]
    rw [Int.add_emod_emod]
theorem scM_rng {p k : Int} {f : Nat → Nat → Int} (hp : 2 ≤ p ∧ p ≤ 5) (i j : Nat) : 0 ≤ scM p k f i j ∧ scM p k f i j ≤ p - 1 := by
  have h1 := Int.emod_nonneg (k % p * f i j) (show p ≠ 0 by omega)
  have h2 := Int.emod_lt_of_pos (k % p * f i j) (show 0 < p by omega)
  unfold scM
  omega
set_option maxHeartbeats 12800000 in
set_option maxRecDepth 100000 in
theorem specPA_yes (u : Value) (x : Rp) (v1 v2 : Int) (w0 : World) (hu : RpR w0 w0.heap.size u x) (hv1 : I64 v1) (hv2 : I64 v2) (hyes : isPen x = true) :
    Calls Try.prog 52 #[u, .int .i64 v1, .int .i64 v2] w0 fun e w' => ∃ r, e = .returned (.tuple #[r, .bool (pAtP x v1 v2).2]) ∧ MxO w' w0.heap.size w'.heap.size r (pAtP x v1 v2).1 ∧ Below w0.heap.size w0 w' := by
  obtain ⟨C, R, fa, fb, ed, em, hC, hR, hp, hqq, rfa, rfb⟩ := pen_at hyes
  clear hqq
  have hpr := isFld_r hp
  have HPM := Lib.hid (show pAtP x v1 v2 = (mxF R C (adM x.p (scM x.p v1 fa) (scM x.p v2 fb)), true) by rw [pAtP_yes hyes, penM_of em, plF_adM])
  have hu' := hu
  have ed0 := ed
  have em0 := em
  obtain ⟨UA, ua, UC, uc, UE, ue, UH, uh, rfl, hq, hd, hm, hpI, ld, lm⟩ := hu.open_
  clear hu hq
  rw [ed] at hd ⊢
  rw [em] at hm ⊢
  have zd : ([(C : Int), (R : Int)] : List Int).length = 2 := rfl
  have zm : ([mxF R C fa, mxF R C fb] : List Mx).length = 2 := rfl
  obtain ⟨bd, od, x0, rfl, hbd, HX0, d0, _⟩ := SlI.at_ (k := 0) hd (by simp)
  obtain ⟨bd', od', x1, e1, hbd', HX1, d1, _⟩ := SlI.at_ (k := 1) hd (by simp)
  injection e1 with e1
  injection e1 with e1 e2
  subst e1 e2
  obtain ⟨bm, om, m0, A0, c0, rfl, hbm, HM0, y0, y1, y2, hs0, r0, r1, _⟩ := SlM.at_ (k := 0) hm (by simp)
  obtain ⟨bm', om', m1, A1, c1, e1, hbm', HM1, z0, z1, z2, hs1, r2, r3, _⟩ := SlM.at_ (k := 1) hm (by simp)
  injection e1 with e1
  injection e1 with e1 e2
  subst e1 e2
  have t0 := HX0.out
  have t1 := HX1.out
  have t2 := HM0.out
  have t3 := HM1.out
  simp only [List.getElem?_cons_zero, List.getElem?_cons_succ, Option.some.injEq] at t0 t1 t2 t3
  subst t0 t1 t2 t3
  simp only [Nat.zero_mul, Nat.add_zero, Nat.one_mul] at y0 y1 y2 z0 z1 z2 d0 d1
  have q1 : (mxF R C fa).r = (R : Int) := rfl
  have q2 : (mxF R C fa).c = (C : Int) := rfl
  have q3 : (mxF R C fb).r = (R : Int) := rfl
  have q4 : (mxF R C fb).c = (C : Int) := rfl
  obtain ⟨LA, hLA⟩ : ∃ L, (mxF R C fa).a.length = L := ⟨_, rfl⟩
  obtain ⟨LB, hLB⟩ : ∃ L, (mxF R C fb).a.length = L := ⟨_, rfl⟩
  have hM0 : MxR w0 w0.heap.size (.agg #[.int .i64 (R : Int), .int .i64 C, .slice A0 LA c0]) (mxF R C fa) := ⟨_, rfl, by rw [← hLA]; exact hs0, r0, r1⟩
  have hM1 : MxR w0 w0.heap.size (.agg #[.int .i64 (R : Int), .int .i64 C, .slice A1 LB c1]) (mxF R C fb) := ⟨_, rfl, by rw [← hLB]; exact hs1, r2, r3⟩
  rw [q1] at y0
  rw [q2] at y1
  rw [hLA] at y2
  rw [q3] at z0
  rw [q4] at z1
  rw [hLB] at z2
  rw [zd, zm]
  rw [ed0, em0, zd, zm] at hu'
  clear q1 q2 q3 q4 hLA hLB hs0 hs1 r0 r1 r2 r3 zd zm hd hm ed em ed0 em0 HX0 HX1 HM0 HM1 ld lm hbd' hbm'
  have HFA := Lib.hid rfa
  have HFB := Lib.hid rfb
  clear rfa rfb
  obtain ⟨W, hW⟩ : ∃ W, W = (w0.alloc (.cells #[.int .i64 x.p, .int .i64 x.q.v, .slice UA x.q.f.length ua, .slice UC x.q.t.length uc, .slice (some ⟨bd, od, none⟩) 2 ue, .slice (some ⟨bm, om, none⟩) 2 uh] 40)).alloc (.cells #[.int .i64 0, .int .i64 0, .slice none 0 0] 60) := ⟨_, rfl⟩
  have g0 : Below w0.heap.size w0 W := by rw [hW]; exact ((Below.refl _ _).alloc (Nat.le_refl _) _).alloc (by simp) _
  have kB : Blk W w0.heap.size 40 #[.int .i64 x.p, .int .i64 x.q.v, .slice UA x.q.f.length ua, .slice UC x.q.t.length uc, .slice (some ⟨bd, od, none⟩) 2 ue, .slice (some ⟨bm, om, none⟩) 2 uh] := by rw [hW]; exact (Blk.new _ _ _).alloc _
  have kR : Blk W (w0.heap.size + 1) 60 #[.int .i64 0, .int .i64 0, .slice none 0 0] := by
    rw [hW]
    have := Blk.new (w0.alloc (.cells #[.int .i64 x.p, .int .i64 x.q.v, .slice UA x.q.f.length ua, .slice UC x.q.t.length uc, .slice (some ⟨bd, od, none⟩) 2 ue, .slice (some ⟨bm, om, none⟩) 2 uh] 40)) 60 #[.int .i64 0, .int .i64 0, .slice none 0 0]
    simpa only [World.size_alloc] using this
  have sz : W.heap.size = w0.heap.size + 1 + 1 := by rw [hW]; simp
  have SZ := Lib.hid sz
  have d0' := bcell g0 hbd d0
  have d1' := bcell g0 hbd d1
  have y0' := bcell g0 hbm y0
  have y1' := bcell g0 hbm y1
  have y2' := bcell g0 hbm y2
  have z0' := bcell g0 hbm z0
  have z1' := bcell g0 hbm z1
  have z2' := bcell g0 hbm z2
  have hbd2 : bd < W.heap.size := by omega
  have hbm2 : bm < W.heap.size := by omega
  have HM0 := Lib.hid (MxR.next g0 hM0)
  have HM1 := Lib.hid (MxR.next g0 hM1)
  have GW0 := Lib.hid g0
  have HXR := Lib.hid (RpR.next g0 hu')
  have HPY := Lib.hid hyes
  have HP := Lib.hid hp
  clear hu' hyes hp sz d0 d1 y0 y1 y2 z0 z1 z2 hbd hbm hM0 hM1 g0
  have c0 := kB.cell' (i := 0) rfl
  have c1 := kB.cell' (i := 1) rfl
  have c2 := kB.cell' (i := 2) rfl
  have c3 := kB.cell' (i := 3) rfl
  have c4 := kB.cell' (i := 4) rfl
  have c5 := kB.cell' (i := 5) rfl
  go_enter Try.func52, Try.ntmps52
  go_wp2_with fail
  rw [← hW]; clear hW
  refine (specIsPencil_any _ x _ HXR.out).mono ?_; rintro e wr ⟨rfl, hb1⟩
  rw [HPY.out]
  replace kR := kR.call hb1
  replace kB := kB.call hb1
  have hs1 := hb1.size
  have gW := hb1
  have HWS : Hid (w0.heap.size < W.heap.size) := by show _ < _; have := SZ.out; omega
  have y0r := bcell hb1 hbm2 y0'
  have y1r := bcell hb1 hbm2 y1'
  have y2r := bcell hb1 hbm2 y2'
  have hbmr : bm < wr.heap.size := by omega
  clear c0 c1 c2 c3 c4 c5 hb1
  go_wp2
  obtain ⟨y, hy⟩ : ∃ y, y = x := ⟨_, rfl⟩
  subst hy
  refine wp_region_net2 (by kernel_rfl) [.eq (.pointer (some ⟨w0.heap.size, 0, none⟩)), .eq (.int .i64 y.p), .eq (.int .i64 v1), .eq (.pointer (some ⟨w0.heap.size, 5, none⟩)), .eq (.slice (some ⟨bm, om, none⟩) 2 uh), .eq (.pointer (some ⟨bm, om, none⟩)), .eq (.agg #[.int .i64 R, .int .i64 C, .slice A0 LA c0]), .rel (fun x w => ∃ s n c', x.v 7 = .tuple #[.agg #[.int .i64 (R : Int), .int .i64 C, .slice s n c'], .bool true] ∧ MxO w (x.lo 7) (x.hi 7) (.agg #[.int .i64 (R : Int), .int .i64 C, .slice s n c']) (mxF R C (scM y.p v1 fa))), .rel (fun x w => ∃ s n c', x.v 8 = .tuple #[.agg #[.int .i64 (R : Int), .int .i64 C, .slice s n c'], .bool true] ∧ MxO w (x.lo 7) (x.hi 7) (.agg #[.int .i64 (R : Int), .int .i64 C, .slice s n c']) (mxF R C (scM y.p v1 fa))), .rel (fun x w => ∃ s n c', x.v 9 = .agg #[.int .i64 (R : Int), .int .i64 C, .slice s n c'] ∧ MxO w (x.lo 7) (x.hi 7) (.agg #[.int .i64 (R : Int), .int .i64 C, .slice s n c']) (mxF R C (scM y.p v1 fa))), .eq (.bool true), rel 11 (fun u lo hi w => ∃ g, u = .pointer (some ⟨g, 0, none⟩) ∧ (lo ≤ g ∧ g < hi) ∧ Blk w g 60 #[.int .i64 0, .int .i64 0, .slice none 0 0])] [[], [0], [], [], [3], [3, 4], [3, 4, 5], [0, 1, 2, 3, 4, 5, 6], [0, 1, 2, 3, 4, 5, 6, 7], [0, 1, 2, 3, 4, 5, 6, 7, 8], [0, 1, 2, 3, 4, 5, 6, 7, 8], [], [0, 1, 2, 3, 4, 5, 6, 7, 8, 9, 11], [0, 1, 2, 3, 4, 5, 6, 7, 8, 9, 10, 11, 12]] 12 10 [0, 1, 2, 3, 4, 5, 6, 7, 8, 9, 11] (by kernel_rfl) rfl ⟨trivial, trivial, trivial, trivial, trivial, trivial, trivial, fun x w w' ⟨s, n, c', e1, h1⟩ hb => ⟨s, n, c', e1, h1.below hb⟩, fun x w w' ⟨s, n, c', e1, h1⟩ hb => ⟨s, n, c', e1, h1.below hb⟩, fun x w w' ⟨s, n, c', e1, h1⟩ hb => ⟨s, n, c', e1, h1.below hb⟩, trivial, rel_stable (fun u lo hi w w' ⟨g, e, h1, h⟩ hb => ⟨g, e, h1, h.call hb⟩), trivial⟩ ⟨?_, ?_, ?_, ?_, ?_, ?_, ?_, ?_, ?_, ?_, ?_, ?_, trivial⟩ ?_ ?_
  · intro x w hb hk Q' hQ
    clear hk
    simp only [netAct, dstAt, List.getElem?_toArray, List.getElem?_cons_zero, List.getElem?_cons_succ, Option.bind_some, Act.put, List.setIfInBounds_toArray, List.set_cons_zero, List.set_cons_succ] at hQ ⊢
    go_wp2
    exact hQ (.pointer (some ⟨w0.heap.size, 0, none⟩)) _ (Below.refl _ _) rfl
  · intro x w hb hk Q' hQ
    have h0 : x.v 0 = .pointer (some ⟨w0.heap.size, 0, none⟩) := (hk 0 (by decide)).1
    clear hk
    simp only [netAct, dstAt, List.getElem?_toArray, List.getElem?_cons_zero, List.getElem?_cons_succ, Option.bind_some, Act.put, List.setIfInBounds_toArray, List.set_cons_zero, List.set_cons_succ] at hQ ⊢
    simp only [h0] at hQ ⊢
    clear h0
    have q0 := (kB.call hb).cell' (i := 0) rfl
    go_wp2
    exact hQ (.int .i64 y.p) _ (Below.refl _ _) rfl
  · intro x w hb hk Q' hQ
    clear hk
    simp only [netAct, dstAt, List.getElem?_toArray, List.getElem?_cons_zero, List.getElem?_cons_succ, Option.bind_some, Act.put, List.setIfInBounds_toArray, List.set_cons_zero, List.set_cons_succ] at hQ ⊢
    go_wp2
    exact hQ (.int .i64 v1) _ (Below.refl _ _) rfl
  · intro x w hb hk Q' hQ
    clear hk
    simp only [netAct, dstAt, List.getElem?_toArray, List.getElem?_cons_zero, List.getElem?_cons_succ, Option.bind_some, Act.put, List.setIfInBounds_toArray, List.set_cons_zero, List.set_cons_succ] at hQ ⊢
    go_wp2
    exact hQ (.pointer (some ⟨w0.heap.size, 5, none⟩)) _ (Below.refl _ _) rfl
  · intro x w hb hk Q' hQ
    have h3 : x.v 3 = .pointer (some ⟨w0.heap.size, 5, none⟩) := (hk 3 (by decide)).1
    clear hk
    simp only [netAct, dstAt, List.getElem?_toArray, List.getElem?_cons_zero, List.getElem?_cons_succ, Option.bind_some, Act.put, List.setIfInBounds_toArray, List.set_cons_zero, List.set_cons_succ] at hQ ⊢
    simp only [h3] at hQ ⊢
    clear h3
    have q0 := (kB.call hb).cell' (i := 5) rfl
    go_wp2
    exact hQ (.slice (some ⟨bm, om, none⟩) 2 uh) _ (Below.refl _ _) rfl
  · intro x w hb hk Q' hQ
    have h4 : x.v 4 = .slice (some ⟨bm, om, none⟩) 2 uh := (hk 4 (by decide)).1
    clear hk
    simp only [netAct, dstAt, List.getElem?_toArray, List.getElem?_cons_zero, List.getElem?_cons_succ, Option.bind_some, Act.put, List.setIfInBounds_toArray, List.set_cons_zero, List.set_cons_succ] at hQ ⊢
    simp only [h4] at hQ ⊢
    clear h4
    go_wp2
    exact hQ (.pointer (some ⟨bm, om, none⟩)) _ (Below.refl _ _) rfl
  · intro x w hb hk Q' hQ
    have h5 : x.v 5 = .pointer (some ⟨bm, om, none⟩) := (hk 5 (by decide)).1
    clear hk
    simp only [netAct, dstAt, List.getElem?_toArray, List.getElem?_cons_zero, List.getElem?_cons_succ, Option.bind_some, Act.put, List.setIfInBounds_toArray, List.set_cons_zero, List.set_cons_succ] at hQ ⊢
    simp only [h5] at hQ ⊢
    clear h5
    have q0 := bcell hb hbmr y0r
    have q1 := bcell hb hbmr y1r
    have q2 := bcell hb hbmr y2r
    go_wp2
    exact hQ (.agg #[.int .i64 R, .int .i64 C, .slice A0 LA c0]) _ (Below.refl _ _) rfl
  · intro x w hb hk Q' hQ
    have h0 : x.v 0 = .pointer (some ⟨w0.heap.size, 0, none⟩) := (hk 0 (by decide)).1
    have h1 : x.v 1 = .int .i64 y.p := (hk 1 (by decide)).1
    have h2 : x.v 2 = .int .i64 v1 := (hk 2 (by decide)).1
    have h3 : x.v 3 = .pointer (some ⟨w0.heap.size, 5, none⟩) := (hk 3 (by decide)).1
    have h4 : x.v 4 = .slice (some ⟨bm, om, none⟩) 2 uh := (hk 4 (by decide)).1
    have h5 : x.v 5 = .pointer (some ⟨bm, om, none⟩) := (hk 5 (by decide)).1
    have h6 : x.v 6 = .agg #[.int .i64 R, .int .i64 C, .slice A0 LA c0] := (hk 6 (by decide)).1
    clear hk
    simp only [netAct, dstAt, List.getElem?_toArray, List.getElem?_cons_zero, List.getElem?_cons_succ, Option.bind_some, Act.put, List.setIfInBounds_toArray, List.set_cons_zero, List.set_cons_succ] at hQ ⊢
    simp only [h0, h1, h2, h3, h4, h5, h6] at hQ ⊢
    clear h0 h1 h2 h3 h4 h5 h6
    have hm3 := MxR.more (show W.heap.size ≤ w.heap.size by have := hb.size; omega) (MxR.below (gW.trans (hb.mono hs1)) HM0.out)
    have HM3 := Lib.hid hm3
    clear hm3
    go_wp2_with fail
    refine (scaleMatrix_any y.p v1 _ R C fa _ hv1 HM3.out (isMat_mxF HP.out (by omega) (by omega) HFA.out)).mono ?_; rintro e w5 ⟨v5, rfl, hO5, hb5⟩
    have HO5 := Lib.hid hO5
    obtain ⟨A5, c5, e5⟩ := hO5.form
    have e5' : v5 = .agg #[.int .i64 (R : Int), .int .i64 C, .slice A5 (mxF R C (scM y.p v1 fa)).a.length c5] := e5
    obtain ⟨n5, hn5⟩ : ∃ n, (mxF R C (scM y.p v1 fa)).a.length = n := ⟨_, rfl⟩
    rw [hn5] at e5'
    subst e5'
    clear hO5 e5 hn5
    go_wp2
    exact hQ _ _ hb5 ⟨_, _, _, rfl, HO5.out⟩
  · intro x w hb hk Q' hQ
    have h0 : x.v 0 = .pointer (some ⟨w0.heap.size, 0, none⟩) := (hk 0 (by decide)).1
    have h1 : x.v 1 = .int .i64 y.p := (hk 1 (by decide)).1
    have h2 : x.v 2 = .int .i64 v1 := (hk 2 (by decide)).1
    have h3 : x.v 3 = .pointer (some ⟨w0.heap.size, 5, none⟩) := (hk 3 (by decide)).1
    have h4 : x.v 4 = .slice (some ⟨bm, om, none⟩) 2 uh := (hk 4 (by decide)).1
    have h5 : x.v 5 = .pointer (some ⟨bm, om, none⟩) := (hk 5 (by decide)).1
    have h6 : x.v 6 = .agg #[.int .i64 R, .int .i64 C, .slice A0 LA c0] := (hk 6 (by decide)).1
    have h7 : ∃ s n c', x.v 7 = .tuple #[.agg #[.int .i64 (R : Int), .int .i64 C, .slice s n c'], .bool true] ∧ MxO w (x.lo 7) (x.hi 7) (.agg #[.int .i64 (R : Int), .int .i64 C, .slice s n c']) (mxF R C (scM y.p v1 fa)) := (hk 7 (by decide)).1
    have s7 := (hk 7 (by decide)).2
    clear hk
    simp only [netAct, dstAt, List.getElem?_toArray, List.getElem?_cons_zero, List.getElem?_cons_succ, Option.bind_some, Act.put, List.setIfInBounds_toArray, List.set_cons_zero, List.set_cons_succ] at hQ ⊢
    simp only [h0, h1, h2, h3, h4, h5, h6] at hQ ⊢
    clear h0 h1 h2 h3 h4 h5 h6
    obtain ⟨s, n, c', e1, ho⟩ := h7
    have hQ' := hQ (.tuple #[.agg #[.int .i64 (R : Int), .int .i64 C, .slice s n c'], .bool true]) w (Below.refl _ _) ⟨s, n, c', rfl, ho⟩
    rw [e1] at hQ' ⊢
    go_wp2
    exact hQ'
  · intro x w hb hk Q' hQ
    have h0 : x.v 0 = .pointer (some ⟨w0.heap.size, 0, none⟩) := (hk 0 (by decide)).1
    have h1 : x.v 1 = .int .i64 y.p := (hk 1 (by decide)).1
    have h2 : x.v 2 = .int .i64 v1 := (hk 2 (by decide)).1
    have h3 : x.v 3 = .pointer (some ⟨w0.heap.size, 5, none⟩) := (hk 3 (by decide)).1
    have h4 : x.v 4 = .slice (some ⟨bm, om, none⟩) 2 uh := (hk 4 (by decide)).1
    have h5 : x.v 5 = .pointer (some ⟨bm, om, none⟩) := (hk 5 (by decide)).1
    have h6 : x.v 6 = .agg #[.int .i64 R, .int .i64 C, .slice A0 LA c0] := (hk 6 (by decide)).1
    have h7 : ∃ s n c', x.v 7 = .tuple #[.agg #[.int .i64 (R : Int), .int .i64 C, .slice s n c'], .bool true] ∧ MxO w (x.lo 7) (x.hi 7) (.agg #[.int .i64 (R : Int), .int .i64 C, .slice s n c']) (mxF R C (scM y.p v1 fa)) := (hk 7 (by decide)).1
    have h8 : ∃ s n c', x.v 8 = .tuple #[.agg #[.int .i64 (R : Int), .int .i64 C, .slice s n c'], .bool true] ∧ MxO w (x.lo 7) (x.hi 7) (.agg #[.int .i64 (R : Int), .int .i64 C, .slice s n c']) (mxF R C (scM y.p v1 fa)) := (hk 8 (by decide)).1
    have s7 := (hk 7 (by decide)).2
    have s8 := (hk 8 (by decide)).2
    clear hk
    simp only [netAct, dstAt, List.getElem?_toArray, List.getElem?_cons_zero, List.getElem?_cons_succ, Option.bind_some, Act.put, List.setIfInBounds_toArray, List.set_cons_zero, List.set_cons_succ] at hQ ⊢
    simp only [h0, h1, h2, h3, h4, h5, h6] at hQ ⊢
    clear h0 h1 h2 h3 h4 h5 h6
    obtain ⟨s, n, c', e1, ho⟩ := h8
    have hQ' := hQ (.agg #[.int .i64 (R : Int), .int .i64 C, .slice s n c']) w (Below.refl _ _) ⟨s, n, c', rfl, ho⟩
    rw [e1] at hQ' ⊢
    go_wp2
    exact hQ'
  · intro x w hb hk Q' hQ
    have h8 : ∃ s n c', x.v 8 = .tuple #[.agg #[.int .i64 (R : Int), .int .i64 C, .slice s n c'], .bool true] ∧ MxO w (x.lo 7) (x.hi 7) (.agg #[.int .i64 (R : Int), .int .i64 C, .slice s n c']) (mxF R C (scM y.p v1 fa)) := (hk 8 (by decide)).1
    clear hk
    simp only [netAct, dstAt, List.getElem?_toArray, List.getElem?_cons_zero, List.getElem?_cons_succ, Option.bind_some, Act.put, List.setIfInBounds_toArray, List.set_cons_zero, List.set_cons_succ] at hQ ⊢
    obtain ⟨s, n, c', e1, ho⟩ := h8
    rw [e1] at hQ ⊢
    go_wp2
    exact hQ (.bool true) _ (Below.refl _ _) rfl
  · intro x w hb hk Q' hQ
    clear hk
    simp only [netAct, dstAt, List.getElem?_toArray, List.getElem?_cons_zero, List.getElem?_cons_succ, Option.bind_some, Act.put, List.setIfInBounds_toArray, List.set_cons_zero, List.set_cons_succ] at hQ ⊢
    go_wp2
    exact hQ _ _ (below_alloc _ _) ⟨_, rfl, ⟨Nat.le_refl _, by show w.heap.size < (w.alloc _).heap.size; simp⟩, Blk.new _ _ _⟩
  · intro x w hb hk hiv hdj
    have h0 : x.v 0 = .pointer (some ⟨w0.heap.size, 0, none⟩) := hk 0 (by decide)
    have h1 : x.v 1 = .int .i64 y.p := hk 1 (by decide)
    have h2 : x.v 2 = .int .i64 v1 := hk 2 (by decide)
    have h3 : x.v 3 = .pointer (some ⟨w0.heap.size, 5, none⟩) := hk 3 (by decide)
    have h4 : x.v 4 = .slice (some ⟨bm, om, none⟩) 2 uh := hk 4 (by decide)
    have h5 : x.v 5 = .pointer (some ⟨bm, om, none⟩) := hk 5 (by decide)
    have h6 : x.v 6 = .agg #[.int .i64 R, .int .i64 C, .slice A0 LA c0] := hk 6 (by decide)
    have h7 : ∃ s n c', x.v 7 = .tuple #[.agg #[.int .i64 (R : Int), .int .i64 C, .slice s n c'], .bool true] ∧ MxO w (x.lo 7) (x.hi 7) (.agg #[.int .i64 (R : Int), .int .i64 C, .slice s n c']) (mxF R C (scM y.p v1 fa)) := hk 7 (by decide)
    have h8 : ∃ s n c', x.v 8 = .tuple #[.agg #[.int .i64 (R : Int), .int .i64 C, .slice s n c'], .bool true] ∧ MxO w (x.lo 7) (x.hi 7) (.agg #[.int .i64 (R : Int), .int .i64 C, .slice s n c']) (mxF R C (scM y.p v1 fa)) := hk 8 (by decide)
    have h9 : ∃ s n c', x.v 9 = .agg #[.int .i64 (R : Int), .int .i64 C, .slice s n c'] ∧ MxO w (x.lo 7) (x.hi 7) (.agg #[.int .i64 (R : Int), .int .i64 C, .slice s n c']) (mxF R C (scM y.p v1 fa)) := hk 9 (by decide)
    have h10 : x.v 10 = .bool true := hk 10 (by decide)
    have h11 : ∃ g, (x.v 11) = .pointer (some ⟨g, 0, none⟩) ∧ ((x.lo 11) ≤ g ∧ g < (x.hi 11)) ∧ Blk w g 60 #[.int .i64 0, .int .i64 0, .slice none 0 0] := hk 11 (by decide)
    clear hk
    simp only [netAct, dstAt, List.getElem?_toArray, List.getElem?_cons_zero, List.getElem?_cons_succ, Option.bind_some, Act.put, List.setIfInBounds_toArray, List.set_cons_zero, List.set_cons_succ]
    simp only [List.drop_succ_cons, List.drop_zero, h0, h1, h2, h3, h4, h5, h6, h10]
    clear h0 h1 h2 h3 h4 h5 h6 h10
    obtain ⟨gR, e17, hg, kG⟩ := h11
    obtain ⟨s1, n1, c1', e9, ho1⟩ := h9
    obtain ⟨s1', n1', c1'', e8, _⟩ := h8
    rw [e9, e17, e8]
    have i16 := hiv 7 (by decide)
    have i17 := hiv 11 (by decide)
    have d167 := hdj 7 11 (by decide) (by decide) (by decide)
    clear hiv hdj e9 e17 e8 h7
    have frG := kG.frozen
    have r0 := kG.cell' (i := 0) rfl
    have r1 := kG.cell' (i := 1) rfl
    have r2 := kG.cell' (i := 2) rfl
    have hbs := hb.size
    have hws0 := HWS.out
    obtain ⟨W3, e3⟩ : ∃ u, u = (((w.setCell ⟨gR, 0, none⟩ (.int .i64 R)).setCell ⟨gR, 1, none⟩ (.int .i64 C)).setCell ⟨gR, 2, none⟩ (.slice s1 n1 c1')) := ⟨_, rfl⟩
    have kG3 : Blk W3 gR 60 #[.int .i64 R, .int .i64 C, .slice s1 n1 c1'] := by rw [e3]; exact (((kG.set_ 0 _).set_ 1 _).set_ 2 _)
    have hc : Chg gR (gR + 1) w W3 := by rw [e3]; exact chg3 _ _ _ _ _
    have kB3 := (kB.call hb).chg hc (by omega)
    have kR3 := (kR.call hb).chg hc (by have := SZ.out; omega)
    have gW3 := gW.trans ((hb.mono hs1).trans (hc.below (B := W.heap.size) (by omega) (by omega)))
    have h16' := (ho1.chg hc (by omega)).rd
    have H16 := Lib.hid h16'
    have s3 := hc.size
    clear ho1 h16' kG hb hc d167 i16 i17 hg
    go_wp2
    rw [← e3]
    clear e3 frG r0 r1 r2 hbs
    have gs3 := gW3.size
    have hbm3 : bm < W3.heap.size := by omega
    have z0'' := bcell gW3 hbm2 z0'
    have z1'' := bcell gW3 hbm2 z1'
    have z2'' := bcell gW3 hbm2 z2'
    refine wp_region_net2 (by kernel_rfl) [.eq (.pointer (some ⟨w0.heap.size, 0, none⟩)), .eq (.int .i64 y.p), .eq (.int .i64 v2), .eq (.pointer (some ⟨w0.heap.size, 5, none⟩)), .eq (.slice (some ⟨bm, om, none⟩) 2 uh), .eq (.pointer (some ⟨bm, om + 3, none⟩)), .eq (.agg #[.int .i64 R, .int .i64 C, .slice A1 LB c1]), .rel (fun x w => ∃ s n c', x.v 7 = .tuple #[.agg #[.int .i64 (R : Int), .int .i64 C, .slice s n c'], .bool true] ∧ MxO w (x.lo 7) (x.hi 7) (.agg #[.int .i64 (R : Int), .int .i64 C, .slice s n c']) (mxF R C (scM y.p v2 fb))), .rel (fun x w => ∃ s n c', x.v 8 = .tuple #[.agg #[.int .i64 (R : Int), .int .i64 C, .slice s n c'], .bool true] ∧ MxO w (x.lo 7) (x.hi 7) (.agg #[.int .i64 (R : Int), .int .i64 C, .slice s n c']) (mxF R C (scM y.p v2 fb))), .rel (fun x w => ∃ s n c', x.v 9 = .agg #[.int .i64 (R : Int), .int .i64 C, .slice s n c'] ∧ MxO w (x.lo 7) (x.hi 7) (.agg #[.int .i64 (R : Int), .int .i64 C, .slice s n c']) (mxF R C (scM y.p v2 fb))), .eq (.bool true), rel 11 (fun u lo hi w => ∃ g, u = .pointer (some ⟨g, 0, none⟩) ∧ (lo ≤ g ∧ g < hi) ∧ Blk w g 60 #[.int .i64 0, .int .i64 0, .slice none 0 0])] [[], [0], [], [], [3], [3, 4], [3, 4, 5], [0, 1, 2, 3, 4, 5, 6], [0, 1, 2, 3, 4, 5, 6, 7], [0, 1, 2, 3, 4, 5, 6, 7, 8], [0, 1, 2, 3, 4, 5, 6, 7, 8], [], [0, 1, 2, 3, 4, 5, 6, 7, 8, 9, 11], [0, 1, 2, 3, 4, 5, 6, 7, 8, 9, 10, 11, 12]] 12 10 [0, 1, 2, 3, 4, 5, 6, 7, 8, 9, 11] (by kernel_rfl) rfl ⟨trivial, trivial, trivial, trivial, trivial, trivial, trivial, fun x w w' ⟨s, n, c', e1, h1⟩ hb => ⟨s, n, c', e1, h1.below hb⟩, fun x w w' ⟨s, n, c', e1, h1⟩ hb => ⟨s, n, c', e1, h1.below hb⟩, fun x w w' ⟨s, n, c', e1, h1⟩ hb => ⟨s, n, c', e1, h1.below hb⟩, trivial, rel_stable (fun u lo hi w w' ⟨g, e, h1, h⟩ hb => ⟨g, e, h1, h.call hb⟩), trivial⟩ ⟨?_, ?_, ?_, ?_, ?_, ?_, ?_, ?_, ?_, ?_, ?_, ?_, trivial⟩ ?_ ?_
    · intro x w hb hk Q' hQ
      clear hk
      simp only [netAct, dstAt, List.getElem?_toArray, List.getElem?_cons_zero, List.getElem?_cons_succ, Option.bind_some, Act.put, List.setIfInBounds_toArray, List.set_cons_zero, List.set_cons_succ] at hQ ⊢
      go_wp2
      exact hQ (.pointer (some ⟨w0.heap.size, 0, none⟩)) _ (Below.refl _ _) rfl
    · intro x w hb hk Q' hQ
      have h0 : x.v 0 = .pointer (some ⟨w0.heap.size, 0, none⟩) := (hk 0 (by decide)).1
      clear hk
      simp only [netAct, dstAt, List.getElem?_toArray, List.getElem?_cons_zero, List.getElem?_cons_succ, Option.bind_some, Act.put, List.setIfInBounds_toArray, List.set_cons_zero, List.set_cons_succ] at hQ ⊢
      simp only [h0] at hQ ⊢
      clear h0
      have q0 := (kB3.call hb).cell' (i := 0) rfl
      go_wp2
      exact hQ (.int .i64 y.p) _ (Below.refl _ _) rfl
    · intro x w hb hk Q' hQ
      clear hk
      simp only [netAct, dstAt, List.getElem?_toArray, List.getElem?_cons_zero, List.getElem?_cons_succ, Option.bind_some, Act.put, List.setIfInBounds_toArray, List.set_cons_zero, List.set_cons_succ] at hQ ⊢
      go_wp2
      exact hQ (.int .i64 v2) _ (Below.refl _ _) rfl
    · intro x w hb hk Q' hQ
      clear hk
      simp only [netAct, dstAt, List.getElem?_toArray, List.getElem?_cons_zero, List.getElem?_cons_succ, Option.bind_some, Act.put, List.setIfInBounds_toArray, List.set_cons_zero, List.set_cons_succ] at hQ ⊢
      go_wp2
      exact hQ (.pointer (some ⟨w0.heap.size, 5, none⟩)) _ (Below.refl _ _) rfl
    · intro x w hb hk Q' hQ
      have h3 : x.v 3 = .pointer (some ⟨w0.heap.size, 5, none⟩) := (hk 3 (by decide)).1
      clear hk
      simp only [netAct, dstAt, List.getElem?_toArray, List.getElem?_cons_zero, List.getElem?_cons_succ, Option.bind_some, Act.put, List.setIfInBounds_toArray, List.set_cons_zero, List.set_cons_succ] at hQ ⊢
      simp only [h3] at hQ ⊢
      clear h3
      have q0 := (kB3.call hb).cell' (i := 5) rfl
      go_wp2
      exact hQ (.slice (some ⟨bm, om, none⟩) 2 uh) _ (Below.refl _ _) rfl
    · intro x w hb hk Q' hQ
      have h4 : x.v 4 = .slice (some ⟨bm, om, none⟩) 2 uh := (hk 4 (by decide)).1
      clear hk
      simp only [netAct, dstAt, List.getElem?_toArray, List.getElem?_cons_zero, List.getElem?_cons_succ, Option.bind_some, Act.put, List.setIfInBounds_toArray, List.set_cons_zero, List.set_cons_succ] at hQ ⊢
      simp only [h4] at hQ ⊢
      clear h4
      go_wp2
      exact hQ (.pointer (some ⟨bm, om + 3, none⟩)) _ (Below.refl _ _) rfl
    · intro x w hb hk Q' hQ
      have h5 : x.v 5 = .pointer (some ⟨bm, om + 3, none⟩) := (hk 5 (by decide)).1
      clear hk
      simp only [netAct, dstAt, List.getElem?_toArray, List.getElem?_cons_zero, List.getElem?_cons_succ, Option.bind_some, Act.put, List.setIfInBounds_toArray, List.set_cons_zero, List.set_cons_succ] at hQ ⊢
      simp only [h5] at hQ ⊢
      clear h5
      have q0 := bcell hb hbm3 z0''
      have q1 := bcell hb hbm3 z1''
      have q2 := bcell hb hbm3 z2''
      go_wp2
      exact hQ (.agg #[.int .i64 R, .int .i64 C, .slice A1 LB c1]) _ (Below.refl _ _) rfl
    · intro x w hb hk Q' hQ
      have h0 : x.v 0 = .pointer (some ⟨w0.heap.size, 0, none⟩) := (hk 0 (by decide)).1
      have h1 : x.v 1 = .int .i64 y.p := (hk 1 (by decide)).1
      have h2 : x.v 2 = .int .i64 v2 := (hk 2 (by decide)).1
      have h3 : x.v 3 = .pointer (some ⟨w0.heap.size, 5, none⟩) := (hk 3 (by decide)).1
      have h4 : x.v 4 = .slice (some ⟨bm, om, none⟩) 2 uh := (hk 4 (by decide)).1
      have h5 : x.v 5 = .pointer (some ⟨bm, om + 3, none⟩) := (hk 5 (by decide)).1
      have h6 : x.v 6 = .agg #[.int .i64 R, .int .i64 C, .slice A1 LB c1] := (hk 6 (by decide)).1
      clear hk
      simp only [netAct, dstAt, List.getElem?_toArray, List.getElem?_cons_zero, List.getElem?_cons_succ, Option.bind_some, Act.put, List.setIfInBounds_toArray, List.set_cons_zero, List.set_cons_succ] at hQ ⊢
      simp only [h0, h1, h2, h3, h4, h5, h6] at hQ ⊢
      clear h0 h1 h2 h3 h4 h5 h6
      have hm3 := MxR.more (show W.heap.size ≤ w.heap.size by have := hb.size; omega) (MxR.below (gW3.trans (hb.mono gs3)) HM1.out)
      have HM3 := Lib.hid hm3
      clear hm3
      go_wp2_with fail
      refine (scaleMatrix_any y.p v2 _ R C fb _ hv2 HM3.out (isMat_mxF HP.out (by omega) (by omega) HFB.out)).mono ?_; rintro e w5 ⟨v5, rfl, hO5, hb5⟩
      have HO5 := Lib.hid hO5
      obtain ⟨A5, c5, e5⟩ := hO5.form
      have e5' : v5 = .agg #[.int .i64 (R : Int), .int .i64 C, .slice A5 (mxF R C (scM y.p v2 fb)).a.length c5] := e5
      obtain ⟨n5, hn5⟩ : ∃ n, (mxF R C (scM y.p v2 fb)).a.length = n := ⟨_, rfl⟩
      rw [hn5] at e5'
      subst e5'
      clear hO5 e5 hn5
      go_wp2
      exact hQ _ _ hb5 ⟨_, _, _, rfl, HO5.out⟩
    · intro x w hb hk Q' hQ
      have h0 : x.v 0 = .pointer (some ⟨w0.heap.size, 0, none⟩) := (hk 0 (by decide)).1
      have h1 : x.v 1 = .int .i64 y.p := (hk 1 (by decide)).1
      have h2 : x.v 2 = .int .i64 v2 := (hk 2 (by decide)).1
      have h3 : x.v 3 = .pointer (some ⟨w0.heap.size, 5, none⟩) := (hk 3 (by decide)).1
      have h4 : x.v 4 = .slice (some ⟨bm, om, none⟩) 2 uh := (hk 4 (by decide)).1
      have h5 : x.v 5 = .pointer (some ⟨bm, om + 3, none⟩) := (hk 5 (by decide)).1
      have h6 : x.v 6 = .agg #[.int .i64 R, .int .i64 C, .slice A1 LB c1] := (hk 6 (by decide)).1
      have h7 : ∃ s n c', x.v 7 = .tuple #[.agg #[.int .i64 (R : Int), .int .i64 C, .slice s n c'], .bool true] ∧ MxO w (x.lo 7) (x.hi 7) (.agg #[.int .i64 (R : Int), .int .i64 C, .slice s n c']) (mxF R C (scM y.p v2 fb)) := (hk 7 (by decide)).1
      have s7 := (hk 7 (by decide)).2
      clear hk
      simp only [netAct, dstAt, List.getElem?_toArray, List.getElem?_cons_zero, List.getElem?_cons_succ, Option.bind_some, Act.put, List.setIfInBounds_toArray, List.set_cons_zero, List.set_cons_succ] at hQ ⊢
      simp only [h0, h1, h2, h3, h4, h5, h6] at hQ ⊢
      clear h0 h1 h2 h3 h4 h5 h6
      obtain ⟨s, n, c', e1, ho⟩ := h7
      have hQ' := hQ (.tuple #[.agg #[.int .i64 (R : Int), .int .i64 C, .slice s n c'], .bool true]) w (Below.refl _ _) ⟨s, n, c', rfl, ho⟩
      rw [e1] at hQ' ⊢
      go_wp2
      exact hQ'
    · intro x w hb hk Q' hQ
      have h0 : x.v 0 = .pointer (some ⟨w0.heap.size, 0, none⟩) := (hk 0 (by decide)).1
      have h1 : x.v 1 = .int .i64 y.p := (hk 1 (by decide)).1
      have h2 : x.v 2 = .int .i64 v2 := (hk 2 (by decide)).1
      have h3 : x.v 3 = .pointer (some ⟨w0.heap.size, 5, none⟩) := (hk 3 (by decide)).1
      have h4 : x.v 4 = .slice (some ⟨bm, om, none⟩) 2 uh := (hk 4 (by decide)).1
      have h5 : x.v 5 = .pointer (some ⟨bm, om + 3, none⟩) := (hk 5 (by decide)).1
      have h6 : x.v 6 = .agg #[.int .i64 R, .int .i64 C, .slice A1 LB c1] := (hk 6 (by decide)).1
      have h7 : ∃ s n c', x.v 7 = .tuple #[.agg #[.int .i64 (R : Int), .int .i64 C, .slice s n c'], .bool true] ∧ MxO w (x.lo 7) (x.hi 7) (.agg #[.int .i64 (R : Int), .int .i64 C, .slice s n c']) (mxF R C (scM y.p v2 fb)) := (hk 7 (by decide)).1
      have h8 : ∃ s n c', x.v 8 = .tuple #[.agg #[.int .i64 (R : Int), .int .i64 C, .slice s n c'], .bool true] ∧ MxO w (x.lo 7) (x.hi 7) (.agg #[.int .i64 (R : Int), .int .i64 C, .slice s n c']) (mxF R C (scM y.p v2 fb)) := (hk 8 (by decide)).1
      have s7 := (hk 7 (by decide)).2
      have s8 := (hk 8 (by decide)).2
      clear hk
      simp only [netAct, dstAt, List.getElem?_toArray, List.getElem?_cons_zero, List.getElem?_cons_succ, Option.bind_some, Act.put, List.setIfInBounds_toArray, List.set_cons_zero, List.set_cons_succ] at hQ ⊢
      simp only [h0, h1, h2, h3, h4, h5, h6] at hQ ⊢
      clear h0 h1 h2 h3 h4 h5 h6
      obtain ⟨s, n, c', e1, ho⟩ := h8
      have hQ' := hQ (.agg #[.int .i64 (R : Int), .int .i64 C, .slice s n c']) w (Below.refl _ _) ⟨s, n, c', rfl, ho⟩
      rw [e1] at hQ' ⊢
      go_wp2
      exact hQ'
    · intro x w hb hk Q' hQ
      have h8 : ∃ s n c', x.v 8 = .tuple #[.agg #[.int .i64 (R : Int), .int .i64 C, .slice s n c'], .bool true] ∧ MxO w (x.lo 7) (x.hi 7) (.agg #[.int .i64 (R : Int), .int .i64 C, .slice s n c']) (mxF R C (scM y.p v2 fb)) := (hk 8 (by decide)).1
      clear hk
      simp only [netAct, dstAt, List.getElem?_toArray, List.getElem?_cons_zero, List.getElem?_cons_succ, Option.bind_some, Act.put, List.setIfInBounds_toArray, List.set_cons_zero, List.set_cons_succ] at hQ ⊢
      obtain ⟨s, n, c', e1, ho⟩ := h8
      rw [e1] at hQ ⊢
      go_wp2
      exact hQ (.bool true) _ (Below.refl _ _) rfl
    · intro x w hb hk Q' hQ
      clear hk
      simp only [netAct, dstAt, List.getElem?_toArray, List.getElem?_cons_zero, List.getElem?_cons_succ, Option.bind_some, Act.put, List.setIfInBounds_toArray, List.set_cons_zero, List.set_cons_succ] at hQ ⊢
      go_wp2
      exact hQ _ _ (below_alloc _ _) ⟨_, rfl, ⟨Nat.le_refl _, by show w.heap.size < (w.alloc _).heap.size; simp⟩, Blk.new _ _ _⟩
    · intro x w hb hk hiv hdj
      have h0 : x.v 0 = .pointer (some ⟨w0.heap.size, 0, none⟩) := hk 0 (by decide)
      have h1 : x.v 1 = .int .i64 y.p := hk 1 (by decide)
      have h2 : x.v 2 = .int .i64 v2 := hk 2 (by decide)
      have h3 : x.v 3 = .pointer (some ⟨w0.heap.size, 5, none⟩) := hk 3 (by decide)
      have h4 : x.v 4 = .slice (some ⟨bm, om, none⟩) 2 uh := hk 4 (by decide)
      have h5 : x.v 5 = .pointer (some ⟨bm, om + 3, none⟩) := hk 5 (by decide)
      have h6 : x.v 6 = .agg #[.int .i64 R, .int .i64 C, .slice A1 LB c1] := hk 6 (by decide)
      have h7 : ∃ s n c', x.v 7 = .tuple #[.agg #[.int .i64 (R : Int), .int .i64 C, .slice s n c'], .bool true] ∧ MxO w (x.lo 7) (x.hi 7) (.agg #[.int .i64 (R : Int), .int .i64 C, .slice s n c']) (mxF R C (scM y.p v2 fb)) := hk 7 (by decide)
      have h8 : ∃ s n c', x.v 8 = .tuple #[.agg #[.int .i64 (R : Int), .int .i64 C, .slice s n c'], .bool true] ∧ MxO w (x.lo 7) (x.hi 7) (.agg #[.int .i64 (R : Int), .int .i64 C, .slice s n c']) (mxF R C (scM y.p v2 fb)) := hk 8 (by decide)
      have h9 : ∃ s n c', x.v 9 = .agg #[.int .i64 (R : Int), .int .i64 C, .slice s n c'] ∧ MxO w (x.lo 7) (x.hi 7) (.agg #[.int .i64 (R : Int), .int .i64 C, .slice s n c']) (mxF R C (scM y.p v2 fb)) := hk 9 (by decide)
      have h10 : x.v 10 = .bool true := hk 10 (by decide)
      have h11 : ∃ g, (x.v 11) = .pointer (some ⟨g, 0, none⟩) ∧ ((x.lo 11) ≤ g ∧ g < (x.hi 11)) ∧ Blk w g 60 #[.int .i64 0, .int .i64 0, .slice none 0 0] := hk 11 (by decide)
      clear hk
      simp only [netAct, dstAt, List.getElem?_toArray, List.getElem?_cons_zero, List.getElem?_cons_succ, Option.bind_some, Act.put, List.setIfInBounds_toArray, List.set_cons_zero, List.set_cons_succ]
      simp only [List.drop_succ_cons, List.drop_zero, h0, h1, h2, h3, h4, h5, h6, h10]
      clear h0 h1 h2 h3 h4 h5 h6 h10
      obtain ⟨gB, e11, hg2, kG2⟩ := h11
      obtain ⟨s2, n2, c2, e9, ho2⟩ := h9
      obtain ⟨s2', n2', c2', e8, _⟩ := h8
      rw [e9, e11, e8]
      have i7 := hiv 7 (by decide)
      have i11 := hiv 11 (by decide)
      have d7 := hdj 7 11 (by decide) (by decide) (by decide)
      clear hiv hdj e9 e11 e8 h7
      have frG := kG2.frozen
      have r0 := kG2.cell' (i := 0) rfl
      have r1 := kG2.cell' (i := 1) rfl
      have r2 := kG2.cell' (i := 2) rfl
      have hbs := hb.size
      obtain ⟨W5, e5⟩ : ∃ u, u = (((w.setCell ⟨gB, 0, none⟩ (.int .i64 R)).setCell ⟨gB, 1, none⟩ (.int .i64 C)).setCell ⟨gB, 2, none⟩ (.slice s2 n2 c2)) := ⟨_, rfl⟩
      have kGB : Blk W5 gB 60 #[.int .i64 R, .int .i64 C, .slice s2 n2 c2] := by rw [e5]; exact (((kG2.set_ 0 _).set_ 1 _).set_ 2 _)
      have hc : Chg gB (gB + 1) w W5 := by rw [e5]; exact chg3 _ _ _ _ _
      have kB5 := (kB3.call hb).chg hc (by omega)
      have kR5 := (kR3.call hb).chg hc (by have := SZ.out; omega)
      have kGA := (kG3.call hb).chg hc (by have := kG3.lt; omega)
      have gW5 := gW3.trans ((hb.mono gs3).trans (hc.below (B := W.heap.size) (by omega) (by omega)))
      have h2' := (ho2.chg hc (by omega)).rd
      have HB5 := Lib.hid h2'
      have HA5 := Lib.hid (MxR.more (show W3.heap.size ≤ W5.heap.size by have := hc.size; omega) (MxR.below (hb.trans (hc.below (B := W3.heap.size) (by omega) (by omega))) H16.out))
      clear ho2 h2' kG2 hb hc d7 i7 i11 hg2 kB3 kR3 kG3
      have p0 := kB5.cell' (i := 0) rfl
      have a0 := kGA.cell' (i := 0) rfl
      have a1 := kGA.cell' (i := 1) rfl
      have a2 := kGA.cell' (i := 2) rfl
      have b0 := kGB.cell' (i := 0) rfl
      have b1 := kGB.cell' (i := 1) rfl
      have b2 := kGB.cell' (i := 2) rfl
      have t0 := p0
      have t1 := a0
      have t2 := a1
      have t3 := a2
      have t4 := b0
      have t5 := b1
      have t6 := b2
      rw [e5] at t0 t1 t2 t3 t4 t5 t6
      go_wp2_with fail
      rw [← e5]
      clear e5 frG r0 r1 r2 hbs t0 t1 t2 t3 t4 t5 t6 p0 a0 a1 a2 b0 b1 b2
      refine (addMatrices_any y.p _ _ R C (scM y.p v1 fa) (scM y.p v2 fb) W5 HA5.out HB5.out (isMat_mxF HP.out (by omega) (by omega) (fun i j _ _ => scM_rng hpr i j)) (isMat_mxF HP.out (by omega) (by omega) (fun i j _ _ => scM_rng hpr i j))).mono ?_; rintro e w6 ⟨v6, rfl, ho6, hb6⟩
      obtain ⟨PM, hPM⟩ : ∃ M, M = mxF R C (adM y.p (scM y.p v1 fa) (scM y.p v2 fb)) := ⟨_, rfl⟩
      have HFF := Lib.hid (show pAtP y v1 v2 = (PM, true) by rw [hPM]; exact HPM.out)
      rw [← hPM] at ho6
      clear hPM
      obtain ⟨A7, c7, e7⟩ := ho6.form
      subst e7
      obtain ⟨N, hN⟩ : ∃ N, PM.a.length = N := ⟨_, rfl⟩
      rw [hN] at ho6 ⊢
      obtain ⟨W7, e7⟩ : ∃ u, u = w6.alloc (.cells #[.int .i64 PM.r, .int .i64 PM.c, .slice A7 N c7] 60) := ⟨_, rfl⟩
      have hb7 : Below w6.heap.size w6 W7 := by rw [e7]; exact below_alloc _ _
      have kX := (kR5.call hb6).call hb7
      have oX := ho6.below hb7
      have q0 := kX.cell' (i := 0) rfl
      have q1 := kX.cell' (i := 1) rfl
      have q2 := kX.cell' (i := 2) rfl
      have fr := kX.frozen
      have sz := SZ.out
      have s5 := gW5.size
      have s6 := hb6.size
      have s7 := hb7.size
      have gX := (GW0.out).trans (((gW5.mono (by omega)).trans (hb6.mono (by omega))).trans (hb7.mono (by omega)))
      have gXs := gX.size
      have h2 := chg3 W7 (w0.heap.size + 1) (.int .i64 PM.r) (.int .i64 PM.c) (.slice A7 N c7)
      have OF := Lib.hid ((oX.chg h2 (.inr (by omega))).wider (lo' := w0.heap.size) (hi' := W7.heap.size) (by omega) (by omega))
      have GF := Lib.hid (gX.trans (h2.below (by omega) gXs))
      clear ho6 oX h2 gX kX hN sz gXs hb6 hb7 s5 s6 s7 gW5 kB5 kR5 kGA kGB
      rw [e7] at q0 q1 q2 fr
      go_wp2
      rw [← e7]
      rw [← e7] at q0 q1 q2
      exact bodyPost_ret (v := .tuple #[.agg #[.int .i64 PM.r, .int .i64 PM.c, .slice A7 N c7], .bool true]) (by simp [results, go_sem, q0, q1, q2]) rfl ⟨_, by rw [HFF.out], by rw [HFF.out]; exact OF.out.wider (Nat.le_refl _) (by simp), GF.out⟩
    · intro x w hb hk hiv hdj om os hom hos
      simp only [List.getElem?_cons_zero, List.getElem?_cons_succ, Option.some.injEq] at hom hos
      subst hom hos
      have h0 : x.v 0 = .pointer (some ⟨w0.heap.size, 0, none⟩) := hk 0 (by decide)
      have h1 : x.v 1 = .int .i64 y.p := hk 1 (by decide)
      have h2 : x.v 2 = .int .i64 v2 := hk 2 (by decide)
      have h3 : x.v 3 = .pointer (some ⟨w0.heap.size, 5, none⟩) := hk 3 (by decide)
      have h4 : x.v 4 = .slice (some ⟨bm, om, none⟩) 2 uh := hk 4 (by decide)
      have h5 : x.v 5 = .pointer (some ⟨bm, om + 3, none⟩) := hk 5 (by decide)
      have h6 : x.v 6 = .agg #[.int .i64 R, .int .i64 C, .slice A1 LB c1] := hk 6 (by decide)
      have h7 : ∃ s n c', x.v 7 = .tuple #[.agg #[.int .i64 (R : Int), .int .i64 C, .slice s n c'], .bool true] ∧ MxO w (x.lo 7) (x.hi 7) (.agg #[.int .i64 (R : Int), .int .i64 C, .slice s n c']) (mxF R C (scM y.p v2 fb)) := hk 7 (by decide)
      have h8 : ∃ s n c', x.v 8 = .tuple #[.agg #[.int .i64 (R : Int), .int .i64 C, .slice s n c'], .bool true] ∧ MxO w (x.lo 7) (x.hi 7) (.agg #[.int .i64 (R : Int), .int .i64 C, .slice s n c']) (mxF R C (scM y.p v2 fb)) := hk 8 (by decide)
      have h9 : ∃ s n c', x.v 9 = .agg #[.int .i64 (R : Int), .int .i64 C, .slice s n c'] ∧ MxO w (x.lo 7) (x.hi 7) (.agg #[.int .i64 (R : Int), .int .i64 C, .slice s n c']) (mxF R C (scM y.p v2 fb)) := hk 9 (by decide)
      have h11 : ∃ g, (x.v 11) = .pointer (some ⟨g, 0, none⟩) ∧ ((x.lo 11) ≤ g ∧ g < (x.hi 11)) ∧ Blk w g 60 #[.int .i64 0, .int .i64 0, .slice none 0 0] := hk 11 (by decide)
      clear hk
      simp only [List.foldl_cons, List.foldl_nil, netAct, dstAt, List.getElem?_toArray, List.getElem?_cons_zero, List.getElem?_cons_succ, Option.bind_some, Act.put, List.setIfInBounds_toArray, List.set_cons_zero, List.set_cons_succ]
      simp only [List.drop_succ_cons, List.drop_zero, h0, h1, h2, h3, h4, h5, h6]
      clear h0 h1 h2 h3 h4 h5 h6
      obtain ⟨gB, e11, hg2, kG2⟩ := h11
      obtain ⟨s2, n2, c2, e9, ho2⟩ := h9
      obtain ⟨s2', n2', c2', e8, _⟩ := h8
      rw [e9, e11, e8]
      have i7 := hiv 7 (by decide)
      have i11 := hiv 11 (by decide)
      have d7 := hdj 7 11 (by decide) (by decide) (by decide)
      clear hiv hdj e9 e11 e8 h7
      have frG := kG2.frozen
      have r0 := kG2.cell' (i := 0) rfl
      have r1 := kG2.cell' (i := 1) rfl
      have r2 := kG2.cell' (i := 2) rfl
      have hbs := hb.size
      obtain ⟨W5, e5⟩ : ∃ u, u = (((w.setCell ⟨gB, 0, none⟩ (.int .i64 R)).setCell ⟨gB, 1, none⟩ (.int .i64 C)).setCell ⟨gB, 2, none⟩ (.slice s2 n2 c2)) := ⟨_, rfl⟩
      have kGB : Blk W5 gB 60 #[.int .i64 R, .int .i64 C, .slice s2 n2 c2] := by rw [e5]; exact (((kG2.set_ 0 _).set_ 1 _).set_ 2 _)
      have hc : Chg gB (gB + 1) w W5 := by rw [e5]; exact chg3 _ _ _ _ _
      have kB5 := (kB3.call hb).chg hc (by omega)
      have kR5 := (kR3.call hb).chg hc (by have := SZ.out; omega)
      have kGA := (kG3.call hb).chg hc (by have := kG3.lt; omega)
      have gW5 := gW3.trans ((hb.mono gs3).trans (hc.below (B := W.heap.size) (by omega) (by omega)))
      have h2' := (ho2.chg hc (by omega)).rd
      have HB5 := Lib.hid h2'
      have HA5 := Lib.hid (MxR.more (show W3.heap.size ≤ W5.heap.size by have := hc.size; omega) (MxR.below (hb.trans (hc.below (B := W3.heap.size) (by omega) (by omega))) H16.out))
      clear ho2 h2' kG2 hb hc d7 i7 i11 hg2 kB3 kR3 kG3
      have p0 := kB5.cell' (i := 0) rfl
      have a0 := kGA.cell' (i := 0) rfl
      have a1 := kGA.cell' (i := 1) rfl
      have a2 := kGA.cell' (i := 2) rfl
      have b0 := kGB.cell' (i := 0) rfl
      have b1 := kGB.cell' (i := 1) rfl
      have b2 := kGB.cell' (i := 2) rfl
      have t0 := p0
      have t1 := a0
      have t2 := a1
      have t3 := a2
      have t4 := b0
      have t5 := b1
      have t6 := b2
      rw [e5] at t0 t1 t2 t3 t4 t5 t6
      go_wp2_with fail
      rw [← e5]
      clear e5 frG r0 r1 r2 hbs t0 t1 t2 t3 t4 t5 t6 p0 a0 a1 a2 b0 b1 b2
      refine (addMatrices_any y.p _ _ R C (scM y.p v1 fa) (scM y.p v2 fb) W5 HA5.out HB5.out (isMat_mxF HP.out (by omega) (by omega) (fun i j _ _ => scM_rng hpr i j)) (isMat_mxF HP.out (by omega) (by omega) (fun i j _ _ => scM_rng hpr i j))).mono ?_; rintro e w6 ⟨v6, rfl, ho6, hb6⟩
      obtain ⟨PM, hPM⟩ : ∃ M, M = mxF R C (adM y.p (scM y.p v1 fa) (scM y.p v2 fb)) := ⟨_, rfl⟩
      have HFF := Lib.hid (show pAtP y v1 v2 = (PM, true) by rw [hPM]; exact HPM.out)
      rw [← hPM] at ho6
      clear hPM
      obtain ⟨A7, c7, e7⟩ := ho6.form
      subst e7
      obtain ⟨N, hN⟩ : ∃ N, PM.a.length = N := ⟨_, rfl⟩
      rw [hN] at ho6 ⊢
      obtain ⟨W7, e7⟩ : ∃ u, u = w6.alloc (.cells #[.int .i64 PM.r, .int .i64 PM.c, .slice A7 N c7] 60) := ⟨_, rfl⟩
      have hb7 : Below w6.heap.size w6 W7 := by rw [e7]; exact below_alloc _ _
      have kX := (kR5.call hb6).call hb7
      have oX := ho6.below hb7
      have q0 := kX.cell' (i := 0) rfl
      have q1 := kX.cell' (i := 1) rfl
      have q2 := kX.cell' (i := 2) rfl
      have fr := kX.frozen
      have sz := SZ.out
      have s5 := gW5.size
      have s6 := hb6.size
      have s7 := hb7.size
      have gX := (GW0.out).trans (((gW5.mono (by omega)).trans (hb6.mono (by omega))).trans (hb7.mono (by omega)))
      have gXs := gX.size
      have h2 := chg3 W7 (w0.heap.size + 1) (.int .i64 PM.r) (.int .i64 PM.c) (.slice A7 N c7)
      have OF := Lib.hid ((oX.chg h2 (.inr (by omega))).wider (lo' := w0.heap.size) (hi' := W7.heap.size) (by omega) (by omega))
      have GF := Lib.hid (gX.trans (h2.below (by omega) gXs))
      clear ho6 oX h2 gX kX hN sz gXs hb6 hb7 s5 s6 s7 gW5 kB5 kR5 kGA kGB
      rw [e7] at q0 q1 q2 fr
      go_wp2
      rw [← e7]
      rw [← e7] at q0 q1 q2
      exact bodyPost_ret (v := .tuple #[.agg #[.int .i64 PM.r, .int .i64 PM.c, .slice A7 N c7], .bool true]) (by simp [results, go_sem, q0, q1, q2]) rfl ⟨_, by rw [HFF.out], by rw [HFF.out]; exact OF.out.wider (Nat.le_refl _) (by simp), GF.out⟩
  · intro x w hb hk hiv hdj om os hom hos
    simp only [List.getElem?_cons_zero, List.getElem?_cons_succ, Option.some.injEq] at hom hos
    subst hom hos
    have h0 : x.v 0 = .pointer (some ⟨w0.heap.size, 0, none⟩) := hk 0 (by decide)
    have h1 : x.v 1 = .int .i64 y.p := hk 1 (by decide)
    have h2 : x.v 2 = .int .i64 v1 := hk 2 (by decide)
    have h3 : x.v 3 = .pointer (some ⟨w0.heap.size, 5, none⟩) := hk 3 (by decide)
    have h4 : x.v 4 = .slice (some ⟨bm, om, none⟩) 2 uh := hk 4 (by decide)
    have h5 : x.v 5 = .pointer (some ⟨bm, om, none⟩) := hk 5 (by decide)
    have h6 : x.v 6 = .agg #[.int .i64 R, .int .i64 C, .slice A0 LA c0] := hk 6 (by decide)
    have h7 : ∃ s n c', x.v 7 = .tuple #[.agg #[.int .i64 (R : Int), .int .i64 C, .slice s n c'], .bool true] ∧ MxO w (x.lo 7) (x.hi 7) (.agg #[.int .i64 (R : Int), .int .i64 C, .slice s n c']) (mxF R C (scM y.p v1 fa)) := hk 7 (by decide)
    have h8 : ∃ s n c', x.v 8 = .tuple #[.agg #[.int .i64 (R : Int), .int .i64 C, .slice s n c'], .bool true] ∧ MxO w (x.lo 7) (x.hi 7) (.agg #[.int .i64 (R : Int), .int .i64 C, .slice s n c']) (mxF R C (scM y.p v1 fa)) := hk 8 (by decide)
    have h9 : ∃ s n c', x.v 9 = .agg #[.int .i64 (R : Int), .int .i64 C, .slice s n c'] ∧ MxO w (x.lo 7) (x.hi 7) (.agg #[.int .i64 (R : Int), .int .i64 C, .slice s n c']) (mxF R C (scM y.p v1 fa)) := hk 9 (by decide)
    have h11 : ∃ g, (x.v 11) = .pointer (some ⟨g, 0, none⟩) ∧ ((x.lo 11) ≤ g ∧ g < (x.hi 11)) ∧ Blk w g 60 #[.int .i64 0, .int .i64 0, .slice none 0 0] := hk 11 (by decide)
    clear hk
    simp only [List.foldl_cons, List.foldl_nil, netAct, dstAt, List.getElem?_toArray, List.getElem?_cons_zero, List.getElem?_cons_succ, Option.bind_some, Act.put, List.setIfInBounds_toArray, List.set_cons_zero, List.set_cons_succ]
    simp only [List.drop_succ_cons, List.drop_zero, h0, h1, h2, h3, h4, h5, h6]
    clear h0 h1 h2 h3 h4 h5 h6
    obtain ⟨gR, e17, hg, kG⟩ := h11
    obtain ⟨s1, n1, c1', e9, ho1⟩ := h9
    obtain ⟨s1', n1', c1'', e8, _⟩ := h8
    rw [e9, e17, e8]
    have i16 := hiv 7 (by decide)
    have i17 := hiv 11 (by decide)
    have d167 := hdj 7 11 (by decide) (by decide) (by decide)
    clear hiv hdj e9 e17 e8 h7
    have frG := kG.frozen
    have r0 := kG.cell' (i := 0) rfl
    have r1 := kG.cell' (i := 1) rfl
    have r2 := kG.cell' (i := 2) rfl
    have hbs := hb.size
    have hws0 := HWS.out
    obtain ⟨W3, e3⟩ : ∃ u, u = (((w.setCell ⟨gR, 0, none⟩ (.int .i64 R)).setCell ⟨gR, 1, none⟩ (.int .i64 C)).setCell ⟨gR, 2, none⟩ (.slice s1 n1 c1')) := ⟨_, rfl⟩
    have kG3 : Blk W3 gR 60 #[.int .i64 R, .int .i64 C, .slice s1 n1 c1'] := by rw [e3]; exact (((kG.set_ 0 _).set_ 1 _).set_ 2 _)
    have hc : Chg gR (gR + 1) w W3 := by rw [e3]; exact chg3 _ _ _ _ _
    have kB3 := (kB.call hb).chg hc (by omega)
    have kR3 := (kR.call hb).chg hc (by have := SZ.out; omega)
    have gW3 := gW.trans ((hb.mono hs1).trans (hc.below (B := W.heap.size) (by omega) (by omega)))
    have h16' := (ho1.chg hc (by omega)).rd
    have H16 := Lib.hid h16'
    have s3 := hc.size
    clear ho1 h16' kG hb hc d167 i16 i17 hg
    go_wp2
    rw [← e3]
    clear e3 frG r0 r1 r2 hbs
    have gs3 := gW3.size
    have hbm3 : bm < W3.heap.size := by omega
    have z0'' := bcell gW3 hbm2 z0'
    have z1'' := bcell gW3 hbm2 z1'
    have z2'' := bcell gW3 hbm2 z2'
    refine wp_region_net2 (by kernel_rfl) [.eq (.pointer (some ⟨w0.heap.size, 0, none⟩)), .eq (.int .i64 y.p), .eq (.int .i64 v2), .eq (.pointer (some ⟨w0.heap.size, 5, none⟩)), .eq (.slice (some ⟨bm, om, none⟩) 2 uh), .eq (.pointer (some ⟨bm, om + 3, none⟩)), .eq (.agg #[.int .i64 R, .int .i64 C, .slice A1 LB c1]), .rel (fun x w => ∃ s n c', x.v 7 = .tuple #[.agg #[.int .i64 (R : Int), .int .i64 C, .slice s n c'], .bool true] ∧ MxO w (x.lo 7) (x.hi 7) (.agg #[.int .i64 (R : Int), .int .i64 C, .slice s n c']) (mxF R C (scM y.p v2 fb))), .rel (fun x w => ∃ s n c', x.v 8 = .tuple #[.agg #[.int .i64 (R : Int), .int .i64 C, .slice s n c'], .bool true] ∧ MxO w (x.lo 7) (x.hi 7) (.agg #[.int .i64 (R : Int), .int .i64 C, .slice s n c']) (mxF R C (scM y.p v2 fb))), .rel (fun x w => ∃ s n c', x.v 9 = .agg #[.int .i64 (R : Int), .int .i64 C, .slice s n c'] ∧ MxO w (x.lo 7) (x.hi 7) (.agg #[.int .i64 (R : Int), .int .i64 C, .slice s n c']) (mxF R C (scM y.p v2 fb))), .eq (.bool true), rel 11 (fun u lo hi w => ∃ g, u = .pointer (some ⟨g, 0, none⟩) ∧ (lo ≤ g ∧ g < hi) ∧ Blk w g 60 #[.int .i64 0, .int .i64 0, .slice none 0 0])] [[], [0], [], [], [3], [3, 4], [3, 4, 5], [0, 1, 2, 3, 4, 5, 6], [0, 1, 2, 3, 4, 5, 6, 7], [0, 1, 2, 3, 4, 5, 6, 7, 8], [0, 1, 2, 3, 4, 5, 6, 7, 8], [], [0, 1, 2, 3, 4, 5, 6, 7, 8, 9, 11], [0, 1, 2, 3, 4, 5, 6, 7, 8, 9, 10, 11, 12]] 12 10 [0, 1, 2, 3, 4, 5, 6, 7, 8, 9, 11] (by kernel_rfl) rfl ⟨trivial, trivial, trivial, trivial, trivial, trivial, trivial, fun x w w' ⟨s, n, c', e1, h1⟩ hb => ⟨s, n, c', e1, h1.below hb⟩, fun x w w' ⟨s, n, c', e1, h1⟩ hb => ⟨s, n, c', e1, h1.below hb⟩, fun x w w' ⟨s, n, c', e1, h1⟩ hb => ⟨s, n, c', e1, h1.below hb⟩, trivial, rel_stable (fun u lo hi w w' ⟨g, e, h1, h⟩ hb => ⟨g, e, h1, h.call hb⟩), trivial⟩ ⟨?_, ?_, ?_, ?_, ?_, ?_, ?_, ?_, ?_, ?_, ?_, ?_, trivial⟩ ?_ ?_
    · intro x w hb hk Q' hQ
      clear hk
      simp only [netAct, dstAt, List.getElem?_toArray, List.getElem?_cons_zero, List.getElem?_cons_succ, Option.bind_some, Act.put, List.setIfInBounds_toArray, List.set_cons_zero, List.set_cons_succ] at hQ ⊢
      go_wp2
      exact hQ (.pointer (some ⟨w0.heap.size, 0, none⟩)) _ (Below.refl _ _) rfl
    · intro x w hb hk Q' hQ
      have h0 : x.v 0 = .pointer (some ⟨w0.heap.size, 0, none⟩) := (hk 0 (by decide)).1
      clear hk
      simp only [netAct, dstAt, List.getElem?_toArray, List.getElem?_cons_zero, List.getElem?_cons_succ, Option.bind_some, Act.put, List.setIfInBounds_toArray, List.set_cons_zero, List.set_cons_succ] at hQ ⊢
      simp only [h0] at hQ ⊢
      clear h0
      have q0 := (kB3.call hb).cell' (i := 0) rfl
      go_wp2
      exact hQ (.int .i64 y.p) _ (Below.refl _ _) rfl
    · intro x w hb hk Q' hQ
      clear hk
      simp only [netAct, dstAt, List.getElem?_toArray, List.getElem?_cons_zero, List.getElem?_cons_succ, Option.bind_some, Act.put, List.setIfInBounds_toArray, List.set_cons_zero, List.set_cons_succ] at hQ ⊢
      go_wp2
      exact hQ (.int .i64 v2) _ (Below.refl _ _) rfl
    · intro x w hb hk Q' hQ
      clear hk
      simp only [netAct, dstAt, List.getElem?_toArray, List.getElem?_cons_zero, List.getElem?_cons_succ, Option.bind_some, Act.put, List.setIfInBounds_toArray, List.set_cons_zero, List.set_cons_succ] at hQ ⊢
      go_wp2
      exact hQ (.pointer (some ⟨w0.heap.size, 5, none⟩)) _ (Below.refl _ _) rfl
    · intro x w hb hk Q' hQ
      have h3 : x.v 3 = .pointer (some ⟨w0.heap.size, 5, none⟩) := (hk 3 (by decide)).1
      clear hk
      simp only [netAct, dstAt, List.getElem?_toArray, List.getElem?_cons_zero, List.getElem?_cons_succ, Option.bind_some, Act.put, List.setIfInBounds_toArray, List.set_cons_zero, List.set_cons_succ] at hQ ⊢
      simp only [h3] at hQ ⊢
      clear h3
      have q0 := (kB3.call hb).cell' (i := 5) rfl
      go_wp2
      exact hQ (.slice (some ⟨bm, om, none⟩) 2 uh) _ (Below.refl _ _) rfl
    · intro x w hb hk Q' hQ
      have h4 : x.v 4 = .slice (some ⟨bm, om, none⟩) 2 uh := (hk 4 (by decide)).1
      clear hk
      simp only [netAct, dstAt, List.getElem?_toArray, List.getElem?_cons_zero, List.getElem?_cons_succ, Option.bind_some, Act.put, List.setIfInBounds_toArray, List.set_cons_zero, List.set_cons_succ] at hQ ⊢
      simp only [h4] at hQ ⊢
      clear h4
      go_wp2
      exact hQ (.pointer (some ⟨bm, om + 3, none⟩)) _ (Below.refl _ _) rfl
    · intro x w hb hk Q' hQ
      have h5 : x.v 5 = .pointer (some ⟨bm, om + 3, none⟩) := (hk 5 (by decide)).1
      clear hk
      simp only [netAct, dstAt, List.getElem?_toArray, List.getElem?_cons_zero, List.getElem?_cons_succ, Option.bind_some, Act.put, List.setIfInBounds_toArray, List.set_cons_zero, List.set_cons_succ] at hQ ⊢
      simp only [h5] at hQ ⊢
      clear h5
      have q0 := bcell hb hbm3 z0''
      have q1 := bcell hb hbm3 z1''
      have q2 := bcell hb hbm3 z2''
      go_wp2
      exact hQ (.agg #[.int .i64 R, .int .i64 C, .slice A1 LB c1]) _ (Below.refl _ _) rfl
    · intro x w hb hk Q' hQ
      have h0 : x.v 0 = .pointer (some ⟨w0.heap.size, 0, none⟩) := (hk 0 (by decide)).1
      have h1 : x.v 1 = .int .i64 y.p := (hk 1 (by decide)).1
      have h2 : x.v 2 = .int .i64 v2 := (hk 2 (by decide)).1
      have h3 : x.v 3 = .pointer (some ⟨w0.heap.size, 5, none⟩) := (hk 3 (by decide)).1
      have h4 : x.v 4 = .slice (some ⟨bm, om, none⟩) 2 uh := (hk 4 (by decide)).1
      have h5 : x.v 5 = .pointer (some ⟨bm, om + 3, none⟩) := (hk 5 (by decide)).1
      have h6 : x.v 6 = .agg #[.int .i64 R, .int .i64 C, .slice A1 LB c1] := (hk 6 (by decide)).1
      clear hk
      simp only [netAct, dstAt, List.getElem?_toArray, List.getElem?_cons_zero, List.getElem?_cons_succ, Option.bind_some, Act.put, List.setIfInBounds_toArray, List.set_cons_zero, List.set_cons_succ] at hQ ⊢
      simp only [h0, h1, h2, h3, h4, h5, h6] at hQ ⊢
      clear h0 h1 h2 h3 h4 h5 h6
      have hm3 := MxR.more (show W.heap.size ≤ w.heap.size by have := hb.size; omega) (MxR.below (gW3.trans (hb.mono gs3)) HM1.out)
      have HM3 := Lib.hid hm3
      clear hm3
      go_wp2_with fail
      refine (scaleMatrix_any y.p v2 _ R C fb _ hv2 HM3.out (isMat_mxF HP.out (by omega) (by omega) HFB.out)).mono ?_; rintro e w5 ⟨v5, rfl, hO5, hb5⟩
      have HO5 := Lib.hid hO5
      obtain ⟨A5, c5, e5⟩ := hO5.form
      have e5' : v5 = .agg #[.int .i64 (R : Int), .int .i64 C, .slice A5 (mxF R C (scM y.p v2 fb)).a.length c5] := e5
      obtain ⟨n5, hn5⟩ : ∃ n, (mxF R C (scM y.p v2 fb)).a.length = n := ⟨_, rfl⟩
      rw [hn5] at e5'
      subst e5'
      clear hO5 e5 hn5
      go_wp2
      exact hQ _ _ hb5 ⟨_, _, _, rfl, HO5.out⟩
    · intro x w hb hk Q' hQ
      have h0 : x.v 0 = .pointer (some ⟨w0.heap.size, 0, none⟩) := (hk 0 (by decide)).1
      have h1 : x.v 1 = .int .i64 y.p := (hk 1 (by decide)).1
      have h2 : x.v 2 = .int .i64 v2 := (hk 2 (by decide)).1
      have h3 : x.v 3 = .pointer (some ⟨w0.heap.size, 5, none⟩) := (hk 3 (by decide)).1
      have h4 : x.v 4 = .slice (some ⟨bm, om, none⟩) 2 uh := (hk 4 (by decide)).1
      have h5 : x.v 5 = .pointer (some ⟨bm, om + 3, none⟩) := (hk 5 (by decide)).1
      have h6 : x.v 6 = .agg #[.int .i64 R, .int .i64 C, .slice A1 LB c1] := (hk 6 (by decide)).1
      have h7 : ∃ s n c', x.v 7 = .tuple #[.agg #[.int .i64 (R : Int), .int .i64 C, .slice s n c'], .bool true] ∧ MxO w (x.lo 7) (x.hi 7) (.agg #[.int .i64 (R : Int), .int .i64 C, .slice s n c']) (mxF R C (scM y.p v2 fb)) := (hk 7 (by decide)).1
      have s7 := (hk 7 (by decide)).2
      clear hk
      simp only [netAct, dstAt, List.getElem?_toArray, List.getElem?_cons_zero, List.getElem?_cons_succ, Option.bind_some, Act.put, List.setIfInBounds_toArray, List.set_cons_zero, List.set_cons_succ] at hQ ⊢
      simp only [h0, h1, h2, h3, h4, h5, h6] at hQ ⊢
      clear h0 h1 h2 h3 h4 h5 h6
      obtain ⟨s, n, c', e1, ho⟩ := h7
      have hQ' := hQ (.tuple #[.agg #[.int .i64 (R : Int), .int .i64 C, .slice s n c'], .bool true]) w (Below.refl _ _) ⟨s, n, c', rfl, ho⟩
      rw [e1] at hQ' ⊢
      go_wp2
      exact hQ'
    · intro x w hb hk Q' hQ
      have h0 : x.v 0 = .pointer (some ⟨w0.heap.size, 0, none⟩) := (hk 0 (by decide)).1
      have h1 : x.v 1 = .int .i64 y.p := (hk 1 (by decide)).1
      have h2 : x.v 2 = .int .i64 v2 := (hk 2 (by decide)).1
      have h3 : x.v 3 = .pointer (some ⟨w0.heap.size, 5, none⟩) := (hk 3 (by decide)).1
      have h4 : x.v 4 = .slice (some ⟨bm, om, none⟩) 2 uh := (hk 4 (by decide)).1
      have h5 : x.v 5 = .pointer (some ⟨bm, om + 3, none⟩) := (hk 5 (by decide)).1
      have h6 : x.v 6 = .agg #[.int .i64 R, .int .i64 C, .slice A1 LB c1] := (hk 6 (by decide)).1
      have h7 : ∃ s n c', x.v 7 = .tuple #[.agg #[.int .i64 (R : Int), .int .i64 C, .slice s n c'], .bool true] ∧ MxO w (x.lo 7) (x.hi 7) (.agg #[.int .i64 (R : Int), .int .i64 C, .slice s n c']) (mxF R C (scM y.p v2 fb)) := (hk 7 (by decide)).1
      have h8 : ∃ s n c', x.v 8 = .tuple #[.agg #[.int .i64 (R : Int), .int .i64 C, .slice s n c'], .bool true] ∧ MxO w (x.lo 7) (x.hi 7) (.agg #[.int .i64 (R : Int), .int .i64 C, .slice s n c']) (mxF R C (scM y.p v2 fb)) := (hk 8 (by decide)).1
      have s7 := (hk 7 (by decide)).2
      have s8 := (hk 8 (by decide)).2
      clear hk
      simp only [netAct, dstAt, List.getElem?_toArray, List.getElem?_cons_zero, List.getElem?_cons_succ, Option.bind_some, Act.put, List.setIfInBounds_toArray, List.set_cons_zero, List.set_cons_succ] at hQ ⊢
      simp only [h0, h1, h2, h3, h4, h5, h6] at hQ ⊢
      clear h0 h1 h2 h3 h4 h5 h6
      obtain ⟨s, n, c', e1, ho⟩ := h8
      have hQ' := hQ (.agg #[.int .i64 (R : Int), .int .i64 C, .slice s n c']) w (Below.refl _ _) ⟨s, n, c', rfl, ho⟩
      rw [e1] at hQ' ⊢
      go_wp2
      exact hQ'
    · intro x w hb hk Q' hQ
      have h8 : ∃ s n c', x.v 8 = .tuple #[.agg #[.int .i64 (R : Int), .int .i64 C, .slice s n c'], .bool true] ∧ MxO w (x.lo 7) (x.hi 7) (.agg #[.int .i64 (R : Int), .int .i64 C, .slice s n c']) (mxF R C (scM y.p v2 fb)) := (hk 8 (by decide)).1
      clear hk
      simp only [netAct, dstAt, List.getElem?_toArray, List.getElem?_cons_zero, List.getElem?_cons_succ, Option.bind_some, Act.put, List.setIfInBounds_toArray, List.set_cons_zero, List.set_cons_succ] at hQ ⊢
      obtain ⟨s, n, c', e1, ho⟩ := h8
      rw [e1] at hQ ⊢
      go_wp2
      exact hQ (.bool true) _ (Below.refl _ _) rfl
    · intro x w hb hk Q' hQ
      clear hk
      simp only [netAct, dstAt, List.getElem?_toArray, List.getElem?_cons_zero, List.getElem?_cons_succ, Option.bind_some, Act.put, List.setIfInBounds_toArray, List.set_cons_zero, List.set_cons_succ] at hQ ⊢
      go_wp2
      exact hQ _ _ (below_alloc _ _) ⟨_, rfl, ⟨Nat.le_refl _, by show w.heap.size < (w.alloc _).heap.size; simp⟩, Blk.new _ _ _⟩
    · intro x w hb hk hiv hdj
      have h0 : x.v 0 = .pointer (some ⟨w0.heap.size, 0, none⟩) := hk 0 (by decide)
      have h1 : x.v 1 = .int .i64 y.p := hk 1 (by decide)
      have h2 : x.v 2 = .int .i64 v2 := hk 2 (by decide)
      have h3 : x.v 3 = .pointer (some ⟨w0.heap.size, 5, none⟩) := hk 3 (by decide)
      have h4 : x.v 4 = .slice (some ⟨bm, om, none⟩) 2 uh := hk 4 (by decide)
      have h5 : x.v 5 = .pointer (some ⟨bm, om + 3, none⟩) := hk 5 (by decide)
      have h6 : x.v 6 = .agg #[.int .i64 R, .int .i64 C, .slice A1 LB c1] := hk 6 (by decide)
      have h7 : ∃ s n c', x.v 7 = .tuple #[.agg #[.int .i64 (R : Int), .int .i64 C, .slice s n c'], .bool true] ∧ MxO w (x.lo 7) (x.hi 7) (.agg #[.int .i64 (R : Int), .int .i64 C, .slice s n c']) (mxF R C (scM y.p v2 fb)) := hk 7 (by decide)
      have h8 : ∃ s n c', x.v 8 = .tuple #[.agg #[.int .i64 (R : Int), .int .i64 C, .slice s n c'], .bool true] ∧ MxO w (x.lo 7) (x.hi 7) (.agg #[.int .i64 (R : Int), .int .i64 C, .slice s n c']) (mxF R C (scM y.p v2 fb)) := hk 8 (by decide)
      have h9 : ∃ s n c', x.v 9 = .agg #[.int .i64 (R : Int), .int .i64 C, .slice s n c'] ∧ MxO w (x.lo 7) (x.hi 7) (.agg #[.int .i64 (R : Int), .int .i64 C, .slice s n c']) (mxF R C (scM y.p v2 fb)) := hk 9 (by decide)
      have h10 : x.v 10 = .bool true := hk 10 (by decide)
      have h11 : ∃ g, (x.v 11) = .pointer (some ⟨g, 0, none⟩) ∧ ((x.lo 11) ≤ g ∧ g < (x.hi 11)) ∧ Blk w g 60 #[.int .i64 0, .int .i64 0, .slice none 0 0] := hk 11 (by decide)
      clear hk
      simp only [netAct, dstAt, List.getElem?_toArray, List.getElem?_cons_zero, List.getElem?_cons_succ, Option.bind_some, Act.put, List.setIfInBounds_toArray, List.set_cons_zero, List.set_cons_succ]
      simp only [List.drop_succ_cons, List.drop_zero, h0, h1, h2, h3, h4, h5, h6, h10]
      clear h0 h1 h2 h3 h4 h5 h6 h10
      obtain ⟨gB, e11, hg2, kG2⟩ := h11
      obtain ⟨s2, n2, c2, e9, ho2⟩ := h9
      obtain ⟨s2', n2', c2', e8, _⟩ := h8
      rw [e9, e11, e8]
      have i7 := hiv 7 (by decide)
      have i11 := hiv 11 (by decide)
      have d7 := hdj 7 11 (by decide) (by decide) (by decide)
      clear hiv hdj e9 e11 e8 h7
      have frG := kG2.frozen
      have r0 := kG2.cell' (i := 0) rfl
      have r1 := kG2.cell' (i := 1) rfl
      have r2 := kG2.cell' (i := 2) rfl
      have hbs := hb.size
      obtain ⟨W5, e5⟩ : ∃ u, u = (((w.setCell ⟨gB, 0, none⟩ (.int .i64 R)).setCell ⟨gB, 1, none⟩ (.int .i64 C)).setCell ⟨gB, 2, none⟩ (.slice s2 n2 c2)) := ⟨_, rfl⟩
      have kGB : Blk W5 gB 60 #[.int .i64 R, .int .i64 C, .slice s2 n2 c2] := by rw [e5]; exact (((kG2.set_ 0 _).set_ 1 _).set_ 2 _)
      have hc : Chg gB (gB + 1) w W5 := by rw [e5]; exact chg3 _ _ _ _ _
      have kB5 := (kB3.call hb).chg hc (by omega)
      have kR5 := (kR3.call hb).chg hc (by have := SZ.out; omega)
      have kGA := (kG3.call hb).chg hc (by have := kG3.lt; omega)
      have gW5 := gW3.trans ((hb.mono gs3).trans (hc.below (B := W.heap.size) (by omega) (by omega)))
      have h2' := (ho2.chg hc (by omega)).rd
      have HB5 := Lib.hid h2'
      have HA5 := Lib.hid (MxR.more (show W3.heap.size ≤ W5.heap.size by have := hc.size; omega) (MxR.below (hb.trans (hc.below (B := W3.heap.size) (by omega) (by omega))) H16.out))
      clear ho2 h2' kG2 hb hc d7 i7 i11 hg2 kB3 kR3 kG3
      have p0 := kB5.cell' (i := 0) rfl
      have a0 := kGA.cell' (i := 0) rfl
      have a1 := kGA.cell' (i := 1) rfl
      have a2 := kGA.cell' (i := 2) rfl
      have b0 := kGB.cell' (i := 0) rfl
      have b1 := kGB.cell' (i := 1) rfl
      have b2 := kGB.cell' (i := 2) rfl
      have t0 := p0
      have t1 := a0
      have t2 := a1
      have t3 := a2
      have t4 := b0
      have t5 := b1
      have t6 := b2
      rw [e5] at t0 t1 t2 t3 t4 t5 t6
      go_wp2_with fail
      rw [← e5]
      clear e5 frG r0 r1 r2 hbs t0 t1 t2 t3 t4 t5 t6 p0 a0 a1 a2 b0 b1 b2
      refine (addMatrices_any y.p _ _ R C (scM y.p v1 fa) (scM y.p v2 fb) W5 HA5.out HB5.out (isMat_mxF HP.out (by omega) (by omega) (fun i j _ _ => scM_rng hpr i j)) (isMat_mxF HP.out (by omega) (by omega) (fun i j _ _ => scM_rng hpr i j))).mono ?_; rintro e w6 ⟨v6, rfl, ho6, hb6⟩
      obtain ⟨PM, hPM⟩ : ∃ M, M = mxF R C (adM y.p (scM y.p v1 fa) (scM y.p v2 fb)) := ⟨_, rfl⟩
      have HFF := Lib.hid (show pAtP y v1 v2 = (PM, true) by rw [hPM]; exact HPM.out)
      rw [← hPM] at ho6
      clear hPM
      obtain ⟨A7, c7, e7⟩ := ho6.form
      subst e7
      obtain ⟨N, hN⟩ : ∃ N, PM.a.length = N := ⟨_, rfl⟩
      rw [hN] at ho6 ⊢
      obtain ⟨W7, e7⟩ : ∃ u, u = w6.alloc (.cells #[.int .i64 PM.r, .int .i64 PM.c, .slice A7 N c7] 60) := ⟨_, rfl⟩
      have hb7 : Below w6.heap.size w6 W7 := by rw [e7]; exact below_alloc _ _
      have kX := (kR5.call hb6).call hb7
      have oX := ho6.below hb7
      have q0 := kX.cell' (i := 0) rfl
      have q1 := kX.cell' (i := 1) rfl
      have q2 := kX.cell' (i := 2) rfl
      have fr := kX.frozen
      have sz := SZ.out
      have s5 := gW5.size
      have s6 := hb6.size
      have s7 := hb7.size
      have gX := (GW0.out).trans (((gW5.mono (by omega)).trans (hb6.mono (by omega))).trans (hb7.mono (by omega)))
      have gXs := gX.size
      have h2 := chg3 W7 (w0.heap.size + 1) (.int .i64 PM.r) (.int .i64 PM.c) (.slice A7 N c7)
      have OF := Lib.hid ((oX.chg h2 (.inr (by omega))).wider (lo' := w0.heap.size) (hi' := W7.heap.size) (by omega) (by omega))
      have GF := Lib.hid (gX.trans (h2.below (by omega) gXs))
      clear ho6 oX h2 gX kX hN sz gXs hb6 hb7 s5 s6 s7 gW5 kB5 kR5 kGA kGB
      rw [e7] at q0 q1 q2 fr
      go_wp2
      rw [← e7]
      rw [← e7] at q0 q1 q2
      exact bodyPost_ret (v := .tuple #[.agg #[.int .i64 PM.r, .int .i64 PM.c, .slice A7 N c7], .bool true]) (by simp [results, go_sem, q0, q1, q2]) rfl ⟨_, by rw [HFF.out], by rw [HFF.out]; exact OF.out.wider (Nat.le_refl _) (by simp), GF.out⟩
    · intro x w hb hk hiv hdj om os hom hos
      simp only [List.getElem?_cons_zero, List.getElem?_cons_succ, Option.some.injEq] at hom hos
      subst hom hos
      have h0 : x.v 0 = .pointer (some ⟨w0.heap.size, 0, none⟩) := hk 0 (by decide)
      have h1 : x.v 1 = .int .i64 y.p := hk 1 (by decide)
      have h2 : x.v 2 = .int .i64 v2 := hk 2 (by decide)
      have h3 : x.v 3 = .pointer (some ⟨w0.heap.size, 5, none⟩) := hk 3 (by decide)
      have h4 : x.v 4 = .slice (some ⟨bm, om, none⟩) 2 uh := hk 4 (by decide)
      have h5 : x.v 5 = .pointer (some ⟨bm, om + 3, none⟩) := hk 5 (by decide)
      have h6 : x.v 6 = .agg #[.int .i64 R, .int .i64 C, .slice A1 LB c1] := hk 6 (by decide)
      have h7 : ∃ s n c', x.v 7 = .tuple #[.agg #[.int .i64 (R : Int), .int .i64 C, .slice s n c'], .bool true] ∧ MxO w (x.lo 7) (x.hi 7) (.agg #[.int .i64 (R : Int), .int .i64 C, .slice s n c']) (mxF R C (scM y.p v2 fb)) := hk 7 (by decide)
      have h8 : ∃ s n c', x.v 8 = .tuple #[.agg #[.int .i64 (R : Int), .int .i64 C, .slice s n c'], .bool true] ∧ MxO w (x.lo 7) (x.hi 7) (.agg #[.int .i64 (R : Int), .int .i64 C, .slice s n c']) (mxF R C (scM y.p v2 fb)) := hk 8 (by decide)
      have h9 : ∃ s n c', x.v 9 = .agg #[.int .i64 (R : Int), .int .i64 C, .slice s n c'] ∧ MxO w (x.lo 7) (x.hi 7) (.agg #[.int .i64 (R : Int), .int .i64 C, .slice s n c']) (mxF R C (scM y.p v2 fb)) := hk 9 (by decide)
      have h11 : ∃ g, (x.v 11) = .pointer (some ⟨g, 0, none⟩) ∧ ((x.lo 11) ≤ g ∧ g < (x.hi 11)) ∧ Blk w g 60 #[.int .i64 0, .int .i64 0, .slice none 0 0] := hk 11 (by decide)
      clear hk
      simp only [List.foldl_cons, List.foldl_nil, netAct, dstAt, List.getElem?_toArray, List.getElem?_cons_zero, List.getElem?_cons_succ, Option.bind_some, Act.put, List.setIfInBounds_toArray, List.set_cons_zero, List.set_cons_succ]
      simp only [List.drop_succ_cons, List.drop_zero, h0, h1, h2, h3, h4, h5, h6]
      clear h0 h1 h2 h3 h4 h5 h6
      obtain ⟨gB, e11, hg2, kG2⟩ := h11
      obtain ⟨s2, n2, c2, e9, ho2⟩ := h9
      obtain ⟨s2', n2', c2', e8, _⟩ := h8
      rw [e9, e11, e8]
      have i7 := hiv 7 (by decide)
      have i11 := hiv 11 (by decide)
      have d7 := hdj 7 11 (by decide) (by decide) (by decide)
      clear hiv hdj e9 e11 e8 h7
      have frG := kG2.frozen
      have r0 := kG2.cell' (i := 0) rfl
      have r1 := kG2.cell' (i := 1) rfl
      have r2 := kG2.cell' (i := 2) rfl
      have hbs := hb.size
      obtain ⟨W5, e5⟩ : ∃ u, u = (((w.setCell ⟨gB, 0, none⟩ (.int .i64 R)).setCell ⟨gB, 1, none⟩ (.int .i64 C)).setCell ⟨gB, 2, none⟩ (.slice s2 n2 c2)) := ⟨_, rfl⟩
      have kGB : Blk W5 gB 60 #[.int .i64 R, .int .i64 C, .slice s2 n2 c2] := by rw [e5]; exact (((kG2.set_ 0 _).set_ 1 _).set_ 2 _)
      have hc : Chg gB (gB + 1) w W5 := by rw [e5]; exact chg3 _ _ _ _ _
      have kB5 := (kB3.call hb).chg hc (by omega)
      have kR5 := (kR3.call hb).chg hc (by have := SZ.out; omega)
      have kGA := (kG3.call hb).chg hc (by have := kG3.lt; omega)
      have gW5 := gW3.trans ((hb.mono gs3).trans (hc.below (B := W.heap.size) (by omega) (by omega)))
      have h2' := (ho2.chg hc (by omega)).rd
      have HB5 := Lib.hid h2'
      have HA5 := Lib.hid (MxR.more (show W3.heap.size ≤ W5.heap.size by have := hc.size; omega) (MxR.below (hb.trans (hc.below (B := W3.heap.size) (by omega) (by omega))) H16.out))
      clear ho2 h2' kG2 hb hc d7 i7 i11 hg2 kB3 kR3 kG3
      have p0 := kB5.cell' (i := 0) rfl
      have a0 := kGA.cell' (i := 0) rfl
      have a1 := kGA.cell' (i := 1) rfl
      have a2 := kGA.cell' (i := 2) rfl
      have b0 := kGB.cell' (i := 0) rfl
      have b1 := kGB.cell' (i := 1) rfl
      have b2 := kGB.cell' (i := 2) rfl
      have t0 := p0
      have t1 := a0
      have t2 := a1
      have t3 := a2
      have t4 := b0
      have t5 := b1
      have t6 := b2
      rw [e5] at t0 t1 t2 t3 t4 t5 t6
      go_wp2_with fail
      rw [← e5]
      clear e5 frG r0 r1 r2 hbs t0 t1 t2 t3 t4 t5 t6 p0 a0 a1 a2 b0 b1 b2
      refine (addMatrices_any y.p _ _ R C (scM y.p v1 fa) (scM y.p v2 fb) W5 HA5.out HB5.out (isMat_mxF HP.out (by omega) (by omega) (fun i j _ _ => scM_rng hpr i j)) (isMat_mxF HP.out (by omega) (by omega) (fun i j _ _ => scM_rng hpr i j))).mono ?_; rintro e w6 ⟨v6, rfl, ho6, hb6⟩
      obtain ⟨PM, hPM⟩ : ∃ M, M = mxF R C (adM y.p (scM y.p v1 fa) (scM y.p v2 fb)) := ⟨_, rfl⟩
      have HFF := Lib.hid (show pAtP y v1 v2 = (PM, true) by rw [hPM]; exact HPM.out)
      rw [← hPM] at ho6
      clear hPM
      obtain ⟨A7, c7, e7⟩ := ho6.form
      subst e7
      obtain ⟨N, hN⟩ : ∃ N, PM.a.length = N := ⟨_, rfl⟩
      rw [hN] at ho6 ⊢
      obtain ⟨W7, e7⟩ : ∃ u, u = w6.alloc (.cells #[.int .i64 PM.r, .int .i64 PM.c, .slice A7 N c7] 60) := ⟨_, rfl⟩
      have hb7 : Below w6.heap.size w6 W7 := by rw [e7]; exact below_alloc _ _
      have kX := (kR5.call hb6).call hb7
      have oX := ho6.below hb7
      have q0 := kX.cell' (i := 0) rfl
      have q1 := kX.cell' (i := 1) rfl
      have q2 := kX.cell' (i := 2) rfl
      have fr := kX.frozen
      have sz := SZ.out
      have s5 := gW5.size
      have s6 := hb6.size
      have s7 := hb7.size
      have gX := (GW0.out).trans (((gW5.mono (by omega)).trans (hb6.mono (by omega))).trans (hb7.mono (by omega)))
      have gXs := gX.size
      have h2 := chg3 W7 (w0.heap.size + 1) (.int .i64 PM.r) (.int .i64 PM.c) (.slice A7 N c7)
      have OF := Lib.hid ((oX.chg h2 (.inr (by omega))).wider (lo' := w0.heap.size) (hi' := W7.heap.size) (by omega) (by omega))
      have GF := Lib.hid (gX.trans (h2.below (by omega) gXs))
      clear ho6 oX h2 gX kX hN sz gXs hb6 hb7 s5 s6 s7 gW5 kB5 kR5 kGA kGB
      rw [e7] at q0 q1 q2 fr
      go_wp2
      rw [← e7]
      rw [← e7] at q0 q1 q2
      exact bodyPost_ret (v := .tuple #[.agg #[.int .i64 PM.r, .int .i64 PM.c, .slice A7 N c7], .bool true]) (by simp [results, go_sem, q0, q1, q2]) rfl ⟨_, by rw [HFF.out], by rw [HFF.out]; exact OF.out.wider (Nat.le_refl _) (by simp), GF.out⟩
theorem specPencilAt_any (u : Value) (x : Rp) (v1 v2 : Int) (w0 : World) (hu : RpR w0 w0.heap.size u x) (hv1 : I64 v1) (hv2 : I64 v2) :
    Calls Try.prog 52 #[u, .int .i64 v1, .int .i64 v2] w0 fun e w' => ∃ r, e = .returned (.tuple #[r, .bool (pAtP x v1 v2).2]) ∧ MxO w' w0.heap.size w'.heap.size r (pAtP x v1 v2).1 ∧ Below w0.heap.size w0 w' := by
  rcases h : isPen x with _ | _
  · exact specPA_no u x v1 v2 w0 hu h
  · exact specPA_yes u x v1 v2 w0 hu hv1 hv2 h
theorem pAtP_size (x : Rp) (a b : Int) : (pAtP x a b).1.size ≤ 1000 := by
  rcases h : isPen x with _ | _
  · rw [pAtP_no h]; decide
  · obtain ⟨C, R, fa, fb, ed, em, hC, hR, _⟩ := pen_at h
    rw [pAtP_yes h, penM_of em]
    simp only [mxF, Mx.size, flat_length]
    exact Nat.le_trans (Nat.mul_le_mul hR hC) (by decide)
end Go.Proofs.Ytbgjhnolnccnnaa
