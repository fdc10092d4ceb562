/- The program's pencilAt. -/
import Derived.Test.YtbgjhnolnccnnaaPenAt
namespace Go.Proofs.Ytbgjhnolnccnnaa
set_option linter.unusedVariables false
set_option linter.unusedSimpArgs false
open Go.RowKit
set_option maxHeartbeats 6400000 in
set_option maxRecDepth 100000 in
theorem pencilAt_any (u : Value) (x : Rp) (a b : Int) (w0 : World) (hu : RpR w0 w0.heap.size u x) (hx : isPen x = true) (ha : 0 ≤ a ∧ a ≤ 4) (hb0 : 0 ≤ b ∧ b ≤ 4) :
    Calls Try.prog 115 #[u, .int .i64 a, .int .i64 b] w0 fun e w' => ∃ r, e = .returned r ∧ MxO w' w0.heap.size w'.heap.size r (penM x a b) ∧ Below w0.heap.size w0 w' := by
  obtain ⟨C, R, fa, fb, ed, em, hC, hR, hp, hqq, rfa, rfb⟩ := pen_at hx
  clear hqq
  have hpr := isFld_r hp
  have HPM := Lib.hid (penM_of (a := a) (b := b) em)
  obtain ⟨UA, ua, UC, uc, UE, ue, UH, uh, rfl, hq, hd, hm, hpI, ld, lm⟩ := hu.open_
  clear hu hq
  rw [ed] at hd ⊢
  rw [em] at hm ⊢
  have zd : ([(C : Int), (R : Int)] : List Int).length = 2 := rfl
  have zm : ([mxF R C fa, mxF R C fb] : List Mx).length = 2 := rfl
  obtain ⟨bd, od, x0, rfl, hbd, HX0, d0, _⟩ := SlI.at_ (k := 0) hd (by simp)
  obtain ⟨bd', od', x1, e1, hbd', HX1, d1, _⟩ := SlI.at_ (k := 1) hd (by simp)
  injection e1 with e1
  injection e1 with e1 e2
  subst e1 e2
  obtain ⟨bm, om, m0, A0, c0, rfl, hbm, HM0, y0, y1, y2, hs0, r0, r1, _⟩ := SlM.at_ (k := 0) hm (by simp)
  obtain ⟨bm', om', m1, A1, c1, e1, hbm', HM1, z0, z1, z2, hs1, r2, r3, _⟩ := SlM.at_ (k := 1) hm (by simp)
  injection e1 with e1
  injection e1 with e1 e2
  subst e1 e2
  have t0 := HX0.out
  have t1 := HX1.out
  have t2 := HM0.out
  have t3 := HM1.out
  simp only [List.getElem?_cons_zero, List.getElem?_cons_succ, Option.some.injEq] at t0 t1 t2 t3
  subst t0 t1 t2 t3
  simp only [Nat.zero_mul, Nat.add_zero, Nat.one_mul] at y0 y1 y2 z0 z1 z2 d0 d1
  have q1 : (mxF R C fa).r = (R : Int) := rfl
  have q2 : (mxF R C fa).c = (C : Int) := rfl
  have q3 : (mxF R C fb).r = (R : Int) := rfl
  have q4 : (mxF R C fb).c = (C : Int) := rfl
  obtain ⟨LA, hLA⟩ : ∃ L, (mxF R C fa).a.length = L := ⟨_, rfl⟩
  obtain ⟨LB, hLB⟩ : ∃ L, (mxF R C fb).a.length = L := ⟨_, rfl⟩
  have hM0 : MxR w0 w0.heap.size (.agg #[.int .i64 (R : Int), .int .i64 C, .slice A0 LA c0]) (mxF R C fa) := ⟨_, rfl, by rw [← hLA]; exact hs0, r0, r1⟩
  have hM1 : MxR w0 w0.heap.size (.agg #[.int .i64 (R : Int), .int .i64 C, .slice A1 LB c1]) (mxF R C fb) := ⟨_, rfl, by rw [← hLB]; exact hs1, r2, r3⟩
  rw [q1] at y0
  rw [q2] at y1
  rw [hLA] at y2
  rw [q3] at z0
  rw [q4] at z1
  rw [hLB] at z2
  rw [zd, zm]
  clear q1 q2 q3 q4 hLA hLB hs0 hs1 r0 r1 r2 r3 zd zm hd hm ed em HX0 HX1 HM0 HM1 ld lm hbd' hbm'
  have HFA := Lib.hid rfa
  have HFB := Lib.hid rfb
  clear rfa rfb
  obtain ⟨p, hpp⟩ : ∃ p, x.p = p := ⟨_, rfl⟩
  rw [hpp] at hp hpr hpI HFA HFB HPM ⊢
  generalize hMM : penM x a b = PM at HPM ⊢
  clear hMM hpp hx
  obtain ⟨W, hW⟩ : ∃ W, W = (w0.alloc (.cells #[.int .i64 p, .int .i64 x.q.v, .slice UA x.q.f.length ua, .slice UC x.q.t.length uc, .slice (some ⟨bd, od, none⟩) 2 ue, .slice (some ⟨bm, om, none⟩) 2 uh] 40)).alloc (.cells #[.int .i64 0, .int .i64 0, .slice none 0 0] 60) := ⟨_, rfl⟩
  have g0 : Below w0.heap.size w0 W := by rw [hW]; exact ((Below.refl _ _).alloc (Nat.le_refl _) _).alloc (by simp) _
  have kB : Blk W w0.heap.size 40 #[.int .i64 p, .int .i64 x.q.v, .slice UA x.q.f.length ua, .slice UC x.q.t.length uc, .slice (some ⟨bd, od, none⟩) 2 ue, .slice (some ⟨bm, om, none⟩) 2 uh] := by rw [hW]; exact (Blk.new _ _ _).alloc _
  have kR : Blk W (w0.heap.size + 1) 60 #[.int .i64 0, .int .i64 0, .slice none 0 0] := by
    rw [hW]
    have := Blk.new (w0.alloc (.cells #[.int .i64 p, .int .i64 x.q.v, .slice UA x.q.f.length ua, .slice UC x.q.t.length uc, .slice (some ⟨bd, od, none⟩) 2 ue, .slice (some ⟨bm, om, none⟩) 2 uh] 40)) 60 #[.int .i64 0, .int .i64 0, .slice none 0 0]
    simpa only [World.size_alloc] using this
  have sz : W.heap.size = w0.heap.size + 1 + 1 := by rw [hW]; simp
  have SZ := Lib.hid sz
  have d0' := bcell g0 hbd d0
  have d1' := bcell g0 hbd d1
  have y0' := bcell g0 hbm y0
  have y1' := bcell g0 hbm y1
  have y2' := bcell g0 hbm y2
  have z0' := bcell g0 hbm z0
  have z1' := bcell g0 hbm z1
  have z2' := bcell g0 hbm z2
  have hbd2 : bd < W.heap.size := by omega
  have hbm2 : bm < W.heap.size := by omega
  have HM0 := Lib.hid (MxR.next g0 hM0)
  have HM1 := Lib.hid (MxR.next g0 hM1)
  have GW0 := Lib.hid g0
  clear sz d0 d1 y0 y1 y2 z0 z1 z2 hbd hbm hM0 hM1 g0
  go_enter Try.func115, Try.ntmps115
  go_wp2
  rw [← hW]; clear hW
  have HWS : Hid (w0.heap.size < W.heap.size) := by show _ < _; have := SZ.out; omega
  refine wp_region_net (by kernel_rfl) [.eq (.pointer (some ⟨w0.heap.size, 0, none⟩)), .eq (.int .i64 p), .eq (.pointer (some ⟨w0.heap.size, 4, none⟩)), .eq (.slice (some ⟨bd, od, none⟩) 2 ue), .eq (.pointer (some ⟨bd, od + 1, none⟩)), .eq (.int .i64 R), .eq (.pointer (some ⟨w0.heap.size, 4, none⟩)), .eq (.slice (some ⟨bd, od, none⟩) 2 ue), .eq (.pointer (some ⟨bd, od, none⟩)), .eq (.int .i64 C), rel 10 (fun u lo hi w => MxO w lo hi u (mxF R C (fun _ _ => 0))), .eq (.int .i64 a), .eq (.pointer (some ⟨w0.heap.size, 5, none⟩)), .eq (.slice (some ⟨bm, om, none⟩) 2 uh), .eq (.pointer (some ⟨bm, om, none⟩)), .eq (.agg #[.int .i64 R, .int .i64 C, .slice A0 LA c0]), rel 16 (fun u lo hi w => MxO w lo hi u (mxF R C (plF p a (fun _ _ => 0) fa))), rel 17 (fun u lo hi w => ∃ g, u = .pointer (some ⟨g, 0, none⟩) ∧ (lo ≤ g ∧ g < hi) ∧ Blk w g 60 #[.int .i64 0, .int .i64 0, .slice none 0 0])] [[], [0], [], [2], [2, 3], [2, 3, 4], [], [6], [6, 7], [6, 7, 8], [2, 3, 4, 5, 6, 7, 8, 9], [], [], [12], [12, 13], [12, 13, 14], [0, 1, 2, 3, 4, 5, 6, 7, 8, 9, 10, 11, 12, 13, 14, 15], [], [0, 1, 2, 3, 4, 5, 6, 7, 8, 9, 10, 11, 12, 13, 14, 15, 16, 17]] 18 (by kernel_rfl) ⟨trivial, trivial, trivial, trivial, trivial, trivial, trivial, trivial, trivial, trivial, rel_stable (fun u lo hi w w' h hb => h.below hb), trivial, trivial, trivial, trivial, trivial, rel_stable (fun u lo hi w w' h hb => h.below hb), rel_stable (fun u lo hi w w' ⟨g, e, h1, h⟩ hb => ⟨g, e, h1, h.call hb⟩), trivial⟩ ⟨?_, ?_, ?_, ?_, ?_, ?_, ?_, ?_, ?_, ?_, ?_, ?_, ?_, ?_, ?_, ?_, ?_, ?_, trivial⟩ ?_
  · intro x w hb hk Q' hQ
    clear hk
    simp only [netAct, dstAt, List.getElem?_toArray, List.getElem?_cons_zero, List.getElem?_cons_succ, Option.bind_some, Act.put, List.setIfInBounds_toArray, List.set_cons_zero, List.set_cons_succ] at hQ ⊢
    go_wp2
    exact hQ (.pointer (some ⟨w0.heap.size, 0, none⟩)) _ (Below.refl _ _) rfl
  · intro x w hb hk Q' hQ
    have h0 : x.v 0 = .pointer (some ⟨w0.heap.size, 0, none⟩) := (hk 0 (by decide)).1
    clear hk
    simp only [netAct, dstAt, List.getElem?_toArray, List.getElem?_cons_zero, List.getElem?_cons_succ, Option.bind_some, Act.put, List.setIfInBounds_toArray, List.set_cons_zero, List.set_cons_succ] at hQ ⊢
    simp only [h0] at hQ ⊢
    clear h0
    have z0 := (kB.call hb).cell' (i := 0) rfl
    go_wp2
    exact hQ (.int .i64 p) _ (Below.refl _ _) rfl
  · intro x w hb hk Q' hQ
    clear hk
    simp only [netAct, dstAt, List.getElem?_toArray, List.getElem?_cons_zero, List.getElem?_cons_succ, Option.bind_some, Act.put, List.setIfInBounds_toArray, List.set_cons_zero, List.set_cons_succ] at hQ ⊢
    go_wp2
    exact hQ (.pointer (some ⟨w0.heap.size, 4, none⟩)) _ (Below.refl _ _) rfl
  · intro x w hb hk Q' hQ
    have h2 : x.v 2 = .pointer (some ⟨w0.heap.size, 4, none⟩) := (hk 2 (by decide)).1
    clear hk
    simp only [netAct, dstAt, List.getElem?_toArray, List.getElem?_cons_zero, List.getElem?_cons_succ, Option.bind_some, Act.put, List.setIfInBounds_toArray, List.set_cons_zero, List.set_cons_succ] at hQ ⊢
    simp only [h2] at hQ ⊢
    clear h2
    have z0 := (kB.call hb).cell' (i := 4) rfl
    go_wp2
    exact hQ (.slice (some ⟨bd, od, none⟩) 2 ue) _ (Below.refl _ _) rfl
  · intro x w hb hk Q' hQ
    have h3 : x.v 3 = .slice (some ⟨bd, od, none⟩) 2 ue := (hk 3 (by decide)).1
    clear hk
    simp only [netAct, dstAt, List.getElem?_toArray, List.getElem?_cons_zero, List.getElem?_cons_succ, Option.bind_some, Act.put, List.setIfInBounds_toArray, List.set_cons_zero, List.set_cons_succ] at hQ ⊢
    simp only [h3] at hQ ⊢
    clear h3
    go_wp2
    exact hQ (.pointer (some ⟨bd, od + 1, none⟩)) _ (Below.refl _ _) rfl
  · intro x w hb hk Q' hQ
    have h4 : x.v 4 = .pointer (some ⟨bd, od + 1, none⟩) := (hk 4 (by decide)).1
    clear hk
    simp only [netAct, dstAt, List.getElem?_toArray, List.getElem?_cons_zero, List.getElem?_cons_succ, Option.bind_some, Act.put, List.setIfInBounds_toArray, List.set_cons_zero, List.set_cons_succ] at hQ ⊢
    simp only [h4] at hQ ⊢
    clear h4
    have z0 := bcell hb hbd2 d1'
    go_wp2
    exact hQ (.int .i64 R) _ (Below.refl _ _) rfl
  · intro x w hb hk Q' hQ
    clear hk
    simp only [netAct, dstAt, List.getElem?_toArray, List.getElem?_cons_zero, List.getElem?_cons_succ, Option.bind_some, Act.put, List.setIfInBounds_toArray, List.set_cons_zero, List.set_cons_succ] at hQ ⊢
    go_wp2
    exact hQ (.pointer (some ⟨w0.heap.size, 4, none⟩)) _ (Below.refl _ _) rfl
  · intro x w hb hk Q' hQ
    have h6 : x.v 6 = .pointer (some ⟨w0.heap.size, 4, none⟩) := (hk 6 (by decide)).1
    clear hk
    simp only [netAct, dstAt, List.getElem?_toArray, List.getElem?_cons_zero, List.getElem?_cons_succ, Option.bind_some, Act.put, List.setIfInBounds_toArray, List.set_cons_zero, List.set_cons_succ] at hQ ⊢
    simp only [h6] at hQ ⊢
    clear h6
    have z0 := (kB.call hb).cell' (i := 4) rfl
    go_wp2
    exact hQ (.slice (some ⟨bd, od, none⟩) 2 ue) _ (Below.refl _ _) rfl
  · intro x w hb hk Q' hQ
    have h7 : x.v 7 = .slice (some ⟨bd, od, none⟩) 2 ue := (hk 7 (by decide)).1
    clear hk
    simp only [netAct, dstAt, List.getElem?_toArray, List.getElem?_cons_zero, List.getElem?_cons_succ, Option.bind_some, Act.put, List.setIfInBounds_toArray, List.set_cons_zero, List.set_cons_succ] at hQ ⊢
    simp only [h7] at hQ ⊢
    clear h7
    go_wp2
    exact hQ (.pointer (some ⟨bd, od, none⟩)) _ (Below.refl _ _) rfl
  · intro x w hb hk Q' hQ
    have h8 : x.v 8 = .pointer (some ⟨bd, od, none⟩) := (hk 8 (by decide)).1
    clear hk
    simp only [netAct, dstAt, List.getElem?_toArray, List.getElem?_cons_zero, List.getElem?_cons_succ, Option.bind_some, Act.put, List.setIfInBounds_toArray, List.set_cons_zero, List.set_cons_succ] at hQ ⊢
    simp only [h8] at hQ ⊢
    clear h8
    have z0 := bcell hb hbd2 d0'
    go_wp2
    exact hQ (.int .i64 C) _ (Below.refl _ _) rfl
  · intro x w hb hk Q' hQ
    have h2 : x.v 2 = .pointer (some ⟨w0.heap.size, 4, none⟩) := (hk 2 (by decide)).1
    have h3 : x.v 3 = .slice (some ⟨bd, od, none⟩) 2 ue := (hk 3 (by decide)).1
    have h4 : x.v 4 = .pointer (some ⟨bd, od + 1, none⟩) := (hk 4 (by decide)).1
    have h5 : x.v 5 = .int .i64 R := (hk 5 (by decide)).1
    have h6 : x.v 6 = .pointer (some ⟨w0.heap.size, 4, none⟩) := (hk 6 (by decide)).1
    have h7 : x.v 7 = .slice (some ⟨bd, od, none⟩) 2 ue := (hk 7 (by decide)).1
    have h8 : x.v 8 = .pointer (some ⟨bd, od, none⟩) := (hk 8 (by decide)).1
    have h9 : x.v 9 = .int .i64 C := (hk 9 (by decide)).1
    clear hk
    simp only [netAct, dstAt, List.getElem?_toArray, List.getElem?_cons_zero, List.getElem?_cons_succ, Option.bind_some, Act.put, List.setIfInBounds_toArray, List.set_cons_zero, List.set_cons_succ] at hQ ⊢
    simp only [h2, h3, h4, h5, h6, h7, h8, h9] at hQ ⊢
    clear h2 h3 h4 h5 h6 h7 h8 h9
    go_wp2_with fail
    refine (zero_any (R : Int) C _ (by omega) (by omega) (by omega) (by omega)).mono ?_; rintro e w5 ⟨v5, rfl, hO5, hb5⟩
    rw [zmx_flat] at hO5
    go_wp2
    exact hQ _ _ hb5 hO5
  · intro x w hb hk Q' hQ
    clear hk
    simp only [netAct, dstAt, List.getElem?_toArray, List.getElem?_cons_zero, List.getElem?_cons_succ, Option.bind_some, Act.put, List.setIfInBounds_toArray, List.set_cons_zero, List.set_cons_succ] at hQ ⊢
    go_wp2
    exact hQ (.int .i64 a) _ (Below.refl _ _) rfl
  · intro x w hb hk Q' hQ
    clear hk
    simp only [netAct, dstAt, List.getElem?_toArray, List.getElem?_cons_zero, List.getElem?_cons_succ, Option.bind_some, Act.put, List.setIfInBounds_toArray, List.set_cons_zero, List.set_cons_succ] at hQ ⊢
    go_wp2
    exact hQ (.pointer (some ⟨w0.heap.size, 5, none⟩)) _ (Below.refl _ _) rfl
  · intro x w hb hk Q' hQ
    have h12 : x.v 12 = .pointer (some ⟨w0.heap.size, 5, none⟩) := (hk 12 (by decide)).1
    clear hk
    simp only [netAct, dstAt, List.getElem?_toArray, List.getElem?_cons_zero, List.getElem?_cons_succ, Option.bind_some, Act.put, List.setIfInBounds_toArray, List.set_cons_zero, List.set_cons_succ] at hQ ⊢
    simp only [h12] at hQ ⊢
    clear h12
    have z0 := (kB.call hb).cell' (i := 5) rfl
    go_wp2
    exact hQ (.slice (some ⟨bm, om, none⟩) 2 uh) _ (Below.refl _ _) rfl
  · intro x w hb hk Q' hQ
    have h13 : x.v 13 = .slice (some ⟨bm, om, none⟩) 2 uh := (hk 13 (by decide)).1
    clear hk
    simp only [netAct, dstAt, List.getElem?_toArray, List.getElem?_cons_zero, List.getElem?_cons_succ, Option.bind_some, Act.put, List.setIfInBounds_toArray, List.set_cons_zero, List.set_cons_succ] at hQ ⊢
    simp only [h13] at hQ ⊢
    clear h13
    go_wp2
    exact hQ (.pointer (some ⟨bm, om, none⟩)) _ (Below.refl _ _) rfl
  · intro x w hb hk Q' hQ
    have h14 : x.v 14 = .pointer (some ⟨bm, om, none⟩) := (hk 14 (by decide)).1
    clear hk
    simp only [netAct, dstAt, List.getElem?_toArray, List.getElem?_cons_zero, List.getElem?_cons_succ, Option.bind_some, Act.put, List.setIfInBounds_toArray, List.set_cons_zero, List.set_cons_succ] at hQ ⊢
    simp only [h14] at hQ ⊢
    clear h14
    have q0 := bcell hb hbm2 y0'
    have q1 := bcell hb hbm2 y1'
    have q2 := bcell hb hbm2 y2'
    go_wp2
    exact hQ (.agg #[.int .i64 R, .int .i64 C, .slice A0 LA c0]) _ (Below.refl _ _) rfl
  · intro x w hb hk Q' hQ
    have h0 : x.v 0 = .pointer (some ⟨w0.heap.size, 0, none⟩) := (hk 0 (by decide)).1
    have h1 : x.v 1 = .int .i64 p := (hk 1 (by decide)).1
    have h2 : x.v 2 = .pointer (some ⟨w0.heap.size, 4, none⟩) := (hk 2 (by decide)).1
    have h3 : x.v 3 = .slice (some ⟨bd, od, none⟩) 2 ue := (hk 3 (by decide)).1
    have h4 : x.v 4 = .pointer (some ⟨bd, od + 1, none⟩) := (hk 4 (by decide)).1
    have h5 : x.v 5 = .int .i64 R := (hk 5 (by decide)).1
    have h6 : x.v 6 = .pointer (some ⟨w0.heap.size, 4, none⟩) := (hk 6 (by decide)).1
    have h7 : x.v 7 = .slice (some ⟨bd, od, none⟩) 2 ue := (hk 7 (by decide)).1
    have h8 : x.v 8 = .pointer (some ⟨bd, od, none⟩) := (hk 8 (by decide)).1
    have h9 : x.v 9 = .int .i64 C := (hk 9 (by decide)).1
    have h10 : MxO w (x.lo 10) (x.hi 10) (x.v 10) (mxF R C (fun _ _ => 0)) := (hk 10 (by decide)).1
    have h11 : x.v 11 = .int .i64 a := (hk 11 (by decide)).1
    have h12 : x.v 12 = .pointer (some ⟨w0.heap.size, 5, none⟩) := (hk 12 (by decide)).1
    have h13 : x.v 13 = .slice (some ⟨bm, om, none⟩) 2 uh := (hk 13 (by decide)).1
    have h14 : x.v 14 = .pointer (some ⟨bm, om, none⟩) := (hk 14 (by decide)).1
    have h15 : x.v 15 = .agg #[.int .i64 R, .int .i64 C, .slice A0 LA c0] := (hk 15 (by decide)).1
    have s10 := (hk 10 (by decide)).2
    clear hk
    simp only [netAct, dstAt, List.getElem?_toArray, List.getElem?_cons_zero, List.getElem?_cons_succ, Option.bind_some, Act.put, List.setIfInBounds_toArray, List.set_cons_zero, List.set_cons_succ] at hQ ⊢
    simp only [h0, h1, h2, h3, h4, h5, h6, h7, h8, h9, h11, h12, h13, h14, h15] at hQ ⊢
    clear h0 h1 h2 h3 h4 h5 h6 h7 h8 h9 h11 h12 h13 h14 h15
    obtain ⟨A2, c2, e2⟩ := h10.form
    simp only [mxF] at e2
    have h10r := h10.rd
    rw [e2] at h10r hQ ⊢
    have H10 := Lib.hid h10r
    clear h10 h10r
    go_wp2_with fail
    refine (plus_any p a _ _ R C (fun _ _ => 0) fa _ hpr (by omega) H10.out (MxR.more hb.size (MxR.below hb HM0.out)) (by omega) (by omega) (fun _ _ _ _ => by omega) (fun i j hi hj => by have := HFA.out i j hi hj; omega)).mono ?_; rintro e w5 ⟨v5, rfl, hO5, hb5⟩
    go_wp2
    exact hQ _ _ hb5 hO5
  · intro x w hb hk Q' hQ
    clear hk
    simp only [netAct, dstAt, List.getElem?_toArray, List.getElem?_cons_zero, List.getElem?_cons_succ, Option.bind_some, Act.put, List.setIfInBounds_toArray, List.set_cons_zero, List.set_cons_succ] at hQ ⊢
    go_wp2
    exact hQ _ _ (below_alloc _ _) ⟨_, rfl, ⟨Nat.le_refl _, by show w.heap.size < (w.alloc _).heap.size; simp⟩, Blk.new _ _ _⟩
  · intro x w hb hk hiv hdj
    have h0 : x.v 0 = .pointer (some ⟨w0.heap.size, 0, none⟩) := hk 0 (by decide)
    have h1 : x.v 1 = .int .i64 p := hk 1 (by decide)
    have h2 : x.v 2 = .pointer (some ⟨w0.heap.size, 4, none⟩) := hk 2 (by decide)
    have h3 : x.v 3 = .slice (some ⟨bd, od, none⟩) 2 ue := hk 3 (by decide)
    have h4 : x.v 4 = .pointer (some ⟨bd, od + 1, none⟩) := hk 4 (by decide)
    have h5 : x.v 5 = .int .i64 R := hk 5 (by decide)
    have h6 : x.v 6 = .pointer (some ⟨w0.heap.size, 4, none⟩) := hk 6 (by decide)
    have h7 : x.v 7 = .slice (some ⟨bd, od, none⟩) 2 ue := hk 7 (by decide)
    have h8 : x.v 8 = .pointer (some ⟨bd, od, none⟩) := hk 8 (by decide)
    have h9 : x.v 9 = .int .i64 C := hk 9 (by decide)
    have h10 : MxO w (x.lo 10) (x.hi 10) (x.v 10) (mxF R C (fun _ _ => 0)) := hk 10 (by decide)
    have h11 : x.v 11 = .int .i64 a := hk 11 (by decide)
    have h12 : x.v 12 = .pointer (some ⟨w0.heap.size, 5, none⟩) := hk 12 (by decide)
    have h13 : x.v 13 = .slice (some ⟨bm, om, none⟩) 2 uh := hk 13 (by decide)
    have h14 : x.v 14 = .pointer (some ⟨bm, om, none⟩) := hk 14 (by decide)
    have h15 : x.v 15 = .agg #[.int .i64 R, .int .i64 C, .slice A0 LA c0] := hk 15 (by decide)
    have h16 : MxO w (x.lo 16) (x.hi 16) (x.v 16) (mxF R C (plF p a (fun _ _ => 0) fa)) := hk 16 (by decide)
    have h17 : ∃ g, (x.v 17) = .pointer (some ⟨g, 0, none⟩) ∧ ((x.lo 17) ≤ g ∧ g < (x.hi 17)) ∧ Blk w g 60 #[.int .i64 0, .int .i64 0, .slice none 0 0] := hk 17 (by decide)
    clear hk
    simp only [netAct, dstAt, List.getElem?_toArray, List.getElem?_cons_zero, List.getElem?_cons_succ, Option.bind_some, Act.put, List.setIfInBounds_toArray, List.set_cons_zero, List.set_cons_succ]
    simp only [List.drop_succ_cons, List.drop_zero, h0, h1, h2, h3, h4, h5, h6, h7, h8, h9, h11, h12, h13, h14, h15]
    clear h0 h1 h2 h3 h4 h5 h6 h7 h8 h9 h11 h12 h13 h14 h15
    obtain ⟨gR, e17, hg, kG⟩ := h17
    obtain ⟨A2, c2, e16⟩ := h16.form
    simp only [mxF] at e16
    obtain ⟨N2, hN2⟩ : ∃ n, (flat R C (plF p a (fun _ _ => 0) fa)).length = n := ⟨_, rfl⟩
    rw [hN2] at e16
    rw [e16] at h16
    rw [e16, e17]
    have i16 := hiv 16 (by decide)
    have i17 := hiv 17 (by decide)
    have d167 := hdj 16 17 (by decide) (by decide) (by decide)
    clear hiv hdj e16 e17 h10 hN2
    have frG := kG.frozen
    have r0 := kG.cell' (i := 0) rfl
    have r1 := kG.cell' (i := 1) rfl
    have r2 := kG.cell' (i := 2) rfl
    have hbs := hb.size
    obtain ⟨W3, e3⟩ : ∃ u, u = (((w.setCell ⟨gR, 0, none⟩ (.int .i64 R)).setCell ⟨gR, 1, none⟩ (.int .i64 C)).setCell ⟨gR, 2, none⟩ (.slice A2 N2 c2)) := ⟨_, rfl⟩
    have kG3 : Blk W3 gR 60 #[.int .i64 R, .int .i64 C, .slice A2 N2 c2] := by rw [e3]; exact (((kG.set_ 0 _).set_ 1 _).set_ 2 _)
    have hc : Chg gR (gR + 1) w W3 := by rw [e3]; exact chg3 _ _ _ _ _
    have kB3 := (kB.call hb).chg hc (by have := HWS.out; omega)
    have kR3 := (kR.call hb).chg hc (by have := SZ.out; omega)
    have gW3 := hb.trans (hc.below (B := W.heap.size) (by omega) (by omega))
    have h16' := (h16.chg hc (by omega)).rd
    have H16 := Lib.hid h16'
    have s3 := hc.size
    clear h16 h16' kG hb hc d167 i16 i17 hg kB kR
    go_wp2
    rw [← e3]
    clear e3 frG r0 r1 r2 hbs
    have gs3 := gW3.size
    have hbd3 : bd < W3.heap.size := by omega
    have hbm3 : bm < W3.heap.size := by omega
    have z0'' := bcell gW3 hbm2 z0'
    have z1'' := bcell gW3 hbm2 z1'
    have z2'' := bcell gW3 hbm2 z2'
    refine wp_region_net (by kernel_rfl) [.eq (.pointer (some ⟨w0.heap.size, 0, none⟩)), .eq (.int .i64 p), .eq (.agg #[.int .i64 R, .int .i64 C, .slice A2 N2 c2]), .eq (.int .i64 b), .eq (.pointer (some ⟨w0.heap.size, 5, none⟩)), .eq (.slice (some ⟨bm, om, none⟩) 2 uh), .eq (.pointer (some ⟨bm, om + 3, none⟩)), .eq (.agg #[.int .i64 R, .int .i64 C, .slice A1 LB c1]), rel 8 (fun u lo hi w => MxO w lo hi u PM)] [[], [0], [], [], [], [4], [4, 5], [4, 5, 6], [0, 1, 2, 3, 4, 5, 6, 7], [0, 1, 2, 3, 4, 5, 6, 7, 8]] 9 (by kernel_rfl) ⟨trivial, trivial, trivial, trivial, trivial, trivial, trivial, trivial, rel_stable (fun u lo hi w w' h hb => h.below hb), trivial⟩ ⟨?_, ?_, ?_, ?_, ?_, ?_, ?_, ?_, ?_, trivial⟩ ?_
    · intro x w hb hk Q' hQ
      clear hk
      simp only [netAct, dstAt, List.getElem?_toArray, List.getElem?_cons_zero, List.getElem?_cons_succ, Option.bind_some, Act.put, List.setIfInBounds_toArray, List.set_cons_zero, List.set_cons_succ] at hQ ⊢
      go_wp2
      exact hQ (.pointer (some ⟨w0.heap.size, 0, none⟩)) _ (Below.refl _ _) rfl
    · intro x w hb hk Q' hQ
      have h0 : x.v 0 = .pointer (some ⟨w0.heap.size, 0, none⟩) := (hk 0 (by decide)).1
      clear hk
      simp only [netAct, dstAt, List.getElem?_toArray, List.getElem?_cons_zero, List.getElem?_cons_succ, Option.bind_some, Act.put, List.setIfInBounds_toArray, List.set_cons_zero, List.set_cons_succ] at hQ ⊢
      simp only [h0] at hQ ⊢
      clear h0
      have z0 := (kB3.call hb).cell' (i := 0) rfl
      go_wp2
      exact hQ (.int .i64 p) _ (Below.refl _ _) rfl
    · intro x w hb hk Q' hQ
      clear hk
      simp only [netAct, dstAt, List.getElem?_toArray, List.getElem?_cons_zero, List.getElem?_cons_succ, Option.bind_some, Act.put, List.setIfInBounds_toArray, List.set_cons_zero, List.set_cons_succ] at hQ ⊢
      have q0 := (kG3.call hb).cell' (i := 0) rfl
      have q1 := (kG3.call hb).cell' (i := 1) rfl
      have q2 := (kG3.call hb).cell' (i := 2) rfl
      go_wp2
      exact hQ (.agg #[.int .i64 R, .int .i64 C, .slice A2 N2 c2]) _ (Below.refl _ _) rfl
    · intro x w hb hk Q' hQ
      clear hk
      simp only [netAct, dstAt, List.getElem?_toArray, List.getElem?_cons_zero, List.getElem?_cons_succ, Option.bind_some, Act.put, List.setIfInBounds_toArray, List.set_cons_zero, List.set_cons_succ] at hQ ⊢
      go_wp2
      exact hQ (.int .i64 b) _ (Below.refl _ _) rfl
    · intro x w hb hk Q' hQ
      clear hk
      simp only [netAct, dstAt, List.getElem?_toArray, List.getElem?_cons_zero, List.getElem?_cons_succ, Option.bind_some, Act.put, List.setIfInBounds_toArray, List.set_cons_zero, List.set_cons_succ] at hQ ⊢
      go_wp2
      exact hQ (.pointer (some ⟨w0.heap.size, 5, none⟩)) _ (Below.refl _ _) rfl
    · intro x w hb hk Q' hQ
      have h4 : x.v 4 = .pointer (some ⟨w0.heap.size, 5, none⟩) := (hk 4 (by decide)).1
      clear hk
      simp only [netAct, dstAt, List.getElem?_toArray, List.getElem?_cons_zero, List.getElem?_cons_succ, Option.bind_some, Act.put, List.setIfInBounds_toArray, List.set_cons_zero, List.set_cons_succ] at hQ ⊢
      simp only [h4] at hQ ⊢
      clear h4
      have z0 := (kB3.call hb).cell' (i := 5) rfl
      go_wp2
      exact hQ (.slice (some ⟨bm, om, none⟩) 2 uh) _ (Below.refl _ _) rfl
    · intro x w hb hk Q' hQ
      have h5 : x.v 5 = .slice (some ⟨bm, om, none⟩) 2 uh := (hk 5 (by decide)).1
      clear hk
      simp only [netAct, dstAt, List.getElem?_toArray, List.getElem?_cons_zero, List.getElem?_cons_succ, Option.bind_some, Act.put, List.setIfInBounds_toArray, List.set_cons_zero, List.set_cons_succ] at hQ ⊢
      simp only [h5] at hQ ⊢
      clear h5
      go_wp2
      exact hQ (.pointer (some ⟨bm, om + 3, none⟩)) _ (Below.refl _ _) rfl
    · intro x w hb hk Q' hQ
      have h6 : x.v 6 = .pointer (some ⟨bm, om + 3, none⟩) := (hk 6 (by decide)).1
      clear hk
      simp only [netAct, dstAt, List.getElem?_toArray, List.getElem?_cons_zero, List.getElem?_cons_succ, Option.bind_some, Act.put, List.setIfInBounds_toArray, List.set_cons_zero, List.set_cons_succ] at hQ ⊢
      simp only [h6] at hQ ⊢
      clear h6
      have q0 := bcell hb hbm3 z0''
      have q1 := bcell hb hbm3 z1''
      have q2 := bcell hb hbm3 z2''
      go_wp2
      exact hQ (.agg #[.int .i64 R, .int .i64 C, .slice A1 LB c1]) _ (Below.refl _ _) rfl
    · intro x w hb hk Q' hQ
      have h0 : x.v 0 = .pointer (some ⟨w0.heap.size, 0, none⟩) := (hk 0 (by decide)).1
      have h1 : x.v 1 = .int .i64 p := (hk 1 (by decide)).1
      have h2 : x.v 2 = .agg #[.int .i64 R, .int .i64 C, .slice A2 N2 c2] := (hk 2 (by decide)).1
      have h3 : x.v 3 = .int .i64 b := (hk 3 (by decide)).1
      have h4 : x.v 4 = .pointer (some ⟨w0.heap.size, 5, none⟩) := (hk 4 (by decide)).1
      have h5 : x.v 5 = .slice (some ⟨bm, om, none⟩) 2 uh := (hk 5 (by decide)).1
      have h6 : x.v 6 = .pointer (some ⟨bm, om + 3, none⟩) := (hk 6 (by decide)).1
      have h7 : x.v 7 = .agg #[.int .i64 R, .int .i64 C, .slice A1 LB c1] := (hk 7 (by decide)).1
      clear hk
      simp only [netAct, dstAt, List.getElem?_toArray, List.getElem?_cons_zero, List.getElem?_cons_succ, Option.bind_some, Act.put, List.setIfInBounds_toArray, List.set_cons_zero, List.set_cons_succ] at hQ ⊢
      simp only [h0, h1, h2, h3, h4, h5, h6, h7] at hQ ⊢
      clear h0 h1 h2 h3 h4 h5 h6 h7
      have hm2 := MxR.next hb H16.out
      have HM2 := Lib.hid hm2
      have hm3 := MxR.more (show W.heap.size ≤ w.heap.size by have := hb.size; omega) (MxR.below (gW3.trans (hb.mono gs3)) HM1.out)
      have HM3 := Lib.hid hm3
      clear hm2 hm3
      go_wp2_with fail
      refine (plus_any p b _ _ R C (plF p a (fun _ _ => 0) fa) fb _ hpr (by omega) HM2.out HM3.out (by omega) (by omega) (fun i j _ _ => plF_rng hpr i j) (fun i j hi hj => by have := HFB.out i j hi hj; omega)).mono ?_; rintro e w5 ⟨v5, rfl, hO5, hb5⟩
      rw [← HPM.out] at hO5
      go_wp2
      exact hQ _ _ hb5 hO5
    · intro x w hb hk hiv hdj
      have h0 : x.v 0 = .pointer (some ⟨w0.heap.size, 0, none⟩) := hk 0 (by decide)
      have h1 : x.v 1 = .int .i64 p := hk 1 (by decide)
      have h2 : x.v 2 = .agg #[.int .i64 R, .int .i64 C, .slice A2 N2 c2] := hk 2 (by decide)
      have h3 : x.v 3 = .int .i64 b := hk 3 (by decide)
      have h4 : x.v 4 = .pointer (some ⟨w0.heap.size, 5, none⟩) := hk 4 (by decide)
      have h5 : x.v 5 = .slice (some ⟨bm, om, none⟩) 2 uh := hk 5 (by decide)
      have h6 : x.v 6 = .pointer (some ⟨bm, om + 3, none⟩) := hk 6 (by decide)
      have h7 : x.v 7 = .agg #[.int .i64 R, .int .i64 C, .slice A1 LB c1] := hk 7 (by decide)
      have h8 : MxO w (x.lo 8) (x.hi 8) (x.v 8) PM := hk 8 (by decide)
      clear hk
      simp only [netAct, dstAt, List.getElem?_toArray, List.getElem?_cons_zero, List.getElem?_cons_succ, Option.bind_some, Act.put, List.setIfInBounds_toArray, List.set_cons_zero, List.set_cons_succ]
      simp only [List.drop_succ_cons, List.drop_zero, h0, h1, h2, h3, h4, h5, h6, h7]
      clear h0 h1 h2 h3 h4 h5 h6 h7
      have i8 := hiv 8 (by decide)
      obtain ⟨A7, c7, e7⟩ := h8.form
      rw [e7] at h8 ⊢
      clear hiv hdj e7
      obtain ⟨N, hN⟩ : ∃ N, PM.a.length = N := ⟨_, rfl⟩
      rw [hN] at h8 ⊢
      have kX := kR3.call hb
      have p0 := kX.cell' (i := 0) rfl
      have p1 := kX.cell' (i := 1) rfl
      have p2 := kX.cell' (i := 2) rfl
      have fr := kX.frozen
      have sz := SZ.out
      have gX := (GW0.out).trans ((gW3.mono (by omega)).trans (hb.mono (by omega)))
      have gXs := gX.size
      have hbs := hb.size
      have h2 := chg3 w (w0.heap.size + 1) (.int .i64 PM.r) (.int .i64 PM.c) (.slice A7 N c7)
      have OF := Lib.hid ((h8.chg h2 (.inr (by omega))).wider (lo' := w0.heap.size) (hi' := w.heap.size) (by omega) (by omega))
      have GF := Lib.hid (gX.trans (h2.below (by omega) gXs))
      clear h8 h2 gX kX hN sz gXs hbs i8 hb kB3 kR3 kG3
      go_wp2
      exact bodyPost_ret (v := .agg #[.int .i64 PM.r, .int .i64 PM.c, .slice A7 N c7]) (by simp [results, go_sem, p0, p1, p2]) rfl ⟨_, rfl, OF.out.wider (Nat.le_refl _) (by simp), GF.out⟩
end Go.Proofs.Ytbgjhnolnccnnaa
