/- FnExactReflectSource: for every argument the program's function returns what the reference's returns. Part 11 of 14 of the proof: InOut5, Rank, RsrI, RsrQ, RpJ, CpQ, RvB. No condition. -/
import Derived.Test.YtaefpblpfjhgoaaGreatBReflectSource10
/- The reference's OutgoingMatrix. -/
namespace Go.Proofs.YtaefpblpfjhgoaaGreat
set_option linter.unusedVariables false
set_option linter.unusedSimpArgs false
open Go.RowKit
set_option maxHeartbeats 6400000 in
set_option maxRecDepth 100000 in
theorem specOut_yes (u : Value) (x : Rp) (v : Int) (w0 : World) (hu : RpR w0 w0.heap.size u x) (hyes : outOk x v = true) :
    Calls Tryz.prog 23 #[u, .int .i64 v] w0 fun e w' => ∃ r, e = .returned (.tuple #[r, .bool (outP x v).2]) ∧ MxO w' w0.heap.size w'.heap.size r (outP x v).1 ∧ Below w0.heap.size w0 w' := by
  have hu' := hu
  obtain ⟨A, a, C, c, E, e, H, h, rfl, hq, hd, hm, hp, ld, lm⟩ := hu.open_
  clear hu
  obtain ⟨W, hW⟩ : ∃ W, W = (w0.alloc (.cells #[.int .i64 x.p, .int .i64 x.q.v, .slice A x.q.f.length a, .slice C x.q.t.length c, .slice E x.d.length e, .slice H x.m.length h] 32)).alloc (.cells #[.int .i64 0, .int .i64 0, .slice none 0 0] 50) := ⟨_, rfl⟩
  have g0 : Below w0.heap.size w0 W := by rw [hW]; exact ((Below.refl _ _).alloc (Nat.le_refl _) _).alloc (by simp) _
  have kB : Blk W w0.heap.size 32 #[.int .i64 x.p, .int .i64 x.q.v, .slice A x.q.f.length a, .slice C x.q.t.length c, .slice E x.d.length e, .slice H x.m.length h] := by rw [hW]; exact (Blk.new _ _ _).alloc _
  have kR : Blk W (w0.heap.size + 1) 50 #[.int .i64 0, .int .i64 0, .slice none 0 0] := by
    rw [hW]
    have := Blk.new (w0.alloc (.cells #[.int .i64 x.p, .int .i64 x.q.v, .slice A x.q.f.length a, .slice C x.q.t.length c, .slice E x.d.length e, .slice H x.m.length h] 32)) 50 #[.int .i64 0, .int .i64 0, .slice none 0 0]
    simpa only [World.size_alloc] using this
  have sz : W.heap.size = w0.heap.size + 1 + 1 := by rw [hW]; simp
  replace hq := QvR.next g0 hq
  replace hd := SlI.next g0 hd
  replace hm := SlM.next g0 hm
  have h1 : isRep x = true := by simp only [outOk, Bool.and_eq_true] at hyes; exact hyes.1
  have h2 : endV x.q.t x.q v = true := by simp only [outOk, Bool.and_eq_true] at hyes; exact hyes.2
  have hq1 : isQ x.q = true := (areDims_t.1 (isRep_t.1 h1).2.1).1
  obtain ⟨n, D, rfl, hn, dn, hD, hD4, hn5⟩ := vert_at h1 h2
  have HF := Lib.hid (outP_yes hyes hD)
  have DN := Lib.hid dn
  have H1 := Lib.hid h1
  have H2 := Lib.hid h2
  have HQ1 := Lib.hid hq1
  have SZ := Lib.hid sz
  have hl6 : x.q.f.length ≤ 6 := (isQ_t.1 hq1).2.2.1
  have HXR := Lib.hid (show RpR W W.heap.size (.agg #[.int .i64 x.p, .int .i64 x.q.v, .slice A x.q.f.length a, .slice C x.q.t.length c, .slice E x.d.length e, .slice H x.m.length h]) x from RpR.next g0 hu')
  have HQ := Lib.hid hq
  have HD := Lib.hid hd
  have HM := Lib.hid hm
  have KB := Lib.hid kB
  have KR := Lib.hid kR
  have G0 := Lib.hid g0
  clear h1 h2 hq1 sz hD hyes hu' hm
  have c0 := kB.cell' (i := 0) rfl
  have c1 := kB.cell' (i := 1) rfl
  have c2 := kB.cell' (i := 2) rfl
  have c3 := kB.cell' (i := 3) rfl
  have c4 := kB.cell' (i := 4) rfl
  have c5 := kB.cell' (i := 5) rfl
  go_enter Tryz.func23, Tryz.ntmps23
  go_wp2_with fail
  rw [← hW]; clear hW
  refine (specIsRep_any _ x _ HXR.out).mono ?_; rintro e w1 ⟨rfl, hb1⟩
  rw [H1.out]
  replace kB := kB.call hb1
  replace hq := QvR.next hb1 hq
  have gW := hb1
  clear c0 c1 c2 c3 c4 c5 hb1
  have c0 := kB.cell' (i := 0) rfl
  have c1 := kB.cell' (i := 1) rfl
  have c2 := kB.cell' (i := 2) rfl
  have c3 := kB.cell' (i := 3) rfl
  have c4 := kB.cell' (i := 4) rfl
  have c5 := kB.cell' (i := 5) rfl
  go_wp2_with fail
  refine (sourcesOf_any _ x.q _ hq HQ1.out).mono ?_; rintro e w2a ⟨sv, rfl, hsv, hb1⟩
  have H3 := Lib.hid (show decide ((n : Int) ∈ freeV x.q.t x.q.v.toNat) = true by rw [freeV_mem _ _ x.q _ (by have := (isQ_t.1 HQ1.out).1; omega)]; exact H2.out)
  replace kB := kB.call hb1
  replace gW := bthen gW hb1
  clear c0 c1 c2 c3 c4 c5 hb1
  have c0 := kB.cell' (i := 0) rfl
  have c1 := kB.cell' (i := 1) rfl
  have c2 := kB.cell' (i := 2) rfl
  have c3 := kB.cell' (i := 3) rfl
  have c4 := kB.cell' (i := 4) rfl
  have c5 := kB.cell' (i := 5) rfl
  go_wp2_with fail
  refine (l4Has_any _ _ n _ hsv).mono ?_; rintro e w2 ⟨rfl, hb1⟩
  rw [H3.out]
  clear hsv
  replace kB := kB.call hb1
  replace gW := bthen gW hb1
  clear c0 c1 c2 c3 c4 c5 hb1 hq
  have c0 := kB.cell' (i := 0) rfl
  have c1 := kB.cell' (i := 1) rfl
  have c2 := kB.cell' (i := 2) rfl
  have c3 := kB.cell' (i := 3) rfl
  have c4 := kB.cell' (i := 4) rfl
  have c5 := kB.cell' (i := 5) rfl
  have hd2 := SlI.more gW.size (SlI.below gW hd)
  obtain ⟨be, oe, xe, rfl, hbe, HXE, xc, _⟩ := SlI.at_ hd2 hn
  have ex := HXE.out
  rw [dn] at ex
  injection ex with ex
  subst ex
  clear hd hd2 HXE hbe
  go_wp2_with fail
  refine (l3Zero_any 0 (D : Int) _ (by omega) (by omega) (by omega) (by omega)).mono ?_; rintro e w3 ⟨v3, rfl, hZ, hb3⟩
  rw [outM_0 x n D] at hZ
  obtain ⟨MA, mc, e3⟩ := hZ.form
  subst e3
  have gW3 := bthen gW hb3
  have hs3 := hb3.size
  have hs2 := gW.size
  obtain ⟨N3, hN3⟩ : ∃ nn, (outM x n D 0).a.length = nn := ⟨_, rfl⟩
  rw [hN3] at hZ ⊢
  obtain ⟨W4, hW4⟩ : ∃ W4, W4 = w3.alloc (.cells #[.int .i64 (outM x n D 0).r, .int .i64 (outM x n D 0).c, .slice MA N3 mc] 50) := ⟨_, rfl⟩
  have b4 : Below w3.heap.size w3 W4 := by rw [hW4]; exact below_alloc _ _
  have k4 : Blk W4 w3.heap.size 50 #[.int .i64 (outM x n D 0).r, .int .i64 (outM x n D 0).c, .slice MA N3 mc] := by rw [hW4]; exact Blk.new _ _ _
  have l4 : w3.heap.size < W4.heap.size := k4.lt
  have kB4 := (kB.call hb3).call b4
  have gW4 := bthen gW3 b4
  have hO := (hZ.below b4).wider (lo' := W.heap.size) (hi' := W4.heap.size) (by omega) (by omega)
  clear c0 c1 c2 c3 c4 c5 xc hZ hb3 b4 gW gW3 kB hN3
  have c0 := kB4.cell' (i := 0) rfl
  have c1 := kB4.cell' (i := 1) rfl
  have c2 := kB4.cell' (i := 2) rfl
  have c3 := kB4.cell' (i := 3) rfl
  have c4 := kB4.cell' (i := 4) rfl
  have c5 := kB4.cell' (i := 5) rfl
  rw [hW4] at c0 c1 c2 c3 c4 c5
  go_wp2
  rw [← hW4]
  clear hW4 c0 c1 c2 c3 c4 c5 kB4
  go_loopw [7] (fun i wr => ∃ (k N mc : Nat) (MA : Option Addr), k ≤ x.q.f.length ∧ i = .int .i64 k ∧ Below W.heap.size W wr ∧ Blk wr w3.heap.size 50 #[.int .i64 (outM x n D k).r, .int .i64 (outM x n D k).c, .slice MA N mc] ∧ MxO wr W.heap.size wr.heap.size (.agg #[.int .i64 (outM x n D k).r, .int .i64 (outM x n D k).c, .slice MA N mc]) (outM x n D k)) (fun i _ => x.q.f.length - (intOf i).toNat)
  case atStart => exact ⟨0, _, _, _, Nat.zero_le _, rfl, gW4, k4, hO⟩
  case round =>
    clear k4 hO gW4
    obtain ⟨k, N, mc, MA, hk, rfl, gW, k4, hO⟩ := hrel
    have s6 := gW.size
    have hml : x.m.length ≤ x.q.f.length := by have := (isRep_t.1 H1.out).2.2.1; omega
    have kBr := (KB.out).below gW (KB.out).lt
    have c0 := kBr.cell' (i := 0) rfl
    have c1 := kBr.cell' (i := 1) rfl
    have c2 := kBr.cell' (i := 2) rfl
    have c3 := kBr.cell' (i := 3) rfl
    have c4 := kBr.cell' (i := 4) rfl
    have c5 := kBr.cell' (i := 5) rfl
    by_cases hlt : k < x.q.f.length
    · obtain ⟨m, nf, nt, yf, yt, em, ef, et, df, dt, eM, _, b1, b2, b3, b4, b5, b6, b7, b8⟩ := isRep_at H1.out hlt
      obtain ⟨hsf, hst⟩ := QvR.sl HQ.out
      obtain ⟨bf, of_, xf, rfl, hbf, HXF, f1, _⟩ := SlI.at_ hsf hlt
      have q1 := HXF.out
      rw [ef] at q1
      injection q1 with q1
      subst q1
      have f2 := bcell gW hbf f1
      have hm := HM.out
      obtain ⟨bm, om, m', MB, mb, rfl, hbm, HXM, x0, x1, x2, hsl, hr1, hr2, _⟩ := SlM.at_ hm b8
      have q2 := HXM.out
      rw [em] at q2
      injection q2 with q2
      subst q2
      have HMR : Hid (MxR W W.heap.size (.agg #[.int .i64 m.r, .int .i64 m.c, .slice MB m.a.length mb]) m) := ⟨_, rfl, hsl, hr1, hr2⟩
      have EF := Lib.hid ef
      have DF := Lib.hid df
      have EM := Lib.hid em
      have EMX := Lib.hid eM
      clear HXF HXM hsf hst hm hsl hr1 hr2 f1 em ef et df dt eM
      by_cases hv : nf = n
      · subst hv
        have hR := outS_le (v := (nf : Int)) (C := D) H1.out k hk
        have hyD : yf = D := by have := DN.out; rw [DF.out] at this; injection this with this; omega
        subst hyD
        have e1 := outS_yes (C := yf) EF.out EM.out (yt := yt) (by rw [EMX.out]; rfl)
        have e2 : outM x nf yf (k + 1) = mxF ((outS x nf yf k).1 + yt) yf (blF (outS x nf yf k).1 (outS x nf yf k).2 (entry m.a yf)) := by unfold outM; rw [e1]
        have E2 := Lib.hid e2
        have HR := Lib.hid hR
        have gws := gW.size
        have hHO := Lib.hid hO
        have x0' := bcell gW hbm x0
        have x1' := bcell gW hbm x1
        have x2' := bcell gW hbm x2
        have hbmw : bm < wr.heap.size := by omega
        clear e1 e2 hR x0 x1 x2 hO
        have hMr : (outM x nf yf k).r = ((outS x nf yf k).1 : Nat) := rfl
        have hMc : (outM x nf yf k).c = (yf : Int) := rfl
        rw [hMr, hMc] at k4 hHO
        obtain ⟨R0, hR0⟩ : ∃ R0, (outS x nf yf k).1 = R0 := ⟨_, rfl⟩
        rw [hR0] at k4 hHO
        have hR24 : R0 ≤ 24 := by have := HR.out; omega
        have hmr : m.r = (yt : Int) := by rw [EMX.out]; rfl
        rw [hmr] at x0'
        have HR0 := Lib.hid hR0
        have E3 := Lib.hid (show (outM x nf yf k).a ++ m.a = (outM x nf yf (k + 1)).a by
          rw [E2.out]
          have e5 : m.a = flat yt yf (entry m.a yf) := congrArg Mx.a EMX.out
          show flat _ _ _ ++ m.a = flat _ _ _
          rw [← flat_app, ← e5])
        have E4 : Hid ((outM x nf yf (k + 1)).r = (R0 : Int) + yt ∧ (outM x nf yf (k + 1)).c = (yf : Int)) := by
          show _ ∧ _
          rw [E2.out, ← hR0]
          exact ⟨by simp [mxF], rfl⟩
        have HLN : Hid ((outM x nf yf k).a.length + m.a.length ≤ 1000) := by
          show _ ≤ _
          rw [← List.length_append, E3.out, E2.out]
          simp only [mxF, flat_length]
          exact Nat.le_trans (Nat.mul_le_mul (show _ ≤ 100 by omega) (show _ ≤ 4 by omega)) (by decide)
        clear hMr hMc hR0 hmr
        go_wp2
        obtain ⟨y, hy⟩ : ∃ y, y = x := ⟨_, rfl⟩
        subst hy
        refine wp_region_netC (by kernel_rfl) [.eq (.pointer (some ⟨w3.heap.size, 0, none⟩)), .eq (.int .i64 R0), .eq (.pointer (some ⟨w0.heap.size, 5, none⟩)), .eq (.slice (some ⟨bm, om, none⟩) y.m.length h), .eq (.int .i64 k), .eq (.pointer (some ⟨bm, om + k * 3, none⟩)), .eq (.pointer (some ⟨bm, om + k * 3, none⟩)), .eq (.int .i64 yt), .eq (.int .i64 ((R0 : Int) + yt)), .eq (.pointer (some ⟨w3.heap.size, 1, none⟩)), .eq (.int .i64 yf), rel 11 (fun u lo hi w => Fresh w wr.heap.size u), .eq (.pointer (some ⟨w3.heap.size, 2, none⟩)), .eq (.slice MA N mc), rel 14 (fun u lo hi w => OwnI w wr.heap.size u (outM y nf yf k).a), .eq (.pointer (some ⟨w0.heap.size, 5, none⟩)), .eq (.slice (some ⟨bm, om, none⟩) y.m.length h), .eq (.int .i64 k), .eq (.pointer (some ⟨bm, om + k * 3, none⟩)), .eq (.pointer (some ⟨bm, om + k * 3 + 2, none⟩)), .eq (.slice MB m.a.length mb), rel 21 (fun u lo hi w => OwnI w wr.heap.size u ((outM y nf yf k).a ++ m.a)), rel 22 (fun u lo hi w => ∃ s, u = .agg #[.int .i64 (outM y nf yf (k + 1)).r, .int .i64 (outM y nf yf (k + 1)).c, s] ∧ OwnI w wr.heap.size s (outM y nf yf (k + 1)).a)] [[], [0], [], [2], [], [2, 3, 4], [2, 3, 4, 5], [2, 3, 4, 5, 6], [0, 1, 2, 3, 4, 5, 6, 7], [], [9], [], [], [12], [11, 12, 13], [], [15], [], [15, 16, 17], [15, 16, 17, 18], [15, 16, 17, 18, 19], [11, 12, 13, 14, 15, 16, 17, 18, 19, 20], [0, 1, 2, 3, 4, 5, 6, 7, 8, 9, 10, 11, 12, 13, 14, 15, 16, 17, 18, 19, 20, 21], [0, 1, 2, 3, 4, 5, 6, 7, 8, 9, 10, 11, 12, 13, 14, 15, 16, 17, 18, 19, 20, 21, 22]] [[], [0], [], [2], [], [2, 3, 4], [2, 3, 4, 5], [2, 3, 4, 5, 6], [0, 1, 2, 3, 4, 5, 6, 7], [], [9], [], [], [12], [11, 12, 13], [], [15], [], [15, 16, 17], [15, 16, 17, 18], [15, 16, 17, 18, 19], [11, 12, 13, 14, 15, 16, 17, 18, 19, 20], [0, 1, 2, 3, 4, 5, 6, 7, 8, 9, 10, 12, 13, 15, 16, 17, 18, 19, 20, 21]] [0, 1, 2, 3, 4, 5, 6, 7, 8, 9, 10, 12, 13, 15, 16, 17, 18, 19, 20, 21, 22] 23 21 (by kernel_rfl) (by kernel_rfl) ⟨.inr (.inr ⟨_, rfl⟩), .inr (.inr ⟨_, rfl⟩), .inr (.inr ⟨_, rfl⟩), .inr (.inr ⟨_, rfl⟩), .inr (.inr ⟨_, rfl⟩), .inr (.inr ⟨_, rfl⟩), .inr (.inr ⟨_, rfl⟩), .inr (.inr ⟨_, rfl⟩), .inr (.inr ⟨_, rfl⟩), .inr (.inr ⟨_, rfl⟩), .inr (.inr ⟨_, rfl⟩), .inr (.inr ⟨_, rfl⟩), .inr (.inr ⟨_, rfl⟩), .inr (.inr ⟨_, rfl⟩), .inr (.inr ⟨_, rfl⟩), .inr (.inr ⟨_, rfl⟩), .inr (.inr ⟨_, rfl⟩), .inr (.inr ⟨_, rfl⟩), .inr (.inr ⟨_, rfl⟩), .inl rfl, .inr (.inl rfl), trivial⟩ ⟨trivial, trivial, trivial, trivial, trivial, trivial, trivial, trivial, trivial, trivial, trivial, rel_stable (fun u lo hi w w' h hb => h.below hb), trivial, trivial, rel_stable (fun u lo hi w w' h hb => h.below hb), trivial, trivial, trivial, trivial, trivial, trivial, rel_stable (fun u lo hi w w' h hb => h.below hb), rel_stable (fun u lo hi w w' ⟨s, e, h⟩ hb => ⟨s, e, h.below hb⟩), trivial⟩ ⟨?_, ?_, ?_, ?_, ?_, ?_, ?_, ?_, ?_, ?_, ?_, ?_, ?_, ?_, ?_, ?_, ?_, ?_, ?_, ?_, ?_, ?_, ?_, trivial⟩ ?_
        · intro x w hb hk Q' hQ
          clear hk
          simp only [netAct, dstAt, List.getElem?_toArray, List.getElem?_cons_zero, List.getElem?_cons_succ, Option.bind_some, Act.put, List.setIfInBounds_toArray, List.set_cons_zero, List.set_cons_succ] at hQ ⊢
          go_wp2
          exact hQ (.pointer (some ⟨w3.heap.size, 0, none⟩)) _ (Below.refl _ _) rfl
        · intro x w hb hk Q' hQ
          have h0 : x.v 0 = .pointer (some ⟨w3.heap.size, 0, none⟩) := (hk 0 (by decide)).1
          clear hk
          simp only [netAct, dstAt, List.getElem?_toArray, List.getElem?_cons_zero, List.getElem?_cons_succ, Option.bind_some, Act.put, List.setIfInBounds_toArray, List.set_cons_zero, List.set_cons_succ] at hQ ⊢
          simp only [h0] at hQ ⊢
          clear h0
          have z0 := (k4.below hb k4.lt).cell' (i := 0) rfl
          go_wp2
          exact hQ (.int .i64 R0) _ (Below.refl _ _) rfl
        · intro x w hb hk Q' hQ
          clear hk
          simp only [netAct, dstAt, List.getElem?_toArray, List.getElem?_cons_zero, List.getElem?_cons_succ, Option.bind_some, Act.put, List.setIfInBounds_toArray, List.set_cons_zero, List.set_cons_succ] at hQ ⊢
          go_wp2
          exact hQ (.pointer (some ⟨w0.heap.size, 5, none⟩)) _ (Below.refl _ _) rfl
        · intro x w hb hk Q' hQ
          have h2 : x.v 2 = .pointer (some ⟨w0.heap.size, 5, none⟩) := (hk 2 (by decide)).1
          clear hk
          simp only [netAct, dstAt, List.getElem?_toArray, List.getElem?_cons_zero, List.getElem?_cons_succ, Option.bind_some, Act.put, List.setIfInBounds_toArray, List.set_cons_zero, List.set_cons_succ] at hQ ⊢
          simp only [h2] at hQ ⊢
          clear h2
          have z5 := (kBr.below hb kBr.lt).cell' (i := 5) rfl
          go_wp2
          exact hQ (.slice (some ⟨bm, om, none⟩) y.m.length h) _ (Below.refl _ _) rfl
        · intro x w hb hk Q' hQ
          clear hk
          simp only [netAct, dstAt, List.getElem?_toArray, List.getElem?_cons_zero, List.getElem?_cons_succ, Option.bind_some, Act.put, List.setIfInBounds_toArray, List.set_cons_zero, List.set_cons_succ] at hQ ⊢
          go_wp2
          exact hQ (.int .i64 k) _ (Below.refl _ _) rfl
        · intro x w hb hk Q' hQ
          have h3 : x.v 3 = .slice (some ⟨bm, om, none⟩) y.m.length h := (hk 3 (by decide)).1
          have h4 : x.v 4 = .int .i64 k := (hk 4 (by decide)).1
          clear hk
          simp only [netAct, dstAt, List.getElem?_toArray, List.getElem?_cons_zero, List.getElem?_cons_succ, Option.bind_some, Act.put, List.setIfInBounds_toArray, List.set_cons_zero, List.set_cons_succ] at hQ ⊢
          simp only [h3, h4] at hQ ⊢
          clear h3 h4
          go_wp2
          exact hQ (.pointer (some ⟨bm, om + k * 3, none⟩)) _ (Below.refl _ _) rfl
        · intro x w hb hk Q' hQ
          have h5 : x.v 5 = .pointer (some ⟨bm, om + k * 3, none⟩) := (hk 5 (by decide)).1
          clear hk
          simp only [netAct, dstAt, List.getElem?_toArray, List.getElem?_cons_zero, List.getElem?_cons_succ, Option.bind_some, Act.put, List.setIfInBounds_toArray, List.set_cons_zero, List.set_cons_succ] at hQ ⊢
          simp only [h5] at hQ ⊢
          clear h5
          go_wp2
          exact hQ (.pointer (some ⟨bm, om + k * 3, none⟩)) _ (Below.refl _ _) rfl
        · intro x w hb hk Q' hQ
          have h6 : x.v 6 = .pointer (some ⟨bm, om + k * 3, none⟩) := (hk 6 (by decide)).1
          clear hk
          simp only [netAct, dstAt, List.getElem?_toArray, List.getElem?_cons_zero, List.getElem?_cons_succ, Option.bind_some, Act.put, List.setIfInBounds_toArray, List.set_cons_zero, List.set_cons_succ] at hQ ⊢
          simp only [h6] at hQ ⊢
          clear h6
          have z0 := bcell hb hbmw x0'
          go_wp2
          exact hQ (.int .i64 yt) _ (Below.refl _ _) rfl
        · intro x w hb hk Q' hQ
          have h1 : x.v 1 = .int .i64 R0 := (hk 1 (by decide)).1
          have h7 : x.v 7 = .int .i64 yt := (hk 7 (by decide)).1
          clear hk
          simp only [netAct, dstAt, List.getElem?_toArray, List.getElem?_cons_zero, List.getElem?_cons_succ, Option.bind_some, Act.put, List.setIfInBounds_toArray, List.set_cons_zero, List.set_cons_succ] at hQ ⊢
          simp only [h1, h7] at hQ ⊢
          clear h1 h7
          go_wp2
          exact hQ (.int .i64 ((R0 : Int) + yt)) _ (Below.refl _ _) rfl
        · intro x w hb hk Q' hQ
          clear hk
          simp only [netAct, dstAt, List.getElem?_toArray, List.getElem?_cons_zero, List.getElem?_cons_succ, Option.bind_some, Act.put, List.setIfInBounds_toArray, List.set_cons_zero, List.set_cons_succ] at hQ ⊢
          go_wp2
          exact hQ (.pointer (some ⟨w3.heap.size, 1, none⟩)) _ (Below.refl _ _) rfl
        · intro x w hb hk Q' hQ
          have h9 : x.v 9 = .pointer (some ⟨w3.heap.size, 1, none⟩) := (hk 9 (by decide)).1
          clear hk
          simp only [netAct, dstAt, List.getElem?_toArray, List.getElem?_cons_zero, List.getElem?_cons_succ, Option.bind_some, Act.put, List.setIfInBounds_toArray, List.set_cons_zero, List.set_cons_succ] at hQ ⊢
          simp only [h9] at hQ ⊢
          clear h9
          have z0 := (k4.below hb k4.lt).cell' (i := 1) rfl
          go_wp2
          exact hQ (.int .i64 yf) _ (Below.refl _ _) rfl
        · intro x w hb hk Q' hQ
          clear hk
          simp only [netAct, dstAt, List.getElem?_toArray, List.getElem?_cons_zero, List.getElem?_cons_succ, Option.bind_some, Act.put, List.setIfInBounds_toArray, List.set_cons_zero, List.set_cons_succ] at hQ ⊢
          go_wp2
          exact hQ _ _ (below_alloc _ _) (Fresh.new _ hb.size)
        · intro x w hb hk Q' hQ
          clear hk
          simp only [netAct, dstAt, List.getElem?_toArray, List.getElem?_cons_zero, List.getElem?_cons_succ, Option.bind_some, Act.put, List.setIfInBounds_toArray, List.set_cons_zero, List.set_cons_succ] at hQ ⊢
          go_wp2
          exact hQ (.pointer (some ⟨w3.heap.size, 2, none⟩)) _ (Below.refl _ _) rfl
        · intro x w hb hk Q' hQ
          have h12 : x.v 12 = .pointer (some ⟨w3.heap.size, 2, none⟩) := (hk 12 (by decide)).1
          clear hk
          simp only [netAct, dstAt, List.getElem?_toArray, List.getElem?_cons_zero, List.getElem?_cons_succ, Option.bind_some, Act.put, List.setIfInBounds_toArray, List.set_cons_zero, List.set_cons_succ] at hQ ⊢
          simp only [h12] at hQ ⊢
          clear h12
          have z0 := (k4.below hb k4.lt).cell' (i := 2) rfl
          go_wp2
          exact hQ (.slice MA N mc) _ (Below.refl _ _) rfl
        · intro x w hb hk Q' hQ
          have h11 : Fresh w wr.heap.size (x.v 11) := (hk 11 (by decide)).1
          have h12 : x.v 12 = .pointer (some ⟨w3.heap.size, 2, none⟩) := (hk 12 (by decide)).1
          have h13 : x.v 13 = .slice MA N mc := (hk 13 (by decide)).1
          have s11 := (hk 11 (by decide)).2
          clear hk
          simp only [netAct, dstAt, List.getElem?_toArray, List.getElem?_cons_zero, List.getElem?_cons_succ, Option.bind_some, Act.put, List.setIfInBounds_toArray, List.set_cons_zero, List.set_cons_succ] at hQ ⊢
          simp only [h12, h13] at hQ ⊢
          clear h12 h13
          obtain ⟨g7, e7, hg7, hB7⟩ := h11
          obtain ⟨s0, e0, hs0, _⟩ := ((hHO.out).below hb).rd
          simp only [Value.agg.injEq, Array.mk.injEq, List.cons.injEq, and_true] at e0
          obtain ⟨_, _, rfl⟩ := e0
          obtain ⟨A1, c1, e1⟩ := hs0.app_len
          injection e1 with q1 q2 q3
          subst q1 q3
          rw [q2] at hs0
          rw [e7, q2] at hQ ⊢
          refine wpList_append_fresh (by rfl) (.tmp 52) (.tmp 54) (by rfl) g7 wr.heap.size w.heap.size #[] (by rfl) hB7 rfl hg7 _ _ (outM y nf yf k).a (by rfl) hs0 ?_
          intro v' w' ho hb'
          exact hQ _ _ hb' ho
        · intro x w hb hk Q' hQ
          clear hk
          simp only [netAct, dstAt, List.getElem?_toArray, List.getElem?_cons_zero, List.getElem?_cons_succ, Option.bind_some, Act.put, List.setIfInBounds_toArray, List.set_cons_zero, List.set_cons_succ] at hQ ⊢
          go_wp2
          exact hQ (.pointer (some ⟨w0.heap.size, 5, none⟩)) _ (Below.refl _ _) rfl
        · intro x w hb hk Q' hQ
          have h15 : x.v 15 = .pointer (some ⟨w0.heap.size, 5, none⟩) := (hk 15 (by decide)).1
          clear hk
          simp only [netAct, dstAt, List.getElem?_toArray, List.getElem?_cons_zero, List.getElem?_cons_succ, Option.bind_some, Act.put, List.setIfInBounds_toArray, List.set_cons_zero, List.set_cons_succ] at hQ ⊢
          simp only [h15] at hQ ⊢
          clear h15
          have z5 := (kBr.below hb kBr.lt).cell' (i := 5) rfl
          go_wp2
          exact hQ (.slice (some ⟨bm, om, none⟩) y.m.length h) _ (Below.refl _ _) rfl
        · intro x w hb hk Q' hQ
          clear hk
          simp only [netAct, dstAt, List.getElem?_toArray, List.getElem?_cons_zero, List.getElem?_cons_succ, Option.bind_some, Act.put, List.setIfInBounds_toArray, List.set_cons_zero, List.set_cons_succ] at hQ ⊢
          go_wp2
          exact hQ (.int .i64 k) _ (Below.refl _ _) rfl
        · intro x w hb hk Q' hQ
          have h16 : x.v 16 = .slice (some ⟨bm, om, none⟩) y.m.length h := (hk 16 (by decide)).1
          have h17 : x.v 17 = .int .i64 k := (hk 17 (by decide)).1
          clear hk
          simp only [netAct, dstAt, List.getElem?_toArray, List.getElem?_cons_zero, List.getElem?_cons_succ, Option.bind_some, Act.put, List.setIfInBounds_toArray, List.set_cons_zero, List.set_cons_succ] at hQ ⊢
          simp only [h16, h17] at hQ ⊢
          clear h16 h17
          go_wp2
          exact hQ (.pointer (some ⟨bm, om + k * 3, none⟩)) _ (Below.refl _ _) rfl
        · intro x w hb hk Q' hQ
          have h18 : x.v 18 = .pointer (some ⟨bm, om + k * 3, none⟩) := (hk 18 (by decide)).1
          clear hk
          simp only [netAct, dstAt, List.getElem?_toArray, List.getElem?_cons_zero, List.getElem?_cons_succ, Option.bind_some, Act.put, List.setIfInBounds_toArray, List.set_cons_zero, List.set_cons_succ] at hQ ⊢
          simp only [h18] at hQ ⊢
          clear h18
          go_wp2
          exact hQ (.pointer (some ⟨bm, om + k * 3 + 2, none⟩)) _ (Below.refl _ _) rfl
        · intro x w hb hk Q' hQ
          have h19 : x.v 19 = .pointer (some ⟨bm, om + k * 3 + 2, none⟩) := (hk 19 (by decide)).1
          clear hk
          simp only [netAct, dstAt, List.getElem?_toArray, List.getElem?_cons_zero, List.getElem?_cons_succ, Option.bind_some, Act.put, List.setIfInBounds_toArray, List.set_cons_zero, List.set_cons_succ] at hQ ⊢
          simp only [h19] at hQ ⊢
          clear h19
          have z2 := bcell hb hbmw x2'
          go_wp2
          exact hQ (.slice MB m.a.length mb) _ (Below.refl _ _) rfl
        · intro x w hb hk Q' hQ
          have h11 : Fresh w wr.heap.size (x.v 11) := (hk 11 (by decide)).1
          have h12 : x.v 12 = .pointer (some ⟨w3.heap.size, 2, none⟩) := (hk 12 (by decide)).1
          have h13 : x.v 13 = .slice MA N mc := (hk 13 (by decide)).1
          have h14 : OwnI w wr.heap.size (x.v 14) (outM y nf yf k).a := (hk 14 (by decide)).1
          have h15 : x.v 15 = .pointer (some ⟨w0.heap.size, 5, none⟩) := (hk 15 (by decide)).1
          have h16 : x.v 16 = .slice (some ⟨bm, om, none⟩) y.m.length h := (hk 16 (by decide)).1
          have h17 : x.v 17 = .int .i64 k := (hk 17 (by decide)).1
          have h18 : x.v 18 = .pointer (some ⟨bm, om + k * 3, none⟩) := (hk 18 (by decide)).1
          have h19 : x.v 19 = .pointer (some ⟨bm, om + k * 3 + 2, none⟩) := (hk 19 (by decide)).1
          have h20 : x.v 20 = .slice MB m.a.length mb := (hk 20 (by decide)).1
          have s11 := (hk 11 (by decide)).2
          have s14 := (hk 14 (by decide)).2
          clear hk
          simp only [netAct, dstAt, List.getElem?_toArray, List.getElem?_cons_zero, List.getElem?_cons_succ, Option.bind_some, Act.put, List.setIfInBounds_toArray, List.set_cons_zero, List.set_cons_succ] at hQ ⊢
          simp only [h12, h13, h15, h16, h17, h18, h19, h20] at hQ ⊢
          clear h12 h13 h15 h16 h17 h18 h19 h20
          obtain ⟨s0, e0, hs0, _⟩ := HMR.out
          simp only [Value.agg.injEq, Array.mk.injEq, List.cons.injEq, and_true, true_and] at e0
          subst e0
          have hs1 := SlI.more (show W.heap.size ≤ w.heap.size by have := hb.size; omega) (SlI.below (gW.trans (hb.mono gws)) hs0)
          have hlo := h14.lt
          refine wpList_appI (by rfl) (.tmp 55) (.tmp 61) (by rfl) wr.heap.size w.heap.size _ _ (by rfl) h14 MB _ mb m.a (by rfl) rfl hs1 (by have := HLN.out; omega) hb.size ?_
          intro v' w' h1 h2 h3
          exact hQ v' w' (below_grown h2 (fun k hk => (hlo k hk).1) hb.size) h1
        · intro x w hb hk Q' hQ
          have h0 : x.v 0 = .pointer (some ⟨w3.heap.size, 0, none⟩) := (hk 0 (by decide)).1
          have h1 : x.v 1 = .int .i64 R0 := (hk 1 (by decide)).1
          have h2 : x.v 2 = .pointer (some ⟨w0.heap.size, 5, none⟩) := (hk 2 (by decide)).1
          have h3 : x.v 3 = .slice (some ⟨bm, om, none⟩) y.m.length h := (hk 3 (by decide)).1
          have h4 : x.v 4 = .int .i64 k := (hk 4 (by decide)).1
          have h5 : x.v 5 = .pointer (some ⟨bm, om + k * 3, none⟩) := (hk 5 (by decide)).1
          have h6 : x.v 6 = .pointer (some ⟨bm, om + k * 3, none⟩) := (hk 6 (by decide)).1
          have h7 : x.v 7 = .int .i64 yt := (hk 7 (by decide)).1
          have h8 : x.v 8 = .int .i64 ((R0 : Int) + yt) := (hk 8 (by decide)).1
          have h9 : x.v 9 = .pointer (some ⟨w3.heap.size, 1, none⟩) := (hk 9 (by decide)).1
          have h10 : x.v 10 = .int .i64 yf := (hk 10 (by decide)).1
          have h12 : x.v 12 = .pointer (some ⟨w3.heap.size, 2, none⟩) := (hk 12 (by decide)).1
          have h13 : x.v 13 = .slice MA N mc := (hk 13 (by decide)).1
          have h15 : x.v 15 = .pointer (some ⟨w0.heap.size, 5, none⟩) := (hk 15 (by decide)).1
          have h16 : x.v 16 = .slice (some ⟨bm, om, none⟩) y.m.length h := (hk 16 (by decide)).1
          have h17 : x.v 17 = .int .i64 k := (hk 17 (by decide)).1
          have h18 : x.v 18 = .pointer (some ⟨bm, om + k * 3, none⟩) := (hk 18 (by decide)).1
          have h19 : x.v 19 = .pointer (some ⟨bm, om + k * 3 + 2, none⟩) := (hk 19 (by decide)).1
          have h20 : x.v 20 = .slice MB m.a.length mb := (hk 20 (by decide)).1
          have h21 : OwnI w wr.heap.size (x.v 21) ((outM y nf yf k).a ++ m.a) := (hk 21 (by decide)).1
          have s21 := (hk 21 (by decide)).2
          clear hk
          simp only [netAct, dstAt, List.getElem?_toArray, List.getElem?_cons_zero, List.getElem?_cons_succ, Option.bind_some, Act.put, List.setIfInBounds_toArray, List.set_cons_zero, List.set_cons_succ] at hQ ⊢
          simp only [h0, h1, h2, h3, h4, h5, h6, h7, h8, h9, h10, h12, h13, h15, h16, h17, h18, h19, h20] at hQ ⊢
          clear h0 h1 h2 h3 h4 h5 h6 h7 h8 h9 h10 h12 h13 h15 h16 h17 h18 h19 h20
          rw [E3.out] at h21
          have H21 := Lib.hid h21
          obtain ⟨A21, c21, e21, _, _⟩ := h21.form
          rw [e21] at H21 hQ ⊢
          clear h21 e21
          go_wp2
          have he : (Value.agg #[.int .i64 ((R0 : Int) + yt), .int .i64 yf, .slice A21 (outM y nf yf (k + 1)).a.length c21]) = .agg #[.int .i64 (outM y nf yf (k + 1)).r, .int .i64 (outM y nf yf (k + 1)).c, .slice A21 (outM y nf yf (k + 1)).a.length c21] := by rw [E4.out.1, E4.out.2]
          exact hQ _ w (Below.refl _ _) ⟨_, he, H21.out⟩
        · intro x w hb hk hiv hdj
          have h0 : x.v 0 = .pointer (some ⟨w3.heap.size, 0, none⟩) := hk 0 (by decide) (by decide)
          have h1 : x.v 1 = .int .i64 R0 := hk 1 (by decide) (by decide)
          have h2 : x.v 2 = .pointer (some ⟨w0.heap.size, 5, none⟩) := hk 2 (by decide) (by decide)
          have h3 : x.v 3 = .slice (some ⟨bm, om, none⟩) y.m.length h := hk 3 (by decide) (by decide)
          have h4 : x.v 4 = .int .i64 k := hk 4 (by decide) (by decide)
          have h5 : x.v 5 = .pointer (some ⟨bm, om + k * 3, none⟩) := hk 5 (by decide) (by decide)
          have h6 : x.v 6 = .pointer (some ⟨bm, om + k * 3, none⟩) := hk 6 (by decide) (by decide)
          have h7 : x.v 7 = .int .i64 yt := hk 7 (by decide) (by decide)
          have h8 : x.v 8 = .int .i64 ((R0 : Int) + yt) := hk 8 (by decide) (by decide)
          have h9 : x.v 9 = .pointer (some ⟨w3.heap.size, 1, none⟩) := hk 9 (by decide) (by decide)
          have h10 : x.v 10 = .int .i64 yf := hk 10 (by decide) (by decide)
          have h12 : x.v 12 = .pointer (some ⟨w3.heap.size, 2, none⟩) := hk 12 (by decide) (by decide)
          have h13 : x.v 13 = .slice MA N mc := hk 13 (by decide) (by decide)
          have h15 : x.v 15 = .pointer (some ⟨w0.heap.size, 5, none⟩) := hk 15 (by decide) (by decide)
          have h16 : x.v 16 = .slice (some ⟨bm, om, none⟩) y.m.length h := hk 16 (by decide) (by decide)
          have h17 : x.v 17 = .int .i64 k := hk 17 (by decide) (by decide)
          have h18 : x.v 18 = .pointer (some ⟨bm, om + k * 3, none⟩) := hk 18 (by decide) (by decide)
          have h19 : x.v 19 = .pointer (some ⟨bm, om + k * 3 + 2, none⟩) := hk 19 (by decide) (by decide)
          have h20 : x.v 20 = .slice MB m.a.length mb := hk 20 (by decide) (by decide)
          have h21 : OwnI w wr.heap.size (x.v 21) ((outM y nf yf k).a ++ m.a) := hk 21 (by decide) (by decide)
          have h22 : ∃ s, (x.v 22) = .agg #[.int .i64 (outM y nf yf (k + 1)).r, .int .i64 (outM y nf yf (k + 1)).c, s] ∧ OwnI w wr.heap.size s (outM y nf yf (k + 1)).a := hk 22 (by decide) (by decide)
          clear hk
          simp only [netAct, dstAt, List.getElem?_toArray, List.getElem?_cons_zero, List.getElem?_cons_succ, Option.bind_some, Act.put, List.setIfInBounds_toArray, List.set_cons_zero, List.set_cons_succ]
          simp only [List.drop_succ_cons, List.drop_zero, h0, h1, h2, h3, h4, h5, h6, h7, h8, h9, h10, h12, h13, h15, h16, h17, h18, h19, h20]
          clear h0 h1 h2 h3 h4 h5 h6 h7 h8 h9 h10 h12 h13 h15 h16 h17 h18 h19 h20
          obtain ⟨s22, e6, hs22⟩ := h22
          obtain ⟨MA', mc', es22, _, _⟩ := hs22.form
          subst es22
          have hI1 : I64 (outM y nf yf (k + 1)).r := by rw [E4.out.1]; simp only [I64]; omega
          have hI2 : I64 (outM y nf yf (k + 1)).c := by rw [E4.out.2]; simp only [I64]; omega
          have h6 : MxO w wr.heap.size w.heap.size (.agg #[.int .i64 (outM y nf yf (k + 1)).r, .int .i64 (outM y nf yf (k + 1)).c, .slice MA' (outM y nf yf (k + 1)).a.length mc']) (outM y nf yf (k + 1)) := ⟨_, rfl, IntsO.of_own hs22, hI1, hI2⟩
          rw [e6]
          clear hs22 hI1 hI2 h21
          obtain ⟨N', hN'⟩ : ∃ nn, (outM y nf yf (k + 1)).a.length = nn := ⟨_, rfl⟩
          rw [hN'] at h6 ⊢
          have k4w := k4.below hb k4.lt
          have p0 := k4w.cell' (i := 0) rfl
          have p1 := k4w.cell' (i := 1) rfl
          have p2 := k4w.cell' (i := 2) rfl
          have fr := k4w.frozen
          have hbs := hb.size
          have K5 := Lib.hid (((k4w.set_ 0 (.int .i64 (outM y nf yf (k + 1)).r)).set_ 1 (.int .i64 (outM y nf yf (k + 1)).c)).set_ 2 (.slice MA' N' mc'))
          have O5 := Lib.hid ((((h6.setBlk (i := 0) k4w (by decide) (.int .i64 (outM y nf yf (k + 1)).r)).setBlk (i := 1) (k4w.set_ 0 _) (by decide) (.int .i64 (outM y nf yf (k + 1)).c)).setBlk (i := 2) ((k4w.set_ 0 _).set_ 1 _) (by decide) (.slice MA' N' mc')).wider (lo' := W.heap.size) (hi' := w.heap.size) (by omega) (by omega))
          have hc3 := chg3 w w3.heap.size (.int .i64 (outM y nf yf (k + 1)).r) (.int .i64 (outM y nf yf (k + 1)).c) (.slice MA' N' mc')
          have GW := Lib.hid ((gW.trans (hb.mono gws)).trans (hc3.below (B := W.heap.size) (by omega) (by omega)))
          clear hiv hdj e6 h6 hc3 k4w hb gW kBr k4 hN'
          go_wp2
          go_roundw
          case rel => exact ⟨k + 1, N', mc', MA', by omega, by go_num, GW.out, K5.out, O5.out.wider (Nat.le_refl _) (by simp)⟩
          case measure => simp [intOf]; omega
      · have hne : ((nf : Int) == n) = false := by rw [beq_eq_false_iff_ne]; omega
        have e1 := outS_no (C := D) EF.out (show (nf : Int) ≠ n by omega)
        have e2 : outM x n D (k + 1) = outM x n D k := by unfold outM; rw [e1]
        have E2 := Lib.hid e2
        have K4 := Lib.hid k4
        have HO := Lib.hid hO
        have GW := Lib.hid gW
        clear e1 e2 k4 hO gW kBr
        go_wp2
        go_roundw
        case rel => exact ⟨k + 1, N, mc, MA, by omega, by go_num, GW.out, by rw [E2.out]; exact K4.out, by rw [E2.out]; exact HO.out⟩
        case measure => simp [intOf]; omega
    · obtain rfl : k = x.q.f.length := by omega
      have HF' := HF.out
      have k2 := (KR.out).below gW (by have := SZ.out; omega)
      have z0 := k4.cell' (i := 0) rfl
      have z1 := k4.cell' (i := 1) rfl
      have z2 := k4.cell' (i := 2) rfl
      have p0 := k2.cell' (i := 0) rfl
      have p1 := k2.cell' (i := 1) rfl
      have p2 := k2.cell' (i := 2) rfl
      have f2 := k2.frozen
      have h2 := chg3 wr (w0.heap.size + 1) (.int .i64 (outM x n D x.q.f.length).r) (.int .i64 (outM x n D x.q.f.length).c) (.slice MA N mc)
      have gw : Below w0.heap.size w0 wr := (G0.out).trans (gW.mono (G0.out).size)
      have gs := gw.size
      have gws := gW.size
      have sz := SZ.out
      have oA2 := (hO.chg h2 (.inr (by omega))).wider (lo' := w0.heap.size) (hi' := wr.heap.size) (by omega) (Nat.le_refl _)
      have fg := gw.trans (h2.below (by omega) gs)
      have OA2 := Lib.hid oA2
      have FG := Lib.hid fg
      have HFF := Lib.hid HF'
      clear hO oA2 fg gw h2 k2 k4 gW sz gws HF'
      go_wp2
      exact bodyPost_ret (v := .tuple #[.agg #[.int .i64 (outM x n D x.q.f.length).r, .int .i64 (outM x n D x.q.f.length).c, .slice MA N mc], .bool true]) (by simp [results, go_sem, p0, p1, p2]) rfl ⟨_, by rw [(HFF.out : _)], by rw [(HFF.out : _)]; exact OA2.out.wider (Nat.le_refl _) (by simp), FG.out⟩
theorem specOutgoingMatrix_any (u : Value) (x : Rp) (v : Int) (w0 : World) (hu : RpR w0 w0.heap.size u x) (hv : I64 v) :
    Calls Tryz.prog 23 #[u, .int .i64 v] w0 fun e w' => ∃ r, e = .returned (.tuple #[r, .bool (outP x v).2]) ∧ MxO w' w0.heap.size w'.heap.size r (outP x v).1 ∧ Below w0.heap.size w0 w' := by
  rcases h : outOk x v with _ | _
  · exact specOut_no u x v w0 hu h
  · exact specOut_yes u x v w0 hu h
end Go.Proofs.YtaefpblpfjhgoaaGreat

/- HasSimpleAtSink, HasSimpleAtSource. -/
namespace Go.Proofs.YtaefpblpfjhgoaaGreat
set_option linter.unusedVariables false
set_option linter.unusedSimpArgs false
open Go.RowKit

theorem outS_inF {x : Rp} {v : Int} {n C : Nat} (hx : isRep x = true) (hv : v = n) (hC : x.d[n]? = some (C : Int)) : ∀ k, k ≤ x.q.f.length → InF x.p (outS x v C k).1 C (outS x v C k).2
  | 0, _ => fun a b ha _ => by simp [outS] at ha
  | k + 1, hk => by
    have ih := outS_inF hx hv hC k (by omega)
    obtain ⟨m, nf, nt, yf, yt, em, ef, et, df, dt, eM, hr, b1, b2, _⟩ := isRep_at hx (show k < x.q.f.length by omega)
    by_cases h : (nf : Int) = v
    · have hnf : nf = n := by omega
      rw [hnf, hC] at df
      injection df with df
      rw [h] at ef
      rw [outS_yes ef em (yt := yt) (by rw [eM]; rfl)]
      obtain rfl : yf = C := by omega
      intro a b ha hb
      simp only [blF] at ha ⊢
      split
      · exact ih a b (by assumption) hb
      · exact hr _ b (by omega) (by omega)
    · rw [outS_no ef h]; exact ih

def hsIn (x : Rp) (v : Int) : Bool := inOk x v && decide ((rkF x.p (dAt x.d v).toNat (inS x v (dAt x.d v).toNat x.q.f.length).1 (inS x v (dAt x.d v).toNat x.q.f.length).2 : Int) < dAt x.d v)
def hsOut (x : Rp) (v : Int) : Bool := outOk x v && decide ((rkF x.p (outS x v (dAt x.d v).toNat x.q.f.length).1 (dAt x.d v).toNat (outS x v (dAt x.d v).toNat x.q.f.length).2 : Int) < dAt x.d v)

end Go.Proofs.YtaefpblpfjhgoaaGreat

/- The program's ReflectSource. -/
namespace Go.Proofs.YtaefpblpfjhgoaaGreat
set_option linter.unusedVariables false
set_option linter.unusedSimpArgs false
open Go.RowKit

/-- the columns of the outgoing matrix, reduced; the dimension of the quotient; the projection -/
def srN (x : Rp) (v : Int) : Nat := (outS x v (dAt x.d v).toNat x.q.f.length).1
def srR (x : Rp) (v : Int) : (Nat → Nat → Int) × List Int := rdTo x.p (dAt x.d v).toNat (trF (outS x v (dAt x.d v).toNat x.q.f.length).2) (srN x v)
def srK (x : Rp) (v : Int) : Nat := (freeV (srR x v).2 (srN x v)).length
def srF (x : Rp) (v : Int) (a j : Nat) : Int := pjF x.p (srR x v).1 (srR x v).2 (freeV (srR x v).2 (srN x v)) (srR x v).2.length j a
def rsrP (x : Rp) (v : Int) : Rp × Bool := if outOk x v then rfP x v (srK x v) (gSrc x v (srK x v) (srF x v)) else (rp0, false)
set_option maxHeartbeats 3200000 in
set_option maxRecDepth 100000 in
theorem implReflectSource_any (u : Value) (y : Rp) (v : Int) (w0 : World) (hu : RpR w0 w0.heap.size u y) (hv : I64 v) :
    Calls Tryz.prog 8 #[u, .int .i64 v] w0 fun e w' => ∃ r, e = .returned (.tuple #[r, .bool (rsrP y v).2]) ∧ RepO w' w0.heap.size w'.heap.size r (rsrP y v).1 ∧ Below w0.heap.size w0 w' := by
  have hu' := hu
  obtain ⟨A, a, C, c, E, ec, H, hc, rfl⟩ := hu.form
  clear hu
  obtain ⟨W, hW⟩ : ∃ W, W = (w0.alloc (.cells #[.int .i64 y.p, .int .i64 y.q.v, .slice A y.q.f.length a, .slice C y.q.t.length c, .slice E y.d.length ec, .slice H y.m.length hc] 32)).alloc (.cells #[.int .i64 0, .int .i64 0, .slice none 0 0, .slice none 0 0, .slice none 0 0, .slice none 0 0] 32) := ⟨_, rfl⟩
  have g0 : Below w0.heap.size w0 W := by rw [hW]; exact ((Below.refl _ _).alloc (Nat.le_refl _) _).alloc (by simp) _
  have k1 : Blk W w0.heap.size 32 #[.int .i64 y.p, .int .i64 y.q.v, .slice A y.q.f.length a, .slice C y.q.t.length c, .slice E y.d.length ec, .slice H y.m.length hc] := by rw [hW]; exact (Blk.new _ _ _).alloc _
  have k2 : Blk W (w0.heap.size + 1) 32 #[.int .i64 0, .int .i64 0, .slice none 0 0, .slice none 0 0, .slice none 0 0, .slice none 0 0] := by
    rw [hW]
    have := Blk.new (w0.alloc (.cells #[.int .i64 y.p, .int .i64 y.q.v, .slice A y.q.f.length a, .slice C y.q.t.length c, .slice E y.d.length ec, .slice H y.m.length hc] 32)) 32 #[.int .i64 0, .int .i64 0, .slice none 0 0, .slice none 0 0, .slice none 0 0, .slice none 0 0]
    simpa only [World.size_alloc] using this
  have sz : W.heap.size = w0.heap.size + 1 + 1 := by rw [hW]; simp
  have SZ := Lib.hid sz
  have HR := Lib.hid (RpR.next g0 hu')
  have c0 := k1.cell' (i := 0) rfl
  have c1 := k1.cell' (i := 1) rfl
  have c2 := k1.cell' (i := 2) rfl
  have c3 := k1.cell' (i := 3) rfl
  have c4 := k1.cell' (i := 4) rfl
  have c5 := k1.cell' (i := 5) rfl
  clear hu' sz
  go_enter Tryz.func8, Tryz.ntmps8
  go_wp2_with fail
  rw [← hW]; clear hW
  refine (implOutgoingMatrix_any _ y v _ HR.out hv).mono ?_; rintro e w1 ⟨r1, rfl, hM, hb1⟩
  clear c0 c1 c2 c3 c4 c5
  rcases hok : outOk y v with _ | _
  · have hP : outP y v = (mx0, false) := by rw [outP, if_neg (by rw [hok]; decide)]
    have HE := Lib.hid (show rsrP y v = (rp0, false) by rw [rsrP, if_neg (by rw [hok]; decide)])
    rw [hP] at hM ⊢
    obtain ⟨MA, mc, em⟩ := hM.form
    simp only [mx0, List.length_nil] at em ⊢
    subst em
    obtain ⟨W2, hW2⟩ : ∃ u, w1.alloc (.cells #[.int .i64 0, .int .i64 0, .slice MA 0 mc] 50) = u := ⟨_, rfl⟩
    have ga : Below w1.heap.size w1 W2 := by rw [← hW2]; exact below_alloc _ _
    have gW := bthen hb1 ga
    have kz := k2.call gW
    have fr := kz.frozen
    have s0 := kz.cell' (i := 0) rfl
    have s1 := kz.cell' (i := 1) rfl
    have s2 := kz.cell' (i := 2) rfl
    have s3 := kz.cell' (i := 3) rfl
    have s4 := kz.cell' (i := 4) rfl
    have s5 := kz.cell' (i := 5) rfl
    have gf := g0.trans (gW.mono g0.size)
    have GF := Lib.hid gf
    clear kz gf gW hM hP hok hb1 ga k1 k2 g0
    go_wp2
    have gf := GF.out
    have hE := HE.out
    exact bodyPost_ret (v := .tuple #[.agg #[.int .i64 0, .int .i64 0, .slice none 0 0, .slice none 0 0, .slice none 0 0, .slice none 0 0], .bool false]) (by simp [results, go_sem, s0, s1, s2, s3, s4, s5]) rfl ⟨_, by rw [hE], by rw [hE]; exact RepO.zero _ _ _, (((((gf.setCell (by simp) _).setCell (by simp) _).setCell (by simp) _).setCell (by simp) _).setCell (by simp) _).setCell (by simp) _⟩
  · obtain ⟨hy, hs⟩ : isRep y = true ∧ endV y.q.t y.q v = true := by simpa [outOk] using hok
    obtain ⟨n, D, env, hnl, hdn, hdA, hD4, hn5⟩ := vert_at hy hs
    have hP := outP_yes hok hdA
    have hN := outS_le (v := v) (C := D) hy _ (Nat.le_refl _)
    have hn6 : y.q.f.length ≤ 6 := (isQ_t.1 (areDims_t.1 (isRep_t.1 hy).2.1).1).2.2.1
    have hat := atN_out (C := D) hy hs _ (Nat.le_refl _)
    have houF := outS_inF hy env hdn _ (Nat.le_refl _)
    have hfld := (isRep_t.1 hy).1
    have hpr := isFld_r hfld
    have HE := Lib.hid (show rsrP y v = rfP y v (srK y v) (gSrc y v (srK y v) (srF y v)) by rw [rsrP, if_pos hok])
    have hsn : srN y v = (outS y v D y.q.f.length).1 := by rw [srN, hdA, Int.toNat_natCast]
    have hsr : srR y v = rdTo y.p D (trF (outS y v D y.q.f.length).2) (outS y v D y.q.f.length).1 := by rw [srR, hsn, hdA, Int.toNat_natCast]
    rw [hP] at hM ⊢
    simp only [outM] at hM
    obtain ⟨N, hNN⟩ : ∃ N, (outS y v D y.q.f.length).1 = N := ⟨_, rfl⟩
    obtain ⟨F0, hF0⟩ : ∃ F0, (outS y v D y.q.f.length).2 = F0 := ⟨_, rfl⟩
    rw [hNN, hF0] at hM hsr houF
    rw [hNN] at hat hN hsn
    obtain ⟨g, hg⟩ : ∃ g, (rdTo y.p D (trF F0) N).1 = g := ⟨_, rfl⟩
    obtain ⟨ps, hps⟩ : ∃ ps, (rdTo y.p D (trF F0) N).2 = ps := ⟨_, rfl⟩
    have hgp : rdTo y.p D (trF F0) N = (g, ps) := by rw [← hg, ← hps]
    rw [hgp] at hsr
    have hgF : InF y.p ps.length N g := fun i j hi hj => by
      have h2 := (rdTo_len y.p D (trF F0) N).1
      rw [hps] at h2
      rw [← hg]; exact inF_to hpr.1 (inF_tr houF) N i j (by omega) hj
    have hlead : Leads ps.length N g ps := by
      have := leads_rd hfld hpr.1 (inF_tr houF)
      rwa [hg, hps] at this
    have hpl : ps.length ≤ D := by
      have h2 := (rdTo_len y.p D (trF F0) N).1
      rwa [hps] at h2
    obtain ⟨K, hK⟩ : ∃ K, srK y v = K := ⟨_, rfl⟩
    have hKf : (freeV ps N).length = K := by rw [← hK, srK, hsr, hsn]
    have hKN : K ≤ N := by rw [← hKf]; exact freeV_length _ _
    have hF : srF y v = fun a j => pjF y.p g ps (freeV ps N) ps.length j a := by funext a j; rw [srF, hsr, hsn]
    obtain ⟨R, hR⟩ : ∃ R, rfP y v K (gSrc y v K (srF y v)) = R := ⟨_, rfl⟩
    rw [hK, hR] at HE
    have HRR := Lib.hid hR
    have HFF := Lib.hid hF
    have HKF := Lib.hid hKf
    have HY := Lib.hid hy
    have HS := Lib.hid hs
    have HOU := Lib.hid houF
    have HFL := Lib.hid hfld
    have HPR := Lib.hid hpr
    have HAT := Lib.hid hat
    have HGF := Lib.hid hgF
    have HLE := Lib.hid hlead
    have HGP := Lib.hid hgp
    clear hok hP hNN hF0 hR hF hKf hsr hsn hy hs houF hfld hat hK hdA hdn env hgF hlead hgp hg hps hpr
    obtain ⟨MA, mc, em⟩ := hM.form
    simp only [mxF] at em hM
    rw [flat_length] at em
    subst em
    obtain ⟨ML, hML⟩ : ∃ z, N * D = z := ⟨_, rfl⟩
    rw [hML] at hM ⊢
    have HML := Lib.hid hML
    clear hML
    obtain ⟨W2, hW2⟩ : ∃ u, w1.alloc (.cells #[.int .i64 N, .int .i64 D, .slice MA ML mc] 50) = u := ⟨_, rfl⟩
    have ga : Below w1.heap.size w1 W2 := by rw [← hW2]; exact below_alloc _ _
    have kM : Blk W2 w1.heap.size 50 #[.int .i64 N, .int .i64 D, .slice MA ML mc] := by rw [← hW2]; exact Blk.new _ _ _
    have gW := bthen hb1 ga
    have k12 := k1.call gW
    have HM := Lib.hid (hM.below ga).rd
    have GW := Lib.hid gW
    have HR2 := Lib.hid (RpR.next gW HR.out)
    have hw1lt : w1.heap.size < W2.heap.size := kM.lt
    clear hM hb1 ga gW
    go_wp2
    clear hW2
    refine wp_region_net (by kernel_rfl) [.eq (.pointer (some ⟨w0.heap.size, 0, none⟩)), .eq (.int .i64 y.p), .eq (.pointer (some ⟨w1.heap.size, 0, none⟩)), .eq (.int .i64 N), .eq (.agg #[.int .i64 N, .int .i64 D, .slice MA ML mc]), rel 5 (fun u lo hi w => IntssO w lo hi u (rowsF D N (trF F0))), rel 6 (fun u lo hi w => ∃ GA gc, u = .agg #[.int .i64 N, .slice GA ps.length gc] ∧ IntssO w lo hi (.slice GA ps.length gc) (rowsF ps.length N g)), rel 7 (fun u lo hi w => ∃ gp, u = .pointer (some ⟨gp, 0, none⟩) ∧ (lo ≤ gp ∧ gp < hi) ∧ Blk w gp 59 #[.int .i64 0, .slice none 0 0])] [[], [0], [], [2], [], [4], [0, 1, 2, 3, 4, 5], [], [0, 1, 2, 3, 4, 5, 6, 7]] 8 (by kernel_rfl) ⟨trivial, trivial, trivial, trivial, trivial, rel_stable (fun u lo hi w w' h hb => h.below hb), rel_stable (fun u lo hi w w' ⟨GA, gc, e, h⟩ hb => ⟨GA, gc, e, h.below hb⟩), rel_stable (fun u lo hi w w' ⟨gp, e, h1, h⟩ hb => ⟨gp, e, h1, h.call hb⟩), trivial⟩ ⟨?_, ?_, ?_, ?_, ?_, ?_, ?_, ?_, trivial⟩ ?_
    · intro x w hb hk Q' hQ
      clear hk
      simp only [netAct, dstAt, List.getElem?_toArray, List.getElem?_cons_zero, List.getElem?_cons_succ, Option.bind_some, Act.put, List.setIfInBounds_toArray, List.set_cons_zero, List.set_cons_succ] at hQ ⊢
      go_wp2
      exact hQ (.pointer (some ⟨w0.heap.size, 0, none⟩)) _ (Below.refl _ _) rfl
    · intro x w hb hk Q' hQ
      have h0 : x.v 0 = .pointer (some ⟨w0.heap.size, 0, none⟩) := (hk 0 (by decide)).1
      clear hk
      simp only [netAct, dstAt, List.getElem?_toArray, List.getElem?_cons_zero, List.getElem?_cons_succ, Option.bind_some, Act.put, List.setIfInBounds_toArray, List.set_cons_zero, List.set_cons_succ] at hQ ⊢
      simp only [h0] at hQ ⊢
      clear h0
      have z := (k12.call hb).cell' (i := 0) rfl
      go_wp2
      exact hQ (.int .i64 y.p) _ (Below.refl _ _) rfl
    · intro x w hb hk Q' hQ
      clear hk
      simp only [netAct, dstAt, List.getElem?_toArray, List.getElem?_cons_zero, List.getElem?_cons_succ, Option.bind_some, Act.put, List.setIfInBounds_toArray, List.set_cons_zero, List.set_cons_succ] at hQ ⊢
      go_wp2
      exact hQ (.pointer (some ⟨w1.heap.size, 0, none⟩)) _ (Below.refl _ _) rfl
    · intro x w hb hk Q' hQ
      have h2 : x.v 2 = .pointer (some ⟨w1.heap.size, 0, none⟩) := (hk 2 (by decide)).1
      clear hk
      simp only [netAct, dstAt, List.getElem?_toArray, List.getElem?_cons_zero, List.getElem?_cons_succ, Option.bind_some, Act.put, List.setIfInBounds_toArray, List.set_cons_zero, List.set_cons_succ] at hQ ⊢
      simp only [h2] at hQ ⊢
      clear h2
      have z := (kM.call hb).cell' (i := 0) rfl
      go_wp2
      exact hQ (.int .i64 N) _ (Below.refl _ _) rfl
    · intro x w hb hk Q' hQ
      clear hk
      simp only [netAct, dstAt, List.getElem?_toArray, List.getElem?_cons_zero, List.getElem?_cons_succ, Option.bind_some, Act.put, List.setIfInBounds_toArray, List.set_cons_zero, List.set_cons_succ] at hQ ⊢
      have z0 := (kM.call hb).cell' (i := 0) rfl
      have z1 := (kM.call hb).cell' (i := 1) rfl
      have z2 := (kM.call hb).cell' (i := 2) rfl
      go_wp2
      exact hQ (.agg #[.int .i64 N, .int .i64 D, .slice MA ML mc]) _ (Below.refl _ _) rfl
    · intro x w hb hk Q' hQ
      have h4 : x.v 4 = .agg #[.int .i64 N, .int .i64 D, .slice MA ML mc] := (hk 4 (by decide)).1
      clear hk
      simp only [netAct, dstAt, List.getElem?_toArray, List.getElem?_cons_zero, List.getElem?_cons_succ, Option.bind_some, Act.put, List.setIfInBounds_toArray, List.set_cons_zero, List.set_cons_succ] at hQ ⊢
      simp only [h4] at hQ ⊢
      clear h4
      go_wp2_with fail
      refine (columns_any _ N D F0 _ (MxR.next hb HM.out) (by omega) (by omega)).mono ?_; rintro e w6 ⟨v6, rfl, ho6, hb6⟩
      go_wp2
      exact hQ _ _ hb6 ho6
    · intro x w hb hk Q' hQ
      have h0 : x.v 0 = .pointer (some ⟨w0.heap.size, 0, none⟩) := (hk 0 (by decide)).1
      have h1 : x.v 1 = .int .i64 y.p := (hk 1 (by decide)).1
      have h2 : x.v 2 = .pointer (some ⟨w1.heap.size, 0, none⟩) := (hk 2 (by decide)).1
      have h3 : x.v 3 = .int .i64 N := (hk 3 (by decide)).1
      have h4 : x.v 4 = .agg #[.int .i64 N, .int .i64 D, .slice MA ML mc] := (hk 4 (by decide)).1
      have h5 : IntssO w (x.lo 5) (x.hi 5) (x.v 5) (rowsF D N (trF F0)) := (hk 5 (by decide)).1
      have s5 := (hk 5 (by decide)).2
      clear hk
      simp only [netAct, dstAt, List.getElem?_toArray, List.getElem?_cons_zero, List.getElem?_cons_succ, Option.bind_some, Act.put, List.setIfInBounds_toArray, List.set_cons_zero, List.set_cons_succ] at hQ ⊢
      simp only [h0, h1, h2, h3, h4] at hQ ⊢
      clear h0 h1 h2 h3 h4
      obtain ⟨CA, cc, e5, _⟩ := h5.form2
      rw [e5] at h5 hQ ⊢
      rw [rowsF_length] at h5 hQ ⊢
      go_wp2_with fail
      refine (span_any y.p _ D N (trF F0) _ HFL.out (by omega) (by omega) h5.rd (inF_tr HOU.out)).mono ?_; rintro e w6 ⟨v6, rfl, ho6, hb6⟩
      rw [HGP.out] at ho6
      obtain ⟨GA, gc, e6, _⟩ := ho6.form2
      rw [rowsF_length] at e6
      subst e6
      go_wp2
      exact hQ _ _ hb6 ⟨GA, gc, rfl, ho6⟩
    · intro x w hb hk Q' hQ
      clear hk
      simp only [netAct, dstAt, List.getElem?_toArray, List.getElem?_cons_zero, List.getElem?_cons_succ, Option.bind_some, Act.put, List.setIfInBounds_toArray, List.set_cons_zero, List.set_cons_succ] at hQ ⊢
      go_wp2
      exact hQ _ _ (below_alloc _ _) ⟨_, rfl, ⟨Nat.le_refl _, by show w.heap.size < (w.alloc _).heap.size; simp⟩, Blk.new _ _ _⟩
    · intro x w hb hk hiv hdj
      have h0 : x.v 0 = .pointer (some ⟨w0.heap.size, 0, none⟩) := hk 0 (by decide)
      have h1 : x.v 1 = .int .i64 y.p := hk 1 (by decide)
      have h2 : x.v 2 = .pointer (some ⟨w1.heap.size, 0, none⟩) := hk 2 (by decide)
      have h3 : x.v 3 = .int .i64 N := hk 3 (by decide)
      have h4 : x.v 4 = .agg #[.int .i64 N, .int .i64 D, .slice MA ML mc] := hk 4 (by decide)
      have h5 : IntssO w (x.lo 5) (x.hi 5) (x.v 5) (rowsF D N (trF F0)) := hk 5 (by decide)
      have h6 : ∃ GA gc, (x.v 6) = .agg #[.int .i64 N, .slice GA ps.length gc] ∧ IntssO w (x.lo 6) (x.hi 6) (.slice GA ps.length gc) (rowsF ps.length N g) := hk 6 (by decide)
      have h7 : ∃ gp, (x.v 7) = .pointer (some ⟨gp, 0, none⟩) ∧ ((x.lo 7) ≤ gp ∧ gp < (x.hi 7)) ∧ Blk w gp 59 #[.int .i64 0, .slice none 0 0] := hk 7 (by decide)
      clear hk
      simp only [netAct, dstAt, List.getElem?_toArray, List.getElem?_cons_zero, List.getElem?_cons_succ, Option.bind_some, Act.put, List.setIfInBounds_toArray, List.set_cons_zero, List.set_cons_succ]
      simp only [List.drop_succ_cons, List.drop_zero, h0, h1, h2, h3, h4]
      clear h0 h1 h2 h3 h4
      obtain ⟨GA, gc, e6, ho6⟩ := h6
      obtain ⟨gp, e7, hgp1, kP⟩ := h7
      rw [e6, e7]
      have i6 := hiv 6 (by decide)
      have i7 := hiv 7 (by decide)
      have d67 := hdj 6 7 (by decide) (by decide) (by decide)
      have G3 := GW.out.trans (hb.mono GW.out.size)
      have hsb := hb.size
      have fr := kP.frozen
      have p0 := kP.cell' (i := 0) rfl
      have p1 := kP.cell' (i := 1) rfl
      obtain ⟨W3, hW3⟩ : ∃ z, (w.setCell ⟨gp, 0, none⟩ (.int .i64 N)).setCell ⟨gp, 1, none⟩ (.slice GA ps.length gc) = z := ⟨_, rfl⟩
      have hch : Chg gp (gp + 1) w W3 := by rw [← hW3]; exact (chg_set1 _ _ _ _).trans (chg_set1 _ _ _ _)
      have kP3 : Blk W3 gp 59 #[.int .i64 N, .slice GA ps.length gc] := by rw [← hW3]; exact (kP.set_ 0 _).set_ 1 _
      have hb3 : Below W2.heap.size W2 W3 := hb.trans (hch.below (by omega) hb.size)
      have HG3 := Lib.hid ((ho6.chg hch (by omega)).rd)
      have k13 := k12.call hb3
      have HR3 := Lib.hid (RpR.next hb3 HR2.out)
      have G33 := Lib.hid (GW.out.trans (hb3.mono GW.out.size))
      clear ho6 e6 e7 h5 kP hgp1 i6 i7 d67 hiv hdj hch hb G3 hsb k12 kM
      go_wp2
      clear hW3 p0 p1 fr
      refine wp_region_net2 (by kernel_rfl) [.eq (.agg #[.int .i64 y.p, .int .i64 y.q.v, .slice A y.q.f.length a, .slice C y.q.t.length c, .slice E y.d.length ec, .slice H y.m.length hc]), .eq (.int .i64 v), .eq (.pointer (some ⟨w0.heap.size, 0, none⟩)), .eq (.int .i64 y.p), .eq (.agg #[.int .i64 N, .slice GA ps.length gc]), rel 5 (fun u lo hi w => MxO w lo hi u (mxF K N (srF y v))), .rel (fun x w => ∃ Ar ar Cr cr Er er Hr hr', x.v 6 = .tuple #[.agg #[.int .i64 R.1.p, .int .i64 R.1.q.v, .slice Ar R.1.q.f.length ar, .slice Cr R.1.q.t.length cr, .slice Er R.1.d.length er, .slice Hr R.1.m.length hr'], .bool R.2] ∧ RepO w (x.lo 6) (x.hi 6) (.agg #[.int .i64 R.1.p, .int .i64 R.1.q.v, .slice Ar R.1.q.f.length ar, .slice Cr R.1.q.t.length cr, .slice Er R.1.d.length er, .slice Hr R.1.m.length hr']) R.1), .rel (fun x w => ∃ Ar ar Cr cr Er er Hr hr', x.v 7 = .agg #[.int .i64 R.1.p, .int .i64 R.1.q.v, .slice Ar R.1.q.f.length ar, .slice Cr R.1.q.t.length cr, .slice Er R.1.d.length er, .slice Hr R.1.m.length hr'] ∧ RepO w (x.lo 6) (x.hi 6) (.agg #[.int .i64 R.1.p, .int .i64 R.1.q.v, .slice Ar R.1.q.f.length ar, .slice Cr R.1.q.t.length cr, .slice Er R.1.d.length er, .slice Hr R.1.m.length hr']) R.1), .eq (.bool R.2)] [[], [], [], [2], [], [2, 3, 4], [0, 1, 2, 3, 4, 5], [0, 1, 2, 3, 4, 5, 6], [0, 1, 2, 3, 4, 5, 6], [0, 1, 2, 3, 4, 5, 6, 7, 8], [0, 1, 2, 3, 4, 5, 6, 7, 8, 9]] 9 8 [0, 1, 2, 3, 4, 5, 6, 7] (by kernel_rfl) rfl ⟨trivial, trivial, trivial, trivial, trivial, rel_stable (fun u lo hi w w' h hb => h.below hb), fun x w w' ⟨Ar, ar, Cr, cr, Er, er, Hr, hr', e1, h1⟩ hb => ⟨Ar, ar, Cr, cr, Er, er, Hr, hr', e1, h1.below hb⟩, fun x w w' ⟨Ar, ar, Cr, cr, Er, er, Hr, hr', e1, h1⟩ hb => ⟨Ar, ar, Cr, cr, Er, er, Hr, hr', e1, h1.below hb⟩, trivial, trivial⟩ ⟨?_, ?_, ?_, ?_, ?_, ?_, ?_, ?_, ?_, trivial⟩ ?_ ?_
      · intro x w hb hk Q' hQ
        clear hk
        simp only [netAct, dstAt, List.getElem?_toArray, List.getElem?_cons_zero, List.getElem?_cons_succ, Option.bind_some, Act.put, List.setIfInBounds_toArray, List.set_cons_zero, List.set_cons_succ] at hQ ⊢
        have z0 := (k13.call hb).cell' (i := 0) rfl
        have z1 := (k13.call hb).cell' (i := 1) rfl
        have z2 := (k13.call hb).cell' (i := 2) rfl
        have z3 := (k13.call hb).cell' (i := 3) rfl
        have z4 := (k13.call hb).cell' (i := 4) rfl
        have z5 := (k13.call hb).cell' (i := 5) rfl
        go_wp2
        exact hQ (.agg #[.int .i64 y.p, .int .i64 y.q.v, .slice A y.q.f.length a, .slice C y.q.t.length c, .slice E y.d.length ec, .slice H y.m.length hc]) _ (Below.refl _ _) rfl
      · intro x w hb hk Q' hQ
        clear hk
        simp only [netAct, dstAt, List.getElem?_toArray, List.getElem?_cons_zero, List.getElem?_cons_succ, Option.bind_some, Act.put, List.setIfInBounds_toArray, List.set_cons_zero, List.set_cons_succ] at hQ ⊢
        go_wp2
        exact hQ (.int .i64 v) _ (Below.refl _ _) rfl
      · intro x w hb hk Q' hQ
        clear hk
        simp only [netAct, dstAt, List.getElem?_toArray, List.getElem?_cons_zero, List.getElem?_cons_succ, Option.bind_some, Act.put, List.setIfInBounds_toArray, List.set_cons_zero, List.set_cons_succ] at hQ ⊢
        go_wp2
        exact hQ (.pointer (some ⟨w0.heap.size, 0, none⟩)) _ (Below.refl _ _) rfl
      · intro x w hb hk Q' hQ
        have h2 : x.v 2 = .pointer (some ⟨w0.heap.size, 0, none⟩) := (hk 2 (by decide)).1
        clear hk
        simp only [netAct, dstAt, List.getElem?_toArray, List.getElem?_cons_zero, List.getElem?_cons_succ, Option.bind_some, Act.put, List.setIfInBounds_toArray, List.set_cons_zero, List.set_cons_succ] at hQ ⊢
        simp only [h2] at hQ ⊢
        clear h2
        have z := (k13.call hb).cell' (i := 0) rfl
        go_wp2
        exact hQ (.int .i64 y.p) _ (Below.refl _ _) rfl
      · intro x w hb hk Q' hQ
        clear hk
        simp only [netAct, dstAt, List.getElem?_toArray, List.getElem?_cons_zero, List.getElem?_cons_succ, Option.bind_some, Act.put, List.setIfInBounds_toArray, List.set_cons_zero, List.set_cons_succ] at hQ ⊢
        have z0 := (kP3.call hb).cell' (i := 0) rfl
        have z1 := (kP3.call hb).cell' (i := 1) rfl
        go_wp2
        exact hQ (.agg #[.int .i64 N, .slice GA ps.length gc]) _ (Below.refl _ _) rfl
      · intro x w hb hk Q' hQ
        have h2 : x.v 2 = .pointer (some ⟨w0.heap.size, 0, none⟩) := (hk 2 (by decide)).1
        have h3 : x.v 3 = .int .i64 y.p := (hk 3 (by decide)).1
        have h4 : x.v 4 = .agg #[.int .i64 N, .slice GA ps.length gc] := (hk 4 (by decide)).1
        clear hk
        simp only [netAct, dstAt, List.getElem?_toArray, List.getElem?_cons_zero, List.getElem?_cons_succ, Option.bind_some, Act.put, List.setIfInBounds_toArray, List.set_cons_zero, List.set_cons_succ] at hQ ⊢
        simp only [h2, h3, h4] at hQ ⊢
        clear h2 h3 h4
        go_wp2_with fail
        refine (projBy_any y.p ps.length N g ps _ _ HPR.out (by omega) (by omega) (SlII.next hb HG3.out) HGF.out HLE.out).mono ?_; rintro e w6 ⟨v6, rfl, ho6, hb6⟩
        rw [HKF.out, ← HFF.out] at ho6
        go_wp2
        exact hQ _ _ hb6 ho6
      · intro x w hb hk Q' hQ
        have h0 : x.v 0 = .agg #[.int .i64 y.p, .int .i64 y.q.v, .slice A y.q.f.length a, .slice C y.q.t.length c, .slice E y.d.length ec, .slice H y.m.length hc] := (hk 0 (by decide)).1
        have h1 : x.v 1 = .int .i64 v := (hk 1 (by decide)).1
        have h2 : x.v 2 = .pointer (some ⟨w0.heap.size, 0, none⟩) := (hk 2 (by decide)).1
        have h3 : x.v 3 = .int .i64 y.p := (hk 3 (by decide)).1
        have h4 : x.v 4 = .agg #[.int .i64 N, .slice GA ps.length gc] := (hk 4 (by decide)).1
        have h5 : MxO w (x.lo 5) (x.hi 5) (x.v 5) (mxF K N (srF y v)) := (hk 5 (by decide)).1
        have s5 := (hk 5 (by decide)).2
        clear hk
        simp only [netAct, dstAt, List.getElem?_toArray, List.getElem?_cons_zero, List.getElem?_cons_succ, Option.bind_some, Act.put, List.setIfInBounds_toArray, List.set_cons_zero, List.set_cons_succ] at hQ ⊢
        simp only [h0, h1, h2, h3, h4] at hQ ⊢
        clear h0 h1 h2 h3 h4
        obtain ⟨A5, c5, e5⟩ := h5.form
        simp only [mxF] at e5
        have H5 := Lib.hid h5.rd
        rw [e5] at H5 hQ ⊢
        go_wp2_with fail
        refine (reflSrc_any _ _ y v K (srF y v) _ (RpR.next hb HR3.out) (by rw [HAT.out]; exact H5.out) HY.out (.inl HS.out) (by omega)).mono ?_; rintro e w6 ⟨v6, rfl, hO6, hb6⟩
        rw [HRR.out] at hO6 ⊢
        have HO6 := Lib.hid hO6
        obtain ⟨Ar, ar, Cr, cr, Er, er, Hr, hr', e6⟩ := hO6.form
        subst e6
        clear hO6
        go_wp2
        exact hQ _ _ hb6 ⟨Ar, ar, Cr, cr, Er, er, Hr, hr', rfl, HO6.out⟩
      · intro x w hb hk Q' hQ
        have h0 : x.v 0 = .agg #[.int .i64 y.p, .int .i64 y.q.v, .slice A y.q.f.length a, .slice C y.q.t.length c, .slice E y.d.length ec, .slice H y.m.length hc] := (hk 0 (by decide)).1
        have h1 : x.v 1 = .int .i64 v := (hk 1 (by decide)).1
        have h2 : x.v 2 = .pointer (some ⟨w0.heap.size, 0, none⟩) := (hk 2 (by decide)).1
        have h3 : x.v 3 = .int .i64 y.p := (hk 3 (by decide)).1
        have h4 : x.v 4 = .agg #[.int .i64 N, .slice GA ps.length gc] := (hk 4 (by decide)).1
        have h5 : MxO w (x.lo 5) (x.hi 5) (x.v 5) (mxF K N (srF y v)) := (hk 5 (by decide)).1
        have h6 : ∃ Ar ar Cr cr Er er Hr hr', x.v 6 = .tuple #[.agg #[.int .i64 R.1.p, .int .i64 R.1.q.v, .slice Ar R.1.q.f.length ar, .slice Cr R.1.q.t.length cr, .slice Er R.1.d.length er, .slice Hr R.1.m.length hr'], .bool R.2] ∧ RepO w (x.lo 6) (x.hi 6) (.agg #[.int .i64 R.1.p, .int .i64 R.1.q.v, .slice Ar R.1.q.f.length ar, .slice Cr R.1.q.t.length cr, .slice Er R.1.d.length er, .slice Hr R.1.m.length hr']) R.1 := (hk 6 (by decide)).1
        have s5 := (hk 5 (by decide)).2
        have s6 := (hk 6 (by decide)).2
        clear hk
        simp only [netAct, dstAt, List.getElem?_toArray, List.getElem?_cons_zero, List.getElem?_cons_succ, Option.bind_some, Act.put, List.setIfInBounds_toArray, List.set_cons_zero, List.set_cons_succ] at hQ ⊢
        simp only [h0, h1, h2, h3, h4] at hQ ⊢
        clear h0 h1 h2 h3 h4
        obtain ⟨Ar, ar, Cr, cr, Er, er, Hr, hr', e4, ho⟩ := h6
        have hQ' := hQ (.agg #[.int .i64 R.1.p, .int .i64 R.1.q.v, .slice Ar R.1.q.f.length ar, .slice Cr R.1.q.t.length cr, .slice Er R.1.d.length er, .slice Hr R.1.m.length hr']) w (Below.refl _ _) ⟨Ar, ar, Cr, cr, Er, er, Hr, hr', rfl, ho⟩
        rw [e4] at hQ' ⊢
        go_wp2
        exact hQ'
      · intro x w hb hk Q' hQ
        have h6 : ∃ Ar ar Cr cr Er er Hr hr', x.v 6 = .tuple #[.agg #[.int .i64 R.1.p, .int .i64 R.1.q.v, .slice Ar R.1.q.f.length ar, .slice Cr R.1.q.t.length cr, .slice Er R.1.d.length er, .slice Hr R.1.m.length hr'], .bool R.2] ∧ RepO w (x.lo 6) (x.hi 6) (.agg #[.int .i64 R.1.p, .int .i64 R.1.q.v, .slice Ar R.1.q.f.length ar, .slice Cr R.1.q.t.length cr, .slice Er R.1.d.length er, .slice Hr R.1.m.length hr']) R.1 := (hk 6 (by decide)).1
        clear hk
        simp only [netAct, dstAt, List.getElem?_toArray, List.getElem?_cons_zero, List.getElem?_cons_succ, Option.bind_some, Act.put, List.setIfInBounds_toArray, List.set_cons_zero, List.set_cons_succ] at hQ ⊢
        obtain ⟨Ar, ar, Cr, cr, Er, er, Hr, hr', e4, ho⟩ := h6
        rw [e4] at hQ ⊢
        go_wp2
        exact hQ (.bool R.2) _ (Below.refl _ _) rfl
      · intro x w hb hk hiv hdj
        have h0 : x.v 0 = .agg #[.int .i64 y.p, .int .i64 y.q.v, .slice A y.q.f.length a, .slice C y.q.t.length c, .slice E y.d.length ec, .slice H y.m.length hc] := hk 0 (by decide)
        have h1 : x.v 1 = .int .i64 v := hk 1 (by decide)
        have h2 : x.v 2 = .pointer (some ⟨w0.heap.size, 0, none⟩) := hk 2 (by decide)
        have h3 : x.v 3 = .int .i64 y.p := hk 3 (by decide)
        have h4 : x.v 4 = .agg #[.int .i64 N, .slice GA ps.length gc] := hk 4 (by decide)
        have h5 : MxO w (x.lo 5) (x.hi 5) (x.v 5) (mxF K N (srF y v)) := hk 5 (by decide)
        have h6 : ∃ Ar ar Cr cr Er er Hr hr', x.v 6 = .tuple #[.agg #[.int .i64 R.1.p, .int .i64 R.1.q.v, .slice Ar R.1.q.f.length ar, .slice Cr R.1.q.t.length cr, .slice Er R.1.d.length er, .slice Hr R.1.m.length hr'], .bool R.2] ∧ RepO w (x.lo 6) (x.hi 6) (.agg #[.int .i64 R.1.p, .int .i64 R.1.q.v, .slice Ar R.1.q.f.length ar, .slice Cr R.1.q.t.length cr, .slice Er R.1.d.length er, .slice Hr R.1.m.length hr']) R.1 := hk 6 (by decide)
        have h7 : ∃ Ar ar Cr cr Er er Hr hr', x.v 7 = .agg #[.int .i64 R.1.p, .int .i64 R.1.q.v, .slice Ar R.1.q.f.length ar, .slice Cr R.1.q.t.length cr, .slice Er R.1.d.length er, .slice Hr R.1.m.length hr'] ∧ RepO w (x.lo 6) (x.hi 6) (.agg #[.int .i64 R.1.p, .int .i64 R.1.q.v, .slice Ar R.1.q.f.length ar, .slice Cr R.1.q.t.length cr, .slice Er R.1.d.length er, .slice Hr R.1.m.length hr']) R.1 := hk 7 (by decide)
        have h8 : x.v 8 = .bool R.2 := hk 8 (by decide)
        clear hk
        simp only [netAct, dstAt, List.getElem?_toArray, List.getElem?_cons_zero, List.getElem?_cons_succ, Option.bind_some, Act.put, List.setIfInBounds_toArray, List.set_cons_zero, List.set_cons_succ]
        simp only [List.drop_succ_cons, List.drop_zero, h0, h1, h2, h3, h4, h8]
        clear h0 h1 h2 h3 h4 h8
        obtain ⟨Ar, ar, Cr, cr, Er, er, Hr, hr', e7, ho⟩ := h7
        obtain ⟨A6, a6, C6, c6, E6, ec6, H6, h6', e6, _⟩ := h6
        have i6 := hiv 6 (by decide)
        rw [e7, e6]
        have gf3 := G33.out.trans (hb.mono G33.out.size)
        have kz := k2.call gf3
        have fr := kz.frozen
        have s0 := kz.cell' (i := 0) rfl
        have s1 := kz.cell' (i := 1) rfl
        have s2 := kz.cell' (i := 2) rfl
        have s3 := kz.cell' (i := 3) rfl
        have s4 := kz.cell' (i := 4) rfl
        have s5 := kz.cell' (i := 5) rfl
        have gf := g0.trans (gf3.mono g0.size)
        have hc6 := chg6 w (w0.heap.size + 1) (.int .i64 R.1.p) (.int .i64 R.1.q.v) (.slice Ar R.1.q.f.length ar) (.slice Cr R.1.q.t.length cr) (.slice Er R.1.d.length er) (.slice Hr R.1.m.length hr')
        have g3s := G33.out.size
        have sz := SZ.out
        have OF := Lib.hid ((ho.chg hc6 (.inr (by omega))).wider (lo' := w0.heap.size) (hi' := w.heap.size) (by omega) (by omega))
        have GF := Lib.hid (gf.trans (hc6.below (by omega) gf.size))
        clear h5 ho e7 e6 kz gf gf3 hc6 hiv hdj i6 hb g3s sz k13 kP3
        go_wp2
        have hE := HE.out
        exact bodyPost_ret (v := .tuple #[.agg #[.int .i64 R.1.p, .int .i64 R.1.q.v, .slice Ar R.1.q.f.length ar, .slice Cr R.1.q.t.length cr, .slice Er R.1.d.length er, .slice Hr R.1.m.length hr'], .bool R.2]) (by simp [results, go_sem, s0, s1, s2, s3, s4, s5]) rfl ⟨_, by rw [hE], by rw [hE]; have := OF.out.wider (Nat.le_refl _) (Nat.le_refl _); simpa using this, GF.out⟩
      · intro x w hb hk hiv hdj om os hom hos
        simp only [List.getElem?_cons_zero, List.getElem?_cons_succ, Option.some.injEq] at hom hos
        subst hom hos
        have h0 : x.v 0 = .agg #[.int .i64 y.p, .int .i64 y.q.v, .slice A y.q.f.length a, .slice C y.q.t.length c, .slice E y.d.length ec, .slice H y.m.length hc] := hk 0 (by decide)
        have h1 : x.v 1 = .int .i64 v := hk 1 (by decide)
        have h2 : x.v 2 = .pointer (some ⟨w0.heap.size, 0, none⟩) := hk 2 (by decide)
        have h3 : x.v 3 = .int .i64 y.p := hk 3 (by decide)
        have h4 : x.v 4 = .agg #[.int .i64 N, .slice GA ps.length gc] := hk 4 (by decide)
        have h5 : MxO w (x.lo 5) (x.hi 5) (x.v 5) (mxF K N (srF y v)) := hk 5 (by decide)
        have h6 : ∃ Ar ar Cr cr Er er Hr hr', x.v 6 = .tuple #[.agg #[.int .i64 R.1.p, .int .i64 R.1.q.v, .slice Ar R.1.q.f.length ar, .slice Cr R.1.q.t.length cr, .slice Er R.1.d.length er, .slice Hr R.1.m.length hr'], .bool R.2] ∧ RepO w (x.lo 6) (x.hi 6) (.agg #[.int .i64 R.1.p, .int .i64 R.1.q.v, .slice Ar R.1.q.f.length ar, .slice Cr R.1.q.t.length cr, .slice Er R.1.d.length er, .slice Hr R.1.m.length hr']) R.1 := hk 6 (by decide)
        have h7 : ∃ Ar ar Cr cr Er er Hr hr', x.v 7 = .agg #[.int .i64 R.1.p, .int .i64 R.1.q.v, .slice Ar R.1.q.f.length ar, .slice Cr R.1.q.t.length cr, .slice Er R.1.d.length er, .slice Hr R.1.m.length hr'] ∧ RepO w (x.lo 6) (x.hi 6) (.agg #[.int .i64 R.1.p, .int .i64 R.1.q.v, .slice Ar R.1.q.f.length ar, .slice Cr R.1.q.t.length cr, .slice Er R.1.d.length er, .slice Hr R.1.m.length hr']) R.1 := hk 7 (by decide)
        clear hk
        simp only [List.foldl_cons, List.foldl_nil, netAct, dstAt, List.getElem?_toArray, List.getElem?_cons_zero, List.getElem?_cons_succ, Option.bind_some, Act.put, List.setIfInBounds_toArray, List.set_cons_zero, List.set_cons_succ]
        simp only [List.drop_succ_cons, List.drop_zero, h0, h1, h2, h3, h4]
        clear h0 h1 h2 h3 h4
        obtain ⟨Ar, ar, Cr, cr, Er, er, Hr, hr', e7, ho⟩ := h7
        obtain ⟨A6, a6, C6, c6, E6, ec6, H6, h6', e6, _⟩ := h6
        have i6 := hiv 6 (by decide)
        rw [e7, e6]
        have gf3 := G33.out.trans (hb.mono G33.out.size)
        have kz := k2.call gf3
        have fr := kz.frozen
        have s0 := kz.cell' (i := 0) rfl
        have s1 := kz.cell' (i := 1) rfl
        have s2 := kz.cell' (i := 2) rfl
        have s3 := kz.cell' (i := 3) rfl
        have s4 := kz.cell' (i := 4) rfl
        have s5 := kz.cell' (i := 5) rfl
        have gf := g0.trans (gf3.mono g0.size)
        have hc6 := chg6 w (w0.heap.size + 1) (.int .i64 R.1.p) (.int .i64 R.1.q.v) (.slice Ar R.1.q.f.length ar) (.slice Cr R.1.q.t.length cr) (.slice Er R.1.d.length er) (.slice Hr R.1.m.length hr')
        have g3s := G33.out.size
        have sz := SZ.out
        have OF := Lib.hid ((ho.chg hc6 (.inr (by omega))).wider (lo' := w0.heap.size) (hi' := w.heap.size) (by omega) (by omega))
        have GF := Lib.hid (gf.trans (hc6.below (by omega) gf.size))
        clear h5 ho e7 e6 kz gf gf3 hc6 hiv hdj i6 hb g3s sz k13 kP3
        go_wp2
        have hE := HE.out
        exact bodyPost_ret (v := .tuple #[.agg #[.int .i64 R.1.p, .int .i64 R.1.q.v, .slice Ar R.1.q.f.length ar, .slice Cr R.1.q.t.length cr, .slice Er R.1.d.length er, .slice Hr R.1.m.length hr'], .bool R.2]) (by simp [results, go_sem, s0, s1, s2, s3, s4, s5]) rfl ⟨_, by rw [hE], by rw [hE]; have := OF.out.wider (Nat.le_refl _) (Nat.le_refl _); simpa using this, GF.out⟩
end Go.Proofs.YtaefpblpfjhgoaaGreat

/- The reference's ReflectSource, plain. -/
namespace Go.Proofs.YtaefpblpfjhgoaaGreat
set_option linter.unusedVariables false
set_option linter.unusedSimpArgs false
open Go.RowKit

def pkS (F : Nat → Nat → Int) (o a b i j : Nat) : Int := if i < a ∨ (i = a ∧ j < b) then F i (o + j) else 0
theorem pkS_0 (F : Nat → Nat → Int) (o r c : Nat) : mxF r c (fun _ _ => 0) = mxF r c (pkS F o 0 0) := mxF_congr fun i j _ _ => by simp [pkS]
theorem pkS_put {F : Nat → Nat → Int} {o r c a b : Nat} (ha : a < r) (hb : b < c) : (flat r c (pkS F o a b)).set (a * c + b) (F a (o + b)) = flat r c (pkS F o a (b + 1)) := by
  rw [flat_set _ _ ha hb]
  refine flat_congr fun i j _ _ => ?_
  by_cases h : i = a ∧ j = b
  · obtain ⟨rfl, rfl⟩ := h
    rw [if_pos ⟨rfl, rfl⟩, pkS, if_pos (by omega)]
  · rw [if_neg h]
    unfold pkS
    by_cases h2 : i < a ∨ (i = a ∧ j < b)
    · rw [if_pos h2, if_pos (by omega)]
    · rw [if_neg h2, if_neg (by omega)]
theorem pkS_next (F : Nat → Nat → Int) (o r c a : Nat) : mxF r c (pkS F o a c) = mxF r c (pkS F o (a + 1) 0) := mxF_congr fun i j _ hj => by
  unfold pkS
  by_cases h2 : i < a ∨ (i = a ∧ j < c)
  · rw [if_pos h2, if_pos (by omega)]
  · rw [if_neg h2, if_neg (by omega)]
theorem pkS_end (F : Nat → Nat → Int) (o r c : Nat) : mxF r c (pkS F o r 0) = mxF r c fun a b => F a (o + b) := mxF_congr fun i j hi _ => by
  rw [pkS, if_pos (.inl hi)]
def rsdD (x : Rp) (v : Int) (K : Nat) : List Int := x.d.set v.toNat K
def rsrM (x : Rp) (v : Int) (K : Nat) (F : Nat → Nat → Int) (k i : Nat) : Mx := if i < k then (if tch x.q v i = true then gSrc x v K F i else x.m.getD i mx0) else zmAt (rvQ x.q v) (rsdD x v K) i
def rsrI (x : Rp) (v : Int) (K : Nat) (F : Nat → Nat → Int) (k a b i : Nat) : Mx := if i = k then mxF K (othN x v k) (pkS F (atN x v k) a b) else rsrM x v K F k i
theorem rsrM_end (x : Rp) (v : Int) (K : Nat) (F : Nat → Nat → Int) : msF x.q.f.length (rsrM x v K F x.q.f.length) = msF x.q.f.length (rfM x v (gSrc x v K F) x.q.f.length) := msF_congr fun i hi => by
  rw [rsrM, if_pos hi, rfM]
  by_cases h : tch x.q v i = true
  · rw [if_pos h, if_pos ⟨hi, h⟩]
  · rw [if_neg h, if_neg fun e => h e.2]
theorem rsrM_copy {x : Rp} {v : Int} {K k : Nat} {F : Nat → Nat → Int} {m : Mx} (h : tch x.q v k = false) (hm : x.m[k]? = some m) : (msF x.q.f.length (rsrM x v K F k)).set k m = msF x.q.f.length (rsrM x v K F (k + 1)) := by
  rw [msF_set]
  refine msF_congr fun i _ => ?_
  by_cases e : i = k
  · subst e
    rw [if_pos rfl, rsrM, if_pos (by omega), if_neg (by rw [h]; decide), List.getD_eq_getElem?_getD, hm]; rfl
  · rw [if_neg e]; unfold rsrM
    by_cases e2 : i < k
    · rw [if_pos e2, if_pos (show i < k + 1 by omega)]
    · rw [if_neg e2, if_neg (show ¬ i < k + 1 by omega)]
theorem rsrI_0 {x : Rp} {v : Int} {K k : Nat} {F : Nat → Nat → Int} (hz : zmAt (rvQ x.q v) (rsdD x v K) k = mxF K (othN x v k) fun _ _ => 0) : msF x.q.f.length (rsrM x v K F k) = msF x.q.f.length (rsrI x v K F k 0 0) := msF_congr fun i _ => by
  unfold rsrI
  by_cases e : i = k
  · subst e
    rw [if_pos rfl, rsrM, if_neg (by omega), hz, pkS_0]
  · rw [if_neg e]
theorem rsrI_at (x : Rp) (v : Int) (K k : Nat) (F : Nat → Nat → Int) (a b : Nat) (hk : k < x.q.f.length) : (msF x.q.f.length (rsrI x v K F k a b))[k]? = some (mxF K (othN x v k) (pkS F (atN x v k) a b)) := by
  rw [msF_get _ hk, rsrI, if_pos rfl]
theorem rsrI_put {x : Rp} {v : Int} {K k : Nat} {F : Nat → Nat → Int} {a b : Nat} (ha : a < K) (hb : b < othN x v k) :
    (msF x.q.f.length (rsrI x v K F k a b)).set k ⟨(K : Int), (othN x v k : Int), (flat K (othN x v k) (pkS F (atN x v k) a b)).set (a * othN x v k + b) (F a (atN x v k + b))⟩ = msF x.q.f.length (rsrI x v K F k a (b + 1)) := by
  rw [msF_set]
  refine msF_congr fun i _ => ?_
  unfold rsrI
  by_cases e : i = k
  · rw [if_pos e, if_pos e, pkS_put ha hb]; rfl
  · rw [if_neg e, if_neg e, if_neg e]
theorem rsrI_next (x : Rp) (v : Int) (K k : Nat) (F : Nat → Nat → Int) (a : Nat) : msF x.q.f.length (rsrI x v K F k a (othN x v k)) = msF x.q.f.length (rsrI x v K F k (a + 1) 0) := msF_congr fun i _ => by
  unfold rsrI
  by_cases e : i = k
  · rw [if_pos e, if_pos e, pkS_next]
  · rw [if_neg e, if_neg e]
theorem rsrI_end {x : Rp} {v : Int} {K k : Nat} {F : Nat → Nat → Int} (h : tch x.q v k = true) : msF x.q.f.length (rsrI x v K F k K 0) = msF x.q.f.length (rsrM x v K F (k + 1)) := msF_congr fun i _ => by
  unfold rsrI
  by_cases e : i = k
  · subst e
    rw [if_pos rfl, rsrM, if_pos (by omega), if_pos h, pkS_end, gSrc]
  · rw [if_neg e]; unfold rsrM
    by_cases e2 : i < k
    · rw [if_pos e2, if_pos (show i < k + 1 by omega)]
    · rw [if_neg e2, if_neg (show ¬ i < k + 1 by omega)]
/-- the matrix of zeros at an arrow from the source -/
theorem zm_src {x : Rp} {n k nt yt K : Nat} (hk : k < x.q.f.length) (hlt : x.q.f.length = x.q.t.length) (ef : x.q.f[k]? = some (n : Int)) (et : x.q.t[k]? = some (nt : Int)) (dt : x.d[nt]? = some (yt : Int)) (hne : nt ≠ n) (hn : n < x.d.length) : zmAt (rvQ x.q (n : Int)) (rsdD x (n : Int) K) k = mxF K yt fun _ _ => 0 := by
  have ht : tch x.q (n : Int) k = true := by rw [tch_of ef et]; simp
  have e1 : (rvQ x.q (n : Int)).t.getD k 0 = (n : Int) := by
    rw [rvQ, rvK, rowF_getD _ hk, rvT, if_pos ⟨hk, ht⟩, List.getD_eq_getElem?_getD, ef]; rfl
  have e2 : (rvQ x.q (n : Int)).f.getD k 0 = (nt : Int) := by
    rw [rvQ, rvK, rowF_getD _ hk, rvF, if_pos ⟨hk, ht⟩, List.getD_eq_getElem?_getD, et]; rfl
  have e3 : dAt (rsdD x (n : Int) K) (nt : Int) = (yt : Int) := by
    rw [dAt, rsdD, Int.toNat_natCast, Int.toNat_natCast, List.getD_eq_getElem?_getD, List.getElem?_set, if_neg (by omega), dt]; rfl
  have e4 : dAt (rsdD x (n : Int) K) (n : Int) = (K : Int) := by
    rw [dAt, rsdD, Int.toNat_natCast, List.getD_eq_getElem?_getD, List.getElem?_set, if_pos rfl, if_pos hn]; rfl
  rw [zmAt, e1, e2, e3, e4, zmx_flat]
/-- the reference's projection is the program's -/
theorem srF_ref {y : Rp} {n N D : Nat} {F0 : Nat → Nat → Int} (hfld : isFld y.p = true) (hdA : dAt y.d (n : Int) = (D : Int)) (hN : (outS y n D y.q.f.length).1 = N) (hF : (outS y n D y.q.f.length).2 = F0) (hin : InF y.p N D F0) :
    (srR y n).2 = (rdTo y.p (rdTo y.p N F0 D).2.length (pvF F0 (rdTo y.p N F0 D).2) N).2 ∧
    mxF (srK y n) N (srF y n) = mxF (freeV (rdTo y.p (rdTo y.p N F0 D).2.length (pvF F0 (rdTo y.p N F0 D).2) N).2 N).length N (fun a j => kvG y.p (rdTo y.p (rdTo y.p N F0 D).2.length (pvF F0 (rdTo y.p N F0 D).2) N).1 (rdTo y.p (rdTo y.p N F0 D).2.length (pvF F0 (rdTo y.p N F0 D).2) N).2 ((freeV (rdTo y.p (rdTo y.p N F0 D).2.length (pvF F0 (rdTo y.p N F0 D).2) N).2 N).getD a 0).toNat (rdTo y.p (rdTo y.p N F0 D).2.length (pvF F0 (rdTo y.p N F0 D).2) N).2.length j) ∧ srN y n = N := by
  have hp2 := (isFld_r hfld).1
  have hsn : srN y n = N := by rw [srN, hdA, Int.toNat_natCast, hN]
  have hsr : srR y n = rdTo y.p D (trF F0) N := by rw [srR, hsn, hdA, Int.toNat_natCast, hF]
  obtain ⟨e1, e2⟩ := span_eq hfld hp2 hin
  obtain ⟨g1, hg1⟩ : ∃ g1, (rdTo y.p (rdTo y.p N F0 D).2.length (pvF F0 (rdTo y.p N F0 D).2) N).1 = g1 := ⟨_, rfl⟩
  obtain ⟨ps, hps⟩ : ∃ ps, (rdTo y.p (rdTo y.p N F0 D).2.length (pvF F0 (rdTo y.p N F0 D).2) N).2 = ps := ⟨_, rfl⟩
  have hpiv := piv_rd hfld hp2 (inF_tr hin)
  have hgf := inF_to hp2 (inF_tr hin) N
  rw [hps] at e1
  rw [hg1] at e2
  rw [e1] at e2 hpiv
  have hK : srK y n = (freeV ps N).length := by rw [srK, hsr, hsn, e1]
  rw [hg1, hps]
  refine ⟨by rw [hsr, e1], ?_, hsn⟩
  rw [hK]
  refine mxF_congr fun a j ha hj => ?_
  rw [srF, hsr, hsn, e1, pjF]
  obtain ⟨x, hx⟩ : ∃ x, (freeV ps N)[a]? = some x := ⟨_, List.getElem?_eq_getElem ha⟩
  obtain ⟨k, rfl, hk, hkn⟩ := freeV_at hx
  rw [List.getD_eq_getElem?_getD, hx]
  simp only [Option.getD_some, Int.toNat_natCast]
  rw [rsO_kv hp2 hgf hpiv hk hkn]
  -- the rows agree
  have hcong : ∀ m, m ≤ ps.length → kvG y.p (rdTo y.p D (trF F0) N).1 ps k m j = kvG y.p g1 ps k m j := by
    intro m
    induction m with
    | zero => intro _; rfl
    | succ m ih =>
      intro hm
      rw [kvG, kvG, ih (by omega), e2 m (by omega) k hk]
  exact hcong _ (Nat.le_refl _)
end Go.Proofs.YtaefpblpfjhgoaaGreat

/- Writes into representations of the reference's making: a matrix put in its place, a number put into a matrix. -/
namespace Go.Proofs.YtaefpblpfjhgoaaGreat
set_option linter.unusedVariables false
set_option linter.unusedSimpArgs false
open Go.RowKit

theorem IntsO.set3 {w : World} {lo hi g i : Nat} {v : Value} {l : List Int} {t : TypeId} {cs : Array Value} (h : IntsO w lo hi v l) (hb : Blk w g t cs) (ht : 3 ≠ t) (a b c : Value) : IntsO (set3 w g i a b c) lo hi v l := by
  have h1 : Fam w lo hi [(v, l)] := ⟨fun p hp => by simp at hp; rw [hp]; exact h, by simp⟩
  exact (h1.set3 (i := i) hb ht a b c).1 (v, l) (by simp)
theorem RepI.setMx {w : World} {lo hi mi hi' g n c j : Nat} {p v r k : Int} {f t d u : Value} {x : Rp} {m : Mx} (h : RepI w lo hi (.agg #[.int .i64 p, .int .i64 v, f, t, d, .slice (some ⟨g, 0, none⟩) n c]) x) (hj : j < x.m.length)
    (hu : MxO w mi hi' (.agg #[.int .i64 r, .int .i64 k, u]) m) (h1 : hi ≤ mi) (h2 : mi ≤ hi') :
    RepI (set3 w g (j * 3) (.int .i64 r) (.int .i64 k) u) lo hi' (.agg #[.int .i64 p, .int .i64 v, f, t, d, .slice (some ⟨g, 0, none⟩) n c]) ⟨x.p, x.q, x.d, x.m.set j m⟩ ∧ lo ≤ g ∧ g < hi := by
  obtain ⟨f', t', d', m', vs, mi0, e, i1, i2, i3, hO, hvl, hF, hmi, hi1, hi2⟩ := h
  simp only [Value.agg.injEq, Array.mk.injEq, List.cons.injEq, and_true] at e
  obtain ⟨rfl2, rfl3, rfl, rfl, rfl, rfl⟩ := e
  obtain ⟨s, e, hs, j1, j2⟩ := hu
  simp only [Value.agg.injEq, Array.mk.injEq, List.cons.injEq, and_true, Value.int.injEq, true_and] at e
  obtain ⟨rfl, rfl, rfl⟩ := e
  obtain ⟨cs, hb, hg1, hg2⟩ := OutM.blk hO
  refine ⟨⟨f, t, d, _, vs.set j u, mi0, by rw [rfl2, rfl3], i1.set3 hb (by decide) _ _ _, i2.set3 hb (by decide) _ _ _, i3.set3 hb (by decide) _ _ _, (OutM.setMx hO hvl hj m u).mono (Nat.le_refl _) (by omega), by simp [hvl], ?_, ⟨hmi.1, by omega⟩, hi1, fun y hy => ?_⟩, hg1, hg2⟩
  · have hF' : Fam w mi0 hi ([] ++ vs.zip (x.m.map Mx.a)) := by simpa using hF
    have hF2 := hF'.swap (j := j) (by simpa using hj) (by simpa using hvl) hs h1 h2 (by omega)
    have hF3 := hF2.set3 (i := j * 3) hb (by decide) (.int .i64 m.r) (.int .i64 m.c) u
    rw [List.map_set]
    simpa using hF3
  · rcases List.mem_or_eq_of_mem_set hy with hy | rfl
    · exact hi2 y hy
    · exact ⟨j1, j2⟩
theorem RepI.blk {w : World} {lo hi g n c : Nat} {p v : Int} {f t d : Value} {x : Rp} (h : RepI w lo hi (.agg #[.int .i64 p, .int .i64 v, f, t, d, .slice (some ⟨g, 0, none⟩) n c]) x) : ∃ cs, Blk w g 50 cs ∧ lo ≤ g ∧ g < hi := by
  obtain ⟨f', t', d', m', vs, mi0, e, i1, i2, i3, hO, hvl, hF, hmi, hi1, hi2⟩ := h
  simp only [Value.agg.injEq, Array.mk.injEq, List.cons.injEq, and_true] at e
  obtain ⟨rfl2, rfl3, rfl, rfl, rfl, rfl⟩ := e
  exact OutM.blk hO
/-- the cells of a matrix -/
theorem RepI.mxAt {w : World} {lo hi j : Nat} {p v : Int} {f t d m : Value} {x : Rp} {y : Mx} (h : RepI w lo hi (.agg #[.int .i64 p, .int .i64 v, f, t, d, m]) x) (hj : x.m[j]? = some y) :
    ∃ g c s, m = .slice (some ⟨g, 0, none⟩) x.m.length c ∧ lo ≤ g ∧ g < hi ∧ w.cell? ⟨g, j * 3, none⟩ = some (.int .i64 y.r) ∧ w.cell? ⟨g, j * 3 + 1, none⟩ = some (.int .i64 y.c) ∧ w.cell? ⟨g, j * 3 + 2, none⟩ = some s ∧ IntsO w lo hi s y.a ∧ (∀ i, w.frozen? ⟨g, i, none⟩ = false) := by
  obtain ⟨f', t', d', m', vs, mi0, e, i1, i2, i3, hO, hvl, hF, hmi, hi1, hi2⟩ := h
  simp only [Value.agg.injEq, Array.mk.injEq, List.cons.injEq, and_true] at e
  obtain ⟨_, _, rfl, rfl, rfl, rfl⟩ := e
  have hjl := lt_of_some hj
  have hv : vs[j]? = some (vs[j]'(by omega)) := List.getElem?_eq_getElem (by omega)
  obtain ⟨a, b, c⟩ := mxCs_get hv hj
  have hR : RepO w lo hi (.agg #[.int .i64 x.p, .int .i64 x.q.v, .slice none 0 0, .slice none 0 0, .slice none 0 0, m]) ⟨x.p, ⟨x.q.v, [], []⟩, [], x.m⟩ := by
    refine ⟨_, _, _, _, vs, rfl, hO, hvl, ?_, hi1, hi2⟩
    have hn : ∀ b : Value × List Int, (Value.slice none 0 0).ownBlock = none ∨ (Value.slice none 0 0).ownBlock ≠ b.1.ownBlock := fun b => .inl rfl
    refine ⟨fun p hp => ?_, ?_⟩
    · simp only [List.cons_append, List.nil_append, List.mem_cons] at hp
      rcases hp with rfl | rfl | rfl | hp
      · exact ⟨OwnI.nil _ _, by simp [Value.ownBlock]⟩
      · exact ⟨OwnI.nil _ _, by simp [Value.ownBlock]⟩
      · exact ⟨OwnI.nil _ _, by simp [Value.ownBlock]⟩
      · exact (hF.1 p hp).wider hmi.1 (Nat.le_refl _)
    · simp only [List.cons_append, List.nil_append, List.pairwise_cons]
      exact ⟨fun b _ => .inl rfl, fun b _ => .inl rfl, fun b _ => .inl rfl, hF.2⟩
  obtain ⟨g, c', s, e, k1, k2, z0, z1, z2, hs, hf, _⟩ := hR.mxAt hj
  exact ⟨g, c', s, e, k1, k2, z0, z1, z2, hs, hf⟩
/-- a number put into a matrix -/
theorem RepI.putMx {w : World} {lo hi j i : Nat} {p v z : Int} {f t d m : Value} {x : Rp} {y : Mx} (h : RepI w lo hi (.agg #[.int .i64 p, .int .i64 v, f, t, d, m]) x) (hj : x.m[j]? = some y) (hi' : i < y.a.length) (hz : I64 z) :
    ∃ g c gr cr, m = .slice (some ⟨g, 0, none⟩) x.m.length c ∧ w.cell? ⟨g, j * 3 + 1, none⟩ = some (.int .i64 y.c) ∧ w.cell? ⟨g, j * 3 + 2, none⟩ = some (.slice (some ⟨gr, 0, none⟩) y.a.length cr) ∧ (∃ u, w.cell? ⟨gr, i, none⟩ = some u) ∧ w.frozen? ⟨gr, i, none⟩ = false ∧
      (x.m.length ≤ c ∧ c ≤ 9223372036854775807) ∧ (y.a.length ≤ cr ∧ cr ≤ 9223372036854775807) ∧ (lo ≤ gr ∧ gr < hi) ∧ (∀ (g' : Nat) (t' : TypeId) (cs' : Array Value), Blk w g' t' cs' → 3 ≠ t' → g' ≠ gr) ∧ RepI (w.setCell ⟨gr, i, none⟩ (.int .i64 z)) lo hi (.agg #[.int .i64 p, .int .i64 v, f, t, d, m]) ⟨x.p, x.q, x.d, x.m.set j ⟨y.r, y.c, y.a.set i z⟩⟩ := by
  obtain ⟨f', t', d', m', vs, mi0, e, i1, i2, i3, hO, hvl, hF, hmi, hi1, hi2⟩ := h
  simp only [Value.agg.injEq, Array.mk.injEq, List.cons.injEq, and_true] at e
  obtain ⟨e1, e2, rfl, rfl, rfl, rfl⟩ := e
  have hF' : Fam w mi0 hi ([] ++ vs.zip (x.m.map Mx.a)) := by simpa using hF
  obtain ⟨gm, cm, g, c, em, hgm, hv, c0, c1, c2, ho, hgb, k1, k2, k3, k4⟩ := OutM.at_ hO hvl hF' hj (by omega)
  have hput := mats_put (i := i) hO hF' hv hj ho hz
  have hcell := (ho.cellG hi').1
  have hfr := ho.frozenG i
  have lowp : ∀ {u : Value} {l : List Int}, IntsO w lo mi0 u l → IntsO (w.setCell ⟨g, i, none⟩ (.int .i64 z)) lo mi0 u l := fun h => h.chg (chg_set1 w g i _) (.inl hgb.1)
  refine ⟨gm, cm, g, c, em, c1, c2, ⟨_, hcell⟩, hfr, ⟨k3, k4⟩, ⟨k1, k2⟩, ⟨by omega, hgb.2⟩, fun g' t' cs' hb ht e => ho.blkne hb ht (by rw [e]; rfl), f, t, d, m, vs, mi0, by rw [e1, e2], lowp i1, lowp i2, lowp i3, hput.1, by simp [hvl], by simpa using hput.2, hmi, hi1, mats_I64 hi2 hj⟩
end Go.Proofs.YtaefpblpfjhgoaaGreat

/- l6Copy: rows apart from one another. -/
namespace Go.Proofs.YtaefpblpfjhgoaaGreat
set_option linter.unusedVariables false
set_option linter.unusedSimpArgs false
open Go.RowKit

/-- append onto a slice that holds nothing: into its own block, or into new memory -/
theorem wpList_append_fresh2 {w : World} {ops : Array Oper} {rest : List Oper} {o : Oper} {a : Act} {Q : Exit → Act → World → Prop} (hgd : o.guard = none) (s x : Operand)
    (ho : o.op = .call { callee := .builtin .append, args := #[s, x], argTypes := #[22, 22] })
    (g lo B : Nat) (cs : Array Value) (hs : a.eval s = .slice (some ⟨g, 0, none⟩) 0 0) (hg : Blk w g 3 cs) (hcs : cs.size = 0) (hlo : lo ≤ g) (A : Option Addr) (c : Nat) (news : List Int) (hx : a.eval x = .slice A news.length c) (hr : SlI w B (.slice A news.length c) news)
    (h : ∀ v' w', OwnI w' lo v' news → (v'.ownBlock = some g ∨ ∀ k, v'.ownBlock = some k → w.heap.size ≤ k) → Below w.heap.size w w' → wpList Tryz.prog ops Q rest (a.put o.dst v') w') : wpList Tryz.prog ops Q (o :: rest) a w := by
  obtain ⟨i0, hi, hz0, hz1, hz2⟩ := info_parts infoInt
  have hn := hr
  obtain ⟨_, _, _, _, _, hn, hcell⟩ := hn
  have hI := SlI.i64 hr
  refine wpList_plain hgd fun K hK => ?_
  by_cases hp : 0 < news.length
  · obtain ⟨b, of, eA, hb, hc⟩ := hcell hp
    have hA := NewsAt.of_sl hr
    obtain ⟨hl, hnews⟩ := hA
    obtain ⟨b', of', eA', hc'⟩ := hnews.resolve_left (by omega)
    subst eA'
    have hadd : ∀ j, (⟨b', of', none⟩ : Addr).add j = ⟨b', of' + j, none⟩ := by intro j; unfold Addr.add; split <;> simp_all
    obtain ⟨v', w', hrun, hown, hgr⟩ := run_append_arg_grows (P := Tryz.prog) w 22 o.type 3 i0 _ 1 8 Tryz.underlying22 hi hz0 hz1 hz2 rfl (by decide) ⟨g, 0, none⟩ 0 0 [] (by simp) (by intro j u hj; simp at hj) ⟨b', of', none⟩ news.length c (news.map (Value.int .i64)) hl (fun j u hj => by rw [hadd]; exact hc' j u hj) (by omega) (by simp only [maxLen]; omega) (by omega)
    unfold Oper.wp execOp
    simp only [ho, resolve, invoke, builtin, Sem.run_bind, Sem.run_pure, Result.andThen_ok, List.map_toArray, List.map_cons, List.map_nil, hs, hx, hrun]
    have hgl := hg.lt
    have hOw : OwnI w' w.heap.size v' news := ⟨by simpa using hown, hn, hI⟩
    refine hK _ _ (h v' w' (hOw.lower (by omega)) (.inr fun k hk => (hOw.lt k hk).1) ⟨hgr.os, hgr.tape, hgr.output, hgr.size, fun k hk => hgr.block k hk (by simp)⟩)
  · have h0 : news = [] := List.eq_nil_of_length_eq_zero (by omega)
    subst h0
    have hrun : (Builtin.append_ #[22, 22] o.type #[.slice (some ⟨g, 0, none⟩) 0 0, .slice A 0 c]).run Tryz.prog w = .ok (.slice (some ⟨g, 0, none⟩) 0 0) w := by
      cases A <;> simp [Builtin.append_, run_underlying (P := Tryz.prog) Tryz.underlying22, sizeOf, typeInfo, hi, Builtin.lenOf, Builtin.firstCells, storeCells, loadCells, loadCellsFrom]
    simp only [List.length_nil] at hx
    unfold Oper.wp execOp
    simp only [ho, resolve, invoke, builtin, Sem.run_bind, Sem.run_pure, Result.andThen_ok, List.map_toArray, List.map_cons, List.map_nil, hs, hx, hrun]
    refine hK _ _ (h _ w ?_ (.inl (by simp [Value.ownBlock])) (Below.refl _ _))
    have := hg.own (base := lo) (n := 0) (cap := 0) (size := 1) hlo (Nat.le_refl _) (by simp only [maxLen]; omega) (by omega)
    exact ⟨by simpa using this, by simp, by simp⟩
theorem fam_twoQ {w : World} {lo : Nat} {a b : Value} {l m : List Int} (ha : OwnI w lo a l) (hb : OwnI w lo b m) (h : ∀ k, a.ownBlock = some k → b.ownBlock ≠ some k) : Fam w lo w.heap.size [(a, l), (b, m)] := by
  refine ⟨fun p hp => ?_, ?_⟩
  · simp only [List.mem_cons, List.not_mem_nil, or_false] at hp
    rcases hp with rfl | rfl
    · exact IntsO.of_own ha
    · exact IntsO.of_own hb
  · simp only [List.pairwise_cons, List.mem_cons, List.not_mem_nil, or_false, forall_eq, false_implies, implies_true, List.Pairwise.nil, and_true]
    rcases hA : a.ownBlock with _ | x
    · exact .inl rfl
    · exact .inr fun e => h x hA e.symm
set_option maxHeartbeats 3200000 in
theorem l6Copy_own (u : Value) (q : Qv) (w0 : World) (hu : QvR w0 w0.heap.size u q) :
    Calls Tryz.prog 61 #[u] w0 fun e w' => ∃ v, e = .returned v ∧ QuivO w' w0.heap.size w'.heap.size v q ∧ Below w0.heap.size w0 w' := by
  obtain ⟨A, c, C, d, rfl, hf, ht, hr, lf, lt⟩ := hu.open_
  clear hu
  obtain ⟨W, hW⟩ : ∃ W, W = (w0.alloc (.cells #[.int .i64 q.v, .slice A q.f.length c, .slice C q.t.length d] 29)).alloc (.cells #[.int .i64 0, .slice none 0 0, .slice none 0 0] 29) := ⟨_, rfl⟩
  have g0 : Below w0.heap.size w0 W := by rw [hW]; exact ((Below.refl _ _).alloc (Nat.le_refl _) _).alloc (by simp) _
  have k1 : Blk W w0.heap.size 29 #[.int .i64 q.v, .slice A q.f.length c, .slice C q.t.length d] := by rw [hW]; exact (Blk.new _ _ _).alloc _
  have k2 : Blk W (w0.heap.size + 1) 29 #[.int .i64 0, .slice none 0 0, .slice none 0 0] := by
    rw [hW]
    have := Blk.new (w0.alloc (.cells #[.int .i64 q.v, .slice A q.f.length c, .slice C q.t.length d] 29)) 29 #[.int .i64 0, .slice none 0 0, .slice none 0 0]
    simpa only [World.size_alloc] using this
  have sz : W.heap.size = w0.heap.size + 1 + 1 := by rw [hW]; simp
  have SZ := Lib.hid sz
  clear sz
  replace hf := SlI.next g0 hf
  replace ht := SlI.next g0 ht
  go_enter Tryz.func61, Tryz.ntmps61
  go_wp2
  rw [← hW]; clear hW
  refine wp_region_net (by kernel_rfl) [.eq (.pointer (some ⟨w0.heap.size, 0, none⟩)), .eq (.int .i64 q.v), rel 2 (fun u lo hi w => ∃ g, u = .slice (some ⟨g, 0, none⟩) 0 0 ∧ (lo ≤ g ∧ g < hi) ∧ W.heap.size ≤ g ∧ Blk w g 3 #[]), .eq (.pointer (some ⟨w0.heap.size, 1, none⟩)), .eq (.slice A q.f.length c), .rel (fun x w => OwnI w W.heap.size (x.v 5) q.f ∧ ∀ k, (x.v 5).ownBlock = some k → (x.lo 2 ≤ k ∧ k < x.hi 2) ∨ (x.lo 5 ≤ k ∧ k < x.hi 5)), rel 6 (fun u lo hi w => ∃ g, u = .slice (some ⟨g, 0, none⟩) 0 0 ∧ (lo ≤ g ∧ g < hi) ∧ W.heap.size ≤ g ∧ Blk w g 3 #[]), .eq (.pointer (some ⟨w0.heap.size, 2, none⟩)), .eq (.slice C q.t.length d), .rel (fun x w => OwnI w W.heap.size (x.v 9) q.t ∧ ∀ k, (x.v 9).ownBlock = some k → (x.lo 6 ≤ k ∧ k < x.hi 6) ∨ (x.lo 9 ≤ k ∧ k < x.hi 9)), .rel (fun x w => x.v 10 = .agg #[.int .i64 q.v, x.v 5, x.v 9])] [[], [0], [], [], [3], [2, 3, 4], [], [], [7], [2, 3, 4, 5, 6, 7, 8], [0, 1, 2, 3, 4, 5, 6, 7, 8, 9], [0, 1, 2, 3, 4, 5, 6, 7, 8, 9, 10]] 11 (by kernel_rfl) ⟨trivial, trivial, rel_stable (fun u lo hi w w' ⟨g, e, h1, h2, h3⟩ hb => ⟨g, e, h1, h2, h3.call hb⟩), trivial, trivial, fun x w w' ⟨h1, h2⟩ hb => ⟨h1.below hb, h2⟩, rel_stable (fun u lo hi w w' ⟨g, e, h1, h2, h3⟩ hb => ⟨g, e, h1, h2, h3.call hb⟩), trivial, trivial, fun x w w' ⟨h1, h2⟩ hb => ⟨h1.below hb, h2⟩, fun x w w' h hb => h, trivial⟩ ⟨?_, ?_, ?_, ?_, ?_, ?_, ?_, ?_, ?_, ?_, ?_, trivial⟩ ?_
  · intro x w hb hk Q' hQ
    clear hk
    simp only [netAct, dstAt, List.getElem?_toArray, List.getElem?_cons_zero, List.getElem?_cons_succ, Option.bind_some, Act.put, List.setIfInBounds_toArray, List.set_cons_zero, List.set_cons_succ] at hQ ⊢
    go_wp2
    exact hQ (.pointer (some ⟨w0.heap.size, 0, none⟩)) _ (Below.refl _ _) rfl
  · intro x w hb hk Q' hQ
    have h0 : x.v 0 = .pointer (some ⟨w0.heap.size, 0, none⟩) := (hk 0 (by decide)).1
    clear hk
    simp only [netAct, dstAt, List.getElem?_toArray, List.getElem?_cons_zero, List.getElem?_cons_succ, Option.bind_some, Act.put, List.setIfInBounds_toArray, List.set_cons_zero, List.set_cons_succ] at hQ ⊢
    simp only [h0] at hQ ⊢
    clear h0
    have c0 := (k1.call hb).cell' (i := 0) rfl
    go_wp2
    exact hQ (.int .i64 q.v) _ (Below.refl _ _) rfl
  · intro x w hb hk Q' hQ
    clear hk
    simp only [netAct, dstAt, List.getElem?_toArray, List.getElem?_cons_zero, List.getElem?_cons_succ, Option.bind_some, Act.put, List.setIfInBounds_toArray, List.set_cons_zero, List.set_cons_succ] at hQ ⊢
    have hbs := hb.size
    go_wp2
    exact hQ _ _ (below_alloc _ _) ⟨_, rfl, ⟨Nat.le_refl _, by show w.heap.size < (w.alloc _).heap.size; simp⟩, hbs, Blk.new _ _ _⟩
  · intro x w hb hk Q' hQ
    clear hk
    simp only [netAct, dstAt, List.getElem?_toArray, List.getElem?_cons_zero, List.getElem?_cons_succ, Option.bind_some, Act.put, List.setIfInBounds_toArray, List.set_cons_zero, List.set_cons_succ] at hQ ⊢
    go_wp2
    exact hQ (.pointer (some ⟨w0.heap.size, 1, none⟩)) _ (Below.refl _ _) rfl
  · intro x w hb hk Q' hQ
    have h3 : x.v 3 = .pointer (some ⟨w0.heap.size, 1, none⟩) := (hk 3 (by decide)).1
    clear hk
    simp only [netAct, dstAt, List.getElem?_toArray, List.getElem?_cons_zero, List.getElem?_cons_succ, Option.bind_some, Act.put, List.setIfInBounds_toArray, List.set_cons_zero, List.set_cons_succ] at hQ ⊢
    simp only [h3] at hQ ⊢
    clear h3
    have c1 := (k1.call hb).cell' (i := 1) rfl
    go_wp2
    exact hQ (.slice A q.f.length c) _ (Below.refl _ _) rfl
  · intro x w hb hk Q' hQ
    have h2 : ∃ g, (x.v 2) = .slice (some ⟨g, 0, none⟩) 0 0 ∧ ((x.lo 2) ≤ g ∧ g < (x.hi 2)) ∧ W.heap.size ≤ g ∧ Blk w g 3 #[] := (hk 2 (by decide)).1
    have h3 : x.v 3 = .pointer (some ⟨w0.heap.size, 1, none⟩) := (hk 3 (by decide)).1
    have h4 : x.v 4 = .slice A q.f.length c := (hk 4 (by decide)).1
    have s2 := (hk 2 (by decide)).2
    clear hk
    simp only [netAct, dstAt, List.getElem?_toArray, List.getElem?_cons_zero, List.getElem?_cons_succ, Option.bind_some, Act.put, List.setIfInBounds_toArray, List.set_cons_zero, List.set_cons_succ] at hQ ⊢
    simp only [h3, h4] at hQ ⊢
    clear h3 h4
    obtain ⟨g, e2, hg1, hg, hB⟩ := h2
    rw [e2] at hQ ⊢
    refine wpList_append_fresh2 (by rfl) (.tmp 5) (.tmp 7) (by rfl) g W.heap.size w.heap.size #[] (by rfl) hB rfl hg A c q.f (by rfl) (SlI.next hb hf) ?_
    intro v' w' ho ho2 hb'
    refine hQ v' w' hb' ⟨ho, fun k hk => ?_⟩
    replace hk : v'.ownBlock = some k := hk
    rcases ho2 with ho2 | ho2
    · rw [ho2] at hk; injection hk with hk; subst hk; exact .inl hg1
    · exact .inr ⟨ho2 k hk, (ho.lt k hk).2⟩
  · intro x w hb hk Q' hQ
    clear hk
    simp only [netAct, dstAt, List.getElem?_toArray, List.getElem?_cons_zero, List.getElem?_cons_succ, Option.bind_some, Act.put, List.setIfInBounds_toArray, List.set_cons_zero, List.set_cons_succ] at hQ ⊢
    have hbs := hb.size
    go_wp2
    exact hQ _ _ (below_alloc _ _) ⟨_, rfl, ⟨Nat.le_refl _, by show w.heap.size < (w.alloc _).heap.size; simp⟩, hbs, Blk.new _ _ _⟩
  · intro x w hb hk Q' hQ
    clear hk
    simp only [netAct, dstAt, List.getElem?_toArray, List.getElem?_cons_zero, List.getElem?_cons_succ, Option.bind_some, Act.put, List.setIfInBounds_toArray, List.set_cons_zero, List.set_cons_succ] at hQ ⊢
    go_wp2
    exact hQ (.pointer (some ⟨w0.heap.size, 2, none⟩)) _ (Below.refl _ _) rfl
  · intro x w hb hk Q' hQ
    have h7 : x.v 7 = .pointer (some ⟨w0.heap.size, 2, none⟩) := (hk 7 (by decide)).1
    clear hk
    simp only [netAct, dstAt, List.getElem?_toArray, List.getElem?_cons_zero, List.getElem?_cons_succ, Option.bind_some, Act.put, List.setIfInBounds_toArray, List.set_cons_zero, List.set_cons_succ] at hQ ⊢
    simp only [h7] at hQ ⊢
    clear h7
    have c2 := (k1.call hb).cell' (i := 2) rfl
    go_wp2
    exact hQ (.slice C q.t.length d) _ (Below.refl _ _) rfl
  · intro x w hb hk Q' hQ
    have h2 : ∃ g, (x.v 2) = .slice (some ⟨g, 0, none⟩) 0 0 ∧ ((x.lo 2) ≤ g ∧ g < (x.hi 2)) ∧ W.heap.size ≤ g ∧ Blk w g 3 #[] := (hk 2 (by decide)).1
    have h3 : x.v 3 = .pointer (some ⟨w0.heap.size, 1, none⟩) := (hk 3 (by decide)).1
    have h4 : x.v 4 = .slice A q.f.length c := (hk 4 (by decide)).1
    have h5 : OwnI w W.heap.size (x.v 5) q.f ∧ ∀ k, (x.v 5).ownBlock = some k → (x.lo 2 ≤ k ∧ k < x.hi 2) ∨ (x.lo 5 ≤ k ∧ k < x.hi 5) := (hk 5 (by decide)).1
    have h6 : ∃ g, (x.v 6) = .slice (some ⟨g, 0, none⟩) 0 0 ∧ ((x.lo 6) ≤ g ∧ g < (x.hi 6)) ∧ W.heap.size ≤ g ∧ Blk w g 3 #[] := (hk 6 (by decide)).1
    have h7 : x.v 7 = .pointer (some ⟨w0.heap.size, 2, none⟩) := (hk 7 (by decide)).1
    have h8 : x.v 8 = .slice C q.t.length d := (hk 8 (by decide)).1
    have s2 := (hk 2 (by decide)).2
    have s5 := (hk 5 (by decide)).2
    have s6 := (hk 6 (by decide)).2
    clear hk
    simp only [netAct, dstAt, List.getElem?_toArray, List.getElem?_cons_zero, List.getElem?_cons_succ, Option.bind_some, Act.put, List.setIfInBounds_toArray, List.set_cons_zero, List.set_cons_succ] at hQ ⊢
    simp only [h3, h4, h7, h8] at hQ ⊢
    clear h3 h4 h7 h8
    obtain ⟨g, e6, hg1, hg, hB⟩ := h6
    rw [e6] at hQ ⊢
    refine wpList_append_fresh2 (by rfl) (.tmp 9) (.tmp 11) (by rfl) g W.heap.size w.heap.size #[] (by rfl) hB rfl hg C d q.t (by rfl) (SlI.next hb ht) ?_
    intro v' w' ho ho2 hb'
    refine hQ v' w' hb' ⟨ho, fun k hk => ?_⟩
    replace hk : v'.ownBlock = some k := hk
    rcases ho2 with ho2 | ho2
    · rw [ho2] at hk; injection hk with hk; subst hk; exact .inl hg1
    · exact .inr ⟨ho2 k hk, (ho.lt k hk).2⟩
  · intro x w hb hk Q' hQ
    have h0 : x.v 0 = .pointer (some ⟨w0.heap.size, 0, none⟩) := (hk 0 (by decide)).1
    have h1 : x.v 1 = .int .i64 q.v := (hk 1 (by decide)).1
    have h2 : ∃ g, (x.v 2) = .slice (some ⟨g, 0, none⟩) 0 0 ∧ ((x.lo 2) ≤ g ∧ g < (x.hi 2)) ∧ W.heap.size ≤ g ∧ Blk w g 3 #[] := (hk 2 (by decide)).1
    have h3 : x.v 3 = .pointer (some ⟨w0.heap.size, 1, none⟩) := (hk 3 (by decide)).1
    have h4 : x.v 4 = .slice A q.f.length c := (hk 4 (by decide)).1
    have h5 : OwnI w W.heap.size (x.v 5) q.f ∧ ∀ k, (x.v 5).ownBlock = some k → (x.lo 2 ≤ k ∧ k < x.hi 2) ∨ (x.lo 5 ≤ k ∧ k < x.hi 5) := (hk 5 (by decide)).1
    have h6 : ∃ g, (x.v 6) = .slice (some ⟨g, 0, none⟩) 0 0 ∧ ((x.lo 6) ≤ g ∧ g < (x.hi 6)) ∧ W.heap.size ≤ g ∧ Blk w g 3 #[] := (hk 6 (by decide)).1
    have h7 : x.v 7 = .pointer (some ⟨w0.heap.size, 2, none⟩) := (hk 7 (by decide)).1
    have h8 : x.v 8 = .slice C q.t.length d := (hk 8 (by decide)).1
    have h9 : OwnI w W.heap.size (x.v 9) q.t ∧ ∀ k, (x.v 9).ownBlock = some k → (x.lo 6 ≤ k ∧ k < x.hi 6) ∨ (x.lo 9 ≤ k ∧ k < x.hi 9) := (hk 9 (by decide)).1
    have s2 := (hk 2 (by decide)).2
    have s5 := (hk 5 (by decide)).2
    have s6 := (hk 6 (by decide)).2
    have s9 := (hk 9 (by decide)).2
    clear hk
    simp only [netAct, dstAt, List.getElem?_toArray, List.getElem?_cons_zero, List.getElem?_cons_succ, Option.bind_some, Act.put, List.setIfInBounds_toArray, List.set_cons_zero, List.set_cons_succ] at hQ ⊢
    simp only [h0, h1, h3, h4, h7, h8] at hQ ⊢
    clear h0 h1 h3 h4 h7 h8
    obtain ⟨s4A, s4c, e4, _, _⟩ := h5.1.form
    obtain ⟨s7A, s7c, e7, _, _⟩ := h9.1.form
    have hQ' := hQ (.agg #[.int .i64 q.v, x.v 5, x.v 9]) w (Below.refl _ _) rfl
    rw [e4, e7] at hQ' ⊢
    go_wp2
    exact hQ'
  · intro x w hb hk hiv hdj
    have h0 : x.v 0 = .pointer (some ⟨w0.heap.size, 0, none⟩) := hk 0 (by decide)
    have h1 : x.v 1 = .int .i64 q.v := hk 1 (by decide)
    have h2 : ∃ g, (x.v 2) = .slice (some ⟨g, 0, none⟩) 0 0 ∧ ((x.lo 2) ≤ g ∧ g < (x.hi 2)) ∧ W.heap.size ≤ g ∧ Blk w g 3 #[] := hk 2 (by decide)
    have h3 : x.v 3 = .pointer (some ⟨w0.heap.size, 1, none⟩) := hk 3 (by decide)
    have h4 : x.v 4 = .slice A q.f.length c := hk 4 (by decide)
    have h5 : OwnI w W.heap.size (x.v 5) q.f ∧ ∀ k, (x.v 5).ownBlock = some k → (x.lo 2 ≤ k ∧ k < x.hi 2) ∨ (x.lo 5 ≤ k ∧ k < x.hi 5) := hk 5 (by decide)
    have h6 : ∃ g, (x.v 6) = .slice (some ⟨g, 0, none⟩) 0 0 ∧ ((x.lo 6) ≤ g ∧ g < (x.hi 6)) ∧ W.heap.size ≤ g ∧ Blk w g 3 #[] := hk 6 (by decide)
    have h7 : x.v 7 = .pointer (some ⟨w0.heap.size, 2, none⟩) := hk 7 (by decide)
    have h8 : x.v 8 = .slice C q.t.length d := hk 8 (by decide)
    have h9 : OwnI w W.heap.size (x.v 9) q.t ∧ ∀ k, (x.v 9).ownBlock = some k → (x.lo 6 ≤ k ∧ k < x.hi 6) ∨ (x.lo 9 ≤ k ∧ k < x.hi 9) := hk 9 (by decide)
    have h10 : x.v 10 = .agg #[.int .i64 q.v, x.v 5, x.v 9] := hk 10 (by decide)
    clear hk
    simp only [netAct, dstAt, List.getElem?_toArray, List.getElem?_cons_zero, List.getElem?_cons_succ, Option.bind_some, Act.put, List.setIfInBounds_toArray, List.set_cons_zero, List.set_cons_succ]
    simp only [List.drop_succ_cons, List.drop_zero, h0, h1, h3, h4, h7, h8]
    clear h0 h1 h3 h4 h7 h8
    have d1 := hdj 2 6 (by decide) (by decide) (by decide)
    have d2 := hdj 2 9 (by decide) (by decide) (by decide)
    have d3 := hdj 5 6 (by decide) (by decide) (by decide)
    have d4 := hdj 5 9 (by decide) (by decide) (by decide)
    have hQ : QuivO w W.heap.size w.heap.size (.agg #[.int .i64 q.v, x.v 5, x.v 9]) q := ⟨_, _, rfl, fam_twoQ h5.1 h9.1 (fun k hk e => by
      have a1 := h5.2 k hk
      have a2 := h9.2 k e
      omega), hr⟩
    obtain ⟨s4A, s4c, e4, _, _⟩ := h5.1.form
    obtain ⟨s7A, s7c, e7, _, _⟩ := h9.1.form
    rw [e4, e7] at hQ h10
    rw [h10]
    have k2' := k2.call hb
    have f2 := k2'.frozen
    have r0 := k2'.cell' (i := 0) rfl
    have r1 := k2'.cell' (i := 1) rfl
    have r2 := k2'.cell' (i := 2) rfl
    have gf := g0.trans (hb.mono g0.size)
    have HBS := Lib.hid hb.size
    have HQ := Lib.hid hQ
    clear h2 h5 h6 h9 h10 e4 e7 k1 k2 hb hf ht hQ hdj hiv d1 d2 d3 d4
    go_wp2
    have sz := SZ.out
    have hbs := HBS.out
    refine bodyPost_ret (v := .agg #[.int .i64 q.v, .slice s4A q.f.length s4c, .slice s7A q.t.length s7c]) (by simp [results, go_sem, r0, r1, r2]) rfl ⟨_, rfl, QuivO.wider (lo := W.heap.size) (hi := w.heap.size) ?_ (by omega) (by simp), ((gf.setCell (by simp) _).setCell (by simp) _).setCell (by simp) _⟩
    exact ((HQ.out.setLow (by simp; omega) _).setLow (by simp; omega) _).setLow (by simp; omega) _
end Go.Proofs.YtaefpblpfjhgoaaGreat

/- Arrows at a vertex turned: the reference's ReverseAt. -/
namespace Go.Proofs.YtaefpblpfjhgoaaGreat
set_option linter.unusedVariables false
set_option linter.unusedSimpArgs false
open Go.RowKit

set_option maxHeartbeats 6400000 in
set_option maxRecDepth 100000 in
theorem specReverseAt_any (u : Value) (q : Qv) (v : Int) (w0 : World) (hu : QvR w0 w0.heap.size u q) (hq : isQ q = true) (hs : endV q.t q v = true ∨ endV q.f q v = true) :
    Calls Tryz.prog 24 #[u, .int .i64 v] w0 fun e w' => ∃ r, e = .returned (.tuple #[r, .bool true]) ∧ QuivO w' w0.heap.size w'.heap.size r (rvQ q v) ∧ Below w0.heap.size w0 w' := by
  have hu' := hu
  obtain ⟨A, c, C, d, rfl, hf, hT, hr, lf, lt⟩ := hu.open_
  clear hu
  have hlen := (isQ_t.1 hq).2.1
  have hl6 := (isQ_t.1 hq).2.2.1
  obtain ⟨W, hW⟩ : ∃ W, W = (w0.alloc (.cells #[.int .i64 q.v, .slice A q.f.length c, .slice C q.t.length d] 29)).alloc (.cells #[.int .i64 0, .slice none 0 0, .slice none 0 0] 29) := ⟨_, rfl⟩
  have g0 : Below w0.heap.size w0 W := by rw [hW]; exact ((Below.refl _ _).alloc (Nat.le_refl _) _).alloc (by simp) _
  have k1 : Blk W w0.heap.size 29 #[.int .i64 q.v, .slice A q.f.length c, .slice C q.t.length d] := by rw [hW]; exact (Blk.new _ _ _).alloc _
  have k2 : Blk W (w0.heap.size + 1) 29 #[.int .i64 0, .slice none 0 0, .slice none 0 0] := by
    rw [hW]
    have := Blk.new (w0.alloc (.cells #[.int .i64 q.v, .slice A q.f.length c, .slice C q.t.length d] 29)) 29 #[.int .i64 0, .slice none 0 0, .slice none 0 0]
    simpa only [World.size_alloc] using this
  have sz : W.heap.size = w0.heap.size + 1 + 1 := by rw [hW]; simp
  have SZ := Lib.hid sz
  have HQV := Lib.hid (QvR.next g0 hu')
  have HF := Lib.hid (SlI.next g0 hf)
  have HT := Lib.hid (SlI.next g0 hT)
  have HQ := Lib.hid hq
  have HL := Lib.hid hlen
  have c0 := k1.cell' (i := 0) rfl
  have c1 := k1.cell' (i := 1) rfl
  have c2 := k1.cell' (i := 2) rfl
  clear hu' hf hT sz hq hlen
  obtain ⟨V, hV⟩ : ∃ V : Nat, q.v = (V : Int) := ⟨q.v.toNat, by have := (isQ_t.1 HQ.out).1; omega⟩
  have hVt : q.v.toNat = V := by omega
  have HM1 := Lib.hid (freeV_mem q.t V q v hV)
  have HM2 := Lib.hid (freeV_mem q.f V q v hV)
  have HVT := Lib.hid hVt
  clear hV hVt
  rcases h1 : endV q.t q v with _ | _
  · have h2 : endV q.f q v = true := by rw [h1] at hs; simpa using hs
    have H1 := Lib.hid h1
    have H2 := Lib.hid h2
    clear h1 h2 hs
    go_enter Tryz.func24, Tryz.ntmps24
    go_wp2_with fail
    rw [← hW]; clear hW
    refine (sourcesOf_any _ q _ HQV.out HQ.out).mono ?_; rintro e wa ⟨va, rfl, hLa, hba⟩
    rw [HVT.out] at hLa
    have HLa := Lib.hid hLa
    obtain ⟨La, la, ea, _⟩ := hLa
    subst ea
    go_wp2_with fail
    refine (l4Has_any _ _ v _ HLa.out).mono ?_; rintro e wb ⟨rfl, hbb⟩
    rw [HM1.out, H1.out]
    have gb := bthen hba hbb
    have ka := k1.call gb
    clear c0 c1 c2
    have c0 := ka.cell' (i := 0) rfl
    have c1 := ka.cell' (i := 1) rfl
    have c2 := ka.cell' (i := 2) rfl
    clear ka hba hbb HLa
    go_wp2_with fail
    refine (sinksOf_any _ q _ (QvR.next gb HQV.out) HQ.out).mono ?_; rintro e wc ⟨vc, rfl, hLc, hbc⟩
    rw [HVT.out] at hLc
    have HLc := Lib.hid hLc
    obtain ⟨Lc, lc, ec, _⟩ := hLc
    subst ec
    go_wp2_with fail
    refine (l4Has_any _ _ v _ HLc.out).mono ?_; rintro e wd ⟨rfl, hbd⟩
    rw [HM2.out, H2.out]
    have GZ := Lib.hid (bthen (bthen gb hbc) hbd)
    clear gb hbc hbd HLc
    have kz1 := k1.call GZ.out
    clear c0 c1 c2
    have c0 := kz1.cell' (i := 0) rfl
    have c1 := kz1.cell' (i := 1) rfl
    have c2 := kz1.cell' (i := 2) rfl
    clear kz1
    go_wp2_with fail
    refine (l6Copy_own _ q _ (QvR.next GZ.out HQV.out)).mono ?_; rintro e w3 ⟨v3, rfl, hC, hb3⟩
    obtain ⟨FA, fc, TA, tc, ev⟩ := hC.form
    subst ev
    obtain ⟨W4, hW4⟩ : ∃ u, w3.alloc (.cells #[.int .i64 q.v, .slice FA q.f.length fc, .slice TA q.t.length tc] 29) = u := ⟨_, rfl⟩
    have ga : Below w3.heap.size w3 W4 := by rw [← hW4]; exact below_alloc _ _
    have kO : Blk W4 w3.heap.size 29 #[.int .i64 q.v, .slice FA q.f.length fc, .slice TA q.t.length tc] := by rw [← hW4]; exact Blk.new _ _ _
    have hC4 : QuivO W4 wd.heap.size w3.heap.size (.agg #[.int .i64 q.v, .slice FA q.f.length fc, .slice TA q.t.length tc]) (rvK q v 0) := by rw [rvK_0 HL.out.symm v]; exact hC.below ga
    have gz4 := bthen hb3 ga
    have gW4 := GZ.out.trans (gz4.mono GZ.out.size)
    have sz4 := GZ.out.size
    have s3 := hb3.size
    have lO := kO.lt
    clear c0 c1 c2 hC ga hb3
    go_wp2
    clear hW4
    go_loopw [7] (fun i wr => ∃ k : Nat, k ≤ q.f.length ∧ i = .int .i64 k ∧ Below W.heap.size W wr ∧ Blk wr w3.heap.size 29 #[.int .i64 q.v, .slice FA q.f.length fc, .slice TA q.t.length tc] ∧ QuivO wr wd.heap.size w3.heap.size (.agg #[.int .i64 q.v, .slice FA q.f.length fc, .slice TA q.t.length tc]) (rvK q v k) ∧ w3.heap.size ≤ wr.heap.size) (fun i _ => q.f.length - (intOf i).toNat)
    case atStart => exact ⟨0, Nat.zero_le _, rfl, gW4, kO, hC4, by omega⟩
    case round =>
      clear gW4 kO hC4
      obtain ⟨k, hk, rfl, gW, hB, hO, hs⟩ := hrel
      by_cases hlt : k < q.f.length
      · have hlt2 : k < q.t.length := by have := HL.out; omega
        obtain ⟨bf, of_, xf, eA, hbf, HXF, f1, rf⟩ := SlI.at_ HF.out hlt
        obtain ⟨bt, ot, xt, eC, hbt, HXT, t1, rt⟩ := SlI.at_ HT.out hlt2
        subst eA eC
        have F1 := Lib.hid f1
        have T1 := Lib.hid t1
        have f1' := bcell gW hbf f1
        have t1' := bcell gW hbt t1
        have HT0 := Lib.hid (tch_of (v := v) HXF.out HXT.out)
        have kB := k1.call gW
        have c1 := kB.cell' (i := 1) rfl
        have c2 := kB.cell' (i := 2) rfl
        have o1 := hB.cell' (i := 1) rfl
        have o2 := hB.cell' (i := 2) rfl
        obtain ⟨gF, gT, eF, eT, l1, l2, l3, l4⟩ := hO.addr (by simp only [rvK, rowF_length]; omega) (by simp only [rvK, rowF_length]; omega)
        subst eF eT
        have hyes : tch q v k = true → ∃ Y1 Y2, Y1 = (wr.setCell ⟨gF, k, none⟩ (.int .i64 xt)).drew ∧ Y2 = (Y1.setCell ⟨gT, k, none⟩ (.int .i64 xf)).drew ∧ QuivO Y2 wd.heap.size w3.heap.size (.agg #[.int .i64 q.v, .slice (some ⟨gF, 0, none⟩) q.f.length fc, .slice (some ⟨gT, 0, none⟩) q.t.length tc]) (rvK q v (k + 1)) ∧ Chg wd.heap.size w3.heap.size wr Y1 ∧ Chg wd.heap.size w3.heap.size wr Y2 ∧ (∃ u, wr.cell? ⟨gF, k, none⟩ = some u) ∧ wr.frozen? ⟨gF, k, none⟩ = false ∧ (∃ u, Y1.cell? ⟨gT, k, none⟩ = some u) ∧ Y1.frozen? ⟨gT, k, none⟩ = false := by
          intro ht
          have p1 := hO.putF (k := k) (x := xt) rt
          have p1' := p1.1.below (drew_below _)
          have p2 := p1'.putT (k := k) (x := xf) rf
          have z1 := hO.cellF (k := k) (by simp only [rvK, rowF_length]; omega)
          have z2 := p1'.cellT (k := k) (by simp only [rvK, rowF_length]; omega)
          have h1 : Chg wd.heap.size w3.heap.size wr ((wr.setCell ⟨gF, k, none⟩ (.int .i64 xt)).drew) := (chg_set l1 l2).trans (Chg.of_below (drew_below _))
          refine ⟨_, _, rfl, rfl, ?_, h1, ?_, ⟨_, z1.1⟩, z1.2, ⟨_, z2.1⟩, z2.2⟩
          · rw [rvK_yes ht]
            have e1 : q.t.getD k 0 = xt := by rw [List.getD_eq_getElem?_getD, HXT.out]; rfl
            have e2 : q.f.getD k 0 = xf := by rw [List.getD_eq_getElem?_getD, HXF.out]; rfl
            rw [e1, e2]
            exact p2.1.below (drew_below _)
          · exact (h1.trans (chg_set l3 l4)).trans (Chg.of_below (drew_below _))
        have HYES := Lib.hid hyes
        have HNO := Lib.hid (fun h : tch q v k = false => rvK_no (q := q) (v := v) h)
        have HO := Lib.hid hO
        have HB := Lib.hid hB
        have GW := Lib.hid gW
        have gws := gW.size
        clear f1 t1 hyes hO hB gW kB HXF HXT
        have hne1 : gF ≠ w3.heap.size := by omega
        have hne2 : gT ≠ w3.heap.size := by omega
        by_cases h1 : xf = v
        · have hd : (xf == v) = true := by rw [h1]; exact beq_self_eq_true v
          have htc : tch q v k = true := by rw [HT0.out, h1]; simp
          obtain ⟨Y1, Y2, eY1, eY2, hOY, hcY1, hcY2, ⟨u1, z1⟩, z2, ⟨u2, z3⟩, z4⟩ := HYES.out htc
          clear HT0 HYES HNO h1 htc
          have hmo : Tryz.prog.follows .mixedOrders = true := by kernel_rfl
          have HOY := Lib.hid hOY
          have HCY1 := Lib.hid hcY1
          have HCY2 := Lib.hid hcY2
          have Z3 := Lib.hid z3
          have Z4 := Lib.hid z4
          have EY2 := Lib.hid eY2
          have gb1 := hcY1.below (B := W.heap.size) (by omega) (by omega)
          have kb1 := Lib.hid (k1.call (GW.out.trans gb1))
          have ko1 := Lib.hid (HB.out.chg hcY1 (.inr (Nat.le_refl _)))
          have F2 := Lib.hid (bcell (GW.out.trans gb1) hbf F1.out)
          have T2 := Lib.hid (bcell (GW.out.trans gb1) hbt T1.out)
          clear hOY hcY1 hcY2 z3 z4 eY2 gb1
          go_wp2_with fail
          go_region_o
          rw [← eY1]
          clear eY1 z1 z2 c1 c2 o1 o2 f1' t1'
          have c1 := kb1.out.cell' (i := 1) rfl
          have c2 := kb1.out.cell' (i := 2) rfl
          have o1 := ko1.out.cell' (i := 1) rfl
          have o2 := ko1.out.cell' (i := 2) rfl
          have z3 := Z3.out
          have z4 := Z4.out
          have f2' := F2.out
          have t2' := T2.out
          go_wp2_with fail
          go_region_o
          rw [← EY2.out]
          clear z3 z4 c1 c2 o1 o2 f2' t2'
          have hsY := HCY2.out.size
          have HBY := Lib.hid (HB.out.chg HCY2.out (.inr (Nat.le_refl _)))
          have GWY := Lib.hid (GW.out.trans (HCY2.out.below (B := W.heap.size) (by omega) (by omega)))
          go_wp2
          go_roundw
          case rel => exact ⟨k + 1, by omega, by go_num, GWY.out, HBY.out, HOY.out, by omega⟩
          case measure => simp [intOf]; omega
        · have hd : (xf == v) = false := by rw [beq_eq_false_iff_ne]; exact h1
          by_cases h2 : xt = v
          · have hd2 : (xt == v) = true := by rw [h2]; exact beq_self_eq_true v
            have htc : tch q v k = true := by rw [HT0.out, h2]; simp
            obtain ⟨Y1, Y2, eY1, eY2, hOY, hcY1, hcY2, ⟨u1, z1⟩, z2, ⟨u2, z3⟩, z4⟩ := HYES.out htc
            clear HT0 HYES HNO h1 h2 htc
            have hmo : Tryz.prog.follows .mixedOrders = true := by kernel_rfl
            have HOY := Lib.hid hOY
            have HCY1 := Lib.hid hcY1
            have HCY2 := Lib.hid hcY2
            have Z3 := Lib.hid z3
            have Z4 := Lib.hid z4
            have EY2 := Lib.hid eY2
            have gb1 := hcY1.below (B := W.heap.size) (by omega) (by omega)
            have kb1 := Lib.hid (k1.call (GW.out.trans gb1))
            have ko1 := Lib.hid (HB.out.chg hcY1 (.inr (Nat.le_refl _)))
            have F2 := Lib.hid (bcell (GW.out.trans gb1) hbf F1.out)
            have T2 := Lib.hid (bcell (GW.out.trans gb1) hbt T1.out)
            clear hOY hcY1 hcY2 z3 z4 eY2 gb1
            go_wp2_with fail
            go_region_o
            rw [← eY1]
            clear eY1 z1 z2 c1 c2 o1 o2 f1' t1'
            have c1 := kb1.out.cell' (i := 1) rfl
            have c2 := kb1.out.cell' (i := 2) rfl
            have o1 := ko1.out.cell' (i := 1) rfl
            have o2 := ko1.out.cell' (i := 2) rfl
            have z3 := Z3.out
            have z4 := Z4.out
            have f2' := F2.out
            have t2' := T2.out
            go_wp2_with fail
            go_region_o
            rw [← EY2.out]
            clear z3 z4 c1 c2 o1 o2 f2' t2'
            have hsY := HCY2.out.size
            have HBY := Lib.hid (HB.out.chg HCY2.out (.inr (Nat.le_refl _)))
            have GWY := Lib.hid (GW.out.trans (HCY2.out.below (B := W.heap.size) (by omega) (by omega)))
            go_wp2
            go_roundw
            case rel => exact ⟨k + 1, by omega, by go_num, GWY.out, HBY.out, HOY.out, by omega⟩
            case measure => simp [intOf]; omega
          · have hd2 : (xt == v) = false := by rw [beq_eq_false_iff_ne]; exact h2
            have HN := Lib.hid (HNO.out (by rw [HT0.out]; simp [h1, h2]))
            clear HT0 HYES HNO h1 h2
            go_wp2
            go_roundw
            case rel => exact ⟨k + 1, by omega, by go_num, GW.out, HB.out, by rw [HN.out]; exact HO.out, hs⟩
            case measure => simp [intOf]; omega
      · obtain rfl : k = q.f.length := by omega
        have kw := k1.call gW
        have c1 := kw.cell' (i := 1) rfl
        clear kw
        have gf := g0.trans (gW.mono g0.size)
        have kz := k2.call gW
        have fr := kz.frozen
        have s0 := kz.cell' (i := 0) rfl
        have s1 := kz.cell' (i := 1) rfl
        have s2 := kz.cell' (i := 2) rfl
        have r0 := hB.cell' (i := 0) rfl
        have r1 := hB.cell' (i := 1) rfl
        have r2 := hB.cell' (i := 2) rfl
        have sz := SZ.out
        have hc := chg3 wr (w0.heap.size + 1) (.int .i64 q.v) (.slice FA q.f.length fc) (.slice TA q.t.length tc)
        have OF := Lib.hid ((hO.chg hc (.inr (by omega))).wider (lo' := w0.heap.size) (hi' := wr.heap.size) (by omega) (by omega))
        have GF := Lib.hid (gf.trans (hc.below (by omega) gf.size))
        clear hO hB kz gf hc
        go_wp2
        exact bodyPost_ret (v := .tuple #[.agg #[.int .i64 q.v, .slice FA q.f.length fc, .slice TA q.t.length tc], .bool true]) (by simp [results, go_sem, s0, s1, s2]) rfl ⟨_, rfl, by have := OF.out.wider (Nat.le_refl _) (Nat.le_refl _); simpa [rvQ] using this, GF.out⟩
  · have H1 := Lib.hid h1
    clear h1 hs
    go_enter Tryz.func24, Tryz.ntmps24
    go_wp2_with fail
    rw [← hW]; clear hW
    refine (sourcesOf_any _ q _ HQV.out HQ.out).mono ?_; rintro e wa ⟨va, rfl, hLa, hba⟩
    rw [HVT.out] at hLa
    have HLa := Lib.hid hLa
    obtain ⟨La, la, ea, _⟩ := hLa
    subst ea
    go_wp2_with fail
    refine (l4Has_any _ _ v _ HLa.out).mono ?_; rintro e wb ⟨rfl, hbb⟩
    rw [HM1.out, H1.out]
    have GZ := Lib.hid (bthen hba hbb)
    clear hba hbb HLa
    have kz1 := k1.call GZ.out
    clear c0 c1 c2
    have c0 := kz1.cell' (i := 0) rfl
    have c1 := kz1.cell' (i := 1) rfl
    have c2 := kz1.cell' (i := 2) rfl
    clear kz1
    go_wp2_with fail
    refine (l6Copy_own _ q _ (QvR.next GZ.out HQV.out)).mono ?_; rintro e w3 ⟨v3, rfl, hC, hb3⟩
    obtain ⟨FA, fc, TA, tc, ev⟩ := hC.form
    subst ev
    obtain ⟨W4, hW4⟩ : ∃ u, w3.alloc (.cells #[.int .i64 q.v, .slice FA q.f.length fc, .slice TA q.t.length tc] 29) = u := ⟨_, rfl⟩
    have ga : Below w3.heap.size w3 W4 := by rw [← hW4]; exact below_alloc _ _
    have kO : Blk W4 w3.heap.size 29 #[.int .i64 q.v, .slice FA q.f.length fc, .slice TA q.t.length tc] := by rw [← hW4]; exact Blk.new _ _ _
    have hC4 : QuivO W4 wb.heap.size w3.heap.size (.agg #[.int .i64 q.v, .slice FA q.f.length fc, .slice TA q.t.length tc]) (rvK q v 0) := by rw [rvK_0 HL.out.symm v]; exact hC.below ga
    have gz4 := bthen hb3 ga
    have gW4 := GZ.out.trans (gz4.mono GZ.out.size)
    have sz4 := GZ.out.size
    have s3 := hb3.size
    have lO := kO.lt
    clear c0 c1 c2 hC ga hb3
    go_wp2
    clear hW4
    go_loopw [7] (fun i wr => ∃ k : Nat, k ≤ q.f.length ∧ i = .int .i64 k ∧ Below W.heap.size W wr ∧ Blk wr w3.heap.size 29 #[.int .i64 q.v, .slice FA q.f.length fc, .slice TA q.t.length tc] ∧ QuivO wr wb.heap.size w3.heap.size (.agg #[.int .i64 q.v, .slice FA q.f.length fc, .slice TA q.t.length tc]) (rvK q v k) ∧ w3.heap.size ≤ wr.heap.size) (fun i _ => q.f.length - (intOf i).toNat)
    case atStart => exact ⟨0, Nat.zero_le _, rfl, gW4, kO, hC4, by omega⟩
    case round =>
      clear gW4 kO hC4
      obtain ⟨k, hk, rfl, gW, hB, hO, hs⟩ := hrel
      by_cases hlt : k < q.f.length
      · have hlt2 : k < q.t.length := by have := HL.out; omega
        obtain ⟨bf, of_, xf, eA, hbf, HXF, f1, rf⟩ := SlI.at_ HF.out hlt
        obtain ⟨bt, ot, xt, eC, hbt, HXT, t1, rt⟩ := SlI.at_ HT.out hlt2
        subst eA eC
        have F1 := Lib.hid f1
        have T1 := Lib.hid t1
        have f1' := bcell gW hbf f1
        have t1' := bcell gW hbt t1
        have HT0 := Lib.hid (tch_of (v := v) HXF.out HXT.out)
        have kB := k1.call gW
        have c1 := kB.cell' (i := 1) rfl
        have c2 := kB.cell' (i := 2) rfl
        have o1 := hB.cell' (i := 1) rfl
        have o2 := hB.cell' (i := 2) rfl
        obtain ⟨gF, gT, eF, eT, l1, l2, l3, l4⟩ := hO.addr (by simp only [rvK, rowF_length]; omega) (by simp only [rvK, rowF_length]; omega)
        subst eF eT
        have hyes : tch q v k = true → ∃ Y1 Y2, Y1 = (wr.setCell ⟨gF, k, none⟩ (.int .i64 xt)).drew ∧ Y2 = (Y1.setCell ⟨gT, k, none⟩ (.int .i64 xf)).drew ∧ QuivO Y2 wb.heap.size w3.heap.size (.agg #[.int .i64 q.v, .slice (some ⟨gF, 0, none⟩) q.f.length fc, .slice (some ⟨gT, 0, none⟩) q.t.length tc]) (rvK q v (k + 1)) ∧ Chg wb.heap.size w3.heap.size wr Y1 ∧ Chg wb.heap.size w3.heap.size wr Y2 ∧ (∃ u, wr.cell? ⟨gF, k, none⟩ = some u) ∧ wr.frozen? ⟨gF, k, none⟩ = false ∧ (∃ u, Y1.cell? ⟨gT, k, none⟩ = some u) ∧ Y1.frozen? ⟨gT, k, none⟩ = false := by
          intro ht
          have p1 := hO.putF (k := k) (x := xt) rt
          have p1' := p1.1.below (drew_below _)
          have p2 := p1'.putT (k := k) (x := xf) rf
          have z1 := hO.cellF (k := k) (by simp only [rvK, rowF_length]; omega)
          have z2 := p1'.cellT (k := k) (by simp only [rvK, rowF_length]; omega)
          have h1 : Chg wb.heap.size w3.heap.size wr ((wr.setCell ⟨gF, k, none⟩ (.int .i64 xt)).drew) := (chg_set l1 l2).trans (Chg.of_below (drew_below _))
          refine ⟨_, _, rfl, rfl, ?_, h1, ?_, ⟨_, z1.1⟩, z1.2, ⟨_, z2.1⟩, z2.2⟩
          · rw [rvK_yes ht]
            have e1 : q.t.getD k 0 = xt := by rw [List.getD_eq_getElem?_getD, HXT.out]; rfl
            have e2 : q.f.getD k 0 = xf := by rw [List.getD_eq_getElem?_getD, HXF.out]; rfl
            rw [e1, e2]
            exact p2.1.below (drew_below _)
          · exact (h1.trans (chg_set l3 l4)).trans (Chg.of_below (drew_below _))
        have HYES := Lib.hid hyes
        have HNO := Lib.hid (fun h : tch q v k = false => rvK_no (q := q) (v := v) h)
        have HO := Lib.hid hO
        have HB := Lib.hid hB
        have GW := Lib.hid gW
        have gws := gW.size
        clear f1 t1 hyes hO hB gW kB HXF HXT
        have hne1 : gF ≠ w3.heap.size := by omega
        have hne2 : gT ≠ w3.heap.size := by omega
        by_cases h1 : xf = v
        · have hd : (xf == v) = true := by rw [h1]; exact beq_self_eq_true v
          have htc : tch q v k = true := by rw [HT0.out, h1]; simp
          obtain ⟨Y1, Y2, eY1, eY2, hOY, hcY1, hcY2, ⟨u1, z1⟩, z2, ⟨u2, z3⟩, z4⟩ := HYES.out htc
          clear HT0 HYES HNO h1 htc
          have hmo : Tryz.prog.follows .mixedOrders = true := by kernel_rfl
          have HOY := Lib.hid hOY
          have HCY1 := Lib.hid hcY1
          have HCY2 := Lib.hid hcY2
          have Z3 := Lib.hid z3
          have Z4 := Lib.hid z4
          have EY2 := Lib.hid eY2
          have gb1 := hcY1.below (B := W.heap.size) (by omega) (by omega)
          have kb1 := Lib.hid (k1.call (GW.out.trans gb1))
          have ko1 := Lib.hid (HB.out.chg hcY1 (.inr (Nat.le_refl _)))
          have F2 := Lib.hid (bcell (GW.out.trans gb1) hbf F1.out)
          have T2 := Lib.hid (bcell (GW.out.trans gb1) hbt T1.out)
          clear hOY hcY1 hcY2 z3 z4 eY2 gb1
          go_wp2_with fail
          go_region_o
          rw [← eY1]
          clear eY1 z1 z2 c1 c2 o1 o2 f1' t1'
          have c1 := kb1.out.cell' (i := 1) rfl
          have c2 := kb1.out.cell' (i := 2) rfl
          have o1 := ko1.out.cell' (i := 1) rfl
          have o2 := ko1.out.cell' (i := 2) rfl
          have z3 := Z3.out
          have z4 := Z4.out
          have f2' := F2.out
          have t2' := T2.out
          go_wp2_with fail
          go_region_o
          rw [← EY2.out]
          clear z3 z4 c1 c2 o1 o2 f2' t2'
          have hsY := HCY2.out.size
          have HBY := Lib.hid (HB.out.chg HCY2.out (.inr (Nat.le_refl _)))
          have GWY := Lib.hid (GW.out.trans (HCY2.out.below (B := W.heap.size) (by omega) (by omega)))
          go_wp2
          go_roundw
          case rel => exact ⟨k + 1, by omega, by go_num, GWY.out, HBY.out, HOY.out, by omega⟩
          case measure => simp [intOf]; omega
        · have hd : (xf == v) = false := by rw [beq_eq_false_iff_ne]; exact h1
          by_cases h2 : xt = v
          · have hd2 : (xt == v) = true := by rw [h2]; exact beq_self_eq_true v
            have htc : tch q v k = true := by rw [HT0.out, h2]; simp
            obtain ⟨Y1, Y2, eY1, eY2, hOY, hcY1, hcY2, ⟨u1, z1⟩, z2, ⟨u2, z3⟩, z4⟩ := HYES.out htc
            clear HT0 HYES HNO h1 h2 htc
            have hmo : Tryz.prog.follows .mixedOrders = true := by kernel_rfl
            have HOY := Lib.hid hOY
            have HCY1 := Lib.hid hcY1
            have HCY2 := Lib.hid hcY2
            have Z3 := Lib.hid z3
            have Z4 := Lib.hid z4
            have EY2 := Lib.hid eY2
            have gb1 := hcY1.below (B := W.heap.size) (by omega) (by omega)
            have kb1 := Lib.hid (k1.call (GW.out.trans gb1))
            have ko1 := Lib.hid (HB.out.chg hcY1 (.inr (Nat.le_refl _)))
            have F2 := Lib.hid (bcell (GW.out.trans gb1) hbf F1.out)
            have T2 := Lib.hid (bcell (GW.out.trans gb1) hbt T1.out)
            clear hOY hcY1 hcY2 z3 z4 eY2 gb1
            go_wp2_with fail
            go_region_o
            rw [← eY1]
            clear eY1 z1 z2 c1 c2 o1 o2 f1' t1'
            have c1 := kb1.out.cell' (i := 1) rfl
            have c2 := kb1.out.cell' (i := 2) rfl
            have o1 := ko1.out.cell' (i := 1) rfl
            have o2 := ko1.out.cell' (i := 2) rfl
            have z3 := Z3.out
            have z4 := Z4.out
            have f2' := F2.out
            have t2' := T2.out
            go_wp2_with fail
            go_region_o
            rw [← EY2.out]
            clear z3 z4 c1 c2 o1 o2 f2' t2'
            have hsY := HCY2.out.size
            have HBY := Lib.hid (HB.out.chg HCY2.out (.inr (Nat.le_refl _)))
            have GWY := Lib.hid (GW.out.trans (HCY2.out.below (B := W.heap.size) (by omega) (by omega)))
            go_wp2
            go_roundw
            case rel => exact ⟨k + 1, by omega, by go_num, GWY.out, HBY.out, HOY.out, by omega⟩
            case measure => simp [intOf]; omega
          · have hd2 : (xt == v) = false := by rw [beq_eq_false_iff_ne]; exact h2
            have HN := Lib.hid (HNO.out (by rw [HT0.out]; simp [h1, h2]))
            clear HT0 HYES HNO h1 h2
            go_wp2
            go_roundw
            case rel => exact ⟨k + 1, by omega, by go_num, GW.out, HB.out, by rw [HN.out]; exact HO.out, hs⟩
            case measure => simp [intOf]; omega
      · obtain rfl : k = q.f.length := by omega
        have kw := k1.call gW
        have c1 := kw.cell' (i := 1) rfl
        clear kw
        have gf := g0.trans (gW.mono g0.size)
        have kz := k2.call gW
        have fr := kz.frozen
        have s0 := kz.cell' (i := 0) rfl
        have s1 := kz.cell' (i := 1) rfl
        have s2 := kz.cell' (i := 2) rfl
        have r0 := hB.cell' (i := 0) rfl
        have r1 := hB.cell' (i := 1) rfl
        have r2 := hB.cell' (i := 2) rfl
        have sz := SZ.out
        have hc := chg3 wr (w0.heap.size + 1) (.int .i64 q.v) (.slice FA q.f.length fc) (.slice TA q.t.length tc)
        have OF := Lib.hid ((hO.chg hc (.inr (by omega))).wider (lo' := w0.heap.size) (hi' := wr.heap.size) (by omega) (by omega))
        have GF := Lib.hid (gf.trans (hc.below (by omega) gf.size))
        clear hO hB kz gf hc
        go_wp2
        exact bodyPost_ret (v := .tuple #[.agg #[.int .i64 q.v, .slice FA q.f.length fc, .slice TA q.t.length tc], .bool true]) (by simp [results, go_sem, s0, s1, s2]) rfl ⟨_, rfl, by have := OF.out.wider (Nat.le_refl _) (Nat.le_refl _); simpa [rvQ] using this, GF.out⟩
end Go.Proofs.YtaefpblpfjhgoaaGreat
