/- The reference's OutgoingMatrix. -/
import Derived.Test.YtbgjhnolnccnnaaInOut4
namespace Go.Proofs.Ytbgjhnolnccnnaa
set_option linter.unusedVariables false
set_option linter.unusedSimpArgs false
open Go.RowKit
set_option maxHeartbeats 6400000 in
set_option maxRecDepth 100000 in
theorem specOut_yes (u : Value) (x : Rp) (v : Int) (w0 : World) (hu : RpR w0 w0.heap.size u x) (hyes : outOk x v = true) :
    Calls Try.prog 50 #[u, .int .i64 v] w0 fun e w' => ∃ r, e = .returned (.tuple #[r, .bool (outP x v).2]) ∧ MxO w' w0.heap.size w'.heap.size r (outP x v).1 ∧ Below w0.heap.size w0 w' := by
  have hu' := hu
  obtain ⟨A, a, C, c, E, e, H, h, rfl, hq, hd, hm, hp, ld, lm⟩ := hu.open_
  clear hu
  obtain ⟨W, hW⟩ : ∃ W, W = (w0.alloc (.cells #[.int .i64 x.p, .int .i64 x.q.v, .slice A x.q.f.length a, .slice C x.q.t.length c, .slice E x.d.length e, .slice H x.m.length h] 40)).alloc (.cells #[.int .i64 0, .int .i64 0, .slice none 0 0] 60) := ⟨_, rfl⟩
  have g0 : Below w0.heap.size w0 W := by rw [hW]; exact ((Below.refl _ _).alloc (Nat.le_refl _) _).alloc (by simp) _
  have kB : Blk W w0.heap.size 40 #[.int .i64 x.p, .int .i64 x.q.v, .slice A x.q.f.length a, .slice C x.q.t.length c, .slice E x.d.length e, .slice H x.m.length h] := by rw [hW]; exact (Blk.new _ _ _).alloc _
  have kR : Blk W (w0.heap.size + 1) 60 #[.int .i64 0, .int .i64 0, .slice none 0 0] := by
    rw [hW]
    have := Blk.new (w0.alloc (.cells #[.int .i64 x.p, .int .i64 x.q.v, .slice A x.q.f.length a, .slice C x.q.t.length c, .slice E x.d.length e, .slice H x.m.length h] 40)) 60 #[.int .i64 0, .int .i64 0, .slice none 0 0]
    simpa only [World.size_alloc] using this
  have sz : W.heap.size = w0.heap.size + 1 + 1 := by rw [hW]; simp
  replace hq := QvR.next g0 hq
  replace hd := SlI.next g0 hd
  replace hm := SlM.next g0 hm
  have h1 : isRep x = true := by simp only [outOk, Bool.and_eq_true] at hyes; exact hyes.1
  have h2 : endV x.q.t x.q v = true := by simp only [outOk, Bool.and_eq_true] at hyes; exact hyes.2
  have hq1 : isQ x.q = true := (areDims_t.1 (isRep_t.1 h1).2.1).1
  obtain ⟨n, D, rfl, hn, dn, hD, hD4, hn5⟩ := vert_at h1 h2
  have HF := Lib.hid (outP_yes hyes hD)
  have DN := Lib.hid dn
  have H1 := Lib.hid h1
  have H2 := Lib.hid h2
  have HQ1 := Lib.hid hq1
  have SZ := Lib.hid sz
  have hl6 : x.q.f.length ≤ 6 := (isQ_t.1 hq1).2.2.1
  have HXR := Lib.hid (show RpR W W.heap.size (.agg #[.int .i64 x.p, .int .i64 x.q.v, .slice A x.q.f.length a, .slice C x.q.t.length c, .slice E x.d.length e, .slice H x.m.length h]) x from RpR.next g0 hu')
  have HQ := Lib.hid hq
  have HD := Lib.hid hd
  have HM := Lib.hid hm
  have KB := Lib.hid kB
  have KR := Lib.hid kR
  have G0 := Lib.hid g0
  clear h1 h2 hq1 sz hD hyes hu' hm
  have c0 := kB.cell' (i := 0) rfl
  have c1 := kB.cell' (i := 1) rfl
  have c2 := kB.cell' (i := 2) rfl
  have c3 := kB.cell' (i := 3) rfl
  have c4 := kB.cell' (i := 4) rfl
  have c5 := kB.cell' (i := 5) rfl
  go_enter Try.func50, Try.ntmps50
  go_wp2_with fail
  rw [← hW]; clear hW
  refine (specIsRep_any _ x _ HXR.out).mono ?_; rintro e w1 ⟨rfl, hb1⟩
  rw [H1.out]
  replace kB := kB.call hb1
  replace hq := QvR.next hb1 hq
  have gW := hb1
  clear c0 c1 c2 c3 c4 c5 hb1
  have c0 := kB.cell' (i := 0) rfl
  have c1 := kB.cell' (i := 1) rfl
  have c2 := kB.cell' (i := 2) rfl
  have c3 := kB.cell' (i := 3) rfl
  have c4 := kB.cell' (i := 4) rfl
  have c5 := kB.cell' (i := 5) rfl
  go_wp2_with fail
  refine (sourcesOf_any _ x.q _ hq HQ1.out).mono ?_; rintro e w2a ⟨sv, rfl, hsv, hb1⟩
  have H3 := Lib.hid (show decide ((n : Int) ∈ freeV x.q.t x.q.v.toNat) = true by rw [freeV_mem _ _ x.q _ (by have := (isQ_t.1 HQ1.out).1; omega)]; exact H2.out)
  replace kB := kB.call hb1
  replace gW := bthen gW hb1
  clear c0 c1 c2 c3 c4 c5 hb1
  have c0 := kB.cell' (i := 0) rfl
  have c1 := kB.cell' (i := 1) rfl
  have c2 := kB.cell' (i := 2) rfl
  have c3 := kB.cell' (i := 3) rfl
  have c4 := kB.cell' (i := 4) rfl
  have c5 := kB.cell' (i := 5) rfl
  go_wp2_with fail
  refine (l4Has_any _ _ n _ hsv).mono ?_; rintro e w2 ⟨rfl, hb1⟩
  rw [H3.out]
  clear hsv
  replace kB := kB.call hb1
  replace gW := bthen gW hb1
  clear c0 c1 c2 c3 c4 c5 hb1 hq
  have c0 := kB.cell' (i := 0) rfl
  have c1 := kB.cell' (i := 1) rfl
  have c2 := kB.cell' (i := 2) rfl
  have c3 := kB.cell' (i := 3) rfl
  have c4 := kB.cell' (i := 4) rfl
  have c5 := kB.cell' (i := 5) rfl
  have hd2 := SlI.more gW.size (SlI.below gW hd)
  obtain ⟨be, oe, xe, rfl, hbe, HXE, xc, _⟩ := SlI.at_ hd2 hn
  have ex := HXE.out
  rw [dn] at ex
  injection ex with ex
  subst ex
  clear hd hd2 HXE hbe
  go_wp2_with fail
  refine (l3Zero_any 0 (D : Int) _ (by omega) (by omega) (by omega) (by omega)).mono ?_; rintro e w3 ⟨v3, rfl, hZ, hb3⟩
  rw [outM_0 x n D] at hZ
  obtain ⟨MA, mc, e3⟩ := hZ.form
  subst e3
  have gW3 := bthen gW hb3
  have hs3 := hb3.size
  have hs2 := gW.size
  obtain ⟨N3, hN3⟩ : ∃ nn, (outM x n D 0).a.length = nn := ⟨_, rfl⟩
  rw [hN3] at hZ ⊢
  obtain ⟨W4, hW4⟩ : ∃ W4, W4 = w3.alloc (.cells #[.int .i64 (outM x n D 0).r, .int .i64 (outM x n D 0).c, .slice MA N3 mc] 60) := ⟨_, rfl⟩
  have b4 : Below w3.heap.size w3 W4 := by rw [hW4]; exact below_alloc _ _
  have k4 : Blk W4 w3.heap.size 60 #[.int .i64 (outM x n D 0).r, .int .i64 (outM x n D 0).c, .slice MA N3 mc] := by rw [hW4]; exact Blk.new _ _ _
  have l4 : w3.heap.size < W4.heap.size := k4.lt
  have kB4 := (kB.call hb3).call b4
  have gW4 := bthen gW3 b4
  have hO := (hZ.below b4).wider (lo' := W.heap.size) (hi' := W4.heap.size) (by omega) (by omega)
  clear c0 c1 c2 c3 c4 c5 xc hZ hb3 b4 gW gW3 kB hN3
  have c0 := kB4.cell' (i := 0) rfl
  have c1 := kB4.cell' (i := 1) rfl
  have c2 := kB4.cell' (i := 2) rfl
  have c3 := kB4.cell' (i := 3) rfl
  have c4 := kB4.cell' (i := 4) rfl
  have c5 := kB4.cell' (i := 5) rfl
  rw [hW4] at c0 c1 c2 c3 c4 c5
  go_wp2
  rw [← hW4]
  clear hW4 c0 c1 c2 c3 c4 c5 kB4
  go_loopw [7] (fun i wr => ∃ (k N mc : Nat) (MA : Option Addr), k ≤ x.q.f.length ∧ i = .int .i64 k ∧ Below W.heap.size W wr ∧ Blk wr w3.heap.size 60 #[.int .i64 (outM x n D k).r, .int .i64 (outM x n D k).c, .slice MA N mc] ∧ MxO wr W.heap.size wr.heap.size (.agg #[.int .i64 (outM x n D k).r, .int .i64 (outM x n D k).c, .slice MA N mc]) (outM x n D k)) (fun i _ => x.q.f.length - (intOf i).toNat)
  case atStart => exact ⟨0, _, _, _, Nat.zero_le _, rfl, gW4, k4, hO⟩
  case round =>
    clear k4 hO gW4
    obtain ⟨k, N, mc, MA, hk, rfl, gW, k4, hO⟩ := hrel
    have s6 := gW.size
    have hml : x.m.length ≤ x.q.f.length := by have := (isRep_t.1 H1.out).2.2.1; omega
    have kBr := (KB.out).below gW (KB.out).lt
    have c0 := kBr.cell' (i := 0) rfl
    have c1 := kBr.cell' (i := 1) rfl
    have c2 := kBr.cell' (i := 2) rfl
    have c3 := kBr.cell' (i := 3) rfl
    have c4 := kBr.cell' (i := 4) rfl
    have c5 := kBr.cell' (i := 5) rfl
    by_cases hlt : k < x.q.f.length
    · obtain ⟨m, nf, nt, yf, yt, em, ef, et, df, dt, eM, _, b1, b2, b3, b4, b5, b6, b7, b8⟩ := isRep_at H1.out hlt
      obtain ⟨hsf, hst⟩ := QvR.sl HQ.out
      obtain ⟨bf, of_, xf, rfl, hbf, HXF, f1, _⟩ := SlI.at_ hsf hlt
      have q1 := HXF.out
      rw [ef] at q1
      injection q1 with q1
      subst q1
      have f2 := bcell gW hbf f1
      have hm := HM.out
      obtain ⟨bm, om, m', MB, mb, rfl, hbm, HXM, x0, x1, x2, hsl, hr1, hr2, _⟩ := SlM.at_ hm b8
      have q2 := HXM.out
      rw [em] at q2
      injection q2 with q2
      subst q2
      have HMR : Hid (MxR W W.heap.size (.agg #[.int .i64 m.r, .int .i64 m.c, .slice MB m.a.length mb]) m) := ⟨_, rfl, hsl, hr1, hr2⟩
      have EF := Lib.hid ef
      have DF := Lib.hid df
      have EM := Lib.hid em
      have EMX := Lib.hid eM
      clear HXF HXM hsf hst hm hsl hr1 hr2 f1 em ef et df dt eM
      by_cases hv : nf = n
      · subst hv
        have hR := outS_le (v := (nf : Int)) (C := D) H1.out k hk
        have hyD : yf = D := by have := DN.out; rw [DF.out] at this; injection this with this; omega
        subst hyD
        have e1 := outS_yes (C := yf) EF.out EM.out (yt := yt) (by rw [EMX.out]; rfl)
        have e2 : outM x nf yf (k + 1) = mxF ((outS x nf yf k).1 + yt) yf (blF (outS x nf yf k).1 (outS x nf yf k).2 (entry m.a yf)) := by unfold outM; rw [e1]
        have E2 := Lib.hid e2
        have HR := Lib.hid hR
        have gws := gW.size
        have hHO := Lib.hid hO
        have x0' := bcell gW hbm x0
        have x1' := bcell gW hbm x1
        have x2' := bcell gW hbm x2
        have hbmw : bm < wr.heap.size := by omega
        clear e1 e2 hR x0 x1 x2 hO
        have hMr : (outM x nf yf k).r = ((outS x nf yf k).1 : Nat) := rfl
        have hMc : (outM x nf yf k).c = (yf : Int) := rfl
        rw [hMr, hMc] at k4 hHO
        obtain ⟨R0, hR0⟩ : ∃ R0, (outS x nf yf k).1 = R0 := ⟨_, rfl⟩
        rw [hR0] at k4 hHO
        have hR24 : R0 ≤ 24 := by have := HR.out; omega
        have hmr : m.r = (yt : Int) := by rw [EMX.out]; rfl
        rw [hmr] at x0'
        have HR0 := Lib.hid hR0
        have E3 := Lib.hid (show (outM x nf yf k).a ++ m.a = (outM x nf yf (k + 1)).a by
          rw [E2.out]
          have e5 : m.a = flat yt yf (entry m.a yf) := congrArg Mx.a EMX.out
          show flat _ _ _ ++ m.a = flat _ _ _
          rw [← flat_app, ← e5])
        have E4 : Hid ((outM x nf yf (k + 1)).r = (R0 : Int) + yt ∧ (outM x nf yf (k + 1)).c = (yf : Int)) := by
          show _ ∧ _
          rw [E2.out, ← hR0]
          exact ⟨by simp [mxF], rfl⟩
        have HLN : Hid ((outM x nf yf k).a.length + m.a.length ≤ 1000) := by
          show _ ≤ _
          rw [← List.length_append, E3.out, E2.out]
          simp only [mxF, flat_length]
          exact Nat.le_trans (Nat.mul_le_mul (show _ ≤ 100 by omega) (show _ ≤ 4 by omega)) (by decide)
        clear hMr hMc hR0 hmr
        go_wp2
        obtain ⟨y, hy⟩ : ∃ y, y = x := ⟨_, rfl⟩
        subst hy
        refine wp_region_netC (by kernel_rfl) [.eq (.pointer (some ⟨w3.heap.size, 0, none⟩)), .eq (.int .i64 R0), .eq (.pointer (some ⟨w0.heap.size, 5, none⟩)), .eq (.slice (some ⟨bm, om, none⟩) y.m.length h), .eq (.int .i64 k), .eq (.pointer (some ⟨bm, om + k * 3, none⟩)), .eq (.pointer (some ⟨bm, om + k * 3, none⟩)), .eq (.int .i64 yt), .eq (.int .i64 ((R0 : Int) + yt)), .eq (.pointer (some ⟨w3.heap.size, 1, none⟩)), .eq (.int .i64 yf), rel 11 (fun u lo hi w => Fresh w wr.heap.size u), .eq (.pointer (some ⟨w3.heap.size, 2, none⟩)), .eq (.slice MA N mc), rel 14 (fun u lo hi w => OwnI w wr.heap.size u (outM y nf yf k).a), .eq (.pointer (some ⟨w0.heap.size, 5, none⟩)), .eq (.slice (some ⟨bm, om, none⟩) y.m.length h), .eq (.int .i64 k), .eq (.pointer (some ⟨bm, om + k * 3, none⟩)), .eq (.pointer (some ⟨bm, om + k * 3 + 2, none⟩)), .eq (.slice MB m.a.length mb), rel 21 (fun u lo hi w => OwnI w wr.heap.size u ((outM y nf yf k).a ++ m.a)), rel 22 (fun u lo hi w => ∃ s, u = .agg #[.int .i64 (outM y nf yf (k + 1)).r, .int .i64 (outM y nf yf (k + 1)).c, s] ∧ OwnI w wr.heap.size s (outM y nf yf (k + 1)).a)] [[], [0], [], [2], [], [2, 3, 4], [2, 3, 4, 5], [2, 3, 4, 5, 6], [0, 1, 2, 3, 4, 5, 6, 7], [], [9], [], [], [12], [11, 12, 13], [], [15], [], [15, 16, 17], [15, 16, 17, 18], [15, 16, 17, 18, 19], [11, 12, 13, 14, 15, 16, 17, 18, 19, 20], [0, 1, 2, 3, 4, 5, 6, 7, 8, 9, 10, 11, 12, 13, 14, 15, 16, 17, 18, 19, 20, 21], [0, 1, 2, 3, 4, 5, 6, 7, 8, 9, 10, 11, 12, 13, 14, 15, 16, 17, 18, 19, 20, 21, 22]] [[], [0], [], [2], [], [2, 3, 4], [2, 3, 4, 5], [2, 3, 4, 5, 6], [0, 1, 2, 3, 4, 5, 6, 7], [], [9], [], [], [12], [11, 12, 13], [], [15], [], [15, 16, 17], [15, 16, 17, 18], [15, 16, 17, 18, 19], [11, 12, 13, 14, 15, 16, 17, 18, 19, 20], [0, 1, 2, 3, 4, 5, 6, 7, 8, 9, 10, 12, 13, 15, 16, 17, 18, 19, 20, 21]] [0, 1, 2, 3, 4, 5, 6, 7, 8, 9, 10, 12, 13, 15, 16, 17, 18, 19, 20, 21, 22] 23 21 (by kernel_rfl) (by kernel_rfl) ⟨.inr (.inr ⟨_, rfl⟩), .inr (.inr ⟨_, rfl⟩), .inr (.inr ⟨_, rfl⟩), .inr (.inr ⟨_, rfl⟩), .inr (.inr ⟨_, rfl⟩), .inr (.inr ⟨_, rfl⟩), .inr (.inr ⟨_, rfl⟩), .inr (.inr ⟨_, rfl⟩), .inr (.inr ⟨_, rfl⟩), .inr (.inr ⟨_, rfl⟩), .inr (.inr ⟨_, rfl⟩), .inr (.inr ⟨_, rfl⟩), .inr (.inr ⟨_, rfl⟩), .inr (.inr ⟨_, rfl⟩), .inr (.inr ⟨_, rfl⟩), .inr (.inr ⟨_, rfl⟩), .inr (.inr ⟨_, rfl⟩), .inr (.inr ⟨_, rfl⟩), .inr (.inr ⟨_, rfl⟩), .inl rfl, .inr (.inl rfl), trivial⟩ ⟨trivial, trivial, trivial, trivial, trivial, trivial, trivial, trivial, trivial, trivial, trivial, rel_stable (fun u lo hi w w' h hb => h.below hb), trivial, trivial, rel_stable (fun u lo hi w w' h hb => h.below hb), trivial, trivial, trivial, trivial, trivial, trivial, rel_stable (fun u lo hi w w' h hb => h.below hb), rel_stable (fun u lo hi w w' ⟨s, e, h⟩ hb => ⟨s, e, h.below hb⟩), trivial⟩ ⟨?_, ?_, ?_, ?_, ?_, ?_, ?_, ?_, ?_, ?_, ?_, ?_, ?_, ?_, ?_, ?_, ?_, ?_, ?_, ?_, ?_, ?_, ?_, trivial⟩ ?_
        · intro x w hb hk Q' hQ
          clear hk
          simp only [netAct, dstAt, List.getElem?_toArray, List.getElem?_cons_zero, List.getElem?_cons_succ, Option.bind_some, Act.put, List.setIfInBounds_toArray, List.set_cons_zero, List.set_cons_succ] at hQ ⊢
          go_wp2
          exact hQ (.pointer (some ⟨w3.heap.size, 0, none⟩)) _ (Below.refl _ _) rfl
        · intro x w hb hk Q' hQ
          have h0 : x.v 0 = .pointer (some ⟨w3.heap.size, 0, none⟩) := (hk 0 (by decide)).1
          clear hk
          simp only [netAct, dstAt, List.getElem?_toArray, List.getElem?_cons_zero, List.getElem?_cons_succ, Option.bind_some, Act.put, List.setIfInBounds_toArray, List.set_cons_zero, List.set_cons_succ] at hQ ⊢
          simp only [h0] at hQ ⊢
          clear h0
          have z0 := (k4.below hb k4.lt).cell' (i := 0) rfl
          go_wp2
          exact hQ (.int .i64 R0) _ (Below.refl _ _) rfl
        · intro x w hb hk Q' hQ
          clear hk
          simp only [netAct, dstAt, List.getElem?_toArray, List.getElem?_cons_zero, List.getElem?_cons_succ, Option.bind_some, Act.put, List.setIfInBounds_toArray, List.set_cons_zero, List.set_cons_succ] at hQ ⊢
          go_wp2
          exact hQ (.pointer (some ⟨w0.heap.size, 5, none⟩)) _ (Below.refl _ _) rfl
        · intro x w hb hk Q' hQ
          have h2 : x.v 2 = .pointer (some ⟨w0.heap.size, 5, none⟩) := (hk 2 (by decide)).1
          clear hk
          simp only [netAct, dstAt, List.getElem?_toArray, List.getElem?_cons_zero, List.getElem?_cons_succ, Option.bind_some, Act.put, List.setIfInBounds_toArray, List.set_cons_zero, List.set_cons_succ] at hQ ⊢
          simp only [h2] at hQ ⊢
          clear h2
          have z5 := (kBr.below hb kBr.lt).cell' (i := 5) rfl
          go_wp2
          exact hQ (.slice (some ⟨bm, om, none⟩) y.m.length h) _ (Below.refl _ _) rfl
        · intro x w hb hk Q' hQ
          clear hk
          simp only [netAct, dstAt, List.getElem?_toArray, List.getElem?_cons_zero, List.getElem?_cons_succ, Option.bind_some, Act.put, List.setIfInBounds_toArray, List.set_cons_zero, List.set_cons_succ] at hQ ⊢
          go_wp2
          exact hQ (.int .i64 k) _ (Below.refl _ _) rfl
        · intro x w hb hk Q' hQ
          have h3 : x.v 3 = .slice (some ⟨bm, om, none⟩) y.m.length h := (hk 3 (by decide)).1
          have h4 : x.v 4 = .int .i64 k := (hk 4 (by decide)).1
          clear hk
          simp only [netAct, dstAt, List.getElem?_toArray, List.getElem?_cons_zero, List.getElem?_cons_succ, Option.bind_some, Act.put, List.setIfInBounds_toArray, List.set_cons_zero, List.set_cons_succ] at hQ ⊢
          simp only [h3, h4] at hQ ⊢
          clear h3 h4
          go_wp2
          exact hQ (.pointer (some ⟨bm, om + k * 3, none⟩)) _ (Below.refl _ _) rfl
        · intro x w hb hk Q' hQ
          have h5 : x.v 5 = .pointer (some ⟨bm, om + k * 3, none⟩) := (hk 5 (by decide)).1
          clear hk
          simp only [netAct, dstAt, List.getElem?_toArray, List.getElem?_cons_zero, List.getElem?_cons_succ, Option.bind_some, Act.put, List.setIfInBounds_toArray, List.set_cons_zero, List.set_cons_succ] at hQ ⊢
          simp only [h5] at hQ ⊢
          clear h5
          go_wp2
          exact hQ (.pointer (some ⟨bm, om + k * 3, none⟩)) _ (Below.refl _ _) rfl
        · intro x w hb hk Q' hQ
          have h6 : x.v 6 = .pointer (some ⟨bm, om + k * 3, none⟩) := (hk 6 (by decide)).1
          clear hk
          simp only [netAct, dstAt, List.getElem?_toArray, List.getElem?_cons_zero, List.getElem?_cons_succ, Option.bind_some, Act.put, List.setIfInBounds_toArray, List.set_cons_zero, List.set_cons_succ] at hQ ⊢
          simp only [h6] at hQ ⊢
          clear h6
          have z0 := bcell hb hbmw x0'
          go_wp2
          exact hQ (.int .i64 yt) _ (Below.refl _ _) rfl
        · intro x w hb hk Q' hQ
          have h1 : x.v 1 = .int .i64 R0 := (hk 1 (by decide)).1
          have h7 : x.v 7 = .int .i64 yt := (hk 7 (by decide)).1
          clear hk
          simp only [netAct, dstAt, List.getElem?_toArray, List.getElem?_cons_zero, List.getElem?_cons_succ, Option.bind_some, Act.put, List.setIfInBounds_toArray, List.set_cons_zero, List.set_cons_succ] at hQ ⊢
          simp only [h1, h7] at hQ ⊢
          clear h1 h7
          go_wp2
          exact hQ (.int .i64 ((R0 : Int) + yt)) _ (Below.refl _ _) rfl
        · intro x w hb hk Q' hQ
          clear hk
          simp only [netAct, dstAt, List.getElem?_toArray, List.getElem?_cons_zero, List.getElem?_cons_succ, Option.bind_some, Act.put, List.setIfInBounds_toArray, List.set_cons_zero, List.set_cons_succ] at hQ ⊢
          go_wp2
          exact hQ (.pointer (some ⟨w3.heap.size, 1, none⟩)) _ (Below.refl _ _) rfl
        · intro x w hb hk Q' hQ
          have h9 : x.v 9 = .pointer (some ⟨w3.heap.size, 1, none⟩) := (hk 9 (by decide)).1
          clear hk
          simp only [netAct, dstAt, List.getElem?_toArray, List.getElem?_cons_zero, List.getElem?_cons_succ, Option.bind_some, Act.put, List.setIfInBounds_toArray, List.set_cons_zero, List.set_cons_succ] at hQ ⊢
          simp only [h9] at hQ ⊢
          clear h9
          have z0 := (k4.below hb k4.lt).cell' (i := 1) rfl
          go_wp2
          exact hQ (.int .i64 yf) _ (Below.refl _ _) rfl
        · intro x w hb hk Q' hQ
          clear hk
          simp only [netAct, dstAt, List.getElem?_toArray, List.getElem?_cons_zero, List.getElem?_cons_succ, Option.bind_some, Act.put, List.setIfInBounds_toArray, List.set_cons_zero, List.set_cons_succ] at hQ ⊢
          go_wp2
          exact hQ _ _ (below_alloc _ _) (Fresh.new _ hb.size)
        · intro x w hb hk Q' hQ
          clear hk
          simp only [netAct, dstAt, List.getElem?_toArray, List.getElem?_cons_zero, List.getElem?_cons_succ, Option.bind_some, Act.put, List.setIfInBounds_toArray, List.set_cons_zero, List.set_cons_succ] at hQ ⊢
          go_wp2
          exact hQ (.pointer (some ⟨w3.heap.size, 2, none⟩)) _ (Below.refl _ _) rfl
        · intro x w hb hk Q' hQ
          have h12 : x.v 12 = .pointer (some ⟨w3.heap.size, 2, none⟩) := (hk 12 (by decide)).1
          clear hk
          simp only [netAct, dstAt, List.getElem?_toArray, List.getElem?_cons_zero, List.getElem?_cons_succ, Option.bind_some, Act.put, List.setIfInBounds_toArray, List.set_cons_zero, List.set_cons_succ] at hQ ⊢
          simp only [h12] at hQ ⊢
          clear h12
          have z0 := (k4.below hb k4.lt).cell' (i := 2) rfl
          go_wp2
          exact hQ (.slice MA N mc) _ (Below.refl _ _) rfl
        · intro x w hb hk Q' hQ
          have h11 : Fresh w wr.heap.size (x.v 11) := (hk 11 (by decide)).1
          have h12 : x.v 12 = .pointer (some ⟨w3.heap.size, 2, none⟩) := (hk 12 (by decide)).1
          have h13 : x.v 13 = .slice MA N mc := (hk 13 (by decide)).1
          have s11 := (hk 11 (by decide)).2
          clear hk
          simp only [netAct, dstAt, List.getElem?_toArray, List.getElem?_cons_zero, List.getElem?_cons_succ, Option.bind_some, Act.put, List.setIfInBounds_toArray, List.set_cons_zero, List.set_cons_succ] at hQ ⊢
          simp only [h12, h13] at hQ ⊢
          clear h12 h13
          obtain ⟨g7, e7, hg7, hB7⟩ := h11
          obtain ⟨s0, e0, hs0, _⟩ := ((hHO.out).below hb).rd
          simp only [Value.agg.injEq, Array.mk.injEq, List.cons.injEq, and_true] at e0
          obtain ⟨_, _, rfl⟩ := e0
          obtain ⟨A1, c1, e1⟩ := hs0.app_len
          injection e1 with q1 q2 q3
          subst q1 q3
          rw [q2] at hs0
          rw [e7, q2] at hQ ⊢
          refine wpList_append_fresh (by rfl) (.tmp 52) (.tmp 54) (by rfl) g7 wr.heap.size w.heap.size #[] (by rfl) hB7 rfl hg7 _ _ (outM y nf yf k).a (by rfl) hs0 ?_
          intro v' w' ho hb'
          exact hQ _ _ hb' ho
        · intro x w hb hk Q' hQ
          clear hk
          simp only [netAct, dstAt, List.getElem?_toArray, List.getElem?_cons_zero, List.getElem?_cons_succ, Option.bind_some, Act.put, List.setIfInBounds_toArray, List.set_cons_zero, List.set_cons_succ] at hQ ⊢
          go_wp2
          exact hQ (.pointer (some ⟨w0.heap.size, 5, none⟩)) _ (Below.refl _ _) rfl
        · intro x w hb hk Q' hQ
          have h15 : x.v 15 = .pointer (some ⟨w0.heap.size, 5, none⟩) := (hk 15 (by decide)).1
          clear hk
          simp only [netAct, dstAt, List.getElem?_toArray, List.getElem?_cons_zero, List.getElem?_cons_succ, Option.bind_some, Act.put, List.setIfInBounds_toArray, List.set_cons_zero, List.set_cons_succ] at hQ ⊢
          simp only [h15] at hQ ⊢
          clear h15
          have z5 := (kBr.below hb kBr.lt).cell' (i := 5) rfl
          go_wp2
          exact hQ (.slice (some ⟨bm, om, none⟩) y.m.length h) _ (Below.refl _ _) rfl
        · intro x w hb hk Q' hQ
          clear hk
          simp only [netAct, dstAt, List.getElem?_toArray, List.getElem?_cons_zero, List.getElem?_cons_succ, Option.bind_some, Act.put, List.setIfInBounds_toArray, List.set_cons_zero, List.set_cons_succ] at hQ ⊢
          go_wp2
          exact hQ (.int .i64 k) _ (Below.refl _ _) rfl
        · intro x w hb hk Q' hQ
          have h16 : x.v 16 = .slice (some ⟨bm, om, none⟩) y.m.length h := (hk 16 (by decide)).1
          have h17 : x.v 17 = .int .i64 k := (hk 17 (by decide)).1
          clear hk
          simp only [netAct, dstAt, List.getElem?_toArray, List.getElem?_cons_zero, List.getElem?_cons_succ, Option.bind_some, Act.put, List.setIfInBounds_toArray, List.set_cons_zero, List.set_cons_succ] at hQ ⊢
          simp only [h16, h17] at hQ ⊢
          clear h16 h17
          go_wp2
          exact hQ (.pointer (some ⟨bm, om + k * 3, none⟩)) _ (Below.refl _ _) rfl
        · intro x w hb hk Q' hQ
          have h18 : x.v 18 = .pointer (some ⟨bm, om + k * 3, none⟩) := (hk 18 (by decide)).1
          clear hk
          simp only [netAct, dstAt, List.getElem?_toArray, List.getElem?_cons_zero, List.getElem?_cons_succ, Option.bind_some, Act.put, List.setIfInBounds_toArray, List.set_cons_zero, List.set_cons_succ] at hQ ⊢
          simp only [h18] at hQ ⊢
          clear h18
          go_wp2
          exact hQ (.pointer (some ⟨bm, om + k * 3 + 2, none⟩)) _ (Below.refl _ _) rfl
        · intro x w hb hk Q' hQ
          have h19 : x.v 19 = .pointer (some ⟨bm, om + k * 3 + 2, none⟩) := (hk 19 (by decide)).1
          clear hk
          simp only [netAct, dstAt, List.getElem?_toArray, List.getElem?_cons_zero, List.getElem?_cons_succ, Option.bind_some, Act.put, List.setIfInBounds_toArray, List.set_cons_zero, List.set_cons_succ] at hQ ⊢
          simp only [h19] at hQ ⊢
          clear h19
          have z2 := bcell hb hbmw x2'
          go_wp2
          exact hQ (.slice MB m.a.length mb) _ (Below.refl _ _) rfl
        · intro x w hb hk Q' hQ
          have h11 : Fresh w wr.heap.size (x.v 11) := (hk 11 (by decide)).1
          have h12 : x.v 12 = .pointer (some ⟨w3.heap.size, 2, none⟩) := (hk 12 (by decide)).1
          have h13 : x.v 13 = .slice MA N mc := (hk 13 (by decide)).1
          have h14 : OwnI w wr.heap.size (x.v 14) (outM y nf yf k).a := (hk 14 (by decide)).1
          have h15 : x.v 15 = .pointer (some ⟨w0.heap.size, 5, none⟩) := (hk 15 (by decide)).1
          have h16 : x.v 16 = .slice (some ⟨bm, om, none⟩) y.m.length h := (hk 16 (by decide)).1
          have h17 : x.v 17 = .int .i64 k := (hk 17 (by decide)).1
          have h18 : x.v 18 = .pointer (some ⟨bm, om + k * 3, none⟩) := (hk 18 (by decide)).1
          have h19 : x.v 19 = .pointer (some ⟨bm, om + k * 3 + 2, none⟩) := (hk 19 (by decide)).1
          have h20 : x.v 20 = .slice MB m.a.length mb := (hk 20 (by decide)).1
          have s11 := (hk 11 (by decide)).2
          have s14 := (hk 14 (by decide)).2
          clear hk
          simp only [netAct, dstAt, List.getElem?_toArray, List.getElem?_cons_zero, List.getElem?_cons_succ, Option.bind_some, Act.put, List.setIfInBounds_toArray, List.set_cons_zero, List.set_cons_succ] at hQ ⊢
          simp only [h12, h13, h15, h16, h17, h18, h19, h20] at hQ ⊢
          clear h12 h13 h15 h16 h17 h18 h19 h20
          obtain ⟨s0, e0, hs0, _⟩ := HMR.out
          simp only [Value.agg.injEq, Array.mk.injEq, List.cons.injEq, and_true, true_and] at e0
          subst e0
          have hs1 := SlI.more (show W.heap.size ≤ w.heap.size by have := hb.size; omega) (SlI.below (gW.trans (hb.mono gws)) hs0)
          have hlo := h14.lt
          refine wpList_appI (by rfl) (.tmp 55) (.tmp 61) (by rfl) wr.heap.size w.heap.size _ _ (by rfl) h14 MB _ mb m.a (by rfl) rfl hs1 (by have := HLN.out; omega) hb.size ?_
          intro v' w' h1 h2 h3
          exact hQ v' w' (below_grown h2 (fun k hk => (hlo k hk).1) hb.size) h1
        · intro x w hb hk Q' hQ
          have h0 : x.v 0 = .pointer (some ⟨w3.heap.size, 0, none⟩) := (hk 0 (by decide)).1
          have h1 : x.v 1 = .int .i64 R0 := (hk 1 (by decide)).1
          have h2 : x.v 2 = .pointer (some ⟨w0.heap.size, 5, none⟩) := (hk 2 (by decide)).1
          have h3 : x.v 3 = .slice (some ⟨bm, om, none⟩) y.m.length h := (hk 3 (by decide)).1
          have h4 : x.v 4 = .int .i64 k := (hk 4 (by decide)).1
          have h5 : x.v 5 = .pointer (some ⟨bm, om + k * 3, none⟩) := (hk 5 (by decide)).1
          have h6 : x.v 6 = .pointer (some ⟨bm, om + k * 3, none⟩) := (hk 6 (by decide)).1
          have h7 : x.v 7 = .int .i64 yt := (hk 7 (by decide)).1
          have h8 : x.v 8 = .int .i64 ((R0 : Int) + yt) := (hk 8 (by decide)).1
          have h9 : x.v 9 = .pointer (some ⟨w3.heap.size, 1, none⟩) := (hk 9 (by decide)).1
          have h10 : x.v 10 = .int .i64 yf := (hk 10 (by decide)).1
          have h12 : x.v 12 = .pointer (some ⟨w3.heap.size, 2, none⟩) := (hk 12 (by decide)).1
          have h13 : x.v 13 = .slice MA N mc := (hk 13 (by decide)).1
          have h15 : x.v 15 = .pointer (some ⟨w0.heap.size, 5, none⟩) := (hk 15 (by decide)).1
          have h16 : x.v 16 = .slice (some ⟨bm, om, none⟩) y.m.length h := (hk 16 (by decide)).1
          have h17 : x.v 17 = .int .i64 k := (hk 17 (by decide)).1
          have h18 : x.v 18 = .pointer (some ⟨bm, om + k * 3, none⟩) := (hk 18 (by decide)).1
          have h19 : x.v 19 = .pointer (some ⟨bm, om + k * 3 + 2, none⟩) := (hk 19 (by decide)).1
          have h20 : x.v 20 = .slice MB m.a.length mb := (hk 20 (by decide)).1
          have h21 : OwnI w wr.heap.size (x.v 21) ((outM y nf yf k).a ++ m.a) := (hk 21 (by decide)).1
          have s21 := (hk 21 (by decide)).2
          clear hk
          simp only [netAct, dstAt, List.getElem?_toArray, List.getElem?_cons_zero, List.getElem?_cons_succ, Option.bind_some, Act.put, List.setIfInBounds_toArray, List.set_cons_zero, List.set_cons_succ] at hQ ⊢
          simp only [h0, h1, h2, h3, h4, h5, h6, h7, h8, h9, h10, h12, h13, h15, h16, h17, h18, h19, h20] at hQ ⊢
          clear h0 h1 h2 h3 h4 h5 h6 h7 h8 h9 h10 h12 h13 h15 h16 h17 h18 h19 h20
          rw [E3.out] at h21
          have H21 := Lib.hid h21
          obtain ⟨A21, c21, e21, _, _⟩ := h21.form
          rw [e21] at H21 hQ ⊢
          clear h21 e21
          go_wp2
          have he : (Value.agg #[.int .i64 ((R0 : Int) + yt), .int .i64 yf, .slice A21 (outM y nf yf (k + 1)).a.length c21]) = .agg #[.int .i64 (outM y nf yf (k + 1)).r, .int .i64 (outM y nf yf (k + 1)).c, .slice A21 (outM y nf yf (k + 1)).a.length c21] := by rw [E4.out.1, E4.out.2]
          exact hQ _ w (Below.refl _ _) ⟨_, he, H21.out⟩
        · intro x w hb hk hiv hdj
          have h0 : x.v 0 = .pointer (some ⟨w3.heap.size, 0, none⟩) := hk 0 (by decide) (by decide)
          have h1 : x.v 1 = .int .i64 R0 := hk 1 (by decide) (by decide)
          have h2 : x.v 2 = .pointer (some ⟨w0.heap.size, 5, none⟩) := hk 2 (by decide) (by decide)
          have h3 : x.v 3 = .slice (some ⟨bm, om, none⟩) y.m.length h := hk 3 (by decide) (by decide)
          have h4 : x.v 4 = .int .i64 k := hk 4 (by decide) (by decide)
          have h5 : x.v 5 = .pointer (some ⟨bm, om + k * 3, none⟩) := hk 5 (by decide) (by decide)
          have h6 : x.v 6 = .pointer (some ⟨bm, om + k * 3, none⟩) := hk 6 (by decide) (by decide)
          have h7 : x.v 7 = .int .i64 yt := hk 7 (by decide) (by decide)
          have h8 : x.v 8 = .int .i64 ((R0 : Int) + yt) := hk 8 (by decide) (by decide)
          have h9 : x.v 9 = .pointer (some ⟨w3.heap.size, 1, none⟩) := hk 9 (by decide) (by decide)
          have h10 : x.v 10 = .int .i64 yf := hk 10 (by decide) (by decide)
          have h12 : x.v 12 = .pointer (some ⟨w3.heap.size, 2, none⟩) := hk 12 (by decide) (by decide)
          have h13 : x.v 13 = .slice MA N mc := hk 13 (by decide) (by decide)
          have h15 : x.v 15 = .pointer (some ⟨w0.heap.size, 5, none⟩) := hk 15 (by decide) (by decide)
          have h16 : x.v 16 = .slice (some ⟨bm, om, none⟩) y.m.length h := hk 16 (by decide) (by decide)
          have h17 : x.v 17 = .int .i64 k := hk 17 (by decide) (by decide)
          have h18 : x.v 18 = .pointer (some ⟨bm, om + k * 3, none⟩) := hk 18 (by decide) (by decide)
          have h19 : x.v 19 = .pointer (some ⟨bm, om + k * 3 + 2, none⟩) := hk 19 (by decide) (by decide)
          have h20 : x.v 20 = .slice MB m.a.length mb := hk 20 (by decide) (by decide)
          have h21 : OwnI w wr.heap.size (x.v 21) ((outM y nf yf k).a ++ m.a) := hk 21 (by decide) (by decide)
          have h22 : ∃ s, (x.v 22) = .agg #[.int .i64 (outM y nf yf (k + 1)).r, .int .i64 (outM y nf yf (k + 1)).c, s] ∧ OwnI w wr.heap.size s (outM y nf yf (k + 1)).a := hk 22 (by decide) (by decide)
          clear hk
          simp only [netAct, dstAt, List.getElem?_toArray, List.getElem?_cons_zero, List.getElem?_cons_succ, Option.bind_some, Act.put, List.setIfInBounds_toArray, List.set_cons_zero, List.set_cons_succ]
          simp only [List.drop_succ_cons, List.drop_zero, h0, h1, h2, h3, h4, h5, h6, h7, h8, h9, h10, h12, h13, h15, h16, h17, h18, h19, h20]
          clear h0 h1 h2 h3 h4 h5 h6 h7 h8 h9 h10 h12 h13 h15 h16 h17 h18 h19 h20
          obtain ⟨s22, e6, hs22⟩ := h22
          obtain ⟨MA', mc', es22, _, _⟩ := hs22.form
          subst es22
          have hI1 : I64 (outM y nf yf (k + 1)).r := by rw [E4.out.1]; simp only [I64]; omega
          have hI2 : I64 (outM y nf yf (k + 1)).c := by rw [E4.out.2]; simp only [I64]; omega
          have h6 : MxO w wr.heap.size w.heap.size (.agg #[.int .i64 (outM y nf yf (k + 1)).r, .int .i64 (outM y nf yf (k + 1)).c, .slice MA' (outM y nf yf (k + 1)).a.length mc']) (outM y nf yf (k + 1)) := ⟨_, rfl, IntsO.of_own hs22, hI1, hI2⟩
          rw [e6]
          clear hs22 hI1 hI2 h21
          obtain ⟨N', hN'⟩ : ∃ nn, (outM y nf yf (k + 1)).a.length = nn := ⟨_, rfl⟩
          rw [hN'] at h6 ⊢
          have k4w := k4.below hb k4.lt
          have p0 := k4w.cell' (i := 0) rfl
          have p1 := k4w.cell' (i := 1) rfl
          have p2 := k4w.cell' (i := 2) rfl
          have fr := k4w.frozen
          have hbs := hb.size
          have K5 := Lib.hid (((k4w.set_ 0 (.int .i64 (outM y nf yf (k + 1)).r)).set_ 1 (.int .i64 (outM y nf yf (k + 1)).c)).set_ 2 (.slice MA' N' mc'))
          have O5 := Lib.hid ((((h6.setBlk (i := 0) k4w (by decide) (.int .i64 (outM y nf yf (k + 1)).r)).setBlk (i := 1) (k4w.set_ 0 _) (by decide) (.int .i64 (outM y nf yf (k + 1)).c)).setBlk (i := 2) ((k4w.set_ 0 _).set_ 1 _) (by decide) (.slice MA' N' mc')).wider (lo' := W.heap.size) (hi' := w.heap.size) (by omega) (by omega))
          have hc3 := chg3 w w3.heap.size (.int .i64 (outM y nf yf (k + 1)).r) (.int .i64 (outM y nf yf (k + 1)).c) (.slice MA' N' mc')
          have GW := Lib.hid ((gW.trans (hb.mono gws)).trans (hc3.below (B := W.heap.size) (by omega) (by omega)))
          clear hiv hdj e6 h6 hc3 k4w hb gW kBr k4 hN'
          go_wp2
          go_roundw
          case rel => exact ⟨k + 1, N', mc', MA', by omega, by go_num, GW.out, K5.out, O5.out.wider (Nat.le_refl _) (by simp)⟩
          case measure => simp [intOf]; omega
      · have hne : ((nf : Int) == n) = false := by rw [beq_eq_false_iff_ne]; omega
        have e1 := outS_no (C := D) EF.out (show (nf : Int) ≠ n by omega)
        have e2 : outM x n D (k + 1) = outM x n D k := by unfold outM; rw [e1]
        have E2 := Lib.hid e2
        have K4 := Lib.hid k4
        have HO := Lib.hid hO
        have GW := Lib.hid gW
        clear e1 e2 k4 hO gW kBr
        go_wp2
        go_roundw
        case rel => exact ⟨k + 1, N, mc, MA, by omega, by go_num, GW.out, by rw [E2.out]; exact K4.out, by rw [E2.out]; exact HO.out⟩
        case measure => simp [intOf]; omega
    · obtain rfl : k = x.q.f.length := by omega
      have HF' := HF.out
      have k2 := (KR.out).below gW (by have := SZ.out; omega)
      have z0 := k4.cell' (i := 0) rfl
      have z1 := k4.cell' (i := 1) rfl
      have z2 := k4.cell' (i := 2) rfl
      have p0 := k2.cell' (i := 0) rfl
      have p1 := k2.cell' (i := 1) rfl
      have p2 := k2.cell' (i := 2) rfl
      have f2 := k2.frozen
      have h2 := chg3 wr (w0.heap.size + 1) (.int .i64 (outM x n D x.q.f.length).r) (.int .i64 (outM x n D x.q.f.length).c) (.slice MA N mc)
      have gw : Below w0.heap.size w0 wr := (G0.out).trans (gW.mono (G0.out).size)
      have gs := gw.size
      have gws := gW.size
      have sz := SZ.out
      have oA2 := (hO.chg h2 (.inr (by omega))).wider (lo' := w0.heap.size) (hi' := wr.heap.size) (by omega) (Nat.le_refl _)
      have fg := gw.trans (h2.below (by omega) gs)
      have OA2 := Lib.hid oA2
      have FG := Lib.hid fg
      have HFF := Lib.hid HF'
      clear hO oA2 fg gw h2 k2 k4 gW sz gws HF'
      go_wp2
      exact bodyPost_ret (v := .tuple #[.agg #[.int .i64 (outM x n D x.q.f.length).r, .int .i64 (outM x n D x.q.f.length).c, .slice MA N mc], .bool true]) (by simp [results, go_sem, p0, p1, p2]) rfl ⟨_, by rw [(HFF.out : _)], by rw [(HFF.out : _)]; exact OA2.out.wider (Nat.le_refl _) (by simp), FG.out⟩
theorem specOutgoingMatrix_any (u : Value) (x : Rp) (v : Int) (w0 : World) (hu : RpR w0 w0.heap.size u x) (hv : I64 v) :
    Calls Try.prog 50 #[u, .int .i64 v] w0 fun e w' => ∃ r, e = .returned (.tuple #[r, .bool (outP x v).2]) ∧ MxO w' w0.heap.size w'.heap.size r (outP x v).1 ∧ Below w0.heap.size w0 w' := by
  rcases h : outOk x v with _ | _
  · exact specOut_no u x v w0 hu h
  · exact specOut_yes u x v w0 hu h
theorem outP_size (x : Rp) (v : Int) : (outP x v).1.size ≤ 1000 := by
  rcases h : outOk x v with _ | _
  · simp [outP, h, mx0, Mx.size]
  · have h1 : isRep x = true := by simp only [outOk, Bool.and_eq_true] at h; exact h.1
    have h2 : endV x.q.t x.q v = true := by simp only [outOk, Bool.and_eq_true] at h; exact h.2
    obtain ⟨n, D, rfl, hn, dn, hD, hD4, hn5⟩ := vert_at h1 h2
    rw [outP_yes h hD]
    have h3 := outS_le (v := (n : Int)) (C := D) h1 _ (Nat.le_refl _)
    have h4 := (isQ_t.1 (areDims_t.1 (isRep_t.1 h1).2.1).1).2.2.1
    simp only [outM, mxF, Mx.size, flat_length]
    exact Nat.le_trans (Nat.mul_le_mul (show _ ≤ 24 by omega) hD4) (by decide)
end Go.Proofs.Ytbgjhnolnccnnaa
