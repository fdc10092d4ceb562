/- FnExactHasSimpleAtSource: for every argument the program's function returns what the reference's returns. Part 7 of 8 of the proof: InOut4, InOut5, Rank, KitR2, LawHasSimpleAtSource, Row, RowM. No condition. -/
import Derived.Test.YtjhllgldllbaaaaBHasSimpleAtSource6
import Derived.Test.YtjhllgldllbaaaaRows
import Derived.ProofKit
import Derived.SizedLaws
import Derived.OpenShut
import Derived.Deep.Slices
/- The reference's IncomingMatrix. -/
namespace Go.Proofs.Ytjhllgldllbaaaa
set_option linter.unusedVariables false
set_option linter.unusedSimpArgs false
open Go.RowKit
set_option maxHeartbeats 6400000 in
set_option maxRecDepth 100000 in
theorem specIn_yes (u : Value) (x : Rp) (v : Int) (w0 : World) (hu : RpR w0 w0.heap.size u x) (hyes : inOk x v = true) :
    Calls Try.prog 96 #[u, .int .i64 v] w0 fun e w' => ∃ r, e = .returned (.tuple #[r, .bool (inP x v).2]) ∧ MxO w' w0.heap.size w'.heap.size r (inP x v).1 ∧ Below w0.heap.size w0 w' := by
  have hu' := hu
  obtain ⟨A, a, C, c, E, e, H, h, rfl, hq, hd, hm, hp, ld, lm⟩ := hu.open_
  clear hu
  obtain ⟨W, hW⟩ : ∃ W, W = (w0.alloc (.cells #[.int .i64 x.p, .int .i64 x.q.v, .slice A x.q.f.length a, .slice C x.q.t.length c, .slice E x.d.length e, .slice H x.m.length h] 29)).alloc (.cells #[.int .i64 0, .int .i64 0, .slice none 0 0] 75) := ⟨_, rfl⟩
  have g0 : Below w0.heap.size w0 W := by rw [hW]; exact ((Below.refl _ _).alloc (Nat.le_refl _) _).alloc (by simp) _
  have kB : Blk W w0.heap.size 29 #[.int .i64 x.p, .int .i64 x.q.v, .slice A x.q.f.length a, .slice C x.q.t.length c, .slice E x.d.length e, .slice H x.m.length h] := by rw [hW]; exact (Blk.new _ _ _).alloc _
  have kR : Blk W (w0.heap.size + 1) 75 #[.int .i64 0, .int .i64 0, .slice none 0 0] := by
    rw [hW]
    have := Blk.new (w0.alloc (.cells #[.int .i64 x.p, .int .i64 x.q.v, .slice A x.q.f.length a, .slice C x.q.t.length c, .slice E x.d.length e, .slice H x.m.length h] 29)) 75 #[.int .i64 0, .int .i64 0, .slice none 0 0]
    simpa only [World.size_alloc] using this
  have sz : W.heap.size = w0.heap.size + 1 + 1 := by rw [hW]; simp
  replace hq := QvR.next g0 hq
  replace hd := SlI.next g0 hd
  replace hm := SlM.next g0 hm
  have h1 : isRep x = true := by simp only [inOk, Bool.and_eq_true] at hyes; exact hyes.1
  have h2 : endV x.q.f x.q v = true := by simp only [inOk, Bool.and_eq_true] at hyes; exact hyes.2
  have hq1 : isQ x.q = true := (areDims_t.1 (isRep_t.1 h1).2.1).1
  obtain ⟨n, D, rfl, hn, dn, hD, hD4, hn5⟩ := vert_at h1 h2
  have HF := Lib.hid (inP_yes hyes hD)
  have DN := Lib.hid dn
  have H1 := Lib.hid h1
  have H2 := Lib.hid h2
  have HQ1 := Lib.hid hq1
  have SZ := Lib.hid sz
  have hl6 : x.q.f.length ≤ 6 := (isQ_t.1 hq1).2.2.1
  have HXR := Lib.hid (show RpR W W.heap.size (.agg #[.int .i64 x.p, .int .i64 x.q.v, .slice A x.q.f.length a, .slice C x.q.t.length c, .slice E x.d.length e, .slice H x.m.length h]) x from RpR.next g0 hu')
  have HQ := Lib.hid hq
  have HD := Lib.hid hd
  have HM := Lib.hid hm
  have KB := Lib.hid kB
  have KR := Lib.hid kR
  have G0 := Lib.hid g0
  clear h1 h2 hq1 sz hD hyes hu' hm
  have c0 := kB.cell' (i := 0) rfl
  have c1 := kB.cell' (i := 1) rfl
  have c2 := kB.cell' (i := 2) rfl
  have c3 := kB.cell' (i := 3) rfl
  have c4 := kB.cell' (i := 4) rfl
  have c5 := kB.cell' (i := 5) rfl
  go_enter Try.func96, Try.ntmps96
  go_wp2_with fail
  rw [← hW]; clear hW
  refine (specIsRep_any _ x _ HXR.out).mono ?_; rintro e w1 ⟨rfl, hb1⟩
  rw [H1.out]
  replace kB := kB.call hb1
  replace hq := QvR.next hb1 hq
  have gW := hb1
  clear c0 c1 c2 c3 c4 c5 hb1
  have c0 := kB.cell' (i := 0) rfl
  have c1 := kB.cell' (i := 1) rfl
  have c2 := kB.cell' (i := 2) rfl
  have c3 := kB.cell' (i := 3) rfl
  have c4 := kB.cell' (i := 4) rfl
  have c5 := kB.cell' (i := 5) rfl
  go_wp2_with fail
  refine (sinksOf_any _ x.q _ hq HQ1.out).mono ?_; rintro e w2a ⟨sv, rfl, hsv, hb1⟩
  have H3 := Lib.hid (show decide ((n : Int) ∈ freeV x.q.f x.q.v.toNat) = true by rw [freeV_mem _ _ x.q _ (by have := (isQ_t.1 HQ1.out).1; omega)]; exact H2.out)
  replace kB := kB.call hb1
  replace gW := bthen gW hb1
  clear c0 c1 c2 c3 c4 c5 hb1
  have c0 := kB.cell' (i := 0) rfl
  have c1 := kB.cell' (i := 1) rfl
  have c2 := kB.cell' (i := 2) rfl
  have c3 := kB.cell' (i := 3) rfl
  have c4 := kB.cell' (i := 4) rfl
  have c5 := kB.cell' (i := 5) rfl
  go_wp2_with fail
  refine (l4Has_any _ _ n _ hsv).mono ?_; rintro e w2 ⟨rfl, hb1⟩
  rw [H3.out]
  clear hsv
  replace kB := kB.call hb1
  replace gW := bthen gW hb1
  clear c0 c1 c2 c3 c4 c5 hb1 hq
  have c0 := kB.cell' (i := 0) rfl
  have c1 := kB.cell' (i := 1) rfl
  have c2 := kB.cell' (i := 2) rfl
  have c3 := kB.cell' (i := 3) rfl
  have c4 := kB.cell' (i := 4) rfl
  have c5 := kB.cell' (i := 5) rfl
  have hd2 := SlI.more gW.size (SlI.below gW hd)
  obtain ⟨be, oe, xe, rfl, hbe, HXE, xc, _⟩ := SlI.at_ hd2 hn
  have ex := HXE.out
  rw [dn] at ex
  injection ex with ex
  subst ex
  clear hd hd2 HXE hbe
  go_wp2_with fail
  refine (l3Zero_any (D : Int) 0 _ (by omega) (by omega) (by omega) (by omega)).mono ?_; rintro e w3 ⟨v3, rfl, hZ, hb3⟩
  rw [inM_0 x n D] at hZ
  obtain ⟨MA, mc, e3⟩ := hZ.form
  subst e3
  have gW3 := bthen gW hb3
  have hs3 := hb3.size
  have hs2 := gW.size
  obtain ⟨N3, hN3⟩ : ∃ nn, (inM x n D 0).a.length = nn := ⟨_, rfl⟩
  rw [hN3] at hZ ⊢
  obtain ⟨W4, hW4⟩ : ∃ W4, W4 = w3.alloc (.cells #[.int .i64 (inM x n D 0).r, .int .i64 (inM x n D 0).c, .slice MA N3 mc] 75) := ⟨_, rfl⟩
  have b4 : Below w3.heap.size w3 W4 := by rw [hW4]; exact below_alloc _ _
  have k4 : Blk W4 w3.heap.size 75 #[.int .i64 (inM x n D 0).r, .int .i64 (inM x n D 0).c, .slice MA N3 mc] := by rw [hW4]; exact Blk.new _ _ _
  have l4 : w3.heap.size < W4.heap.size := k4.lt
  have kB4 := (kB.call hb3).call b4
  have gW4 := bthen gW3 b4
  have hO := (hZ.below b4).wider (lo' := W.heap.size) (hi' := W4.heap.size) (by omega) (by omega)
  clear c0 c1 c2 c3 c4 c5 xc hZ hb3 b4 gW gW3 kB hN3
  have c0 := kB4.cell' (i := 0) rfl
  have c1 := kB4.cell' (i := 1) rfl
  have c2 := kB4.cell' (i := 2) rfl
  have c3 := kB4.cell' (i := 3) rfl
  have c4 := kB4.cell' (i := 4) rfl
  have c5 := kB4.cell' (i := 5) rfl
  rw [hW4] at c0 c1 c2 c3 c4 c5
  go_wp2
  rw [← hW4]
  clear hW4 c0 c1 c2 c3 c4 c5 kB4
  go_loopw [7] (fun i wr => ∃ (k N mc : Nat) (MA : Option Addr), k ≤ x.q.f.length ∧ i = .int .i64 k ∧ Below W.heap.size W wr ∧ Blk wr w3.heap.size 75 #[.int .i64 (inM x n D k).r, .int .i64 (inM x n D k).c, .slice MA N mc] ∧ MxO wr W.heap.size wr.heap.size (.agg #[.int .i64 (inM x n D k).r, .int .i64 (inM x n D k).c, .slice MA N mc]) (inM x n D k)) (fun i _ => x.q.f.length - (intOf i).toNat)
  case atStart => exact ⟨0, _, _, _, Nat.zero_le _, rfl, gW4, k4, hO⟩
  case round =>
    clear k4 hO gW4
    have hlen : x.q.t.length ≤ x.q.f.length := by have := (isQ_t.1 HQ1.out).2.1; omega
    obtain ⟨k, N, mc, MA, hk, rfl, gW, k4, hO⟩ := hrel
    have s6 := gW.size
    have hml : x.m.length ≤ x.q.f.length := by have := (isRep_t.1 H1.out).2.2.1; omega
    have kBr := (KB.out).below gW (KB.out).lt
    have c0 := kBr.cell' (i := 0) rfl
    have c1 := kBr.cell' (i := 1) rfl
    have c2 := kBr.cell' (i := 2) rfl
    have c3 := kBr.cell' (i := 3) rfl
    have c4 := kBr.cell' (i := 4) rfl
    have c5 := kBr.cell' (i := 5) rfl
    by_cases hlt : k < x.q.f.length
    · obtain ⟨m, nf, nt, yf, yt, em, ef, et, df, dt, eM, _, b1, b2, b3, b4, b5, b6, b7, b8⟩ := isRep_at H1.out hlt
      obtain ⟨hsf, hst⟩ := QvR.sl HQ.out
      obtain ⟨bf, of_, xf, rfl, hbf, HXF, f1, _⟩ := SlI.at_ hst b7
      have q1 := HXF.out
      rw [et] at q1
      injection q1 with q1
      subst q1
      have f2 := bcell gW hbf f1
      have hm := HM.out
      obtain ⟨bm, om, m', MB, mb, rfl, hbm, HXM, x0, x1, x2, hsl, hr1, hr2, _⟩ := SlM.at_ hm b8
      have q2 := HXM.out
      rw [em] at q2
      injection q2 with q2
      subst q2
      have HMR : Hid (MxR W W.heap.size (.agg #[.int .i64 m.r, .int .i64 m.c, .slice MB m.a.length mb]) m) := ⟨_, rfl, hsl, hr1, hr2⟩
      have EF := Lib.hid et
      have DF := Lib.hid dt
      have EM := Lib.hid em
      have EMX := Lib.hid eM
      clear HXF HXM hsf hst hm hsl hr1 hr2 f1 em ef et df dt eM
      by_cases hv : nt = n
      · subst hv
        have hR := inS_le (v := (nt : Int)) (C := D) H1.out k hk
        have hyD : yt = D := by have := DN.out; rw [DF.out] at this; injection this with this; omega
        subst hyD
        have e1 := inS_yes (R := yt) EF.out EM.out (yf := yf) (by rw [EMX.out]; rfl)
        have e2 : inM x nt yt (k + 1) = mxF yt ((inS x nt yt k).1 + yf) (bsF (inS x nt yt k).1 (inS x nt yt k).2 (entry m.a yf)) := by unfold inM; rw [e1]
        have E2 := Lib.hid e2
        have HR := Lib.hid hR
        have gws := gW.size
        have hHO := Lib.hid hO
        have x0' := bcell gW hbm x0
        have x1' := bcell gW hbm x1
        have x2' := bcell gW hbm x2
        have hbmw : bm < wr.heap.size := by omega
        clear e1 e2 hR x0 x1 x2 hO
        go_wp2
        obtain ⟨y, hy⟩ : ∃ y, y = x := ⟨_, rfl⟩
        subst hy
        refine wp_region_net (by kernel_rfl) [.eq (.agg #[.int .i64 (inM y nt yt k).r, .int .i64 (inM y nt yt k).c, .slice MA N mc]), .eq (.pointer (some ⟨w0.heap.size, 5, none⟩)), .eq (.slice (some ⟨bm, om, none⟩) y.m.length h), .eq (.int .i64 k), .eq (.pointer (some ⟨bm, om + k * 3, none⟩)), .eq (.agg #[.int .i64 m.r, .int .i64 m.c, .slice MB m.a.length mb]), rel 6 (fun u lo hi w => MxO w lo hi u (inM y nt yt (k + 1)))] [[], [], [1], [], [1, 2, 3], [1, 2, 3, 4], [0, 1, 2, 3, 4, 5], [0, 1, 2, 3, 4, 5, 6]] 7 (by kernel_rfl) ⟨trivial, trivial, trivial, trivial, trivial, trivial, rel_stable (fun u lo hi w w' h hb => h.below hb), trivial⟩ ⟨?_, ?_, ?_, ?_, ?_, ?_, ?_, trivial⟩ ?_
        · intro x w hb hk Q' hQ
          clear hk
          simp only [netAct, dstAt, List.getElem?_toArray, List.getElem?_cons_zero, List.getElem?_cons_succ, Option.bind_some, Act.put, List.setIfInBounds_toArray, List.set_cons_zero, List.set_cons_succ] at hQ ⊢
          have z0 := (k4.call hb).cell' (i := 0) rfl
          have z1 := (k4.call hb).cell' (i := 1) rfl
          have z2 := (k4.call hb).cell' (i := 2) rfl
          go_wp2
          exact hQ (.agg #[.int .i64 (inM y nt yt k).r, .int .i64 (inM y nt yt k).c, .slice MA N mc]) _ (Below.refl _ _) rfl
        · intro x w hb hk Q' hQ
          clear hk
          simp only [netAct, dstAt, List.getElem?_toArray, List.getElem?_cons_zero, List.getElem?_cons_succ, Option.bind_some, Act.put, List.setIfInBounds_toArray, List.set_cons_zero, List.set_cons_succ] at hQ ⊢
          go_wp2
          exact hQ (.pointer (some ⟨w0.heap.size, 5, none⟩)) _ (Below.refl _ _) rfl
        · intro x w hb hk Q' hQ
          have h1 : x.v 1 = .pointer (some ⟨w0.heap.size, 5, none⟩) := (hk 1 (by decide)).1
          clear hk
          simp only [netAct, dstAt, List.getElem?_toArray, List.getElem?_cons_zero, List.getElem?_cons_succ, Option.bind_some, Act.put, List.setIfInBounds_toArray, List.set_cons_zero, List.set_cons_succ] at hQ ⊢
          simp only [h1] at hQ ⊢
          clear h1
          have z5 := (kBr.call hb).cell' (i := 5) rfl
          go_wp2
          exact hQ (.slice (some ⟨bm, om, none⟩) y.m.length h) _ (Below.refl _ _) rfl
        · intro x w hb hk Q' hQ
          clear hk
          simp only [netAct, dstAt, List.getElem?_toArray, List.getElem?_cons_zero, List.getElem?_cons_succ, Option.bind_some, Act.put, List.setIfInBounds_toArray, List.set_cons_zero, List.set_cons_succ] at hQ ⊢
          go_wp2
          exact hQ (.int .i64 k) _ (Below.refl _ _) rfl
        · intro x w hb hk Q' hQ
          have h2 : x.v 2 = .slice (some ⟨bm, om, none⟩) y.m.length h := (hk 2 (by decide)).1
          have h3 : x.v 3 = .int .i64 k := (hk 3 (by decide)).1
          clear hk
          simp only [netAct, dstAt, List.getElem?_toArray, List.getElem?_cons_zero, List.getElem?_cons_succ, Option.bind_some, Act.put, List.setIfInBounds_toArray, List.set_cons_zero, List.set_cons_succ] at hQ ⊢
          simp only [h2, h3] at hQ ⊢
          clear h2 h3
          go_wp2
          exact hQ (.pointer (some ⟨bm, om + k * 3, none⟩)) _ (Below.refl _ _) rfl
        · intro x w hb hk Q' hQ
          have h4 : x.v 4 = .pointer (some ⟨bm, om + k * 3, none⟩) := (hk 4 (by decide)).1
          clear hk
          simp only [netAct, dstAt, List.getElem?_toArray, List.getElem?_cons_zero, List.getElem?_cons_succ, Option.bind_some, Act.put, List.setIfInBounds_toArray, List.set_cons_zero, List.set_cons_succ] at hQ ⊢
          simp only [h4] at hQ ⊢
          clear h4
          have z0 := bcell hb hbmw x0'
          have z1 := bcell hb hbmw x1'
          have z2 := bcell hb hbmw x2'
          go_wp2
          exact hQ (.agg #[.int .i64 m.r, .int .i64 m.c, .slice MB m.a.length mb]) _ (Below.refl _ _) rfl
        · intro x w hb hk Q' hQ
          have h0 : x.v 0 = .agg #[.int .i64 (inM y nt yt k).r, .int .i64 (inM y nt yt k).c, .slice MA N mc] := (hk 0 (by decide)).1
          have h1 : x.v 1 = .pointer (some ⟨w0.heap.size, 5, none⟩) := (hk 1 (by decide)).1
          have h2 : x.v 2 = .slice (some ⟨bm, om, none⟩) y.m.length h := (hk 2 (by decide)).1
          have h3 : x.v 3 = .int .i64 k := (hk 3 (by decide)).1
          have h4 : x.v 4 = .pointer (some ⟨bm, om + k * 3, none⟩) := (hk 4 (by decide)).1
          have h5 : x.v 5 = .agg #[.int .i64 m.r, .int .i64 m.c, .slice MB m.a.length mb] := (hk 5 (by decide)).1
          clear hk
          simp only [netAct, dstAt, List.getElem?_toArray, List.getElem?_cons_zero, List.getElem?_cons_succ, Option.bind_some, Act.put, List.setIfInBounds_toArray, List.set_cons_zero, List.set_cons_succ] at hQ ⊢
          simp only [h0, h1, h2, h3, h4, h5] at hQ ⊢
          clear h0 h1 h2 h3 h4 h5
          have hmr : MxR w w.heap.size (.agg #[.int .i64 m.r, .int .i64 m.c, .slice MB m.a.length mb]) (mxF yt yf (entry m.a yf)) := by rw [← EMX.out]; exact MxR.more (by have := hb.size; omega) (MxR.below (gW.trans (hb.mono gws)) HMR.out)
          have HMRw := Lib.hid hmr
          have HOw := Lib.hid ((hHO.out).below hb).rd
          clear hmr
          go_wp2_with fail
          refine (l16Beside_any _ _ yt (inS y nt yt k).1 yf (inS y nt yt k).2 (entry m.a yf) _ HOw.out HMRw.out (by omega) (by have := HR.out; omega) (by omega)).mono ?_; rintro e w5 ⟨v5, rfl, hO5, hb5⟩
          rw [← E2.out] at hO5
          go_wp2
          exact hQ _ _ hb5 hO5
        · intro x w hb hk hiv hdj
          have h0 : x.v 0 = .agg #[.int .i64 (inM y nt yt k).r, .int .i64 (inM y nt yt k).c, .slice MA N mc] := hk 0 (by decide)
          have h1 : x.v 1 = .pointer (some ⟨w0.heap.size, 5, none⟩) := hk 1 (by decide)
          have h2 : x.v 2 = .slice (some ⟨bm, om, none⟩) y.m.length h := hk 2 (by decide)
          have h3 : x.v 3 = .int .i64 k := hk 3 (by decide)
          have h4 : x.v 4 = .pointer (some ⟨bm, om + k * 3, none⟩) := hk 4 (by decide)
          have h5 : x.v 5 = .agg #[.int .i64 m.r, .int .i64 m.c, .slice MB m.a.length mb] := hk 5 (by decide)
          have h6 : MxO w (x.lo 6) (x.hi 6) (x.v 6) (inM y nt yt (k + 1)) := hk 6 (by decide)
          clear hk
          simp only [netAct, dstAt, List.getElem?_toArray, List.getElem?_cons_zero, List.getElem?_cons_succ, Option.bind_some, Act.put, List.setIfInBounds_toArray, List.set_cons_zero, List.set_cons_succ]
          simp only [List.drop_succ_cons, List.drop_zero, h0, h1, h2, h3, h4, h5]
          clear h0 h1 h2 h3 h4 h5
          obtain ⟨l6, _, l6h⟩ := hiv 6 (by decide)
          obtain ⟨MA', mc', e6⟩ := h6.form
          rw [e6] at h6 ⊢
          obtain ⟨N', hN'⟩ : ∃ nn, (inM y nt yt (k + 1)).a.length = nn := ⟨_, rfl⟩
          rw [hN'] at h6 ⊢
          have k4w := k4.call hb
          have p0 := k4w.cell' (i := 0) rfl
          have p1 := k4w.cell' (i := 1) rfl
          have p2 := k4w.cell' (i := 2) rfl
          have fr := k4w.frozen
          have hbs := hb.size
          have K5 := Lib.hid (((k4w.set_ 0 (.int .i64 (inM y nt yt (k + 1)).r)).set_ 1 (.int .i64 (inM y nt yt (k + 1)).c)).set_ 2 (.slice MA' N' mc'))
          have O5 := Lib.hid ((((h6.setBlk (i := 0) k4w (by decide) (.int .i64 (inM y nt yt (k + 1)).r)).setBlk (i := 1) (k4w.set_ 0 _) (by decide) (.int .i64 (inM y nt yt (k + 1)).c)).setBlk (i := 2) ((k4w.set_ 0 _).set_ 1 _) (by decide) (.slice MA' N' mc')).wider (lo' := W.heap.size) (hi' := w.heap.size) (by omega) (by omega))
          have hc3 := chg3 w w3.heap.size (.int .i64 (inM y nt yt (k + 1)).r) (.int .i64 (inM y nt yt (k + 1)).c) (.slice MA' N' mc')
          have GW := Lib.hid ((gW.trans (hb.mono gws)).trans (hc3.below (B := W.heap.size) (by omega) (by omega)))
          clear hiv hdj e6 h6 hc3 k4w hb gW kBr k4 hN'
          go_wp2
          go_roundw
          case rel => exact ⟨k + 1, N', mc', MA', by omega, by go_num, GW.out, K5.out, O5.out.wider (Nat.le_refl _) (by simp)⟩
          case measure => simp [intOf]; omega
      · have hne : ((nt : Int) == n) = false := by rw [beq_eq_false_iff_ne]; omega
        have e1 := inS_no (C := D) EF.out (show (nt : Int) ≠ n by omega)
        have e2 : inM x n D (k + 1) = inM x n D k := by unfold inM; rw [e1]
        have E2 := Lib.hid e2
        have K4 := Lib.hid k4
        have HO := Lib.hid hO
        have GW := Lib.hid gW
        clear e1 e2 k4 hO gW kBr
        go_wp2
        go_roundw
        case rel => exact ⟨k + 1, N, mc, MA, by omega, by go_num, GW.out, by rw [E2.out]; exact K4.out, by rw [E2.out]; exact HO.out⟩
        case measure => simp [intOf]; omega
    · obtain rfl : k = x.q.f.length := by omega
      have HF' := HF.out
      have k2 := (KR.out).below gW (by have := SZ.out; omega)
      have z0 := k4.cell' (i := 0) rfl
      have z1 := k4.cell' (i := 1) rfl
      have z2 := k4.cell' (i := 2) rfl
      have p0 := k2.cell' (i := 0) rfl
      have p1 := k2.cell' (i := 1) rfl
      have p2 := k2.cell' (i := 2) rfl
      have f2 := k2.frozen
      have h2 := chg3 wr (w0.heap.size + 1) (.int .i64 (inM x n D x.q.f.length).r) (.int .i64 (inM x n D x.q.f.length).c) (.slice MA N mc)
      have gw : Below w0.heap.size w0 wr := (G0.out).trans (gW.mono (G0.out).size)
      have gs := gw.size
      have gws := gW.size
      have sz := SZ.out
      have oA2 := (hO.chg h2 (.inr (by omega))).wider (lo' := w0.heap.size) (hi' := wr.heap.size) (by omega) (Nat.le_refl _)
      have fg := gw.trans (h2.below (by omega) gs)
      have OA2 := Lib.hid oA2
      have FG := Lib.hid fg
      have HFF := Lib.hid HF'
      clear hO oA2 fg gw h2 k2 k4 gW sz gws HF'
      go_wp2
      exact bodyPost_ret (v := .tuple #[.agg #[.int .i64 (inM x n D x.q.f.length).r, .int .i64 (inM x n D x.q.f.length).c, .slice MA N mc], .bool true]) (by simp [results, go_sem, p0, p1, p2]) rfl ⟨_, by rw [(HFF.out : _)], by rw [(HFF.out : _)]; exact OA2.out.wider (Nat.le_refl _) (by simp), FG.out⟩
theorem specIncomingMatrix_any (u : Value) (x : Rp) (v : Int) (w0 : World) (hu : RpR w0 w0.heap.size u x) (hv : I64 v) :
    Calls Try.prog 96 #[u, .int .i64 v] w0 fun e w' => ∃ r, e = .returned (.tuple #[r, .bool (inP x v).2]) ∧ MxO w' w0.heap.size w'.heap.size r (inP x v).1 ∧ Below w0.heap.size w0 w' := by
  rcases h : inOk x v with _ | _
  · exact specIn_no u x v w0 hu h
  · exact specIn_yes u x v w0 hu h
theorem inP_size (x : Rp) (v : Int) : (inP x v).1.size ≤ 1000 := by
  rcases h : inOk x v with _ | _
  · simp [inP, h, mx0, Mx.size]
  · have h1 : isRep x = true := by simp only [inOk, Bool.and_eq_true] at h; exact h.1
    have h2 : endV x.q.f x.q v = true := by simp only [inOk, Bool.and_eq_true] at h; exact h.2
    obtain ⟨n, D, rfl, hn, dn, hD, hD4, hn5⟩ := vert_at h1 h2
    rw [inP_yes h hD]
    have h3 := inS_le (v := (n : Int)) (C := D) h1 _ (Nat.le_refl _)
    have h4 := (isQ_t.1 (areDims_t.1 (isRep_t.1 h1).2.1).1).2.2.1
    simp only [inM, mxF, Mx.size, flat_length]
    exact Nat.le_trans (Nat.mul_le_mul hD4 (show _ ≤ 24 by omega)) (by decide)
end Go.Proofs.Ytjhllgldllbaaaa

/- The reference's OutgoingMatrix. -/
namespace Go.Proofs.Ytjhllgldllbaaaa
set_option linter.unusedVariables false
set_option linter.unusedSimpArgs false
open Go.RowKit
set_option maxHeartbeats 6400000 in
set_option maxRecDepth 100000 in
theorem specOut_yes (u : Value) (x : Rp) (v : Int) (w0 : World) (hu : RpR w0 w0.heap.size u x) (hyes : outOk x v = true) :
    Calls Try.prog 101 #[u, .int .i64 v] w0 fun e w' => ∃ r, e = .returned (.tuple #[r, .bool (outP x v).2]) ∧ MxO w' w0.heap.size w'.heap.size r (outP x v).1 ∧ Below w0.heap.size w0 w' := by
  have hu' := hu
  obtain ⟨A, a, C, c, E, e, H, h, rfl, hq, hd, hm, hp, ld, lm⟩ := hu.open_
  clear hu
  obtain ⟨W, hW⟩ : ∃ W, W = (w0.alloc (.cells #[.int .i64 x.p, .int .i64 x.q.v, .slice A x.q.f.length a, .slice C x.q.t.length c, .slice E x.d.length e, .slice H x.m.length h] 29)).alloc (.cells #[.int .i64 0, .int .i64 0, .slice none 0 0] 75) := ⟨_, rfl⟩
  have g0 : Below w0.heap.size w0 W := by rw [hW]; exact ((Below.refl _ _).alloc (Nat.le_refl _) _).alloc (by simp) _
  have kB : Blk W w0.heap.size 29 #[.int .i64 x.p, .int .i64 x.q.v, .slice A x.q.f.length a, .slice C x.q.t.length c, .slice E x.d.length e, .slice H x.m.length h] := by rw [hW]; exact (Blk.new _ _ _).alloc _
  have kR : Blk W (w0.heap.size + 1) 75 #[.int .i64 0, .int .i64 0, .slice none 0 0] := by
    rw [hW]
    have := Blk.new (w0.alloc (.cells #[.int .i64 x.p, .int .i64 x.q.v, .slice A x.q.f.length a, .slice C x.q.t.length c, .slice E x.d.length e, .slice H x.m.length h] 29)) 75 #[.int .i64 0, .int .i64 0, .slice none 0 0]
    simpa only [World.size_alloc] using this
  have sz : W.heap.size = w0.heap.size + 1 + 1 := by rw [hW]; simp
  replace hq := QvR.next g0 hq
  replace hd := SlI.next g0 hd
  replace hm := SlM.next g0 hm
  have h1 : isRep x = true := by simp only [outOk, Bool.and_eq_true] at hyes; exact hyes.1
  have h2 : endV x.q.t x.q v = true := by simp only [outOk, Bool.and_eq_true] at hyes; exact hyes.2
  have hq1 : isQ x.q = true := (areDims_t.1 (isRep_t.1 h1).2.1).1
  obtain ⟨n, D, rfl, hn, dn, hD, hD4, hn5⟩ := vert_at h1 h2
  have HF := Lib.hid (outP_yes hyes hD)
  have DN := Lib.hid dn
  have H1 := Lib.hid h1
  have H2 := Lib.hid h2
  have HQ1 := Lib.hid hq1
  have SZ := Lib.hid sz
  have hl6 : x.q.f.length ≤ 6 := (isQ_t.1 hq1).2.2.1
  have HXR := Lib.hid (show RpR W W.heap.size (.agg #[.int .i64 x.p, .int .i64 x.q.v, .slice A x.q.f.length a, .slice C x.q.t.length c, .slice E x.d.length e, .slice H x.m.length h]) x from RpR.next g0 hu')
  have HQ := Lib.hid hq
  have HD := Lib.hid hd
  have HM := Lib.hid hm
  have KB := Lib.hid kB
  have KR := Lib.hid kR
  have G0 := Lib.hid g0
  clear h1 h2 hq1 sz hD hyes hu' hm
  have c0 := kB.cell' (i := 0) rfl
  have c1 := kB.cell' (i := 1) rfl
  have c2 := kB.cell' (i := 2) rfl
  have c3 := kB.cell' (i := 3) rfl
  have c4 := kB.cell' (i := 4) rfl
  have c5 := kB.cell' (i := 5) rfl
  go_enter Try.func101, Try.ntmps101
  go_wp2_with fail
  rw [← hW]; clear hW
  refine (specIsRep_any _ x _ HXR.out).mono ?_; rintro e w1 ⟨rfl, hb1⟩
  rw [H1.out]
  replace kB := kB.call hb1
  replace hq := QvR.next hb1 hq
  have gW := hb1
  clear c0 c1 c2 c3 c4 c5 hb1
  have c0 := kB.cell' (i := 0) rfl
  have c1 := kB.cell' (i := 1) rfl
  have c2 := kB.cell' (i := 2) rfl
  have c3 := kB.cell' (i := 3) rfl
  have c4 := kB.cell' (i := 4) rfl
  have c5 := kB.cell' (i := 5) rfl
  go_wp2_with fail
  refine (sourcesOf_any _ x.q _ hq HQ1.out).mono ?_; rintro e w2a ⟨sv, rfl, hsv, hb1⟩
  have H3 := Lib.hid (show decide ((n : Int) ∈ freeV x.q.t x.q.v.toNat) = true by rw [freeV_mem _ _ x.q _ (by have := (isQ_t.1 HQ1.out).1; omega)]; exact H2.out)
  replace kB := kB.call hb1
  replace gW := bthen gW hb1
  clear c0 c1 c2 c3 c4 c5 hb1
  have c0 := kB.cell' (i := 0) rfl
  have c1 := kB.cell' (i := 1) rfl
  have c2 := kB.cell' (i := 2) rfl
  have c3 := kB.cell' (i := 3) rfl
  have c4 := kB.cell' (i := 4) rfl
  have c5 := kB.cell' (i := 5) rfl
  go_wp2_with fail
  refine (l4Has_any _ _ n _ hsv).mono ?_; rintro e w2 ⟨rfl, hb1⟩
  rw [H3.out]
  clear hsv
  replace kB := kB.call hb1
  replace gW := bthen gW hb1
  clear c0 c1 c2 c3 c4 c5 hb1 hq
  have c0 := kB.cell' (i := 0) rfl
  have c1 := kB.cell' (i := 1) rfl
  have c2 := kB.cell' (i := 2) rfl
  have c3 := kB.cell' (i := 3) rfl
  have c4 := kB.cell' (i := 4) rfl
  have c5 := kB.cell' (i := 5) rfl
  have hd2 := SlI.more gW.size (SlI.below gW hd)
  obtain ⟨be, oe, xe, rfl, hbe, HXE, xc, _⟩ := SlI.at_ hd2 hn
  have ex := HXE.out
  rw [dn] at ex
  injection ex with ex
  subst ex
  clear hd hd2 HXE hbe
  go_wp2_with fail
  refine (l3Zero_any 0 (D : Int) _ (by omega) (by omega) (by omega) (by omega)).mono ?_; rintro e w3 ⟨v3, rfl, hZ, hb3⟩
  rw [outM_0 x n D] at hZ
  obtain ⟨MA, mc, e3⟩ := hZ.form
  subst e3
  have gW3 := bthen gW hb3
  have hs3 := hb3.size
  have hs2 := gW.size
  obtain ⟨N3, hN3⟩ : ∃ nn, (outM x n D 0).a.length = nn := ⟨_, rfl⟩
  rw [hN3] at hZ ⊢
  obtain ⟨W4, hW4⟩ : ∃ W4, W4 = w3.alloc (.cells #[.int .i64 (outM x n D 0).r, .int .i64 (outM x n D 0).c, .slice MA N3 mc] 75) := ⟨_, rfl⟩
  have b4 : Below w3.heap.size w3 W4 := by rw [hW4]; exact below_alloc _ _
  have k4 : Blk W4 w3.heap.size 75 #[.int .i64 (outM x n D 0).r, .int .i64 (outM x n D 0).c, .slice MA N3 mc] := by rw [hW4]; exact Blk.new _ _ _
  have l4 : w3.heap.size < W4.heap.size := k4.lt
  have kB4 := (kB.call hb3).call b4
  have gW4 := bthen gW3 b4
  have hO := (hZ.below b4).wider (lo' := W.heap.size) (hi' := W4.heap.size) (by omega) (by omega)
  clear c0 c1 c2 c3 c4 c5 xc hZ hb3 b4 gW gW3 kB hN3
  have c0 := kB4.cell' (i := 0) rfl
  have c1 := kB4.cell' (i := 1) rfl
  have c2 := kB4.cell' (i := 2) rfl
  have c3 := kB4.cell' (i := 3) rfl
  have c4 := kB4.cell' (i := 4) rfl
  have c5 := kB4.cell' (i := 5) rfl
  rw [hW4] at c0 c1 c2 c3 c4 c5
  go_wp2
  rw [← hW4]
  clear hW4 c0 c1 c2 c3 c4 c5 kB4
  go_loopw [7] (fun i wr => ∃ (k N mc : Nat) (MA : Option Addr), k ≤ x.q.f.length ∧ i = .int .i64 k ∧ Below W.heap.size W wr ∧ Blk wr w3.heap.size 75 #[.int .i64 (outM x n D k).r, .int .i64 (outM x n D k).c, .slice MA N mc] ∧ MxO wr W.heap.size wr.heap.size (.agg #[.int .i64 (outM x n D k).r, .int .i64 (outM x n D k).c, .slice MA N mc]) (outM x n D k)) (fun i _ => x.q.f.length - (intOf i).toNat)
  case atStart => exact ⟨0, _, _, _, Nat.zero_le _, rfl, gW4, k4, hO⟩
  case round =>
    clear k4 hO gW4
    obtain ⟨k, N, mc, MA, hk, rfl, gW, k4, hO⟩ := hrel
    have s6 := gW.size
    have hml : x.m.length ≤ x.q.f.length := by have := (isRep_t.1 H1.out).2.2.1; omega
    have kBr := (KB.out).below gW (KB.out).lt
    have c0 := kBr.cell' (i := 0) rfl
    have c1 := kBr.cell' (i := 1) rfl
    have c2 := kBr.cell' (i := 2) rfl
    have c3 := kBr.cell' (i := 3) rfl
    have c4 := kBr.cell' (i := 4) rfl
    have c5 := kBr.cell' (i := 5) rfl
    by_cases hlt : k < x.q.f.length
    · obtain ⟨m, nf, nt, yf, yt, em, ef, et, df, dt, eM, _, b1, b2, b3, b4, b5, b6, b7, b8⟩ := isRep_at H1.out hlt
      obtain ⟨hsf, hst⟩ := QvR.sl HQ.out
      obtain ⟨bf, of_, xf, rfl, hbf, HXF, f1, _⟩ := SlI.at_ hsf hlt
      have q1 := HXF.out
      rw [ef] at q1
      injection q1 with q1
      subst q1
      have f2 := bcell gW hbf f1
      have hm := HM.out
      obtain ⟨bm, om, m', MB, mb, rfl, hbm, HXM, x0, x1, x2, hsl, hr1, hr2, _⟩ := SlM.at_ hm b8
      have q2 := HXM.out
      rw [em] at q2
      injection q2 with q2
      subst q2
      have HMR : Hid (MxR W W.heap.size (.agg #[.int .i64 m.r, .int .i64 m.c, .slice MB m.a.length mb]) m) := ⟨_, rfl, hsl, hr1, hr2⟩
      have EF := Lib.hid ef
      have DF := Lib.hid df
      have EM := Lib.hid em
      have EMX := Lib.hid eM
      clear HXF HXM hsf hst hm hsl hr1 hr2 f1 em ef et df dt eM
      by_cases hv : nf = n
      · subst hv
        have hR := outS_le (v := (nf : Int)) (C := D) H1.out k hk
        have hyD : yf = D := by have := DN.out; rw [DF.out] at this; injection this with this; omega
        subst hyD
        have e1 := outS_yes (C := yf) EF.out EM.out (yt := yt) (by rw [EMX.out]; rfl)
        have e2 : outM x nf yf (k + 1) = mxF ((outS x nf yf k).1 + yt) yf (blF (outS x nf yf k).1 (outS x nf yf k).2 (entry m.a yf)) := by unfold outM; rw [e1]
        have E2 := Lib.hid e2
        have HR := Lib.hid hR
        have gws := gW.size
        have hHO := Lib.hid hO
        have x0' := bcell gW hbm x0
        have x1' := bcell gW hbm x1
        have x2' := bcell gW hbm x2
        have hbmw : bm < wr.heap.size := by omega
        clear e1 e2 hR x0 x1 x2 hO
        have hMr : (outM x nf yf k).r = ((outS x nf yf k).1 : Nat) := rfl
        have hMc : (outM x nf yf k).c = (yf : Int) := rfl
        rw [hMr, hMc] at k4 hHO
        obtain ⟨R0, hR0⟩ : ∃ R0, (outS x nf yf k).1 = R0 := ⟨_, rfl⟩
        rw [hR0] at k4 hHO
        have hR24 : R0 ≤ 24 := by have := HR.out; omega
        have hmr : m.r = (yt : Int) := by rw [EMX.out]; rfl
        rw [hmr] at x0'
        have HR0 := Lib.hid hR0
        have E3 := Lib.hid (show (outM x nf yf k).a ++ m.a = (outM x nf yf (k + 1)).a by
          rw [E2.out]
          have e5 : m.a = flat yt yf (entry m.a yf) := congrArg Mx.a EMX.out
          show flat _ _ _ ++ m.a = flat _ _ _
          rw [← flat_app, ← e5])
        have E4 : Hid ((outM x nf yf (k + 1)).r = (R0 : Int) + yt ∧ (outM x nf yf (k + 1)).c = (yf : Int)) := by
          show _ ∧ _
          rw [E2.out, ← hR0]
          exact ⟨by simp [mxF], rfl⟩
        have HLN : Hid ((outM x nf yf k).a.length + m.a.length ≤ 1000) := by
          show _ ≤ _
          rw [← List.length_append, E3.out, E2.out]
          simp only [mxF, flat_length]
          exact Nat.le_trans (Nat.mul_le_mul (show _ ≤ 100 by omega) (show _ ≤ 4 by omega)) (by decide)
        clear hMr hMc hR0 hmr
        go_wp2
        obtain ⟨y, hy⟩ : ∃ y, y = x := ⟨_, rfl⟩
        subst hy
        refine wp_region_netC (by kernel_rfl) [.eq (.pointer (some ⟨w3.heap.size, 0, none⟩)), .eq (.int .i64 R0), .eq (.pointer (some ⟨w0.heap.size, 5, none⟩)), .eq (.slice (some ⟨bm, om, none⟩) y.m.length h), .eq (.int .i64 k), .eq (.pointer (some ⟨bm, om + k * 3, none⟩)), .eq (.pointer (some ⟨bm, om + k * 3, none⟩)), .eq (.int .i64 yt), .eq (.int .i64 ((R0 : Int) + yt)), .eq (.pointer (some ⟨w3.heap.size, 1, none⟩)), .eq (.int .i64 yf), rel 11 (fun u lo hi w => Fresh w wr.heap.size u), .eq (.pointer (some ⟨w3.heap.size, 2, none⟩)), .eq (.slice MA N mc), rel 14 (fun u lo hi w => OwnI w wr.heap.size u (outM y nf yf k).a), .eq (.pointer (some ⟨w0.heap.size, 5, none⟩)), .eq (.slice (some ⟨bm, om, none⟩) y.m.length h), .eq (.int .i64 k), .eq (.pointer (some ⟨bm, om + k * 3, none⟩)), .eq (.pointer (some ⟨bm, om + k * 3 + 2, none⟩)), .eq (.slice MB m.a.length mb), rel 21 (fun u lo hi w => OwnI w wr.heap.size u ((outM y nf yf k).a ++ m.a)), rel 22 (fun u lo hi w => ∃ s, u = .agg #[.int .i64 (outM y nf yf (k + 1)).r, .int .i64 (outM y nf yf (k + 1)).c, s] ∧ OwnI w wr.heap.size s (outM y nf yf (k + 1)).a)] [[], [0], [], [2], [], [2, 3, 4], [2, 3, 4, 5], [2, 3, 4, 5, 6], [0, 1, 2, 3, 4, 5, 6, 7], [], [9], [], [], [12], [11, 12, 13], [], [15], [], [15, 16, 17], [15, 16, 17, 18], [15, 16, 17, 18, 19], [11, 12, 13, 14, 15, 16, 17, 18, 19, 20], [0, 1, 2, 3, 4, 5, 6, 7, 8, 9, 10, 11, 12, 13, 14, 15, 16, 17, 18, 19, 20, 21], [0, 1, 2, 3, 4, 5, 6, 7, 8, 9, 10, 11, 12, 13, 14, 15, 16, 17, 18, 19, 20, 21, 22]] [[], [0], [], [2], [], [2, 3, 4], [2, 3, 4, 5], [2, 3, 4, 5, 6], [0, 1, 2, 3, 4, 5, 6, 7], [], [9], [], [], [12], [11, 12, 13], [], [15], [], [15, 16, 17], [15, 16, 17, 18], [15, 16, 17, 18, 19], [11, 12, 13, 14, 15, 16, 17, 18, 19, 20], [0, 1, 2, 3, 4, 5, 6, 7, 8, 9, 10, 12, 13, 15, 16, 17, 18, 19, 20, 21]] [0, 1, 2, 3, 4, 5, 6, 7, 8, 9, 10, 12, 13, 15, 16, 17, 18, 19, 20, 21, 22] 23 21 (by kernel_rfl) (by kernel_rfl) ⟨.inr (.inr ⟨_, rfl⟩), .inr (.inr ⟨_, rfl⟩), .inr (.inr ⟨_, rfl⟩), .inr (.inr ⟨_, rfl⟩), .inr (.inr ⟨_, rfl⟩), .inr (.inr ⟨_, rfl⟩), .inr (.inr ⟨_, rfl⟩), .inr (.inr ⟨_, rfl⟩), .inr (.inr ⟨_, rfl⟩), .inr (.inr ⟨_, rfl⟩), .inr (.inr ⟨_, rfl⟩), .inr (.inr ⟨_, rfl⟩), .inr (.inr ⟨_, rfl⟩), .inr (.inr ⟨_, rfl⟩), .inr (.inr ⟨_, rfl⟩), .inr (.inr ⟨_, rfl⟩), .inr (.inr ⟨_, rfl⟩), .inr (.inr ⟨_, rfl⟩), .inr (.inr ⟨_, rfl⟩), .inl rfl, .inr (.inl rfl), trivial⟩ ⟨trivial, trivial, trivial, trivial, trivial, trivial, trivial, trivial, trivial, trivial, trivial, rel_stable (fun u lo hi w w' h hb => h.below hb), trivial, trivial, rel_stable (fun u lo hi w w' h hb => h.below hb), trivial, trivial, trivial, trivial, trivial, trivial, rel_stable (fun u lo hi w w' h hb => h.below hb), rel_stable (fun u lo hi w w' ⟨s, e, h⟩ hb => ⟨s, e, h.below hb⟩), trivial⟩ ⟨?_, ?_, ?_, ?_, ?_, ?_, ?_, ?_, ?_, ?_, ?_, ?_, ?_, ?_, ?_, ?_, ?_, ?_, ?_, ?_, ?_, ?_, ?_, trivial⟩ ?_
        · intro x w hb hk Q' hQ
          clear hk
          simp only [netAct, dstAt, List.getElem?_toArray, List.getElem?_cons_zero, List.getElem?_cons_succ, Option.bind_some, Act.put, List.setIfInBounds_toArray, List.set_cons_zero, List.set_cons_succ] at hQ ⊢
          go_wp2
          exact hQ (.pointer (some ⟨w3.heap.size, 0, none⟩)) _ (Below.refl _ _) rfl
        · intro x w hb hk Q' hQ
          have h0 : x.v 0 = .pointer (some ⟨w3.heap.size, 0, none⟩) := (hk 0 (by decide)).1
          clear hk
          simp only [netAct, dstAt, List.getElem?_toArray, List.getElem?_cons_zero, List.getElem?_cons_succ, Option.bind_some, Act.put, List.setIfInBounds_toArray, List.set_cons_zero, List.set_cons_succ] at hQ ⊢
          simp only [h0] at hQ ⊢
          clear h0
          have z0 := (k4.below hb k4.lt).cell' (i := 0) rfl
          go_wp2
          exact hQ (.int .i64 R0) _ (Below.refl _ _) rfl
        · intro x w hb hk Q' hQ
          clear hk
          simp only [netAct, dstAt, List.getElem?_toArray, List.getElem?_cons_zero, List.getElem?_cons_succ, Option.bind_some, Act.put, List.setIfInBounds_toArray, List.set_cons_zero, List.set_cons_succ] at hQ ⊢
          go_wp2
          exact hQ (.pointer (some ⟨w0.heap.size, 5, none⟩)) _ (Below.refl _ _) rfl
        · intro x w hb hk Q' hQ
          have h2 : x.v 2 = .pointer (some ⟨w0.heap.size, 5, none⟩) := (hk 2 (by decide)).1
          clear hk
          simp only [netAct, dstAt, List.getElem?_toArray, List.getElem?_cons_zero, List.getElem?_cons_succ, Option.bind_some, Act.put, List.setIfInBounds_toArray, List.set_cons_zero, List.set_cons_succ] at hQ ⊢
          simp only [h2] at hQ ⊢
          clear h2
          have z5 := (kBr.below hb kBr.lt).cell' (i := 5) rfl
          go_wp2
          exact hQ (.slice (some ⟨bm, om, none⟩) y.m.length h) _ (Below.refl _ _) rfl
        · intro x w hb hk Q' hQ
          clear hk
          simp only [netAct, dstAt, List.getElem?_toArray, List.getElem?_cons_zero, List.getElem?_cons_succ, Option.bind_some, Act.put, List.setIfInBounds_toArray, List.set_cons_zero, List.set_cons_succ] at hQ ⊢
          go_wp2
          exact hQ (.int .i64 k) _ (Below.refl _ _) rfl
        · intro x w hb hk Q' hQ
          have h3 : x.v 3 = .slice (some ⟨bm, om, none⟩) y.m.length h := (hk 3 (by decide)).1
          have h4 : x.v 4 = .int .i64 k := (hk 4 (by decide)).1
          clear hk
          simp only [netAct, dstAt, List.getElem?_toArray, List.getElem?_cons_zero, List.getElem?_cons_succ, Option.bind_some, Act.put, List.setIfInBounds_toArray, List.set_cons_zero, List.set_cons_succ] at hQ ⊢
          simp only [h3, h4] at hQ ⊢
          clear h3 h4
          go_wp2
          exact hQ (.pointer (some ⟨bm, om + k * 3, none⟩)) _ (Below.refl _ _) rfl
        · intro x w hb hk Q' hQ
          have h5 : x.v 5 = .pointer (some ⟨bm, om + k * 3, none⟩) := (hk 5 (by decide)).1
          clear hk
          simp only [netAct, dstAt, List.getElem?_toArray, List.getElem?_cons_zero, List.getElem?_cons_succ, Option.bind_some, Act.put, List.setIfInBounds_toArray, List.set_cons_zero, List.set_cons_succ] at hQ ⊢
          simp only [h5] at hQ ⊢
          clear h5
          go_wp2
          exact hQ (.pointer (some ⟨bm, om + k * 3, none⟩)) _ (Below.refl _ _) rfl
        · intro x w hb hk Q' hQ
          have h6 : x.v 6 = .pointer (some ⟨bm, om + k * 3, none⟩) := (hk 6 (by decide)).1
          clear hk
          simp only [netAct, dstAt, List.getElem?_toArray, List.getElem?_cons_zero, List.getElem?_cons_succ, Option.bind_some, Act.put, List.setIfInBounds_toArray, List.set_cons_zero, List.set_cons_succ] at hQ ⊢
          simp only [h6] at hQ ⊢
          clear h6
          have z0 := bcell hb hbmw x0'
          go_wp2
          exact hQ (.int .i64 yt) _ (Below.refl _ _) rfl
        · intro x w hb hk Q' hQ
          have h1 : x.v 1 = .int .i64 R0 := (hk 1 (by decide)).1
          have h7 : x.v 7 = .int .i64 yt := (hk 7 (by decide)).1
          clear hk
          simp only [netAct, dstAt, List.getElem?_toArray, List.getElem?_cons_zero, List.getElem?_cons_succ, Option.bind_some, Act.put, List.setIfInBounds_toArray, List.set_cons_zero, List.set_cons_succ] at hQ ⊢
          simp only [h1, h7] at hQ ⊢
          clear h1 h7
          go_wp2
          exact hQ (.int .i64 ((R0 : Int) + yt)) _ (Below.refl _ _) rfl
        · intro x w hb hk Q' hQ
          clear hk
          simp only [netAct, dstAt, List.getElem?_toArray, List.getElem?_cons_zero, List.getElem?_cons_succ, Option.bind_some, Act.put, List.setIfInBounds_toArray, List.set_cons_zero, List.set_cons_succ] at hQ ⊢
          go_wp2
          exact hQ (.pointer (some ⟨w3.heap.size, 1, none⟩)) _ (Below.refl _ _) rfl
        · intro x w hb hk Q' hQ
          have h9 : x.v 9 = .pointer (some ⟨w3.heap.size, 1, none⟩) := (hk 9 (by decide)).1
          clear hk
          simp only [netAct, dstAt, List.getElem?_toArray, List.getElem?_cons_zero, List.getElem?_cons_succ, Option.bind_some, Act.put, List.setIfInBounds_toArray, List.set_cons_zero, List.set_cons_succ] at hQ ⊢
          simp only [h9] at hQ ⊢
          clear h9
          have z0 := (k4.below hb k4.lt).cell' (i := 1) rfl
          go_wp2
          exact hQ (.int .i64 yf) _ (Below.refl _ _) rfl
        · intro x w hb hk Q' hQ
          clear hk
          simp only [netAct, dstAt, List.getElem?_toArray, List.getElem?_cons_zero, List.getElem?_cons_succ, Option.bind_some, Act.put, List.setIfInBounds_toArray, List.set_cons_zero, List.set_cons_succ] at hQ ⊢
          go_wp2
          exact hQ _ _ (below_alloc _ _) (Fresh.new _ hb.size)
        · intro x w hb hk Q' hQ
          clear hk
          simp only [netAct, dstAt, List.getElem?_toArray, List.getElem?_cons_zero, List.getElem?_cons_succ, Option.bind_some, Act.put, List.setIfInBounds_toArray, List.set_cons_zero, List.set_cons_succ] at hQ ⊢
          go_wp2
          exact hQ (.pointer (some ⟨w3.heap.size, 2, none⟩)) _ (Below.refl _ _) rfl
        · intro x w hb hk Q' hQ
          have h12 : x.v 12 = .pointer (some ⟨w3.heap.size, 2, none⟩) := (hk 12 (by decide)).1
          clear hk
          simp only [netAct, dstAt, List.getElem?_toArray, List.getElem?_cons_zero, List.getElem?_cons_succ, Option.bind_some, Act.put, List.setIfInBounds_toArray, List.set_cons_zero, List.set_cons_succ] at hQ ⊢
          simp only [h12] at hQ ⊢
          clear h12
          have z0 := (k4.below hb k4.lt).cell' (i := 2) rfl
          go_wp2
          exact hQ (.slice MA N mc) _ (Below.refl _ _) rfl
        · intro x w hb hk Q' hQ
          have h11 : Fresh w wr.heap.size (x.v 11) := (hk 11 (by decide)).1
          have h12 : x.v 12 = .pointer (some ⟨w3.heap.size, 2, none⟩) := (hk 12 (by decide)).1
          have h13 : x.v 13 = .slice MA N mc := (hk 13 (by decide)).1
          have s11 := (hk 11 (by decide)).2
          clear hk
          simp only [netAct, dstAt, List.getElem?_toArray, List.getElem?_cons_zero, List.getElem?_cons_succ, Option.bind_some, Act.put, List.setIfInBounds_toArray, List.set_cons_zero, List.set_cons_succ] at hQ ⊢
          simp only [h12, h13] at hQ ⊢
          clear h12 h13
          obtain ⟨g7, e7, hg7, hB7⟩ := h11
          obtain ⟨s0, e0, hs0, _⟩ := ((hHO.out).below hb).rd
          simp only [Value.agg.injEq, Array.mk.injEq, List.cons.injEq, and_true] at e0
          obtain ⟨_, _, rfl⟩ := e0
          obtain ⟨A1, c1, e1⟩ := hs0.app_len
          injection e1 with q1 q2 q3
          subst q1 q3
          rw [q2] at hs0
          rw [e7, q2] at hQ ⊢
          refine wpList_append_fresh (by rfl) (.tmp 52) (.tmp 54) (by rfl) g7 wr.heap.size w.heap.size #[] (by rfl) hB7 rfl hg7 _ _ (outM y nf yf k).a (by rfl) hs0 ?_
          intro v' w' ho hb'
          exact hQ _ _ hb' ho
        · intro x w hb hk Q' hQ
          clear hk
          simp only [netAct, dstAt, List.getElem?_toArray, List.getElem?_cons_zero, List.getElem?_cons_succ, Option.bind_some, Act.put, List.setIfInBounds_toArray, List.set_cons_zero, List.set_cons_succ] at hQ ⊢
          go_wp2
          exact hQ (.pointer (some ⟨w0.heap.size, 5, none⟩)) _ (Below.refl _ _) rfl
        · intro x w hb hk Q' hQ
          have h15 : x.v 15 = .pointer (some ⟨w0.heap.size, 5, none⟩) := (hk 15 (by decide)).1
          clear hk
          simp only [netAct, dstAt, List.getElem?_toArray, List.getElem?_cons_zero, List.getElem?_cons_succ, Option.bind_some, Act.put, List.setIfInBounds_toArray, List.set_cons_zero, List.set_cons_succ] at hQ ⊢
          simp only [h15] at hQ ⊢
          clear h15
          have z5 := (kBr.below hb kBr.lt).cell' (i := 5) rfl
          go_wp2
          exact hQ (.slice (some ⟨bm, om, none⟩) y.m.length h) _ (Below.refl _ _) rfl
        · intro x w hb hk Q' hQ
          clear hk
          simp only [netAct, dstAt, List.getElem?_toArray, List.getElem?_cons_zero, List.getElem?_cons_succ, Option.bind_some, Act.put, List.setIfInBounds_toArray, List.set_cons_zero, List.set_cons_succ] at hQ ⊢
          go_wp2
          exact hQ (.int .i64 k) _ (Below.refl _ _) rfl
        · intro x w hb hk Q' hQ
          have h16 : x.v 16 = .slice (some ⟨bm, om, none⟩) y.m.length h := (hk 16 (by decide)).1
          have h17 : x.v 17 = .int .i64 k := (hk 17 (by decide)).1
          clear hk
          simp only [netAct, dstAt, List.getElem?_toArray, List.getElem?_cons_zero, List.getElem?_cons_succ, Option.bind_some, Act.put, List.setIfInBounds_toArray, List.set_cons_zero, List.set_cons_succ] at hQ ⊢
          simp only [h16, h17] at hQ ⊢
          clear h16 h17
          go_wp2
          exact hQ (.pointer (some ⟨bm, om + k * 3, none⟩)) _ (Below.refl _ _) rfl
        · intro x w hb hk Q' hQ
          have h18 : x.v 18 = .pointer (some ⟨bm, om + k * 3, none⟩) := (hk 18 (by decide)).1
          clear hk
          simp only [netAct, dstAt, List.getElem?_toArray, List.getElem?_cons_zero, List.getElem?_cons_succ, Option.bind_some, Act.put, List.setIfInBounds_toArray, List.set_cons_zero, List.set_cons_succ] at hQ ⊢
          simp only [h18] at hQ ⊢
          clear h18
          go_wp2
          exact hQ (.pointer (some ⟨bm, om + k * 3 + 2, none⟩)) _ (Below.refl _ _) rfl
        · intro x w hb hk Q' hQ
          have h19 : x.v 19 = .pointer (some ⟨bm, om + k * 3 + 2, none⟩) := (hk 19 (by decide)).1
          clear hk
          simp only [netAct, dstAt, List.getElem?_toArray, List.getElem?_cons_zero, List.getElem?_cons_succ, Option.bind_some, Act.put, List.setIfInBounds_toArray, List.set_cons_zero, List.set_cons_succ] at hQ ⊢
          simp only [h19] at hQ ⊢
          clear h19
          have z2 := bcell hb hbmw x2'
          go_wp2
          exact hQ (.slice MB m.a.length mb) _ (Below.refl _ _) rfl
        · intro x w hb hk Q' hQ
          have h11 : Fresh w wr.heap.size (x.v 11) := (hk 11 (by decide)).1
          have h12 : x.v 12 = .pointer (some ⟨w3.heap.size, 2, none⟩) := (hk 12 (by decide)).1
          have h13 : x.v 13 = .slice MA N mc := (hk 13 (by decide)).1
          have h14 : OwnI w wr.heap.size (x.v 14) (outM y nf yf k).a := (hk 14 (by decide)).1
          have h15 : x.v 15 = .pointer (some ⟨w0.heap.size, 5, none⟩) := (hk 15 (by decide)).1
          have h16 : x.v 16 = .slice (some ⟨bm, om, none⟩) y.m.length h := (hk 16 (by decide)).1
          have h17 : x.v 17 = .int .i64 k := (hk 17 (by decide)).1
          have h18 : x.v 18 = .pointer (some ⟨bm, om + k * 3, none⟩) := (hk 18 (by decide)).1
          have h19 : x.v 19 = .pointer (some ⟨bm, om + k * 3 + 2, none⟩) := (hk 19 (by decide)).1
          have h20 : x.v 20 = .slice MB m.a.length mb := (hk 20 (by decide)).1
          have s11 := (hk 11 (by decide)).2
          have s14 := (hk 14 (by decide)).2
          clear hk
          simp only [netAct, dstAt, List.getElem?_toArray, List.getElem?_cons_zero, List.getElem?_cons_succ, Option.bind_some, Act.put, List.setIfInBounds_toArray, List.set_cons_zero, List.set_cons_succ] at hQ ⊢
          simp only [h12, h13, h15, h16, h17, h18, h19, h20] at hQ ⊢
          clear h12 h13 h15 h16 h17 h18 h19 h20
          obtain ⟨s0, e0, hs0, _⟩ := HMR.out
          simp only [Value.agg.injEq, Array.mk.injEq, List.cons.injEq, and_true, true_and] at e0
          subst e0
          have hs1 := SlI.more (show W.heap.size ≤ w.heap.size by have := hb.size; omega) (SlI.below (gW.trans (hb.mono gws)) hs0)
          have hlo := h14.lt
          refine wpList_appI (by rfl) (.tmp 55) (.tmp 61) (by rfl) wr.heap.size w.heap.size _ _ (by rfl) h14 MB _ mb m.a (by rfl) rfl hs1 (by have := HLN.out; omega) hb.size ?_
          intro v' w' h1 h2 h3
          exact hQ v' w' (below_grown h2 (fun k hk => (hlo k hk).1) hb.size) h1
        · intro x w hb hk Q' hQ
          have h0 : x.v 0 = .pointer (some ⟨w3.heap.size, 0, none⟩) := (hk 0 (by decide)).1
          have h1 : x.v 1 = .int .i64 R0 := (hk 1 (by decide)).1
          have h2 : x.v 2 = .pointer (some ⟨w0.heap.size, 5, none⟩) := (hk 2 (by decide)).1
          have h3 : x.v 3 = .slice (some ⟨bm, om, none⟩) y.m.length h := (hk 3 (by decide)).1
          have h4 : x.v 4 = .int .i64 k := (hk 4 (by decide)).1
          have h5 : x.v 5 = .pointer (some ⟨bm, om + k * 3, none⟩) := (hk 5 (by decide)).1
          have h6 : x.v 6 = .pointer (some ⟨bm, om + k * 3, none⟩) := (hk 6 (by decide)).1
          have h7 : x.v 7 = .int .i64 yt := (hk 7 (by decide)).1
          have h8 : x.v 8 = .int .i64 ((R0 : Int) + yt) := (hk 8 (by decide)).1
          have h9 : x.v 9 = .pointer (some ⟨w3.heap.size, 1, none⟩) := (hk 9 (by decide)).1
          have h10 : x.v 10 = .int .i64 yf := (hk 10 (by decide)).1
          have h12 : x.v 12 = .pointer (some ⟨w3.heap.size, 2, none⟩) := (hk 12 (by decide)).1
          have h13 : x.v 13 = .slice MA N mc := (hk 13 (by decide)).1
          have h15 : x.v 15 = .pointer (some ⟨w0.heap.size, 5, none⟩) := (hk 15 (by decide)).1
          have h16 : x.v 16 = .slice (some ⟨bm, om, none⟩) y.m.length h := (hk 16 (by decide)).1
          have h17 : x.v 17 = .int .i64 k := (hk 17 (by decide)).1
          have h18 : x.v 18 = .pointer (some ⟨bm, om + k * 3, none⟩) := (hk 18 (by decide)).1
          have h19 : x.v 19 = .pointer (some ⟨bm, om + k * 3 + 2, none⟩) := (hk 19 (by decide)).1
          have h20 : x.v 20 = .slice MB m.a.length mb := (hk 20 (by decide)).1
          have h21 : OwnI w wr.heap.size (x.v 21) ((outM y nf yf k).a ++ m.a) := (hk 21 (by decide)).1
          have s21 := (hk 21 (by decide)).2
          clear hk
          simp only [netAct, dstAt, List.getElem?_toArray, List.getElem?_cons_zero, List.getElem?_cons_succ, Option.bind_some, Act.put, List.setIfInBounds_toArray, List.set_cons_zero, List.set_cons_succ] at hQ ⊢
          simp only [h0, h1, h2, h3, h4, h5, h6, h7, h8, h9, h10, h12, h13, h15, h16, h17, h18, h19, h20] at hQ ⊢
          clear h0 h1 h2 h3 h4 h5 h6 h7 h8 h9 h10 h12 h13 h15 h16 h17 h18 h19 h20
          rw [E3.out] at h21
          have H21 := Lib.hid h21
          obtain ⟨A21, c21, e21, _, _⟩ := h21.form
          rw [e21] at H21 hQ ⊢
          clear h21 e21
          go_wp2
          have he : (Value.agg #[.int .i64 ((R0 : Int) + yt), .int .i64 yf, .slice A21 (outM y nf yf (k + 1)).a.length c21]) = .agg #[.int .i64 (outM y nf yf (k + 1)).r, .int .i64 (outM y nf yf (k + 1)).c, .slice A21 (outM y nf yf (k + 1)).a.length c21] := by rw [E4.out.1, E4.out.2]
          exact hQ _ w (Below.refl _ _) ⟨_, he, H21.out⟩
        · intro x w hb hk hiv hdj
          have h0 : x.v 0 = .pointer (some ⟨w3.heap.size, 0, none⟩) := hk 0 (by decide) (by decide)
          have h1 : x.v 1 = .int .i64 R0 := hk 1 (by decide) (by decide)
          have h2 : x.v 2 = .pointer (some ⟨w0.heap.size, 5, none⟩) := hk 2 (by decide) (by decide)
          have h3 : x.v 3 = .slice (some ⟨bm, om, none⟩) y.m.length h := hk 3 (by decide) (by decide)
          have h4 : x.v 4 = .int .i64 k := hk 4 (by decide) (by decide)
          have h5 : x.v 5 = .pointer (some ⟨bm, om + k * 3, none⟩) := hk 5 (by decide) (by decide)
          have h6 : x.v 6 = .pointer (some ⟨bm, om + k * 3, none⟩) := hk 6 (by decide) (by decide)
          have h7 : x.v 7 = .int .i64 yt := hk 7 (by decide) (by decide)
          have h8 : x.v 8 = .int .i64 ((R0 : Int) + yt) := hk 8 (by decide) (by decide)
          have h9 : x.v 9 = .pointer (some ⟨w3.heap.size, 1, none⟩) := hk 9 (by decide) (by decide)
          have h10 : x.v 10 = .int .i64 yf := hk 10 (by decide) (by decide)
          have h12 : x.v 12 = .pointer (some ⟨w3.heap.size, 2, none⟩) := hk 12 (by decide) (by decide)
          have h13 : x.v 13 = .slice MA N mc := hk 13 (by decide) (by decide)
          have h15 : x.v 15 = .pointer (some ⟨w0.heap.size, 5, none⟩) := hk 15 (by decide) (by decide)
          have h16 : x.v 16 = .slice (some ⟨bm, om, none⟩) y.m.length h := hk 16 (by decide) (by decide)
          have h17 : x.v 17 = .int .i64 k := hk 17 (by decide) (by decide)
          have h18 : x.v 18 = .pointer (some ⟨bm, om + k * 3, none⟩) := hk 18 (by decide) (by decide)
          have h19 : x.v 19 = .pointer (some ⟨bm, om + k * 3 + 2, none⟩) := hk 19 (by decide) (by decide)
          have h20 : x.v 20 = .slice MB m.a.length mb := hk 20 (by decide) (by decide)
          have h21 : OwnI w wr.heap.size (x.v 21) ((outM y nf yf k).a ++ m.a) := hk 21 (by decide) (by decide)
          have h22 : ∃ s, (x.v 22) = .agg #[.int .i64 (outM y nf yf (k + 1)).r, .int .i64 (outM y nf yf (k + 1)).c, s] ∧ OwnI w wr.heap.size s (outM y nf yf (k + 1)).a := hk 22 (by decide) (by decide)
          clear hk
          simp only [netAct, dstAt, List.getElem?_toArray, List.getElem?_cons_zero, List.getElem?_cons_succ, Option.bind_some, Act.put, List.setIfInBounds_toArray, List.set_cons_zero, List.set_cons_succ]
          simp only [List.drop_succ_cons, List.drop_zero, h0, h1, h2, h3, h4, h5, h6, h7, h8, h9, h10, h12, h13, h15, h16, h17, h18, h19, h20]
          clear h0 h1 h2 h3 h4 h5 h6 h7 h8 h9 h10 h12 h13 h15 h16 h17 h18 h19 h20
          obtain ⟨s22, e6, hs22⟩ := h22
          obtain ⟨MA', mc', es22, _, _⟩ := hs22.form
          subst es22
          have hI1 : I64 (outM y nf yf (k + 1)).r := by rw [E4.out.1]; simp only [I64]; omega
          have hI2 : I64 (outM y nf yf (k + 1)).c := by rw [E4.out.2]; simp only [I64]; omega
          have h6 : MxO w wr.heap.size w.heap.size (.agg #[.int .i64 (outM y nf yf (k + 1)).r, .int .i64 (outM y nf yf (k + 1)).c, .slice MA' (outM y nf yf (k + 1)).a.length mc']) (outM y nf yf (k + 1)) := ⟨_, rfl, IntsO.of_own hs22, hI1, hI2⟩
          rw [e6]
          clear hs22 hI1 hI2 h21
          obtain ⟨N', hN'⟩ : ∃ nn, (outM y nf yf (k + 1)).a.length = nn := ⟨_, rfl⟩
          rw [hN'] at h6 ⊢
          have k4w := k4.below hb k4.lt
          have p0 := k4w.cell' (i := 0) rfl
          have p1 := k4w.cell' (i := 1) rfl
          have p2 := k4w.cell' (i := 2) rfl
          have fr := k4w.frozen
          have hbs := hb.size
          have K5 := Lib.hid (((k4w.set_ 0 (.int .i64 (outM y nf yf (k + 1)).r)).set_ 1 (.int .i64 (outM y nf yf (k + 1)).c)).set_ 2 (.slice MA' N' mc'))
          have O5 := Lib.hid ((((h6.setBlk (i := 0) k4w (by decide) (.int .i64 (outM y nf yf (k + 1)).r)).setBlk (i := 1) (k4w.set_ 0 _) (by decide) (.int .i64 (outM y nf yf (k + 1)).c)).setBlk (i := 2) ((k4w.set_ 0 _).set_ 1 _) (by decide) (.slice MA' N' mc')).wider (lo' := W.heap.size) (hi' := w.heap.size) (by omega) (by omega))
          have hc3 := chg3 w w3.heap.size (.int .i64 (outM y nf yf (k + 1)).r) (.int .i64 (outM y nf yf (k + 1)).c) (.slice MA' N' mc')
          have GW := Lib.hid ((gW.trans (hb.mono gws)).trans (hc3.below (B := W.heap.size) (by omega) (by omega)))
          clear hiv hdj e6 h6 hc3 k4w hb gW kBr k4 hN'
          go_wp2
          go_roundw
          case rel => exact ⟨k + 1, N', mc', MA', by omega, by go_num, GW.out, K5.out, O5.out.wider (Nat.le_refl _) (by simp)⟩
          case measure => simp [intOf]; omega
      · have hne : ((nf : Int) == n) = false := by rw [beq_eq_false_iff_ne]; omega
        have e1 := outS_no (C := D) EF.out (show (nf : Int) ≠ n by omega)
        have e2 : outM x n D (k + 1) = outM x n D k := by unfold outM; rw [e1]
        have E2 := Lib.hid e2
        have K4 := Lib.hid k4
        have HO := Lib.hid hO
        have GW := Lib.hid gW
        clear e1 e2 k4 hO gW kBr
        go_wp2
        go_roundw
        case rel => exact ⟨k + 1, N, mc, MA, by omega, by go_num, GW.out, by rw [E2.out]; exact K4.out, by rw [E2.out]; exact HO.out⟩
        case measure => simp [intOf]; omega
    · obtain rfl : k = x.q.f.length := by omega
      have HF' := HF.out
      have k2 := (KR.out).below gW (by have := SZ.out; omega)
      have z0 := k4.cell' (i := 0) rfl
      have z1 := k4.cell' (i := 1) rfl
      have z2 := k4.cell' (i := 2) rfl
      have p0 := k2.cell' (i := 0) rfl
      have p1 := k2.cell' (i := 1) rfl
      have p2 := k2.cell' (i := 2) rfl
      have f2 := k2.frozen
      have h2 := chg3 wr (w0.heap.size + 1) (.int .i64 (outM x n D x.q.f.length).r) (.int .i64 (outM x n D x.q.f.length).c) (.slice MA N mc)
      have gw : Below w0.heap.size w0 wr := (G0.out).trans (gW.mono (G0.out).size)
      have gs := gw.size
      have gws := gW.size
      have sz := SZ.out
      have oA2 := (hO.chg h2 (.inr (by omega))).wider (lo' := w0.heap.size) (hi' := wr.heap.size) (by omega) (Nat.le_refl _)
      have fg := gw.trans (h2.below (by omega) gs)
      have OA2 := Lib.hid oA2
      have FG := Lib.hid fg
      have HFF := Lib.hid HF'
      clear hO oA2 fg gw h2 k2 k4 gW sz gws HF'
      go_wp2
      exact bodyPost_ret (v := .tuple #[.agg #[.int .i64 (outM x n D x.q.f.length).r, .int .i64 (outM x n D x.q.f.length).c, .slice MA N mc], .bool true]) (by simp [results, go_sem, p0, p1, p2]) rfl ⟨_, by rw [(HFF.out : _)], by rw [(HFF.out : _)]; exact OA2.out.wider (Nat.le_refl _) (by simp), FG.out⟩
theorem specOutgoingMatrix_any (u : Value) (x : Rp) (v : Int) (w0 : World) (hu : RpR w0 w0.heap.size u x) (hv : I64 v) :
    Calls Try.prog 101 #[u, .int .i64 v] w0 fun e w' => ∃ r, e = .returned (.tuple #[r, .bool (outP x v).2]) ∧ MxO w' w0.heap.size w'.heap.size r (outP x v).1 ∧ Below w0.heap.size w0 w' := by
  rcases h : outOk x v with _ | _
  · exact specOut_no u x v w0 hu h
  · exact specOut_yes u x v w0 hu h
theorem outP_size (x : Rp) (v : Int) : (outP x v).1.size ≤ 1000 := by
  rcases h : outOk x v with _ | _
  · simp [outP, h, mx0, Mx.size]
  · have h1 : isRep x = true := by simp only [outOk, Bool.and_eq_true] at h; exact h.1
    have h2 : endV x.q.t x.q v = true := by simp only [outOk, Bool.and_eq_true] at h; exact h.2
    obtain ⟨n, D, rfl, hn, dn, hD, hD4, hn5⟩ := vert_at h1 h2
    rw [outP_yes h hD]
    have h3 := outS_le (v := (n : Int)) (C := D) h1 _ (Nat.le_refl _)
    have h4 := (isQ_t.1 (areDims_t.1 (isRep_t.1 h1).2.1).1).2.2.1
    simp only [outM, mxF, Mx.size, flat_length]
    exact Nat.le_trans (Nat.mul_le_mul (show _ ≤ 24 by omega) hD4) (by decide)
end Go.Proofs.Ytjhllgldllbaaaa

/- HasSimpleAtSink, HasSimpleAtSource. -/
namespace Go.Proofs.Ytjhllgldllbaaaa
set_option linter.unusedVariables false
set_option linter.unusedSimpArgs false
open Go.RowKit

theorem inS_inF {x : Rp} {v : Int} {n C : Nat} (hx : isRep x = true) (hv : v = n) (hC : x.d[n]? = some (C : Int)) : ∀ k, k ≤ x.q.f.length → InF x.p C (inS x v C k).1 (inS x v C k).2
  | 0, _ => fun a b _ hb => by simp [inS] at hb
  | k + 1, hk => by
    have ih := inS_inF hx hv hC k (by omega)
    obtain ⟨m, nf, nt, yf, yt, em, ef, et, df, dt, eM, hr, b1, b2, _⟩ := isRep_at hx (show k < x.q.f.length by omega)
    by_cases h : (nt : Int) = v
    · have hnt : nt = n := by omega
      rw [hnt, hC] at dt
      injection dt with dt
      rw [h] at et
      rw [inS_yes et em (yf := yf) (by rw [eM]; rfl)]
      intro a b ha hb
      simp only [bsF] at hb ⊢
      split
      · exact ih a b ha (by assumption)
      · exact hr a _ (by omega) (by omega)
    · rw [inS_no et h]; exact ih
theorem outS_inF {x : Rp} {v : Int} {n C : Nat} (hx : isRep x = true) (hv : v = n) (hC : x.d[n]? = some (C : Int)) : ∀ k, k ≤ x.q.f.length → InF x.p (outS x v C k).1 C (outS x v C k).2
  | 0, _ => fun a b ha _ => by simp [outS] at ha
  | k + 1, hk => by
    have ih := outS_inF hx hv hC k (by omega)
    obtain ⟨m, nf, nt, yf, yt, em, ef, et, df, dt, eM, hr, b1, b2, _⟩ := isRep_at hx (show k < x.q.f.length by omega)
    by_cases h : (nf : Int) = v
    · have hnf : nf = n := by omega
      rw [hnf, hC] at df
      injection df with df
      rw [h] at ef
      rw [outS_yes ef em (yt := yt) (by rw [eM]; rfl)]
      obtain rfl : yf = C := by omega
      intro a b ha hb
      simp only [blF] at ha ⊢
      split
      · exact ih a b (by assumption) hb
      · exact hr _ b (by omega) (by omega)
    · rw [outS_no ef h]; exact ih

def hsIn (x : Rp) (v : Int) : Bool := inOk x v && decide ((rkF x.p (dAt x.d v).toNat (inS x v (dAt x.d v).toNat x.q.f.length).1 (inS x v (dAt x.d v).toNat x.q.f.length).2 : Int) < dAt x.d v)
def hsOut (x : Rp) (v : Int) : Bool := outOk x v && decide ((rkF x.p (outS x v (dAt x.d v).toNat x.q.f.length).1 (dAt x.d v).toNat (outS x v (dAt x.d v).toNat x.q.f.length).2 : Int) < dAt x.d v)

set_option maxHeartbeats 3200000 in
set_option maxRecDepth 100000 in
theorem implHasSimpleAtSink_any (u : Value) (x : Rp) (v : Int) (w0 : World) (hu : RpR w0 w0.heap.size u x) (hv : I64 v) :
    Calls Try.prog 44 #[u, .int .i64 v] w0 fun e w' => e = .returned (.bool (hsIn x v)) ∧ Below w0.heap.size w0 w' := by
  have hu' := hu
  obtain ⟨A, a, C, c, E, e, H, h, rfl, hq, hd, hm, hp, ld, lm⟩ := hu.open_
  clear hu hq hm lm
  obtain ⟨W, hW⟩ : ∃ W, W = w0.alloc (.cells #[.int .i64 x.p, .int .i64 x.q.v, .slice A x.q.f.length a, .slice C x.q.t.length c, .slice E x.d.length e, .slice H x.m.length h] 29) := ⟨_, rfl⟩
  have g0 : Below w0.heap.size w0 W := by rw [hW]; exact below_alloc _ _
  have kB : Blk W w0.heap.size 29 #[.int .i64 x.p, .int .i64 x.q.v, .slice A x.q.f.length a, .slice C x.q.t.length c, .slice E x.d.length e, .slice H x.m.length h] := by rw [hW]; exact Blk.new _ _ _
  have HXR := Lib.hid (RpR.next g0 hu')
  replace hd := SlI.next g0 hd
  have c0 := kB.cell' (i := 0) rfl
  have c1 := kB.cell' (i := 1) rfl
  have c2 := kB.cell' (i := 2) rfl
  have c3 := kB.cell' (i := 3) rfl
  have c4 := kB.cell' (i := 4) rfl
  have c5 := kB.cell' (i := 5) rfl
  rcases hok : inOk x v with _ | _
  · have HF := Lib.hid (show hsIn x v = false by simp [hsIn, hok])
    have hP : inP x v = (mx0, false) := by simp [inP, hok]
    have HPP := Lib.hid hP
    have HV := Lib.hid hv
    clear hok hP hv hd kB
    go_enter Try.func44, Try.ntmps44
    go_wp2_with fail
    rw [← hW]; clear hW
    refine (implIncomingMatrix_any _ x v _ HXR.out HV.out).mono ?_; rintro e w1 ⟨r1, rfl, hM, hb1⟩
    rw [HPP.out] at hM ⊢
    obtain ⟨MA, mc, em⟩ := hM.form
    subst em
    have g1 := bthen g0 hb1
    simp only [mx0]
    clear hM hb1 g0 c0 c1 c2 c3 c4 c5
    go_wp2
    (refine wp_region_inB (by kernel_rfl) (by kernel_rfl) ?_; (repeat (go_big_quiet_step (fail))); refine wpQuiet_nil ?_; intro w1 hw'; obtain ⟨s1, hw1⟩ := hw'; have hb1 := s1.below; rw [← hw1] at hb1; clear hw1 s1)
    go_wp2
    go_ret
    exact ⟨by rw [HF.out]; rfl, (g1.alloc g1.size _).trans (hb1.mono (by have := g1.size; simp; omega))⟩
  · have hx1 : isRep x = true := by simp only [inOk, Bool.and_eq_true] at hok; exact hok.1
    have hx2 : endV x.q.f x.q v = true := by simp only [inOk, Bool.and_eq_true] at hok; exact hok.2
    obtain ⟨n, D, hvn, hn, dn, hD, hD4, hn5⟩ := vert_at hx1 hx2
    have hin := inS_inF (C := D) hx1 hvn dn x.q.f.length (Nat.le_refl _)
    have hcl := inS_le (v := v) (C := D) hx1 x.q.f.length (Nat.le_refl _)
    have hlf : x.q.f.length ≤ 6 := (isQ_t.1 (areDims_t.1 (isRep_t.1 hx1).2.1).1).2.2.1
    have hfld := (isRep_t.1 hx1).1
    have hPY := inP_yes hok hD
    have hF : hsIn x v = decide ((rkF x.p (D) ((inS x v D x.q.f.length).1) ((inS x v D x.q.f.length).2) : Int) < (D : Int)) := by simp only [hsIn, hok, Bool.true_and, hD, Int.toNat_natCast]
    obtain ⟨rk, hrk⟩ : ∃ z, rkF x.p (D) ((inS x v D x.q.f.length).1) ((inS x v D x.q.f.length).2) = z := ⟨_, rfl⟩
    rw [hrk] at hF
    obtain ⟨Mm, hMm⟩ : ∃ Mm, inM x v D x.q.f.length = Mm := ⟨_, rfl⟩
    have hMm2 : Mm = mxF (D) ((inS x v D x.q.f.length).1) ((inS x v D x.q.f.length).2) := hMm.symm
    rw [hMm] at hPY
    obtain ⟨R0, hR0⟩ : ∃ z, (D) = z := ⟨_, rfl⟩
    obtain ⟨C0, hC0⟩ : ∃ z, ((inS x v D x.q.f.length).1) = z := ⟨_, rfl⟩
    obtain ⟨F0, hF0⟩ : ∃ z, ((inS x v D x.q.f.length).2) = z := ⟨_, rfl⟩
    rw [hF0] at hrk hMm2
    first | rw [hC0, hR0] at hrk hMm2 | rw [hR0, hC0] at hrk hMm2
    have hin2 : InF x.p R0 C0 F0 := by rw [← hR0, ← hC0, ← hF0]; exact hin
    have hR1 : R0 ≤ 1000 := by rw [← hR0]; omega
    have hC1 : C0 ≤ 1000 := by rw [← hC0]; omega
    have hrb := rkF_le x.p R0 C0 F0
    rw [hrk] at hrb
    subst hvn
    have HF := Lib.hid hF
    have hF2 : hsIn x n = decide (rk < D) := hF.trans (decide_eq_decide.2 (by omega))
    have HF2 := Lib.hid hF2
    clear hF2
    have HRK := Lib.hid hrk
    have HIN := Lib.hid hin2
    have HFL := Lib.hid hfld
    have HPY := Lib.hid hPY
    have HMM := Lib.hid hMm2
    have HV := Lib.hid hv
    obtain ⟨be, oe, xe, eE, hbe, HXE, xc, _⟩ := SlI.at_ hd hn
    subst eE
    have ex := HXE.out
    rw [dn] at ex
    injection ex with ex
    subst ex
    clear hF hrk hin hin2 hPY hMm hMm2 hR0 hC0 hF0 hok hx1 hx2 dn hD hv hcl hfld HXE hd
    go_enter Try.func44, Try.ntmps44
    go_wp2_with fail
    rw [← hW]; clear hW
    refine (implIncomingMatrix_any _ x n _ HXR.out HV.out).mono ?_; rintro e w1 ⟨r1, rfl, hM, hb1⟩
    rw [HPY.out] at hM ⊢
    simp only at hM ⊢
    rw [HMM.out] at hM
    obtain ⟨MA, mc, em⟩ := hM.form
    subst em
    simp only [mxF, flat_length] at hM ⊢
    obtain ⟨ML, hML⟩ : ∃ z, R0 * C0 = z := ⟨_, rfl⟩
    rw [hML] at hM ⊢
    clear hML
    have kB1 := kB.call hb1
    have g1 := bthen g0 hb1
    have xc1 := bcell hb1 hbe xc
    have s1 := hb1.size
    have HM1 := Lib.hid hM.rd
    clear hM hb1 g0 kB xc c0 c1 c2 c3 c4 c5
    obtain ⟨X, hX⟩ : ∃ X, X = w1.alloc (.cells #[.int .i64 R0, .int .i64 C0, .slice MA ML mc] 75) := ⟨_, rfl⟩
    have bX : Below w1.heap.size w1 X := by rw [hX]; exact below_alloc _ _
    have kX : Blk X w1.heap.size 75 #[.int .i64 R0, .int .i64 C0, .slice MA ML mc] := by rw [hX]; exact Blk.new _ _ _
    have kBX := kB1.call bX
    have gX := bthen g1 bX
    have xcX := bcell bX (by omega) xc1
    have sX := bX.size
    have HMX := Lib.hid (MxR.next bX HM1.out)
    clear kB1 g1 xc1 bX
    have hw0 := kBX.lt
    have c0 := fun s : InB X => (kBX.call s.below).cell' (i := 0) rfl
    have c4 := fun s : InB X => (kBX.call s.below).cell' (i := 4) rfl
    have d0 := fun s : InB X => (kX.call s.below).cell' (i := 0) rfl
    have d1 := fun s : InB X => (kX.call s.below).cell' (i := 1) rfl
    have d2 := fun s : InB X => (kX.call s.below).cell' (i := 2) rfl
    have z5 := InB.cell (w := X) (by omega) xcX
    have HC : Hid (∀ s : InB X, MxR s.val s.val.heap.size (.agg #[.int .i64 R0, .int .i64 C0, .slice MA ML mc]) (mxF R0 C0 F0)) := fun s => MxR.next s.below HMX.out
    have HCR : Hid (∀ s : InB X, Calls Try.prog 100 #[.int .i64 x.p, .agg #[.int .i64 R0, .int .i64 C0, .slice MA ML mc]] s.val fun e w' => e = .returned (.int .i64 (rk : Int)) ∧ Below s.val.heap.size s.val w') := fun s => by
      have h := implRank_any x.p _ R0 C0 F0 s.val HFL.out hR1 hC1 (HC.out s) HIN.out
      rw [HRK.out] at h
      exact h
    have hnn : (0 : Int) ≤ (n : Int) := by omega
    have hnl : (n : Int) < x.d.length := by omega
    go_wp2
    rw [← hX]; clear hX
    (refine wp_region_inB (by kernel_rfl) (by kernel_rfl) ?_; (repeat (go_big_quiet_step ((go_at_call 100; exact InB.call (HCR.out _))))); refine wpQuiet_nil ?_; intro w1 hw'; obtain ⟨s1, hw1⟩ := hw'; have hb1 := s1.below; rw [← hw1] at hb1; clear hw1 s1)
    go_wp2
    go_ret
    exact ⟨by rw [HF2.out]; rfl, gX.trans (hb1.mono gX.size)⟩
set_option maxHeartbeats 3200000 in
set_option maxRecDepth 100000 in
theorem specHasSimpleAtSink_any (u : Value) (x : Rp) (v : Int) (w0 : World) (hu : RpR w0 w0.heap.size u x) (hv : I64 v) :
    Calls Try.prog 42 #[u, .int .i64 v] w0 fun e w' => e = .returned (.bool (hsIn x v)) ∧ Below w0.heap.size w0 w' := by
  have hu' := hu
  obtain ⟨A, a, C, c, E, e, H, h, rfl, hq, hd, hm, hp, ld, lm⟩ := hu.open_
  clear hu hq hm lm
  obtain ⟨W, hW⟩ : ∃ W, W = w0.alloc (.cells #[.int .i64 x.p, .int .i64 x.q.v, .slice A x.q.f.length a, .slice C x.q.t.length c, .slice E x.d.length e, .slice H x.m.length h] 29) := ⟨_, rfl⟩
  have g0 : Below w0.heap.size w0 W := by rw [hW]; exact below_alloc _ _
  have kB : Blk W w0.heap.size 29 #[.int .i64 x.p, .int .i64 x.q.v, .slice A x.q.f.length a, .slice C x.q.t.length c, .slice E x.d.length e, .slice H x.m.length h] := by rw [hW]; exact Blk.new _ _ _
  have HXR := Lib.hid (RpR.next g0 hu')
  replace hd := SlI.next g0 hd
  have c0 := kB.cell' (i := 0) rfl
  have c1 := kB.cell' (i := 1) rfl
  have c2 := kB.cell' (i := 2) rfl
  have c3 := kB.cell' (i := 3) rfl
  have c4 := kB.cell' (i := 4) rfl
  have c5 := kB.cell' (i := 5) rfl
  rcases hok : inOk x v with _ | _
  · have HF := Lib.hid (show hsIn x v = false by simp [hsIn, hok])
    have hP : inP x v = (mx0, false) := by simp [inP, hok]
    have HPP := Lib.hid hP
    have HV := Lib.hid hv
    clear hok hP hv hd kB
    go_enter Try.func42, Try.ntmps42
    go_wp2_with fail
    rw [← hW]; clear hW
    refine (specIncomingMatrix_any _ x v _ HXR.out HV.out).mono ?_; rintro e w1 ⟨r1, rfl, hM, hb1⟩
    rw [HPP.out] at hM ⊢
    obtain ⟨MA, mc, em⟩ := hM.form
    subst em
    have g1 := bthen g0 hb1
    simp only [mx0]
    clear hM hb1 g0 c0 c1 c2 c3 c4 c5
    go_wp2
    go_ret
    exact ⟨by rw [HF.out]; rfl, g1.alloc g1.size _⟩
  · have hx1 : isRep x = true := by simp only [inOk, Bool.and_eq_true] at hok; exact hok.1
    have hx2 : endV x.q.f x.q v = true := by simp only [inOk, Bool.and_eq_true] at hok; exact hok.2
    obtain ⟨n, D, hvn, hn, dn, hD, hD4, hn5⟩ := vert_at hx1 hx2
    have hin := inS_inF (C := D) hx1 hvn dn x.q.f.length (Nat.le_refl _)
    have hcl := inS_le (v := v) (C := D) hx1 x.q.f.length (Nat.le_refl _)
    have hlf : x.q.f.length ≤ 6 := (isQ_t.1 (areDims_t.1 (isRep_t.1 hx1).2.1).1).2.2.1
    have hfld := (isRep_t.1 hx1).1
    have hPY := inP_yes hok hD
    have hF : hsIn x v = decide ((rkF x.p (D) ((inS x v D x.q.f.length).1) ((inS x v D x.q.f.length).2) : Int) < (D : Int)) := by simp only [hsIn, hok, Bool.true_and, hD, Int.toNat_natCast]
    obtain ⟨rk, hrk⟩ : ∃ z, rkF x.p (D) ((inS x v D x.q.f.length).1) ((inS x v D x.q.f.length).2) = z := ⟨_, rfl⟩
    rw [hrk] at hF
    obtain ⟨Mm, hMm⟩ : ∃ Mm, inM x v D x.q.f.length = Mm := ⟨_, rfl⟩
    have hMm2 : Mm = mxF (D) ((inS x v D x.q.f.length).1) ((inS x v D x.q.f.length).2) := hMm.symm
    rw [hMm] at hPY
    obtain ⟨R0, hR0⟩ : ∃ z, (D) = z := ⟨_, rfl⟩
    obtain ⟨C0, hC0⟩ : ∃ z, ((inS x v D x.q.f.length).1) = z := ⟨_, rfl⟩
    obtain ⟨F0, hF0⟩ : ∃ z, ((inS x v D x.q.f.length).2) = z := ⟨_, rfl⟩
    rw [hF0] at hrk hMm2
    first | rw [hC0, hR0] at hrk hMm2 | rw [hR0, hC0] at hrk hMm2
    have hin2 : InF x.p R0 C0 F0 := by rw [← hR0, ← hC0, ← hF0]; exact hin
    have hR1 : R0 ≤ 1000 := by rw [← hR0]; omega
    have hC1 : C0 ≤ 1000 := by rw [← hC0]; omega
    have hrb := rkF_le x.p R0 C0 F0
    rw [hrk] at hrb
    subst hvn
    have HF := Lib.hid hF
    have hF2 : hsIn x n = decide (rk < D) := hF.trans (decide_eq_decide.2 (by omega))
    have HF2 := Lib.hid hF2
    clear hF2
    have HRK := Lib.hid hrk
    have HIN := Lib.hid hin2
    have HFL := Lib.hid hfld
    have HPY := Lib.hid hPY
    have HMM := Lib.hid hMm2
    have HV := Lib.hid hv
    obtain ⟨be, oe, xe, eE, hbe, HXE, xc, _⟩ := SlI.at_ hd hn
    subst eE
    have ex := HXE.out
    rw [dn] at ex
    injection ex with ex
    subst ex
    clear hF hrk hin hin2 hPY hMm hMm2 hR0 hC0 hF0 hok hx1 hx2 dn hD hv hcl hfld HXE hd
    go_enter Try.func42, Try.ntmps42
    go_wp2_with fail
    rw [← hW]; clear hW
    refine (specIncomingMatrix_any _ x n _ HXR.out HV.out).mono ?_; rintro e w1 ⟨r1, rfl, hM, hb1⟩
    rw [HPY.out] at hM ⊢
    simp only at hM ⊢
    rw [HMM.out] at hM
    obtain ⟨MA, mc, em⟩ := hM.form
    subst em
    simp only [mxF, flat_length] at hM ⊢
    obtain ⟨ML, hML⟩ : ∃ z, R0 * C0 = z := ⟨_, rfl⟩
    rw [hML] at hM ⊢
    clear hML
    have kB1 := kB.call hb1
    have g1 := bthen g0 hb1
    have xc1 := bcell hb1 hbe xc
    have s1 := hb1.size
    have HM1 := Lib.hid hM.rd
    clear hM hb1 g0 kB xc c0 c1 c2 c3 c4 c5
    obtain ⟨X, hX⟩ : ∃ X, X = w1.alloc (.cells #[.int .i64 R0, .int .i64 C0, .slice MA ML mc] 75) := ⟨_, rfl⟩
    have bX : Below w1.heap.size w1 X := by rw [hX]; exact below_alloc _ _
    have kX : Blk X w1.heap.size 75 #[.int .i64 R0, .int .i64 C0, .slice MA ML mc] := by rw [hX]; exact Blk.new _ _ _
    have kBX := kB1.call bX
    have gX := bthen g1 bX
    have xcX := bcell bX (by omega) xc1
    have sX := bX.size
    have HMX := Lib.hid (MxR.next bX HM1.out)
    clear kB1 g1 xc1 bX
    have hw0 := kBX.lt
    have c0 := kBX.cell' (i := 0) rfl
    have c1 := kBX.cell' (i := 1) rfl
    have c2 := kBX.cell' (i := 2) rfl
    have c3 := kBX.cell' (i := 3) rfl
    have c4 := kBX.cell' (i := 4) rfl
    have c5 := kBX.cell' (i := 5) rfl
    have d0 := kX.cell' (i := 0) rfl
    have d1 := kX.cell' (i := 1) rfl
    have d2 := kX.cell' (i := 2) rfl
    rw [hX] at c0 c1 c2 c3 c4 c5 d0 d1 d2
    go_wp2_with fail
    rw [← hX]; clear hX
    refine (l4Reduce_any x.p _ R0 C0 F0 _ HFL.out hR1 hC1 HMX.out HIN.out).mono ?_; rintro e w2 ⟨m2, v2, rfl, hM2, hI2, hb2⟩
    obtain ⟨NA, nc, em⟩ := hM2.form
    obtain ⟨PA, pc, ev⟩ := hI2.form
    subst em ev
    have hrk := HRK.out
    unfold rkF at hrk
    rw [hrk]
    have g2 := bthen gX hb2
    have kB2 := kBX.call hb2
    have z4 := kB2.cell' (i := 4) rfl
    have z5 := bcell hb2 (by omega) xcX
    simp only [mxF]
    clear c0 c1 c2 c3 c4 c5 d0 d1 d2 hM2 hI2 hrk
    obtain ⟨Y, hY⟩ : ∃ Y, Y = w2.alloc (.cells #[.int .i64 R0, .int .i64 C0, .slice NA (flat R0 C0 (rdTo x.p R0 F0 C0).1).length nc] 75) := ⟨_, rfl⟩
    have bY : Below w2.heap.size w2 Y := by rw [hY]; exact below_alloc _ _
    have s2 := hb2.size
    have y4 := bcell bY (by omega) z4
    have y5 := bcell bY (by omega) z5
    rw [hY] at y4 y5
    clear z4 z5
    go_wp2
    go_ret
    exact ⟨by first | (rw [HF.out]; rfl) | (rw [HF2.out]; rfl), g2.trans ((below_alloc _ _).mono g2.size)⟩
set_option maxHeartbeats 3200000 in
set_option maxRecDepth 100000 in
theorem specHasSimpleAtSource_any (u : Value) (x : Rp) (v : Int) (w0 : World) (hu : RpR w0 w0.heap.size u x) (hv : I64 v) :
    Calls Try.prog 45 #[u, .int .i64 v] w0 fun e w' => e = .returned (.bool (hsOut x v)) ∧ Below w0.heap.size w0 w' := by
  have hu' := hu
  obtain ⟨A, a, C, c, E, e, H, h, rfl, hq, hd, hm, hp, ld, lm⟩ := hu.open_
  clear hu hq hm lm
  obtain ⟨W, hW⟩ : ∃ W, W = w0.alloc (.cells #[.int .i64 x.p, .int .i64 x.q.v, .slice A x.q.f.length a, .slice C x.q.t.length c, .slice E x.d.length e, .slice H x.m.length h] 29) := ⟨_, rfl⟩
  have g0 : Below w0.heap.size w0 W := by rw [hW]; exact below_alloc _ _
  have kB : Blk W w0.heap.size 29 #[.int .i64 x.p, .int .i64 x.q.v, .slice A x.q.f.length a, .slice C x.q.t.length c, .slice E x.d.length e, .slice H x.m.length h] := by rw [hW]; exact Blk.new _ _ _
  have HXR := Lib.hid (RpR.next g0 hu')
  replace hd := SlI.next g0 hd
  have c0 := kB.cell' (i := 0) rfl
  have c1 := kB.cell' (i := 1) rfl
  have c2 := kB.cell' (i := 2) rfl
  have c3 := kB.cell' (i := 3) rfl
  have c4 := kB.cell' (i := 4) rfl
  have c5 := kB.cell' (i := 5) rfl
  rcases hok : outOk x v with _ | _
  · have HF := Lib.hid (show hsOut x v = false by simp [hsOut, hok])
    have hP : outP x v = (mx0, false) := by simp [outP, hok]
    have HPP := Lib.hid hP
    have HV := Lib.hid hv
    clear hok hP hv hd kB
    go_enter Try.func45, Try.ntmps45
    go_wp2_with fail
    rw [← hW]; clear hW
    refine (specOutgoingMatrix_any _ x v _ HXR.out HV.out).mono ?_; rintro e w1 ⟨r1, rfl, hM, hb1⟩
    rw [HPP.out] at hM ⊢
    obtain ⟨MA, mc, em⟩ := hM.form
    subst em
    have g1 := bthen g0 hb1
    simp only [mx0]
    clear hM hb1 g0 c0 c1 c2 c3 c4 c5
    go_wp2
    go_ret
    exact ⟨by rw [HF.out]; rfl, g1.alloc g1.size _⟩
  · have hx1 : isRep x = true := by simp only [outOk, Bool.and_eq_true] at hok; exact hok.1
    have hx2 : endV x.q.t x.q v = true := by simp only [outOk, Bool.and_eq_true] at hok; exact hok.2
    obtain ⟨n, D, hvn, hn, dn, hD, hD4, hn5⟩ := vert_at hx1 hx2
    have hin := outS_inF (C := D) hx1 hvn dn x.q.f.length (Nat.le_refl _)
    have hcl := outS_le (v := v) (C := D) hx1 x.q.f.length (Nat.le_refl _)
    have hlf : x.q.f.length ≤ 6 := (isQ_t.1 (areDims_t.1 (isRep_t.1 hx1).2.1).1).2.2.1
    have hfld := (isRep_t.1 hx1).1
    have hPY := outP_yes hok hD
    have hF : hsOut x v = decide ((rkF x.p ((outS x v D x.q.f.length).1) (D) ((outS x v D x.q.f.length).2) : Int) < (D : Int)) := by simp only [hsOut, hok, Bool.true_and, hD, Int.toNat_natCast]
    obtain ⟨rk, hrk⟩ : ∃ z, rkF x.p ((outS x v D x.q.f.length).1) (D) ((outS x v D x.q.f.length).2) = z := ⟨_, rfl⟩
    rw [hrk] at hF
    obtain ⟨Mm, hMm⟩ : ∃ Mm, outM x v D x.q.f.length = Mm := ⟨_, rfl⟩
    have hMm2 : Mm = mxF ((outS x v D x.q.f.length).1) (D) ((outS x v D x.q.f.length).2) := hMm.symm
    rw [hMm] at hPY
    obtain ⟨R0, hR0⟩ : ∃ z, ((outS x v D x.q.f.length).1) = z := ⟨_, rfl⟩
    obtain ⟨C0, hC0⟩ : ∃ z, (D) = z := ⟨_, rfl⟩
    obtain ⟨F0, hF0⟩ : ∃ z, ((outS x v D x.q.f.length).2) = z := ⟨_, rfl⟩
    rw [hF0] at hrk hMm2
    first | rw [hC0, hR0] at hrk hMm2 | rw [hR0, hC0] at hrk hMm2
    have hin2 : InF x.p R0 C0 F0 := by rw [← hR0, ← hC0, ← hF0]; exact hin
    have hR1 : R0 ≤ 1000 := by rw [← hR0]; omega
    have hC1 : C0 ≤ 1000 := by rw [← hC0]; omega
    have hrb := rkF_le x.p R0 C0 F0
    rw [hrk] at hrb
    subst hvn
    have HF := Lib.hid hF
    have hF2 : hsOut x n = decide (rk < D) := hF.trans (decide_eq_decide.2 (by omega))
    have HF2 := Lib.hid hF2
    clear hF2
    have HRK := Lib.hid hrk
    have HIN := Lib.hid hin2
    have HFL := Lib.hid hfld
    have HPY := Lib.hid hPY
    have HMM := Lib.hid hMm2
    have HV := Lib.hid hv
    obtain ⟨be, oe, xe, eE, hbe, HXE, xc, _⟩ := SlI.at_ hd hn
    subst eE
    have ex := HXE.out
    rw [dn] at ex
    injection ex with ex
    subst ex
    clear hF hrk hin hin2 hPY hMm hMm2 hR0 hC0 hF0 hok hx1 hx2 dn hD hv hcl hfld HXE hd
    go_enter Try.func45, Try.ntmps45
    go_wp2_with fail
    rw [← hW]; clear hW
    refine (specOutgoingMatrix_any _ x n _ HXR.out HV.out).mono ?_; rintro e w1 ⟨r1, rfl, hM, hb1⟩
    rw [HPY.out] at hM ⊢
    simp only at hM ⊢
    rw [HMM.out] at hM
    obtain ⟨MA, mc, em⟩ := hM.form
    subst em
    simp only [mxF, flat_length] at hM ⊢
    obtain ⟨ML, hML⟩ : ∃ z, R0 * C0 = z := ⟨_, rfl⟩
    rw [hML] at hM ⊢
    clear hML
    have kB1 := kB.call hb1
    have g1 := bthen g0 hb1
    have xc1 := bcell hb1 hbe xc
    have s1 := hb1.size
    have HM1 := Lib.hid hM.rd
    clear hM hb1 g0 kB xc c0 c1 c2 c3 c4 c5
    obtain ⟨X, hX⟩ : ∃ X, X = w1.alloc (.cells #[.int .i64 R0, .int .i64 C0, .slice MA ML mc] 75) := ⟨_, rfl⟩
    have bX : Below w1.heap.size w1 X := by rw [hX]; exact below_alloc _ _
    have kX : Blk X w1.heap.size 75 #[.int .i64 R0, .int .i64 C0, .slice MA ML mc] := by rw [hX]; exact Blk.new _ _ _
    have kBX := kB1.call bX
    have gX := bthen g1 bX
    have xcX := bcell bX (by omega) xc1
    have sX := bX.size
    have HMX := Lib.hid (MxR.next bX HM1.out)
    clear kB1 g1 xc1 bX
    have hw0 := kBX.lt
    have c0 := kBX.cell' (i := 0) rfl
    have c1 := kBX.cell' (i := 1) rfl
    have c2 := kBX.cell' (i := 2) rfl
    have c3 := kBX.cell' (i := 3) rfl
    have c4 := kBX.cell' (i := 4) rfl
    have c5 := kBX.cell' (i := 5) rfl
    have d0 := kX.cell' (i := 0) rfl
    have d1 := kX.cell' (i := 1) rfl
    have d2 := kX.cell' (i := 2) rfl
    rw [hX] at c0 c1 c2 c3 c4 c5 d0 d1 d2
    go_wp2_with fail
    rw [← hX]; clear hX
    refine (l4Reduce_any x.p _ R0 C0 F0 _ HFL.out hR1 hC1 HMX.out HIN.out).mono ?_; rintro e w2 ⟨m2, v2, rfl, hM2, hI2, hb2⟩
    obtain ⟨NA, nc, em⟩ := hM2.form
    obtain ⟨PA, pc, ev⟩ := hI2.form
    subst em ev
    have hrk := HRK.out
    unfold rkF at hrk
    rw [hrk]
    have g2 := bthen gX hb2
    have kB2 := kBX.call hb2
    have z4 := kB2.cell' (i := 4) rfl
    have z5 := bcell hb2 (by omega) xcX
    simp only [mxF]
    clear c0 c1 c2 c3 c4 c5 d0 d1 d2 hM2 hI2 hrk
    obtain ⟨Y, hY⟩ : ∃ Y, Y = w2.alloc (.cells #[.int .i64 R0, .int .i64 C0, .slice NA (flat R0 C0 (rdTo x.p R0 F0 C0).1).length nc] 75) := ⟨_, rfl⟩
    have bY : Below w2.heap.size w2 Y := by rw [hY]; exact below_alloc _ _
    have s2 := hb2.size
    have y4 := bcell bY (by omega) z4
    have y5 := bcell bY (by omega) z5
    rw [hY] at y4 y5
    clear z4 z5
    go_wp2
    go_ret
    exact ⟨by first | (rw [HF.out]; rfl) | (rw [HF2.out]; rfl), g2.trans ((below_alloc _ _).mono g2.size)⟩
set_option maxHeartbeats 3200000 in
set_option maxRecDepth 100000 in
theorem implHasSimpleAtSource_any (u : Value) (x : Rp) (v : Int) (w0 : World) (hu : RpR w0 w0.heap.size u x) (hv : I64 v) :
    Calls Try.prog 46 #[u, .int .i64 v] w0 fun e w' => e = .returned (.bool (hsOut x v)) ∧ Below w0.heap.size w0 w' := by
  have hu' := hu
  obtain ⟨A, a, C, c, E, e, H, h, rfl, hq, hd, hm, hp, ld, lm⟩ := hu.open_
  clear hu hq hm lm
  obtain ⟨W, hW⟩ : ∃ W, W = w0.alloc (.cells #[.int .i64 x.p, .int .i64 x.q.v, .slice A x.q.f.length a, .slice C x.q.t.length c, .slice E x.d.length e, .slice H x.m.length h] 29) := ⟨_, rfl⟩
  have g0 : Below w0.heap.size w0 W := by rw [hW]; exact below_alloc _ _
  have kB : Blk W w0.heap.size 29 #[.int .i64 x.p, .int .i64 x.q.v, .slice A x.q.f.length a, .slice C x.q.t.length c, .slice E x.d.length e, .slice H x.m.length h] := by rw [hW]; exact Blk.new _ _ _
  have HXR := Lib.hid (RpR.next g0 hu')
  replace hd := SlI.next g0 hd
  have c0 := kB.cell' (i := 0) rfl
  have c1 := kB.cell' (i := 1) rfl
  have c2 := kB.cell' (i := 2) rfl
  have c3 := kB.cell' (i := 3) rfl
  have c4 := kB.cell' (i := 4) rfl
  have c5 := kB.cell' (i := 5) rfl
  rcases hok : outOk x v with _ | _
  · have HF := Lib.hid (show hsOut x v = false by simp [hsOut, hok])
    have hP : outP x v = (mx0, false) := by simp [outP, hok]
    have HPP := Lib.hid hP
    have HV := Lib.hid hv
    clear hok hP hv hd kB
    go_enter Try.func46, Try.ntmps46
    go_wp2_with fail
    rw [← hW]; clear hW
    refine (implOutgoingMatrix_any _ x v _ HXR.out HV.out).mono ?_; rintro e w1 ⟨r1, rfl, hM, hb1⟩
    rw [HPP.out] at hM ⊢
    obtain ⟨MA, mc, em⟩ := hM.form
    subst em
    have g1 := bthen g0 hb1
    simp only [mx0]
    clear hM hb1 g0 c0 c1 c2 c3 c4 c5
    go_wp2
    (refine wp_region_inB (by kernel_rfl) (by kernel_rfl) ?_; (repeat (go_big_quiet_step (fail))); refine wpQuiet_nil ?_; intro w1 hw'; obtain ⟨s1, hw1⟩ := hw'; have hb1 := s1.below; rw [← hw1] at hb1; clear hw1 s1)
    go_wp2
    go_ret
    exact ⟨by rw [HF.out]; rfl, (g1.alloc g1.size _).trans (hb1.mono (by have := g1.size; simp; omega))⟩
  · have hx1 : isRep x = true := by simp only [outOk, Bool.and_eq_true] at hok; exact hok.1
    have hx2 : endV x.q.t x.q v = true := by simp only [outOk, Bool.and_eq_true] at hok; exact hok.2
    obtain ⟨n, D, hvn, hn, dn, hD, hD4, hn5⟩ := vert_at hx1 hx2
    have hin := outS_inF (C := D) hx1 hvn dn x.q.f.length (Nat.le_refl _)
    have hcl := outS_le (v := v) (C := D) hx1 x.q.f.length (Nat.le_refl _)
    have hlf : x.q.f.length ≤ 6 := (isQ_t.1 (areDims_t.1 (isRep_t.1 hx1).2.1).1).2.2.1
    have hfld := (isRep_t.1 hx1).1
    have hPY := outP_yes hok hD
    have hF : hsOut x v = decide ((rkF x.p ((outS x v D x.q.f.length).1) (D) ((outS x v D x.q.f.length).2) : Int) < (D : Int)) := by simp only [hsOut, hok, Bool.true_and, hD, Int.toNat_natCast]
    obtain ⟨rk, hrk⟩ : ∃ z, rkF x.p ((outS x v D x.q.f.length).1) (D) ((outS x v D x.q.f.length).2) = z := ⟨_, rfl⟩
    rw [hrk] at hF
    obtain ⟨Mm, hMm⟩ : ∃ Mm, outM x v D x.q.f.length = Mm := ⟨_, rfl⟩
    have hMm2 : Mm = mxF ((outS x v D x.q.f.length).1) (D) ((outS x v D x.q.f.length).2) := hMm.symm
    rw [hMm] at hPY
    obtain ⟨R0, hR0⟩ : ∃ z, ((outS x v D x.q.f.length).1) = z := ⟨_, rfl⟩
    obtain ⟨C0, hC0⟩ : ∃ z, (D) = z := ⟨_, rfl⟩
    obtain ⟨F0, hF0⟩ : ∃ z, ((outS x v D x.q.f.length).2) = z := ⟨_, rfl⟩
    rw [hF0] at hrk hMm2
    first | rw [hC0, hR0] at hrk hMm2 | rw [hR0, hC0] at hrk hMm2
    have hin2 : InF x.p R0 C0 F0 := by rw [← hR0, ← hC0, ← hF0]; exact hin
    have hR1 : R0 ≤ 1000 := by rw [← hR0]; omega
    have hC1 : C0 ≤ 1000 := by rw [← hC0]; omega
    have hrb := rkF_le x.p R0 C0 F0
    rw [hrk] at hrb
    subst hvn
    have HF := Lib.hid hF
    have hF2 : hsOut x n = decide (rk < D) := hF.trans (decide_eq_decide.2 (by omega))
    have HF2 := Lib.hid hF2
    clear hF2
    have HRK := Lib.hid hrk
    have HIN := Lib.hid hin2
    have HFL := Lib.hid hfld
    have HPY := Lib.hid hPY
    have HMM := Lib.hid hMm2
    have HV := Lib.hid hv
    obtain ⟨be, oe, xe, eE, hbe, HXE, xc, _⟩ := SlI.at_ hd hn
    subst eE
    have ex := HXE.out
    rw [dn] at ex
    injection ex with ex
    subst ex
    clear hF hrk hin hin2 hPY hMm hMm2 hR0 hC0 hF0 hok hx1 hx2 dn hD hv hcl hfld HXE hd
    go_enter Try.func46, Try.ntmps46
    go_wp2_with fail
    rw [← hW]; clear hW
    refine (implOutgoingMatrix_any _ x n _ HXR.out HV.out).mono ?_; rintro e w1 ⟨r1, rfl, hM, hb1⟩
    rw [HPY.out] at hM ⊢
    simp only at hM ⊢
    rw [HMM.out] at hM
    obtain ⟨MA, mc, em⟩ := hM.form
    subst em
    simp only [mxF, flat_length] at hM ⊢
    obtain ⟨ML, hML⟩ : ∃ z, R0 * C0 = z := ⟨_, rfl⟩
    rw [hML] at hM ⊢
    clear hML
    have kB1 := kB.call hb1
    have g1 := bthen g0 hb1
    have xc1 := bcell hb1 hbe xc
    have s1 := hb1.size
    have HM1 := Lib.hid hM.rd
    clear hM hb1 g0 kB xc c0 c1 c2 c3 c4 c5
    obtain ⟨X, hX⟩ : ∃ X, X = w1.alloc (.cells #[.int .i64 R0, .int .i64 C0, .slice MA ML mc] 75) := ⟨_, rfl⟩
    have bX : Below w1.heap.size w1 X := by rw [hX]; exact below_alloc _ _
    have kX : Blk X w1.heap.size 75 #[.int .i64 R0, .int .i64 C0, .slice MA ML mc] := by rw [hX]; exact Blk.new _ _ _
    have kBX := kB1.call bX
    have gX := bthen g1 bX
    have xcX := bcell bX (by omega) xc1
    have sX := bX.size
    have HMX := Lib.hid (MxR.next bX HM1.out)
    clear kB1 g1 xc1 bX
    have hw0 := kBX.lt
    have c0 := fun s : InB X => (kBX.call s.below).cell' (i := 0) rfl
    have c4 := fun s : InB X => (kBX.call s.below).cell' (i := 4) rfl
    have d0 := fun s : InB X => (kX.call s.below).cell' (i := 0) rfl
    have d1 := fun s : InB X => (kX.call s.below).cell' (i := 1) rfl
    have d2 := fun s : InB X => (kX.call s.below).cell' (i := 2) rfl
    have z5 := InB.cell (w := X) (by omega) xcX
    have HC : Hid (∀ s : InB X, MxR s.val s.val.heap.size (.agg #[.int .i64 R0, .int .i64 C0, .slice MA ML mc]) (mxF R0 C0 F0)) := fun s => MxR.next s.below HMX.out
    have HCR : Hid (∀ s : InB X, Calls Try.prog 100 #[.int .i64 x.p, .agg #[.int .i64 R0, .int .i64 C0, .slice MA ML mc]] s.val fun e w' => e = .returned (.int .i64 (rk : Int)) ∧ Below s.val.heap.size s.val w') := fun s => by
      have h := implRank_any x.p _ R0 C0 F0 s.val HFL.out hR1 hC1 (HC.out s) HIN.out
      rw [HRK.out] at h
      exact h
    have hnn : (0 : Int) ≤ (n : Int) := by omega
    have hnl : (n : Int) < x.d.length := by omega
    go_wp2
    rw [← hX]; clear hX
    (refine wp_region_inB (by kernel_rfl) (by kernel_rfl) ?_; (repeat (go_big_quiet_step ((go_at_call 100; exact InB.call (HCR.out _))))); refine wpQuiet_nil ?_; intro w1 hw'; obtain ⟨s1, hw1⟩ := hw'; have hb1 := s1.below; rw [← hw1] at hb1; clear hw1 s1)
    go_wp2
    go_ret
    exact ⟨by rw [HF2.out]; rfl, gX.trans (hb1.mono gX.size)⟩
end Go.Proofs.Ytjhllgldllbaaaa

/- What every law goes through: copies and marks of representations. -/
namespace Go.Proofs.Ytjhllgldllbaaaa
set_option linter.unusedVariables false
set_option linter.unusedSimpArgs false
open Go.RowKit

set_option maxHeartbeats 1600000 in
theorem rep_to (u : Value) (x : Rp) (w : World) (hu : RpR w w.heap.size u x) (hn : x.size ≤ 1048576) :
    Calls Try.prog 43 #[u] w fun e w' => ∃ v, e = .returned v ∧ RepO w' w.heap.size w'.heap.size v x ∧ Below w.heap.size w w' := by
  obtain ⟨A, a, C, c, E, e, H, h, rfl, hq, hd, hm, hp, _, _⟩ := hu.open_
  have hmI : Hid (∀ m ∈ x.m, I64 m.r ∧ I64 m.c) := fun m hmm => by
    obtain ⟨j, hj⟩ := List.getElem?_of_mem hmm
    obtain ⟨_, _, m', _, _, _, _, HX, _, _, _, _, h1, h2, _⟩ := SlM.at_ hm (lt_of_some hj)
    have := HX.out
    rw [hj] at this
    injection this with this
    subst this
    exact ⟨h1, h2⟩
  have hqv : I64 x.q.v := by obtain ⟨_, _, _, _, _, _, _, h, _⟩ := hq.open_; exact h
  clear hu
  simp only [Rp.size] at hn
  obtain ⟨Wa, hWa⟩ : ∃ W, W = (w.alloc (.cells #[.int .i64 x.p, .int .i64 x.q.v, .slice A x.q.f.length a, .slice C x.q.t.length c, .slice E x.d.length e, .slice H x.m.length h] 55)).alloc (.cells #[.int .i64 0, .int .i64 0, .slice none 0 0, .slice none 0 0, .slice none 0 0, .slice none 0 0] 29) := ⟨_, rfl⟩
  obtain ⟨Wb, hWb⟩ : ∃ W, W = Wa.alloc (.cells #[.int .i64 x.p, .int .i64 0, .slice none 0 0, .slice none 0 0, .slice none 0 0, .slice none 0 0] 29) := ⟨_, rfl⟩
  have za : Wa.heap.size = w.heap.size + 1 + 1 := by rw [hWa]; simp
  have zb : Wb.heap.size = w.heap.size + 1 + 1 + 1 := by rw [hWb]; simp [za]
  have kp : Blk Wb w.heap.size 55 #[.int .i64 x.p, .int .i64 x.q.v, .slice A x.q.f.length a, .slice C x.q.t.length c, .slice E x.d.length e, .slice H x.m.length h] := by rw [hWb, hWa]; exact ((Blk.new _ _ _).alloc _).alloc _
  have kr : Blk Wb (w.heap.size + 1) 29 #[.int .i64 0, .int .i64 0, .slice none 0 0, .slice none 0 0, .slice none 0 0, .slice none 0 0] := by
    rw [hWb, hWa]
    have := (Blk.new (w.alloc (.cells #[.int .i64 x.p, .int .i64 x.q.v, .slice A x.q.f.length a, .slice C x.q.t.length c, .slice E x.d.length e, .slice H x.m.length h] 55)) 29 #[.int .i64 0, .int .i64 0, .slice none 0 0, .slice none 0 0, .slice none 0 0, .slice none 0 0]).alloc (.cells #[.int .i64 x.p, .int .i64 0, .slice none 0 0, .slice none 0 0, .slice none 0 0, .slice none 0 0] 29)
    simpa only [World.size_alloc] using this
  have ko : Blk Wb (w.heap.size + 1 + 1) 29 #[.int .i64 x.p, .int .i64 0, .slice none 0 0, .slice none 0 0, .slice none 0 0, .slice none 0 0] := by
    rw [hWb, ← za]; exact Blk.new _ _ _
  have gb : Below w.heap.size w Wb := by rw [hWb, hWa]; exact (((Below.refl _ _).alloc (Nat.le_refl _) _).alloc (by simp) _).alloc (by simp; omega) _
  have ZB := Lib.hid zb
  clear za zb
  go_enter Try.func43, Try.ntmps43
  go_wp2_with fail
  rw [← hWa, ← hWb]
  clear hWa hWb
  refine (quiv_to _ _ _ (QvR.next gb hq) (by omega)).mono ?_; rintro e w1 ⟨v1, rfl, hQ, hb1⟩
  clear hq
  have s1 := hb1.size
  replace gb := bthen gb hb1
  replace kp := kp.call hb1
  replace pc0 := kp.cell' (i := 0) rfl
  replace pc1 := kp.cell' (i := 1) rfl
  replace pc2 := kp.cell' (i := 2) rfl
  replace pc3 := kp.cell' (i := 3) rfl
  replace pc4 := kp.cell' (i := 4) rfl
  replace pc5 := kp.cell' (i := 5) rfl
  replace kr := kr.call hb1
  replace r0 := kr.cell' (i := 0) rfl
  replace r1 := kr.cell' (i := 1) rfl
  replace r2 := kr.cell' (i := 2) rfl
  replace r3 := kr.cell' (i := 3) rfl
  replace r4 := kr.cell' (i := 4) rfl
  replace r5 := kr.cell' (i := 5) rfl
  replace ko := ko.call hb1
  replace o0 := ko.cell' (i := 0) rfl
  replace o1 := ko.cell' (i := 1) rfl
  replace o2 := ko.cell' (i := 2) rfl
  replace o3 := ko.cell' (i := 3) rfl
  replace o4 := ko.cell' (i := 4) rfl
  replace o5 := ko.cell' (i := 5) rfl
  clear hb1
  obtain ⟨qa, qb, rfl, hQF, _⟩ := hQ
  have fa : OwnI w1 _ qa x.q.f := (hQF.1 (qa, x.q.f) (by simp)).1
  have fb : OwnI w1 _ qb x.q.t := (hQF.1 (qb, x.q.t) (by simp)).1
  obtain ⟨A1, a1, rfl, _, _⟩ := fa.form
  obtain ⟨C1, c1, rfl, _, _⟩ := fb.form
  clear fa fb
  have fo := ko.frozen
  go_wp2_with fail
  clear pc0 pc1 pc2 pc3 pc4 pc5 r0 r1 r2 r3 r4 r5 o0 o1 o2 o3 o4 o5 fo
  obtain ⟨Wc, hWc⟩ : ∃ W, W = ((w1.setCell ⟨w.heap.size + 1 + 1, 1, none⟩ (.int .i64 x.q.v)).setCell ⟨w.heap.size + 1 + 1, 2, none⟩ (.slice A1 x.q.f.length a1)).setCell ⟨w.heap.size + 1 + 1, 3, none⟩ (.slice C1 x.q.t.length c1) := ⟨_, rfl⟩
  have zb := ZB.out
  have hC1 : Chg (w.heap.size + 1) (w.heap.size + 1 + 1 + 1) w1 Wc := by
    rw [hWc]
    exact ((chg_set (by simp) (by simp)).trans (chg_set (by simp) (by simp))).trans (chg_set (by simp) (by simp))
  have gc : Below w.heap.size w1 Wc := hC1.below (by omega) (by omega)
  have zc : Wc.heap.size = w1.heap.size := by rw [hWc]; simp
  have kp' : Blk Wc w.heap.size 55 #[.int .i64 x.p, .int .i64 x.q.v, .slice A x.q.f.length a, .slice C x.q.t.length c, .slice E x.d.length e, .slice H x.m.length h] := kp.chg hC1 (by omega)
  have kr' : Blk Wc (w.heap.size + 1) 29 #[.int .i64 0, .int .i64 0, .slice none 0 0, .slice none 0 0, .slice none 0 0, .slice none 0 0] := by rw [hWc]; exact ((kr.far (by simp) _).far (by simp) _).far (by simp) _
  have ko' : Blk Wc (w.heap.size + 1 + 1) 29 #[.int .i64 x.p, .int .i64 x.q.v, .slice A1 x.q.f.length a1, .slice C1 x.q.t.length c1, .slice none 0 0, .slice none 0 0] := by
    rw [hWc]; exact ((ko.set_ 1 _).set_ 2 _).set_ 3 _
  have hQF1 := hQF.chg hC1 (.inr (by omega))
  replace gb : Below w.heap.size w Wc := gb.trans gc
  rw [← hWc]
  clear hWc kp kr ko hQF hC1 gc
  have p4 := kp'.cell' (i := 4) rfl
  refine (ints_to _ _ _ (SlI.next gb hd) (by omega)).mono ?_; rintro e w2 ⟨v2, rfl, hD, hb2⟩
  obtain ⟨E1, e1, rfl, _, _⟩ := hD.1.form
  have s2 := hb2.size
  replace gb := bthen gb hb2
  replace kp' := kp'.call hb2
  replace kr' := kr'.call hb2
  replace ko' := ko'.call hb2
  replace hQF1 := hQF1.below hb2
  have p5 := kp'.cell' (i := 5) rfl
  have o4 := ko'.cell' (i := 4) rfl
  have fo := ko'.frozen
  clear hb2 hd p4
  go_wp2_with fail
  clear p5 o4 fo
  obtain ⟨Wd, hWd⟩ : ∃ W, W = w2.setCell ⟨w.heap.size + 1 + 1, 4, none⟩ (.slice E1 x.d.length e1) := ⟨_, rfl⟩
  have hC2 : Chg (w.heap.size + 1) (w.heap.size + 1 + 1 + 1) w2 Wd := by
    rw [hWd]
    exact chg_set (by simp) (by simp)
  have gd : Below w.heap.size w2 Wd := hC2.below (by omega) (by omega)
  have zd : Wd.heap.size = w2.heap.size := by rw [hWd]; simp
  replace kp' : Blk Wd w.heap.size 55 _ := kp'.chg hC2 (by omega)
  replace kr' : Blk Wd (w.heap.size + 1) 29 #[.int .i64 0, .int .i64 0, .slice none 0 0, .slice none 0 0, .slice none 0 0, .slice none 0 0] := by rw [hWd]; exact kr'.far (by simp) _
  replace ko' : Blk Wd (w.heap.size + 1 + 1) 29 #[.int .i64 x.p, .int .i64 x.q.v, .slice A1 x.q.f.length a1, .slice C1 x.q.t.length c1, .slice E1 x.d.length e1, .slice none 0 0] := by
    rw [hWd]; exact ko'.set_ 4 _
  replace hQF1 := hQF1.chg hC2 (.inr (by omega))
  replace hD := hD.chg hC2 (.inr (by omega))
  replace gb : Below w.heap.size w Wd := gb.trans gd
  rw [← hWd]
  clear hWd hC2 gd
  have p5 := kp'.cell' (i := 5) rfl
  refine (mats_to _ _ _ (SlM.next gb hm) (by simp only [szM] at hn; omega) (fun m hmm => by have := totA_mem hmm; simp only [szM] at hn; simp only [Mx.size]; omega)).mono ?_; rintro e w3 ⟨v3, rfl, hM, hb3⟩
  obtain ⟨vs, hO, hvl, hFM, _⟩ := hM
  obtain ⟨H1, h1, rfl, _, _⟩ := hO.form
  have HVL := Lib.hid hvl
  have s3 := hb3.size
  replace gb := bthen gb hb3
  replace kr' := kr'.call hb3
  replace ko' := ko'.call hb3
  replace hQF1 := hQF1.below hb3
  replace hD := hD.below hb3
  have o0 := ko'.cell' (i := 0) rfl
  have o1 := ko'.cell' (i := 1) rfl
  have o2 := ko'.cell' (i := 2) rfl
  have o3 := ko'.cell' (i := 3) rfl
  have o4 := ko'.cell' (i := 4) rfl
  have o5 := ko'.cell' (i := 5) rfl
  have r0 := kr'.cell' (i := 0) rfl
  have r1 := kr'.cell' (i := 1) rfl
  have r2 := kr'.cell' (i := 2) rfl
  have r3 := kr'.cell' (i := 3) rfl
  have r4 := kr'.cell' (i := 4) rfl
  have r5 := kr'.cell' (i := 5) rfl
  have fo := ko'.frozen
  have fr := kr'.frozen
  clear hb3 hm p5 kp' hvl
  have HZC := Lib.hid zc
  have HZD := Lib.hid zd
  clear zb zc zd
  go_wp2
  have zb := ZB.out
  have zc := HZC.out
  have zd := HZD.out
  have hF : Fam w3 Wb.heap.size w3.heap.size ([(.slice A1 x.q.f.length a1, x.q.f), (.slice C1 x.q.t.length c1, x.q.t)] ++ ([(.slice E1 x.d.length e1, x.d)] ++ vs.zip (x.m.map Mx.a))) :=
    Fam.join (mi := Wc.heap.size) (hQF1.mono (Nat.le_refl _) (by omega)) (Fam.join (mi := Wd.heap.size) ((Fam.one hD).mono (Nat.le_refl _) (by omega)) hFM (by omega) (by omega)) (by omega) (by omega)
  refine bodyPost_ret (v := .agg #[.int .i64 x.p, .int .i64 x.q.v, .slice A1 x.q.f.length a1, .slice C1 x.q.t.length c1, .slice E1 x.d.length e1, .slice H1 x.m.length h1]) (by simp [results, go_sem, r0, r1, r2, r3, r4, r5]) rfl ⟨_, rfl, ⟨_, _, _, _, vs, rfl, ?_, HVL.out, ?_, ⟨hp, hqv⟩, hmI.out⟩, ((((((gb.setCell (by simp; omega) _).setCell (by simp) _).setCell (by simp) _).setCell (by simp) _).setCell (by simp) _).setCell (by simp) _).setCell (by simp) _⟩
  · have hc : Chg (w.heap.size + 1) (w.heap.size + 1 + 1 + 1) w3 _ := ((((((chg_set (w := w3) (p := ⟨w.heap.size + 1 + 1, 5, none⟩) (u := .slice H1 x.m.length h1) (by simp) (by simp)).trans (chg_set (p := ⟨w.heap.size + 1, 0, none⟩) (u := .int .i64 x.p) (by simp) (by simp))).trans (chg_set (p := ⟨w.heap.size + 1, 1, none⟩) (u := .int .i64 x.q.v) (by simp) (by simp))).trans (chg_set (p := ⟨w.heap.size + 1, 2, none⟩) (u := .slice A1 x.q.f.length a1) (by simp) (by simp))).trans (chg_set (p := ⟨w.heap.size + 1, 3, none⟩) (u := .slice C1 x.q.t.length c1) (by simp) (by simp))).trans (chg_set (p := ⟨w.heap.size + 1, 4, none⟩) (u := .slice E1 x.d.length e1) (by simp) (by simp))).trans (chg_set (p := ⟨w.heap.size + 1, 5, none⟩) (u := .slice H1 x.m.length h1) (by simp) (by simp))
    exact RowO.mono (hO.chg hc (.inr (by omega))) (by omega) (by simp)
  · have hc : Chg (w.heap.size + 1) (w.heap.size + 1 + 1 + 1) w3 _ := ((((((chg_set (w := w3) (p := ⟨w.heap.size + 1 + 1, 5, none⟩) (u := .slice H1 x.m.length h1) (by simp) (by simp)).trans (chg_set (p := ⟨w.heap.size + 1, 0, none⟩) (u := .int .i64 x.p) (by simp) (by simp))).trans (chg_set (p := ⟨w.heap.size + 1, 1, none⟩) (u := .int .i64 x.q.v) (by simp) (by simp))).trans (chg_set (p := ⟨w.heap.size + 1, 2, none⟩) (u := .slice A1 x.q.f.length a1) (by simp) (by simp))).trans (chg_set (p := ⟨w.heap.size + 1, 3, none⟩) (u := .slice C1 x.q.t.length c1) (by simp) (by simp))).trans (chg_set (p := ⟨w.heap.size + 1, 4, none⟩) (u := .slice E1 x.d.length e1) (by simp) (by simp))).trans (chg_set (p := ⟨w.heap.size + 1, 5, none⟩) (u := .slice H1 x.m.length h1) (by simp) (by simp))
    exact Fam.mono (hF.chg hc (.inr (by omega))) (by omega) (by simp)

/-- rows of other elements are left alone -/
def KeepT (lo hi : Nat) (w w' : World) : Prop := ∀ (T : TypeId) (sz : Nat) (v : Value) (n : Nat) (cs : List Value), 3 ≠ T → RowO T sz w lo hi v n cs → RowO T sz w' lo hi v n cs
theorem KeepT.of_below {lo hi : Nat} {w w' : World} (hb : Below w.heap.size w w') : KeepT lo hi w w' := fun _ _ _ _ _ _ h => h.below hb
theorem KeepT.of_grown {lo hi base : Nat} {w w' : World} {u : Value} {l : List Int} (ho : OwnI w base u l) (hg : w.grownBy w' u.ownBlock) : KeepT lo hi w w' := fun _ _ _ _ _ ht h => h.grown ht ho hg
theorem KeepT.trans {lo hi : Nat} {a b c : World} (h : KeepT lo hi a b) (k : KeepT lo hi b c) : KeepT lo hi a c := fun T sz v n cs ht hr => k T sz v n cs ht (h T sz v n cs ht hr)

set_option maxHeartbeats 400000 in
theorem markQuiver_fam (a b : Value) (q : Qv) (L1 : List (Value × List Int)) (k : Int) (lo hi : Nat) (w : World) (hF : Fam w lo hi ([(a, q.f), (b, q.t)] ++ L1)) (hh : hi ≤ w.heap.size) (h0 : 0 ≤ k) (h1 : k ≤ 1125899906842624) :
    Calls Try.prog 21 #[.agg #[.int .i64 q.v, a, b], .int .i64 k] w fun e w' => e = .returned (.int .i64 (k + q.size)) ∧ Fam w' lo hi ([(a, mkI k q.f.length), (b, mkI (k + q.f.length) q.t.length)] ++ L1) ∧ Chg lo hi w w' ∧ KeepT lo hi w w' := by
  have fa : OwnI w lo a q.f := (hF.1 (a, q.f) (by simp)).1
  have fb : OwnI w lo b q.t := (hF.1 (b, q.t) (by simp)).1
  obtain ⟨A, c, rfl, _, _⟩ := fa.form
  obtain ⟨C, d, rfl, _, _⟩ := fb.form
  have la := fa.2.1
  have lb := fb.2.1
  have g0 := below_alloc w (.cells #[.int .i64 q.v, .slice A q.f.length c, .slice C q.t.length d] 26)
  have hF0 := hF.below g0
  go_enter Try.func21, Try.ntmps21
  go_wp2_with fail
  have fa0 : IntsO _ lo hi (.slice A q.f.length c) q.f := hF0.1 (_, q.f) (by simp)
  refine (markIntS_any _ _ _ lo _ fa0.1 h0 (by omega)).mono ?_; rintro e w1 ⟨rfl, ho1, hg1⟩
  have hF1 := Fam.turn (L1 := []) hF0 ho1 hg1
  have hc1 := chg_of_grown fa0 hg1
  have hk1 := KeepT.of_grown (lo := lo) (hi := hi) fa0.1 hg1
  have cB := ((Blk.new w 26 #[.int .i64 q.v, .slice A q.f.length c, .slice C q.t.length d]).chg hc1 (.inr hh)).cell' (i := 2) rfl
  have fb1 : IntsO w1 lo hi (.slice C q.t.length d) q.t := hF1.1 (_, q.t) (by simp)
  clear hF hF0 ho1 hg1 fa fb fa0
  go_wp2_with fail
  refine (markIntS_any _ _ _ lo _ fb1.1 (by omega) (by omega)).mono ?_; rintro e w2 ⟨rfl, ho2, hg2⟩
  have hF2 := Fam.turn (L1 := [(_, mkI k q.f.length)]) hF1 ho2 hg2
  have hc2 := chg_of_grown fb1 hg2
  have hk2 := KeepT.of_grown (lo := lo) (hi := hi) fb1.1 hg2
  clear ho2 hg2 fb1 hF1
  go_wp2
  go_ret
  refine ⟨?_, hF2, (Chg.of_below g0).trans (hc1.trans hc2), (KeepT.of_below g0).trans (hk1.trans hk2)⟩
  have e : k + (q.size : Int) = k + q.f.length + q.t.length := by simp only [Qv.size]; omega
  rw [e]; rfl

set_option maxHeartbeats 800000 in
theorem rep_mark (v : Value) (x : Rp) (k : Int) (lo hi : Nat) (w : World) (hv : RepO w lo hi v x) (hh : hi ≤ w.heap.size) (h0 : 0 ≤ k) (h1 : k ≤ 1099511627776) (hsz : x.size ≤ 1048576) :
    Calls Try.prog 22 #[v, .int .i64 k] w fun e w' => e = .returned (.int .i64 (k + x.marks)) ∧ RepO w' lo hi v (RepO.mk k x) ∧ Chg lo hi w w' := by
  obtain ⟨f, t, d, m, vs, rfl, ho, hl, hF, hI, _⟩ := hv
  have HL := Lib.hid hl
  clear hl
  have ff : OwnI w lo f x.q.f := (hF.1 (f, x.q.f) (by simp)).1
  have ft : OwnI w lo t x.q.t := (hF.1 (t, x.q.t) (by simp)).1
  have fd : OwnI w lo d x.d := (hF.1 (d, x.d) (by simp)).1
  obtain ⟨A, a, rfl, _, _⟩ := ff.form
  obtain ⟨C, c, rfl, _, _⟩ := ft.form
  obtain ⟨E, e, rfl, _, _⟩ := fd.form
  obtain ⟨H, h, rfl, _, _⟩ := ho.form
  have ht : totM x.m ≤ 4194304 := by rw [totM_eq]; simp only [Rp.size, szM] at hsz; omega
  have hqs : x.q.size ≤ 1048576 := by simp only [Rp.size] at hsz; omega
  have hds : x.d.length ≤ 1048576 := by simp only [Rp.size] at hsz; omega
  clear ff ft fd
  obtain ⟨W, hW⟩ : ∃ W, W = w.alloc (.cells #[.int .i64 x.p, .int .i64 x.q.v, .slice A x.q.f.length a, .slice C x.q.t.length c, .slice E x.d.length e, .slice H x.m.length h] 29) := ⟨_, rfl⟩
  have g0 : Below w.heap.size w W := by rw [hW]; exact below_alloc _ _
  have kB : Blk W w.heap.size 29 #[.int .i64 x.p, .int .i64 x.q.v, .slice A x.q.f.length a, .slice C x.q.t.length c, .slice E x.d.length e, .slice H x.m.length h] := by rw [hW]; exact Blk.new _ _ _
  replace hF := hF.below g0
  replace ho := ho.below g0
  have hs0 := g0.size
  have HF := Lib.hid hF
  clear hF
  go_enter Try.func22, Try.ntmps22
  go_wp2_with fail
  rw [← hW]; clear hW
  refine (markQuiver_fam _ _ x.q ([(.slice E x.d.length e, x.d)] ++ vs.zip (x.m.map Mx.a)) _ lo hi _ HF.out (by omega) h0 (by omega)).mono ?_; rintro e w1 ⟨rfl, hF1, hc1, hk1⟩
  have ho1 : OutM w1 lo hi (.slice H x.m.length h) vs x.m := hk1 _ _ _ _ _ (by decide) ho
  have kB1 := kB.chg hc1 (.inr hh)
  have c4 := kB1.cell' (i := 4) rfl
  have hd : IntsO w1 lo hi (.slice E x.d.length e) x.d := hF1.1 (_, x.d) (by simp)
  clear ho kB hk1
  have HF1 := Lib.hid hF1
  clear hF1
  go_wp2_with fail
  refine (markIntS_any _ _ _ lo _ hd.1 (by omega) (by omega)).mono ?_; rintro e w2 ⟨rfl, ho2, hg2⟩
  have hF2 := Fam.turn (L1 := [(_, mkI k x.q.f.length), (_, mkI (k + x.q.f.length) x.q.t.length)]) HF1.out ho2 hg2
  have hc2 := chg_of_grown hd hg2
  have hO2 : OutM w2 lo hi (.slice H x.m.length h) vs x.m := ho1.grown (by decide) hd.1 hg2
  have kB2 := kB1.chg hc2 (.inr hh)
  have c5 := kB2.cell' (i := 5) rfl
  have HF2 := Lib.hid hF2
  clear ho1 kB1 c4 hd HF1 ho2 hg2 hF2
  go_wp2_with fail
  refine (markMatrixS_fam _ vs x.m [(.slice A x.q.f.length a, mkI k x.q.f.length), (.slice C x.q.t.length c, mkI (k + x.q.f.length) x.q.t.length), (.slice E x.d.length e, mkI (k + x.q.size) x.d.length)] _ lo hi _ hO2 HL.out HF2.out (by omega) (by omega) (by omega)).mono ?_; rintro e w3 ⟨rfl, ho3, hF3, hc3⟩
  have hI3 : ∀ m ∈ mkMS (k + x.q.size + x.d.length) x.m, I64 m.r ∧ I64 m.c := by
    intro m hm
    obtain ⟨j, hj⟩ := List.getElem?_of_mem hm
    have hjl := lt_of_some hj
    rw [mkMS_length] at hjl
    have := mkMS_get x.m (k + x.q.size + x.d.length) j _ (List.getElem?_eq_getElem hjl)
    rw [hj] at this
    injection this with this
    subst this
    have hle := totM_take_le x.m j
    simp only
    exact ⟨⟨by omega, by omega⟩, ⟨by omega, by omega⟩⟩
  have HI3 := Lib.hid hI3
  have HO3 := Lib.hid ho3
  have HF3 := Lib.hid hF3
  clear hI3 ho3 hF3 HF2 hO2 HF
  have hL3 := Lib.hid (show vs.length = (mkMS (k + x.q.size + x.d.length) x.m).length by rw [mkMS_length]; exact HL.out)
  go_wp2
  go_ret
  refine ⟨?_, ⟨_, _, _, _, vs, ?_, HO3.out, hL3.out, HF3.out, hI, HI3.out⟩, (Chg.of_below g0).trans (hc1.trans (hc2.trans hc3))⟩
  · have e : k + (x.marks : Int) = k + x.q.size + x.d.length + totM x.m := by simp only [Rp.marks]; omega
    rw [e]; rfl
  · simp [RepO.mk, QuivO.mk, mkMS_length, mkI_length]

set_option maxHeartbeats 800000 in
theorem rep_held (v : Value) (x : Rp) (k : Int) (w : World) (hv : RpR w w.heap.size v (RepO.mk k x)) (h0 : 0 ≤ k) (h1 : k ≤ 1099511627776) (hsz : x.size ≤ 1048576) :
    Calls Try.prog 23 #[v, .int .i64 k] w fun e w' => e = .returned (.int .i64 (k + x.marks)) ∧ Below w.heap.size w w' := by
  obtain ⟨A, a, C, c, E, e, H, h, rfl, hq, hd, hm, _, _, _⟩ := hv.open_
  clear hv
  have ht : totM x.m ≤ 4194304 := by rw [totM_eq]; simp only [Rp.size, szM] at hsz; omega
  have hqs : x.q.size ≤ 1048576 := by simp only [Rp.size] at hsz; omega
  have hds : x.d.length ≤ 1048576 := by simp only [Rp.size] at hsz; omega
  obtain ⟨W, hW⟩ : ∃ W, W = w.alloc (.cells #[.int .i64 (RepO.mk k x).p, .int .i64 (RepO.mk k x).q.v, .slice A (RepO.mk k x).q.f.length a, .slice C (RepO.mk k x).q.t.length c, .slice E (RepO.mk k x).d.length e, .slice H (RepO.mk k x).m.length h] 29) := ⟨_, rfl⟩
  have g0 : Below w.heap.size w W := by rw [hW]; exact below_alloc _ _
  have kB : Blk W w.heap.size 29 #[.int .i64 (RepO.mk k x).p, .int .i64 (RepO.mk k x).q.v, .slice A (RepO.mk k x).q.f.length a, .slice C (RepO.mk k x).q.t.length c, .slice E (RepO.mk k x).d.length e, .slice H (RepO.mk k x).m.length h] := by rw [hW]; exact Blk.new _ _ _
  have hq' : QvR W W.heap.size (.agg #[.int .i64 (RepO.mk k x).q.v, .slice A (RepO.mk k x).q.f.length a, .slice C (RepO.mk k x).q.t.length c]) (QuivO.mk k x.q) := QvR.next g0 hq
  have hd' : SlI W W.heap.size (.slice E (RepO.mk k x).d.length e) (mkI (k + x.q.size) x.d.length) := SlI.next g0 hd
  have hm' : SlM W W.heap.size (.slice H (RepO.mk k x).m.length h) (mkMS (k + x.q.size + x.d.length) x.m) := SlM.next g0 hm
  clear hq hd hm
  generalize RepO.mk k x = y at *
  have n1 : ¬ (k + (x.q.size : Int) < 0) := by omega
  have n2 : ¬ (k + (x.q.size : Int) + x.d.length < 0) := by omega
  have n3 : ¬ (k + (x.q.size : Int) + x.d.length + totM x.m < 0) := by omega
  go_enter Try.func23, Try.ntmps23
  go_wp2_with fail
  rw [← hW]; clear hW
  refine (quiv_held _ _ _ _ hq' h0 (by omega)).mono ?_; rintro e w1 ⟨rfl, hb1⟩
  clear hq'
  replace g0 := bthen g0 hb1
  replace hd' := SlI.next hb1 hd'
  replace hm' := SlM.next hb1 hm'
  replace kB := kB.call hb1
  replace c0 := kB.cell' (i := 0) rfl
  replace c1 := kB.cell' (i := 1) rfl
  replace c2 := kB.cell' (i := 2) rfl
  replace c3 := kB.cell' (i := 3) rfl
  replace c4 := kB.cell' (i := 4) rfl
  replace c5 := kB.cell' (i := 5) rfl
  clear hb1
  go_wp2_with fail
  refine (heldIntS_any _ _ (k + x.q.size) _ _ hd' (by omega) (by omega)).mono ?_; rintro e w_1 ⟨rfl, hb_1⟩
  replace g0 := bthen g0 hb_1
  replace hd' := SlI.next hb_1 hd'
  replace hm' := SlM.next hb_1 hm'
  replace kB := kB.call hb_1
  replace c0 := kB.cell' (i := 0) rfl
  replace c1 := kB.cell' (i := 1) rfl
  replace c2 := kB.cell' (i := 2) rfl
  replace c3 := kB.cell' (i := 3) rfl
  replace c4 := kB.cell' (i := 4) rfl
  replace c5 := kB.cell' (i := 5) rfl
  go_wp2_with fail
  refine (heldMatrixS_any _ x.m (k + x.q.size + x.d.length) _ hm' (by omega) (by omega) (by omega)).mono ?_; rintro e w_2 ⟨rfl, hb_2⟩
  replace g0 := bthen g0 hb_2
  replace hd' := SlI.next hb_2 hd'
  replace hm' := SlM.next hb_2 hm'
  replace kB := kB.call hb_2
  replace c0 := kB.cell' (i := 0) rfl
  replace c1 := kB.cell' (i := 1) rfl
  replace c2 := kB.cell' (i := 2) rfl
  replace c3 := kB.cell' (i := 3) rfl
  replace c4 := kB.cell' (i := 4) rfl
  replace c5 := kB.cell' (i := 5) rfl
  clear hd' hm' kB
  go_wp2
  go_ret
  have e : k + (x.marks : Int) = k + x.q.size + x.d.length + totM x.m := by simp only [Rp.marks]; omega
  exact ⟨by rw [e]; rfl, g0⟩
end Go.Proofs.Ytjhllgldllbaaaa

/- The walk of FnExactHasSimpleAtSource, printed by program (wip/law.py) out of the contracts of what it calls. -/
namespace Go.Proofs.Ytjhllgldllbaaaa
set_option linter.unusedVariables false
set_option linter.unusedSimpArgs false
open Go.RowKit

set_option maxHeartbeats 1600000 in
set_option maxRecDepth 100000 in
theorem lawHasSimpleAtSource_any (ur : Value) (r : Rp) (v : Int) (w : World) (hr : RpR w w.heap.size ur r) (rng_v : I64 v) :
    Calls Try.prog 11 #[ur, .int .i64 v] w fun e w' => e = .returned (.bool true) ∧ Below w.heap.size w w' := by
  obtain ⟨Aur, aur, Cur, cur, Eur, eur, Hur, hur, er⟩ := RpR.form hr
  subst er
  have lr := RpR.lens hr
  have g0 := Below.refl w.heap.size w
  by_cases z0 : (1048576 : Int) < (r.size : Nat)
  · have y0 : szLeft (1048576 : Int) (r.size) = -1 := by rw [szLeft, if_pos z0]
    go_enter Try.func11, Try.ntmps11
    go_wp2_with fail
    obtain ⟨W2, e3⟩ : ∃ W, W = w.alloc (.cells #[.int .i64 (r).p, .int .i64 (r).q.v, .slice Aur (r).q.f.length aur, .slice Cur (r).q.t.length cur, .slice Eur (r).d.length eur, .slice Hur (r).m.length hur] 55) := ⟨_, rfl⟩
    rw [← e3]
    have b4 : Below w.heap.size w W2 := by rw [e3]; exact below_alloc _ _
    have k5 : Blk W2 w.heap.size 55 #[.int .i64 (r).p, .int .i64 (r).q.v, .slice Aur (r).q.f.length aur, .slice Cur (r).q.t.length cur, .slice Eur (r).d.length eur, .slice Hur (r).m.length hur] := by rw [e3]; exact Blk.new _ _ _
    have s6 : w.heap.size < W2.heap.size := by rw [e3]; simp
    clear e3
    have h7 := RpR.below (b4.mono (by omega)) hr
    have s8 : w.heap.size ≤ W2.heap.size := b4.size
    have g9 := bthen g0 b4
    clear hr g0 b4
    have c10 := k5.cell' (i := 0) rfl
    have c11 := k5.cell' (i := 1) rfl
    have c12 := k5.cell' (i := 2) rfl
    have c13 := k5.cell' (i := 3) rfl
    have c14 := k5.cell' (i := 4) rfl
    have c15 := k5.cell' (i := 5) rfl
    refine (szRep_any _ _ (1048576 : Int) _ (RpR.more (by omega) h7) (by omega) (by omega)).mono ?_; rintro e W16 ⟨rfl, b1⟩
    have h17 := RpR.below (b1.mono (by omega)) h7
    have k18 := k5.call b1
    have s19 : W2.heap.size ≤ W16.heap.size := b1.size
    have g20 := bthen g9 b1
    clear h7 k5 g9 b1 c10 c11 c12 c13 c14 c15
    have c21 := k18.cell' (i := 0) rfl
    have c22 := k18.cell' (i := 1) rfl
    have c23 := k18.cell' (i := 2) rfl
    have c24 := k18.cell' (i := 3) rfl
    have c25 := k18.cell' (i := 4) rfl
    have c26 := k18.cell' (i := 5) rfl
    go_wp2
    go_ret
    exact ⟨rfl, g20⟩
  have y0 : szLeft (1048576 : Int) (r.size) = (1048576 : Int) - (r.size : Nat) := by rw [szLeft, if_neg z0]
  have x0 : ¬ ((1048576 : Int) - ((r.size : Nat) : Int) < 0) := by omega
  go_enter Try.func11, Try.ntmps11
  go_wp2_with fail
  obtain ⟨W28, e29⟩ : ∃ W, W = w.alloc (.cells #[.int .i64 (r).p, .int .i64 (r).q.v, .slice Aur (r).q.f.length aur, .slice Cur (r).q.t.length cur, .slice Eur (r).d.length eur, .slice Hur (r).m.length hur] 55) := ⟨_, rfl⟩
  rw [← e29]
  have b30 : Below w.heap.size w W28 := by rw [e29]; exact below_alloc _ _
  have k31 : Blk W28 w.heap.size 55 #[.int .i64 (r).p, .int .i64 (r).q.v, .slice Aur (r).q.f.length aur, .slice Cur (r).q.t.length cur, .slice Eur (r).d.length eur, .slice Hur (r).m.length hur] := by rw [e29]; exact Blk.new _ _ _
  have s32 : w.heap.size < W28.heap.size := by rw [e29]; simp
  clear e29
  have h33 := RpR.below (b30.mono (by omega)) hr
  have s34 : w.heap.size ≤ W28.heap.size := b30.size
  have g35 := bthen g0 b30
  clear hr g0 b30
  have c36 := k31.cell' (i := 0) rfl
  have c37 := k31.cell' (i := 1) rfl
  have c38 := k31.cell' (i := 2) rfl
  have c39 := k31.cell' (i := 3) rfl
  have c40 := k31.cell' (i := 4) rfl
  have c41 := k31.cell' (i := 5) rfl
  refine (szRep_any _ _ (1048576 : Int) _ (RpR.more (by omega) h33) (by omega) (by omega)).mono ?_; rintro e W42 ⟨rfl, b27⟩
  have h43 := RpR.below (b27.mono (by omega)) h33
  have k44 := k31.call b27
  have s45 : W28.heap.size ≤ W42.heap.size := b27.size
  have g46 := bthen g35 b27
  clear h33 k31 g35 b27 c36 c37 c38 c39 c40 c41
  have c47 := k44.cell' (i := 0) rfl
  have c48 := k44.cell' (i := 1) rfl
  have c49 := k44.cell' (i := 2) rfl
  have c50 := k44.cell' (i := 3) rfl
  have c51 := k44.cell' (i := 4) rfl
  have c52 := k44.cell' (i := 5) rfl
  go_wp2_with fail
  refine (rep_to _ _ _ (RpR.more (by omega) h43) (by omega)).mono ?_; rintro e W56 ⟨v53, rfl, h54, b55⟩
  have h57 := RpR.below (b55.mono (by omega)) h43
  have k58 := k44.call b55
  have s59 : W42.heap.size ≤ W56.heap.size := b55.size
  have g60 := bthen g46 b55
  clear h43 k44 g46 b55 c47 c48 c49 c50 c51 c52
  have c61 := k58.cell' (i := 0) rfl
  have c62 := k58.cell' (i := 1) rfl
  have c63 := k58.cell' (i := 2) rfl
  have c64 := k58.cell' (i := 3) rfl
  have c65 := k58.cell' (i := 4) rfl
  have c66 := k58.cell' (i := 5) rfl
  go_wp2_with fail
  refine (specHasSimpleAtSource_any _ _ _ _ h54.rd rng_v).mono ?_; rintro e W68 ⟨rfl, b67⟩
  have h69 := RpR.below (b67.mono (by omega)) h57
  have h70 := h54.below b67
  have k71 := k58.call b67
  have s72 : W56.heap.size ≤ W68.heap.size := b67.size
  have g73 := bthen g60 b67
  clear h57 h54 k58 g60 b67 c61 c62 c63 c64 c65 c66
  have c74 := k71.cell' (i := 0) rfl
  have c75 := k71.cell' (i := 1) rfl
  have c76 := k71.cell' (i := 2) rfl
  have c77 := k71.cell' (i := 3) rfl
  have c78 := k71.cell' (i := 4) rfl
  have c79 := k71.cell' (i := 5) rfl
  clear h70
  go_wp2_with fail
  refine (rep_to _ _ _ (RpR.more (by omega) h69) (by omega)).mono ?_; rintro e W83 ⟨v80, rfl, h81, b82⟩
  have h84 := RpR.below (b82.mono (by omega)) h69
  have k85 := k71.call b82
  have s86 : W68.heap.size ≤ W83.heap.size := b82.size
  have g87 := bthen g73 b82
  clear h69 k71 g73 b82 c74 c75 c76 c77 c78 c79
  have c88 := k85.cell' (i := 0) rfl
  have c89 := k85.cell' (i := 1) rfl
  have c90 := k85.cell' (i := 2) rfl
  have c91 := k85.cell' (i := 3) rfl
  have c92 := k85.cell' (i := 4) rfl
  have c93 := k85.cell' (i := 5) rfl
  obtain ⟨Ax94, ax94, Cx94, cx94, Ex94, ex94, Hx94, hx94, e95⟩ := h81.form
  subst e95
  have c97 := fun o => (k85.alloc o).cell' (i := 0) rfl
  have c98 := fun o => (k85.alloc o).cell' (i := 1) rfl
  have c99 := fun o => (k85.alloc o).cell' (i := 2) rfl
  have c100 := fun o => (k85.alloc o).cell' (i := 3) rfl
  have c101 := fun o => (k85.alloc o).cell' (i := 4) rfl
  have c102 := fun o => (k85.alloc o).cell' (i := 5) rfl
  go_wp2_with fail
  obtain ⟨W103, e104⟩ : ∃ W, W = W83.alloc (.cells #[.int .i64 (r).p, .int .i64 (r).q.v, .slice Ax94 (r).q.f.length ax94, .slice Cx94 (r).q.t.length cx94, .slice Ex94 (r).d.length ex94, .slice Hx94 (r).m.length hx94] 29) := ⟨_, rfl⟩
  rw [← e104]
  have b105 : Below W83.heap.size W83 W103 := by rw [e104]; exact below_alloc _ _
  have k106 : Blk W103 W83.heap.size 29 #[.int .i64 (r).p, .int .i64 (r).q.v, .slice Ax94 (r).q.f.length ax94, .slice Cx94 (r).q.t.length cx94, .slice Ex94 (r).d.length ex94, .slice Hx94 (r).m.length hx94] := by rw [e104]; exact Blk.new _ _ _
  have s107 : W83.heap.size < W103.heap.size := by rw [e104]; simp
  clear e104
  have h108 := RpR.below (b105.mono (by omega)) h84
  have h109 := h81.below b105
  have k110 := k85.call b105
  have s111 : W83.heap.size ≤ W103.heap.size := b105.size
  have g112 := bthen g87 b105
  clear h84 h81 k85 g87 b105 c88 c89 c90 c91 c92 c93 c97 c98 c99 c100 c101 c102
  have c113 := k110.cell' (i := 0) rfl
  have c114 := k110.cell' (i := 1) rfl
  have c115 := k110.cell' (i := 2) rfl
  have c116 := k110.cell' (i := 3) rfl
  have c117 := k110.cell' (i := 4) rfl
  have c118 := k110.cell' (i := 5) rfl
  have c119 := k106.cell' (i := 0) rfl
  have c120 := k106.cell' (i := 1) rfl
  have c121 := k106.cell' (i := 2) rfl
  have c122 := k106.cell' (i := 3) rfl
  have c123 := k106.cell' (i := 4) rfl
  have c124 := k106.cell' (i := 5) rfl
  refine (implHasSimpleAtSource_any _ _ _ _ h109.rd rng_v).mono ?_; rintro e W125 ⟨rfl, b96⟩
  have h126 := RpR.below (b96.mono (by omega)) h108
  have h127 := h109.below b96
  have k128 := k110.call b96
  have k129 := k106.call b96
  have s130 : W103.heap.size ≤ W125.heap.size := b96.size
  have g131 := bthen g112 b96
  clear h108 h109 k110 k106 g112 b96 c113 c114 c115 c116 c117 c118 c119 c120 c121 c122 c123 c124
  have c132 := k128.cell' (i := 0) rfl
  have c133 := k128.cell' (i := 1) rfl
  have c134 := k128.cell' (i := 2) rfl
  have c135 := k128.cell' (i := 3) rfl
  have c136 := k128.cell' (i := 4) rfl
  have c137 := k128.cell' (i := 5) rfl
  have c138 := k129.cell' (i := 0) rfl
  have c139 := k129.cell' (i := 1) rfl
  have c140 := k129.cell' (i := 2) rfl
  have c141 := k129.cell' (i := 3) rfl
  have c142 := k129.cell' (i := 4) rfl
  have c143 := k129.cell' (i := 5) rfl
  go_wp2_with fail
  have b144 := drew_below W125
  have h145 := RpR.below (b144.mono (by omega)) h126
  have h146 := h127.below b144
  have k147 := k128.call b144
  have k148 := k129.call b144
  have s149 : W125.heap.size ≤ W125.drew.heap.size := b144.size
  have g150 := bthen g131 b144
  clear h126 h127 k128 k129 g131 b144 c132 c133 c134 c135 c136 c137 c138 c139 c140 c141 c142 c143
  have c151 := k147.cell' (i := 0) rfl
  have c152 := k147.cell' (i := 1) rfl
  have c153 := k147.cell' (i := 2) rfl
  have c154 := k147.cell' (i := 3) rfl
  have c155 := k147.cell' (i := 4) rfl
  have c156 := k147.cell' (i := 5) rfl
  have c157 := k148.cell' (i := 0) rfl
  have c158 := k148.cell' (i := 1) rfl
  have c159 := k148.cell' (i := 2) rfl
  have c160 := k148.cell' (i := 3) rfl
  have c161 := k148.cell' (i := 4) rfl
  have c162 := k148.cell' (i := 5) rfl
  go_region_held3 (fun W' => W'.cell? ⟨w.heap.size, 0, none⟩ = some (.int .i64 (r).p) ∧ W'.cell? ⟨w.heap.size, 1, none⟩ = some (.int .i64 (r).q.v) ∧ W'.cell? ⟨w.heap.size, 2, none⟩ = some (.slice Aur (r).q.f.length aur) ∧ W'.cell? ⟨w.heap.size, 3, none⟩ = some (.slice Cur (r).q.t.length cur) ∧ W'.cell? ⟨w.heap.size, 4, none⟩ = some (.slice Eur (r).d.length eur) ∧ W'.cell? ⟨w.heap.size, 5, none⟩ = some (.slice Hur (r).m.length hur) ∧ W'.cell? ⟨W83.heap.size, 0, none⟩ = some (.int .i64 (r).p) ∧ W'.cell? ⟨W83.heap.size, 1, none⟩ = some (.int .i64 (r).q.v) ∧ W'.cell? ⟨W83.heap.size, 2, none⟩ = some (.slice Ax94 (r).q.f.length ax94) ∧ W'.cell? ⟨W83.heap.size, 3, none⟩ = some (.slice Cx94 (r).q.t.length cx94) ∧ W'.cell? ⟨W83.heap.size, 4, none⟩ = some (.slice Ex94 (r).d.length ex94) ∧ W'.cell? ⟨W83.heap.size, 5, none⟩ = some (.slice Hx94 (r).m.length hx94))
    (first | exact ⟨c151, c152, c153, c154, c155, c156, c157, c158, c159, c160, c161, c162⟩ | exact ⟨c173, c174, c175, c176, c177, c178, c179, c180, c181, c182, c183, c184⟩ | exact ⟨c194, c195, c196, c197, c198, c199, c200, c201, c202, c203, c204, c205⟩)
    (first | (go_at_call 43; refine (rep_to _ _ _ (RpR.more (by omega) h145) (by omega)).mono ?_; rintro e W166 ⟨v163, rfl, h164, b165⟩; have h167 := RpR.below (b165.mono (by omega)) h145; have h168 := h146.below b165; have k169 := k147.call b165; have k170 := k148.call b165; have s171 : W125.drew.heap.size ≤ W166.heap.size := b165.size; have g172 := bthen g150 b165; clear h145 h146 k147 k148 g150 b165 c151 c152 c153 c154 c155 c156 c157 c158 c159 c160 c161 c162; have c173 := k169.cell' (i := 0) rfl; have c174 := k169.cell' (i := 1) rfl; have c175 := k169.cell' (i := 2) rfl; have c176 := k169.cell' (i := 3) rfl; have c177 := k169.cell' (i := 4) rfl; have c178 := k169.cell' (i := 5) rfl; have c179 := k170.cell' (i := 0) rfl; have c180 := k170.cell' (i := 1) rfl; have c181 := k170.cell' (i := 2) rfl; have c182 := k170.cell' (i := 3) rfl; have c183 := k170.cell' (i := 4) rfl; have c184 := k170.cell' (i := 5) rfl) | (go_at_call 19; refine (eqRep_any _ _ _ _ _ h168.rd h164.rd).mono ?_; rintro e W186 ⟨rfl, b185⟩; have h187 := RpR.below (b185.mono (by omega)) h167; have h188 := h168.below b185; have h189 := h164.below b185; have k190 := k169.call b185; have k191 := k170.call b185; have s192 : W166.heap.size ≤ W186.heap.size := b185.size; have g193 := bthen g172 b185; clear h167 h168 h164 k169 k170 g172 b185 c173 c174 c175 c176 c177 c178 c179 c180 c181 c182 c183 c184; have c194 := k190.cell' (i := 0) rfl; have c195 := k190.cell' (i := 1) rfl; have c196 := k190.cell' (i := 2) rfl; have c197 := k190.cell' (i := 3) rfl; have c198 := k190.cell' (i := 4) rfl; have c199 := k190.cell' (i := 5) rfl; have c200 := k191.cell' (i := 0) rfl; have c201 := k191.cell' (i := 1) rfl; have c202 := k191.cell' (i := 2) rfl; have c203 := k191.cell' (i := 3) rfl; have c204 := k191.cell' (i := 4) rfl; have c205 := k191.cell' (i := 5) rfl))
  clear h189
  go_wp2
  go_ret
  exact ⟨rfl, g193⟩
end Go.Proofs.Ytjhllgldllbaaaa

/- From a law's contract to its row, for every law of this seat: the arguments are opened, what is handed back is shut. -/
namespace Go.Proofs.Ytjhllgldllbaaaa
set_option linter.unusedVariables false
set_option linter.unusedSimpArgs false
open Go.RowKit Go.ChangeShapes Go.WideShapes Go.ChangeAt Go.Deep

theorem ownLaw : ownKnob Try.prog.godebug = none := by kernel_rfl
theorem laidOutLaw : laidOutB Try.prog = true := by kernel_rfl

section
variable {H : Type} {enc : TypeId × Value → H} {w : World}

/-- What is read of weights: each slice lies within the form's reach. -/
def Wt (t : TypeId) (d : DataW H) : Prop := ∀ n ∈ d.weights Try.prog t, n ≤ reachBytes
theorem Wt.slice {t e : TypeId} {elems spare : List (DataW H)} (h : Wt t (.slice elems spare)) (ht : Try.prog.underlying t = some (.slice e)) :
    (elems.length + spare.length) * Try.prog.bytesOf e ≤ reachBytes ∧ ∀ d ∈ elems, Wt e d := by
  have hall : ∀ (l : List (DataW H)) (d : DataW H), d ∈ l → ∀ n ∈ d.weights Try.prog e, n ∈ DataW.weightsAll Try.prog e l := by
    intro l
    induction l with
    | nil => intro d hd; simp at hd
    | cons a l ih =>
      intro d hd n hn
      simp only [DataW.weightsAll, List.mem_append]
      rcases List.mem_cons.1 hd with rfl | hd
      · exact .inl hn
      · exact .inr (ih d hd n hn)
  refine ⟨h _ (by simp [DataW.weights, ht]), fun d hd n hn => h n ?_⟩
  simp only [DataW.weights, ht, List.mem_cons, List.mem_append]
  exact .inr (.inl (hall _ _ hd _ hn))
theorem weightsEach_get {P : Program} : ∀ {ts : List TypeId} {ds : List (DataW H)} {j : Nat} {t : TypeId} {d : DataW H}, ts[j]? = some t → ds[j]? = some d → ∀ n ∈ d.weights P t, n ∈ DataW.weightsEach P ts ds := DataW.weights_mem_each
theorem Wt.struct {t : TypeId} {fs : Array Field} {ds : List (DataW H)} (h : Wt t (.agg ds)) (ht : Try.prog.underlying t = some (.struct fs)) {j : Nat} {f : Field} {d : DataW H} (hf : fs[j]? = some f) (hd : ds[j]? = some d) : Wt f.type d := by
  intro n hn
  refine h n ?_
  simp only [DataW.weights, ht]
  exact weightsEach_get (j := j) (t := f.type) (by simp [hf]) hd n hn

/-- The reading of an argument. -/
abbrev TrodA (enc : TypeId × Value → H) (w : World) (fuel : Nat) (t : TypeId) (cs : List Value) (x : DataW H × List MemPlace) : Prop := DataW.trod enc Try.prog w 0 (fun _ => true) true fuel t cs = some x

theorem i64_of_wf {n : Int} (h : (Lit.int .i64 n).wf = true) : I64 n := by
  simp only [Lit.wf, Bool.and_eq_true, decide_eq_true_eq] at h
  have e1 : IntKind.min .i64 = -9223372036854775808 := by decide
  have e2 : IntKind.max .i64 = 9223372036854775807 := by decide
  rw [e1, e2] at h
  exact h
theorem openI {t fuel : Nat} {cs : List Value} {x : DataW H × List MemPlace} (ht : Try.prog.underlying t = some (.int .i64)) (h : TrodA enc w fuel t cs x) : ∃ n, cs = [.int .i64 n] ∧ I64 n := by
  obtain ⟨n, h1, _, h3⟩ := DataW.trod_int ht h
  exact ⟨n, h1, i64_of_wf h3⟩

/-- A slice, whatever its elements. -/
theorem openSl {α : Type} [Inhabited α] {R : World → Nat → Nat → Nat → α → Prop} {t e fuel sz : Nat} {cs : List Value} {x : DataW H × List MemPlace} (ht : Try.prog.underlying t = some (.slice e)) (hsz : Try.prog.cellsOf e = sz) (hpos : 0 < sz)
    (hby : 8 ≤ Try.prog.bytesOf e)
    (hel : ∀ (fuel b o : Nat) (cs : List Value) (y : DataW H × List MemPlace), (∀ j, j < sz → w.cell? ⟨b, o + j, none⟩ = cs[j]?) → cs.length = sz → TrodA enc w fuel e cs y → Wt e y.1 → ∃ a, R w w.heap.size b o a)
    (h : TrodA enc w fuel t cs x) (hw : Wt t x.1) : ∃ v xs, cs = [v] ∧ SlG sz R w w.heap.size v (xs : List α) := by
  rcases open_slice ht h with ⟨rfl, rfl⟩ | ⟨a, len, cap, m, n, D, Pl, rfl, _, hl, hm, hmm, hx, hi⟩
  · exact ⟨_, [], rfl, SlG.nil⟩
  simp only [if_true] at hmm
  subst hmm
  rw [hx] at hw
  obtain ⟨h1, h2⟩ := Wt.slice hw ht
  rw [hsz] at hi
  have hlen : len ≤ 17592186044416 := by
    simp only [List.length_map, List.length_range, reachBytes] at h1
    have h3 : (len + (m - len)) * 8 ≤ (len + (m - len)) * Try.prog.bytesOf e := Nat.mul_le_mul_left _ hby
    omega
  rcases Nat.eq_zero_or_pos len with h0 | h0
  · subst h0
    exact ⟨_, [], rfl, some a, m, rfl, by simp, by simp only [maxLen] at hm; omega, by simp, fun h => absurd h (by simp)⟩
  · have hspot : a.spot = none := by
      obtain ⟨cs', hc, _⟩ := hi 0 (by omega)
      obtain ⟨_, hlc, hat⟩ := World.cells?_some hc
      have h4 := hat 0 hpos
      rw [List.getElem?_eq_getElem (by omega)] at h4
      have e : (a.add (0 * sz)).add 0 = a := by simp [Addr.add]
      rw [e] at h4
      unfold World.cell? at h4
      split at h4
      · by_cases hs : a.spot.isSome
        · rw [if_pos hs] at h4; cases h4
        · simpa using hs
      · cases h4
    obtain ⟨b, o, sp⟩ := a
    simp only at hspot
    subst hspot
    have hadd : ∀ i, (⟨b, o, none⟩ : Addr).add i = ⟨b, o + i, none⟩ := by
      intro i; unfold Addr.add; split <;> simp_all
    have hR : ∀ i, i < len → ∃ y : α, R w w.heap.size b (o + i * sz) y := by
      intro i hil
      obtain ⟨cs', hc, htr⟩ := hi i (by omega)
      obtain ⟨_, hlc, hat⟩ := World.cells?_some hc
      refine hel n b (o + i * sz) cs' _ (fun j hj => ?_) hlc htr (h2 _ (by simp only [List.mem_map, List.mem_range]; exact ⟨i, hil, rfl⟩))
      have := hat j hj
      rwa [hadd, show (⟨b, o + i * sz, none⟩ : Addr).add j = ⟨b, o + i * sz + j, none⟩ from by unfold Addr.add; split <;> simp_all] at this
    obtain ⟨f, hf⟩ := choose_lt hR
    have hb : b < w.heap.size := by
      obtain ⟨cs', hc, _⟩ := hi 0 (by omega)
      obtain ⟨_, hlc, hat⟩ := World.cells?_some hc
      have h4 := hat 0 hpos
      rw [List.getElem?_eq_getElem (by omega)] at h4
      have := World.block_lt_of_cell? _ _ h4
      simpa [hadd, Addr.add] using this
    refine ⟨_, (List.range len).map f, rfl, some ⟨b, o, none⟩, m, by simp, by simpa using hl, by simp only [maxLen] at hm; omega, by simpa using hlen, fun _ => ⟨b, o, rfl, hb, fun j y hj => ?_⟩⟩
    rw [List.getElem?_map, Option.map_eq_some_iff] at hj
    obtain ⟨i, hi', rfl⟩ := hj
    have hjl := lt_of_some hi'
    simp only [List.length_range] at hjl
    rw [List.getElem?_range hjl] at hi'
    injection hi' with hi'
    subst hi'
    exact hf j hjl
end

/-- The arguments read behind the call as before it. -/
theorem trodAll_kept {H : Type} {enc : TypeId × Value → H} {W W' : World} {sp : Nat → Bool} (hb : Below W.heap.size W W') : ∀ {ts : List TypeId} {vs : List Value} {ds : List (DataW H)} {ps : List MemPlace},
    (∀ t ∈ ts, Try.prog.readableRec t = true ∧ t < Try.prog.types.size) → DataW.TrodAll enc Try.prog W 0 (fun _ => true) true ts vs ds ps → (∀ x ∈ ps, x.block < W.heap.size) → (∀ x ∈ ps, sp x.block = true) → DataW.TrodAll enc Try.prog W' 0 sp true ts vs ds ps
  | [], _, _, _, _, h, _, _ => by
    obtain ⟨rfl, rfl, rfl⟩ := trodAll_nil h
    exact trodAll_mk0
  | t :: ts, vs, ds, ps, hr, h, hlt, hsp => by
    obtain ⟨v, vs', d, ds', p, q, rfl, rfl, rfl, h0, h1⟩ := trodAll_cons h
    have hr0 := hr t (by simp)
    refine trodAll_cons_mk ?_ ?_
    · exact WideElems.Trod_stays laidOutLaw hr0.1 hr0.2 h0 (fun x hx => hb.same (hlt x (by simp [hx]))) (fun x hx => hsp x (by simp [hx]))
    · exact trodAll_kept hb (fun t ht => hr t (by simp [ht])) h1 (fun x hx => hlt x (by simp [hx])) (fun x hx => hsp x (by simp [hx]))

set_option maxRecDepth 100000 in
/-- The row's step for a law: true comes back, and nothing that was there has turned. -/
theorem lift_law {H : Type} {enc : TypeId × Value → H} {os : Os} {f : FuncId} {fn : Func} {s : ChangeSpec} (started : os.Started) (noInit : Try.checked.prog.inits.idxOf? f = none) (hfn : Try.checked.prog.funcs[f]? = some fn)
    (witness : ∃ (w : World) (tape : Tape) (i : Input), w.os = os ∧ (w.forCall tape i).Shaped Try.checked.prog ∧ i.vars = [] ∧ Input.okWide Try.checked.prog (w.forCall tape i) .any w.heap.size f i ∧
      s.pre6 enc Try.checked.prog fn [] false (w.forCall tape i).memory i.args ∧ ({} : Assume).holds Try.checked.prog (lone (Frame.enter Try.checked.prog f i.args .normal) [] (w.forCall tape i)))
    (hvars : s.vars = []) (hres : fn.resultTypes = #[4])
    (hread : ∀ t ∈ fn.params.toList, Try.prog.readableRec t = true ∧ t < Try.prog.types.size)
    (hspec : ∀ ds : List (DataW H), ds.length = fn.params.size → s.fn H (ds ++ []) = { results := [.lit (.bool true)], args := ds })
    (hcalls : ∀ (W : World) (args : Array Value) (ds : List (DataW H)) (ps : List MemPlace) (base : Nat), (∀ (j : Nat) t v, fn.params[j]? = some t → args[j]? = some v → Value.okWide Try.prog W .any base t v) → DataW.TrodAll enc Try.prog W 0 (fun _ => true) true fn.params.toList args.toList ds ps →
      (∀ (j : Nat) t d, fn.params.toList[j]? = some t → ds[j]? = some d → Wt t d) → Calls Try.prog f args W fun e W' => e = .returned (.bool true) ∧ Below W.heap.size W W') :
    ReturnsInHanded {} Try.checked os f .any (s.pre6 enc Try.prog fn [] false) (s.post enc Try.prog fn false true false false) := by
  refine returnsInHanded_of_change_sized (C := Try.checked) ownLaw started noInit hfn witness ?_
  intro W base args ds gs before hval hW _ hsz _
  have hW' := hW
  obtain ⟨p, q, hA, hV, rfl, hfz, hnd⟩ := hW
  rw [hvars] at hV
  obtain ⟨rfl, rfl⟩ := trodVars_none hV
  have hA' : DataW.TrodAll enc Try.prog W 0 (fun _ => true) true fn.params.toList args.toList ds p := hA
  have hlen : ds.length = fn.params.size := by
    have h : ∀ {ts : List TypeId} {vs : List Value} {ds : List (DataW H)} {ps : List MemPlace}, DataW.TrodAll enc Try.prog W 0 (fun _ => true) true ts vs ds ps → ds.length = ts.length := by
      intro ts
      induction ts with
      | nil => intro vs ds ps h; obtain ⟨_, rfl, _⟩ := trodAll_nil h; rfl
      | cons t ts ih => intro vs ds ps h; obtain ⟨v, vs', d, ds', p, q, _, rfl, _, _, h1⟩ := trodAll_cons h; simp [ih h1]
    simpa using h hA'
  have hwt : ∀ (j : Nat) t d, fn.params.toList[j]? = some t → ds[j]? = some d → Wt t d := by
    intro j t d hj hd n hn
    have h := List.all_eq_true.1 hsz n (weightsEach_get (j := j) (t := t) (d := d) (by rw [List.getElem?_append_left (lt_of_some hj)]; exact hj) (by rw [List.getElem?_append_left (lt_of_some hd)]; exact hd) n hn)
    exact (decide_eq_true_iff (p := n ≤ reachBytes)).1 h
  refine (hcalls W args ds p base hval hA' hwt).mono fun e W' ⟨he, hb⟩ => ⟨_, he, ?_⟩
  have hlt : ∀ x ∈ p, x.block < W.heap.size := fun x hx => hW'.lt x (by simp [hx])
  have hsp := hspec ds hlen
  refine ⟨ds, [], _, [], p, [], hW', ?_, ?_, ?_, World.keptBut_mono (fun x hx => ⟨hx, ?_⟩) (hb.frame (· ∈ p ++ [])), fun h => by cases h⟩
  · rw [hres, hsp]
    exact trodAll_mk1 (shut_bool Try.underlying4 _)
  · rw [hsp]
    exact trodAll_kept hb hread hA' hlt (fun x hx => by simpa using hlt x hx)
  · rw [hvars, hsp]; rfl
  · simpa using hx

/-- A field of a struct. -/
theorem structAt {H : Type} {enc : TypeId × Value → H} {w : World} {t T off fuel : Nat} {fs : Array Field} {cs : List Value} {x : DataW H × List MemPlace} (ht : Try.prog.underlying t = some (.struct fs)) (h : TrodA enc w fuel t cs x) (hw : Wt t x.1) (j : Nat)
    (hj : (fs[j]?).map (fun f => (f.type, f.offset)) = some (T, off)) : ∃ n y, TrodA enc w n T ((cs.drop off).take (Try.prog.cellsOf T)) y ∧ Wt T y.1 := by
  obtain ⟨xs, n, _, hx, _, hxl, hf⟩ := DataW.trod_struct ht h
  obtain ⟨f, hfj, e⟩ := Option.map_eq_some_iff.1 hj
  injection e with e1 e2
  subst e1 e2
  have hjl : j < xs.length := by rw [hxl]; exact (Array.getElem?_eq_some_iff.1 hfj).1
  have h1 := hf j f hfj
  rw [List.getElem?_eq_getElem hjl] at h1
  refine ⟨n, xs[j], h1, ?_⟩
  rw [hx] at hw
  exact Wt.struct hw ht hfj (by simp [List.getElem?_eq_getElem hjl])
theorem cellsInt : Try.prog.cellsOf 3 = 1 := by kernel_rfl
theorem cellsInts : Try.prog.cellsOf 22 = 1 := by kernel_rfl
theorem intAt {H : Type} {enc : TypeId × Value → H} {w : World} {t off fuel : Nat} {fs : Array Field} {cs : List Value} {x : DataW H × List MemPlace} (ht : Try.prog.underlying t = some (.struct fs)) (h : TrodA enc w fuel t cs x) (hw : Wt t x.1) (j : Nat)
    (hj : (fs[j]?).map (fun f => (f.type, f.offset)) = some (3, off)) : ∃ n, cs[off]? = some (.int .i64 n) ∧ I64 n := by
  obtain ⟨n, y, h1, _⟩ := structAt ht h hw j hj
  rw [cellsInt] at h1
  obtain ⟨k, e, r⟩ := openI Try.underlying3 h1
  refine ⟨k, ?_, r⟩
  have : ((cs.drop off).take 1)[0]? = some (.int .i64 k) := by rw [e]; rfl
  simpa [List.getElem?_take, List.getElem?_drop] using this

theorem openBar {H : Type} {enc : TypeId × Value → H} {w : World} {t : TypeId} {fs : Array Field} (ht : Try.prog.underlying t = some (.struct fs))
    (h0 : (fs[0]?).map (fun f => (f.type, f.offset)) = some (3, 0)) (h1 : (fs[1]?).map (fun f => (f.type, f.offset)) = some (3, 1)) (h2 : (fs[2]?).map (fun f => (f.type, f.offset)) = some (3, 2)) :
    ∀ (fuel b o : Nat) (cs : List Value) (y : DataW H × List MemPlace), (∀ j, j < 3 → w.cell? ⟨b, o + j, none⟩ = cs[j]?) → cs.length = 3 → TrodA enc w fuel t cs y → Wt t y.1 → ∃ a, RBar w w.heap.size b o a := by
  intro fuel b o cs y hc hl h hw
  obtain ⟨n0, e0, r0⟩ := intAt ht h hw 0 h0
  obtain ⟨n1, e1, r1⟩ := intAt ht h hw 1 h1
  obtain ⟨n2, e2, r2⟩ := intAt ht h hw 2 h2
  exact ⟨(n0, n1, n2), ⟨by rw [← e0]; simpa using hc 0 (by omega), by rw [← e1]; exact hc 1 (by omega), by rw [← e2]; exact hc 2 (by omega)⟩, r0, r1, r2⟩

set_option maxRecDepth 100000 in
/-- Arguments are values of their types; their cells are read. -/
theorem argSl {H : Type} {enc : TypeId × Value → H} {w : World} {t e base : Nat} {v : Value} {d : DataW H} {p : List MemPlace} (ht : Try.prog.underlying t = some (.slice e)) (hv : Value.okWide Try.prog w .any base t v) (h : DataW.Trod enc Try.prog w 0 (fun _ => true) true t v d p) :
    ∃ fuel, TrodA enc w fuel t [v] (d, p) := by
  obtain ⟨a, l, c, rfl⟩ := okWide_slice ht hv
  obtain ⟨fuel, h⟩ := h
  have e : (Value.slice a l c).cells.toList = [.slice a l c] := rfl
  rw [e] at h
  exact ⟨fuel, h⟩

set_option maxRecDepth 100000 in
theorem argInt {H : Type} {enc : TypeId × Value → H} {w : World} {base : Nat} {v : Value} {d : DataW H} {p : List MemPlace} (hv : Value.okWide Try.prog w .any base 3 v) (h : DataW.Trod enc Try.prog w 0 (fun _ => true) true 3 v d p) : ∃ x, v = .int .i64 x ∧ I64 x := by
  obtain ⟨x, rfl, _, _, hw⟩ := open_int Try.underlying3 hv h
  exact ⟨x, rfl, i64_of_wf hw⟩
set_option maxRecDepth 100000 in
theorem elInt {H : Type} {enc : TypeId × Value → H} {w : World} : ∀ (fuel b o : Nat) (cs : List Value) (y : DataW H × List MemPlace), (∀ j, j < 1 → w.cell? ⟨b, o + j, none⟩ = cs[j]?) → cs.length = 1 → TrodA enc w fuel 3 cs y → Wt 3 y.1 → ∃ a, RI w w.heap.size b o a := by
  intro fuel b o cs y hc hl h _
  obtain ⟨n, rfl, r⟩ := openI Try.underlying3 h
  exact ⟨n, by simpa using hc 0 (by omega), r⟩
set_option maxRecDepth 100000 in
theorem openInts {H : Type} {enc : TypeId × Value → H} {w : World} {fuel : Nat} {cs : List Value} {x : DataW H × List MemPlace} (h : TrodA enc w fuel 22 cs x) (hw : Wt 22 x.1) : ∃ v xs, cs = [v] ∧ SlI w w.heap.size v xs :=
  openSl Try.underlying22 (sz := 1) cellsInt (by decide) (of_decide_eq_true (by kernel_rfl)) elInt h hw
set_option maxRecDepth 100000 in
theorem argInts {H : Type} {enc : TypeId × Value → H} {w : World} {base : Nat} {v : Value} {d : DataW H} {p : List MemPlace} (hv : Value.okWide Try.prog w .any base 22 v) (h : DataW.Trod enc Try.prog w 0 (fun _ => true) true 22 v d p) (hw : Wt 22 d) : ∃ xs, SlI w w.heap.size v xs := by
  obtain ⟨f, h⟩ := argSl Try.underlying22 hv h
  obtain ⟨u, xs, e, hx⟩ := openInts h hw
  injection e with e
  subst e
  exact ⟨xs, hx⟩
set_option maxRecDepth 100000 in
/-- A field of one cell. -/
theorem cellAt {H : Type} {enc : TypeId × Value → H} {w : World} {t T off fuel : Nat} {fs : Array Field} {cs : List Value} {x : DataW H × List MemPlace} (ht : Try.prog.underlying t = some (.struct fs)) (h : TrodA enc w fuel t cs x) (hw : Wt t x.1) (j : Nat)
    (hj : (fs[j]?).map (fun f => (f.type, f.offset)) = some (T, off)) (hT : Try.prog.cellsOf T = 1) {α : Type} {R : Value → α → Prop} (hR : ∀ n cs' y, TrodA enc w n T cs' y → Wt T y.1 → ∃ v a, cs' = [v] ∧ R v a) : ∃ v a, cs[off]? = some v ∧ R v a := by
  obtain ⟨n, y, h1, h2⟩ := structAt ht h hw j hj
  rw [hT] at h1
  obtain ⟨v, a, e, r⟩ := hR n _ y h1 h2
  refine ⟨v, a, ?_, r⟩
  have : ((cs.drop off).take 1)[0]? = some v := by rw [e]; rfl
  simpa [List.getElem?_take, List.getElem?_drop] using this
set_option maxRecDepth 100000 in
theorem argAgg {H : Type} {enc : TypeId × Value → H} {w : World} {t base : Nat} {fs : Array Field} {v : Value} {d : DataW H} {p : List MemPlace} (ht : Try.prog.underlying t = some (.struct fs)) (hv : Value.okWide Try.prog w .any base t v) (h : DataW.Trod enc Try.prog w 0 (fun _ => true) true t v d p) :
    ∃ fuel cs, v = .agg cs ∧ cs.size = Try.prog.cellsOf t ∧ TrodA enc w fuel t cs.toList (d, p) := by
  obtain ⟨cs, rfl, hsz⟩ := okWide_struct ht hv
  obtain ⟨fuel, h⟩ := h
  exact ⟨fuel, cs, rfl, hsz, h⟩
end Go.Proofs.Ytjhllgldllbaaaa

/- Matrices among the arguments of a law. -/
namespace Go.Proofs.Ytjhllgldllbaaaa
set_option linter.unusedVariables false
set_option linter.unusedSimpArgs false
open Go.RowKit Go.ChangeShapes Go.WideShapes Go.ChangeAt Go.Deep

set_option maxRecDepth 100000 in
theorem mxAt {H : Type} {enc : TypeId × Value → H} {w : World} {fuel : Nat} {cs : List Value} {x : DataW H × List MemPlace} (h : TrodA enc w fuel 135 cs x) (hw : Wt 135 x.1) :
    ∃ (m : Mx) (s : Value), cs[0]? = some (.int .i64 m.r) ∧ cs[1]? = some (.int .i64 m.c) ∧ cs[2]? = some s ∧ SlI w w.heap.size s m.a ∧ I64 m.r ∧ I64 m.c := by
  obtain ⟨n, e0, r0⟩ := intAt Try.underlying135 h hw 0 rfl
  obtain ⟨k, e1, r1⟩ := intAt Try.underlying135 h hw 1 rfl
  obtain ⟨vf, f, e2, hf⟩ := cellAt Try.underlying135 h hw 2 rfl cellsInts (R := fun v a => SlI w w.heap.size v a) (fun _ _ _ h h' => openInts h h')
  exact ⟨⟨n, k, f⟩, vf, e0, e1, e2, hf, r0, r1⟩
set_option maxRecDepth 100000 in
theorem argMat {H : Type} {enc : TypeId × Value → H} {w : World} {base : Nat} {v : Value} {d : DataW H} {p : List MemPlace} (hv : Value.okWide Try.prog w .any base 135 v) (h : DataW.Trod enc Try.prog w 0 (fun _ => true) true 135 v d p) (hw : Wt 135 d) : ∃ m, MxR w w.heap.size v m := by
  obtain ⟨fuel, cs, rfl, hsz, h⟩ := argAgg Try.underlying135 hv h
  obtain ⟨m, s, e0, e1, e2, hs, r0, r1⟩ := mxAt h hw
  refine ⟨m, s, ?_, hs, r0, r1⟩
  have hs : cs.size = 3 := hsz.trans (by kernel_rfl)
  congr 1
  apply Array.ext_getElem?
  intro i
  match i with
  | 0 => simpa using e0
  | 1 => simpa using e1
  | 2 => simpa using e2
  | i + 3 => rw [Array.getElem?_eq_none (by omega), Array.getElem?_eq_none (by simp)]
end Go.Proofs.Ytjhllgldllbaaaa
