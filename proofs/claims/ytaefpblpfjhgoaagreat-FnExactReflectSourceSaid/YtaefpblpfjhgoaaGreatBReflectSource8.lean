/- FnExactReflectSource: for every argument the program's function returns what the reference's returns. Part 8 of 14 of the proof: RfI, AddM, Plus, Elim, Mul, ElimS. No condition. -/
import Derived.Test.YtaefpblpfjhgoaaGreatBReflectSource7
/- The program's (Rep).reflected. -/
namespace Go.Proofs.YtaefpblpfjhgoaaGreat
set_option linter.unusedVariables false
set_option linter.unusedSimpArgs false
open Go.RowKit

theorem rvQ_len (q : Qv) (v : Int) : (rvQ q v).f.length = q.f.length ∧ (rvQ q v).t.length = q.f.length ∧ (rvQ q v).v = q.v := ⟨rowF_length _ _, rowF_length _ _, rfl⟩
theorem rfP_yes {x : Rp} {v : Int} {K : Nat} {G : Nat → Mx} (h : areDims (rvQ x.q v) (x.d.set v.toNat K) = true) : rfP x v K G = (rfK x v K G x.q.f.length, true) := by rw [rfP, if_pos h]
theorem rfP_no {x : Rp} {v : Int} {K : Nat} {G : Nat → Mx} (h : areDims (rvQ x.q v) (x.d.set v.toNat K) = false) : rfP x v K G = (rp0, false) := by rw [rfP, if_neg (by rw [h]; decide)]
theorem atN_le {x : Rp} {v : Int} (hx : isRep x = true) : ∀ k, k ≤ x.q.f.length → atN x v k ≤ 4 * k
  | 0, _ => by simp [atN]
  | k + 1, hk => by
    have ih := atN_le (v := v) hx k (by omega)
    obtain ⟨m, nf, nt, yf, yt, em, ef, et, df, dt, eM, _, b1, b2, _⟩ := isRep_at hx (show k < x.q.f.length by omega)
    obtain ⟨o1, o2⟩ := oth_at (v := v) ef et df dt
    rw [atN]
    split
    · rename_i h
      rw [tch_of ef et] at h
      simp only [Bool.or_eq_true, decide_eq_true_eq] at h
      rcases h with h | h
      · rw [o2 h]; omega
      · rw [o1 h]; omega
    · omega

theorem RepO.dims {w : World} {lo hi : Nat} {p v : Int} {f t d m : Value} {x : Rp} (h : RepO w lo hi (.agg #[.int .i64 p, .int .i64 v, f, t, d, m]) x) : SlI w w.heap.size d x.d := by
  obtain ⟨f1, t1, d1, m1, vs, e, hO, hvl, hF, _⟩ := h
  simp only [Value.agg.injEq, Array.mk.injEq, List.cons.injEq, and_true] at e
  obtain ⟨_, _, rfl, rfl, rfl, rfl⟩ := e
  exact (hF.1 (d, x.d) (by simp)).rd
theorem oth_two {y : Rp} {nv k nf nt yf yt : Nat} (ef : y.q.f[k]? = some (nf : Int)) (et : y.q.t[k]? = some (nt : Int)) (df : y.d[nf]? = some (yf : Int)) (dt : y.d[nt]? = some (yt : Int)) (b1 : yf ≤ 4) (b2 : yt ≤ 4) (h : tch y.q nv k = true) :
    ∃ u s : Nat, (nf : Int) + nt - nv = u ∧ y.d[u]? = some (s : Int) ∧ othN y nv k = s ∧ s ≤ 4 ∧ u < y.d.length := by
  obtain ⟨o1, o2⟩ := oth_at (v := (nv : Int)) ef et df dt
  rw [tch_of ef et] at h
  simp only [Bool.or_eq_true, decide_eq_true_eq] at h
  rcases h with h | h
  · exact ⟨nt, yt, by omega, dt, o2 h, b2, lt_of_some dt⟩
  · exact ⟨nf, yf, by omega, df, o1 h, b1, lt_of_some df⟩
set_option maxHeartbeats 6400000 in
set_option maxRecDepth 100000 in
theorem reflSrc_any (ru mv : Value) (y : Rp) (v : Int) (K : Nat) (F : Nat → Nat → Int) (w0 : World) (hr : RpR w0 w0.heap.size ru y) (hm : MxR w0 w0.heap.size mv (mxF K (atN y v y.q.f.length) F)) (hy : isRep y = true) (hv : endV y.q.t y.q v = true ∨ endV y.q.f y.q v = true) (hK : K ≤ 1000) :
    Calls Tryz.prog 35 #[ru, .int .i64 v, mv, .func (.func 37) #[] #[]] w0 fun e w' => ∃ r, e = .returned (.tuple #[r, .bool (rfP y v K (gSrc y v K F)).2]) ∧ RepO w' w0.heap.size w'.heap.size r (rfP y v K (gSrc y v K F)).1 ∧ Below w0.heap.size w0 w' := by
  have hdm := (isRep_t.1 hy).2.1
  have hq : isQ y.q = true := (areDims_t.1 hdm).1
  have hml : y.m.length = y.q.f.length := (isRep_t.1 hy).2.2.1
  have hn6 : y.q.f.length ≤ 6 := (isQ_t.1 hq).2.2.1
  have hlt : y.q.f.length = y.q.t.length := (isQ_t.1 hq).2.1
  have hN := atN_le (v := v) hy _ (Nat.le_refl _)
  obtain ⟨nv, Cv, env, hnvl, _, _, _, hnv5⟩ : ∃ n C : Nat, v = (n : Int) ∧ n < y.d.length ∧ y.d[n]? = some (C : Int) ∧ dAt y.d v = (C : Int) ∧ C ≤ 4 ∧ n ≤ 5 := by
    rcases hv with hv | hv <;> exact vert_at hy hv
  have hr' := hr
  have hm' := hm
  obtain ⟨A, a, C, c, E, e, H, h, rfl, hqr, hdr, hmr, hp, ld, lm⟩ := hr.open_
  obtain ⟨MA, mc, rfl⟩ := hm.form
  clear hr hm
  simp only [mxF] at hm' ⊢
  rw [flat_length] at hm' ⊢
  obtain ⟨ML, hML⟩ : ∃ n, K * atN y v y.q.f.length = n := ⟨_, rfl⟩
  rw [hML] at hm' ⊢
  obtain ⟨N, hNN⟩ : ∃ n, atN y v y.q.f.length = n := ⟨_, rfl⟩
  rw [hNN] at hm' hN hML ⊢
  have HNN := Lib.hid hNN
  have HML := Lib.hid hML
  obtain ⟨W, hW⟩ : ∃ W, W = ((w0.alloc (.cells #[.int .i64 y.p, .int .i64 y.q.v, .slice A y.q.f.length a, .slice C y.q.t.length c, .slice E y.d.length e, .slice H y.m.length h] 32)).alloc (.cells #[.int .i64 K, .int .i64 N, .slice MA ML mc] 50)).alloc (.cells #[.int .i64 0, .int .i64 0, .slice none 0 0, .slice none 0 0, .slice none 0 0, .slice none 0 0] 32) := ⟨_, rfl⟩
  have g0 : Below w0.heap.size w0 W := by rw [hW]; exact (((Below.refl _ _).alloc (Nat.le_refl _) _).alloc (by simp) _).alloc (by simp; omega) _
  have k1 : Blk W w0.heap.size 32 #[.int .i64 y.p, .int .i64 y.q.v, .slice A y.q.f.length a, .slice C y.q.t.length c, .slice E y.d.length e, .slice H y.m.length h] := by rw [hW]; exact ((Blk.new _ _ _).alloc _).alloc _
  have k2 : Blk W (w0.heap.size + 1) 50 #[.int .i64 K, .int .i64 N, .slice MA ML mc] := by
    rw [hW]
    have := (Blk.new (w0.alloc (.cells #[.int .i64 y.p, .int .i64 y.q.v, .slice A y.q.f.length a, .slice C y.q.t.length c, .slice E y.d.length e, .slice H y.m.length h] 32)) 50 #[.int .i64 K, .int .i64 N, .slice MA ML mc]).alloc (.cells #[.int .i64 0, .int .i64 0, .slice none 0 0, .slice none 0 0, .slice none 0 0, .slice none 0 0] 32)
    simpa only [World.size_alloc] using this
  have k3 : Blk W (w0.heap.size + 1 + 1) 32 #[.int .i64 0, .int .i64 0, .slice none 0 0, .slice none 0 0, .slice none 0 0, .slice none 0 0] := by
    rw [hW]
    have := Blk.new ((w0.alloc (.cells #[.int .i64 y.p, .int .i64 y.q.v, .slice A y.q.f.length a, .slice C y.q.t.length c, .slice E y.d.length e, .slice H y.m.length h] 32)).alloc (.cells #[.int .i64 K, .int .i64 N, .slice MA ML mc] 50)) 32 #[.int .i64 0, .int .i64 0, .slice none 0 0, .slice none 0 0, .slice none 0 0, .slice none 0 0]
    simpa only [World.size_alloc] using this
  have sz : W.heap.size = w0.heap.size + 1 + 1 + 1 := by rw [hW]; simp
  have SZ := Lib.hid sz
  have HRR := Lib.hid (RpR.next g0 hr')
  have HQR := Lib.hid (QvR.next g0 hqr)
  have HDR := Lib.hid (SlI.next g0 hdr)
  have HMR := Lib.hid (MxR.next g0 hm')
  have HY := Lib.hid hy
  have HQ := Lib.hid hq
  have HML2 := Lib.hid hml
  have HLT := Lib.hid hlt
  have HVV := Lib.hid hv
  clear hr' hqr hdr hmr hm' hy hq hml hlt hML hNN hdm sz hv
  subst env
  have c1 := k1.cell' (i := 1) rfl
  have c2 := k1.cell' (i := 2) rfl
  have c3 := k1.cell' (i := 3) rfl
  go_enter Tryz.func35, Tryz.ntmps35
  go_wp2_with fail
  rw [← hW]; clear hW
  refine (implReverseAt_any _ y.q nv _ HQR.out HQ.out HVV.out).mono ?_; rintro er w1 ⟨vq, rfl, hQr, hb1⟩
  obtain ⟨QA, qa, QB, qb, ev⟩ := hQr.form
  obtain ⟨l1, l2, l3⟩ := rvQ_len y.q nv
  rw [l1, l2, l3] at ev
  subst ev
  obtain ⟨W2, hW2⟩ : ∃ u, w1.alloc (.cells #[.int .i64 y.q.v, .slice QA y.q.f.length qa, .slice QB y.q.f.length qb] 29) = u := ⟨_, rfl⟩
  have ga : Below w1.heap.size w1 W2 := by rw [← hW2]; exact below_alloc _ _
  have kq : Blk W2 w1.heap.size 29 #[.int .i64 y.q.v, .slice QA y.q.f.length qa, .slice QB y.q.f.length qb] := by rw [← hW2]; exact Blk.new _ _ _
  have g12 := bthen hb1 ga
  have k12 := k1.call g12
  clear c1 c2 c3 l1 l2 l3
  have c0 := k12.cell' (i := 0) rfl
  have c1 := k12.cell' (i := 1) rfl
  have c2 := k12.cell' (i := 2) rfl
  have c3 := k12.cell' (i := 3) rfl
  have c4 := k12.cell' (i := 4) rfl
  have c5 := k12.cell' (i := 5) rfl
  have HQ2 := Lib.hid (hQr.below ga)
  have s1 := hb1.size
  have s2 := ga.size
  have lq := kq.lt
  clear hQr ga hb1 k12
  go_wp2_with fail
  clear hW2
  refine (repClone_any _ y _ (RpR.next g12 HRR.out) (by have := HML2.out; omega)).mono ?_; rintro er w3 ⟨vr, rfl, hO, hb3⟩
  obtain ⟨A3, a3, C3, c3', E3, e3, HM, h3, ev⟩ := hO.form
  subst ev
  obtain ⟨gE, ce, eE, hE1, hE2, dc, df, _⟩ := hO.dimAt hnvl
  simp only [Value.slice.injEq, true_and] at eE
  obtain ⟨eE, ece⟩ := eE
  subst eE
  subst ece
  have HHM := Lib.hid (show ∀ (j : Nat) (m : Mx), y.m[j]? = some m → ∃ gH, HM = some ⟨gH, 0, none⟩ ∧ W2.heap.size ≤ gH ∧ gH < w3.heap.size from fun j m hj => by
    obtain ⟨g, c, s, e, h1, h2, _⟩ := hO.mxAt hj
    simp only [Value.slice.injEq, true_and] at e
    exact ⟨g, e.1, h1, h2⟩)
  obtain ⟨W4, hW4⟩ : ∃ u, w3.alloc (.cells #[.int .i64 y.p, .int .i64 y.q.v, .slice A3 y.q.f.length a3, .slice C3 y.q.t.length c3', .slice (some ⟨gE, 0, none⟩) y.d.length e3, .slice HM y.m.length h3] 32) = u := ⟨_, rfl⟩
  have ga : Below w3.heap.size w3 W4 := by rw [← hW4]; exact below_alloc _ _
  have kO4 : Blk W4 w3.heap.size 32 #[.int .i64 y.p, .int .i64 y.q.v, .slice A3 y.q.f.length a3, .slice C3 y.q.t.length c3', .slice (some ⟨gE, 0, none⟩) y.d.length e3, .slice HM y.m.length h3] := by rw [← hW4]; exact Blk.new _ _ _
  have hb34 := bthen hb3 ga
  have s3 := hb3.size
  have s4 := ga.size
  have kq4 := kq.call hb34
  have g14 := bthen g12 hb34
  have k14 := k2.call g14
  clear c0 c1 c2 c3 c4 c5
  have q0 := kq4.cell' (i := 0) rfl
  have q1 := kq4.cell' (i := 1) rfl
  have q2 := kq4.cell' (i := 2) rfl
  have o1 := kO4.cell' (i := 1) rfl
  have o2 := kO4.cell' (i := 2) rfl
  have o3 := kO4.cell' (i := 3) rfl
  have o4 := kO4.cell' (i := 4) rfl
  have of_ := kO4.frozen
  have m0 := k14.cell' (i := 0) rfl
  obtain ⟨W5, hW5⟩ : ∃ u, ((W4.setCell ⟨w3.heap.size, 1, none⟩ (.int .i64 y.q.v)).setCell ⟨w3.heap.size, 2, none⟩ (.slice QA y.q.f.length qa)).setCell ⟨w3.heap.size, 3, none⟩ (.slice QB y.q.f.length qb) = u := ⟨_, rfl⟩
  have hc5 : Chg w3.heap.size (w3.heap.size + 1) W4 W5 := by rw [← hW5]; exact ((chg_set1 _ _ _ _).trans (chg_set1 _ _ _ _)).trans (chg_set1 _ _ _ _)
  have k5 : Blk W5 w3.heap.size 32 #[.int .i64 y.p, .int .i64 y.q.v, .slice QA y.q.f.length qa, .slice QB y.q.f.length qb, .slice (some ⟨gE, 0, none⟩) y.d.length e3, .slice HM y.m.length h3] := by
    rw [← hW5]
    exact ((kO4.set_ 1 (.int .i64 y.q.v)).set_ 2 (.slice QA y.q.f.length qa)).set_ 3 (.slice QB y.q.f.length qb)
  have hO5 : RepO W5 W2.heap.size w3.heap.size (.agg #[.int .i64 y.p, .int .i64 y.q.v, .slice A3 y.q.f.length a3, .slice C3 y.q.t.length c3', .slice (some ⟨gE, 0, none⟩) y.d.length e3, .slice HM y.m.length h3]) y := (hO.below ga).chg hc5 (.inl (Nat.le_refl _))
  have hQ5 := ((HQ2.out.below hb34).chg hc5 (.inl (by omega)))
  have hO6 := hO5.setQ hQ5 (by omega) (by omega) (by omega)
  obtain ⟨W6, hW6⟩ : ∃ u, W5.setCell ⟨gE, nv, none⟩ (.int .i64 K) = u := ⟨_, rfl⟩
  have hO7 := (hO6.setDim (j := nv) (y := (K : Int)) (by unfold I64; omega)).1
  rw [hW6] at hO7
  have hc6 : Chg gE (gE + 1) W5 W6 := by rw [← hW6]; exact chg_set1 _ _ _ _
  have d5 := (hO6.dimAt (j := nv) hnvl)
  obtain ⟨gE', ce', eE', _, _, dc5, df5, _⟩ := d5
  simp only [Value.slice.injEq, Option.some.injEq, Addr.mk.injEq, and_true, true_and] at eE'
  obtain ⟨eE', ece'⟩ := eE'
  subst eE'
  subst ece'
  have kq5 := (kq4.chg hc5 (.inl (by omega)))
  have k15 := (k14.chg hc5 (.inl (by have := SZ.out; omega)))
  have o5' := k5.cell' (i := 4) rfl
  have m0' := k15.cell' (i := 0) rfl
  have kq6 := kq5.chg hc6 (.inl (by omega))
  have k6 := k5.chg hc6 (.inr (by omega))
  have p0 := kq6.cell' (i := 0) rfl
  have p1 := kq6.cell' (i := 1) rfl
  have p2 := kq6.cell' (i := 2) rfl
  have o6' := k6.cell' (i := 4) rfl
  have hQ6 := hQ5.chg hc6 (.inl (by omega))
  have b46 : Below W2.heap.size W4 W6 := (hc5.below (by omega) (by omega)).trans (hc6.below (by omega) (by have := hc5.size; omega))
  have G6 := Lib.hid ((g12.trans (hb34.mono g12.size)).trans (b46.mono (by omega)))
  have KQ6 := Lib.hid kq6
  have K6 := Lib.hid k6
  have HO6 := Lib.hid hO7
  have HQ6 := Lib.hid hQ6.rd
  have s6 := G6.out.size
  have s56 : W6.heap.size = W4.heap.size := by rw [← hW6, ← hW5]; simp
  have S56 := Lib.hid s56
  have HD6 := Lib.hid hO7.dims
  clear hO7 hQ6 b46 s56 kq6 k6 hO5 hO6 hQ5 hc5 hc6 kq5 k15 k5 hO hb34 hb3 ga g14 k14 kO4 kq4 df dc hE1 hE2
  go_wp2_with fail
  clear hW4 hW5 hW6 o1 o2 o3 o4 of_ q0 q1 q2 m0 m0' dc5 df5 o5' o6' p0 p1 p2
  refine (implAreDims_any _ _ (rvQ y.q nv) (y.d.set nv (K : Int)) _ HQ6.out (by have := HD6.out; simpa using this)).mono ?_; rintro er w7 ⟨rfl, hb7⟩
  have G7 := Lib.hid (G6.out.trans (hb7.mono s6))
  rcases hA : areDims (rvQ y.q nv) (y.d.set nv (K : Int)) with _ | _
  · have HE := Lib.hid (rfP_no (G := gSrc y nv K F) (by rw [Int.toNat_natCast]; exact hA))
    have kz := k3.call G7.out
    have fr := kz.frozen
    have s0 := kz.cell' (i := 0) rfl
    have s1' := kz.cell' (i := 1) rfl
    have s2' := kz.cell' (i := 2) rfl
    have s3' := kz.cell' (i := 3) rfl
    have s4' := kz.cell' (i := 4) rfl
    have s5' := kz.cell' (i := 5) rfl
    have gf := g0.trans (G7.out.mono g0.size)
    have GF := Lib.hid gf
    clear kz gf hA hb7
    go_wp2
    have gf := GF.out
    have hE := HE.out
    exact bodyPost_ret (v := .tuple #[.agg #[.int .i64 0, .int .i64 0, .slice none 0 0, .slice none 0 0, .slice none 0 0, .slice none 0 0], .bool false]) (by simp [results, go_sem, s0, s1', s2', s3', s4', s5']) rfl ⟨_, by rw [hE], by rw [hE]; exact RepO.zero _ _ _, (((((gf.setCell (by simp; omega) _).setCell (by simp; omega) _).setCell (by simp; omega) _).setCell (by simp; omega) _).setCell (by simp; omega) _).setCell (by simp; omega) _⟩
  · have HE := Lib.hid (rfP_yes (G := gSrc y nv K F) (by rw [Int.toNat_natCast]; exact hA))
    have k27 := k2.call G7.out
    have m0 := k27.cell' (i := 0) rfl
    have m1 := k27.cell' (i := 1) rfl
    have m2 := k27.cell' (i := 2) rfl
    have s7 := hb7.size
    have K7 := Lib.hid (K6.out.call hb7)
    have HO7 := Lib.hid (HO6.out.below hb7)
    clear hA hb7 k27
    go_wp2_with fail
    refine (columns_any _ K N F _ (MxR.next G7.out HMR.out) hK (by omega)).mono ?_; rintro er w8 ⟨v8, rfl, hC8, hb8⟩
    obtain ⟨CA0, cc0, ev, hcc0, hcc1, _⟩ := hC8.form2
    rw [rowsF_length] at ev hcc0
    subst ev
    have G8 := Lib.hid (G7.out.trans (hb8.mono G7.out.size))
    have K8 := Lib.hid (K7.out.call hb8)
    have HO8 := Lib.hid ((HO7.out.below hb8).wider (Nat.le_refl _) (show w3.heap.size ≤ w8.heap.size by have := hb8.size; have := S56.out; omega))
    have HC8 := Lib.hid hC8
    have s8 := hb8.size
    have k18 := k1.call G8.out
    have c2 := k18.cell' (i := 2) rfl
    have HF := Lib.hid (QvR.sl HQR.out).1
    have HT := Lib.hid (QvR.sl HQR.out).2
    have hlt' : y.q.f.length ≤ y.q.t.length := Nat.le_of_eq HLT.out
    have hml' : y.q.f.length ≤ y.m.length := Nat.le_of_eq HML2.out.symm
    have s56 : W4.heap.size ≤ W6.heap.size := Nat.le_of_eq S56.out.symm
    clear m0 m1 m2 hC8 hb8 k18
    go_wp2
    clear c2
    go_loopw [13, 46] (fun cv i wr => ∃ (k : Nat) (CA : Option Addr) (cn cc : Nat), k ≤ y.q.f.length ∧ i = .int .i64 k ∧ cv = .slice CA cn cc ∧ Hid (cn + atN y nv k = N) ∧ (cn ≤ cc ∧ cc ≤ 9223372036854775807) ∧ (∀ (w : World) (B : Nat), SlII w B (.slice CA0 N cc0) (rowsF N K fun a b => F b a) → SlII w B (.slice CA cn cc) ((rowsF N K fun a b => F b a).drop (atN y nv k))) ∧ Chg W2.heap.size w3.heap.size w8 wr ∧ RepO wr W.heap.size wr.heap.size (.agg #[.int .i64 y.p, .int .i64 y.q.v, .slice QA y.q.f.length qa, .slice QB y.q.f.length qb, .slice (some ⟨gE, 0, none⟩) y.d.length e3, .slice HM y.m.length h3]) (rfK y nv K (gSrc y nv K F) k)) (fun _ i _ => y.q.f.length - (intOf i).toNat)
    case atStart => exact ⟨0, CA0, N, cc0, Nat.zero_le _, rfl, rfl, rfl, ⟨hcc0, hcc1⟩, fun w B h => by simpa [atN] using h, Chg.refl _ _ _, by have := HO8.out; rw [rfK, rfM_0 HML2.out, Int.toNat_natCast]; exact this⟩
    case round =>
      obtain ⟨k, CA, cn, cc, hk, rfl, rfl, HCN, ⟨hcn, hcc⟩, hcut, hch, hO⟩ := hrel
      have hcs := hch.size
      have gWr := G8.out.trans (hch.below (B := W.heap.size) (by omega) G8.out.size)
      have gws := gWr.size
      by_cases hkn : k < y.q.f.length
      · obtain ⟨m, nf, nt, yf, yt, em, ef, et, df, dt, eM, _, b1, b2, b3, b4, hfd, htd, b8, b9⟩ := isRep_at HY.out hkn
        obtain ⟨bf, of_, xf, eA, hbf, HXF, f1, _⟩ := SlI.at_ HF.out hkn
        obtain ⟨bt, ot, xt, eC, hbt, HXT, t1, _⟩ := SlI.at_ HT.out b8
        subst eA eC
        have q1 := HXF.out
        rw [ef] at q1
        injection q1 with q1
        subst q1
        have q2 := HXT.out
        rw [et] at q2
        injection q2 with q2
        subst q2
        have f1' := bcell gWr hbf f1
        have t1' := bcell gWr hbt t1
        have kr := k1.call gWr
        have c1 := kr.cell' (i := 1) rfl
        have c3 := kr.cell' (i := 3) rfl
        have HTC := Lib.hid (tch_of (v := (nv : Int)) ef et)
        have HOU := Lib.hid (fun h => oth_two (nv := nv) ef et df dt b1 b2 h)
        obtain ⟨gH, eH, hgH1, hgH2⟩ := HHM.out k m em
        have HEM := Lib.hid em
        have F1 := Lib.hid f1
        have T1 := Lib.hid t1
        have GWr := Lib.hid gWr
        have HCUT := Lib.hid hcut
        have HCH := Lib.hid hch
        have HOr := Lib.hid hO
        have HNO := Lib.hid (fun h : tch y.q nv k = false => rfM_no (x := y) (v := nv) (G := gSrc y nv K F) h)
        have HYES := Lib.hid (fun h : tch y.q nv k = true => rfM_yes (x := y) (v := nv) (G := gSrc y nv K F) h)
        have HAT := Lib.hid (fun h : tch y.q nv k = true => atN_fit (x := y) (v := nv) (n := y.q.f.length) h hkn)
        have HA1 := Lib.hid (show atN y nv (k + 1) = if tch y.q nv k = true then atN y nv k + othN y nv k else atN y nv k from rfl)
        have hsr : W.heap.size ≤ wr.heap.size := gws
        obtain ⟨w9, hw9⟩ : ∃ u, u = wr := ⟨_, rfl⟩
        subst hw9
        subst eH
        clear f1 t1 kr gWr hcut hch hO em ef et df dt eM
        rcases htc : tch y.q nv k with _ | _
        · rw [htc] at HTC
          have h12 : ¬ (nf : Int) = nv ∧ ¬ (nt : Int) = nv := by
            have := HTC.out.symm
            simpa only [Bool.or_eq_false_iff, decide_eq_false_iff_not] using this
          have hd1 : ((nf : Int) != (nv : Int)) = true := by rw [bne_iff_ne]; exact h12.1
          have hd2 : ((nt : Int) != (nv : Int)) = true := by rw [bne_iff_ne]; exact h12.2
          have hN2 := Lib.hid (HNO.out htc)
          have hA2 := Lib.hid (show atN y nv (k + 1) = atN y nv k by rw [HA1.out, htc]; rfl)
          clear htc h12 HTC HOU HNO HYES HAT HA1 HEM
          go_wp2
          go_roundw
          case rel => exact ⟨k + 1, CA, cn, cc, by omega, by go_num, rfl, by rw [hA2.out]; exact HCN, ⟨hcn, hcc⟩, by rw [hA2.out]; exact HCUT.out, HCH.out, by rw [rfK, hN2.out]; exact HOr.out⟩
          case measure => simp [intOf]; omega
        · obtain ⟨u, s, huv, hds, hos, hs4, hud⟩ := HOU.out htc
          obtain ⟨bd, od, xd, eE', hbd, HXD, d1, _⟩ := SlI.at_ HDR.out hud
          subst eE'
          have q3 := HXD.out
          rw [hds] at q3
          injection q3 with q3
          subst q3
          have D1 := Lib.hid d1
          have HUV := Lib.hid huv
          have HOS := Lib.hid hos
          have HYS := Lib.hid (HYES.out htc)
          have hfit := HAT.out htc
          rw [HNN.out, hos] at hfit
          have hA2 := Lib.hid (show atN y nv (k + 1) = atN y nv k + s by rw [HA1.out, htc, hos]; rfl)
          have hscn : s ≤ cn := by have := HCN.out; omega
          have hu5 : u ≤ 10 := by omega
          clear hds hos huv d1 HOU HNO HYES HAT HA1 HXD
          by_cases h1 : (nf : Int) = nv
          · have hd1 : ((nf : Int) != (nv : Int)) = false := by rw [bne_eq_false_iff_eq]; exact h1
            clear h1 htc HTC
            go_wp2
            refine wp_region_net (by kernel_rfl) [.eq (.pointer (some ⟨w0.heap.size, 4, none⟩)), .eq (.slice (some ⟨bd, od, none⟩) y.d.length e), .eq (.int .i64 nf), .eq (.pointer (some ⟨w0.heap.size, 1, none⟩)), .eq (.pointer (some ⟨w0.heap.size, 3, none⟩)), .eq (.slice (some ⟨bt, ot, none⟩) y.q.t.length c), .eq (.int .i64 k), .eq (.pointer (some ⟨bt, ot + k, none⟩)), .eq (.int .i64 nt), .eq (.int .i64 ((nf : Int) + nt)), .eq (.int .i64 nv), .eq (.int .i64 u), .eq (.pointer (some ⟨bd, od + u, none⟩)), .eq (.int .i64 s)] [[], [0], [], [], [3], [3, 4], [], [3, 4, 5, 6], [3, 4, 5, 6, 7], [2, 3, 4, 5, 6, 7, 8], [], [2, 3, 4, 5, 6, 7, 8, 9, 10], [0, 1, 2, 3, 4, 5, 6, 7, 8, 9, 10, 11], [0, 1, 2, 3, 4, 5, 6, 7, 8, 9, 10, 11, 12], [0, 1, 2, 3, 4, 5, 6, 7, 8, 9, 10, 11, 12, 13]] 14 (by kernel_rfl) ⟨trivial, trivial, trivial, trivial, trivial, trivial, trivial, trivial, trivial, trivial, trivial, trivial, trivial, trivial, trivial⟩ ⟨?_, ?_, ?_, ?_, ?_, ?_, ?_, ?_, ?_, ?_, ?_, ?_, ?_, ?_, trivial⟩ ?_
            · intro x w hb hk Q' hQ
              clear hk
              simp only [netAct, dstAt, List.getElem?_toArray, List.getElem?_cons_zero, List.getElem?_cons_succ, Option.bind_some, Act.put, List.setIfInBounds_toArray, List.set_cons_zero, List.set_cons_succ] at hQ ⊢
              go_wp2
              exact hQ (.pointer (some ⟨w0.heap.size, 4, none⟩)) _ (Below.refl _ _) rfl
            · intro x w hb hk Q' hQ
              have h0 : x.v 0 = .pointer (some ⟨w0.heap.size, 4, none⟩) := (hk 0 (by decide)).1
              clear hk
              simp only [netAct, dstAt, List.getElem?_toArray, List.getElem?_cons_zero, List.getElem?_cons_succ, Option.bind_some, Act.put, List.setIfInBounds_toArray, List.set_cons_zero, List.set_cons_succ] at hQ ⊢
              simp only [h0] at hQ ⊢
              clear h0
              have z := (k1.call (GWr.out.trans (hb.mono hsr))).cell' (i := 4) rfl
              go_wp2
              exact hQ (.slice (some ⟨bd, od, none⟩) y.d.length e) _ (Below.refl _ _) rfl
            · intro x w hb hk Q' hQ
              clear hk
              simp only [netAct, dstAt, List.getElem?_toArray, List.getElem?_cons_zero, List.getElem?_cons_succ, Option.bind_some, Act.put, List.setIfInBounds_toArray, List.set_cons_zero, List.set_cons_succ] at hQ ⊢
              go_wp2
              exact hQ (.int .i64 nf) _ (Below.refl _ _) rfl
            · intro x w hb hk Q' hQ
              clear hk
              simp only [netAct, dstAt, List.getElem?_toArray, List.getElem?_cons_zero, List.getElem?_cons_succ, Option.bind_some, Act.put, List.setIfInBounds_toArray, List.set_cons_zero, List.set_cons_succ] at hQ ⊢
              go_wp2
              exact hQ (.pointer (some ⟨w0.heap.size, 1, none⟩)) _ (Below.refl _ _) rfl
            · intro x w hb hk Q' hQ
              have h3 : x.v 3 = .pointer (some ⟨w0.heap.size, 1, none⟩) := (hk 3 (by decide)).1
              clear hk
              simp only [netAct, dstAt, List.getElem?_toArray, List.getElem?_cons_zero, List.getElem?_cons_succ, Option.bind_some, Act.put, List.setIfInBounds_toArray, List.set_cons_zero, List.set_cons_succ] at hQ ⊢
              simp only [h3] at hQ ⊢
              clear h3
              go_wp2
              exact hQ (.pointer (some ⟨w0.heap.size, 3, none⟩)) _ (Below.refl _ _) rfl
            · intro x w hb hk Q' hQ
              have h4 : x.v 4 = .pointer (some ⟨w0.heap.size, 3, none⟩) := (hk 4 (by decide)).1
              clear hk
              simp only [netAct, dstAt, List.getElem?_toArray, List.getElem?_cons_zero, List.getElem?_cons_succ, Option.bind_some, Act.put, List.setIfInBounds_toArray, List.set_cons_zero, List.set_cons_succ] at hQ ⊢
              simp only [h4] at hQ ⊢
              clear h4
              have z := (k1.call (GWr.out.trans (hb.mono hsr))).cell' (i := 3) rfl
              go_wp2
              exact hQ (.slice (some ⟨bt, ot, none⟩) y.q.t.length c) _ (Below.refl _ _) rfl
            · intro x w hb hk Q' hQ
              clear hk
              simp only [netAct, dstAt, List.getElem?_toArray, List.getElem?_cons_zero, List.getElem?_cons_succ, Option.bind_some, Act.put, List.setIfInBounds_toArray, List.set_cons_zero, List.set_cons_succ] at hQ ⊢
              go_wp2
              exact hQ (.int .i64 k) _ (Below.refl _ _) rfl
            · intro x w hb hk Q' hQ
              have h5 : x.v 5 = .slice (some ⟨bt, ot, none⟩) y.q.t.length c := (hk 5 (by decide)).1
              have h6 : x.v 6 = .int .i64 k := (hk 6 (by decide)).1
              clear hk
              simp only [netAct, dstAt, List.getElem?_toArray, List.getElem?_cons_zero, List.getElem?_cons_succ, Option.bind_some, Act.put, List.setIfInBounds_toArray, List.set_cons_zero, List.set_cons_succ] at hQ ⊢
              simp only [h5, h6] at hQ ⊢
              clear h5 h6
              go_wp2
              exact hQ (.pointer (some ⟨bt, ot + k, none⟩)) _ (Below.refl _ _) rfl
            · intro x w hb hk Q' hQ
              have h7 : x.v 7 = .pointer (some ⟨bt, ot + k, none⟩) := (hk 7 (by decide)).1
              clear hk
              simp only [netAct, dstAt, List.getElem?_toArray, List.getElem?_cons_zero, List.getElem?_cons_succ, Option.bind_some, Act.put, List.setIfInBounds_toArray, List.set_cons_zero, List.set_cons_succ] at hQ ⊢
              simp only [h7] at hQ ⊢
              clear h7
              have z := bcell (GWr.out.trans (hb.mono hsr)) hbt T1.out
              go_wp2
              exact hQ (.int .i64 nt) _ (Below.refl _ _) rfl
            · intro x w hb hk Q' hQ
              have h2 : x.v 2 = .int .i64 nf := (hk 2 (by decide)).1
              have h8 : x.v 8 = .int .i64 nt := (hk 8 (by decide)).1
              clear hk
              simp only [netAct, dstAt, List.getElem?_toArray, List.getElem?_cons_zero, List.getElem?_cons_succ, Option.bind_some, Act.put, List.setIfInBounds_toArray, List.set_cons_zero, List.set_cons_succ] at hQ ⊢
              simp only [h2, h8] at hQ ⊢
              clear h2 h8
              go_wp2
              exact hQ (.int .i64 ((nf : Int) + nt)) _ (Below.refl _ _) rfl
            · intro x w hb hk Q' hQ
              clear hk
              simp only [netAct, dstAt, List.getElem?_toArray, List.getElem?_cons_zero, List.getElem?_cons_succ, Option.bind_some, Act.put, List.setIfInBounds_toArray, List.set_cons_zero, List.set_cons_succ] at hQ ⊢
              go_wp2
              exact hQ (.int .i64 nv) _ (Below.refl _ _) rfl
            · intro x w hb hk Q' hQ
              have h9 : x.v 9 = .int .i64 ((nf : Int) + nt) := (hk 9 (by decide)).1
              have h10 : x.v 10 = .int .i64 nv := (hk 10 (by decide)).1
              clear hk
              simp only [netAct, dstAt, List.getElem?_toArray, List.getElem?_cons_zero, List.getElem?_cons_succ, Option.bind_some, Act.put, List.setIfInBounds_toArray, List.set_cons_zero, List.set_cons_succ] at hQ ⊢
              simp only [h9, h10] at hQ ⊢
              clear h9 h10
              go_wp2
              rw [HUV.out]
              exact hQ (.int .i64 u) _ (Below.refl _ _) rfl
            · intro x w hb hk Q' hQ
              have h1 : x.v 1 = .slice (some ⟨bd, od, none⟩) y.d.length e := (hk 1 (by decide)).1
              have h11 : x.v 11 = .int .i64 u := (hk 11 (by decide)).1
              clear hk
              simp only [netAct, dstAt, List.getElem?_toArray, List.getElem?_cons_zero, List.getElem?_cons_succ, Option.bind_some, Act.put, List.setIfInBounds_toArray, List.set_cons_zero, List.set_cons_succ] at hQ ⊢
              simp only [h1, h11] at hQ ⊢
              clear h1 h11
              go_wp2
              exact hQ (.pointer (some ⟨bd, od + u, none⟩)) _ (Below.refl _ _) rfl
            · intro x w hb hk Q' hQ
              have h12 : x.v 12 = .pointer (some ⟨bd, od + u, none⟩) := (hk 12 (by decide)).1
              clear hk
              simp only [netAct, dstAt, List.getElem?_toArray, List.getElem?_cons_zero, List.getElem?_cons_succ, Option.bind_some, Act.put, List.setIfInBounds_toArray, List.set_cons_zero, List.set_cons_succ] at hQ ⊢
              simp only [h12] at hQ ⊢
              clear h12
              have z := bcell (GWr.out.trans (hb.mono hsr)) hbd D1.out
              go_wp2
              exact hQ (.int .i64 s) _ (Below.refl _ _) rfl
            · intro x w hb hk hiv hdj
              have h0 : x.v 0 = .pointer (some ⟨w0.heap.size, 4, none⟩) := hk 0 (by decide)
              have h1 : x.v 1 = .slice (some ⟨bd, od, none⟩) y.d.length e := hk 1 (by decide)
              have h2 : x.v 2 = .int .i64 nf := hk 2 (by decide)
              have h3 : x.v 3 = .pointer (some ⟨w0.heap.size, 1, none⟩) := hk 3 (by decide)
              have h4 : x.v 4 = .pointer (some ⟨w0.heap.size, 3, none⟩) := hk 4 (by decide)
              have h5 : x.v 5 = .slice (some ⟨bt, ot, none⟩) y.q.t.length c := hk 5 (by decide)
              have h6 : x.v 6 = .int .i64 k := hk 6 (by decide)
              have h7 : x.v 7 = .pointer (some ⟨bt, ot + k, none⟩) := hk 7 (by decide)
              have h8 : x.v 8 = .int .i64 nt := hk 8 (by decide)
              have h9 : x.v 9 = .int .i64 ((nf : Int) + nt) := hk 9 (by decide)
              have h10 : x.v 10 = .int .i64 nv := hk 10 (by decide)
              have h11 : x.v 11 = .int .i64 u := hk 11 (by decide)
              have h12 : x.v 12 = .pointer (some ⟨bd, od + u, none⟩) := hk 12 (by decide)
              have h13 : x.v 13 = .int .i64 s := hk 13 (by decide)
              clear hk
              simp only [netAct, dstAt, List.getElem?_toArray, List.getElem?_cons_zero, List.getElem?_cons_succ, Option.bind_some, Act.put, List.setIfInBounds_toArray, List.set_cons_zero, List.set_cons_succ]
              simp only [List.drop_succ_cons, List.drop_zero, h0, h1, h2, h3, h4, h5, h6, h7, h8, h9, h10, h11, h12, h13]
              clear h0 h1 h2 h3 h4 h5 h6 h7 h8 h9 h10 h11 h12 h13
              have GW12 := Lib.hid (GWr.out.trans (hb.mono hsr))
              have HCH12 := Lib.hid (HCH.out.trans (Chg.of_below hb))
              have HO12 := Lib.hid ((HOr.out.below hb).wider (Nat.le_refl _) hb.size)
              have hb12s := hb.size
              obtain ⟨w12, hw12⟩ : ∃ z, z = w := ⟨_, rfl⟩
              subst hw12
              clear hiv hdj hb
              go_wp2
              have hs12 : W.heap.size ≤ w12.heap.size := GW12.out.size
              have h38 : w3.heap.size ≤ w12.heap.size := by omega
              have hslc := HC8.out.chg HCH12.out (.inr (by omega))
              have hS12 := HCUT.out _ _ hslc.rd
              have hcl : ((rowsF N K fun a b => F b a).drop (atN y nv k)).length = cn := by rw [List.length_drop, rowsF_length]; have := HCN.out; omega
              rw [← hcl] at hS12
              have hSB := SlG.takeG (k := s) hS12 (by rw [hcl]; exact hscn)
              rw [rowsF_drop, rowsF_take _ _ _ _ (by have := HCN.out; omega)] at hSB
              have HSB := Lib.hid hSB
              have KM12 := Lib.hid (k2.call GW12.out)
              have KO12 := Lib.hid (K8.out.chg HCH12.out (.inr (by omega)))
              clear hslc hS12 hcl hSB
              refine wp_region_net (by kernel_rfl) [.eq (.pointer (some ⟨w3.heap.size, 5, none⟩)), .eq (.slice (some ⟨gH, 0, none⟩) y.m.length h3), .eq (.int .i64 k), .eq (.func (.func 37) #[] #[]), .eq (.pointer (some ⟨w0.heap.size + 1, 0, none⟩)), .eq (.int .i64 K), .eq (.slice CA cn cc), .eq (.int .i64 s), .eq (.slice CA s cc), rel 9 (fun u lo hi w => MxO w lo hi u (mxF K s fun b a => F b (atN y nv k + a)) ∧ w12.heap.size ≤ lo ∧ hi ≤ w.heap.size), .rel (fun x w => ∃ h', h' ≤ w.heap.size ∧ MxO w w12.heap.size h' (x.v 10) (gSrc y nv K F k)), .eq (.pointer (some ⟨gH, k * 3, none⟩))] [[], [0], [], [], [], [4], [], [], [6, 7], [4, 5, 6, 7, 8], [3, 4, 5, 6, 7, 8, 9], [0, 1, 2, 3, 4, 5, 6, 7, 8, 9, 10], [0, 1, 2, 3, 4, 5, 6, 7, 8, 9, 10, 11]] 12 (by kernel_rfl) ⟨trivial, trivial, trivial, trivial, trivial, trivial, trivial, trivial, trivial, rel_stable (fun u lo hi w w' h hb => ⟨h.1.below hb, h.2.1, Nat.le_trans h.2.2 hb.size⟩), fun x w w' ⟨h', l, o⟩ hb => ⟨h', Nat.le_trans l hb.size, o.below hb⟩, trivial, trivial⟩ ⟨?_, ?_, ?_, ?_, ?_, ?_, ?_, ?_, ?_, ?_, ?_, ?_, trivial⟩ ?_
              · intro x w hb hk Q' hQ
                clear hk
                simp only [netAct, dstAt, List.getElem?_toArray, List.getElem?_cons_zero, List.getElem?_cons_succ, Option.bind_some, Act.put, List.setIfInBounds_toArray, List.set_cons_zero, List.set_cons_succ] at hQ ⊢
                go_wp2
                exact hQ (.pointer (some ⟨w3.heap.size, 5, none⟩)) _ (Below.refl _ _) rfl
              · intro x w hb hk Q' hQ
                have h0 : x.v 0 = .pointer (some ⟨w3.heap.size, 5, none⟩) := (hk 0 (by decide)).1
                clear hk
                simp only [netAct, dstAt, List.getElem?_toArray, List.getElem?_cons_zero, List.getElem?_cons_succ, Option.bind_some, Act.put, List.setIfInBounds_toArray, List.set_cons_zero, List.set_cons_succ] at hQ ⊢
                simp only [h0] at hQ ⊢
                clear h0
                have z := (KO12.out.call hb).cell' (i := 5) rfl
                go_wp2
                exact hQ (.slice (some ⟨gH, 0, none⟩) y.m.length h3) _ (Below.refl _ _) rfl
              · intro x w hb hk Q' hQ
                clear hk
                simp only [netAct, dstAt, List.getElem?_toArray, List.getElem?_cons_zero, List.getElem?_cons_succ, Option.bind_some, Act.put, List.setIfInBounds_toArray, List.set_cons_zero, List.set_cons_succ] at hQ ⊢
                go_wp2
                exact hQ (.int .i64 k) _ (Below.refl _ _) rfl
              · intro x w hb hk Q' hQ
                clear hk
                simp only [netAct, dstAt, List.getElem?_toArray, List.getElem?_cons_zero, List.getElem?_cons_succ, Option.bind_some, Act.put, List.setIfInBounds_toArray, List.set_cons_zero, List.set_cons_succ] at hQ ⊢
                go_wp2
                exact hQ (.func (.func 37) #[] #[]) _ (Below.refl _ _) rfl
              · intro x w hb hk Q' hQ
                clear hk
                simp only [netAct, dstAt, List.getElem?_toArray, List.getElem?_cons_zero, List.getElem?_cons_succ, Option.bind_some, Act.put, List.setIfInBounds_toArray, List.set_cons_zero, List.set_cons_succ] at hQ ⊢
                go_wp2
                exact hQ (.pointer (some ⟨w0.heap.size + 1, 0, none⟩)) _ (Below.refl _ _) rfl
              · intro x w hb hk Q' hQ
                have h4 : x.v 4 = .pointer (some ⟨w0.heap.size + 1, 0, none⟩) := (hk 4 (by decide)).1
                clear hk
                simp only [netAct, dstAt, List.getElem?_toArray, List.getElem?_cons_zero, List.getElem?_cons_succ, Option.bind_some, Act.put, List.setIfInBounds_toArray, List.set_cons_zero, List.set_cons_succ] at hQ ⊢
                simp only [h4] at hQ ⊢
                clear h4
                have z := (KM12.out.call hb).cell' (i := 0) rfl
                go_wp2
                exact hQ (.int .i64 K) _ (Below.refl _ _) rfl
              · intro x w hb hk Q' hQ
                clear hk
                simp only [netAct, dstAt, List.getElem?_toArray, List.getElem?_cons_zero, List.getElem?_cons_succ, Option.bind_some, Act.put, List.setIfInBounds_toArray, List.set_cons_zero, List.set_cons_succ] at hQ ⊢
                go_wp2
                exact hQ (.slice CA cn cc) _ (Below.refl _ _) rfl
              · intro x w hb hk Q' hQ
                clear hk
                simp only [netAct, dstAt, List.getElem?_toArray, List.getElem?_cons_zero, List.getElem?_cons_succ, Option.bind_some, Act.put, List.setIfInBounds_toArray, List.set_cons_zero, List.set_cons_succ] at hQ ⊢
                go_wp2
                exact hQ (.int .i64 s) _ (Below.refl _ _) rfl
              · intro x w hb hk Q' hQ
                have h6 : x.v 6 = .slice CA cn cc := (hk 6 (by decide)).1
                have h7 : x.v 7 = .int .i64 s := (hk 7 (by decide)).1
                clear hk
                simp only [netAct, dstAt, List.getElem?_toArray, List.getElem?_cons_zero, List.getElem?_cons_succ, Option.bind_some, Act.put, List.setIfInBounds_toArray, List.set_cons_zero, List.set_cons_succ] at hQ ⊢
                simp only [h6, h7] at hQ ⊢
                clear h6 h7
                go_wp2
                exact hQ (.slice CA s cc) _ (Below.refl _ _) rfl
              · intro x w hb hk Q' hQ
                have h4 : x.v 4 = .pointer (some ⟨w0.heap.size + 1, 0, none⟩) := (hk 4 (by decide)).1
                have h5 : x.v 5 = .int .i64 K := (hk 5 (by decide)).1
                have h6 : x.v 6 = .slice CA cn cc := (hk 6 (by decide)).1
                have h7 : x.v 7 = .int .i64 s := (hk 7 (by decide)).1
                have h8 : x.v 8 = .slice CA s cc := (hk 8 (by decide)).1
                clear hk
                simp only [netAct, dstAt, List.getElem?_toArray, List.getElem?_cons_zero, List.getElem?_cons_succ, Option.bind_some, Act.put, List.setIfInBounds_toArray, List.set_cons_zero, List.set_cons_succ] at hQ ⊢
                simp only [h4, h5, h6, h7, h8] at hQ ⊢
                clear h4 h5 h6 h7 h8
                go_wp2_with fail
                refine (fromColumns_any _ K s (fun b a => F b (atN y nv k + a)) _ (SlII.next hb HSB.out) hK (by omega)).mono ?_; rintro er w6 ⟨v6, rfl, ho6, hb6⟩
                go_wp2
                exact hQ _ _ hb6 ⟨ho6, hb.size, Nat.le_refl _⟩
              · intro x w hb hk Q' hQ
                have h3 : x.v 3 = .func (.func 37) #[] #[] := (hk 3 (by decide)).1
                have h4 : x.v 4 = .pointer (some ⟨w0.heap.size + 1, 0, none⟩) := (hk 4 (by decide)).1
                have h5 : x.v 5 = .int .i64 K := (hk 5 (by decide)).1
                have h6 : x.v 6 = .slice CA cn cc := (hk 6 (by decide)).1
                have h7 : x.v 7 = .int .i64 s := (hk 7 (by decide)).1
                have h8 : x.v 8 = .slice CA s cc := (hk 8 (by decide)).1
                have h9 : MxO w (x.lo 9) (x.hi 9) (x.v 9) (mxF K s fun b a => F b (atN y nv k + a)) ∧ w12.heap.size ≤ (x.lo 9) ∧ (x.hi 9) ≤ w.heap.size := (hk 9 (by decide)).1
                have s9 := (hk 9 (by decide)).2
                clear hk
                simp only [netAct, dstAt, List.getElem?_toArray, List.getElem?_cons_zero, List.getElem?_cons_succ, Option.bind_some, Act.put, List.setIfInBounds_toArray, List.set_cons_zero, List.set_cons_succ] at hQ ⊢
                simp only [h3, h4, h5, h6, h7, h8] at hQ ⊢
                clear h3 h4 h5 h6 h7 h8
                obtain ⟨A9, c9, e9⟩ := h9.1.form
                have H9 := Lib.hid h9
                rw [e9] at H9 hQ ⊢
                go_wp2_with fail
                refine (refSrc1_any _ _ A9 _ c9 _).mono ?_; rintro er w6 ⟨rfl, hb6⟩
                go_wp2
                exact hQ _ _ hb6 ⟨_, Nat.le_trans H9.out.2.2 hb6.size, by rw [gSrc, HOS.out]; exact (H9.out.1.below hb6).wider H9.out.2.1 (Nat.le_refl _)⟩
              · intro x w hb hk Q' hQ
                have h1 : x.v 1 = .slice (some ⟨gH, 0, none⟩) y.m.length h3 := (hk 1 (by decide)).1
                have h2 : x.v 2 = .int .i64 k := (hk 2 (by decide)).1
                clear hk
                simp only [netAct, dstAt, List.getElem?_toArray, List.getElem?_cons_zero, List.getElem?_cons_succ, Option.bind_some, Act.put, List.setIfInBounds_toArray, List.set_cons_zero, List.set_cons_succ] at hQ ⊢
                simp only [h1, h2] at hQ ⊢
                clear h1 h2
                go_wp2
                exact hQ (.pointer (some ⟨gH, k * 3, none⟩)) _ (Below.refl _ _) rfl
              · intro x w hb hk hiv hdj
                have h0 : x.v 0 = .pointer (some ⟨w3.heap.size, 5, none⟩) := hk 0 (by decide)
                have h1 : x.v 1 = .slice (some ⟨gH, 0, none⟩) y.m.length h3 := hk 1 (by decide)
                have h2 : x.v 2 = .int .i64 k := hk 2 (by decide)
                have h3 : x.v 3 = .func (.func 37) #[] #[] := hk 3 (by decide)
                have h4 : x.v 4 = .pointer (some ⟨w0.heap.size + 1, 0, none⟩) := hk 4 (by decide)
                have h5 : x.v 5 = .int .i64 K := hk 5 (by decide)
                have h6 : x.v 6 = .slice CA cn cc := hk 6 (by decide)
                have h7 : x.v 7 = .int .i64 s := hk 7 (by decide)
                have h8 : x.v 8 = .slice CA s cc := hk 8 (by decide)
                have h9 : MxO w (x.lo 9) (x.hi 9) (x.v 9) (mxF K s fun b a => F b (atN y nv k + a)) ∧ w12.heap.size ≤ (x.lo 9) ∧ (x.hi 9) ≤ w.heap.size := hk 9 (by decide)
                have h10 : ∃ h', h' ≤ w.heap.size ∧ MxO w w12.heap.size h' (x.v 10) (gSrc y nv K F k) := hk 10 (by decide)
                have h11 : x.v 11 = .pointer (some ⟨gH, k * 3, none⟩) := hk 11 (by decide)
                clear hk
                simp only [netAct, dstAt, List.getElem?_toArray, List.getElem?_cons_zero, List.getElem?_cons_succ, Option.bind_some, Act.put, List.setIfInBounds_toArray, List.set_cons_zero, List.set_cons_succ]
                simp only [List.drop_succ_cons, List.drop_zero, h0, h1, h2, h3, h4, h5, h6, h7, h8, h11]
                clear h0 h1 h2 h3 h4 h5 h6 h7 h8 h11
                obtain ⟨h', l', o10⟩ := h10
                obtain ⟨AM, am, e10⟩ := o10.form
                rw [e10] at o10 ⊢
                replace o10 := o10.wider (Nat.le_refl _) l'
                obtain ⟨mr, hmr⟩ : ∃ z, (gSrc y nv K F k).r = z := ⟨_, rfl⟩
                obtain ⟨mk, hmk⟩ : ∃ z, (gSrc y nv K F k).c = z := ⟨_, rfl⟩
                obtain ⟨ml, hml2⟩ : ∃ z, (gSrc y nv K F k).a.length = z := ⟨_, rfl⟩
                rw [hmr, hmk, hml2] at o10 ⊢
                have hOw := HO12.out.below hb
                have hbs := hb.size
                have hkm : k < (rfK y nv K (gSrc y nv K F) k).m.length := by rw [rfK, msF_length]; exact hkn
                have hset := RepO.setMx hOw hkm o10 (Nat.le_refl _) (by omega) hs12
                obtain ⟨W14, hW14⟩ : ∃ u, set3 w gH (k * 3) (.int .i64 mr) (.int .i64 mk) (.slice AM ml am) = u := ⟨_, rfl⟩
                rw [hW14] at hset
                have hch3 : Chg gH (gH + 1) w W14 := by rw [← hW14]; exact chg_set3 _ _ _ _ _ _
                have hs14 : W14.heap.size = w.heap.size := by rw [← hW14]; simp
                have hRep : RepO W14 W.heap.size W14.heap.size (.agg #[.int .i64 y.p, .int .i64 y.q.v, .slice QA y.q.f.length qa, .slice QB y.q.f.length qb, .slice (some ⟨gE, 0, none⟩) y.d.length e3, .slice (some ⟨gH, 0, none⟩) y.m.length h3]) (rfK y nv K (gSrc y nv K F) (k + 1)) := by
                  have := hset.1.wider (lo' := W.heap.size) (hi' := W14.heap.size) (Nat.le_refl _) (by omega)
                  rw [rfK, ← HYS.out]
                  exact this
                have HREP := Lib.hid hRep
                have HCH14 := Lib.hid ((HCH12.out.trans (Chg.of_below hb)).trans (hch3.wider (show W2.heap.size ≤ gH by omega) (by omega)))
                obtain ⟨hk0, hk1, hk2, hkf⟩ : (∃ u, w.cell? ⟨gH, k * 3, none⟩ = some u) ∧ (∃ u, w.cell? ⟨gH, k * 3 + 1, none⟩ = some u) ∧ (∃ u, w.cell? ⟨gH, k * 3 + 2, none⟩ = some u) ∧ ∀ i, w.frozen? ⟨gH, i, none⟩ = false := by
                  obtain ⟨g, c0', s0', e, _, _, z0, z1, z2, _, zf, _⟩ := hOw.mxAt (j := k) (List.getElem?_eq_getElem hkm)
                  simp only [Value.slice.injEq, Option.some.injEq, Addr.mk.injEq, and_true, true_and] at e
                  obtain ⟨e1, _⟩ := e
                  subst e1
                  exact ⟨⟨_, z0⟩, ⟨_, z1⟩, ⟨_, z2⟩, zf⟩
                obtain ⟨u0, z0⟩ := hk0
                obtain ⟨u1, z1⟩ := hk1
                obtain ⟨u2, z2⟩ := hk2
                clear hset hRep hch3 hs14 hOw hmr hmk hml2 hiv hdj e10 o10 h9 hkm
                go_wp2
                clear hW14 z0 z1 z2 hkf
                refine ⟨⟨k + 1, _, cn - s, cc - s, by omega, by go_num, rfl, ?_, ⟨by omega, by omega⟩, fun w B h => ?_, HCH14.out, HREP.out⟩, ?_⟩
                · have := HCN.out
                  have h2 := hA2.out
                  show cn - s + atN y (nv : Int) (k + 1) = N
                  omega
                · have h2 := HCUT.out w B h
                  have hcl : ((rowsF N K fun a b => F b a).drop (atN y nv k)).length = cn := by rw [List.length_drop, rowsF_length]; have := HCN.out; omega
                  rw [← hcl] at h2
                  obtain ⟨CB, eCB, h3⟩ := SlG.cut (i := s) (k := cn) h2 hscn (Nat.le_of_eq hcl.symm)
                  rw [List.take_of_length_le (by rw [List.length_drop, hcl]; exact Nat.le_refl _), List.drop_drop, ← hA2.out] at h3
                  rw [← eCB, Nat.mul_one] at h3
                  exact h3
                · simp [intOf]; omega
          · have h2 : (nt : Int) = nv := by
              have := HTC.out
              rw [htc] at this
              have := this.symm
              simp only [Bool.or_eq_true, decide_eq_true_eq] at this
              exact this.resolve_left h1
            have hd1 : ((nf : Int) != (nv : Int)) = true := by rw [bne_iff_ne]; exact h1
            have hd2 : ((nt : Int) != (nv : Int)) = false := by rw [bne_eq_false_iff_eq]; exact h2
            clear h1 h2 htc HTC
            go_wp2
            refine wp_region_net (by kernel_rfl) [.eq (.pointer (some ⟨w0.heap.size, 4, none⟩)), .eq (.slice (some ⟨bd, od, none⟩) y.d.length e), .eq (.int .i64 nf), .eq (.pointer (some ⟨w0.heap.size, 1, none⟩)), .eq (.pointer (some ⟨w0.heap.size, 3, none⟩)), .eq (.slice (some ⟨bt, ot, none⟩) y.q.t.length c), .eq (.int .i64 k), .eq (.pointer (some ⟨bt, ot + k, none⟩)), .eq (.int .i64 nt), .eq (.int .i64 ((nf : Int) + nt)), .eq (.int .i64 nv), .eq (.int .i64 u), .eq (.pointer (some ⟨bd, od + u, none⟩)), .eq (.int .i64 s)] [[], [0], [], [], [3], [3, 4], [], [3, 4, 5, 6], [3, 4, 5, 6, 7], [2, 3, 4, 5, 6, 7, 8], [], [2, 3, 4, 5, 6, 7, 8, 9, 10], [0, 1, 2, 3, 4, 5, 6, 7, 8, 9, 10, 11], [0, 1, 2, 3, 4, 5, 6, 7, 8, 9, 10, 11, 12], [0, 1, 2, 3, 4, 5, 6, 7, 8, 9, 10, 11, 12, 13]] 14 (by kernel_rfl) ⟨trivial, trivial, trivial, trivial, trivial, trivial, trivial, trivial, trivial, trivial, trivial, trivial, trivial, trivial, trivial⟩ ⟨?_, ?_, ?_, ?_, ?_, ?_, ?_, ?_, ?_, ?_, ?_, ?_, ?_, ?_, trivial⟩ ?_
            · intro x w hb hk Q' hQ
              clear hk
              simp only [netAct, dstAt, List.getElem?_toArray, List.getElem?_cons_zero, List.getElem?_cons_succ, Option.bind_some, Act.put, List.setIfInBounds_toArray, List.set_cons_zero, List.set_cons_succ] at hQ ⊢
              go_wp2
              exact hQ (.pointer (some ⟨w0.heap.size, 4, none⟩)) _ (Below.refl _ _) rfl
            · intro x w hb hk Q' hQ
              have h0 : x.v 0 = .pointer (some ⟨w0.heap.size, 4, none⟩) := (hk 0 (by decide)).1
              clear hk
              simp only [netAct, dstAt, List.getElem?_toArray, List.getElem?_cons_zero, List.getElem?_cons_succ, Option.bind_some, Act.put, List.setIfInBounds_toArray, List.set_cons_zero, List.set_cons_succ] at hQ ⊢
              simp only [h0] at hQ ⊢
              clear h0
              have z := (k1.call (GWr.out.trans (hb.mono hsr))).cell' (i := 4) rfl
              go_wp2
              exact hQ (.slice (some ⟨bd, od, none⟩) y.d.length e) _ (Below.refl _ _) rfl
            · intro x w hb hk Q' hQ
              clear hk
              simp only [netAct, dstAt, List.getElem?_toArray, List.getElem?_cons_zero, List.getElem?_cons_succ, Option.bind_some, Act.put, List.setIfInBounds_toArray, List.set_cons_zero, List.set_cons_succ] at hQ ⊢
              go_wp2
              exact hQ (.int .i64 nf) _ (Below.refl _ _) rfl
            · intro x w hb hk Q' hQ
              clear hk
              simp only [netAct, dstAt, List.getElem?_toArray, List.getElem?_cons_zero, List.getElem?_cons_succ, Option.bind_some, Act.put, List.setIfInBounds_toArray, List.set_cons_zero, List.set_cons_succ] at hQ ⊢
              go_wp2
              exact hQ (.pointer (some ⟨w0.heap.size, 1, none⟩)) _ (Below.refl _ _) rfl
            · intro x w hb hk Q' hQ
              have h3 : x.v 3 = .pointer (some ⟨w0.heap.size, 1, none⟩) := (hk 3 (by decide)).1
              clear hk
              simp only [netAct, dstAt, List.getElem?_toArray, List.getElem?_cons_zero, List.getElem?_cons_succ, Option.bind_some, Act.put, List.setIfInBounds_toArray, List.set_cons_zero, List.set_cons_succ] at hQ ⊢
              simp only [h3] at hQ ⊢
              clear h3
              go_wp2
              exact hQ (.pointer (some ⟨w0.heap.size, 3, none⟩)) _ (Below.refl _ _) rfl
            · intro x w hb hk Q' hQ
              have h4 : x.v 4 = .pointer (some ⟨w0.heap.size, 3, none⟩) := (hk 4 (by decide)).1
              clear hk
              simp only [netAct, dstAt, List.getElem?_toArray, List.getElem?_cons_zero, List.getElem?_cons_succ, Option.bind_some, Act.put, List.setIfInBounds_toArray, List.set_cons_zero, List.set_cons_succ] at hQ ⊢
              simp only [h4] at hQ ⊢
              clear h4
              have z := (k1.call (GWr.out.trans (hb.mono hsr))).cell' (i := 3) rfl
              go_wp2
              exact hQ (.slice (some ⟨bt, ot, none⟩) y.q.t.length c) _ (Below.refl _ _) rfl
            · intro x w hb hk Q' hQ
              clear hk
              simp only [netAct, dstAt, List.getElem?_toArray, List.getElem?_cons_zero, List.getElem?_cons_succ, Option.bind_some, Act.put, List.setIfInBounds_toArray, List.set_cons_zero, List.set_cons_succ] at hQ ⊢
              go_wp2
              exact hQ (.int .i64 k) _ (Below.refl _ _) rfl
            · intro x w hb hk Q' hQ
              have h5 : x.v 5 = .slice (some ⟨bt, ot, none⟩) y.q.t.length c := (hk 5 (by decide)).1
              have h6 : x.v 6 = .int .i64 k := (hk 6 (by decide)).1
              clear hk
              simp only [netAct, dstAt, List.getElem?_toArray, List.getElem?_cons_zero, List.getElem?_cons_succ, Option.bind_some, Act.put, List.setIfInBounds_toArray, List.set_cons_zero, List.set_cons_succ] at hQ ⊢
              simp only [h5, h6] at hQ ⊢
              clear h5 h6
              go_wp2
              exact hQ (.pointer (some ⟨bt, ot + k, none⟩)) _ (Below.refl _ _) rfl
            · intro x w hb hk Q' hQ
              have h7 : x.v 7 = .pointer (some ⟨bt, ot + k, none⟩) := (hk 7 (by decide)).1
              clear hk
              simp only [netAct, dstAt, List.getElem?_toArray, List.getElem?_cons_zero, List.getElem?_cons_succ, Option.bind_some, Act.put, List.setIfInBounds_toArray, List.set_cons_zero, List.set_cons_succ] at hQ ⊢
              simp only [h7] at hQ ⊢
              clear h7
              have z := bcell (GWr.out.trans (hb.mono hsr)) hbt T1.out
              go_wp2
              exact hQ (.int .i64 nt) _ (Below.refl _ _) rfl
            · intro x w hb hk Q' hQ
              have h2 : x.v 2 = .int .i64 nf := (hk 2 (by decide)).1
              have h8 : x.v 8 = .int .i64 nt := (hk 8 (by decide)).1
              clear hk
              simp only [netAct, dstAt, List.getElem?_toArray, List.getElem?_cons_zero, List.getElem?_cons_succ, Option.bind_some, Act.put, List.setIfInBounds_toArray, List.set_cons_zero, List.set_cons_succ] at hQ ⊢
              simp only [h2, h8] at hQ ⊢
              clear h2 h8
              go_wp2
              exact hQ (.int .i64 ((nf : Int) + nt)) _ (Below.refl _ _) rfl
            · intro x w hb hk Q' hQ
              clear hk
              simp only [netAct, dstAt, List.getElem?_toArray, List.getElem?_cons_zero, List.getElem?_cons_succ, Option.bind_some, Act.put, List.setIfInBounds_toArray, List.set_cons_zero, List.set_cons_succ] at hQ ⊢
              go_wp2
              exact hQ (.int .i64 nv) _ (Below.refl _ _) rfl
            · intro x w hb hk Q' hQ
              have h9 : x.v 9 = .int .i64 ((nf : Int) + nt) := (hk 9 (by decide)).1
              have h10 : x.v 10 = .int .i64 nv := (hk 10 (by decide)).1
              clear hk
              simp only [netAct, dstAt, List.getElem?_toArray, List.getElem?_cons_zero, List.getElem?_cons_succ, Option.bind_some, Act.put, List.setIfInBounds_toArray, List.set_cons_zero, List.set_cons_succ] at hQ ⊢
              simp only [h9, h10] at hQ ⊢
              clear h9 h10
              go_wp2
              rw [HUV.out]
              exact hQ (.int .i64 u) _ (Below.refl _ _) rfl
            · intro x w hb hk Q' hQ
              have h1 : x.v 1 = .slice (some ⟨bd, od, none⟩) y.d.length e := (hk 1 (by decide)).1
              have h11 : x.v 11 = .int .i64 u := (hk 11 (by decide)).1
              clear hk
              simp only [netAct, dstAt, List.getElem?_toArray, List.getElem?_cons_zero, List.getElem?_cons_succ, Option.bind_some, Act.put, List.setIfInBounds_toArray, List.set_cons_zero, List.set_cons_succ] at hQ ⊢
              simp only [h1, h11] at hQ ⊢
              clear h1 h11
              go_wp2
              exact hQ (.pointer (some ⟨bd, od + u, none⟩)) _ (Below.refl _ _) rfl
            · intro x w hb hk Q' hQ
              have h12 : x.v 12 = .pointer (some ⟨bd, od + u, none⟩) := (hk 12 (by decide)).1
              clear hk
              simp only [netAct, dstAt, List.getElem?_toArray, List.getElem?_cons_zero, List.getElem?_cons_succ, Option.bind_some, Act.put, List.setIfInBounds_toArray, List.set_cons_zero, List.set_cons_succ] at hQ ⊢
              simp only [h12] at hQ ⊢
              clear h12
              have z := bcell (GWr.out.trans (hb.mono hsr)) hbd D1.out
              go_wp2
              exact hQ (.int .i64 s) _ (Below.refl _ _) rfl
            · intro x w hb hk hiv hdj
              have h0 : x.v 0 = .pointer (some ⟨w0.heap.size, 4, none⟩) := hk 0 (by decide)
              have h1 : x.v 1 = .slice (some ⟨bd, od, none⟩) y.d.length e := hk 1 (by decide)
              have h2 : x.v 2 = .int .i64 nf := hk 2 (by decide)
              have h3 : x.v 3 = .pointer (some ⟨w0.heap.size, 1, none⟩) := hk 3 (by decide)
              have h4 : x.v 4 = .pointer (some ⟨w0.heap.size, 3, none⟩) := hk 4 (by decide)
              have h5 : x.v 5 = .slice (some ⟨bt, ot, none⟩) y.q.t.length c := hk 5 (by decide)
              have h6 : x.v 6 = .int .i64 k := hk 6 (by decide)
              have h7 : x.v 7 = .pointer (some ⟨bt, ot + k, none⟩) := hk 7 (by decide)
              have h8 : x.v 8 = .int .i64 nt := hk 8 (by decide)
              have h9 : x.v 9 = .int .i64 ((nf : Int) + nt) := hk 9 (by decide)
              have h10 : x.v 10 = .int .i64 nv := hk 10 (by decide)
              have h11 : x.v 11 = .int .i64 u := hk 11 (by decide)
              have h12 : x.v 12 = .pointer (some ⟨bd, od + u, none⟩) := hk 12 (by decide)
              have h13 : x.v 13 = .int .i64 s := hk 13 (by decide)
              clear hk
              simp only [netAct, dstAt, List.getElem?_toArray, List.getElem?_cons_zero, List.getElem?_cons_succ, Option.bind_some, Act.put, List.setIfInBounds_toArray, List.set_cons_zero, List.set_cons_succ]
              simp only [List.drop_succ_cons, List.drop_zero, h0, h1, h2, h3, h4, h5, h6, h7, h8, h9, h10, h11, h12, h13]
              clear h0 h1 h2 h3 h4 h5 h6 h7 h8 h9 h10 h11 h12 h13
              have GW12 := Lib.hid (GWr.out.trans (hb.mono hsr))
              have HCH12 := Lib.hid (HCH.out.trans (Chg.of_below hb))
              have HO12 := Lib.hid ((HOr.out.below hb).wider (Nat.le_refl _) hb.size)
              have hb12s := hb.size
              obtain ⟨w12, hw12⟩ : ∃ z, z = w := ⟨_, rfl⟩
              subst hw12
              clear hiv hdj hb
              go_wp2
              have hs12 : W.heap.size ≤ w12.heap.size := GW12.out.size
              have h38 : w3.heap.size ≤ w12.heap.size := by omega
              have hslc := HC8.out.chg HCH12.out (.inr (by omega))
              have hS12 := HCUT.out _ _ hslc.rd
              have hcl : ((rowsF N K fun a b => F b a).drop (atN y nv k)).length = cn := by rw [List.length_drop, rowsF_length]; have := HCN.out; omega
              rw [← hcl] at hS12
              have hSB := SlG.takeG (k := s) hS12 (by rw [hcl]; exact hscn)
              rw [rowsF_drop, rowsF_take _ _ _ _ (by have := HCN.out; omega)] at hSB
              have HSB := Lib.hid hSB
              have KM12 := Lib.hid (k2.call GW12.out)
              have KO12 := Lib.hid (K8.out.chg HCH12.out (.inr (by omega)))
              clear hslc hS12 hcl hSB
              refine wp_region_net (by kernel_rfl) [.eq (.pointer (some ⟨w3.heap.size, 5, none⟩)), .eq (.slice (some ⟨gH, 0, none⟩) y.m.length h3), .eq (.int .i64 k), .eq (.func (.func 37) #[] #[]), .eq (.pointer (some ⟨w0.heap.size + 1, 0, none⟩)), .eq (.int .i64 K), .eq (.slice CA cn cc), .eq (.int .i64 s), .eq (.slice CA s cc), rel 9 (fun u lo hi w => MxO w lo hi u (mxF K s fun b a => F b (atN y nv k + a)) ∧ w12.heap.size ≤ lo ∧ hi ≤ w.heap.size), .rel (fun x w => ∃ h', h' ≤ w.heap.size ∧ MxO w w12.heap.size h' (x.v 10) (gSrc y nv K F k)), .eq (.pointer (some ⟨gH, k * 3, none⟩))] [[], [0], [], [], [], [4], [], [], [6, 7], [4, 5, 6, 7, 8], [3, 4, 5, 6, 7, 8, 9], [0, 1, 2, 3, 4, 5, 6, 7, 8, 9, 10], [0, 1, 2, 3, 4, 5, 6, 7, 8, 9, 10, 11]] 12 (by kernel_rfl) ⟨trivial, trivial, trivial, trivial, trivial, trivial, trivial, trivial, trivial, rel_stable (fun u lo hi w w' h hb => ⟨h.1.below hb, h.2.1, Nat.le_trans h.2.2 hb.size⟩), fun x w w' ⟨h', l, o⟩ hb => ⟨h', Nat.le_trans l hb.size, o.below hb⟩, trivial, trivial⟩ ⟨?_, ?_, ?_, ?_, ?_, ?_, ?_, ?_, ?_, ?_, ?_, ?_, trivial⟩ ?_
              · intro x w hb hk Q' hQ
                clear hk
                simp only [netAct, dstAt, List.getElem?_toArray, List.getElem?_cons_zero, List.getElem?_cons_succ, Option.bind_some, Act.put, List.setIfInBounds_toArray, List.set_cons_zero, List.set_cons_succ] at hQ ⊢
                go_wp2
                exact hQ (.pointer (some ⟨w3.heap.size, 5, none⟩)) _ (Below.refl _ _) rfl
              · intro x w hb hk Q' hQ
                have h0 : x.v 0 = .pointer (some ⟨w3.heap.size, 5, none⟩) := (hk 0 (by decide)).1
                clear hk
                simp only [netAct, dstAt, List.getElem?_toArray, List.getElem?_cons_zero, List.getElem?_cons_succ, Option.bind_some, Act.put, List.setIfInBounds_toArray, List.set_cons_zero, List.set_cons_succ] at hQ ⊢
                simp only [h0] at hQ ⊢
                clear h0
                have z := (KO12.out.call hb).cell' (i := 5) rfl
                go_wp2
                exact hQ (.slice (some ⟨gH, 0, none⟩) y.m.length h3) _ (Below.refl _ _) rfl
              · intro x w hb hk Q' hQ
                clear hk
                simp only [netAct, dstAt, List.getElem?_toArray, List.getElem?_cons_zero, List.getElem?_cons_succ, Option.bind_some, Act.put, List.setIfInBounds_toArray, List.set_cons_zero, List.set_cons_succ] at hQ ⊢
                go_wp2
                exact hQ (.int .i64 k) _ (Below.refl _ _) rfl
              · intro x w hb hk Q' hQ
                clear hk
                simp only [netAct, dstAt, List.getElem?_toArray, List.getElem?_cons_zero, List.getElem?_cons_succ, Option.bind_some, Act.put, List.setIfInBounds_toArray, List.set_cons_zero, List.set_cons_succ] at hQ ⊢
                go_wp2
                exact hQ (.func (.func 37) #[] #[]) _ (Below.refl _ _) rfl
              · intro x w hb hk Q' hQ
                clear hk
                simp only [netAct, dstAt, List.getElem?_toArray, List.getElem?_cons_zero, List.getElem?_cons_succ, Option.bind_some, Act.put, List.setIfInBounds_toArray, List.set_cons_zero, List.set_cons_succ] at hQ ⊢
                go_wp2
                exact hQ (.pointer (some ⟨w0.heap.size + 1, 0, none⟩)) _ (Below.refl _ _) rfl
              · intro x w hb hk Q' hQ
                have h4 : x.v 4 = .pointer (some ⟨w0.heap.size + 1, 0, none⟩) := (hk 4 (by decide)).1
                clear hk
                simp only [netAct, dstAt, List.getElem?_toArray, List.getElem?_cons_zero, List.getElem?_cons_succ, Option.bind_some, Act.put, List.setIfInBounds_toArray, List.set_cons_zero, List.set_cons_succ] at hQ ⊢
                simp only [h4] at hQ ⊢
                clear h4
                have z := (KM12.out.call hb).cell' (i := 0) rfl
                go_wp2
                exact hQ (.int .i64 K) _ (Below.refl _ _) rfl
              · intro x w hb hk Q' hQ
                clear hk
                simp only [netAct, dstAt, List.getElem?_toArray, List.getElem?_cons_zero, List.getElem?_cons_succ, Option.bind_some, Act.put, List.setIfInBounds_toArray, List.set_cons_zero, List.set_cons_succ] at hQ ⊢
                go_wp2
                exact hQ (.slice CA cn cc) _ (Below.refl _ _) rfl
              · intro x w hb hk Q' hQ
                clear hk
                simp only [netAct, dstAt, List.getElem?_toArray, List.getElem?_cons_zero, List.getElem?_cons_succ, Option.bind_some, Act.put, List.setIfInBounds_toArray, List.set_cons_zero, List.set_cons_succ] at hQ ⊢
                go_wp2
                exact hQ (.int .i64 s) _ (Below.refl _ _) rfl
              · intro x w hb hk Q' hQ
                have h6 : x.v 6 = .slice CA cn cc := (hk 6 (by decide)).1
                have h7 : x.v 7 = .int .i64 s := (hk 7 (by decide)).1
                clear hk
                simp only [netAct, dstAt, List.getElem?_toArray, List.getElem?_cons_zero, List.getElem?_cons_succ, Option.bind_some, Act.put, List.setIfInBounds_toArray, List.set_cons_zero, List.set_cons_succ] at hQ ⊢
                simp only [h6, h7] at hQ ⊢
                clear h6 h7
                go_wp2
                exact hQ (.slice CA s cc) _ (Below.refl _ _) rfl
              · intro x w hb hk Q' hQ
                have h4 : x.v 4 = .pointer (some ⟨w0.heap.size + 1, 0, none⟩) := (hk 4 (by decide)).1
                have h5 : x.v 5 = .int .i64 K := (hk 5 (by decide)).1
                have h6 : x.v 6 = .slice CA cn cc := (hk 6 (by decide)).1
                have h7 : x.v 7 = .int .i64 s := (hk 7 (by decide)).1
                have h8 : x.v 8 = .slice CA s cc := (hk 8 (by decide)).1
                clear hk
                simp only [netAct, dstAt, List.getElem?_toArray, List.getElem?_cons_zero, List.getElem?_cons_succ, Option.bind_some, Act.put, List.setIfInBounds_toArray, List.set_cons_zero, List.set_cons_succ] at hQ ⊢
                simp only [h4, h5, h6, h7, h8] at hQ ⊢
                clear h4 h5 h6 h7 h8
                go_wp2_with fail
                refine (fromColumns_any _ K s (fun b a => F b (atN y nv k + a)) _ (SlII.next hb HSB.out) hK (by omega)).mono ?_; rintro er w6 ⟨v6, rfl, ho6, hb6⟩
                go_wp2
                exact hQ _ _ hb6 ⟨ho6, hb.size, Nat.le_refl _⟩
              · intro x w hb hk Q' hQ
                have h3 : x.v 3 = .func (.func 37) #[] #[] := (hk 3 (by decide)).1
                have h4 : x.v 4 = .pointer (some ⟨w0.heap.size + 1, 0, none⟩) := (hk 4 (by decide)).1
                have h5 : x.v 5 = .int .i64 K := (hk 5 (by decide)).1
                have h6 : x.v 6 = .slice CA cn cc := (hk 6 (by decide)).1
                have h7 : x.v 7 = .int .i64 s := (hk 7 (by decide)).1
                have h8 : x.v 8 = .slice CA s cc := (hk 8 (by decide)).1
                have h9 : MxO w (x.lo 9) (x.hi 9) (x.v 9) (mxF K s fun b a => F b (atN y nv k + a)) ∧ w12.heap.size ≤ (x.lo 9) ∧ (x.hi 9) ≤ w.heap.size := (hk 9 (by decide)).1
                have s9 := (hk 9 (by decide)).2
                clear hk
                simp only [netAct, dstAt, List.getElem?_toArray, List.getElem?_cons_zero, List.getElem?_cons_succ, Option.bind_some, Act.put, List.setIfInBounds_toArray, List.set_cons_zero, List.set_cons_succ] at hQ ⊢
                simp only [h3, h4, h5, h6, h7, h8] at hQ ⊢
                clear h3 h4 h5 h6 h7 h8
                obtain ⟨A9, c9, e9⟩ := h9.1.form
                have H9 := Lib.hid h9
                rw [e9] at H9 hQ ⊢
                go_wp2_with fail
                refine (refSrc1_any _ _ A9 _ c9 _).mono ?_; rintro er w6 ⟨rfl, hb6⟩
                go_wp2
                exact hQ _ _ hb6 ⟨_, Nat.le_trans H9.out.2.2 hb6.size, by rw [gSrc, HOS.out]; exact (H9.out.1.below hb6).wider H9.out.2.1 (Nat.le_refl _)⟩
              · intro x w hb hk Q' hQ
                have h1 : x.v 1 = .slice (some ⟨gH, 0, none⟩) y.m.length h3 := (hk 1 (by decide)).1
                have h2 : x.v 2 = .int .i64 k := (hk 2 (by decide)).1
                clear hk
                simp only [netAct, dstAt, List.getElem?_toArray, List.getElem?_cons_zero, List.getElem?_cons_succ, Option.bind_some, Act.put, List.setIfInBounds_toArray, List.set_cons_zero, List.set_cons_succ] at hQ ⊢
                simp only [h1, h2] at hQ ⊢
                clear h1 h2
                go_wp2
                exact hQ (.pointer (some ⟨gH, k * 3, none⟩)) _ (Below.refl _ _) rfl
              · intro x w hb hk hiv hdj
                have h0 : x.v 0 = .pointer (some ⟨w3.heap.size, 5, none⟩) := hk 0 (by decide)
                have h1 : x.v 1 = .slice (some ⟨gH, 0, none⟩) y.m.length h3 := hk 1 (by decide)
                have h2 : x.v 2 = .int .i64 k := hk 2 (by decide)
                have h3 : x.v 3 = .func (.func 37) #[] #[] := hk 3 (by decide)
                have h4 : x.v 4 = .pointer (some ⟨w0.heap.size + 1, 0, none⟩) := hk 4 (by decide)
                have h5 : x.v 5 = .int .i64 K := hk 5 (by decide)
                have h6 : x.v 6 = .slice CA cn cc := hk 6 (by decide)
                have h7 : x.v 7 = .int .i64 s := hk 7 (by decide)
                have h8 : x.v 8 = .slice CA s cc := hk 8 (by decide)
                have h9 : MxO w (x.lo 9) (x.hi 9) (x.v 9) (mxF K s fun b a => F b (atN y nv k + a)) ∧ w12.heap.size ≤ (x.lo 9) ∧ (x.hi 9) ≤ w.heap.size := hk 9 (by decide)
                have h10 : ∃ h', h' ≤ w.heap.size ∧ MxO w w12.heap.size h' (x.v 10) (gSrc y nv K F k) := hk 10 (by decide)
                have h11 : x.v 11 = .pointer (some ⟨gH, k * 3, none⟩) := hk 11 (by decide)
                clear hk
                simp only [netAct, dstAt, List.getElem?_toArray, List.getElem?_cons_zero, List.getElem?_cons_succ, Option.bind_some, Act.put, List.setIfInBounds_toArray, List.set_cons_zero, List.set_cons_succ]
                simp only [List.drop_succ_cons, List.drop_zero, h0, h1, h2, h3, h4, h5, h6, h7, h8, h11]
                clear h0 h1 h2 h3 h4 h5 h6 h7 h8 h11
                obtain ⟨h', l', o10⟩ := h10
                obtain ⟨AM, am, e10⟩ := o10.form
                rw [e10] at o10 ⊢
                replace o10 := o10.wider (Nat.le_refl _) l'
                obtain ⟨mr, hmr⟩ : ∃ z, (gSrc y nv K F k).r = z := ⟨_, rfl⟩
                obtain ⟨mk, hmk⟩ : ∃ z, (gSrc y nv K F k).c = z := ⟨_, rfl⟩
                obtain ⟨ml, hml2⟩ : ∃ z, (gSrc y nv K F k).a.length = z := ⟨_, rfl⟩
                rw [hmr, hmk, hml2] at o10 ⊢
                have hOw := HO12.out.below hb
                have hbs := hb.size
                have hkm : k < (rfK y nv K (gSrc y nv K F) k).m.length := by rw [rfK, msF_length]; exact hkn
                have hset := RepO.setMx hOw hkm o10 (Nat.le_refl _) (by omega) hs12
                obtain ⟨W14, hW14⟩ : ∃ u, set3 w gH (k * 3) (.int .i64 mr) (.int .i64 mk) (.slice AM ml am) = u := ⟨_, rfl⟩
                rw [hW14] at hset
                have hch3 : Chg gH (gH + 1) w W14 := by rw [← hW14]; exact chg_set3 _ _ _ _ _ _
                have hs14 : W14.heap.size = w.heap.size := by rw [← hW14]; simp
                have hRep : RepO W14 W.heap.size W14.heap.size (.agg #[.int .i64 y.p, .int .i64 y.q.v, .slice QA y.q.f.length qa, .slice QB y.q.f.length qb, .slice (some ⟨gE, 0, none⟩) y.d.length e3, .slice (some ⟨gH, 0, none⟩) y.m.length h3]) (rfK y nv K (gSrc y nv K F) (k + 1)) := by
                  have := hset.1.wider (lo' := W.heap.size) (hi' := W14.heap.size) (Nat.le_refl _) (by omega)
                  rw [rfK, ← HYS.out]
                  exact this
                have HREP := Lib.hid hRep
                have HCH14 := Lib.hid ((HCH12.out.trans (Chg.of_below hb)).trans (hch3.wider (show W2.heap.size ≤ gH by omega) (by omega)))
                obtain ⟨hk0, hk1, hk2, hkf⟩ : (∃ u, w.cell? ⟨gH, k * 3, none⟩ = some u) ∧ (∃ u, w.cell? ⟨gH, k * 3 + 1, none⟩ = some u) ∧ (∃ u, w.cell? ⟨gH, k * 3 + 2, none⟩ = some u) ∧ ∀ i, w.frozen? ⟨gH, i, none⟩ = false := by
                  obtain ⟨g, c0', s0', e, _, _, z0, z1, z2, _, zf, _⟩ := hOw.mxAt (j := k) (List.getElem?_eq_getElem hkm)
                  simp only [Value.slice.injEq, Option.some.injEq, Addr.mk.injEq, and_true, true_and] at e
                  obtain ⟨e1, _⟩ := e
                  subst e1
                  exact ⟨⟨_, z0⟩, ⟨_, z1⟩, ⟨_, z2⟩, zf⟩
                obtain ⟨u0, z0⟩ := hk0
                obtain ⟨u1, z1⟩ := hk1
                obtain ⟨u2, z2⟩ := hk2
                clear hset hRep hch3 hs14 hOw hmr hmk hml2 hiv hdj e10 o10 h9 hkm
                go_wp2
                clear hW14 z0 z1 z2 hkf
                refine ⟨⟨k + 1, _, cn - s, cc - s, by omega, by go_num, rfl, ?_, ⟨by omega, by omega⟩, fun w B h => ?_, HCH14.out, HREP.out⟩, ?_⟩
                · have := HCN.out
                  have h2 := hA2.out
                  show cn - s + atN y (nv : Int) (k + 1) = N
                  omega
                · have h2 := HCUT.out w B h
                  have hcl : ((rowsF N K fun a b => F b a).drop (atN y nv k)).length = cn := by rw [List.length_drop, rowsF_length]; have := HCN.out; omega
                  rw [← hcl] at h2
                  obtain ⟨CB, eCB, h3⟩ := SlG.cut (i := s) (k := cn) h2 hscn (Nat.le_of_eq hcl.symm)
                  rw [List.take_of_length_le (by rw [List.length_drop, hcl]; exact Nat.le_refl _), List.drop_drop, ← hA2.out] at h3
                  rw [← eCB, Nat.mul_one] at h3
                  exact h3
                · simp [intOf]; omega
      · obtain rfl : k = y.q.f.length := by omega
        have kz := k3.call gWr
        have fr := kz.frozen
        have s0 := kz.cell' (i := 0) rfl
        have s1' := kz.cell' (i := 1) rfl
        have s2' := kz.cell' (i := 2) rfl
        have s3' := kz.cell' (i := 3) rfl
        have s4' := kz.cell' (i := 4) rfl
        have s5' := kz.cell' (i := 5) rfl
        have kr := K8.out.chg hch (.inr (by omega))
        have r0 := kr.cell' (i := 0) rfl
        have r1 := kr.cell' (i := 1) rfl
        have r2 := kr.cell' (i := 2) rfl
        have r3 := kr.cell' (i := 3) rfl
        have r4 := kr.cell' (i := 4) rfl
        have r5 := kr.cell' (i := 5) rfl
        have gf := g0.trans (gWr.mono g0.size)
        have hc := chg6 wr (w0.heap.size + 1 + 1) (.int .i64 y.p) (.int .i64 y.q.v) (.slice QA y.q.f.length qa) (.slice QB y.q.f.length qb) (.slice (some ⟨gE, 0, none⟩) y.d.length e3) (.slice HM y.m.length h3)
        have OF := Lib.hid ((hO.chg hc (.inr (by have := SZ.out; omega))).wider (lo' := w0.heap.size) (hi' := wr.heap.size) (by have := SZ.out; omega) (Nat.le_refl _))
        have GF := Lib.hid (gf.trans (hc.below (by omega) gf.size))
        clear hO kz kr gf hc hcut hch
        go_wp2
        have hE := HE.out
        exact bodyPost_ret (v := .tuple #[.agg #[.int .i64 y.p, .int .i64 y.q.v, .slice QA y.q.f.length qa, .slice QB y.q.f.length qb, .slice (some ⟨gE, 0, none⟩) y.d.length e3, .slice HM y.m.length h3], .bool true]) (by simp [results, go_sem, s0, s1', s2', s3', s4', s5']) rfl ⟨_, by rw [hE], by rw [hE]; have := OF.out.wider (Nat.le_refl _) (Nat.le_refl _); simpa using this, GF.out⟩
end Go.Proofs.YtaefpblpfjhgoaaGreat

/- Remainders; a multiple of a vector added in place. -/
namespace Go.Proofs.YtaefpblpfjhgoaaGreat
set_option linter.unusedVariables false
set_option linter.unusedSimpArgs false
open Go.RowKit

theorem tmod_fix {p x : Int} (hp : 2 ≤ p) : (if x.tmod p < 0 then x.tmod p + p else x.tmod p) = x % p ∧ -p < x.tmod p ∧ x.tmod p < p := by
  have h1 := Int.tmod_lt_of_pos x (show 0 < p by omega)
  have h2 : -p < x.tmod p := by
    have := Int.tmod_lt_of_pos (-x) (show 0 < p by omega)
    rw [Int.neg_tmod] at this
    omega
  refine ⟨?_, h2, h1⟩
  rw [Int.tmod_eq_emod]
  have h3 := Int.emod_nonneg x (show p ≠ 0 by omega)
  have h4 := Int.emod_lt_of_pos x (show 0 < p by omega)
  have h5 : p.natAbs = p := by omega
  split
  · split <;> omega
  · rename_i h
    split <;> omega
theorem tmod_twice {p x : Int} (hp : 2 ≤ p) : (x.tmod p + p) % p = x % p := by
  rw [Int.add_emod_right, Int.emod_def, Int.emod_def x p]
  have h := (tmod_fix (x := x) hp).1
  have h4 := Int.emod_lt_of_pos x (show 0 < p by omega)
  have h3 := Int.emod_nonneg x (show p ≠ 0 by omega)
  rw [← Int.emod_def, ← Int.emod_def]
  rw [← h]
  split
  · rename_i hn
    rw [← Int.add_emod_right, Int.emod_eq_of_lt]
    · have := (tmod_fix (x := x) hp).2.1; omega
    · omega
  · rename_i hn
    exact Int.emod_eq_of_lt (by omega) (tmod_fix (x := x) hp).2.2

/-- cells off .. off + n of a row get k times another row added -/
def amF (p k : Int) (off n : Nat) (f y : Nat → Int) (i : Nat) : Int := if off ≤ i ∧ i < off + n then (f i + k * y (i - off)) % p else f i
theorem amF_0 (p k : Int) (off N : Nat) (f y : Nat → Int) : rowF N f = rowF N (amF p k off 0 f y) := rowF_congr fun i _ => by rw [amF, if_neg (by omega)]
theorem amF_succ {p k : Int} {off j N : Nat} (f y : Nat → Int) : (rowF N (amF p k off j f y)).set (off + j) ((f (off + j) + k * y j) % p) = rowF N (amF p k off (j + 1) f y) := by
  rw [rowF_set]
  refine rowF_congr fun i _ => ?_
  simp only [amF]
  by_cases h : i = off + j
  · subst h
    rw [if_pos rfl, if_pos (by omega), show off + j - off = j by omega]
  · rw [if_neg h]
    (repeat' split) <;> first | rfl | omega
theorem amF_rest {p k : Int} {off j : Nat} (f y : Nat → Int) : amF p k off j f y (off + j) = f (off + j) := by rw [amF, if_neg (by omega)]

set_option maxHeartbeats 1600000 in
theorem addMultiple_own (p k : Int) (g off n N cap ca : Nat) (lo hi : Nat) (f y : Nat → Int) (vb : Value) (w : World) (hp : 2 ≤ p ∧ p ≤ 5) (hk : 0 ≤ k ∧ k ≤ 5)
    (hown : IntsO w lo hi (.slice (some ⟨g, 0, none⟩) N cap) (rowF N f)) (hg : lo ≤ g ∧ g < hi) (hoff : off + n ≤ N) (hN : N ≤ 1000000) (hca : n ≤ ca ∧ ca ≤ 9223372036854775807)
    (hlo : lo ≤ w.heap.size) (hb : SlI w lo vb (rowF n y)) (hf : ∀ i, i < N → 0 ≤ f i ∧ f i ≤ 4) (hy : ∀ i, i < n → 0 ≤ y i ∧ y i ≤ 4) :
    Calls Tryz.prog 107 #[.int .i64 p, .slice (some ⟨g, off, none⟩) n ca, .int .i64 k, vb] w fun e w' => e = .returned (.slice (some ⟨g, off, none⟩) n ca) ∧ IntsO w' lo hi (.slice (some ⟨g, 0, none⟩) N cap) (rowF N (amF p k off n f y)) ∧ Chg lo hi w w' ∧ w.heap.size = w'.heap.size := by
  obtain ⟨A, c, rfl, _, _, hln, hx⟩ := hb.open_
  clear hb
  have HX := Lib.hid hx
  have HF := Lib.hid hf
  have HY := Lib.hid hy
  rw [rowF_length] at hln ⊢
  rw [amF_0 p k off N f y] at hown
  clear hx hf hy
  go_enter Tryz.func107, Tryz.ntmps107
  go_wp2
  go_loopw [13] (fun i wr => ∃ j : Nat, j ≤ n ∧ i = .int .i64 j ∧ IntsO wr lo hi (.slice (some ⟨g, 0, none⟩) N cap) (rowF N (amF p k off j f y)) ∧ Chg lo hi w wr ∧ Hid (w.heap.size = wr.heap.size)) (fun i _ => n - (intOf i).toNat)
  case atStart => exact ⟨0, Nat.zero_le _, rfl, hown, Chg.refl _ _ _, rfl⟩
  case round =>
    clear hown
    obtain ⟨j, hj, rfl, ho, hc, hsz⟩ := hrel
    by_cases hlt : j < n
    · have hx := HX.out
      rw [← rowF_length n y] at hlt
      obtain ⟨b, o, x, rfl, hbl, HXX, x1, _⟩ := SlI.at_ hx hlt
      rw [rowF_length] at hlt
      have hxx := HXX.out
      rw [rowF_get _ hlt] at hxx
      injection hxx with hxx
      subst hxx
      have x2 := bcell (hc.below (Nat.le_refl _) hlo) hbl x1
      have cA := (ho.1.cellG (j := off + j) (by rw [rowF_length]; omega)).1
      rw [rowF_getD _ (by omega), amF_rest] at cA
      have fA := ho.1.frozenG (off + j)
      have hf1 := HF.out (off + j) (by omega)
      have hy1 := HY.out j hlt
      have hst := amF_succ (p := p) (k := k) (off := off) (j := j) (N := N) f y
      obtain ⟨a, ha⟩ : ∃ a, f (off + j) = a := ⟨_, rfl⟩
      obtain ⟨z, hz⟩ : ∃ z, y j = z := ⟨_, rfl⟩
      rw [ha] at cA hf1 hst
      rw [hz] at x2 hy1 hst
      have hkz0 : 0 ≤ k * z := Int.mul_nonneg hk.1 hy1.1
      have hkz1 : k * z ≤ 5 * 4 := Int.mul_le_mul hk.2 hy1.2 hy1.1 (by omega)
      obtain ⟨K, hK⟩ : ∃ K, k * z = K := ⟨_, rfl⟩
      rw [hK] at hkz0 hkz1 hst
      have hKw : wrap64 (k * z) = K := by rw [hK]; exact IntWalk.wrap64_in _ ⟨by omega, by omega⟩
      have hr0 := Int.emod_nonneg (a + K) (show p ≠ 0 by omega)
      have hr1 := Int.emod_lt_of_pos (a + K) (show 0 < p by omega)
      have hc1 : Chg lo hi wr (wr.setCell ⟨g, off + j, none⟩ (.int .i64 ((a + K) % p))) := chg_set hg.1 hg.2
      have ho2 := ho.put (j := off + j) (x := (a + K) % p) (by simp only [I64]; omega)
      rw [hst] at ho2
      have HO2 := Lib.hid ho2
      have HC2 := Lib.hid (hc.trans hc1)
      have HS2 : Hid (w.heap.size = (wr.setCell ⟨g, off + j, none⟩ (.int .i64 ((a + K) % p))).heap.size) := by show _ = _; rw [hsz.out]; simp
      have htm : (wrap64 (a + K)).tmod p = (a + K) % p := by
        rw [IntWalk.wrap64_in _ ⟨by omega, by omega⟩]
        exact Int.tmod_eq_emod_of_nonneg (by omega)
      have htm2 : (a + K).tmod p = (a + K) % p := Int.tmod_eq_emod_of_nonneg (by omega)
      clear hst ho2 hc1 ho hc hr0 hr1 hx HXX x1 ha hz hK hkz0 hkz1
      go_wp2
      go_roundw
      case rel => exact ⟨j + 1, by omega, by go_num, HO2.out, HC2.out, HS2⟩
      case measure => simp [intOf]; omega
    · go_wp2
      go_ret
      obtain rfl : j = n := by omega
      exact ⟨rfl, ho, hc, hsz⟩
end Go.Proofs.YtaefpblpfjhgoaaGreat

/- ReduceMod, l2Mod; sums of matrices of the program. -/
namespace Go.Proofs.YtaefpblpfjhgoaaGreat
set_option linter.unusedVariables false
set_option linter.unusedSimpArgs false
open Go.RowKit

theorem reduceMod_any (p x : Int) (w : World) (hp : isFld p = true) (hx : I64 x) :
    Calls Tryz.prog 151 #[.int .i64 p, .int .i64 x] w fun e w' => e = .returned (.int .i64 (x % p)) ∧ w' = w := by
  have hp' := isFld_r hp
  obtain ⟨h1, h2, h3⟩ := tmod_fix (x := x) hp'.1
  have htm : (x.tmod p + p).tmod p = x % p := by rw [Int.tmod_eq_emod_of_nonneg (by omega)]; exact tmod_twice hp'.1
  have H1 := Lib.hid hp
  clear hp h1
  go_enter Tryz.func151, Tryz.ntmps151
  go_wp2_with fail
  refine (implIsField_any _ _).mono ?_; rintro e w1 ⟨rfl, rfl⟩
  rw [H1.out]
  go_wp2
  go_ret
  exact ⟨rfl, rfl⟩
theorem l2Mod_any (p x : Int) (w : World) (hp : 2 ≤ p ∧ p ≤ 5) (hx : I64 x) :
    Calls Tryz.prog 63 #[.int .i64 p, .int .i64 x] w fun e w' => e = .returned (.int .i64 (x % p)) ∧ w' = w := by
  obtain ⟨h1, h2, h3⟩ := tmod_fix (x := x) hp.1
  by_cases hn : x.tmod p < 0
  · rw [if_pos hn] at h1
    have HE := Lib.hid h1
    clear h1
    go_enter Tryz.func63, Tryz.ntmps63
    go_wp2
    go_ret
    exact ⟨by rw [← HE.out]; rfl, rfl⟩
  · rw [if_neg hn] at h1
    have HE := Lib.hid h1
    clear h1
    go_enter Tryz.func63, Tryz.ntmps63
    go_wp2
    go_ret
    exact ⟨by rw [← HE.out]; rfl, rfl⟩
def plF (p k : Int) (f g : Nat → Nat → Int) (a b : Nat) : Int := (f a b + k * g a b) % p
end Go.Proofs.YtaefpblpfjhgoaaGreat

/- Elimination: plain part. -/
namespace Go.Proofs.YtaefpblpfjhgoaaGreat
set_option linter.unusedVariables false
set_option linter.unusedSimpArgs false
open Go.RowKit

/-- the first row from a on, below a + m, whose number in column k is not 0; a + m if there is none -/
def nzGo (f : Nat → Nat → Int) (k : Nat) : Nat → Nat → Nat
  | a, 0 => a
  | a, m + 1 => if f a k = 0 then nzGo f k (a + 1) m else a
def nzF (f : Nat → Nat → Int) (k n r : Nat) : Nat := nzGo f k n (r - n)
theorem nzGo_le (f : Nat → Nat → Int) (k : Nat) : ∀ m a, a ≤ nzGo f k a m ∧ nzGo f k a m ≤ a + m
  | 0, a => by simp [nzGo]
  | m + 1, a => by
    have h := nzGo_le f k m (a + 1)
    simp only [nzGo]
    split <;> omega
theorem nzF_le {f : Nat → Nat → Int} {k n r : Nat} (h : n ≤ r) : n ≤ nzF f k n r ∧ nzF f k n r ≤ r := by
  have := nzGo_le f k (r - n) n
  unfold nzF; omega
theorem nzGo_eq {f : Nat → Nat → Int} {k : Nat} : ∀ {m a b}, a ≤ b → b ≤ a + m → (∀ i, a ≤ i → i < b → f i k = 0) → (b < a + m → f b k ≠ 0) → nzGo f k a m = b
  | 0, a, b, h1, h2, _, _ => by simp only [nzGo]; omega
  | m + 1, a, b, h1, h2, h3, h4 => by
    simp only [nzGo]
    by_cases e : a = b
    · subst e
      rw [if_neg (h4 (by omega))]
    · rw [if_pos (h3 a (Nat.le_refl _) (by omega))]
      exact nzGo_eq (by omega) (by omega) (fun i hi hb => h3 i (by omega) hb) (fun h => h4 (by omega))
theorem nzF_eq {f : Nat → Nat → Int} {k n r b : Nat} (h1 : n ≤ b) (h2 : b ≤ r) (h3 : ∀ i, n ≤ i → i < b → f i k = 0) (h4 : b < r → f b k ≠ 0) : nzF f k n r = b :=
  nzGo_eq h1 (by omega) h3 (fun h => h4 (by omega))
theorem nzGo_ne {f : Nat → Nat → Int} {k : Nat} : ∀ {m a}, nzGo f k a m < a + m → f (nzGo f k a m) k ≠ 0
  | 0, a, h => by simp only [nzGo] at h; omega
  | m + 1, a, h => by
    simp only [nzGo] at h ⊢
    split
    · rename_i h0
      rw [if_pos h0] at h
      exact nzGo_ne (by omega)
    · rename_i h0; exact h0
theorem nzF_ne {f : Nat → Nat → Int} {k n r : Nat} (hn : n ≤ r) (h : nzF f k n r < r) : f (nzF f k n r) k ≠ 0 := nzGo_ne (by unfold nzF at h; omega)

/-- the inverse in a field of 2, 3 or 5 -/
def invP (p x : Int) : Int := if p = 5 then (x % p * (x % p) % p) * (x % p) % p else x % p
/-- rows n and t swapped, in the columns below j -/
def swJ (n t j : Nat) (f : Nat → Nat → Int) (a b : Nat) : Int := if b < j then (if a = n then f t b else if a = t then f n b else f a b) else f a b
def swA (n t : Nat) (f : Nat → Nat → Int) (a b : Nat) : Int := if a = n then f t b else if a = t then f n b else f a b
/-- row n times s -/
def scJ (p : Int) (n : Nat) (s : Int) (j : Nat) (f : Nat → Nat → Int) (a b : Nat) : Int := if a = n ∧ b < j then f a b * s % p else f a b
def scA (p : Int) (n : Nat) (s : Int) (f : Nat → Nat → Int) (a b : Nat) : Int := if a = n then f a b * s % p else f a b
/-- multiples of row n taken from the others so that column k is 0, in the rows below i -/
def elI (p : Int) (n k i : Nat) (f : Nat → Nat → Int) (a b : Nat) : Int := if a < i ∧ a ≠ n then (f a b + (p - f a k) * f n b) % p else f a b
def elA (p : Int) (n k : Nat) (f : Nat → Nat → Int) (a b : Nat) : Int := if a ≠ n then (f a b + (p - f a k) * f n b) % p else f a b
/-- one column -/
def rdF (p : Int) (r : Nat) (f : Nat → Nat → Int) (n k : Nat) : Nat → Nat → Int :=
  elA p n k (scA p n (invP p (swA n (nzF f k n r) f n k)) (swA n (nzF f k n r) f))
/-- the columns below k: the matrix, the columns of the leading ones -/
def rdTo (p : Int) (r : Nat) (f : Nat → Nat → Int) : Nat → (Nat → Nat → Int) × List Int
  | 0 => (f, [])
  | k + 1 => if nzF (rdTo p r f k).1 k (rdTo p r f k).2.length r < r then (rdF p r (rdTo p r f k).1 (rdTo p r f k).2.length k, (rdTo p r f k).2 ++ [(k : Int)]) else rdTo p r f k
theorem rdTo_succ (p : Int) (r : Nat) (f : Nat → Nat → Int) (k : Nat) : rdTo p r f (k + 1) =
    if nzF (rdTo p r f k).1 k (rdTo p r f k).2.length r < r then (rdF p r (rdTo p r f k).1 (rdTo p r f k).2.length k, (rdTo p r f k).2 ++ [(k : Int)]) else ((rdTo p r f k).1, (rdTo p r f k).2) := rfl
theorem rdTo_len (p : Int) (r : Nat) (f : Nat → Nat → Int) : ∀ k, (rdTo p r f k).2.length ≤ r ∧ (rdTo p r f k).2.length ≤ k
  | 0 => by simp [rdTo]
  | k + 1 => by
    have h := rdTo_len p r f k
    simp only [rdTo]
    split
    · rename_i h1
      have := (nzF_le (f := (rdTo p r f k).1) (k := k) h.1).1
      simp
      omega
    · omega
theorem rdTo_mem (p : Int) (r : Nat) (f : Nat → Nat → Int) : ∀ k, ∀ x ∈ (rdTo p r f k).2, 0 ≤ x ∧ x < k
  | 0, x, h => by simp [rdTo] at h
  | k + 1, x, h => by
    have ih := rdTo_mem p r f k
    simp only [rdTo] at h
    split at h
    · simp only [List.mem_append, List.mem_singleton] at h
      rcases h with h | rfl
      · have := ih x h; omega
      · omega
    · have := ih x h; omega
/-- numbers of the field -/
def InF (p : Int) (r c : Nat) (f : Nat → Nat → Int) : Prop := ∀ a b, a < r → b < c → 0 ≤ f a b ∧ f a b ≤ p - 1
theorem inF_sw {p : Int} {r c n t : Nat} {f : Nat → Nat → Int} (h : InF p r c f) (hn : n < r) (ht : t < r) : InF p r c (swA n t f) := fun a b ha hb => by
  unfold swA
  split
  · exact h _ _ ht hb
  · split
    · exact h _ _ hn hb
    · exact h _ _ ha hb
theorem emod_rng {p x : Int} (hp : 2 ≤ p) : 0 ≤ x % p ∧ x % p ≤ p - 1 := by
  have h1 := Int.emod_nonneg x (show p ≠ 0 by omega)
  have h2 := Int.emod_lt_of_pos x (show 0 < p by omega)
  omega
theorem inF_sc {p s : Int} {r c n : Nat} {f : Nat → Nat → Int} (hp : 2 ≤ p) (h : InF p r c f) : InF p r c (scA p n s f) := fun a b ha hb => by
  unfold scA
  split
  · exact emod_rng hp
  · exact h _ _ ha hb
theorem inF_el {p : Int} {r c n k : Nat} {f : Nat → Nat → Int} (hp : 2 ≤ p) (h : InF p r c f) : InF p r c (elA p n k f) := fun a b ha hb => by
  unfold elA
  split
  · exact emod_rng hp
  · exact h _ _ ha hb
theorem inF_rd {p : Int} {r c n k : Nat} {f : Nat → Nat → Int} (hp : 2 ≤ p) (h : InF p r c f) (hn : n < r) (ht : nzF f k n r < r) : InF p r c (rdF p r f n k) := inF_el hp (inF_sc hp (inF_sw h hn ht))
theorem inF_to {p : Int} {r c : Nat} {f : Nat → Nat → Int} (hp : 2 ≤ p) (h : InF p r c f) : ∀ k, InF p r c (rdTo p r f k).1
  | 0 => h
  | k + 1 => by
    have ih := inF_to hp h k
    simp only [rdTo]
    split
    · rename_i h1
      have hl := (rdTo_len p r f k).1
      exact inF_rd hp ih (by have := (nzF_le (f := (rdTo p r f k).1) (k := k) hl).1; omega) h1
    · exact ih
/-- no row is left: nothing is done any more -/
theorem rdTo_full {p : Int} {r : Nat} {f : Nat → Nat → Int} {k : Nat} (h : (rdTo p r f k).2.length = r) : rdTo p r f (k + 1) = rdTo p r f k := by
  simp only [rdTo]
  rw [if_neg]
  rw [h]
  have := (nzF_le (f := (rdTo p r f k).1) (k := k) (Nat.le_refl r)).1
  omega
theorem rdTo_rest {p : Int} {r : Nat} {f : Nat → Nat → Int} {k : Nat} (h : (rdTo p r f k).2.length = r) : ∀ m, rdTo p r f (k + m) = rdTo p r f k
  | 0 => rfl
  | m + 1 => by
    have ih := rdTo_rest h m
    rw [show k + (m + 1) = (k + m) + 1 by omega, rdTo_full (by rw [ih]; exact h), ih]

/-! ### steps of the loops, as writes into the cells -/
theorem sw_0 (n t : Nat) (f : Nat → Nat → Int) : swJ n t 0 f = f := by funext a b; simp [swJ]
theorem sw_end (n t r c : Nat) (f : Nat → Nat → Int) : flat r c (swJ n t c f) = flat r c (swA n t f) := flat_congr fun a b _ hb => by rw [swJ, if_pos hb]; rfl
theorem sw_step {n t r c j : Nat} (f : Nat → Nat → Int) (hn : n < r) (ht : t < r) (hj : j < c) :
    ((flat r c (swJ n t j f)).set (n * c + j) (f t j)).set (t * c + j) (f n j) = flat r c (swJ n t (j + 1) f) := by
  rw [flat_set _ _ hn hj, flat_set _ _ ht hj]
  refine flat_congr fun a b _ _ => ?_
  simp only [swJ]
  by_cases e1 : a = t ∧ b = j
  · obtain ⟨rfl, rfl⟩ := e1
    rw [if_pos ⟨rfl, rfl⟩, if_pos (by omega)]
    by_cases e2 : a = n
    · subst e2; rw [if_pos rfl]
    · rw [if_neg e2, if_pos rfl]
  · rw [if_neg e1]
    by_cases e2 : a = n ∧ b = j
    · obtain ⟨rfl, rfl⟩ := e2
      rw [if_pos ⟨rfl, rfl⟩, if_pos (by omega), if_pos rfl]
    · rw [if_neg e2]
      by_cases e3 : b < j
      · rw [if_pos e3, if_pos (show b < j + 1 by omega)]
      · rw [if_neg e3]
        by_cases e4 : b < j + 1
        · rw [if_pos e4, if_neg (by omega), if_neg (by omega)]
        · rw [if_neg e4]
theorem sw_rest {n t j a : Nat} (f : Nat → Nat → Int) : swJ n t j f a j = f a j := by rw [swJ, if_neg (by omega)]
theorem sc_0 (p : Int) (n : Nat) (s : Int) (f : Nat → Nat → Int) : scJ p n s 0 f = f := by funext a b; simp [scJ]
theorem sc_end (p : Int) (n r c : Nat) (s : Int) (f : Nat → Nat → Int) : flat r c (scJ p n s c f) = flat r c (scA p n s f) := flat_congr fun a b _ hb => by simp only [scJ, scA, hb, and_true]
theorem sc_step {p s : Int} {n r c j : Nat} (f : Nat → Nat → Int) (hn : n < r) (hj : j < c) :
    (flat r c (scJ p n s j f)).set (n * c + j) (f n j * s % p) = flat r c (scJ p n s (j + 1) f) := by
  rw [flat_set _ _ hn hj]
  refine flat_congr fun a b _ _ => ?_
  simp only [scJ]
  by_cases e1 : a = n ∧ b = j
  · obtain ⟨rfl, rfl⟩ := e1
    rw [if_pos ⟨rfl, rfl⟩, if_pos (by omega)]
  · rw [if_neg e1]
    by_cases e2 : a = n ∧ b < j
    · rw [if_pos e2, if_pos (by omega)]
    · rw [if_neg e2, if_neg (by omega)]
theorem sc_rest {p s : Int} {n j a : Nat} (f : Nat → Nat → Int) : scJ p n s j f a j = f a j := by rw [scJ, if_neg (by omega)]
theorem el_0 (p : Int) (n k : Nat) (f : Nat → Nat → Int) : elI p n k 0 f = f := by funext a b; simp [elI]
theorem el_end (p : Int) (n k r c : Nat) (f : Nat → Nat → Int) : flat r c (elI p n k r f) = flat r c (elA p n k f) := flat_congr fun a b ha _ => by simp only [elI, elA, ha, true_and]
theorem el_skip (p : Int) (n k : Nat) (f : Nat → Nat → Int) : elI p n k n f = elI p n k (n + 1) f := by
  funext a b
  simp only [elI]
  by_cases e : a < n ∧ a ≠ n
  · rw [if_pos e, if_pos (by omega)]
  · rw [if_neg e, if_neg (by omega)]
theorem el_rest {p : Int} {n k i b : Nat} (f : Nat → Nat → Int) : elI p n k i f i b = f i b := by rw [elI, if_neg (by omega)]
theorem el_n {p : Int} {n k i b : Nat} (f : Nat → Nat → Int) : elI p n k i f n b = f n b := by rw [elI, if_neg (by omega)]
/-- row i, the numbers in the columns below j -/
def elJ (p : Int) (n k i j : Nat) (f : Nat → Nat → Int) (a b : Nat) : Int := if a = i ∧ b < j then (f a b + (p - f a k) * f n b) % p else elI p n k i f a b
theorem elJ_0 (p : Int) (n k i : Nat) (f : Nat → Nat → Int) : elJ p n k i 0 f = elI p n k i f := by funext a b; simp [elJ]
theorem elJ_end {p : Int} {n k i r c : Nat} (f : Nat → Nat → Int) (hi : i ≠ n) : flat r c (elJ p n k i c f) = flat r c (elI p n k (i + 1) f) := flat_congr fun a b _ hb => by
  simp only [elJ, elI]
  by_cases e : a = i
  · subst e
    rw [if_pos ⟨rfl, hb⟩, if_pos (by omega)]
  · rw [if_neg (by omega)]
    by_cases e2 : a < i ∧ a ≠ n
    · rw [if_pos e2, if_pos (by omega)]
    · rw [if_neg e2, if_neg (by omega)]
theorem elJ_step {p : Int} {n k i j r c : Nat} (f : Nat → Nat → Int) (hi : i < r) (hj : j < c) :
    (flat r c (elJ p n k i j f)).set (i * c + j) ((f i j + (p - f i k) * f n j) % p) = flat r c (elJ p n k i (j + 1) f) := by
  rw [flat_set _ _ hi hj]
  refine flat_congr fun a b _ _ => ?_
  simp only [elJ]
  by_cases e1 : a = i ∧ b = j
  · obtain ⟨rfl, rfl⟩ := e1
    rw [if_pos ⟨rfl, rfl⟩, if_pos (by omega)]
  · rw [if_neg e1]
    by_cases e2 : a = i ∧ b < j
    · rw [if_pos e2, if_pos (by omega)]
    · rw [if_neg e2, if_neg (by omega)]
theorem elJ_rest {p : Int} {n k i j : Nat} (f : Nat → Nat → Int) : elJ p n k i j f i j = f i j := by rw [elJ, if_neg (by omega), el_rest]
theorem elJ_n {p : Int} {n k i j b : Nat} (f : Nat → Nat → Int) (hi : i ≠ n) : elJ p n k i j f n b = f n b := by rw [elJ, if_neg (by omega), el_n]
/-- the reference takes a multiple away: the same remainder -/
theorem el_sub {p a x y : Int} : (a - x * y) % p = (a + (p - x) * y) % p := by
  rw [show a + (p - x) * y = (a - x * y) + p * y by rw [Int.sub_mul]; omega]
  rw [Int.add_mul_emod_self_left]
end Go.Proofs.YtaefpblpfjhgoaaGreat

/- Products of matrices: the program's times. -/
namespace Go.Proofs.YtaefpblpfjhgoaaGreat
set_option linter.unusedVariables false
set_option linter.unusedSimpArgs false
open Go.RowKit

def sgF (h : Nat → Int) : Nat → Int
  | 0 => 0
  | n + 1 => sgF h n + h n
/-- the product, with the first k numbers of each row of f only -/
def muP (p : Int) (k : Nat) (f g : Nat → Nat → Int) (a b : Nat) : Int := sgF (fun t => f a t * g t b) k % p
/-- rows below i done, row i up to k, the others 0 -/
def muS (p : Int) (c i k : Nat) (f g : Nat → Nat → Int) (a b : Nat) : Int := if a < i then muP p c f g a b else if a = i then muP p k f g a b else 0
theorem SlI.up {w : World} {B B' : Nat} {v : Value} {xs : List Int} (hB : B ≤ B') (h : SlI w B v xs) : SlI w B' v xs := by
  obtain ⟨A, c, e, h1, h2, h3, h4⟩ := h
  exact ⟨A, c, e, h1, h2, h3, fun hl => by obtain ⟨b, o, e2, hb, hx⟩ := h4 hl; exact ⟨b, o, e2, Nat.lt_of_lt_of_le hb hB, hx⟩⟩
end Go.Proofs.YtaefpblpfjhgoaaGreat

/- Elimination: the state of the loops; inverses; a multiple of a row of the same block. -/
namespace Go.Proofs.YtaefpblpfjhgoaaGreat
set_option linter.unusedVariables false
set_option linter.unusedSimpArgs false
open Go.RowKit

theorem grown_then {a b c : World} {row : Option Nat} (h : a.grownBy b row) (k : b.grownBy c row) : a.grownBy c row :=
  ⟨k.os.trans h.os, k.tape.trans h.tape, k.output.trans h.output, Nat.le_trans h.size k.size, fun i hi hne => (k.block i (Nat.lt_of_lt_of_le hi h.size) hne).trans (h.block i hi hne)⟩
/-- The loops' state: a matrix's cells and a list of the call's own, apart; all below B as it was. -/
structure RS (B : Nat) (w1 : World) (A : Option Addr) (r c L cap : Nat) (w : World) (f : Nat → Nat → Int) (pv : Value) (ps : List Int) : Prop where
  bel : Below B w1 w
  fam : Fam w B w.heap.size [(.slice A L cap, flat r c f), (pv, ps)]
section
variable {B : Nat} {w1 w w' : World} {A : Option Addr} {r c L cap : Nat} {f : Nat → Nat → Int} {pv : Value} {ps : List Int}
theorem RS.own (h : RS B w1 A r c L cap w f pv ps) : OwnI w B (.slice A L cap) (flat r c f) := (h.fam.1 (_, flat r c f) (by simp)).1
theorem RS.ownP (h : RS B w1 A r c L cap w f pv ps) : IntsO w B w.heap.size pv ps := h.fam.1 (pv, ps) (by simp)
theorem RS.size (h : RS B w1 A r c L cap w f pv ps) (hB : B ≤ w1.heap.size) : B ≤ w.heap.size := Nat.le_trans hB h.bel.size
theorem RS.call (h : RS B w1 A r c L cap w f pv ps) (hB : B ≤ w1.heap.size) (hb : Below w.heap.size w w') : RS B w1 A r c L cap w' f pv ps :=
  ⟨h.bel.trans (hb.mono (h.size hB)), (h.fam.below hb).mono (Nat.le_refl _) hb.size⟩
/-- where the matrix has cells -/
theorem RS.addr (h : RS B w1 A r c L cap w f pv ps) (hL : 0 < r * c) : ∃ g, A = some ⟨g, 0, none⟩ ∧ L = r * c ∧ L ≤ cap ∧ cap ≤ 9223372036854775807 ∧ B ≤ g ∧ g < w.heap.size := by
  have ho := h.own
  rcases ho.1.2 with ⟨e, h0⟩ | ⟨g, cap', cur, e, hg, hh, hnc, hcm, _⟩
  · rw [flat_length] at h0; omega
  · injection e with e1 e2 e3
    subst e1 e3
    rw [flat_length] at e2 hnc
    subst e2
    exact ⟨g, rfl, rfl, hnc, by simp only [maxLen] at hcm; omega, hg, (Array.getElem?_eq_some_iff.1 hh).1⟩
theorem RS.len (h : RS B w1 A r c L cap w f pv ps) : L = r * c := by
  rcases h.own.form with ⟨A', c', e, _⟩
  injection e with _ e _
  rw [flat_length] at e
  exact e
theorem RS.cell {g i k : Nat} (h : RS B w1 (some ⟨g, 0, none⟩) r c L cap w f pv ps) (hi : i < r) (hk : k < c) : w.cell? ⟨g, i * c + k, none⟩ = some (.int .i64 (f i k)) ∧ I64 (f i k) ∧ w.frozen? ⟨g, i * c + k, none⟩ = false := by
  have h1 := h.own.cellG (j := i * c + k) (by rw [flat_length]; exact ix_lt hi hk)
  rw [flat_getD f hi hk] at h1
  exact ⟨h1.1, h1.2, h.own.frozenG _⟩
/-- one cell written; the new cells are told by the new function -/
theorem RS.put {g J : Nat} {x : Int} {f2 : Nat → Nat → Int} (h : RS B w1 (some ⟨g, 0, none⟩) r c L cap w f pv ps) (hg : B ≤ g) (hs : B ≤ w.heap.size) (hx : I64 x) (e : (flat r c f).set J x = flat r c f2) :
    RS B w1 (some ⟨g, 0, none⟩) r c L cap (w.setCell ⟨g, J, none⟩ (.int .i64 x)) f2 pv ps := by
  have hp := h.own.put (j := J) hx
  rw [e] at hp
  refine ⟨h.bel.setCell hg _, ?_⟩
  have := h.fam.turn (L1 := []) hp.1 hp.2
  simpa using this
/-- the matrix's row is turned by a callee -/
theorem RS.turn {g : Nat} {f2 : Nat → Nat → Int} (h : RS B w1 (some ⟨g, 0, none⟩) r c L cap w f pv ps) (hg : B ≤ g) (hs : B ≤ w.heap.size) (ho : OwnI w' B (.slice (some ⟨g, 0, none⟩) L cap) (flat r c f2)) (hgr : w.grownBy w' (some g)) :
    RS B w1 (some ⟨g, 0, none⟩) r c L cap w' f2 pv ps := by
  refine ⟨h.bel.trans (below_grown hgr (fun k hk => by injection hk with hk; omega) hs), ?_⟩
  have := h.fam.turn (L1 := []) ho hgr
  exact this.mono (Nat.le_refl _) hgr.size
/-- one number appended to the list -/
theorem RS.app {pv' : Value} {ps' : List Int} (h : RS B w1 A r c L cap w f pv ps) (hs : B ≤ w.heap.size) (ho : OwnI w' B pv' ps') (hg : w.grownBy w' pv.ownBlock) (hv : pv'.ownBlock = pv.ownBlock ∨ pv'.ownBlock = some w.heap.size) :
    RS B w1 A r c L cap w' f pv' ps' := by
  refine ⟨h.bel.trans (below_grown hg (fun k hk => (h.ownP.1.lt k hk).1) hs), ?_⟩
  have h1 : Fam w B w.heap.size ([(.slice A L cap, flat r c f)] ++ (pv, ps) :: []) := h.fam
  have hw := hg.size
  exact h1.app hw ho hg hv
end

section
variable {B : Nat} {w1 w w' : World} {A : Option Addr} {r c L cap : Nat} {f : Nat → Nat → Int} {pv : Value} {ps : List Int}
theorem RS.cellP {g i k P : Nat} (h : RS B w1 (some ⟨g, 0, none⟩) r c L cap w f pv ps) (hi : i < r) (hk : k < c) (hP : P = i * c) : w.cell? ⟨g, P + k, none⟩ = some (.int .i64 (f i k)) ∧ I64 (f i k) ∧ w.frozen? ⟨g, P + k, none⟩ = false := by
  subst hP; exact h.cell hi hk
/-- two cells written -/
theorem RS.put2 {g J J' : Nat} {x y : Int} {f2 : Nat → Nat → Int} (h : RS B w1 (some ⟨g, 0, none⟩) r c L cap w f pv ps) (hg : B ≤ g) (hs : B ≤ w.heap.size) (hx : I64 x) (hy : I64 y) (e : ((flat r c f).set J x).set J' y = flat r c f2) :
    RS B w1 (some ⟨g, 0, none⟩) r c L cap ((w.setCell ⟨g, J, none⟩ (.int .i64 x)).setCell ⟨g, J', none⟩ (.int .i64 y)) f2 pv ps := by
  have hp := h.own.put (j := J) hx
  have hp2 := hp.1.put (j := J') hy
  rw [e] at hp2
  exact h.turn hg hs hp2.1 (grown_then hp.2 hp2.2)
end
theorem RS.congr {B : Nat} {w1 w : World} {A : Option Addr} {r c L cap : Nat} {f f2 : Nat → Nat → Int} {pv : Value} {ps : List Int} (h : RS B w1 A r c L cap w f pv ps) (e : flat r c f = flat r c f2) : RS B w1 A r c L cap w f2 pv ps :=
  ⟨h.bel, by rw [← e]; exact h.fam⟩
theorem invP_r {p x : Int} (hp : 2 ≤ p ∧ p ≤ 5) : 0 ≤ invP p x ∧ invP p x ≤ 4 := by
  unfold invP
  split
  · have := emod_rng (x := x % p * (x % p) % p * (x % p)) hp.1
    omega
  · have := emod_rng (x := x) hp.1
    omega
theorem inF_elI {p : Int} {r c n k i : Nat} {f : Nat → Nat → Int} (hp : 2 ≤ p) (h : InF p r c f) : InF p r c (elI p n k i f) := fun a b ha hb => by
  unfold elI
  split
  · exact emod_rng hp
  · exact h _ _ ha hb
theorem rows_apart {i n c P Q : Nat} (h : i ≠ n) (hQ : Q = i * c) (hP : P = n * c) : Q + c ≤ P ∨ P + c ≤ Q := by
  rcases Nat.lt_or_gt_of_ne h with h | h
  · have : (i + 1) * c ≤ n * c := Nat.mul_le_mul_right _ h
    rw [Nat.add_mul, Nat.one_mul] at this
    omega
  · have : (n + 1) * c ≤ i * c := Nat.mul_le_mul_right _ h
    rw [Nat.add_mul, Nat.one_mul] at this
    omega
theorem row_in {r c i P L cap g : Nat} (w : World) (hi : i < r) (h0 : 0 < c) (hr : r ≤ 1000) (hc : c ≤ 1000) (hL : L = r * c) (hcap : L ≤ cap) (hb : cap ≤ 9223372036854775807) (hP : P = i * c) :
    Calls Tryz.prog 77 #[.agg #[.int .i64 (r : Int), .int .i64 (c : Int), .slice (some ⟨g, 0, none⟩) L cap], .int .i64 (i : Int)] w fun e w' => e = .returned (.slice (some ⟨g, P, none⟩) c (cap - P)) ∧ Below w.heap.size w w' := by
  obtain ⟨P', J, h1, h2, h3, h4, h5⟩ := ix_walk (k := 0) hi h0 hr hc
  obtain ⟨h5', h6, h7, h8⟩ := ix_next hi hr hc h1
  have e : P' = P := h5'.trans hP.symm
  have h9 : P' + c ≤ L := by rw [hL]; exact h7
  have h10 : i ≤ 1000 := Nat.le_trans (Nat.le_of_lt hi) hr
  have := row_at (r : Int) c i P' L cap g w h1 h6 h9 hcap hb h0 h10
  rw [e] at this
  exact this
theorem rowP {r c i k P : Nat} (hi : i < r) (hk : k < c) (hr : r ≤ 1000) (hc : c ≤ 1000) (hP : P = i * c) : P + k < r * c ∧ P + c ≤ r * c ∧ r * c ≤ 1000000 := by
  have h1 : (i + 1) * c ≤ r * c := Nat.mul_le_mul_right _ hi
  have h2 : r * c ≤ 1000 * 1000 := Nat.mul_le_mul hr hc
  rw [Nat.add_mul, Nat.one_mul] at h1
  omega
/-- a row of the matrix gets a multiple of another one: one round of the elimination -/
theorem am_el {p : Int} {n k i r c : Nat} (F : Nat → Nat → Int) (hn : n < r) (hi : i ≠ n) :
    rowF (r * c) (amF p (p - F i k) (i * c) c (fun j => elI p n k i F (j / c) (j % c)) fun j => (fun x => elI p n k i F (x / c) (x % c)) (n * c + j)) = flat r c (elI p n k (i + 1) F) := by
  refine rowF_congr fun x hx => ?_
  obtain ⟨a, b, ha, hb, rfl⟩ := ix_of hx
  simp only [amF, ix_div hb, ix_mod hb]
  by_cases e : a = i
  · subst e
    rw [if_pos (by omega), show a * c + b - a * c = b by omega, ix_div hb, ix_mod hb, el_rest, el_n]
    simp only [elI]
    rw [if_pos (by omega)]
  · have h1 : ¬ (i * c ≤ a * c + b ∧ a * c + b < i * c + c) := by
      rintro ⟨h1, h2⟩
      rcases Nat.lt_or_gt_of_ne e with h | h
      · have : (a + 1) * c ≤ i * c := Nat.mul_le_mul_right _ h
        rw [Nat.add_mul, Nat.one_mul] at this
        omega
      · have : (i + 1) * c ≤ a * c := Nat.mul_le_mul_right _ h
        rw [Nat.add_mul, Nat.one_mul] at this
        omega
    rw [if_neg h1]
    simp only [elI]
    by_cases e2 : a < i ∧ a ≠ n
    · rw [if_pos e2, if_pos (by omega)]
    · rw [if_neg e2, if_neg (by omega)]
theorem rowF_flat (r c : Nat) (f : Nat → Nat → Int) : flat r c f = rowF (r * c) fun j => f (j / c) (j % c) := rfl

/-! ### inverses -/
theorem invP_ok {p x : Int} (hp : isFld p = true) (h1 : 1 ≤ x) (h2 : x ≤ p - 1) : 1 ≤ invP p x ∧ invP p x ≤ p - 1 ∧ x * invP p x % p = 1 ∧ ∀ y, 1 ≤ y → y < invP p x → x * y % p ≠ 1 := by
  rcases isFld_t.1 hp with rfl | rfl | rfl
  · obtain rfl : x = 1 := by omega
    refine ⟨by decide, by decide, by decide, fun y hy hy2 => ?_⟩
    have : invP 2 1 = 1 := by decide
    omega
  · have : x = 1 ∨ x = 2 := by omega
    rcases this with rfl | rfl
    · refine ⟨by decide, by decide, by decide, fun y hy hy2 => ?_⟩
      have : invP 3 1 = 1 := by decide
      omega
    · refine ⟨by decide, by decide, by decide, fun y hy hy2 => ?_⟩
      have : invP 3 2 = 2 := by decide
      obtain rfl : y = 1 := by omega
      decide
  · have : x = 1 ∨ x = 2 ∨ x = 3 ∨ x = 4 := by omega
    rcases this with rfl | rfl | rfl | rfl
    · refine ⟨by decide, by decide, by decide, fun y hy hy2 => ?_⟩
      have : invP 5 1 = 1 := by decide
      omega
    · refine ⟨by decide, by decide, by decide, fun y hy hy2 => ?_⟩
      have : invP 5 2 = 3 := by decide
      have : y = 1 ∨ y = 2 := by omega
      rcases this with rfl | rfl <;> decide
    · refine ⟨by decide, by decide, by decide, fun y hy hy2 => ?_⟩
      have : invP 5 3 = 2 := by decide
      obtain rfl : y = 1 := by omega
      decide
    · refine ⟨by decide, by decide, by decide, fun y hy hy2 => ?_⟩
      have : invP 5 4 = 4 := by decide
      have : y = 1 ∨ y = 2 ∨ y = 3 := by omega
      rcases this with rfl | rfl | rfl <;> decide

def pwF (p x : Int) : Nat → Int
  | 0 => 1
  | n + 1 => pwF p x n * (x % p) % p
theorem pwF_r {p x : Int} (hp : 2 ≤ p ∧ p ≤ 5) : ∀ n, 0 ≤ pwF p x n ∧ pwF p x n ≤ 4
  | 0 => by simp [pwF]
  | n + 1 => by
    have := emod_rng (x := pwF p x n * (x % p)) hp.1
    simp only [pwF]
    omega
theorem pwF_inv {p x : Int} (hp : isFld p = true) : pwF p x (max (p - 2) 1).toNat = invP p x := by
  have e := Int.emod_emod_of_dvd x (Int.dvd_refl p)
  rcases isFld_t.1 hp with rfl | rfl | rfl
  · show 1 * (x % 2) % 2 = _
    rw [Int.one_mul, e]; rfl
  · show 1 * (x % 3) % 3 = _
    rw [Int.one_mul, e]; rfl
  · show 1 * (x % 5) % 5 * (x % 5) % 5 * (x % 5) % 5 = _
    rw [Int.one_mul, e]; rfl

set_option maxHeartbeats 800000 in
theorem powerMod_any (p x : Int) (n : Nat) (w : World) (hp : isFld p = true) (hx : I64 x) (hn : n ≤ 1000) :
    Calls Tryz.prog 137 #[.int .i64 p, .int .i64 x, .int .i64 n] w fun e w' => e = .returned (.int .i64 (pwF p x n)) ∧ w' = w := by
  have hpr := isFld_r hp
  have h2 : inR (n : Int) 0 1000 = true := inR_t.2 (by omega)
  have H1 := Lib.hid hp
  have H2 := Lib.hid h2
  have HX := Lib.hid hx
  clear hp h2
  go_enter Tryz.func137, Tryz.ntmps137
  go_wp2_with fail
  refine (implIsField_any _ _).mono ?_; rintro e w1 ⟨rfl, hww⟩; replace hww := hww.symm; subst hww
  rw [H1.out]
  go_wp2_with fail
  refine (within_any _ _ _ _).mono ?_; rintro e w1 ⟨rfl, hww⟩; replace hww := hww.symm; subst hww
  rw [H2.out]
  go_wp2
  go_loop [7, 17] (fun o i => ∃ k : Nat, k ≤ n ∧ i = .int .i64 k ∧ o = .int .i64 (pwF p x k)) (fun _ i => n - (intOf i).toNat)
  case atStart => exact ⟨0, Nat.zero_le _, rfl, rfl⟩
  case round =>
    obtain ⟨k, hk, rfl, rfl⟩ := hrel
    by_cases hlt : k < n
    · have hr := pwF_r (x := x) hpr k
      have hm := emod_rng (x := x) hpr.1
      have hs : Hid (pwF p x (k + 1) = pwF p x k * (x % p) % p) := rfl
      obtain ⟨a, ha⟩ : ∃ a, pwF p x k = a := ⟨_, rfl⟩
      obtain ⟨m, hmm⟩ : ∃ m, x % p = m := ⟨_, rfl⟩
      rw [ha, hmm] at hs
      rw [ha] at hr ⊢
      rw [hmm] at hm
      have k0 : 0 ≤ a * m := Int.mul_nonneg hr.1 hm.1
      have k1 : a * m ≤ 4 * 4 := Int.mul_le_mul hr.2 (by omega) hm.1 (by omega)
      obtain ⟨K, hK⟩ : ∃ K, a * m = K := ⟨_, rfl⟩
      rw [hK] at k0 k1 hs
      have hKw : wrap64 (a * m) = K := by rw [hK]; exact IntWalk.wrap64_in _ ⟨by omega, by omega⟩
      have ht : K.tmod p = K % p := Int.tmod_eq_emod_of_nonneg k0
      have HMM := Lib.hid hmm
      clear ha hmm hK
      go_wp2_with fail
      refine (reduceMod_any p x _ H1.out HX.out).mono ?_; rintro e w1 ⟨rfl, hww⟩; replace hww := hww.symm; subst hww
      rw [HMM.out]
      go_wp2
      go_round
      case rel => exact ⟨k + 1, by omega, by go_num, by rw [hs.out]⟩
      case measure => simp [intOf]; omega
    · obtain rfl : k = n := by omega
      go_wp2
      go_ret
      exact ⟨rfl, rfl⟩
theorem inverseMod_any (p x : Int) (w : World) (hp : isFld p = true) (hx : I64 x) :
    Calls Tryz.prog 106 #[.int .i64 p, .int .i64 x] w fun e w' => e = .returned (.int .i64 (invP p x)) ∧ w' = w := by
  have hpr := isFld_r hp
  obtain ⟨n, hn⟩ : ∃ n : Nat, max (p - 2) 1 = n := ⟨(max (p - 2) 1).toNat, by omega⟩
  have hi := pwF_inv (x := x) hp
  rw [hn, Int.toNat_natCast] at hi
  rw [← hi]
  have hnb : n ≤ 1000 := by omega
  have H1 := Lib.hid hp
  have HX := Lib.hid hx
  clear hp hi
  go_enter Tryz.func106, Tryz.ntmps106
  go_wp2_with fail
  refine (implIsField_any _ _).mono ?_; rintro e w1 ⟨rfl, hww⟩; replace hww := hww.symm; subst hww
  rw [H1.out]
  go_wp2_with fail
  refine (powerMod_any p x n _ H1.out HX.out hnb).mono ?_; rintro e w1 ⟨rfl, hww⟩; replace hww := hww.symm; subst hww
  go_wp2
  go_ret
  exact ⟨rfl, rfl⟩
set_option maxHeartbeats 800000 in
theorem specInverseMod_any (p x : Int) (w : World) (hp : isFld p = true) (h1 : 1 ≤ x) (h2 : x ≤ p - 1) :
    Calls Tryz.prog 101 #[.int .i64 p, .int .i64 x] w fun e w' => e = .returned (.int .i64 (invP p x)) ∧ w' = w := by
  have hpr := isFld_r hp
  obtain ⟨i1, i2, i3, i4⟩ := invP_ok hp h1 h2
  obtain ⟨v, hv⟩ : ∃ v, invP p x = v := ⟨_, rfl⟩
  rw [hv] at i1 i2 i3 i4 ⊢
  have H1 := Lib.hid hp
  have I3 := Lib.hid i3
  have I4 := Lib.hid i4
  have hxm : x % p = x := Int.emod_eq_of_lt (by omega) (by omega)
  have HXM := Lib.hid hxm
  clear hp hv i3 i4 hxm
  go_enter Tryz.func101, Tryz.ntmps101
  go_wp2
  go_loop [5] (fun i => ∃ y : Int, 1 ≤ y ∧ y ≤ v ∧ i = .int .i64 y) (fun i => (p - intOf i).toNat)
  case atStart => exact ⟨1, by omega, by omega, rfl⟩
  case round =>
    obtain ⟨y, hy1, hy2, rfl⟩ := hrel
    have hyp : y < p := by omega
    have k0 : 0 ≤ x * y := Int.mul_nonneg (by omega) (by omega)
    have k1 : x * y ≤ 4 * 4 := Int.mul_le_mul (by omega) (by omega) (by omega) (by omega)
    obtain ⟨K, hK⟩ : ∃ K, x * y = K := ⟨_, rfl⟩
    have hKw : wrap64 (x * y) = K := by rw [hK]; exact IntWalk.wrap64_in _ ⟨by omega, by omega⟩
    rw [hK] at k0 k1
    have hKI : Hid (I64 K) := by show _ ∧ _; omega
    have hxI : Hid (I64 x) := by show _ ∧ _; omega
    by_cases hlt : y < v
    · have hne := I4.out y hy1 hlt
      rw [hK] at hne
      have hb : (K % p == 1) = false := by simpa using hne
      clear hK hne
      go_wp2_with fail
      refine (specIsField_any _ _).mono ?_; rintro e w1 ⟨rfl, hww⟩; replace hww := hww.symm; subst hww
      rw [H1.out]
      go_wp2_with fail
      refine (l2Mod_any p x _ hpr hxI.out).mono ?_; rintro e w1 ⟨rfl, hww⟩; replace hww := hww.symm; subst hww
      rw [HXM.out]
      go_wp2_with fail
      refine (l2Mod_any p K _ hpr hKI.out).mono ?_; rintro e w1 ⟨rfl, hww⟩; replace hww := hww.symm; subst hww
      go_wp2
      go_round
      case rel => exact ⟨y + 1, by omega, by omega, rfl⟩
      case measure => simp [intOf]; omega
    · obtain rfl : y = v := by omega
      have he := I3.out
      rw [hK] at he
      have HE := Lib.hid he
      clear hK he
      go_wp2_with fail
      refine (specIsField_any _ _).mono ?_; rintro e w1 ⟨rfl, hww⟩; replace hww := hww.symm; subst hww
      rw [H1.out]
      go_wp2_with fail
      refine (l2Mod_any p x _ hpr hxI.out).mono ?_; rintro e w1 ⟨rfl, hww⟩; replace hww := hww.symm; subst hww
      rw [HXM.out]
      go_wp2_with fail
      refine (l2Mod_any p K _ hpr hKI.out).mono ?_; rintro e w1 ⟨rfl, hww⟩; replace hww := hww.symm; subst hww
      rw [HE.out]
      go_wp2
      go_ret
      exact ⟨rfl, rfl⟩

/-! ### a multiple of a row of the same block added in place -/
set_option maxHeartbeats 1600000 in
theorem addMultiple_in (p k : Int) (g off top n N cap ca cb : Nat) (lo : Nat) (f : Nat → Int) (w : World) (hp : 2 ≤ p ∧ p ≤ 5) (hk : 0 ≤ k ∧ k ≤ 5)
    (hown : OwnI w lo (.slice (some ⟨g, 0, none⟩) N cap) (rowF N f)) (hoff : off + n ≤ N) (htop : top + n ≤ N) (hd : off + n ≤ top ∨ top + n ≤ off) (hN : N ≤ 1000000) (hca : n ≤ ca ∧ ca ≤ 9223372036854775807) (hcb : n ≤ cb ∧ cb ≤ 9223372036854775807)
    (hf : ∀ i, i < N → 0 ≤ f i ∧ f i ≤ 4) :
    Calls Tryz.prog 107 #[.int .i64 p, .slice (some ⟨g, off, none⟩) n ca, .int .i64 k, .slice (some ⟨g, top, none⟩) n cb] w fun e w' => e = .returned (.slice (some ⟨g, off, none⟩) n ca) ∧ OwnI w' lo (.slice (some ⟨g, 0, none⟩) N cap) (rowF N (amF p k off n f fun j => f (top + j))) ∧ w.grownBy w' (some g) := by
  have HF := Lib.hid hf
  obtain ⟨y, hy⟩ : ∃ y : Nat → Int, y = fun j => f (top + j) := ⟨_, rfl⟩
  rw [← hy]
  have HY : Hid (∀ j, y j = f (top + j)) := by subst hy; exact fun _ => rfl
  rw [amF_0 p k off N f y] at hown
  clear hf hy
  go_enter Tryz.func107, Tryz.ntmps107
  go_wp2
  go_loopw [13] (fun i wr => ∃ j : Nat, j ≤ n ∧ i = .int .i64 j ∧ OwnI wr lo (.slice (some ⟨g, 0, none⟩) N cap) (rowF N (amF p k off j f y)) ∧ w.grownBy wr (some g)) (fun i _ => n - (intOf i).toNat)
  case atStart => exact ⟨0, Nat.zero_le _, rfl, hown, World.grownBy.refl _ _⟩
  case round =>
    clear hown
    obtain ⟨j, hj, rfl, ho, hgr⟩ := hrel
    by_cases hlt : j < n
    · have cA := (ho.cellG (j := off + j) (by rw [rowF_length]; omega)).1
      rw [rowF_getD _ (by omega), amF_rest] at cA
      have cS := (ho.cellG (j := top + j) (by rw [rowF_length]; omega)).1
      rw [rowF_getD _ (by omega), amF, if_neg (by omega), ← HY.out] at cS
      have fA := ho.frozenG (off + j)
      have hf1 := HF.out (off + j) (by omega)
      have hy1 := HF.out (top + j) (by omega)
      rw [← HY.out] at hy1
      have hst := amF_succ (p := p) (k := k) (off := off) (j := j) (N := N) f y
      obtain ⟨a, ha⟩ : ∃ a, f (off + j) = a := ⟨_, rfl⟩
      obtain ⟨z, hz⟩ : ∃ z, y j = z := ⟨_, rfl⟩
      rw [ha] at cA hf1 hst
      rw [hz] at cS hy1 hst
      have hkz0 : 0 ≤ k * z := Int.mul_nonneg hk.1 hy1.1
      have hkz1 : k * z ≤ 5 * 4 := Int.mul_le_mul hk.2 hy1.2 hy1.1 (by omega)
      obtain ⟨K, hK⟩ : ∃ K, k * z = K := ⟨_, rfl⟩
      rw [hK] at hkz0 hkz1 hst
      have hKw : wrap64 (k * z) = K := by rw [hK]; exact IntWalk.wrap64_in _ ⟨by omega, by omega⟩
      have hr0 := Int.emod_nonneg (a + K) (show p ≠ 0 by omega)
      have hr1 := Int.emod_lt_of_pos (a + K) (show 0 < p by omega)
      have ho2 := ho.put (j := off + j) (x := (a + K) % p) (by simp only [I64]; omega)
      rw [hst] at ho2
      have HO2 := Lib.hid ho2
      have HG2 := Lib.hid (grown_then hgr ho2.2)
      have htm : (wrap64 (a + K)).tmod p = (a + K) % p := by
        rw [IntWalk.wrap64_in _ ⟨by omega, by omega⟩]
        exact Int.tmod_eq_emod_of_nonneg (by omega)
      have htm2 : (a + K).tmod p = (a + K) % p := Int.tmod_eq_emod_of_nonneg (by omega)
      clear hst ho2 ho hgr hr0 hr1 ha hz hK hkz0 hkz1
      go_wp2
      go_roundw
      case rel => exact ⟨j + 1, by omega, by go_num, HO2.out.1, HG2.out⟩
      case measure => simp [intOf]; omega
    · go_wp2
      go_ret
      obtain rfl : j = n := by omega
      exact ⟨rfl, ho, hgr⟩
end Go.Proofs.YtaefpblpfjhgoaaGreat
