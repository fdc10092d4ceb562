/- The reference's l8Zero. -/
import Derived.Test.YtjhllgldllbaaaaZero2
namespace Go.Proofs.Ytjhllgldllbaaaa
set_option linter.unusedVariables false
set_option linter.unusedSimpArgs false
open Go.RowKit

/-- a representation that the call made; the rows of its quiver and dimensions lie in earlier memory than those of its matrices, which are apart from one another -/
def RepI (w : World) (lo hi : Nat) (val : Value) (x : Rp) : Prop := ∃ f t d m vs mi, val = .agg #[.int .i64 x.p, .int .i64 x.q.v, f, t, d, m] ∧ IntsO w lo mi f x.q.f ∧ IntsO w lo mi t x.q.t ∧ IntsO w lo mi d x.d ∧ OutM w lo hi m vs x.m ∧ vs.length = x.m.length ∧
  Fam w mi hi (vs.zip (x.m.map Mx.a)) ∧ (lo ≤ mi ∧ mi ≤ hi) ∧ (I64 x.p ∧ I64 x.q.v) ∧ ∀ m ∈ x.m, I64 m.r ∧ I64 m.c
theorem RepI.rd {w : World} {lo hi : Nat} {v : Value} {x : Rp} (h : RepI w lo hi v x) : RpR w w.heap.size v x := by
  obtain ⟨f, t, d, m, vs, mi, e, h1, h2, h3, h4, h5, h6, _, h7, h8⟩ := h
  exact ⟨f, t, d, m, e, h1.rd, h2.rd, h3.rd, OutM.rd h4 h5 (fun p hp => (h6.1 p hp).rd) h8, h7⟩
theorem RepI.chg {w w' : World} {lo hi lo' hi' : Nat} {v : Value} {x : Rp} (h : RepI w lo hi v x) (hc : Chg lo' hi' w w') (hd : hi ≤ lo' ∨ hi' ≤ lo) : RepI w' lo hi v x := by
  obtain ⟨f, t, d, m, vs, mi, e, h1, h2, h3, h4, h5, h6, h9, h7, h8⟩ := h
  exact ⟨f, t, d, m, vs, mi, e, h1.chg hc (by omega), h2.chg hc (by omega), h3.chg hc (by omega), h4.chg hc hd, h5, h6.chg hc (by omega), h9, h7, h8⟩
theorem RepI.below {w w' : World} {lo hi : Nat} {v : Value} {x : Rp} (h : RepI w lo hi v x) (hb : Below w.heap.size w w') : RepI w' lo hi v x := by
  obtain ⟨f, t, d, m, vs, mi, e, h1, h2, h3, h4, h5, h6, h9, h7, h8⟩ := h
  exact ⟨f, t, d, m, vs, mi, e, h1.below hb, h2.below hb, h3.below hb, h4.below hb, h5, h6.below hb, h9, h7, h8⟩
theorem RepI.wider {w : World} {lo hi lo' hi' : Nat} {v : Value} {x : Rp} (h : RepI w lo hi v x) (k1 : lo' ≤ lo) (k2 : hi ≤ hi') : RepI w lo' hi' v x := by
  obtain ⟨f, t, d, m, vs, mi, e, h1, h2, h3, h4, h5, h6, h9, h7, h8⟩ := h
  exact ⟨f, t, d, m, vs, mi, e, h1.wider k1 (Nat.le_refl _), h2.wider k1 (Nat.le_refl _), h3.wider k1 (Nat.le_refl _), h4.mono k1 k2, h5, h6.mono (Nat.le_refl _) k2, by omega, h7, h8⟩

set_option maxHeartbeats 6400000 in
set_option maxRecDepth 100000 in
theorem l8Zero_any (p : Int) (u xv : Value) (q : Qv) (d : List Int) (w0 : World) (hp : I64 p) (hu : QvR w0 w0.heap.size u q) (hx : SlI w0 w0.heap.size xv d) (hq : areDims q d = true) :
    Calls Try.prog 62 #[.int .i64 p, u, xv] w0 fun e w' => ∃ v, e = .returned v ∧ RepI w' w0.heap.size w'.heap.size v (zRep p q d) ∧ Below w0.heap.size w0 w' := by
  have hu' := hu
  obtain ⟨A, c, C, c', rfl, hf, ht, hr, lf, lt⟩ := hu.open_
  obtain ⟨XA, xc, rfl, _, _, lx, hx⟩ := hx.open_
  clear hu
  obtain ⟨W, hW⟩ : ∃ W, W = (w0.alloc (.cells #[.int .i64 q.v, .slice A q.f.length c, .slice C q.t.length c'] 26)).alloc (.cells #[.int .i64 0, .int .i64 0, .slice none 0 0, .slice none 0 0, .slice none 0 0, .slice none 0 0] 29) := ⟨_, rfl⟩
  have g0 : Below w0.heap.size w0 W := by rw [hW]; exact ((Below.refl _ _).alloc (Nat.le_refl _) _).alloc (by simp) _
  have k1 : Blk W w0.heap.size 26 #[.int .i64 q.v, .slice A q.f.length c, .slice C q.t.length c'] := by rw [hW]; exact (Blk.new _ _ _).alloc _
  have k2 : Blk W (w0.heap.size + 1) 29 #[.int .i64 0, .int .i64 0, .slice none 0 0, .slice none 0 0, .slice none 0 0, .slice none 0 0] := by
    rw [hW]
    have := Blk.new (w0.alloc (.cells #[.int .i64 q.v, .slice A q.f.length c, .slice C q.t.length c'] 26)) 29 #[.int .i64 0, .int .i64 0, .slice none 0 0, .slice none 0 0, .slice none 0 0, .slice none 0 0]
    simpa only [World.size_alloc] using this
  have sz : W.heap.size = w0.heap.size + 1 + 1 := by rw [hW]; simp
  have SZ := Lib.hid sz
  clear sz
  have HQ := Lib.hid hq
  clear hq
  have hxW := SlI.next g0 hx
  have huW := QvR.next g0 hu'
  go_enter Try.func62, Try.ntmps62
  have c0 := k1.cell' (i := 0) rfl
  have c1 := k1.cell' (i := 1) rfl
  have c2 := k1.cell' (i := 2) rfl
  go_wp2_with fail
  rw [← hW]; clear hW
  refine (l6Copy_any _ q _ huW).mono ?_; rintro e w1 ⟨v1, rfl, ⟨qa, qb, rfl, ha, hb2, hqv⟩, hb1⟩
  obtain ⟨A1, a1, rfl⟩ := ha.form
  obtain ⟨C1, b1, rfl⟩ := hb2.form
  have s1 := hb1.size
  clear c0 c1 c2
  (go_wp2_with (at_builtin; refine Hold.stop ?_)); unfold Hold
  refine wpList_append_fresh (by rfl) (.tmp 12) (.tmp 13) (by rfl) w1.heap.size w1.heap.size (w1.alloc (.cells #[] 3)).heap.size #[] (by rfl) (Blk.new _ _ _) rfl (Nat.le_refl _) XA xc d (by rfl) (SlI.next (below_alloc _ _) (SlI.next hb1 hxW)) ?_
  intro v2 w2 ho hb2'
  obtain ⟨E1, e1, rfl, _, _⟩ := ho.form
  have hb3 : Below w1.heap.size w1 w2 := bthen (below_alloc _ _) hb2'
  have s2 := hb3.size
  have s2' := hb2'.size
  obtain ⟨W3, hW3⟩ : ∃ W3, W3 = (w2.alloc (.cells #[] 75)).alloc (.cells #[.int .i64 p, .int .i64 q.v, .slice A1 q.f.length a1, .slice C1 q.t.length b1, .slice E1 d.length e1, .slice (some ⟨w2.heap.size, 0, none⟩) 0 0] 29) := ⟨_, rfl⟩
  have gA : Below w2.heap.size w2 W3 := by rw [hW3]; exact ((Below.refl _ _).alloc (Nat.le_refl _) _).alloc (by simp) _
  have z3 : W3.heap.size = w2.heap.size + 1 + 1 := by rw [hW3]; simp
  have hBm3 : Blk W3 w2.heap.size 75 #[] := by rw [hW3]; exact (Blk.new _ _ _).alloc _
  have hB3 : Blk W3 (w2.heap.size + 1) 29 #[.int .i64 p, .int .i64 q.v, .slice A1 q.f.length a1, .slice C1 q.t.length b1, .slice E1 d.length e1, .slice (some ⟨w2.heap.size, 0, none⟩) 0 0] := by
    rw [hW3]
    have := Blk.new (w2.alloc (.cells #[] 75)) 29 #[.int .i64 p, .int .i64 q.v, .slice A1 q.f.length a1, .slice C1 q.t.length b1, .slice E1 d.length e1, .slice (some ⟨w2.heap.size, 0, none⟩) 0 0]
    simpa only [World.size_alloc] using this
  have g1 : Below W.heap.size W w2 := bthen hb1 hb3
  have gW3 : Below W.heap.size W W3 := bthen g1 gA
  have sW := g1.size
  simp only [World.size_alloc] at s2'
  have hO3 : RowO 75 3 W3 W.heap.size W3.heap.size (.slice (some ⟨w2.heap.size, 0, none⟩) 0 0) 0 [] := by
    have := hBm3.own (base := W.heap.size) (n := 0) (cap := 0) (size := 3) sW (Nat.le_refl _) (by simp only [maxLen]; omega) (by simp)
    exact ⟨by simpa using this, fun k hk => by simp [Value.ownBlock] at hk; subst hk; exact hBm3.lt, by omega⟩
  have ha3 : IntsO W3 W.heap.size W3.heap.size (.slice A1 q.f.length a1) q.f := ((ha.below hb3).below gA).wider (Nat.le_refl _) (by omega)
  have hb3' : IntsO W3 W.heap.size W3.heap.size (.slice C1 q.t.length b1) q.t := ((hb2.below hb3).below gA).wider (Nat.le_refl _) (by omega)
  have hd3 : IntsO W3 W.heap.size W3.heap.size (.slice E1 d.length e1) d := ((IntsO.of_own ho).below gA).wider (by omega) (by omega)
  have hgR : W.heap.size ≤ (w2.heap.size + 1) := by omega
  have q1' : W3.cell? ⟨w0.heap.size, 1, none⟩ = some (.slice A q.f.length c) := (k1.below gW3 (by have := SZ.out; omega)).cell' (i := 1) rfl
  have q1'' : w2.cell? ⟨w0.heap.size, 1, none⟩ = some (.slice A q.f.length c) := (k1.below g1 (by have := SZ.out; omega)).cell' (i := 1) rfl
  have hlt0 : w0.heap.size < w2.heap.size := by have := SZ.out; omega
  have K1 := Lib.hid k1
  have K2 := Lib.hid k2
  have G0 := Lib.hid g0
  have HA3 := Lib.hid ha3
  have HB3 := Lib.hid hb3'
  have HD3 := Lib.hid hd3
  have H3 := Lib.hid hB3
  have O3 := Lib.hid hO3
  have GW3 := Lib.hid gW3
  have HGR := Lib.hid (show (w2.heap.size + 1) < W3.heap.size by omega)
  clear ho ha hb2 hBm3 ha3 hb3 hb3' hd3 hB3 hO3 gW3 k1 k2 g0 hb1 hb2' gA g1 s1 s2 s2' sW z3
  go_wp2
  rw [← hW3]
  clear hW3 q1' q1''
  go_loopw [8] (fun i wr => ∃ (k : Nat) (mv : Value) (vs : List Value), k ≤ q.f.length ∧ i = .int .i64 k ∧ Below W.heap.size W wr ∧ W3.heap.size ≤ wr.heap.size ∧ Blk wr (w2.heap.size + 1) 29 #[.int .i64 p, .int .i64 q.v, .slice A1 q.f.length a1, .slice C1 q.t.length b1, .slice E1 d.length e1, mv] ∧
    IntsO wr W.heap.size W3.heap.size (.slice A1 q.f.length a1) q.f ∧ IntsO wr W.heap.size W3.heap.size (.slice C1 q.t.length b1) q.t ∧ IntsO wr W.heap.size W3.heap.size (.slice E1 d.length e1) d ∧
    RowO 75 3 wr W.heap.size wr.heap.size mv k (mxCs vs (zms q d k)) ∧ vs.length = k ∧ Fam wr W3.heap.size wr.heap.size (vs.zip ((zms q d k).map Mx.a))) (fun i _ => q.f.length - (intOf i).toNat)
  case atStart => exact ⟨0, _, [], Nat.zero_le _, rfl, GW3.out, Nat.le_refl _, H3.out, HA3.out, HB3.out, HD3.out, O3.out, rfl, ⟨fun p hp => by simp at hp, by simp⟩⟩
  case round =>
    obtain ⟨k, mv, vs, hk, rfl, hbel, hlt2, hB, hIa, hIb, hId, hO, hvl, hF⟩ := hrel
    have HVL := Lib.hid hvl
    clear hvl
    have kq := (K1.out).below hbel (by have := SZ.out; omega)
    have p1 := kq.cell' (i := 1) rfl
    by_cases hlt : k < q.f.length
    · obtain ⟨nf, nt, yf, yt, ef, et, df, dt, lnf, lnt, lnf5, lnt5, hkt0⟩ := rep_at (x := ⟨0, q, d, []⟩) HQ.out hlt
      simp only at ef et df dt lnf lnt hkt0
      have hkf := hlt
      have hd := (areDims_t.1 HQ.out).2.2.1
      have hlf6 : q.f.length ≤ 6 := (isQ_t.1 (areDims_t.1 HQ.out).1).2.2.1
      have byf := hd _ (List.mem_of_getElem? df)
      have byt := hd _ (List.mem_of_getElem? dt)
      have HZS := Lib.hid (zms_succ ef et df dt)
      clear hd
      have hkt := hkt0
      obtain ⟨bf, of_, xf, eA, hbf, HXF, f1, _⟩ := SlI.at_ hf hkf
      obtain ⟨bt, ot, xt, eC, hbt, HXT, t1, _⟩ := SlI.at_ ht hkt
      obtain ⟨bd, od, xdf, eX, hbd, HXDF, d1, _⟩ := SlI.at_ hx lnf
      obtain ⟨bd', od', xdt, eX', hbd', HXDT, d2, _⟩ := SlI.at_ hx lnt
      subst eA eC eX
      injection eX' with eX'
      injection eX' with e1 e2
      subst e1 e2
      have q1 := HXF.out
      rw [ef] at q1
      injection q1 with q1
      subst q1
      have q2 := HXT.out
      rw [et] at q2
      injection q2 with q2
      subst q2
      have q3 := HXDF.out
      rw [df] at q3
      injection q3 with q3
      subst q3
      have q4 := HXDT.out
      rw [dt] at q4
      injection q4 with q4
      subst q4
      clear HXF HXT HXDF HXDT ef et df dt
      have gw : Below w0.heap.size w0 wr := G0.out.trans (hbel.mono (G0.out).size)
      have gws := gw.size
      have hbelS := hbel.size
      have sz := SZ.out
      have a1' : (0 : Int) ≤ (k : Int) := by omega
      have a2' : (k : Int) < q.f.length := by omega
      have a3' : (k : Int) < q.t.length := by omega
      have a4' : (0 : Int) ≤ (nf : Int) := by omega
      have a5' : (nf : Int) < d.length := by omega
      have a6' : (0 : Int) ≤ (nt : Int) := by omega
      have a7' : (nt : Int) < d.length := by omega
      have SZ2 := Lib.hid sz
      clear sz
      go_wp2
      refine wp_region_net (by kernel_rfl) [.eq (.pointer (some ⟨w2.heap.size + 1, 5, none⟩)), .eq (mv), .eq (.slice (some ⟨bd, od, none⟩) d.length xc), .eq (.pointer (some ⟨w0.heap.size, 2, none⟩)), .eq (.slice (some ⟨bt, ot, none⟩) q.t.length c'), .eq (.int .i64 k), .eq (.pointer (some ⟨bt, ot + k, none⟩)), .eq (.int .i64 nt), .eq (.pointer (some ⟨bd, od + nt, none⟩)), .eq (.int .i64 yt), .eq (.slice (some ⟨bd, od, none⟩) d.length xc), .eq (.pointer (some ⟨w0.heap.size, 1, none⟩)), .eq (.slice (some ⟨bf, of_, none⟩) q.f.length c), .eq (.int .i64 k), .eq (.pointer (some ⟨bf, of_ + k, none⟩)), .eq (.int .i64 nf), .eq (.pointer (some ⟨bd, od + nf, none⟩)), .eq (.int .i64 yf), rel 18 (fun u lo hi w => MxO w lo hi u (zmx yt yf)), .rel (fun x w => ∃ g s, x.v 19 = .slice (some ⟨g, 0, none⟩) 1 1 ∧ x.v 18 = .agg #[.int .i64 yt, .int .i64 yf, s] ∧ Blk w g 75 #[.int .i64 yt, .int .i64 yf, s])] [[], [0], [], [], [3], [], [3, 4, 5], [3, 4, 5, 6], [2, 3, 4, 5, 6, 7], [2, 3, 4, 5, 6, 7, 8], [], [], [11], [], [11, 12, 13], [11, 12, 13, 14], [10, 11, 12, 13, 14, 15], [10, 11, 12, 13, 14, 15, 16], [2, 3, 4, 5, 6, 7, 8, 9, 10, 11, 12, 13, 14, 15, 16, 17], [2, 3, 4, 5, 6, 7, 8, 9, 10, 11, 12, 13, 14, 15, 16, 17, 18], [0, 1, 2, 3, 4, 5, 6, 7, 8, 9, 10, 11, 12, 13, 14, 15, 16, 17, 18, 19], [0, 1, 2, 3, 4, 5, 6, 7, 8, 9, 10, 11, 12, 13, 14, 15, 16, 17, 18, 19, 20], [0, 1, 2, 3, 4, 5, 6, 7, 8, 9, 10, 11, 12, 13, 14, 15, 16, 17, 18, 19, 20, 21]] 20 (by kernel_rfl) ⟨trivial, trivial, trivial, trivial, trivial, trivial, trivial, trivial, trivial, trivial, trivial, trivial, trivial, trivial, trivial, trivial, trivial, trivial, rel_stable (fun u lo hi w w' h hb => h.below hb), fun x w w' ⟨g, s, e1, e2, h⟩ hb => ⟨g, s, e1, e2, h.call hb⟩, trivial⟩ ⟨?_, ?_, ?_, ?_, ?_, ?_, ?_, ?_, ?_, ?_, ?_, ?_, ?_, ?_, ?_, ?_, ?_, ?_, ?_, ?_, trivial⟩ ?_
      · intro x w hb hk Q' hQ
        clear hk
        simp only [netAct, dstAt, List.getElem?_toArray, List.getElem?_cons_zero, List.getElem?_cons_succ, Option.bind_some, Act.put, List.setIfInBounds_toArray, List.set_cons_zero, List.set_cons_succ] at hQ ⊢
        go_wp2
        exact hQ (.pointer (some ⟨w2.heap.size + 1, 5, none⟩)) _ (Below.refl _ _) rfl
      · intro x w hb hk Q' hQ
        have h0 : x.v 0 = .pointer (some ⟨w2.heap.size + 1, 5, none⟩) := (hk 0 (by decide)).1
        clear hk
        simp only [netAct, dstAt, List.getElem?_toArray, List.getElem?_cons_zero, List.getElem?_cons_succ, Option.bind_some, Act.put, List.setIfInBounds_toArray, List.set_cons_zero, List.set_cons_succ] at hQ ⊢
        simp only [h0] at hQ ⊢
        clear h0
        have z5 := (hB.call hb).cell' (i := 5) rfl
        go_wp2
        exact hQ (mv) _ (Below.refl _ _) rfl
      · intro x w hb hk Q' hQ
        clear hk
        simp only [netAct, dstAt, List.getElem?_toArray, List.getElem?_cons_zero, List.getElem?_cons_succ, Option.bind_some, Act.put, List.setIfInBounds_toArray, List.set_cons_zero, List.set_cons_succ] at hQ ⊢
        go_wp2
        exact hQ (.slice (some ⟨bd, od, none⟩) d.length xc) _ (Below.refl _ _) rfl
      · intro x w hb hk Q' hQ
        clear hk
        simp only [netAct, dstAt, List.getElem?_toArray, List.getElem?_cons_zero, List.getElem?_cons_succ, Option.bind_some, Act.put, List.setIfInBounds_toArray, List.set_cons_zero, List.set_cons_succ] at hQ ⊢
        go_wp2
        exact hQ (.pointer (some ⟨w0.heap.size, 2, none⟩)) _ (Below.refl _ _) rfl
      · intro x w hb hk Q' hQ
        have h3 : x.v 3 = .pointer (some ⟨w0.heap.size, 2, none⟩) := (hk 3 (by decide)).1
        clear hk
        simp only [netAct, dstAt, List.getElem?_toArray, List.getElem?_cons_zero, List.getElem?_cons_succ, Option.bind_some, Act.put, List.setIfInBounds_toArray, List.set_cons_zero, List.set_cons_succ] at hQ ⊢
        simp only [h3] at hQ ⊢
        clear h3
        have z2 := (kq.call hb).cell' (i := 2) rfl
        go_wp2
        exact hQ (.slice (some ⟨bt, ot, none⟩) q.t.length c') _ (Below.refl _ _) rfl
      · intro x w hb hk Q' hQ
        clear hk
        simp only [netAct, dstAt, List.getElem?_toArray, List.getElem?_cons_zero, List.getElem?_cons_succ, Option.bind_some, Act.put, List.setIfInBounds_toArray, List.set_cons_zero, List.set_cons_succ] at hQ ⊢
        go_wp2
        exact hQ (.int .i64 k) _ (Below.refl _ _) rfl
      · intro x w hb hk Q' hQ
        have h4 : x.v 4 = .slice (some ⟨bt, ot, none⟩) q.t.length c' := (hk 4 (by decide)).1
        have h5 : x.v 5 = .int .i64 k := (hk 5 (by decide)).1
        clear hk
        simp only [netAct, dstAt, List.getElem?_toArray, List.getElem?_cons_zero, List.getElem?_cons_succ, Option.bind_some, Act.put, List.setIfInBounds_toArray, List.set_cons_zero, List.set_cons_succ] at hQ ⊢
        simp only [h4, h5] at hQ ⊢
        clear h4 h5
        go_wp2
        exact hQ (.pointer (some ⟨bt, ot + k, none⟩)) _ (Below.refl _ _) rfl
      · intro x w hb hk Q' hQ
        have h6 : x.v 6 = .pointer (some ⟨bt, ot + k, none⟩) := (hk 6 (by decide)).1
        clear hk
        simp only [netAct, dstAt, List.getElem?_toArray, List.getElem?_cons_zero, List.getElem?_cons_succ, Option.bind_some, Act.put, List.setIfInBounds_toArray, List.set_cons_zero, List.set_cons_succ] at hQ ⊢
        simp only [h6] at hQ ⊢
        clear h6
        have z2 := bcell hb (by omega) (bcell gw hbt t1)
        go_wp2
        exact hQ (.int .i64 nt) _ (Below.refl _ _) rfl
      · intro x w hb hk Q' hQ
        have h2 : x.v 2 = .slice (some ⟨bd, od, none⟩) d.length xc := (hk 2 (by decide)).1
        have h7 : x.v 7 = .int .i64 nt := (hk 7 (by decide)).1
        clear hk
        simp only [netAct, dstAt, List.getElem?_toArray, List.getElem?_cons_zero, List.getElem?_cons_succ, Option.bind_some, Act.put, List.setIfInBounds_toArray, List.set_cons_zero, List.set_cons_succ] at hQ ⊢
        simp only [h2, h7] at hQ ⊢
        clear h2 h7
        go_wp2
        exact hQ (.pointer (some ⟨bd, od + nt, none⟩)) _ (Below.refl _ _) rfl
      · intro x w hb hk Q' hQ
        have h8 : x.v 8 = .pointer (some ⟨bd, od + nt, none⟩) := (hk 8 (by decide)).1
        clear hk
        simp only [netAct, dstAt, List.getElem?_toArray, List.getElem?_cons_zero, List.getElem?_cons_succ, Option.bind_some, Act.put, List.setIfInBounds_toArray, List.set_cons_zero, List.set_cons_succ] at hQ ⊢
        simp only [h8] at hQ ⊢
        clear h8
        have z2 := bcell hb (by omega) (bcell gw hbd' d2)
        go_wp2
        exact hQ (.int .i64 yt) _ (Below.refl _ _) rfl
      · intro x w hb hk Q' hQ
        clear hk
        simp only [netAct, dstAt, List.getElem?_toArray, List.getElem?_cons_zero, List.getElem?_cons_succ, Option.bind_some, Act.put, List.setIfInBounds_toArray, List.set_cons_zero, List.set_cons_succ] at hQ ⊢
        go_wp2
        exact hQ (.slice (some ⟨bd, od, none⟩) d.length xc) _ (Below.refl _ _) rfl
      · intro x w hb hk Q' hQ
        clear hk
        simp only [netAct, dstAt, List.getElem?_toArray, List.getElem?_cons_zero, List.getElem?_cons_succ, Option.bind_some, Act.put, List.setIfInBounds_toArray, List.set_cons_zero, List.set_cons_succ] at hQ ⊢
        go_wp2
        exact hQ (.pointer (some ⟨w0.heap.size, 1, none⟩)) _ (Below.refl _ _) rfl
      · intro x w hb hk Q' hQ
        have h11 : x.v 11 = .pointer (some ⟨w0.heap.size, 1, none⟩) := (hk 11 (by decide)).1
        clear hk
        simp only [netAct, dstAt, List.getElem?_toArray, List.getElem?_cons_zero, List.getElem?_cons_succ, Option.bind_some, Act.put, List.setIfInBounds_toArray, List.set_cons_zero, List.set_cons_succ] at hQ ⊢
        simp only [h11] at hQ ⊢
        clear h11
        have z2 := (kq.call hb).cell' (i := 1) rfl
        go_wp2
        exact hQ (.slice (some ⟨bf, of_, none⟩) q.f.length c) _ (Below.refl _ _) rfl
      · intro x w hb hk Q' hQ
        clear hk
        simp only [netAct, dstAt, List.getElem?_toArray, List.getElem?_cons_zero, List.getElem?_cons_succ, Option.bind_some, Act.put, List.setIfInBounds_toArray, List.set_cons_zero, List.set_cons_succ] at hQ ⊢
        go_wp2
        exact hQ (.int .i64 k) _ (Below.refl _ _) rfl
      · intro x w hb hk Q' hQ
        have h12 : x.v 12 = .slice (some ⟨bf, of_, none⟩) q.f.length c := (hk 12 (by decide)).1
        have h13 : x.v 13 = .int .i64 k := (hk 13 (by decide)).1
        clear hk
        simp only [netAct, dstAt, List.getElem?_toArray, List.getElem?_cons_zero, List.getElem?_cons_succ, Option.bind_some, Act.put, List.setIfInBounds_toArray, List.set_cons_zero, List.set_cons_succ] at hQ ⊢
        simp only [h12, h13] at hQ ⊢
        clear h12 h13
        go_wp2
        exact hQ (.pointer (some ⟨bf, of_ + k, none⟩)) _ (Below.refl _ _) rfl
      · intro x w hb hk Q' hQ
        have h14 : x.v 14 = .pointer (some ⟨bf, of_ + k, none⟩) := (hk 14 (by decide)).1
        clear hk
        simp only [netAct, dstAt, List.getElem?_toArray, List.getElem?_cons_zero, List.getElem?_cons_succ, Option.bind_some, Act.put, List.setIfInBounds_toArray, List.set_cons_zero, List.set_cons_succ] at hQ ⊢
        simp only [h14] at hQ ⊢
        clear h14
        have z2 := bcell hb (by omega) (bcell gw hbf f1)
        go_wp2
        exact hQ (.int .i64 nf) _ (Below.refl _ _) rfl
      · intro x w hb hk Q' hQ
        have h10 : x.v 10 = .slice (some ⟨bd, od, none⟩) d.length xc := (hk 10 (by decide)).1
        have h15 : x.v 15 = .int .i64 nf := (hk 15 (by decide)).1
        clear hk
        simp only [netAct, dstAt, List.getElem?_toArray, List.getElem?_cons_zero, List.getElem?_cons_succ, Option.bind_some, Act.put, List.setIfInBounds_toArray, List.set_cons_zero, List.set_cons_succ] at hQ ⊢
        simp only [h10, h15] at hQ ⊢
        clear h10 h15
        go_wp2
        exact hQ (.pointer (some ⟨bd, od + nf, none⟩)) _ (Below.refl _ _) rfl
      · intro x w hb hk Q' hQ
        have h16 : x.v 16 = .pointer (some ⟨bd, od + nf, none⟩) := (hk 16 (by decide)).1
        clear hk
        simp only [netAct, dstAt, List.getElem?_toArray, List.getElem?_cons_zero, List.getElem?_cons_succ, Option.bind_some, Act.put, List.setIfInBounds_toArray, List.set_cons_zero, List.set_cons_succ] at hQ ⊢
        simp only [h16] at hQ ⊢
        clear h16
        have z2 := bcell hb (by omega) (bcell gw hbd d1)
        go_wp2
        exact hQ (.int .i64 yf) _ (Below.refl _ _) rfl
      · intro x w hb hk Q' hQ
        have h2 : x.v 2 = .slice (some ⟨bd, od, none⟩) d.length xc := (hk 2 (by decide)).1
        have h3 : x.v 3 = .pointer (some ⟨w0.heap.size, 2, none⟩) := (hk 3 (by decide)).1
        have h4 : x.v 4 = .slice (some ⟨bt, ot, none⟩) q.t.length c' := (hk 4 (by decide)).1
        have h5 : x.v 5 = .int .i64 k := (hk 5 (by decide)).1
        have h6 : x.v 6 = .pointer (some ⟨bt, ot + k, none⟩) := (hk 6 (by decide)).1
        have h7 : x.v 7 = .int .i64 nt := (hk 7 (by decide)).1
        have h8 : x.v 8 = .pointer (some ⟨bd, od + nt, none⟩) := (hk 8 (by decide)).1
        have h9 : x.v 9 = .int .i64 yt := (hk 9 (by decide)).1
        have h10 : x.v 10 = .slice (some ⟨bd, od, none⟩) d.length xc := (hk 10 (by decide)).1
        have h11 : x.v 11 = .pointer (some ⟨w0.heap.size, 1, none⟩) := (hk 11 (by decide)).1
        have h12 : x.v 12 = .slice (some ⟨bf, of_, none⟩) q.f.length c := (hk 12 (by decide)).1
        have h13 : x.v 13 = .int .i64 k := (hk 13 (by decide)).1
        have h14 : x.v 14 = .pointer (some ⟨bf, of_ + k, none⟩) := (hk 14 (by decide)).1
        have h15 : x.v 15 = .int .i64 nf := (hk 15 (by decide)).1
        have h16 : x.v 16 = .pointer (some ⟨bd, od + nf, none⟩) := (hk 16 (by decide)).1
        have h17 : x.v 17 = .int .i64 yf := (hk 17 (by decide)).1
        clear hk
        simp only [netAct, dstAt, List.getElem?_toArray, List.getElem?_cons_zero, List.getElem?_cons_succ, Option.bind_some, Act.put, List.setIfInBounds_toArray, List.set_cons_zero, List.set_cons_succ] at hQ ⊢
        simp only [h2, h3, h4, h5, h6, h7, h8, h9, h10, h11, h12, h13, h14, h15, h16, h17] at hQ ⊢
        clear h2 h3 h4 h5 h6 h7 h8 h9 h10 h11 h12 h13 h14 h15 h16 h17
        go_wp2_with fail
        refine (l3Zero_any yt yf _ byt.1 byf.1 (by omega) (by omega)).mono ?_; rintro e w3 ⟨v3, rfl, hZ, hb3⟩
        go_wp2
        exact hQ _ _ hb3 hZ
      · intro x w hb hk Q' hQ
        have h2 : x.v 2 = .slice (some ⟨bd, od, none⟩) d.length xc := (hk 2 (by decide)).1
        have h3 : x.v 3 = .pointer (some ⟨w0.heap.size, 2, none⟩) := (hk 3 (by decide)).1
        have h4 : x.v 4 = .slice (some ⟨bt, ot, none⟩) q.t.length c' := (hk 4 (by decide)).1
        have h5 : x.v 5 = .int .i64 k := (hk 5 (by decide)).1
        have h6 : x.v 6 = .pointer (some ⟨bt, ot + k, none⟩) := (hk 6 (by decide)).1
        have h7 : x.v 7 = .int .i64 nt := (hk 7 (by decide)).1
        have h8 : x.v 8 = .pointer (some ⟨bd, od + nt, none⟩) := (hk 8 (by decide)).1
        have h9 : x.v 9 = .int .i64 yt := (hk 9 (by decide)).1
        have h10 : x.v 10 = .slice (some ⟨bd, od, none⟩) d.length xc := (hk 10 (by decide)).1
        have h11 : x.v 11 = .pointer (some ⟨w0.heap.size, 1, none⟩) := (hk 11 (by decide)).1
        have h12 : x.v 12 = .slice (some ⟨bf, of_, none⟩) q.f.length c := (hk 12 (by decide)).1
        have h13 : x.v 13 = .int .i64 k := (hk 13 (by decide)).1
        have h14 : x.v 14 = .pointer (some ⟨bf, of_ + k, none⟩) := (hk 14 (by decide)).1
        have h15 : x.v 15 = .int .i64 nf := (hk 15 (by decide)).1
        have h16 : x.v 16 = .pointer (some ⟨bd, od + nf, none⟩) := (hk 16 (by decide)).1
        have h17 : x.v 17 = .int .i64 yf := (hk 17 (by decide)).1
        have h18 : MxO w (x.lo 18) (x.hi 18) (x.v 18) (zmx yt yf) := (hk 18 (by decide)).1
        have s18 := (hk 18 (by decide)).2
        clear hk
        simp only [netAct, dstAt, List.getElem?_toArray, List.getElem?_cons_zero, List.getElem?_cons_succ, Option.bind_some, Act.put, List.setIfInBounds_toArray, List.set_cons_zero, List.set_cons_succ] at hQ ⊢
        simp only [h2, h3, h4, h5, h6, h7, h8, h9, h10, h11, h12, h13, h14, h15, h16, h17] at hQ ⊢
        clear h2 h3 h4 h5 h6 h7 h8 h9 h10 h11 h12 h13 h14 h15 h16 h17
        obtain ⟨s, e14, hs⟩ := h18
        obtain ⟨sA, sc, es⟩ := hs.1.form
        obtain ⟨sn, hsn⟩ : ∃ n, (zmx yt yf).a.length = n := ⟨_, rfl⟩
        rw [hsn] at es
        clear hsn hs
        subst es
        have hQ' := hQ (.slice (some ⟨w.heap.size, 0, none⟩) 1 1) (w.alloc (.cells #[.int .i64 yt, .int .i64 yf, .slice sA sn sc] 75)) (below_alloc _ _) ⟨_, _, rfl, e14, Blk.new _ _ _⟩
        simp only [zmx] at e14
        rw [e14] at hQ' ⊢
        go_wp2
        exact hQ'
      · intro x w hb hk hiv hdj
        have h0 : x.v 0 = .pointer (some ⟨w2.heap.size + 1, 5, none⟩) := hk 0 (by decide)
        have h1 : x.v 1 = mv := hk 1 (by decide)
        have h2 : x.v 2 = .slice (some ⟨bd, od, none⟩) d.length xc := hk 2 (by decide)
        have h3 : x.v 3 = .pointer (some ⟨w0.heap.size, 2, none⟩) := hk 3 (by decide)
        have h4 : x.v 4 = .slice (some ⟨bt, ot, none⟩) q.t.length c' := hk 4 (by decide)
        have h5 : x.v 5 = .int .i64 k := hk 5 (by decide)
        have h6 : x.v 6 = .pointer (some ⟨bt, ot + k, none⟩) := hk 6 (by decide)
        have h7 : x.v 7 = .int .i64 nt := hk 7 (by decide)
        have h8 : x.v 8 = .pointer (some ⟨bd, od + nt, none⟩) := hk 8 (by decide)
        have h9 : x.v 9 = .int .i64 yt := hk 9 (by decide)
        have h10 : x.v 10 = .slice (some ⟨bd, od, none⟩) d.length xc := hk 10 (by decide)
        have h11 : x.v 11 = .pointer (some ⟨w0.heap.size, 1, none⟩) := hk 11 (by decide)
        have h12 : x.v 12 = .slice (some ⟨bf, of_, none⟩) q.f.length c := hk 12 (by decide)
        have h13 : x.v 13 = .int .i64 k := hk 13 (by decide)
        have h14 : x.v 14 = .pointer (some ⟨bf, of_ + k, none⟩) := hk 14 (by decide)
        have h15 : x.v 15 = .int .i64 nf := hk 15 (by decide)
        have h16 : x.v 16 = .pointer (some ⟨bd, od + nf, none⟩) := hk 16 (by decide)
        have h17 : x.v 17 = .int .i64 yf := hk 17 (by decide)
        have h18 : MxO w (x.lo 18) (x.hi 18) (x.v 18) (zmx yt yf) := hk 18 (by decide)
        have h19 : ∃ g s, x.v 19 = .slice (some ⟨g, 0, none⟩) 1 1 ∧ x.v 18 = .agg #[.int .i64 yt, .int .i64 yf, s] ∧ Blk w g 75 #[.int .i64 yt, .int .i64 yf, s] := hk 19 (by decide)
        clear hk
        simp only [netAct, dstAt, List.getElem?_toArray, List.getElem?_cons_zero, List.getElem?_cons_succ, Option.bind_some, Act.put, List.setIfInBounds_toArray, List.set_cons_zero, List.set_cons_succ]
        simp only [List.drop_succ_cons, List.drop_zero, h0, h1, h2, h3, h4, h5, h6, h7, h8, h9, h10, h11, h12, h13, h14, h15, h16, h17]
        clear h0 h1 h2 h3 h4 h5 h6 h7 h8 h9 h10 h11 h12 h13 h14 h15 h16 h17
        obtain ⟨g, s, e15, e14, hg⟩ := h19
        have l14 := (hiv 18 (by decide)).1
        have h14i := (hiv 18 (by decide)).2.2
        obtain ⟨s', e14', hs, _⟩ := h18
        rw [e14] at e14'
        simp only [Value.agg.injEq, Array.mk.injEq, List.cons.injEq, and_true, zmx, true_and] at e14'
        subst e14'
        rw [e15]
        have hO' := hO.below hb
        have hF' := (hF.below hb).snoc (hs.wider l14 h14i) (by omega) hb.size
        have hB' := hB.call hb
        have hIa' := hIa.below hb
        have hIb' := hIb.below hb
        have hId' := hId.below hb
        have gb2 : Below W.heap.size W w := hbel.trans (hb.mono hbelS)
        have hbs2 := hb.size
        have hLen := Lib.hid (zms_length q d k)
        have HF' := Lib.hid hF'
        have hO'' : OutM w W.heap.size wr.heap.size mv vs (zms q d k) := by rw [OutM, hLen.out]; exact hO'
        have HC := Lib.hid hs.cell
        clear hiv hdj hs hF' hO' hO hF e14 e15 hb hB hIa hIb hId
        refine wpList_appM (by rfl) (.tmp 25) (.tmp 43) (by rfl) W.heap.size wr.heap.size mv vs (zms q d k) (by rfl) hO'' (by rw [HVL.out, hLen.out]) g 1 (zmx yt yf) s (by rfl) hg HC.out (by rw [hLen.out]; omega) (by omega) ?_
        intro v' w' hO3 hA
        obtain ⟨n9, hn9⟩ : ∃ n, (zms q d k ++ [zmx yt yf]).length = n := ⟨_, rfl⟩
        rw [OutM, hn9] at hO3
        have HN9 := Lib.hid (show n9 = k + 1 by rw [← hn9]; simp [hLen.out])
        clear hn9
        obtain ⟨A9, c9, ev, _, _⟩ := hO3.form
        subst ev
        have hB3 := hA.other _ _ _ (by decide) hB'
        have z5 := hB3.cell' (i := 5) rfl
        have fr := hB3.frozen
        have gb3 : Below W.heap.size W w' := gb2.trans (hA.below (Nat.le_refl _) (by omega))
        have hs3 := hA.size
        have hF3' := HF'.out.appT (by decide) hA
        have HF3' := Lib.hid hF3'
        have HO3 := Lib.hid hO3
        have HIa := Lib.hid (hIa'.appT (by decide) hA)
        have HIb := Lib.hid (hIb'.appT (by decide) hA)
        have HId := Lib.hid (hId'.appT (by decide) hA)
        clear hF3' hO3 HF' hO'' hA gb2 hg hIa' hIb' hId'
        go_wp2
        go_roundw
        case rel =>
          have ti : AppT 29 W.heap.size w' (w'.setCell ⟨w2.heap.size + 1, 5, none⟩ (.slice A9 n9 c9)) := AppT.set hB3 rfl hgR
          refine ⟨k + 1, .slice A9 n9 c9, vs ++ [s], by omega, by go_num, gb3.setCell (by simpa using hgR) _, by simp; omega, hB3.set_ 5 _, HIa.out.appT (by decide) ti, HIb.out.appT (by decide) ti, HId.out.appT (by decide) ti, ?_, by simp [HVL.out], ?_⟩
          · have := HO3.out.set hB3 (by decide) 5 (.slice A9 n9 c9)
            rw [HZS.out]
            rw [HN9.out] at this ⊢
            simpa using this
          · have h1 := HF3'.out.setBlk (i := 5) hB3 (by decide) (.slice A9 n9 c9)
            have e : (vs ++ [s]).zip ((zms q d (k + 1)).map Mx.a) = vs.zip ((zms q d k).map Mx.a) ++ [(s, List.replicate (yt * yf).toNat 0)] := by
              rw [HZS.out, List.map_append, List.zip_append (by simp [HVL.out, hLen.out])]
              rfl
            rw [e]
            exact h1.mono (Nat.le_refl _) (by simp; omega)
        case measure => simp [intOf]; omega
    · obtain rfl : k = q.f.length := by omega
      have hbs := hbel.size
      obtain ⟨H1, h1, rfl, _, _⟩ := hO.form
      have hI := Lib.hid (zms_I64 HQ.out q.f.length (Nat.le_refl _))
      have hL := zms_length q d q.f.length
      have hO' : OutM wr W.heap.size wr.heap.size (.slice H1 q.f.length h1) vs (zms q d q.f.length) := by rw [OutM, hL]; exact hO
      have hbW3 := (GW3.out).size
      have hR : RepI wr W.heap.size wr.heap.size (.agg #[.int .i64 p, .int .i64 q.v, .slice A1 q.f.length a1, .slice C1 q.t.length b1, .slice E1 d.length e1, .slice H1 q.f.length h1]) (zRep p q d) :=
        ⟨_, _, _, _, vs, W3.heap.size, rfl, hIa, hIb, hId, hO', by rw [HVL.out]; exact hL.symm, hF, ⟨hbW3, hlt2⟩, ⟨hp, hqv⟩, hI.out⟩
      have HR := Lib.hid hR
      have k2' := (K2.out).below hbel (by have := SZ.out; omega)
      have r0 := hB.cell' (i := 0) rfl
      have r1 := hB.cell' (i := 1) rfl
      have r2 := hB.cell' (i := 2) rfl
      have r3 := hB.cell' (i := 3) rfl
      have r4 := hB.cell' (i := 4) rfl
      have r5 := hB.cell' (i := 5) rfl
      have s0 := k2'.cell' (i := 0) rfl
      have s1 := k2'.cell' (i := 1) rfl
      have s2 := k2'.cell' (i := 2) rfl
      have s3 := k2'.cell' (i := 3) rfl
      have s4 := k2'.cell' (i := 4) rfl
      have s5 := k2'.cell' (i := 5) rfl
      have fr := k2'.frozen
      have GF := Lib.hid (G0.out.trans (hbel.mono (G0.out).size))
      have HBS := Lib.hid hbs
      clear hR hO' hL hO hF hB k2' kq hIa hIb hId hbs hbW3
      go_wp2
      have sz := SZ.out
      have hbs := HBS.out
      have gf := GF.out
      refine bodyPost_ret (v := .agg #[.int .i64 p, .int .i64 q.v, .slice A1 q.f.length a1, .slice C1 q.t.length b1, .slice E1 d.length e1, .slice H1 q.f.length h1]) (by simp [results, go_sem, s0, s1, s2, s3, s4, s5]) rfl ⟨_, rfl, RepI.wider (lo := W.heap.size) (hi := wr.heap.size) ?_ (by omega) (by simp), (((((gf.setCell (by simp) _).setCell (by simp) _).setCell (by simp) _).setCell (by simp) _).setCell (by simp) _).setCell (by simp) _⟩
      have hc : Chg (w0.heap.size + 1) (w0.heap.size + 1 + 1) wr _ := (((((chg_set (w := wr) (p := ⟨w0.heap.size + 1, 0, none⟩) (u := .int .i64 p) (by simp) (by simp)).trans (chg_set (p := ⟨w0.heap.size + 1, 1, none⟩) (u := .int .i64 q.v) (by simp) (by simp))).trans (chg_set (p := ⟨w0.heap.size + 1, 2, none⟩) (u := .slice A1 q.f.length a1) (by simp) (by simp))).trans (chg_set (p := ⟨w0.heap.size + 1, 3, none⟩) (u := .slice C1 q.t.length b1) (by simp) (by simp))).trans (chg_set (p := ⟨w0.heap.size + 1, 4, none⟩) (u := .slice E1 d.length e1) (by simp) (by simp))).trans (chg_set (p := ⟨w0.heap.size + 1, 5, none⟩) (u := .slice H1 q.f.length h1) (by simp) (by simp))
      exact HR.out.chg hc (.inr (by omega))
end Go.Proofs.Ytjhllgldllbaaaa
