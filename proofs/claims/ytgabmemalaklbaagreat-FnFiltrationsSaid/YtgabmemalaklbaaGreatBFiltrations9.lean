/- FnFiltrations: the law holds for every argument. Part 9 of 18 of the proof: Zero2, Zero3, ZigI, PenAt, Mul2, RTab2, Mul3, Red2, SVec, AVec, SMat, Rank2, RTab3. No condition. -/
import Derived.Test.YtgabmemalaklbaaGreatBFiltrations8
/- The program's zeroRep. -/
namespace Go.Proofs.YtgabmemalaklbaaGreat
set_option linter.unusedVariables false
set_option linter.unusedSimpArgs false
open Go.RowKit

def zms (q : Qv) (d : List Int) (k : Nat) : List Mx := (List.range k).map fun i => zmx (dAt d (q.t.getD i 0)) (dAt d (q.f.getD i 0))
theorem zms_length (q : Qv) (d : List Int) (k : Nat) : (zms q d k).length = k := by simp [zms]
theorem zms_succ {q : Qv} {d : List Int} {k nf nt : Nat} {yf yt : Int} (hf : q.f[k]? = some (nf : Int)) (ht : q.t[k]? = some (nt : Int)) (hyf : d[nf]? = some yf) (hyt : d[nt]? = some yt) : zms q d (k + 1) = zms q d k ++ [zmx yt yf] := by
  simp [zms, List.range_succ, List.getD_eq_getElem?_getD, hf, ht, dAt, hyf, hyt]
def zRep (p : Int) (q : Qv) (d : List Int) : Rp := ⟨p, q, d, zms q d q.f.length⟩
theorem zms_I64 {q : Qv} {d : List Int} (h : areDims q d = true) (k : Nat) (hk : k ≤ q.f.length) : ∀ m ∈ zms q d k, I64 m.r ∧ I64 m.c := by
  intro m hm
  simp only [zms, List.mem_map, List.mem_range] at hm
  obtain ⟨i, hi, rfl⟩ := hm
  obtain ⟨nf, nt, yf, yt, ef, et, df, dt, _⟩ := rep_at (x := ⟨0, q, d, []⟩) h (show i < q.f.length by omega)
  obtain ⟨_, _, hd, _⟩ := areDims_t.1 h
  have b1 := hd _ (List.mem_of_getElem? df)
  have b2 := hd _ (List.mem_of_getElem? dt)
  simp only [zmx, List.getD_eq_getElem?_getD, ef, et, Option.getD_some, dAt_of df, dAt_of dt, I64]
  omega

theorem IntsO.cell {w : World} {lo hi : Nat} {v : Value} {l : List Int} (h : IntsO w lo hi v l) : v.oneCell' = true := by
  obtain ⟨A, c, rfl⟩ := h.form
  rfl

set_option maxHeartbeats 6400000 in
set_option maxRecDepth 100000 in
theorem zeroRep_any (p : Int) (u xv : Value) (q : Qv) (d : List Int) (w0 : World) (hp : I64 p) (hu : QvR w0 w0.heap.size u q) (hx : SlI w0 w0.heap.size xv d) (hq : areDims q d = true) :
    Calls Tryz.prog 32 #[.int .i64 p, u, xv] w0 fun e w' => ∃ v, e = .returned v ∧ RepO w' w0.heap.size w'.heap.size v (zRep p q d) ∧ Below w0.heap.size w0 w' := by
  have hu' := hu
  obtain ⟨A, c, C, c', rfl, hf, ht, hr, lf, lt⟩ := hu.open_
  obtain ⟨XA, xc, rfl, _, _, lx, hx⟩ := hx.open_
  clear hu
  obtain ⟨W, hW⟩ : ∃ W, W = (w0.alloc (.cells #[.int .i64 q.v, .slice A q.f.length c, .slice C q.t.length c'] 31)).alloc (.cells #[.int .i64 0, .int .i64 0, .slice none 0 0, .slice none 0 0, .slice none 0 0, .slice none 0 0] 34) := ⟨_, rfl⟩
  have g0 : Below w0.heap.size w0 W := by rw [hW]; exact ((Below.refl _ _).alloc (Nat.le_refl _) _).alloc (by simp) _
  have k1 : Blk W w0.heap.size 31 #[.int .i64 q.v, .slice A q.f.length c, .slice C q.t.length c'] := by rw [hW]; exact (Blk.new _ _ _).alloc _
  have k2 : Blk W (w0.heap.size + 1) 34 #[.int .i64 0, .int .i64 0, .slice none 0 0, .slice none 0 0, .slice none 0 0, .slice none 0 0] := by
    rw [hW]
    have := Blk.new (w0.alloc (.cells #[.int .i64 q.v, .slice A q.f.length c, .slice C q.t.length c'] 31)) 34 #[.int .i64 0, .int .i64 0, .slice none 0 0, .slice none 0 0, .slice none 0 0, .slice none 0 0]
    simpa only [World.size_alloc] using this
  have sz : W.heap.size = w0.heap.size + 1 + 1 := by rw [hW]; simp
  have SZ := Lib.hid sz
  clear sz
  have c0 := k1.cell' (i := 0) rfl
  have c1 := k1.cell' (i := 1) rfl
  have c2 := k1.cell' (i := 2) rfl
  have HQ := Lib.hid hq
  clear hq
  go_enter Tryz.func32, Tryz.ntmps32
  go_wp2_with fail
  rw [← hW]; clear hW
  refine (qvClone_any _ q _ (QvR.next g0 hu')).mono ?_; rintro e w1 ⟨v1, rfl, hQ, hb1⟩
  have s1 := hb1.size
  replace k2 := k2.call hb1
  replace g0 := bthen g0 hb1
  replace k1 := k1.call hb1
  replace c0 := k1.cell' (i := 0) rfl
  replace c1 := k1.cell' (i := 1) rfl
  replace c2 := k1.cell' (i := 2) rfl
  clear hb1
  obtain ⟨qa, qb, rfl, hQF, hqv⟩ := hQ
  have fa : IntsO w1 W.heap.size w1.heap.size qa q.f := hQF.1 (qa, q.f) (by simp)
  have fb : IntsO w1 W.heap.size w1.heap.size qb q.t := hQF.1 (qb, q.t) (by simp)
  obtain ⟨A1, a1, rfl⟩ := fa.form
  obtain ⟨C1, b1, rfl⟩ := fb.form
  clear fa fb
  go_wp2_with fail
  refine (clone_own _ d _ (SlI.next g0 hx)).mono ?_; rintro e w2 ⟨v2, rfl, hD, hb2⟩
  have s2 := hb2.size
  replace k2 := k2.call hb2
  replace hQF := hQF.below hb2
  replace g0 := bthen g0 hb2
  replace k1 := k1.call hb2
  replace c0 := k1.cell' (i := 0) rfl
  replace c1 := k1.cell' (i := 1) rfl
  replace c2 := k1.cell' (i := 2) rfl
  clear hb2
  obtain ⟨E1, e1, rfl⟩ := hD.form
  have hF3 : Fam w2 W.heap.size w2.heap.size ([(.slice A1 q.f.length a1, q.f), (.slice C1 q.t.length b1, q.t)] ++ [(.slice E1 d.length e1, d)]) := Fam.join (mi := w1.heap.size) hQF (Fam.one hD) (by omega) (by omega)
  have HF3 := Lib.hid hF3
  clear hF3 hQF hD
  have gR := Blk.new w2 34 #[.int .i64 p, .int .i64 q.v, .slice A1 q.f.length a1, .slice C1 q.t.length b1, .slice E1 d.length e1, .slice none 0 0]
  have ga := below_alloc w2 (.cells #[.int .i64 p, .int .i64 q.v, .slice A1 q.f.length a1, .slice C1 q.t.length b1, .slice E1 d.length e1, .slice none 0 0] 34)
  have k1a := k1.call ga
  have c1a := k1a.cell' (i := 1) rfl
  have K1 := Lib.hid k1
  have K2 := Lib.hid k2
  have G0 := Lib.hid g0
  clear k1 k2 c0 c1 c2 k1a g0
  go_wp2
  clear c1a
  go_loopw [19] (fun i wr => ∃ (k : Nat) (mv : Value) (vs : List Value), k ≤ q.f.length ∧ i = .int .i64 k ∧ Below w2.heap.size w2 wr ∧ w2.heap.size < wr.heap.size ∧ Blk wr w2.heap.size 34 #[.int .i64 p, .int .i64 q.v, .slice A1 q.f.length a1, .slice C1 q.t.length b1, .slice E1 d.length e1, mv] ∧
    RowO 62 3 wr w2.heap.size wr.heap.size mv k (mxCs vs (zms q d k)) ∧ vs.length = k ∧ Fam wr w2.heap.size wr.heap.size (vs.zip ((zms q d k).map Mx.a))) (fun i _ => q.f.length - (intOf i).toNat)
  case atStart => exact ⟨0, _, [], Nat.zero_le _, rfl, ga, by simp, gR, RowO.nil _ _ _ _, rfl, ⟨fun p hp => by simp at hp, by simp⟩⟩
  case round =>
    clear gR ga
    obtain ⟨k, mv, vs, hk, rfl, hbel, hlt2, hB, hO, hvl, hF⟩ := hrel
    have HVL := Lib.hid hvl
    clear hvl
    have kq := K1.out.call hbel
    by_cases hlt : k < q.f.length
    · obtain ⟨nf, nt, yf, yt, ef, et, df, dt, lnf, lnt, lnf5, lnt5, hkt0⟩ := rep_at (x := ⟨0, q, d, []⟩) HQ.out hlt
      simp only at ef et df dt lnf lnt hkt0
      have hkf := hlt
      have hd := (areDims_t.1 HQ.out).2.2.1
      have hlf6 : q.f.length ≤ 6 := (isQ_t.1 (areDims_t.1 HQ.out).1).2.2.1
      have byf := hd _ (List.mem_of_getElem? df)
      have byt := hd _ (List.mem_of_getElem? dt)
      have HZS := Lib.hid (zms_succ ef et df dt)
      clear hd
      have hkt := hkt0
      obtain ⟨bf, of_, xf, eA, hbf, HXF, f1, _⟩ := SlI.at_ hf hkf
      obtain ⟨bt, ot, xt, eC, hbt, HXT, t1, _⟩ := SlI.at_ ht hkt
      obtain ⟨bd, od, xdf, eX, hbd, HXDF, d1, _⟩ := SlI.at_ hx lnf
      obtain ⟨bd', od', xdt, eX', hbd', HXDT, d2, _⟩ := SlI.at_ hx lnt
      subst eA eC eX
      injection eX' with eX'
      injection eX' with e1 e2
      subst e1 e2
      have q1 := HXF.out
      rw [ef] at q1
      injection q1 with q1
      subst q1
      have q2 := HXT.out
      rw [et] at q2
      injection q2 with q2
      subst q2
      have q3 := HXDF.out
      rw [df] at q3
      injection q3 with q3
      subst q3
      have q4 := HXDT.out
      rw [dt] at q4
      injection q4 with q4
      subst q4
      clear HXF HXT HXDF HXDT ef et df dt
      have gw : Below w0.heap.size w0 wr := G0.out.trans (hbel.mono (G0.out).size)
      have hbs := hbel.size
      have gws := (G0.out).size
      have f2 := bcell gw hbf f1
      have a1' : (0 : Int) ≤ (k : Int) := by omega
      have a2' : (k : Int) < q.f.length := by omega
      have a3' : (k : Int) < q.t.length := by omega
      have a4' : (0 : Int) ≤ (nf : Int) := by omega
      have a5' : (nf : Int) < d.length := by omega
      have a6' : (0 : Int) ≤ (nt : Int) := by omega
      have a7' : (nt : Int) < d.length := by omega
      go_wp2
      refine wp_region_net (by kernel_rfl) [.eq (.pointer (some ⟨w2.heap.size, 5, none⟩)), .eq (mv), .eq (.slice (some ⟨bd, od, none⟩) d.length xc), .eq (.pointer (some ⟨w0.heap.size, 2, none⟩)), .eq (.slice (some ⟨bt, ot, none⟩) q.t.length c'), .eq (.int .i64 k), .eq (.pointer (some ⟨bt, ot + k, none⟩)), .eq (.int .i64 nt), .eq (.pointer (some ⟨bd, od + nt, none⟩)), .eq (.int .i64 yt), .eq (.slice (some ⟨bd, od, none⟩) d.length xc), .eq (.int .i64 nf), .eq (.pointer (some ⟨bd, od + nf, none⟩)), .eq (.int .i64 yf), rel 14 (fun u lo hi w => MxO w lo hi u (zmx yt yf)), .rel (fun x w => ∃ g s, x.v 15 = .slice (some ⟨g, 0, none⟩) 1 1 ∧ x.v 14 = .agg #[.int .i64 yt, .int .i64 yf, s] ∧ Blk w g 62 #[.int .i64 yt, .int .i64 yf, s])] [[], [0], [], [], [3], [], [3, 4, 5], [3, 4, 5, 6], [2, 3, 4, 5, 6, 7], [2, 3, 4, 5, 6, 7, 8], [], [], [10, 11], [10, 11, 12], [2, 3, 4, 5, 6, 7, 8, 9, 10, 11, 12, 13], [2, 3, 4, 5, 6, 7, 8, 9, 10, 11, 12, 13, 14], [0, 1, 2, 3, 4, 5, 6, 7, 8, 9, 10, 11, 12, 13, 14, 15], [0, 1, 2, 3, 4, 5, 6, 7, 8, 9, 10, 11, 12, 13, 14, 15, 16], [0, 1, 2, 3, 4, 5, 6, 7, 8, 9, 10, 11, 12, 13, 14, 15, 16, 17]] 16 (by kernel_rfl) ⟨trivial, trivial, trivial, trivial, trivial, trivial, trivial, trivial, trivial, trivial, trivial, trivial, trivial, trivial, rel_stable (fun u lo hi w w' h hb => h.below hb), fun x w w' ⟨g, s, e1, e2, h⟩ hb => ⟨g, s, e1, e2, h.call hb⟩, trivial⟩ ⟨?_, ?_, ?_, ?_, ?_, ?_, ?_, ?_, ?_, ?_, ?_, ?_, ?_, ?_, ?_, ?_, trivial⟩ ?_
      · intro x w hb hk Q' hQ
        clear hk
        simp only [netAct, dstAt, List.getElem?_toArray, List.getElem?_cons_zero, List.getElem?_cons_succ, Option.bind_some, Act.put, List.setIfInBounds_toArray, List.set_cons_zero, List.set_cons_succ] at hQ ⊢
        go_wp2
        exact hQ (.pointer (some ⟨w2.heap.size, 5, none⟩)) _ (Below.refl _ _) rfl
      · intro x w hb hk Q' hQ
        have h0 : x.v 0 = .pointer (some ⟨w2.heap.size, 5, none⟩) := (hk 0 (by decide)).1
        clear hk
        simp only [netAct, dstAt, List.getElem?_toArray, List.getElem?_cons_zero, List.getElem?_cons_succ, Option.bind_some, Act.put, List.setIfInBounds_toArray, List.set_cons_zero, List.set_cons_succ] at hQ ⊢
        simp only [h0] at hQ ⊢
        clear h0
        have z5 := (hB.call hb).cell' (i := 5) rfl
        go_wp2
        exact hQ (mv) _ (Below.refl _ _) rfl
      · intro x w hb hk Q' hQ
        clear hk
        simp only [netAct, dstAt, List.getElem?_toArray, List.getElem?_cons_zero, List.getElem?_cons_succ, Option.bind_some, Act.put, List.setIfInBounds_toArray, List.set_cons_zero, List.set_cons_succ] at hQ ⊢
        go_wp2
        exact hQ (.slice (some ⟨bd, od, none⟩) d.length xc) _ (Below.refl _ _) rfl
      · intro x w hb hk Q' hQ
        clear hk
        simp only [netAct, dstAt, List.getElem?_toArray, List.getElem?_cons_zero, List.getElem?_cons_succ, Option.bind_some, Act.put, List.setIfInBounds_toArray, List.set_cons_zero, List.set_cons_succ] at hQ ⊢
        go_wp2
        exact hQ (.pointer (some ⟨w0.heap.size, 2, none⟩)) _ (Below.refl _ _) rfl
      · intro x w hb hk Q' hQ
        have h3 : x.v 3 = .pointer (some ⟨w0.heap.size, 2, none⟩) := (hk 3 (by decide)).1
        clear hk
        simp only [netAct, dstAt, List.getElem?_toArray, List.getElem?_cons_zero, List.getElem?_cons_succ, Option.bind_some, Act.put, List.setIfInBounds_toArray, List.set_cons_zero, List.set_cons_succ] at hQ ⊢
        simp only [h3] at hQ ⊢
        clear h3
        have z2 := (kq.call hb).cell' (i := 2) rfl
        go_wp2
        exact hQ (.slice (some ⟨bt, ot, none⟩) q.t.length c') _ (Below.refl _ _) rfl
      · intro x w hb hk Q' hQ
        clear hk
        simp only [netAct, dstAt, List.getElem?_toArray, List.getElem?_cons_zero, List.getElem?_cons_succ, Option.bind_some, Act.put, List.setIfInBounds_toArray, List.set_cons_zero, List.set_cons_succ] at hQ ⊢
        go_wp2
        exact hQ (.int .i64 k) _ (Below.refl _ _) rfl
      · intro x w hb hk Q' hQ
        have h4 : x.v 4 = .slice (some ⟨bt, ot, none⟩) q.t.length c' := (hk 4 (by decide)).1
        have h5 : x.v 5 = .int .i64 k := (hk 5 (by decide)).1
        clear hk
        simp only [netAct, dstAt, List.getElem?_toArray, List.getElem?_cons_zero, List.getElem?_cons_succ, Option.bind_some, Act.put, List.setIfInBounds_toArray, List.set_cons_zero, List.set_cons_succ] at hQ ⊢
        simp only [h4, h5] at hQ ⊢
        clear h4 h5
        go_wp2
        exact hQ (.pointer (some ⟨bt, ot + k, none⟩)) _ (Below.refl _ _) rfl
      · intro x w hb hk Q' hQ
        have h6 : x.v 6 = .pointer (some ⟨bt, ot + k, none⟩) := (hk 6 (by decide)).1
        clear hk
        simp only [netAct, dstAt, List.getElem?_toArray, List.getElem?_cons_zero, List.getElem?_cons_succ, Option.bind_some, Act.put, List.setIfInBounds_toArray, List.set_cons_zero, List.set_cons_succ] at hQ ⊢
        simp only [h6] at hQ ⊢
        clear h6
        have z2 := bcell hb (by omega) (bcell gw hbt t1)
        go_wp2
        exact hQ (.int .i64 nt) _ (Below.refl _ _) rfl
      · intro x w hb hk Q' hQ
        have h2 : x.v 2 = .slice (some ⟨bd, od, none⟩) d.length xc := (hk 2 (by decide)).1
        have h7 : x.v 7 = .int .i64 nt := (hk 7 (by decide)).1
        clear hk
        simp only [netAct, dstAt, List.getElem?_toArray, List.getElem?_cons_zero, List.getElem?_cons_succ, Option.bind_some, Act.put, List.setIfInBounds_toArray, List.set_cons_zero, List.set_cons_succ] at hQ ⊢
        simp only [h2, h7] at hQ ⊢
        clear h2 h7
        go_wp2
        exact hQ (.pointer (some ⟨bd, od + nt, none⟩)) _ (Below.refl _ _) rfl
      · intro x w hb hk Q' hQ
        have h8 : x.v 8 = .pointer (some ⟨bd, od + nt, none⟩) := (hk 8 (by decide)).1
        clear hk
        simp only [netAct, dstAt, List.getElem?_toArray, List.getElem?_cons_zero, List.getElem?_cons_succ, Option.bind_some, Act.put, List.setIfInBounds_toArray, List.set_cons_zero, List.set_cons_succ] at hQ ⊢
        simp only [h8] at hQ ⊢
        clear h8
        have z2 := bcell hb (by omega) (bcell gw hbd' d2)
        go_wp2
        exact hQ (.int .i64 yt) _ (Below.refl _ _) rfl
      · intro x w hb hk Q' hQ
        clear hk
        simp only [netAct, dstAt, List.getElem?_toArray, List.getElem?_cons_zero, List.getElem?_cons_succ, Option.bind_some, Act.put, List.setIfInBounds_toArray, List.set_cons_zero, List.set_cons_succ] at hQ ⊢
        go_wp2
        exact hQ (.slice (some ⟨bd, od, none⟩) d.length xc) _ (Below.refl _ _) rfl
      · intro x w hb hk Q' hQ
        clear hk
        simp only [netAct, dstAt, List.getElem?_toArray, List.getElem?_cons_zero, List.getElem?_cons_succ, Option.bind_some, Act.put, List.setIfInBounds_toArray, List.set_cons_zero, List.set_cons_succ] at hQ ⊢
        go_wp2
        exact hQ (.int .i64 nf) _ (Below.refl _ _) rfl
      · intro x w hb hk Q' hQ
        have h10 : x.v 10 = .slice (some ⟨bd, od, none⟩) d.length xc := (hk 10 (by decide)).1
        have h11 : x.v 11 = .int .i64 nf := (hk 11 (by decide)).1
        clear hk
        simp only [netAct, dstAt, List.getElem?_toArray, List.getElem?_cons_zero, List.getElem?_cons_succ, Option.bind_some, Act.put, List.setIfInBounds_toArray, List.set_cons_zero, List.set_cons_succ] at hQ ⊢
        simp only [h10, h11] at hQ ⊢
        clear h10 h11
        go_wp2
        exact hQ (.pointer (some ⟨bd, od + nf, none⟩)) _ (Below.refl _ _) rfl
      · intro x w hb hk Q' hQ
        have h12 : x.v 12 = .pointer (some ⟨bd, od + nf, none⟩) := (hk 12 (by decide)).1
        clear hk
        simp only [netAct, dstAt, List.getElem?_toArray, List.getElem?_cons_zero, List.getElem?_cons_succ, Option.bind_some, Act.put, List.setIfInBounds_toArray, List.set_cons_zero, List.set_cons_succ] at hQ ⊢
        simp only [h12] at hQ ⊢
        clear h12
        have z2 := bcell hb (by omega) (bcell gw hbd d1)
        go_wp2
        exact hQ (.int .i64 yf) _ (Below.refl _ _) rfl
      · intro x w hb hk Q' hQ
        have h2 : x.v 2 = .slice (some ⟨bd, od, none⟩) d.length xc := (hk 2 (by decide)).1
        have h3 : x.v 3 = .pointer (some ⟨w0.heap.size, 2, none⟩) := (hk 3 (by decide)).1
        have h4 : x.v 4 = .slice (some ⟨bt, ot, none⟩) q.t.length c' := (hk 4 (by decide)).1
        have h5 : x.v 5 = .int .i64 k := (hk 5 (by decide)).1
        have h6 : x.v 6 = .pointer (some ⟨bt, ot + k, none⟩) := (hk 6 (by decide)).1
        have h7 : x.v 7 = .int .i64 nt := (hk 7 (by decide)).1
        have h8 : x.v 8 = .pointer (some ⟨bd, od + nt, none⟩) := (hk 8 (by decide)).1
        have h9 : x.v 9 = .int .i64 yt := (hk 9 (by decide)).1
        have h10 : x.v 10 = .slice (some ⟨bd, od, none⟩) d.length xc := (hk 10 (by decide)).1
        have h11 : x.v 11 = .int .i64 nf := (hk 11 (by decide)).1
        have h12 : x.v 12 = .pointer (some ⟨bd, od + nf, none⟩) := (hk 12 (by decide)).1
        have h13 : x.v 13 = .int .i64 yf := (hk 13 (by decide)).1
        clear hk
        simp only [netAct, dstAt, List.getElem?_toArray, List.getElem?_cons_zero, List.getElem?_cons_succ, Option.bind_some, Act.put, List.setIfInBounds_toArray, List.set_cons_zero, List.set_cons_succ] at hQ ⊢
        simp only [h2, h3, h4, h5, h6, h7, h8, h9, h10, h11, h12, h13] at hQ ⊢
        clear h2 h3 h4 h5 h6 h7 h8 h9 h10 h11 h12 h13
        go_wp2_with fail
        refine (zero_any yt yf _ byt.1 byf.1 (by omega) (by omega)).mono ?_; rintro e w3 ⟨v3, rfl, hZ, hb3⟩
        go_wp2
        exact hQ _ _ hb3 hZ
      · intro x w hb hk Q' hQ
        have h2 : x.v 2 = .slice (some ⟨bd, od, none⟩) d.length xc := (hk 2 (by decide)).1
        have h3 : x.v 3 = .pointer (some ⟨w0.heap.size, 2, none⟩) := (hk 3 (by decide)).1
        have h4 : x.v 4 = .slice (some ⟨bt, ot, none⟩) q.t.length c' := (hk 4 (by decide)).1
        have h5 : x.v 5 = .int .i64 k := (hk 5 (by decide)).1
        have h6 : x.v 6 = .pointer (some ⟨bt, ot + k, none⟩) := (hk 6 (by decide)).1
        have h7 : x.v 7 = .int .i64 nt := (hk 7 (by decide)).1
        have h8 : x.v 8 = .pointer (some ⟨bd, od + nt, none⟩) := (hk 8 (by decide)).1
        have h9 : x.v 9 = .int .i64 yt := (hk 9 (by decide)).1
        have h10 : x.v 10 = .slice (some ⟨bd, od, none⟩) d.length xc := (hk 10 (by decide)).1
        have h11 : x.v 11 = .int .i64 nf := (hk 11 (by decide)).1
        have h12 : x.v 12 = .pointer (some ⟨bd, od + nf, none⟩) := (hk 12 (by decide)).1
        have h13 : x.v 13 = .int .i64 yf := (hk 13 (by decide)).1
        have h14 : MxO w (x.lo 14) (x.hi 14) (x.v 14) (zmx yt yf) := (hk 14 (by decide)).1
        have s14 := (hk 14 (by decide)).2
        clear hk
        simp only [netAct, dstAt, List.getElem?_toArray, List.getElem?_cons_zero, List.getElem?_cons_succ, Option.bind_some, Act.put, List.setIfInBounds_toArray, List.set_cons_zero, List.set_cons_succ] at hQ ⊢
        simp only [h2, h3, h4, h5, h6, h7, h8, h9, h10, h11, h12, h13] at hQ ⊢
        clear h2 h3 h4 h5 h6 h7 h8 h9 h10 h11 h12 h13
        obtain ⟨s, e14, hs⟩ := h14
        obtain ⟨sA, sc, es⟩ := hs.1.form
        obtain ⟨sn, hsn⟩ : ∃ n, (zmx yt yf).a.length = n := ⟨_, rfl⟩
        rw [hsn] at es
        clear hsn hs
        subst es
        have hQ' := hQ (.slice (some ⟨w.heap.size, 0, none⟩) 1 1) (w.alloc (.cells #[.int .i64 yt, .int .i64 yf, .slice sA sn sc] 62)) (below_alloc _ _) ⟨_, _, rfl, e14, Blk.new _ _ _⟩
        simp only [zmx] at e14
        rw [e14] at hQ' ⊢
        go_wp2
        exact hQ'
      · intro x w hb hk hiv hdj
        have h0 : x.v 0 = .pointer (some ⟨w2.heap.size, 5, none⟩) := hk 0 (by decide)
        have h1 : x.v 1 = mv := hk 1 (by decide)
        have h2 : x.v 2 = .slice (some ⟨bd, od, none⟩) d.length xc := hk 2 (by decide)
        have h3 : x.v 3 = .pointer (some ⟨w0.heap.size, 2, none⟩) := hk 3 (by decide)
        have h4 : x.v 4 = .slice (some ⟨bt, ot, none⟩) q.t.length c' := hk 4 (by decide)
        have h5 : x.v 5 = .int .i64 k := hk 5 (by decide)
        have h6 : x.v 6 = .pointer (some ⟨bt, ot + k, none⟩) := hk 6 (by decide)
        have h7 : x.v 7 = .int .i64 nt := hk 7 (by decide)
        have h8 : x.v 8 = .pointer (some ⟨bd, od + nt, none⟩) := hk 8 (by decide)
        have h9 : x.v 9 = .int .i64 yt := hk 9 (by decide)
        have h10 : x.v 10 = .slice (some ⟨bd, od, none⟩) d.length xc := hk 10 (by decide)
        have h11 : x.v 11 = .int .i64 nf := hk 11 (by decide)
        have h12 : x.v 12 = .pointer (some ⟨bd, od + nf, none⟩) := hk 12 (by decide)
        have h13 : x.v 13 = .int .i64 yf := hk 13 (by decide)
        have h14 : MxO w (x.lo 14) (x.hi 14) (x.v 14) (zmx yt yf) := hk 14 (by decide)
        have h15 : ∃ g s, x.v 15 = .slice (some ⟨g, 0, none⟩) 1 1 ∧ x.v 14 = .agg #[.int .i64 yt, .int .i64 yf, s] ∧ Blk w g 62 #[.int .i64 yt, .int .i64 yf, s] := hk 15 (by decide)
        clear hk
        simp only [netAct, dstAt, List.getElem?_toArray, List.getElem?_cons_zero, List.getElem?_cons_succ, Option.bind_some, Act.put, List.setIfInBounds_toArray, List.set_cons_zero, List.set_cons_succ]
        simp only [List.drop_succ_cons, List.drop_zero, h0, h1, h2, h3, h4, h5, h6, h7, h8, h9, h10, h11, h12, h13]
        clear h0 h1 h2 h3 h4 h5 h6 h7 h8 h9 h10 h11 h12 h13
        obtain ⟨g, s, e15, e14, hg⟩ := h15
        have l14 := (hiv 14 (by decide)).1
        have h14i := (hiv 14 (by decide)).2.2
        obtain ⟨s', e14', hs, _⟩ := h14
        rw [e14] at e14'
        simp only [Value.agg.injEq, Array.mk.injEq, List.cons.injEq, and_true, zmx, true_and] at e14'
        subst e14'
        rw [e15]
        have hO' := hO.below hb
        have hF' := (hF.below hb).snoc (hs.wider l14 h14i) (by omega) hb.size
        have hB' := hB.call hb
        have gb2 : Below w2.heap.size w2 w := hbel.trans (hb.mono hbs)
        have hbs2 := hb.size
        have hLen := Lib.hid (zms_length q d k)
        have HF' := Lib.hid hF'
        have hO'' : OutM w w2.heap.size wr.heap.size mv vs (zms q d k) := by rw [OutM, hLen.out]; exact hO'
        have HC := Lib.hid hs.cell
        clear hiv hdj hs hF' hO' hO hF e14 e15 hb hB
        refine wpList_appM (by rfl) (.tmp 25) (.tmp 39) (by rfl) w2.heap.size wr.heap.size mv vs (zms q d k) (by rfl) hO'' (by rw [HVL.out, hLen.out]) g 1 (zmx yt yf) s (by rfl) hg HC.out (by rw [hLen.out]; omega) (by omega) ?_
        intro v' w' hO3 hA
        obtain ⟨n9, hn9⟩ : ∃ n, (zms q d k ++ [zmx yt yf]).length = n := ⟨_, rfl⟩
        rw [OutM, hn9] at hO3
        have HN9 := Lib.hid (show n9 = k + 1 by rw [← hn9]; simp [hLen.out])
        clear hn9
        obtain ⟨A9, c9, ev, _, _⟩ := hO3.form
        subst ev
        have hB3 := hA.other _ _ _ (by decide) hB'
        have z5 := hB3.cell' (i := 5) rfl
        have fr := hB3.frozen
        have gb3 : Below w2.heap.size w2 w' := gb2.trans (hA.below (Nat.le_refl _) (by omega))
        have hs3 := hA.size
        have hF3' := HF'.out.appT (by decide) hA
        have HF3' := Lib.hid hF3'
        have HO3 := Lib.hid hO3
        clear hF3' hO3 HF' hO'' hA gb2 hg
        go_wp2
        go_roundw
        case rel =>
          refine ⟨k + 1, .slice A9 n9 c9, vs ++ [s], by omega, by go_num, gb3.setCell (by simp) _, by simp; omega, hB3.set_ 5 _, ?_, by simp [HVL.out], ?_⟩
          · have := HO3.out.set hB3 (by decide) 5 (.slice A9 n9 c9)
            rw [HZS.out]
            rw [HN9.out] at this ⊢
            simpa using this
          · have h1 := HF3'.out.setBlk (i := 5) hB3 (by decide) (.slice A9 n9 c9)
            have e : (vs ++ [s]).zip ((zms q d (k + 1)).map Mx.a) = vs.zip ((zms q d k).map Mx.a) ++ [(s, List.replicate (yt * yf).toNat 0)] := by
              rw [HZS.out, List.map_append, List.zip_append (by simp [HVL.out, hLen.out])]
              rfl
            rw [e]
            exact h1.mono (Nat.le_refl _) (by simp; omega)
        case measure => simp [intOf]; omega
    · obtain rfl : k = q.f.length := by omega
      have hbs := hbel.size
      obtain ⟨H1, h1, rfl, _, _⟩ := hO.form
      have hI := Lib.hid (zms_I64 HQ.out q.f.length (Nat.le_refl _))
      have hF' : Fam wr W.heap.size wr.heap.size ([(.slice A1 q.f.length a1, q.f), (.slice C1 q.t.length b1, q.t)] ++ [(.slice E1 d.length e1, d)] ++ vs.zip ((zms q d q.f.length).map Mx.a)) :=
        Fam.join (mi := w2.heap.size) (HF3.out.below hbel) hF (by omega) (by omega)
      have hL := zms_length q d q.f.length
      have hO' : OutM wr w2.heap.size wr.heap.size (.slice H1 q.f.length h1) vs (zms q d q.f.length) := by rw [OutM, hL]; exact hO
      have hR : RepO wr W.heap.size wr.heap.size (.agg #[.int .i64 p, .int .i64 q.v, .slice A1 q.f.length a1, .slice C1 q.t.length b1, .slice E1 d.length e1, .slice H1 q.f.length h1]) (zRep p q d) :=
        ⟨_, _, _, _, vs, rfl, hO'.mono (by omega) (Nat.le_refl _), by rw [HVL.out]; exact hL.symm, hF', ⟨hp, hqv⟩, hI.out⟩
      have HR := Lib.hid hR
      have k2' := K2.out.call hbel
      have r0 := hB.cell' (i := 0) rfl
      have r1 := hB.cell' (i := 1) rfl
      have r2 := hB.cell' (i := 2) rfl
      have r3 := hB.cell' (i := 3) rfl
      have r4 := hB.cell' (i := 4) rfl
      have r5 := hB.cell' (i := 5) rfl
      have s0 := k2'.cell' (i := 0) rfl
      have s1 := k2'.cell' (i := 1) rfl
      have s2 := k2'.cell' (i := 2) rfl
      have s3 := k2'.cell' (i := 3) rfl
      have s4 := k2'.cell' (i := 4) rfl
      have s5 := k2'.cell' (i := 5) rfl
      have fr := k2'.frozen
      have gf : Below w0.heap.size w0 wr := G0.out.trans (hbel.mono (G0.out).size)
      have GF := Lib.hid gf
      clear hR hO' hF' hL hO hF hB k2' kq gf
      go_wp2
      have sz := SZ.out
      have gf := GF.out
      refine bodyPost_ret (v := .agg #[.int .i64 p, .int .i64 q.v, .slice A1 q.f.length a1, .slice C1 q.t.length b1, .slice E1 d.length e1, .slice H1 q.f.length h1]) (by simp [results, go_sem, s0, s1, s2, s3, s4, s5]) rfl ⟨_, rfl, RepO.wider (lo := W.heap.size) (hi := wr.heap.size) ?_ (by omega) (by simp), (((((gf.setCell (by simp) _).setCell (by simp) _).setCell (by simp) _).setCell (by simp) _).setCell (by simp) _).setCell (by simp) _⟩
      have hc : Chg (w0.heap.size + 1) (w0.heap.size + 1 + 1) wr _ := (((((chg_set (w := wr) (p := ⟨w0.heap.size + 1, 0, none⟩) (u := .int .i64 p) (by simp) (by simp)).trans (chg_set (p := ⟨w0.heap.size + 1, 1, none⟩) (u := .int .i64 q.v) (by simp) (by simp))).trans (chg_set (p := ⟨w0.heap.size + 1, 2, none⟩) (u := .slice A1 q.f.length a1) (by simp) (by simp))).trans (chg_set (p := ⟨w0.heap.size + 1, 3, none⟩) (u := .slice C1 q.t.length b1) (by simp) (by simp))).trans (chg_set (p := ⟨w0.heap.size + 1, 4, none⟩) (u := .slice E1 d.length e1) (by simp) (by simp))).trans (chg_set (p := ⟨w0.heap.size + 1, 5, none⟩) (u := .slice H1 q.f.length h1) (by simp) (by simp))
      exact HR.out.chg hc (.inr (by omega))
end Go.Proofs.YtgabmemalaklbaaGreat

/- The reference's l8Zero. -/
namespace Go.Proofs.YtgabmemalaklbaaGreat
set_option linter.unusedVariables false
set_option linter.unusedSimpArgs false
open Go.RowKit

/-- a representation that the call made; the rows of its quiver and dimensions lie in earlier memory than those of its matrices, which are apart from one another -/
def RepI (w : World) (lo hi : Nat) (val : Value) (x : Rp) : Prop := ∃ f t d m vs mi, val = .agg #[.int .i64 x.p, .int .i64 x.q.v, f, t, d, m] ∧ IntsO w lo mi f x.q.f ∧ IntsO w lo mi t x.q.t ∧ IntsO w lo mi d x.d ∧ OutM w lo hi m vs x.m ∧ vs.length = x.m.length ∧
  Fam w mi hi (vs.zip (x.m.map Mx.a)) ∧ (lo ≤ mi ∧ mi ≤ hi) ∧ (I64 x.p ∧ I64 x.q.v) ∧ ∀ m ∈ x.m, I64 m.r ∧ I64 m.c
theorem RepI.rd {w : World} {lo hi : Nat} {v : Value} {x : Rp} (h : RepI w lo hi v x) : RpR w w.heap.size v x := by
  obtain ⟨f, t, d, m, vs, mi, e, h1, h2, h3, h4, h5, h6, _, h7, h8⟩ := h
  exact ⟨f, t, d, m, e, h1.rd, h2.rd, h3.rd, OutM.rd h4 h5 (fun p hp => (h6.1 p hp).rd) h8, h7⟩
theorem RepI.chg {w w' : World} {lo hi lo' hi' : Nat} {v : Value} {x : Rp} (h : RepI w lo hi v x) (hc : Chg lo' hi' w w') (hd : hi ≤ lo' ∨ hi' ≤ lo) : RepI w' lo hi v x := by
  obtain ⟨f, t, d, m, vs, mi, e, h1, h2, h3, h4, h5, h6, h9, h7, h8⟩ := h
  exact ⟨f, t, d, m, vs, mi, e, h1.chg hc (by omega), h2.chg hc (by omega), h3.chg hc (by omega), h4.chg hc hd, h5, h6.chg hc (by omega), h9, h7, h8⟩
theorem RepI.below {w w' : World} {lo hi : Nat} {v : Value} {x : Rp} (h : RepI w lo hi v x) (hb : Below w.heap.size w w') : RepI w' lo hi v x := by
  obtain ⟨f, t, d, m, vs, mi, e, h1, h2, h3, h4, h5, h6, h9, h7, h8⟩ := h
  exact ⟨f, t, d, m, vs, mi, e, h1.below hb, h2.below hb, h3.below hb, h4.below hb, h5, h6.below hb, h9, h7, h8⟩
theorem RepI.wider {w : World} {lo hi lo' hi' : Nat} {v : Value} {x : Rp} (h : RepI w lo hi v x) (k1 : lo' ≤ lo) (k2 : hi ≤ hi') : RepI w lo' hi' v x := by
  obtain ⟨f, t, d, m, vs, mi, e, h1, h2, h3, h4, h5, h6, h9, h7, h8⟩ := h
  exact ⟨f, t, d, m, vs, mi, e, h1.wider k1 (Nat.le_refl _), h2.wider k1 (Nat.le_refl _), h3.wider k1 (Nat.le_refl _), h4.mono k1 k2, h5, h6.mono (Nat.le_refl _) k2, by omega, h7, h8⟩

theorem RepI.zero (w : World) {lo hi : Nat} (h : lo ≤ hi) : RepI w lo hi (.agg #[.int .i64 0, .int .i64 0, .slice none 0 0, .slice none 0 0, .slice none 0 0, .slice none 0 0]) rp0 :=
  ⟨_, _, _, _, [], lo, rfl, ⟨OwnI.nil _ _, by simp [Value.ownBlock]⟩, ⟨OwnI.nil _ _, by simp [Value.ownBlock]⟩, ⟨OwnI.nil _ _, by simp [Value.ownBlock]⟩, RowO.nil _ w lo hi, rfl, ⟨fun p hp => by simp at hp, by simp⟩, ⟨Nat.le_refl _, h⟩, by simp [rp0, I64], fun m hm => by simp [rp0] at hm⟩

set_option maxHeartbeats 6400000 in
set_option maxRecDepth 100000 in
theorem l8Zero_any (p : Int) (u xv : Value) (q : Qv) (d : List Int) (w0 : World) (hp : I64 p) (hu : QvR w0 w0.heap.size u q) (hx : SlI w0 w0.heap.size xv d) (hq : areDims q d = true) :
    Calls Tryz.prog 40 #[.int .i64 p, u, xv] w0 fun e w' => ∃ v, e = .returned v ∧ RepI w' w0.heap.size w'.heap.size v (zRep p q d) ∧ Below w0.heap.size w0 w' := by
  have hu' := hu
  obtain ⟨A, c, C, c', rfl, hf, ht, hr, lf, lt⟩ := hu.open_
  obtain ⟨XA, xc, rfl, _, _, lx, hx⟩ := hx.open_
  clear hu
  obtain ⟨W, hW⟩ : ∃ W, W = (w0.alloc (.cells #[.int .i64 q.v, .slice A q.f.length c, .slice C q.t.length c'] 31)).alloc (.cells #[.int .i64 0, .int .i64 0, .slice none 0 0, .slice none 0 0, .slice none 0 0, .slice none 0 0] 34) := ⟨_, rfl⟩
  have g0 : Below w0.heap.size w0 W := by rw [hW]; exact ((Below.refl _ _).alloc (Nat.le_refl _) _).alloc (by simp) _
  have k1 : Blk W w0.heap.size 31 #[.int .i64 q.v, .slice A q.f.length c, .slice C q.t.length c'] := by rw [hW]; exact (Blk.new _ _ _).alloc _
  have k2 : Blk W (w0.heap.size + 1) 34 #[.int .i64 0, .int .i64 0, .slice none 0 0, .slice none 0 0, .slice none 0 0, .slice none 0 0] := by
    rw [hW]
    have := Blk.new (w0.alloc (.cells #[.int .i64 q.v, .slice A q.f.length c, .slice C q.t.length c'] 31)) 34 #[.int .i64 0, .int .i64 0, .slice none 0 0, .slice none 0 0, .slice none 0 0, .slice none 0 0]
    simpa only [World.size_alloc] using this
  have sz : W.heap.size = w0.heap.size + 1 + 1 := by rw [hW]; simp
  have SZ := Lib.hid sz
  clear sz
  have HQ := Lib.hid hq
  clear hq
  have hxW := SlI.next g0 hx
  have huW := QvR.next g0 hu'
  go_enter Tryz.func40, Tryz.ntmps40
  have c0 := k1.cell' (i := 0) rfl
  have c1 := k1.cell' (i := 1) rfl
  have c2 := k1.cell' (i := 2) rfl
  go_wp2_with fail
  rw [← hW]; clear hW
  refine (l6Copy_any _ q _ huW).mono ?_; rintro e w1 ⟨v1, rfl, ⟨qa, qb, rfl, ha, hb2, hqv⟩, hb1⟩
  obtain ⟨A1, a1, rfl⟩ := ha.form
  obtain ⟨C1, b1, rfl⟩ := hb2.form
  have s1 := hb1.size
  clear c0 c1 c2
  (go_wp2_with (at_builtin; refine Hold.stop ?_)); unfold Hold
  refine wpList_append_fresh (by rfl) (.tmp 12) (.tmp 13) (by rfl) w1.heap.size w1.heap.size (w1.alloc (.cells #[] 3)).heap.size #[] (by rfl) (Blk.new _ _ _) rfl (Nat.le_refl _) XA xc d (by rfl) (SlI.next (below_alloc _ _) (SlI.next hb1 hxW)) ?_
  intro v2 w2 ho hb2'
  obtain ⟨E1, e1, rfl, _, _⟩ := ho.form
  have hb3 : Below w1.heap.size w1 w2 := bthen (below_alloc _ _) hb2'
  have s2 := hb3.size
  have s2' := hb2'.size
  obtain ⟨W3, hW3⟩ : ∃ W3, W3 = (w2.alloc (.cells #[] 62)).alloc (.cells #[.int .i64 p, .int .i64 q.v, .slice A1 q.f.length a1, .slice C1 q.t.length b1, .slice E1 d.length e1, .slice (some ⟨w2.heap.size, 0, none⟩) 0 0] 34) := ⟨_, rfl⟩
  have gA : Below w2.heap.size w2 W3 := by rw [hW3]; exact ((Below.refl _ _).alloc (Nat.le_refl _) _).alloc (by simp) _
  have z3 : W3.heap.size = w2.heap.size + 1 + 1 := by rw [hW3]; simp
  have hBm3 : Blk W3 w2.heap.size 62 #[] := by rw [hW3]; exact (Blk.new _ _ _).alloc _
  have hB3 : Blk W3 (w2.heap.size + 1) 34 #[.int .i64 p, .int .i64 q.v, .slice A1 q.f.length a1, .slice C1 q.t.length b1, .slice E1 d.length e1, .slice (some ⟨w2.heap.size, 0, none⟩) 0 0] := by
    rw [hW3]
    have := Blk.new (w2.alloc (.cells #[] 62)) 34 #[.int .i64 p, .int .i64 q.v, .slice A1 q.f.length a1, .slice C1 q.t.length b1, .slice E1 d.length e1, .slice (some ⟨w2.heap.size, 0, none⟩) 0 0]
    simpa only [World.size_alloc] using this
  have g1 : Below W.heap.size W w2 := bthen hb1 hb3
  have gW3 : Below W.heap.size W W3 := bthen g1 gA
  have sW := g1.size
  simp only [World.size_alloc] at s2'
  have hO3 : RowO 62 3 W3 W.heap.size W3.heap.size (.slice (some ⟨w2.heap.size, 0, none⟩) 0 0) 0 [] := by
    have := hBm3.own (base := W.heap.size) (n := 0) (cap := 0) (size := 3) sW (Nat.le_refl _) (by simp only [maxLen]; omega) (by simp)
    exact ⟨by simpa using this, fun k hk => by simp [Value.ownBlock] at hk; subst hk; exact hBm3.lt, by omega⟩
  have ha3 : IntsO W3 W.heap.size W3.heap.size (.slice A1 q.f.length a1) q.f := ((ha.below hb3).below gA).wider (Nat.le_refl _) (by omega)
  have hb3' : IntsO W3 W.heap.size W3.heap.size (.slice C1 q.t.length b1) q.t := ((hb2.below hb3).below gA).wider (Nat.le_refl _) (by omega)
  have hd3 : IntsO W3 W.heap.size W3.heap.size (.slice E1 d.length e1) d := ((IntsO.of_own ho).below gA).wider (by omega) (by omega)
  have hgR : W.heap.size ≤ (w2.heap.size + 1) := by omega
  have q1' : W3.cell? ⟨w0.heap.size, 1, none⟩ = some (.slice A q.f.length c) := (k1.below gW3 (by have := SZ.out; omega)).cell' (i := 1) rfl
  have q1'' : w2.cell? ⟨w0.heap.size, 1, none⟩ = some (.slice A q.f.length c) := (k1.below g1 (by have := SZ.out; omega)).cell' (i := 1) rfl
  have hlt0 : w0.heap.size < w2.heap.size := by have := SZ.out; omega
  have K1 := Lib.hid k1
  have K2 := Lib.hid k2
  have G0 := Lib.hid g0
  have HA3 := Lib.hid ha3
  have HB3 := Lib.hid hb3'
  have HD3 := Lib.hid hd3
  have H3 := Lib.hid hB3
  have O3 := Lib.hid hO3
  have GW3 := Lib.hid gW3
  have HGR := Lib.hid (show (w2.heap.size + 1) < W3.heap.size by omega)
  clear ho ha hb2 hBm3 ha3 hb3 hb3' hd3 hB3 hO3 gW3 k1 k2 g0 hb1 hb2' gA g1 s1 s2 s2' sW z3
  go_wp2
  rw [← hW3]
  clear hW3 q1' q1''
  go_loopw [8] (fun i wr => ∃ (k : Nat) (mv : Value) (vs : List Value), k ≤ q.f.length ∧ i = .int .i64 k ∧ Below W.heap.size W wr ∧ W3.heap.size ≤ wr.heap.size ∧ Blk wr (w2.heap.size + 1) 34 #[.int .i64 p, .int .i64 q.v, .slice A1 q.f.length a1, .slice C1 q.t.length b1, .slice E1 d.length e1, mv] ∧
    IntsO wr W.heap.size W3.heap.size (.slice A1 q.f.length a1) q.f ∧ IntsO wr W.heap.size W3.heap.size (.slice C1 q.t.length b1) q.t ∧ IntsO wr W.heap.size W3.heap.size (.slice E1 d.length e1) d ∧
    RowO 62 3 wr W.heap.size wr.heap.size mv k (mxCs vs (zms q d k)) ∧ vs.length = k ∧ Fam wr W3.heap.size wr.heap.size (vs.zip ((zms q d k).map Mx.a))) (fun i _ => q.f.length - (intOf i).toNat)
  case atStart => exact ⟨0, _, [], Nat.zero_le _, rfl, GW3.out, Nat.le_refl _, H3.out, HA3.out, HB3.out, HD3.out, O3.out, rfl, ⟨fun p hp => by simp at hp, by simp⟩⟩
  case round =>
    obtain ⟨k, mv, vs, hk, rfl, hbel, hlt2, hB, hIa, hIb, hId, hO, hvl, hF⟩ := hrel
    have HVL := Lib.hid hvl
    clear hvl
    have kq := (K1.out).below hbel (by have := SZ.out; omega)
    have p1 := kq.cell' (i := 1) rfl
    by_cases hlt : k < q.f.length
    · obtain ⟨nf, nt, yf, yt, ef, et, df, dt, lnf, lnt, lnf5, lnt5, hkt0⟩ := rep_at (x := ⟨0, q, d, []⟩) HQ.out hlt
      simp only at ef et df dt lnf lnt hkt0
      have hkf := hlt
      have hd := (areDims_t.1 HQ.out).2.2.1
      have hlf6 : q.f.length ≤ 6 := (isQ_t.1 (areDims_t.1 HQ.out).1).2.2.1
      have byf := hd _ (List.mem_of_getElem? df)
      have byt := hd _ (List.mem_of_getElem? dt)
      have HZS := Lib.hid (zms_succ ef et df dt)
      clear hd
      have hkt := hkt0
      obtain ⟨bf, of_, xf, eA, hbf, HXF, f1, _⟩ := SlI.at_ hf hkf
      obtain ⟨bt, ot, xt, eC, hbt, HXT, t1, _⟩ := SlI.at_ ht hkt
      obtain ⟨bd, od, xdf, eX, hbd, HXDF, d1, _⟩ := SlI.at_ hx lnf
      obtain ⟨bd', od', xdt, eX', hbd', HXDT, d2, _⟩ := SlI.at_ hx lnt
      subst eA eC eX
      injection eX' with eX'
      injection eX' with e1 e2
      subst e1 e2
      have q1 := HXF.out
      rw [ef] at q1
      injection q1 with q1
      subst q1
      have q2 := HXT.out
      rw [et] at q2
      injection q2 with q2
      subst q2
      have q3 := HXDF.out
      rw [df] at q3
      injection q3 with q3
      subst q3
      have q4 := HXDT.out
      rw [dt] at q4
      injection q4 with q4
      subst q4
      clear HXF HXT HXDF HXDT ef et df dt
      have gw : Below w0.heap.size w0 wr := G0.out.trans (hbel.mono (G0.out).size)
      have gws := gw.size
      have hbelS := hbel.size
      have sz := SZ.out
      have a1' : (0 : Int) ≤ (k : Int) := by omega
      have a2' : (k : Int) < q.f.length := by omega
      have a3' : (k : Int) < q.t.length := by omega
      have a4' : (0 : Int) ≤ (nf : Int) := by omega
      have a5' : (nf : Int) < d.length := by omega
      have a6' : (0 : Int) ≤ (nt : Int) := by omega
      have a7' : (nt : Int) < d.length := by omega
      have SZ2 := Lib.hid sz
      clear sz
      go_wp2
      refine wp_region_net (by kernel_rfl) [.eq (.pointer (some ⟨w2.heap.size + 1, 5, none⟩)), .eq (mv), .eq (.slice (some ⟨bd, od, none⟩) d.length xc), .eq (.pointer (some ⟨w0.heap.size, 2, none⟩)), .eq (.slice (some ⟨bt, ot, none⟩) q.t.length c'), .eq (.int .i64 k), .eq (.pointer (some ⟨bt, ot + k, none⟩)), .eq (.int .i64 nt), .eq (.pointer (some ⟨bd, od + nt, none⟩)), .eq (.int .i64 yt), .eq (.slice (some ⟨bd, od, none⟩) d.length xc), .eq (.pointer (some ⟨w0.heap.size, 1, none⟩)), .eq (.slice (some ⟨bf, of_, none⟩) q.f.length c), .eq (.int .i64 k), .eq (.pointer (some ⟨bf, of_ + k, none⟩)), .eq (.int .i64 nf), .eq (.pointer (some ⟨bd, od + nf, none⟩)), .eq (.int .i64 yf), rel 18 (fun u lo hi w => MxO w lo hi u (zmx yt yf)), .rel (fun x w => ∃ g s, x.v 19 = .slice (some ⟨g, 0, none⟩) 1 1 ∧ x.v 18 = .agg #[.int .i64 yt, .int .i64 yf, s] ∧ Blk w g 62 #[.int .i64 yt, .int .i64 yf, s])] [[], [0], [], [], [3], [], [3, 4, 5], [3, 4, 5, 6], [2, 3, 4, 5, 6, 7], [2, 3, 4, 5, 6, 7, 8], [], [], [11], [], [11, 12, 13], [11, 12, 13, 14], [10, 11, 12, 13, 14, 15], [10, 11, 12, 13, 14, 15, 16], [2, 3, 4, 5, 6, 7, 8, 9, 10, 11, 12, 13, 14, 15, 16, 17], [2, 3, 4, 5, 6, 7, 8, 9, 10, 11, 12, 13, 14, 15, 16, 17, 18], [0, 1, 2, 3, 4, 5, 6, 7, 8, 9, 10, 11, 12, 13, 14, 15, 16, 17, 18, 19], [0, 1, 2, 3, 4, 5, 6, 7, 8, 9, 10, 11, 12, 13, 14, 15, 16, 17, 18, 19, 20], [0, 1, 2, 3, 4, 5, 6, 7, 8, 9, 10, 11, 12, 13, 14, 15, 16, 17, 18, 19, 20, 21]] 20 (by kernel_rfl) ⟨trivial, trivial, trivial, trivial, trivial, trivial, trivial, trivial, trivial, trivial, trivial, trivial, trivial, trivial, trivial, trivial, trivial, trivial, rel_stable (fun u lo hi w w' h hb => h.below hb), fun x w w' ⟨g, s, e1, e2, h⟩ hb => ⟨g, s, e1, e2, h.call hb⟩, trivial⟩ ⟨?_, ?_, ?_, ?_, ?_, ?_, ?_, ?_, ?_, ?_, ?_, ?_, ?_, ?_, ?_, ?_, ?_, ?_, ?_, ?_, trivial⟩ ?_
      · intro x w hb hk Q' hQ
        clear hk
        simp only [netAct, dstAt, List.getElem?_toArray, List.getElem?_cons_zero, List.getElem?_cons_succ, Option.bind_some, Act.put, List.setIfInBounds_toArray, List.set_cons_zero, List.set_cons_succ] at hQ ⊢
        go_wp2
        exact hQ (.pointer (some ⟨w2.heap.size + 1, 5, none⟩)) _ (Below.refl _ _) rfl
      · intro x w hb hk Q' hQ
        have h0 : x.v 0 = .pointer (some ⟨w2.heap.size + 1, 5, none⟩) := (hk 0 (by decide)).1
        clear hk
        simp only [netAct, dstAt, List.getElem?_toArray, List.getElem?_cons_zero, List.getElem?_cons_succ, Option.bind_some, Act.put, List.setIfInBounds_toArray, List.set_cons_zero, List.set_cons_succ] at hQ ⊢
        simp only [h0] at hQ ⊢
        clear h0
        have z5 := (hB.call hb).cell' (i := 5) rfl
        go_wp2
        exact hQ (mv) _ (Below.refl _ _) rfl
      · intro x w hb hk Q' hQ
        clear hk
        simp only [netAct, dstAt, List.getElem?_toArray, List.getElem?_cons_zero, List.getElem?_cons_succ, Option.bind_some, Act.put, List.setIfInBounds_toArray, List.set_cons_zero, List.set_cons_succ] at hQ ⊢
        go_wp2
        exact hQ (.slice (some ⟨bd, od, none⟩) d.length xc) _ (Below.refl _ _) rfl
      · intro x w hb hk Q' hQ
        clear hk
        simp only [netAct, dstAt, List.getElem?_toArray, List.getElem?_cons_zero, List.getElem?_cons_succ, Option.bind_some, Act.put, List.setIfInBounds_toArray, List.set_cons_zero, List.set_cons_succ] at hQ ⊢
        go_wp2
        exact hQ (.pointer (some ⟨w0.heap.size, 2, none⟩)) _ (Below.refl _ _) rfl
      · intro x w hb hk Q' hQ
        have h3 : x.v 3 = .pointer (some ⟨w0.heap.size, 2, none⟩) := (hk 3 (by decide)).1
        clear hk
        simp only [netAct, dstAt, List.getElem?_toArray, List.getElem?_cons_zero, List.getElem?_cons_succ, Option.bind_some, Act.put, List.setIfInBounds_toArray, List.set_cons_zero, List.set_cons_succ] at hQ ⊢
        simp only [h3] at hQ ⊢
        clear h3
        have z2 := (kq.call hb).cell' (i := 2) rfl
        go_wp2
        exact hQ (.slice (some ⟨bt, ot, none⟩) q.t.length c') _ (Below.refl _ _) rfl
      · intro x w hb hk Q' hQ
        clear hk
        simp only [netAct, dstAt, List.getElem?_toArray, List.getElem?_cons_zero, List.getElem?_cons_succ, Option.bind_some, Act.put, List.setIfInBounds_toArray, List.set_cons_zero, List.set_cons_succ] at hQ ⊢
        go_wp2
        exact hQ (.int .i64 k) _ (Below.refl _ _) rfl
      · intro x w hb hk Q' hQ
        have h4 : x.v 4 = .slice (some ⟨bt, ot, none⟩) q.t.length c' := (hk 4 (by decide)).1
        have h5 : x.v 5 = .int .i64 k := (hk 5 (by decide)).1
        clear hk
        simp only [netAct, dstAt, List.getElem?_toArray, List.getElem?_cons_zero, List.getElem?_cons_succ, Option.bind_some, Act.put, List.setIfInBounds_toArray, List.set_cons_zero, List.set_cons_succ] at hQ ⊢
        simp only [h4, h5] at hQ ⊢
        clear h4 h5
        go_wp2
        exact hQ (.pointer (some ⟨bt, ot + k, none⟩)) _ (Below.refl _ _) rfl
      · intro x w hb hk Q' hQ
        have h6 : x.v 6 = .pointer (some ⟨bt, ot + k, none⟩) := (hk 6 (by decide)).1
        clear hk
        simp only [netAct, dstAt, List.getElem?_toArray, List.getElem?_cons_zero, List.getElem?_cons_succ, Option.bind_some, Act.put, List.setIfInBounds_toArray, List.set_cons_zero, List.set_cons_succ] at hQ ⊢
        simp only [h6] at hQ ⊢
        clear h6
        have z2 := bcell hb (by omega) (bcell gw hbt t1)
        go_wp2
        exact hQ (.int .i64 nt) _ (Below.refl _ _) rfl
      · intro x w hb hk Q' hQ
        have h2 : x.v 2 = .slice (some ⟨bd, od, none⟩) d.length xc := (hk 2 (by decide)).1
        have h7 : x.v 7 = .int .i64 nt := (hk 7 (by decide)).1
        clear hk
        simp only [netAct, dstAt, List.getElem?_toArray, List.getElem?_cons_zero, List.getElem?_cons_succ, Option.bind_some, Act.put, List.setIfInBounds_toArray, List.set_cons_zero, List.set_cons_succ] at hQ ⊢
        simp only [h2, h7] at hQ ⊢
        clear h2 h7
        go_wp2
        exact hQ (.pointer (some ⟨bd, od + nt, none⟩)) _ (Below.refl _ _) rfl
      · intro x w hb hk Q' hQ
        have h8 : x.v 8 = .pointer (some ⟨bd, od + nt, none⟩) := (hk 8 (by decide)).1
        clear hk
        simp only [netAct, dstAt, List.getElem?_toArray, List.getElem?_cons_zero, List.getElem?_cons_succ, Option.bind_some, Act.put, List.setIfInBounds_toArray, List.set_cons_zero, List.set_cons_succ] at hQ ⊢
        simp only [h8] at hQ ⊢
        clear h8
        have z2 := bcell hb (by omega) (bcell gw hbd' d2)
        go_wp2
        exact hQ (.int .i64 yt) _ (Below.refl _ _) rfl
      · intro x w hb hk Q' hQ
        clear hk
        simp only [netAct, dstAt, List.getElem?_toArray, List.getElem?_cons_zero, List.getElem?_cons_succ, Option.bind_some, Act.put, List.setIfInBounds_toArray, List.set_cons_zero, List.set_cons_succ] at hQ ⊢
        go_wp2
        exact hQ (.slice (some ⟨bd, od, none⟩) d.length xc) _ (Below.refl _ _) rfl
      · intro x w hb hk Q' hQ
        clear hk
        simp only [netAct, dstAt, List.getElem?_toArray, List.getElem?_cons_zero, List.getElem?_cons_succ, Option.bind_some, Act.put, List.setIfInBounds_toArray, List.set_cons_zero, List.set_cons_succ] at hQ ⊢
        go_wp2
        exact hQ (.pointer (some ⟨w0.heap.size, 1, none⟩)) _ (Below.refl _ _) rfl
      · intro x w hb hk Q' hQ
        have h11 : x.v 11 = .pointer (some ⟨w0.heap.size, 1, none⟩) := (hk 11 (by decide)).1
        clear hk
        simp only [netAct, dstAt, List.getElem?_toArray, List.getElem?_cons_zero, List.getElem?_cons_succ, Option.bind_some, Act.put, List.setIfInBounds_toArray, List.set_cons_zero, List.set_cons_succ] at hQ ⊢
        simp only [h11] at hQ ⊢
        clear h11
        have z2 := (kq.call hb).cell' (i := 1) rfl
        go_wp2
        exact hQ (.slice (some ⟨bf, of_, none⟩) q.f.length c) _ (Below.refl _ _) rfl
      · intro x w hb hk Q' hQ
        clear hk
        simp only [netAct, dstAt, List.getElem?_toArray, List.getElem?_cons_zero, List.getElem?_cons_succ, Option.bind_some, Act.put, List.setIfInBounds_toArray, List.set_cons_zero, List.set_cons_succ] at hQ ⊢
        go_wp2
        exact hQ (.int .i64 k) _ (Below.refl _ _) rfl
      · intro x w hb hk Q' hQ
        have h12 : x.v 12 = .slice (some ⟨bf, of_, none⟩) q.f.length c := (hk 12 (by decide)).1
        have h13 : x.v 13 = .int .i64 k := (hk 13 (by decide)).1
        clear hk
        simp only [netAct, dstAt, List.getElem?_toArray, List.getElem?_cons_zero, List.getElem?_cons_succ, Option.bind_some, Act.put, List.setIfInBounds_toArray, List.set_cons_zero, List.set_cons_succ] at hQ ⊢
        simp only [h12, h13] at hQ ⊢
        clear h12 h13
        go_wp2
        exact hQ (.pointer (some ⟨bf, of_ + k, none⟩)) _ (Below.refl _ _) rfl
      · intro x w hb hk Q' hQ
        have h14 : x.v 14 = .pointer (some ⟨bf, of_ + k, none⟩) := (hk 14 (by decide)).1
        clear hk
        simp only [netAct, dstAt, List.getElem?_toArray, List.getElem?_cons_zero, List.getElem?_cons_succ, Option.bind_some, Act.put, List.setIfInBounds_toArray, List.set_cons_zero, List.set_cons_succ] at hQ ⊢
        simp only [h14] at hQ ⊢
        clear h14
        have z2 := bcell hb (by omega) (bcell gw hbf f1)
        go_wp2
        exact hQ (.int .i64 nf) _ (Below.refl _ _) rfl
      · intro x w hb hk Q' hQ
        have h10 : x.v 10 = .slice (some ⟨bd, od, none⟩) d.length xc := (hk 10 (by decide)).1
        have h15 : x.v 15 = .int .i64 nf := (hk 15 (by decide)).1
        clear hk
        simp only [netAct, dstAt, List.getElem?_toArray, List.getElem?_cons_zero, List.getElem?_cons_succ, Option.bind_some, Act.put, List.setIfInBounds_toArray, List.set_cons_zero, List.set_cons_succ] at hQ ⊢
        simp only [h10, h15] at hQ ⊢
        clear h10 h15
        go_wp2
        exact hQ (.pointer (some ⟨bd, od + nf, none⟩)) _ (Below.refl _ _) rfl
      · intro x w hb hk Q' hQ
        have h16 : x.v 16 = .pointer (some ⟨bd, od + nf, none⟩) := (hk 16 (by decide)).1
        clear hk
        simp only [netAct, dstAt, List.getElem?_toArray, List.getElem?_cons_zero, List.getElem?_cons_succ, Option.bind_some, Act.put, List.setIfInBounds_toArray, List.set_cons_zero, List.set_cons_succ] at hQ ⊢
        simp only [h16] at hQ ⊢
        clear h16
        have z2 := bcell hb (by omega) (bcell gw hbd d1)
        go_wp2
        exact hQ (.int .i64 yf) _ (Below.refl _ _) rfl
      · intro x w hb hk Q' hQ
        have h2 : x.v 2 = .slice (some ⟨bd, od, none⟩) d.length xc := (hk 2 (by decide)).1
        have h3 : x.v 3 = .pointer (some ⟨w0.heap.size, 2, none⟩) := (hk 3 (by decide)).1
        have h4 : x.v 4 = .slice (some ⟨bt, ot, none⟩) q.t.length c' := (hk 4 (by decide)).1
        have h5 : x.v 5 = .int .i64 k := (hk 5 (by decide)).1
        have h6 : x.v 6 = .pointer (some ⟨bt, ot + k, none⟩) := (hk 6 (by decide)).1
        have h7 : x.v 7 = .int .i64 nt := (hk 7 (by decide)).1
        have h8 : x.v 8 = .pointer (some ⟨bd, od + nt, none⟩) := (hk 8 (by decide)).1
        have h9 : x.v 9 = .int .i64 yt := (hk 9 (by decide)).1
        have h10 : x.v 10 = .slice (some ⟨bd, od, none⟩) d.length xc := (hk 10 (by decide)).1
        have h11 : x.v 11 = .pointer (some ⟨w0.heap.size, 1, none⟩) := (hk 11 (by decide)).1
        have h12 : x.v 12 = .slice (some ⟨bf, of_, none⟩) q.f.length c := (hk 12 (by decide)).1
        have h13 : x.v 13 = .int .i64 k := (hk 13 (by decide)).1
        have h14 : x.v 14 = .pointer (some ⟨bf, of_ + k, none⟩) := (hk 14 (by decide)).1
        have h15 : x.v 15 = .int .i64 nf := (hk 15 (by decide)).1
        have h16 : x.v 16 = .pointer (some ⟨bd, od + nf, none⟩) := (hk 16 (by decide)).1
        have h17 : x.v 17 = .int .i64 yf := (hk 17 (by decide)).1
        clear hk
        simp only [netAct, dstAt, List.getElem?_toArray, List.getElem?_cons_zero, List.getElem?_cons_succ, Option.bind_some, Act.put, List.setIfInBounds_toArray, List.set_cons_zero, List.set_cons_succ] at hQ ⊢
        simp only [h2, h3, h4, h5, h6, h7, h8, h9, h10, h11, h12, h13, h14, h15, h16, h17] at hQ ⊢
        clear h2 h3 h4 h5 h6 h7 h8 h9 h10 h11 h12 h13 h14 h15 h16 h17
        go_wp2_with fail
        refine (l3Zero_any yt yf _ byt.1 byf.1 (by omega) (by omega)).mono ?_; rintro e w3 ⟨v3, rfl, hZ, hb3⟩
        go_wp2
        exact hQ _ _ hb3 hZ
      · intro x w hb hk Q' hQ
        have h2 : x.v 2 = .slice (some ⟨bd, od, none⟩) d.length xc := (hk 2 (by decide)).1
        have h3 : x.v 3 = .pointer (some ⟨w0.heap.size, 2, none⟩) := (hk 3 (by decide)).1
        have h4 : x.v 4 = .slice (some ⟨bt, ot, none⟩) q.t.length c' := (hk 4 (by decide)).1
        have h5 : x.v 5 = .int .i64 k := (hk 5 (by decide)).1
        have h6 : x.v 6 = .pointer (some ⟨bt, ot + k, none⟩) := (hk 6 (by decide)).1
        have h7 : x.v 7 = .int .i64 nt := (hk 7 (by decide)).1
        have h8 : x.v 8 = .pointer (some ⟨bd, od + nt, none⟩) := (hk 8 (by decide)).1
        have h9 : x.v 9 = .int .i64 yt := (hk 9 (by decide)).1
        have h10 : x.v 10 = .slice (some ⟨bd, od, none⟩) d.length xc := (hk 10 (by decide)).1
        have h11 : x.v 11 = .pointer (some ⟨w0.heap.size, 1, none⟩) := (hk 11 (by decide)).1
        have h12 : x.v 12 = .slice (some ⟨bf, of_, none⟩) q.f.length c := (hk 12 (by decide)).1
        have h13 : x.v 13 = .int .i64 k := (hk 13 (by decide)).1
        have h14 : x.v 14 = .pointer (some ⟨bf, of_ + k, none⟩) := (hk 14 (by decide)).1
        have h15 : x.v 15 = .int .i64 nf := (hk 15 (by decide)).1
        have h16 : x.v 16 = .pointer (some ⟨bd, od + nf, none⟩) := (hk 16 (by decide)).1
        have h17 : x.v 17 = .int .i64 yf := (hk 17 (by decide)).1
        have h18 : MxO w (x.lo 18) (x.hi 18) (x.v 18) (zmx yt yf) := (hk 18 (by decide)).1
        have s18 := (hk 18 (by decide)).2
        clear hk
        simp only [netAct, dstAt, List.getElem?_toArray, List.getElem?_cons_zero, List.getElem?_cons_succ, Option.bind_some, Act.put, List.setIfInBounds_toArray, List.set_cons_zero, List.set_cons_succ] at hQ ⊢
        simp only [h2, h3, h4, h5, h6, h7, h8, h9, h10, h11, h12, h13, h14, h15, h16, h17] at hQ ⊢
        clear h2 h3 h4 h5 h6 h7 h8 h9 h10 h11 h12 h13 h14 h15 h16 h17
        obtain ⟨s, e14, hs⟩ := h18
        obtain ⟨sA, sc, es⟩ := hs.1.form
        obtain ⟨sn, hsn⟩ : ∃ n, (zmx yt yf).a.length = n := ⟨_, rfl⟩
        rw [hsn] at es
        clear hsn hs
        subst es
        have hQ' := hQ (.slice (some ⟨w.heap.size, 0, none⟩) 1 1) (w.alloc (.cells #[.int .i64 yt, .int .i64 yf, .slice sA sn sc] 62)) (below_alloc _ _) ⟨_, _, rfl, e14, Blk.new _ _ _⟩
        simp only [zmx] at e14
        rw [e14] at hQ' ⊢
        go_wp2
        exact hQ'
      · intro x w hb hk hiv hdj
        have h0 : x.v 0 = .pointer (some ⟨w2.heap.size + 1, 5, none⟩) := hk 0 (by decide)
        have h1 : x.v 1 = mv := hk 1 (by decide)
        have h2 : x.v 2 = .slice (some ⟨bd, od, none⟩) d.length xc := hk 2 (by decide)
        have h3 : x.v 3 = .pointer (some ⟨w0.heap.size, 2, none⟩) := hk 3 (by decide)
        have h4 : x.v 4 = .slice (some ⟨bt, ot, none⟩) q.t.length c' := hk 4 (by decide)
        have h5 : x.v 5 = .int .i64 k := hk 5 (by decide)
        have h6 : x.v 6 = .pointer (some ⟨bt, ot + k, none⟩) := hk 6 (by decide)
        have h7 : x.v 7 = .int .i64 nt := hk 7 (by decide)
        have h8 : x.v 8 = .pointer (some ⟨bd, od + nt, none⟩) := hk 8 (by decide)
        have h9 : x.v 9 = .int .i64 yt := hk 9 (by decide)
        have h10 : x.v 10 = .slice (some ⟨bd, od, none⟩) d.length xc := hk 10 (by decide)
        have h11 : x.v 11 = .pointer (some ⟨w0.heap.size, 1, none⟩) := hk 11 (by decide)
        have h12 : x.v 12 = .slice (some ⟨bf, of_, none⟩) q.f.length c := hk 12 (by decide)
        have h13 : x.v 13 = .int .i64 k := hk 13 (by decide)
        have h14 : x.v 14 = .pointer (some ⟨bf, of_ + k, none⟩) := hk 14 (by decide)
        have h15 : x.v 15 = .int .i64 nf := hk 15 (by decide)
        have h16 : x.v 16 = .pointer (some ⟨bd, od + nf, none⟩) := hk 16 (by decide)
        have h17 : x.v 17 = .int .i64 yf := hk 17 (by decide)
        have h18 : MxO w (x.lo 18) (x.hi 18) (x.v 18) (zmx yt yf) := hk 18 (by decide)
        have h19 : ∃ g s, x.v 19 = .slice (some ⟨g, 0, none⟩) 1 1 ∧ x.v 18 = .agg #[.int .i64 yt, .int .i64 yf, s] ∧ Blk w g 62 #[.int .i64 yt, .int .i64 yf, s] := hk 19 (by decide)
        clear hk
        simp only [netAct, dstAt, List.getElem?_toArray, List.getElem?_cons_zero, List.getElem?_cons_succ, Option.bind_some, Act.put, List.setIfInBounds_toArray, List.set_cons_zero, List.set_cons_succ]
        simp only [List.drop_succ_cons, List.drop_zero, h0, h1, h2, h3, h4, h5, h6, h7, h8, h9, h10, h11, h12, h13, h14, h15, h16, h17]
        clear h0 h1 h2 h3 h4 h5 h6 h7 h8 h9 h10 h11 h12 h13 h14 h15 h16 h17
        obtain ⟨g, s, e15, e14, hg⟩ := h19
        have l14 := (hiv 18 (by decide)).1
        have h14i := (hiv 18 (by decide)).2.2
        obtain ⟨s', e14', hs, _⟩ := h18
        rw [e14] at e14'
        simp only [Value.agg.injEq, Array.mk.injEq, List.cons.injEq, and_true, zmx, true_and] at e14'
        subst e14'
        rw [e15]
        have hO' := hO.below hb
        have hF' := (hF.below hb).snoc (hs.wider l14 h14i) (by omega) hb.size
        have hB' := hB.call hb
        have hIa' := hIa.below hb
        have hIb' := hIb.below hb
        have hId' := hId.below hb
        have gb2 : Below W.heap.size W w := hbel.trans (hb.mono hbelS)
        have hbs2 := hb.size
        have hLen := Lib.hid (zms_length q d k)
        have HF' := Lib.hid hF'
        have hO'' : OutM w W.heap.size wr.heap.size mv vs (zms q d k) := by rw [OutM, hLen.out]; exact hO'
        have HC := Lib.hid hs.cell
        clear hiv hdj hs hF' hO' hO hF e14 e15 hb hB hIa hIb hId
        refine wpList_appM (by rfl) (.tmp 25) (.tmp 43) (by rfl) W.heap.size wr.heap.size mv vs (zms q d k) (by rfl) hO'' (by rw [HVL.out, hLen.out]) g 1 (zmx yt yf) s (by rfl) hg HC.out (by rw [hLen.out]; omega) (by omega) ?_
        intro v' w' hO3 hA
        obtain ⟨n9, hn9⟩ : ∃ n, (zms q d k ++ [zmx yt yf]).length = n := ⟨_, rfl⟩
        rw [OutM, hn9] at hO3
        have HN9 := Lib.hid (show n9 = k + 1 by rw [← hn9]; simp [hLen.out])
        clear hn9
        obtain ⟨A9, c9, ev, _, _⟩ := hO3.form
        subst ev
        have hB3 := hA.other _ _ _ (by decide) hB'
        have z5 := hB3.cell' (i := 5) rfl
        have fr := hB3.frozen
        have gb3 : Below W.heap.size W w' := gb2.trans (hA.below (Nat.le_refl _) (by omega))
        have hs3 := hA.size
        have hF3' := HF'.out.appT (by decide) hA
        have HF3' := Lib.hid hF3'
        have HO3 := Lib.hid hO3
        have HIa := Lib.hid (hIa'.appT (by decide) hA)
        have HIb := Lib.hid (hIb'.appT (by decide) hA)
        have HId := Lib.hid (hId'.appT (by decide) hA)
        clear hF3' hO3 HF' hO'' hA gb2 hg hIa' hIb' hId'
        go_wp2
        go_roundw
        case rel =>
          have ti : AppT 34 W.heap.size w' (w'.setCell ⟨w2.heap.size + 1, 5, none⟩ (.slice A9 n9 c9)) := AppT.set hB3 rfl hgR
          refine ⟨k + 1, .slice A9 n9 c9, vs ++ [s], by omega, by go_num, gb3.setCell (by simpa using hgR) _, by simp; omega, hB3.set_ 5 _, HIa.out.appT (by decide) ti, HIb.out.appT (by decide) ti, HId.out.appT (by decide) ti, ?_, by simp [HVL.out], ?_⟩
          · have := HO3.out.set hB3 (by decide) 5 (.slice A9 n9 c9)
            rw [HZS.out]
            rw [HN9.out] at this ⊢
            simpa using this
          · have h1 := HF3'.out.setBlk (i := 5) hB3 (by decide) (.slice A9 n9 c9)
            have e : (vs ++ [s]).zip ((zms q d (k + 1)).map Mx.a) = vs.zip ((zms q d k).map Mx.a) ++ [(s, List.replicate (yt * yf).toNat 0)] := by
              rw [HZS.out, List.map_append, List.zip_append (by simp [HVL.out, hLen.out])]
              rfl
            rw [e]
            exact h1.mono (Nat.le_refl _) (by simp; omega)
        case measure => simp [intOf]; omega
    · obtain rfl : k = q.f.length := by omega
      have hbs := hbel.size
      obtain ⟨H1, h1, rfl, _, _⟩ := hO.form
      have hI := Lib.hid (zms_I64 HQ.out q.f.length (Nat.le_refl _))
      have hL := zms_length q d q.f.length
      have hO' : OutM wr W.heap.size wr.heap.size (.slice H1 q.f.length h1) vs (zms q d q.f.length) := by rw [OutM, hL]; exact hO
      have hbW3 := (GW3.out).size
      have hR : RepI wr W.heap.size wr.heap.size (.agg #[.int .i64 p, .int .i64 q.v, .slice A1 q.f.length a1, .slice C1 q.t.length b1, .slice E1 d.length e1, .slice H1 q.f.length h1]) (zRep p q d) :=
        ⟨_, _, _, _, vs, W3.heap.size, rfl, hIa, hIb, hId, hO', by rw [HVL.out]; exact hL.symm, hF, ⟨hbW3, hlt2⟩, ⟨hp, hqv⟩, hI.out⟩
      have HR := Lib.hid hR
      have k2' := (K2.out).below hbel (by have := SZ.out; omega)
      have r0 := hB.cell' (i := 0) rfl
      have r1 := hB.cell' (i := 1) rfl
      have r2 := hB.cell' (i := 2) rfl
      have r3 := hB.cell' (i := 3) rfl
      have r4 := hB.cell' (i := 4) rfl
      have r5 := hB.cell' (i := 5) rfl
      have s0 := k2'.cell' (i := 0) rfl
      have s1 := k2'.cell' (i := 1) rfl
      have s2 := k2'.cell' (i := 2) rfl
      have s3 := k2'.cell' (i := 3) rfl
      have s4 := k2'.cell' (i := 4) rfl
      have s5 := k2'.cell' (i := 5) rfl
      have fr := k2'.frozen
      have GF := Lib.hid (G0.out.trans (hbel.mono (G0.out).size))
      have HBS := Lib.hid hbs
      clear hR hO' hL hO hF hB k2' kq hIa hIb hId hbs hbW3
      go_wp2
      have sz := SZ.out
      have hbs := HBS.out
      have gf := GF.out
      refine bodyPost_ret (v := .agg #[.int .i64 p, .int .i64 q.v, .slice A1 q.f.length a1, .slice C1 q.t.length b1, .slice E1 d.length e1, .slice H1 q.f.length h1]) (by simp [results, go_sem, s0, s1, s2, s3, s4, s5]) rfl ⟨_, rfl, RepI.wider (lo := W.heap.size) (hi := wr.heap.size) ?_ (by omega) (by simp), (((((gf.setCell (by simp) _).setCell (by simp) _).setCell (by simp) _).setCell (by simp) _).setCell (by simp) _).setCell (by simp) _⟩
      have hc : Chg (w0.heap.size + 1) (w0.heap.size + 1 + 1) wr _ := (((((chg_set (w := wr) (p := ⟨w0.heap.size + 1, 0, none⟩) (u := .int .i64 p) (by simp) (by simp)).trans (chg_set (p := ⟨w0.heap.size + 1, 1, none⟩) (u := .int .i64 q.v) (by simp) (by simp))).trans (chg_set (p := ⟨w0.heap.size + 1, 2, none⟩) (u := .slice A1 q.f.length a1) (by simp) (by simp))).trans (chg_set (p := ⟨w0.heap.size + 1, 3, none⟩) (u := .slice C1 q.t.length b1) (by simp) (by simp))).trans (chg_set (p := ⟨w0.heap.size + 1, 4, none⟩) (u := .slice E1 d.length e1) (by simp) (by simp))).trans (chg_set (p := ⟨w0.heap.size + 1, 5, none⟩) (u := .slice H1 q.f.length h1) (by simp) (by simp))
      exact HR.out.chg hc (.inr (by omega))
end Go.Proofs.YtgabmemalaklbaaGreat

/- Intervals of a zigzag: plain part; matrices of a representation told by a function, one number written. -/
namespace Go.Proofs.YtgabmemalaklbaaGreat
set_option linter.unusedVariables false
set_option linter.unusedSimpArgs false
open Go.RowKit

/-! ### matrices told by a function of the place -/
def msF (n : Nat) (F : Nat → Mx) : List Mx := (List.range n).map F
theorem msF_length (n : Nat) (F : Nat → Mx) : (msF n F).length = n := by simp [msF]
theorem msF_get {n j : Nat} (F : Nat → Mx) (h : j < n) : (msF n F)[j]? = some (F j) := by simp [msF, h]
theorem msF_congr {n : Nat} {F G : Nat → Mx} (e : ∀ i, i < n → F i = G i) : msF n F = msF n G := by
  apply List.ext_getElem?
  intro i
  by_cases hi : i < n
  · rw [msF_get F hi, msF_get G hi, e i hi]
  · rw [List.getElem?_eq_none (by rw [msF_length]; omega), List.getElem?_eq_none (by rw [msF_length]; omega)]
theorem msF_set {n j : Nat} (F : Nat → Mx) (m : Mx) : (msF n F).set j m = msF n fun i => if i = j then m else F i := by
  apply List.ext_getElem?
  intro i
  rw [List.getElem?_set, msF_length]
  by_cases hi : i < n
  · rw [msF_get (fun i => if i = j then m else F i) hi]
    by_cases e : j = i
    · rw [if_pos e, if_pos (by omega), if_pos e.symm]
    · rw [if_neg e, msF_get _ hi, if_neg (fun h => e h.symm)]
  · rw [List.getElem?_eq_none (l := msF n fun i => if i = j then m else F i) (by rw [msF_length]; omega)]
    split
    · rw [if_neg (by omega)]
    · rw [List.getElem?_eq_none (by rw [msF_length]; omega)]
theorem mxCs_rc : ∀ (vs : List Value) (ms ms' : List Mx), ms.map (fun m => (m.r, m.c)) = ms'.map (fun m => (m.r, m.c)) → mxCs vs ms = mxCs vs ms'
  | [], ms, ms', _ => by simp [mxCs]
  | v :: vs, [], ms', h => by
    have : ms' = [] := by simpa using h.symm
    subst this; rfl
  | v :: vs, m :: ms, [], h => by simp at h
  | v :: vs, m :: ms, m' :: ms', h => by
    simp only [List.map_cons, List.cons.injEq, Prod.mk.injEq] at h
    simp only [mxCs, h.1.1, h.1.2, mxCs_rc vs ms ms' h.2]
theorem OutM.rc {w : World} {lo hi : Nat} {v : Value} {vs : List Value} {ms ms' : List Mx} (h : OutM w lo hi v vs ms) (e : ms.map (fun m => (m.r, m.c)) = ms'.map (fun m => (m.r, m.c))) : OutM w lo hi v vs ms' := by
  have h1 := congrArg List.length e
  simp only [List.length_map] at h1
  have h2 := mxCs_rc vs ms ms' e
  unfold OutM at h ⊢
  rw [← h1, ← h2]
  exact h
/-- a matrix among a representation's: where its cells lie -/
theorem OutM.at_ {w : World} {lo hi lo' hi' j : Nat} {mv : Value} {vs : List Value} {ms : List Mx} {L0 : List (Value × List Int)} {m : Mx} (h : OutM w lo hi mv vs ms) (hl : vs.length = ms.length) (hF : Fam w lo' hi' (L0 ++ vs.zip (ms.map Mx.a))) (hm : ms[j]? = some m) (hne : 0 < m.a.length) :
    ∃ gm cm g c, mv = .slice (some ⟨gm, 0, none⟩) ms.length cm ∧ gm < w.heap.size ∧ vs[j]? = some (.slice (some ⟨g, 0, none⟩) m.a.length c) ∧ w.cell? ⟨gm, j * 3, none⟩ = some (.int .i64 m.r) ∧ w.cell? ⟨gm, j * 3 + 1, none⟩ = some (.int .i64 m.c) ∧
      w.cell? ⟨gm, j * 3 + 2, none⟩ = some (.slice (some ⟨g, 0, none⟩) m.a.length c) ∧ OwnI w lo' (.slice (some ⟨g, 0, none⟩) m.a.length c) m.a ∧ (lo' ≤ g ∧ g < hi') ∧ m.a.length ≤ c ∧ c ≤ 9223372036854775807 ∧ ms.length ≤ cm ∧ cm ≤ 9223372036854775807 := by
  have hj := lt_of_some hm
  have hv : vs[j]? = some (vs[j]'(by omega)) := List.getElem?_eq_getElem (by omega)
  have hI := hF.getAt hv (show (ms.map Mx.a)[j]? = some m.a by simp [hm])
  obtain ⟨gm, cm, cur, e, h1, h2, h3, h4⟩ := RowO.at_ h (by omega)
  have hml := mxCs_length vs ms hl
  obtain ⟨a, b, c⟩ := mxCs_get hv hm
  rcases hI.1.1.2 with ⟨e', h0⟩ | ⟨g, cap, cur', e', hg, _, hnc, hcm, _⟩
  · omega
  · have hf := RowO.form h
    obtain ⟨A, c2, e2, l1, l2⟩ := hf
    rw [e] at e2
    injection e2 with e21 e22 e23
    subst e23
    have h1 := h.1
    subst e
    have c0 := h1.cellAt (j * 3) (by omega)
    have c1 := h1.cellAt (j * 3 + 1) (by omega)
    have c3 := h1.cellAt (j * 3 + 2) (by omega)
    refine ⟨gm, cm, g, cap, rfl, h3, by rw [hv, e'], by rw [c0]; exact a, by rw [c1]; exact b, by rw [c3, ← e']; exact c, by rw [← e']; exact hI.1, ⟨hg, hI.2 g (by simp [e', Value.ownBlock])⟩, hnc, by simp only [maxLen] at hcm; omega, l1, l2⟩
/-- one number of one matrix written -/
theorem mats_put {w : World} {lo hi lo' hi' j i g c : Nat} {mv : Value} {vs : List Value} {ms : List Mx} {L0 : List (Value × List Int)} {m : Mx} {x : Int} (hO : OutM w lo hi mv vs ms) (hF : Fam w lo' hi' (L0 ++ vs.zip (ms.map Mx.a)))
    (hv : vs[j]? = some (.slice (some ⟨g, 0, none⟩) m.a.length c)) (hm : ms[j]? = some m) (ho : OwnI w lo' (.slice (some ⟨g, 0, none⟩) m.a.length c) m.a) (hx : I64 x) :
    OutM (w.setCell ⟨g, i, none⟩ (.int .i64 x)) lo hi mv vs (ms.set j ⟨m.r, m.c, m.a.set i x⟩) ∧ Fam (w.setCell ⟨g, i, none⟩ (.int .i64 x)) lo' hi' (L0 ++ vs.zip ((ms.set j ⟨m.r, m.c, m.a.set i x⟩).map Mx.a)) := by
  have hp := ho.put (j := i) hx
  refine ⟨OutM.rc (ms := ms) (RowO.grown hO (by decide) ho hp.2) ?_, ?_⟩
  · apply List.ext_getElem?
    intro k
    rw [List.getElem?_map, List.getElem?_map, List.getElem?_set]
    by_cases e : j = k
    · subst e
      rw [if_pos rfl, if_pos (lt_of_some hm), hm]
      rfl
    · rw [if_neg e]
  · rw [List.map_set]
    exact hF.setAt hv (show (ms.map Mx.a)[j]? = some m.a by simp [hm]) hp.1 hp.2
theorem mats_I64 {ms : List Mx} {j : Nat} {m : Mx} {l : List Int} (h : ∀ m ∈ ms, I64 m.r ∧ I64 m.c) (hm : ms[j]? = some m) : ∀ x ∈ ms.set j ⟨m.r, m.c, l⟩, I64 x.r ∧ I64 x.c := by
  intro x hx
  rcases List.mem_or_eq_of_mem_set hx with hx | rfl
  · exact h x hx
  · exact h m (List.mem_of_getElem? hm)

/-! ### intervals -/
/-- dimensions: 1 from a on, below k -/
def ivF (a k : Nat) (v : Nat) : Int := if a ≤ v ∧ v < k then 1 else 0
/-- the matrix of zeros at arrow i -/
def zmAt (q : Qv) (d : List Int) (i : Nat) : Mx := zmx (dAt d (q.t.getD i 0)) (dAt d (q.f.getD i 0))
theorem zms_F (q : Qv) (d : List Int) (n : Nat) : zms q d n = msF n (zmAt q d) := rfl
/-- the matrix with ones in place of all its numbers -/
def onesM (m : Mx) : Mx := ⟨m.r, m.c, List.replicate m.a.length 1⟩
def ziRep (p : Int) (q : Qv) (a b : Nat) : Rp := ⟨p, q, rowF q.v.toNat (ivF a (b + 1)), msF q.f.length fun i => onesM (zmAt q (rowF q.v.toNat (ivF a (b + 1))) i)⟩
def ziOk (ok : Bool) (p : Int) (q : Qv) (a b : Int) : Bool := isFld p && (ok && (inR a 0 (q.v - 1) && inR b a (q.v - 1)))
def ziP (ok : Bool) (p : Int) (q : Qv) (a b : Int) : Rp × Bool := if ziOk ok p q a b then (ziRep p q a.toNat b.toNat, true) else (rp0, false)
end Go.Proofs.YtgabmemalaklbaaGreat

/- PencilAt of the program. -/
namespace Go.Proofs.YtgabmemalaklbaaGreat
set_option linter.unusedVariables false
set_option linter.unusedSimpArgs false
open Go.RowKit

def penM (x : Rp) (a b : Int) : Mx := mxF ((x.m.getD 0 mx0).r.toNat) ((x.m.getD 0 mx0).c.toNat) (plF x.p b (plF x.p a (fun _ _ => 0) (entry (x.m.getD 0 mx0).a (x.m.getD 0 mx0).c.toNat)) (entry (x.m.getD 1 mx0).a (x.m.getD 0 mx0).c.toNat))
theorem entry_flat {r c i j : Nat} (f : Nat → Nat → Int) (hi : i < r) (hj : j < c) : entry (flat r c f) c i j = f i j := flat_getD f hi hj
end Go.Proofs.YtgabmemalaklbaaGreat

/- Products of matrices: the walk of the program's times. -/
namespace Go.Proofs.YtgabmemalaklbaaGreat
set_option linter.unusedVariables false
set_option linter.unusedSimpArgs false
open Go.RowKit

theorem row_d0 (r : Int) (d L i cap : Nat) (A : Option Addr) (w : World) (hd : d = 0) (hL : L = 0) (hb : cap ≤ 9223372036854775807) (hi : i ≤ 1000) :
    Calls Tryz.prog 35 #[.agg #[.int .i64 r, .int .i64 d, .slice A L cap], .int .i64 i] w fun e w' => ∃ A', e = .returned (.slice A' 0 cap) ∧ Below w.heap.size w w' := by
  subst hd hL
  exact row_zero r i cap A w hb hi
theorem addMultiple_d0 (p k : Int) (va vb : Value) (B : Option Addr) (d c : Nat) (w : World) (hd : d = 0) (hv : ∃ A n m, va = .slice A n m) (hvb : vb = .slice B d c) (hc : c ≤ 9223372036854775807) :
    Calls Tryz.prog 92 #[.int .i64 p, va, .int .i64 k, vb] w fun e w' => e = .returned va ∧ w' = w := by
  subst hd hvb
  exact addMultiple_zero p k va B c w hv hc
theorem le_pred {p : Int} {r c : Nat} {f : Nat → Nat → Int} (hp : 2 ≤ p ∧ p ≤ 5) (h : InF p r c f) {a b : Nat} (ha : a < r) (hb : b < c) : 0 ≤ f a b ∧ f a b ≤ 4 := by
  have := h a b ha hb
  omega
set_option maxHeartbeats 6400000 in
set_option maxRecDepth 100000 in
theorem times_any (p : Int) (u v : Value) (r c d : Nat) (f g : Nat → Nat → Int) (w0 : World) (hp : 2 ≤ p ∧ p ≤ 5) (hr : r ≤ 1000) (hc : c ≤ 1000) (hd : d ≤ 1000) (hu : MxR w0 w0.heap.size u (mxF r c f)) (hv : MxR w0 w0.heap.size v (mxF c d g)) (hf : InF p r c f) (hg : InF p c d g) :
    Calls Tryz.prog 79 #[.int .i64 p, u, v] w0 fun e w' => ∃ m, e = .returned m ∧ MxO w' w0.heap.size w'.heap.size m (mxF r d (muP p c f g)) ∧ Below w0.heap.size w0 w' := by
  have hu' := hu
  have hv' := hv
  obtain ⟨U, uc, rfl⟩ := hu.form
  obtain ⟨V, vc, rfl⟩ := hv.form
  simp only [mxF, flat_length] at hu hu' hv hv' ⊢
  obtain ⟨UL, hUL⟩ : ∃ z, r * c = z := ⟨_, rfl⟩
  obtain ⟨VL, hVL⟩ : ∃ z, c * d = z := ⟨_, rfl⟩
  rw [hUL] at hu hu' ⊢
  rw [hVL] at hv hv' ⊢
  have HUL := Lib.hid hUL
  have HVL := Lib.hid hVL
  clear hu hv hUL hVL
  obtain ⟨W, hW⟩ : ∃ W, W = ((w0.alloc (.cells #[.int .i64 r, .int .i64 c, .slice U UL uc] 62)).alloc (.cells #[.int .i64 c, .int .i64 d, .slice V VL vc] 62)).alloc (.cells #[.int .i64 0, .int .i64 0, .slice none 0 0] 62) := ⟨_, rfl⟩
  have g0 : Below w0.heap.size w0 W := by rw [hW]; exact (((Below.refl _ _).alloc (Nat.le_refl _) _).alloc (by simp) _).alloc (by simp; omega) _
  have k1 : Blk W w0.heap.size 62 #[.int .i64 r, .int .i64 c, .slice U UL uc] := by rw [hW]; exact ((Blk.new _ _ _).alloc _).alloc _
  have k2 : Blk W (w0.heap.size + 1) 62 #[.int .i64 c, .int .i64 d, .slice V VL vc] := by
    rw [hW]
    have := (Blk.new (w0.alloc (.cells #[.int .i64 r, .int .i64 c, .slice U UL uc] 62)) 62 #[.int .i64 c, .int .i64 d, .slice V VL vc]).alloc (.cells #[.int .i64 0, .int .i64 0, .slice none 0 0] 62)
    simpa only [World.size_alloc] using this
  have k3 : Blk W (w0.heap.size + 1 + 1) 62 #[.int .i64 0, .int .i64 0, .slice none 0 0] := by
    rw [hW]
    have := Blk.new ((w0.alloc (.cells #[.int .i64 r, .int .i64 c, .slice U UL uc] 62)).alloc (.cells #[.int .i64 c, .int .i64 d, .slice V VL vc] 62)) 62 #[.int .i64 0, .int .i64 0, .slice none 0 0]
    simpa only [World.size_alloc] using this
  have sz : W.heap.size = w0.heap.size + 1 + 1 + 1 := by rw [hW]; simp
  have SZ := Lib.hid sz
  have HU := Lib.hid hu'
  have HV := Lib.hid hv'
  have HF := Lib.hid hf
  have HG := Lib.hid hg
  have a0 := k1.cell' (i := 0) rfl
  have a1 := k1.cell' (i := 1) rfl
  have a2 := k1.cell' (i := 2) rfl
  have b0 := k2.cell' (i := 0) rfl
  have b1 := k2.cell' (i := 1) rfl
  have b2 := k2.cell' (i := 2) rfl
  clear hu' hv' hf hg sz
  go_enter Tryz.func79, Tryz.ntmps79
  go_wp2_with fail
  rw [← hW]; clear hW
  refine (zero_any r d _ (by omega) (by omega) (by omega) (by omega)).mono ?_; rintro e w1 ⟨v1, rfl, hZ, hb1⟩
  rw [zmx_flat] at hZ
  obtain ⟨A, cap, e1⟩ := hZ.form
  subst e1
  simp only [mxF, flat_length] at hZ ⊢
  obtain ⟨sA, esA, oZ, hr1, hr2⟩ := hZ
  simp only [Value.agg.injEq, Array.mk.injEq, List.cons.injEq, and_true, true_and] at esA
  subst esA
  obtain ⟨L, hL⟩ : ∃ z, r * d = z := ⟨_, rfl⟩
  rw [hL] at oZ ⊢
  have HL := Lib.hid hL
  clear hL
  have s1 := hb1.size
  obtain ⟨w2, hw2⟩ : ∃ u, u = w1.alloc (.cells #[.int .i64 r, .int .i64 d, .slice A L cap] 62) := ⟨_, rfl⟩
  have b2' : Below w1.heap.size w1 w2 := by rw [hw2]; exact below_alloc _ _
  have k4 : Blk w2 w1.heap.size 62 #[.int .i64 r, .int .i64 d, .slice A L cap] := by rw [hw2]; exact Blk.new _ _ _
  have oZ2 := oZ.below b2'
  rw [muS_0 p c r d f g] at oZ2
  have s2 := b2'.size
  have l4 := k4.lt
  have gW2 := bthen hb1 b2'
  have K1 := Lib.hid k1
  have K2 := Lib.hid k2
  have K3 := Lib.hid k3
  have G0 := Lib.hid g0
  have hWs := SZ.out
  clear a0 a1 a2 b0 b1 b2 oZ b2' hb1 k1 k2 k3 g0
  have k1 := (K1.out).below gW2 (by omega)
  have a0 := k1.cell' (i := 0) rfl
  rw [hw2] at a0
  go_wp2
  rw [← hw2]; clear hw2 a0 k1
  go_loopw [18] (fun i wr => ∃ i' : Nat, i' ≤ r ∧ i = .int .i64 i' ∧ Blk wr w1.heap.size 62 #[.int .i64 r, .int .i64 d, .slice A L cap] ∧ IntsO wr W.heap.size w1.heap.size (.slice A L cap) (flat r d (muS p c i' 0 f g)) ∧ Below W.heap.size W wr) (fun i _ => r - (intOf i).toNat)
  case atStart => exact ⟨0, Nat.zero_le _, rfl, k4, oZ2, gW2⟩
  case round =>
    clear k4 oZ2 gW2
    obtain ⟨i, hi, rfl, k4, oA, gW⟩ := hrel
    have sW := gW.size
    by_cases hlr : i < r
    · have k1 := K1.out.below gW (by omega)
      have k2 := K2.out.below gW (by omega)
      have a0 := k1.cell' (i := 0) rfl
      have a1 := k1.cell' (i := 1) rfl
      have a2 := k1.cell' (i := 2) rfl
      have b0 := k2.cell' (i := 0) rfl
      have b1 := k2.cell' (i := 1) rfl
      have b2 := k2.cell' (i := 2) rfl
      have gw := G0.out.trans (gW.mono (by omega))
      have hUr : MxR wr w0.heap.size (.agg #[.int .i64 r, .int .i64 c, .slice U UL uc]) (mxF r c f) := MxR.below gw HU.out
      have HUR := Lib.hid hUr
      clear hUr
      go_wp2_with fail
      refine (row_rd _ r c i w0.heap.size f _ HUR.out gw.size hr hc hlr).mono ?_; rintro e w3 ⟨vr, rfl, hR, hb3⟩
      obtain ⟨RA, rc, ev, hrc1, hrc2, _, hR⟩ := hR.open_
      subst ev
      rw [rowF_length] at hR ⊢
      have s3 := hb3.size
      have HR3 := Lib.hid hR
      have k43 := k4.call hb3
      have oA3 := oA.below hb3
      have gW3 := gW.trans (hb3.mono sW)
      clear a0 a1 a2 b0 b1 b2 k1 k2 hR k4 oA gW gw hb3
      go_wp2
      go_loopw [25] (fun k wr => ∃ k' : Nat, k' ≤ c ∧ k = .int .i64 k' ∧ Blk wr w1.heap.size 62 #[.int .i64 r, .int .i64 d, .slice A L cap] ∧ IntsO wr W.heap.size w1.heap.size (.slice A L cap) (flat r d (muS p c i k' f g)) ∧ Below W.heap.size W wr ∧ SlI wr w0.heap.size (.slice RA c rc) (rowF c (f i))) (fun k _ => c - (intOf k).toNat)
      case atStart => exact ⟨0, Nat.zero_le _, rfl, k43, oA3, gW3, HR3.out⟩
      case round =>
        clear k43 oA3 gW3
        obtain ⟨k, hk, rfl, k4, oA, gW, hR⟩ := hrel
        have sW' := gW.size
        by_cases hlc : k < c
        · have hR2 : SlI wr w0.heap.size (.slice RA (rowF c (f i)).length rc) (rowF c (f i)) := by rw [rowF_length]; exact hR
          obtain ⟨b, o, x, rfl, hbl, HXX, x1, _⟩ := SlI.at_ (k := k) hR2 (by rw [rowF_length]; exact hlc)
          have hxx := HXX.out
          rw [rowF_get _ hlc] at hxx
          injection hxx with hxx
          subst hxx
          have hfx := le_pred hp HF.out hlr hlc
          obtain ⟨xk, hx⟩ : ∃ x, f i k = x := ⟨_, rfl⟩
          rw [hx] at x1 hfx
          have HX := Lib.hid hx
          have HRR := Lib.hid hR
          have hOA := Lib.hid oA
          have hK4 := Lib.hid k4
          have hGW := Lib.hid gW
          clear hx hR hR2 HXX oA k4 gW
          go_wp2
          clear x1
          rcases Nat.eq_zero_or_pos d with hd0 | hd0
          · have hL0 : L = 0 := by have := HL.out; rw [hd0, Nat.mul_zero] at this; exact this.symm
            have e0 : ∀ h, flat r d h = [] := fun h => by simp [flat, hd0]
            have E0 := Lib.hid e0
            have HD0 := Lib.hid hd0
            have HL0 := Lib.hid hL0
            have hcap : cap ≤ 9223372036854775807 := by
              obtain ⟨_, cL, eL, lA1, lA2⟩ := (hOA.out).1.form
              injection eL with eLx eLy eL3
              omega
            clear hd0 hL0 e0
            refine wp_region_net (by kernel_rfl) [.eq (.int .i64 p), .eq (.agg #[.int .i64 r, .int .i64 d, .slice A L cap]), .eq (.int .i64 i), rel 3 (fun u lo hi w => ∃ A n m, u = .slice A n m), .eq (.int .i64 xk), .eq (.agg #[.int .i64 c, .int .i64 d, .slice V VL vc]), .eq (.int .i64 k), rel 7 (fun u lo hi w => ∃ A m, m ≤ 9223372036854775807 ∧ u = .slice A d m)] [[], [], [], [1, 2], [], [], [], [1, 2, 3, 5, 6], [0, 1, 2, 3, 4, 5, 6, 7]] 8 (by kernel_rfl) ⟨trivial, trivial, trivial, rel_stable (fun u lo hi w w' h hb => h), trivial, trivial, trivial, rel_stable (fun u lo hi w w' h hb => h), trivial⟩ ⟨?_, ?_, ?_, ?_, ?_, ?_, ?_, ?_, trivial⟩ ?_
            · intro x w hb hk Q' hQ
              clear hk
              simp only [netAct, dstAt, List.getElem?_toArray, List.getElem?_cons_zero, List.getElem?_cons_succ, Option.bind_some, Act.put, List.setIfInBounds_toArray, List.set_cons_zero, List.set_cons_succ] at hQ ⊢
              go_wp2
              exact hQ (.int .i64 p) _ (Below.refl _ _) rfl
            · intro x w hb hk Q' hQ
              clear hk
              simp only [netAct, dstAt, List.getElem?_toArray, List.getElem?_cons_zero, List.getElem?_cons_succ, Option.bind_some, Act.put, List.setIfInBounds_toArray, List.set_cons_zero, List.set_cons_succ] at hQ ⊢
              have kq := hK4.out.call hb
              have z0 := kq.cell' (i := 0) rfl
              have z1 := kq.cell' (i := 1) rfl
              have z2 := kq.cell' (i := 2) rfl
              go_wp2
              exact hQ (.agg #[.int .i64 r, .int .i64 d, .slice A L cap]) _ (Below.refl _ _) rfl
            · intro x w hb hk Q' hQ
              clear hk
              simp only [netAct, dstAt, List.getElem?_toArray, List.getElem?_cons_zero, List.getElem?_cons_succ, Option.bind_some, Act.put, List.setIfInBounds_toArray, List.set_cons_zero, List.set_cons_succ] at hQ ⊢
              go_wp2
              exact hQ (.int .i64 i) _ (Below.refl _ _) rfl
            · intro x w hb hk Q' hQ
              have h1 : x.v 1 = .agg #[.int .i64 r, .int .i64 d, .slice A L cap] := (hk 1 (by decide)).1
              have h2 : x.v 2 = .int .i64 i := (hk 2 (by decide)).1
              clear hk
              simp only [netAct, dstAt, List.getElem?_toArray, List.getElem?_cons_zero, List.getElem?_cons_succ, Option.bind_some, Act.put, List.setIfInBounds_toArray, List.set_cons_zero, List.set_cons_succ] at hQ ⊢
              simp only [h1, h2] at hQ ⊢
              clear h1 h2
              go_wp2_with fail
              refine (row_d0 (r : Int) d L i cap A _ HD0.out HL0.out hcap (by omega)).mono ?_; rintro e w5 ⟨A5, rfl, hb5⟩
              go_wp2
              exact hQ _ _ hb5 ⟨_, _, _, rfl⟩
            · intro x w hb hk Q' hQ
              clear hk
              simp only [netAct, dstAt, List.getElem?_toArray, List.getElem?_cons_zero, List.getElem?_cons_succ, Option.bind_some, Act.put, List.setIfInBounds_toArray, List.set_cons_zero, List.set_cons_succ] at hQ ⊢
              go_wp2
              exact hQ (.int .i64 xk) _ (Below.refl _ _) rfl
            · intro x w hb hk Q' hQ
              clear hk
              simp only [netAct, dstAt, List.getElem?_toArray, List.getElem?_cons_zero, List.getElem?_cons_succ, Option.bind_some, Act.put, List.setIfInBounds_toArray, List.set_cons_zero, List.set_cons_succ] at hQ ⊢
              have kq := (K2.out.below hGW.out (by omega)).call hb
              have z0 := kq.cell' (i := 0) rfl
              have z1 := kq.cell' (i := 1) rfl
              have z2 := kq.cell' (i := 2) rfl
              go_wp2
              exact hQ (.agg #[.int .i64 c, .int .i64 d, .slice V VL vc]) _ (Below.refl _ _) rfl
            · intro x w hb hk Q' hQ
              clear hk
              simp only [netAct, dstAt, List.getElem?_toArray, List.getElem?_cons_zero, List.getElem?_cons_succ, Option.bind_some, Act.put, List.setIfInBounds_toArray, List.set_cons_zero, List.set_cons_succ] at hQ ⊢
              go_wp2
              exact hQ (.int .i64 k) _ (Below.refl _ _) rfl
            · intro x w hb hk Q' hQ
              have h1 : x.v 1 = .agg #[.int .i64 r, .int .i64 d, .slice A L cap] := (hk 1 (by decide)).1
              have h2 : x.v 2 = .int .i64 i := (hk 2 (by decide)).1
              have h3 : ∃ A n m, (x.v 3) = .slice A n m := (hk 3 (by decide)).1
              have h5 : x.v 5 = .agg #[.int .i64 c, .int .i64 d, .slice V VL vc] := (hk 5 (by decide)).1
              have h6 : x.v 6 = .int .i64 k := (hk 6 (by decide)).1
              have s3 := (hk 3 (by decide)).2
              clear hk
              simp only [netAct, dstAt, List.getElem?_toArray, List.getElem?_cons_zero, List.getElem?_cons_succ, Option.bind_some, Act.put, List.setIfInBounds_toArray, List.set_cons_zero, List.set_cons_succ] at hQ ⊢
              simp only [h1, h2, h5, h6] at hQ ⊢
              clear h1 h2 h5 h6
              have gz := (G0.out.trans (hGW.out.mono (by omega))).trans (hb.mono (by omega))
              have HVR := Lib.hid (MxR.below gz HV.out)
              have gzs := gz.size
              clear gz
              go_wp2_with fail
              refine (row_rd _ c d k w0.heap.size g _ HVR.out gzs hc hd hlc).mono ?_; rintro e w5 ⟨v5, rfl, hR5, hb5⟩
              obtain ⟨A5, c5, e5, _, hc5, _⟩ := hR5.open_
              subst e5
              rw [rowF_length]
              go_wp2
              exact hQ _ _ hb5 ⟨_, _, hc5, rfl⟩
            · intro x w hb hk hiv hdj
              have h0 : x.v 0 = .int .i64 p := hk 0 (by decide)
              have h1 : x.v 1 = .agg #[.int .i64 r, .int .i64 d, .slice A L cap] := hk 1 (by decide)
              have h2 : x.v 2 = .int .i64 i := hk 2 (by decide)
              have h3 : ∃ A n m, (x.v 3) = .slice A n m := hk 3 (by decide)
              have h4 : x.v 4 = .int .i64 xk := hk 4 (by decide)
              have h5 : x.v 5 = .agg #[.int .i64 c, .int .i64 d, .slice V VL vc] := hk 5 (by decide)
              have h6 : x.v 6 = .int .i64 k := hk 6 (by decide)
              have h7 : ∃ A m, m ≤ 9223372036854775807 ∧ (x.v 7) = .slice A d m := hk 7 (by decide)
              clear hk
              simp only [netAct, dstAt, List.getElem?_toArray, List.getElem?_cons_zero, List.getElem?_cons_succ, Option.bind_some, Act.put, List.setIfInBounds_toArray, List.set_cons_zero, List.set_cons_succ]
              simp only [List.drop_succ_cons, List.drop_zero, h0, h1, h2, h4, h5, h6]
              clear h0 h1 h2 h4 h5 h6
              obtain ⟨A3, n3, m3, e3⟩ := h3
              obtain ⟨A7, m7, hm7, e7⟩ := h7
              have HB := Lib.hid hb
              have HGW2 := Lib.hid ((hGW.out).trans (hb.mono (by omega)))
              have hR6 := SlI.below (hb.mono (by omega)) HRR.out
              have hA2 := (hOA.out).below hb
              have k46 := (hK4.out).call hb
              rw [E0.out] at hA2
              have HA2 := Lib.hid (show IntsO w W.heap.size w1.heap.size (.slice A L cap) (flat r d (muS p c i (k + 1) f g)) by rw [E0.out]; exact hA2)
              have E3 := Lib.hid e3
              have E7 := Lib.hid e7
              clear hb hiv hdj hA2 e3 e7
              go_wp2_with fail
              refine (addMultiple_d0 p xk _ _ A7 d m7 _ HD0.out ⟨_, _, _, E3.out⟩ E7.out hm7).mono ?_; rintro e w6 ⟨rfl, hww⟩
              replace hww := hww.symm
              subst hww
              go_wp2
              go_roundw
              · exact ⟨k + 1, by omega, by simp, k46, HA2.out, HGW2.out, hR6⟩
              · show c - (k + 1) < c - k
                omega
          · obtain ⟨P, hP⟩ : ∃ P, P = i * d := ⟨_, rfl⟩
            have hrp := rowP hlr hd0 hr hd hP
            rw [HL.out] at hrp
            obtain ⟨gA, cA, eA, q1, q2, q3⟩ := (hOA.out).at_ (by rw [flat_length, HL.out]; omega)
            rw [flat_length, HL.out] at eA
            injection eA with eA1 eA2 eA3
            subst eA1 eA3
            obtain ⟨_, cL, eL, lA1, lA2⟩ := (hOA.out).1.form
            injection eL with eLx eLy eL3
            rw [← eL3, flat_length, HL.out] at lA1
            rw [← eL3] at lA2
            clear eLx eLy eL3
            have q5 : flat r d (muS p c i k f g) = rowF L (fun a => muS p c i k f g (a / d) (a % d)) := by rw [← HL.out]; rfl
            have HP := Lib.hid hP
            clear hP
            refine wp_region_net (by kernel_rfl) [.eq (.int .i64 p), .eq (.agg #[.int .i64 r, .int .i64 d, .slice (some ⟨gA, 0, none⟩) L cap]), .eq (.int .i64 i), .eq (.slice (some ⟨gA, P, none⟩) d (cap - P)), .eq (.int .i64 xk), .eq (.agg #[.int .i64 c, .int .i64 d, .slice V VL vc]), .eq (.int .i64 k), rel 7 (fun u lo hi w => w0.heap.size ≤ w.heap.size ∧ SlI w w0.heap.size u (rowF d (g k)))] [[], [], [], [1, 2], [], [], [], [1, 2, 3, 5, 6], [0, 1, 2, 3, 4, 5, 6, 7]] 8 (by kernel_rfl) ⟨trivial, trivial, trivial, trivial, trivial, trivial, trivial, rel_stable (fun u lo hi w w' ⟨h1, h2⟩ hb => ⟨Nat.le_trans h1 hb.size, SlI.below (hb.mono h1) h2⟩), trivial⟩ ⟨?_, ?_, ?_, ?_, ?_, ?_, ?_, ?_, trivial⟩ ?_
            · intro x w hb hk Q' hQ
              clear hk
              simp only [netAct, dstAt, List.getElem?_toArray, List.getElem?_cons_zero, List.getElem?_cons_succ, Option.bind_some, Act.put, List.setIfInBounds_toArray, List.set_cons_zero, List.set_cons_succ] at hQ ⊢
              go_wp2
              exact hQ (.int .i64 p) _ (Below.refl _ _) rfl
            · intro x w hb hk Q' hQ
              clear hk
              simp only [netAct, dstAt, List.getElem?_toArray, List.getElem?_cons_zero, List.getElem?_cons_succ, Option.bind_some, Act.put, List.setIfInBounds_toArray, List.set_cons_zero, List.set_cons_succ] at hQ ⊢
              have kq := hK4.out.call hb
              have z0 := kq.cell' (i := 0) rfl
              have z1 := kq.cell' (i := 1) rfl
              have z2 := kq.cell' (i := 2) rfl
              go_wp2
              exact hQ (.agg #[.int .i64 r, .int .i64 d, .slice (some ⟨gA, 0, none⟩) L cap]) _ (Below.refl _ _) rfl
            · intro x w hb hk Q' hQ
              clear hk
              simp only [netAct, dstAt, List.getElem?_toArray, List.getElem?_cons_zero, List.getElem?_cons_succ, Option.bind_some, Act.put, List.setIfInBounds_toArray, List.set_cons_zero, List.set_cons_succ] at hQ ⊢
              go_wp2
              exact hQ (.int .i64 i) _ (Below.refl _ _) rfl
            · intro x w hb hk Q' hQ
              have h1 : x.v 1 = .agg #[.int .i64 r, .int .i64 d, .slice (some ⟨gA, 0, none⟩) L cap] := (hk 1 (by decide)).1
              have h2 : x.v 2 = .int .i64 i := (hk 2 (by decide)).1
              clear hk
              simp only [netAct, dstAt, List.getElem?_toArray, List.getElem?_cons_zero, List.getElem?_cons_succ, Option.bind_some, Act.put, List.setIfInBounds_toArray, List.set_cons_zero, List.set_cons_succ] at hQ ⊢
              simp only [h1, h2] at hQ ⊢
              clear h1 h2
              go_wp2_with fail
              refine (row_in (g := gA) _ hlr hd0 hr hd HL.out.symm lA1 lA2 HP.out).mono ?_; rintro e w5 ⟨rfl, hb5⟩
              go_wp2
              exact hQ _ _ hb5 rfl
            · intro x w hb hk Q' hQ
              clear hk
              simp only [netAct, dstAt, List.getElem?_toArray, List.getElem?_cons_zero, List.getElem?_cons_succ, Option.bind_some, Act.put, List.setIfInBounds_toArray, List.set_cons_zero, List.set_cons_succ] at hQ ⊢
              go_wp2
              exact hQ (.int .i64 xk) _ (Below.refl _ _) rfl
            · intro x w hb hk Q' hQ
              clear hk
              simp only [netAct, dstAt, List.getElem?_toArray, List.getElem?_cons_zero, List.getElem?_cons_succ, Option.bind_some, Act.put, List.setIfInBounds_toArray, List.set_cons_zero, List.set_cons_succ] at hQ ⊢
              have kq := (K2.out.below hGW.out (by omega)).call hb
              have z0 := kq.cell' (i := 0) rfl
              have z1 := kq.cell' (i := 1) rfl
              have z2 := kq.cell' (i := 2) rfl
              go_wp2
              exact hQ (.agg #[.int .i64 c, .int .i64 d, .slice V VL vc]) _ (Below.refl _ _) rfl
            · intro x w hb hk Q' hQ
              clear hk
              simp only [netAct, dstAt, List.getElem?_toArray, List.getElem?_cons_zero, List.getElem?_cons_succ, Option.bind_some, Act.put, List.setIfInBounds_toArray, List.set_cons_zero, List.set_cons_succ] at hQ ⊢
              go_wp2
              exact hQ (.int .i64 k) _ (Below.refl _ _) rfl
            · intro x w hb hk Q' hQ
              have h1 : x.v 1 = .agg #[.int .i64 r, .int .i64 d, .slice (some ⟨gA, 0, none⟩) L cap] := (hk 1 (by decide)).1
              have h2 : x.v 2 = .int .i64 i := (hk 2 (by decide)).1
              have h3 : x.v 3 = .slice (some ⟨gA, P, none⟩) d (cap - P) := (hk 3 (by decide)).1
              have h5 : x.v 5 = .agg #[.int .i64 c, .int .i64 d, .slice V VL vc] := (hk 5 (by decide)).1
              have h6 : x.v 6 = .int .i64 k := (hk 6 (by decide)).1
              clear hk
              simp only [netAct, dstAt, List.getElem?_toArray, List.getElem?_cons_zero, List.getElem?_cons_succ, Option.bind_some, Act.put, List.setIfInBounds_toArray, List.set_cons_zero, List.set_cons_succ] at hQ ⊢
              simp only [h1, h2, h3, h5, h6] at hQ ⊢
              clear h1 h2 h3 h5 h6
              have gz := (G0.out.trans (hGW.out.mono (by omega))).trans (hb.mono (by omega))
              have HVR := Lib.hid (MxR.below gz HV.out)
              have gzs := gz.size
              clear gz
              go_wp2_with fail
              refine (row_rd _ c d k w0.heap.size g _ HVR.out gzs hc hd hlc).mono ?_; rintro e w5 ⟨v5, rfl, hR5, hb5⟩
              have h6 := hb5.size
              go_wp2
              exact hQ _ _ hb5 ⟨by omega, hR5⟩
            · intro x w hb hk hiv hdj
              have h0 : x.v 0 = .int .i64 p := hk 0 (by decide)
              have h1 : x.v 1 = .agg #[.int .i64 r, .int .i64 d, .slice (some ⟨gA, 0, none⟩) L cap] := hk 1 (by decide)
              have h2 : x.v 2 = .int .i64 i := hk 2 (by decide)
              have h3 : x.v 3 = .slice (some ⟨gA, P, none⟩) d (cap - P) := hk 3 (by decide)
              have h4 : x.v 4 = .int .i64 xk := hk 4 (by decide)
              have h5 : x.v 5 = .agg #[.int .i64 c, .int .i64 d, .slice V VL vc] := hk 5 (by decide)
              have h6 : x.v 6 = .int .i64 k := hk 6 (by decide)
              have h7 : w0.heap.size ≤ w.heap.size ∧ SlI w w0.heap.size (x.v 7) (rowF d (g k)) := hk 7 (by decide)
              clear hk
              simp only [netAct, dstAt, List.getElem?_toArray, List.getElem?_cons_zero, List.getElem?_cons_succ, Option.bind_some, Act.put, List.setIfInBounds_toArray, List.set_cons_zero, List.set_cons_succ]
              simp only [List.drop_succ_cons, List.drop_zero, h0, h1, h2, h3, h4, h5, h6]
              clear h0 h1 h2 h3 h4 h5 h6
              obtain ⟨h71, h72⟩ := h7
              have HB := Lib.hid hb
              have HGW2 := Lib.hid ((hGW.out).trans (hb.mono (by omega)))
              have hbs := hb.size
              have hA' := hOA.out
              rw [q5] at hA'
              have hA2 := hA'.below hb
              have hPd : P + d ≤ L := by rw [← HL.out]; exact (rowP hlr hd0 hr hd HP.out).2.1
              have hrng : ∀ a, a < L → 0 ≤ muS p c i k f g (a / d) (a % d) ∧ muS p c i k f g (a / d) (a % d) ≤ 4 := fun a _ => by
                have := muS_rng (p := p) hp.1 c i k f g (a / d) (a % d)
                omega
              have hrg : ∀ b, b < d → 0 ≤ g k b ∧ g k b ≤ 4 := fun b hb => le_pred hp HG.out hlc hb
              have HRNG := Lib.hid hrng
              have HRG := Lib.hid hrg
              have HK6 := Lib.hid ((hK4.out).call hb)
              clear hA' hb hiv hdj hrng hrg
              go_wp2_with fail
              refine (addMultiple_own p xk gA P d L cap (cap - P) W.heap.size w1.heap.size (fun a => muS p c i k f g (a / d) (a % d)) (g k) _ _ hp (by omega) hA2 ⟨q1, q2⟩ hPd (by omega) ⟨by omega, by omega⟩ (by omega) (SlI.up (by omega) h72) HRNG.out HRG.out).mono ?_; rintro e w6 ⟨rfl, hO5, hc5, hs5⟩
              rw [← HX.out, HP.out, ← HL.out, mu_step, HL.out] at hO5
              have hO5' := hO5
              have k46 := (HK6.out).chg hc5 (.inr (Nat.le_refl _))
              have gW6 := (HGW2.out).trans (hc5.below (Nat.le_refl _) (by omega))
              have hR6 := SlI.below (((HB.out).mono (by omega)).trans (hc5.below (by omega) (by omega))) HRR.out
              clear hO5
              go_wp2
              go_roundw
              · exact ⟨k + 1, by omega, by simp, k46, hO5', gW6, hR6⟩
              · show c - (k + 1) < c - k
                omega
        · have hk' : k = c := by omega
          subst hk'
          rw [muS_next] at oA
          go_wp2
          go_roundw
          · exact ⟨i + 1, by omega, by simp, k4, oA, gW⟩
          · show r - (i + 1) < r - i
            omega
    · have hi' : i = r := by omega
      subst hi'
      rw [muS_end] at oA
      have k3' := (K3.out).below gW (by have := SZ.out; omega)
      have hlt := k4.lt
      have z0 := k4.cell' (i := 0) rfl
      have z1 := k4.cell' (i := 1) rfl
      have z2 := k4.cell' (i := 2) rfl
      have p0 := k3'.cell' (i := 0) rfl
      have p1 := k3'.cell' (i := 1) rfl
      have p2 := k3'.cell' (i := 2) rfl
      have f2 := k3'.frozen
      have h2 := chg3 wr (w0.heap.size + 1 + 1) (.int .i64 (i : Int)) (.int .i64 d) (.slice A L cap)
      have gw : Below w0.heap.size w0 wr := (G0.out).trans (gW.mono (G0.out).size)
      have gs := gw.size
      have oA2 := (oA.chg h2 (.inr (by have := SZ.out; omega))).wider (lo' := w0.heap.size) (hi' := wr.heap.size) (by have := SZ.out; omega) (by omega)
      have fg := gw.trans (h2.below (by omega) gs)
      have OA2 := Lib.hid oA2
      have FG := Lib.hid fg
      clear oA oA2 fg gw h2 k3' k4 gW
      go_wp2
      exact bodyPost_ret (v := .agg #[.int .i64 (i : Int), .int .i64 d, .slice A L cap]) (by simp [results, go_sem, p0, p1, p2]) rfl ⟨_, rfl, ⟨_, rfl, (OA2.out).wider (Nat.le_refl _) (by simp), hr1, hr2⟩, FG.out⟩
end Go.Proofs.YtgabmemalaklbaaGreat

/- RankTable: the program's. -/
namespace Go.Proofs.YtgabmemalaklbaaGreat
set_option linter.unusedVariables false
set_option linter.unusedSimpArgs false
open Go.RowKit

set_option maxHeartbeats 6400000 in
set_option maxRecDepth 100000 in
theorem implRankTable_no (u : Value) (x : Rp) (w0 : World) (hu : RpR w0 w0.heap.size u x) (hno : okL x = false) :
    Calls Tryz.prog 50 #[u] w0 fun e w' => ∃ v, e = .returned (.tuple #[v, .bool (rtM x).2]) ∧ IntssO w' w0.heap.size w'.heap.size v (rtM x).1 ∧ Below w0.heap.size w0 w' := by
  have hu' := hu
  obtain ⟨A, a, C, c, E, e, H, h, rfl, hq, hd, hm, hp, ld, lm⟩ := hu.open_
  clear hu hd hm
  obtain ⟨W, hW⟩ : ∃ W, W = w0.alloc (.cells #[.int .i64 x.p, .int .i64 x.q.v, .slice A x.q.f.length a, .slice C x.q.t.length c, .slice E x.d.length e, .slice H x.m.length h] 34) := ⟨_, rfl⟩
  have g0 : Below w0.heap.size w0 W := by rw [hW]; exact below_alloc _ _
  have kB : Blk W w0.heap.size 34 #[.int .i64 x.p, .int .i64 x.q.v, .slice A x.q.f.length a, .slice C x.q.t.length c, .slice E x.d.length e, .slice H x.m.length h] := by rw [hW]; exact Blk.new _ _ _
  have HXR := Lib.hid (RpR.next g0 hu')
  have HF := Lib.hid (show rtM x = ([], false) by rw [rtM, if_neg (by simp [hno])])
  have HQ := Lib.hid (QvR.next g0 hq)
  rcases h1 : isRep x with _ | _
  · have H1 := Lib.hid h1
    clear h1 hu' hq
    have c0 := kB.cell' (i := 0) rfl
    have c1 := kB.cell' (i := 1) rfl
    have c2 := kB.cell' (i := 2) rfl
    have c3 := kB.cell' (i := 3) rfl
    have c4 := kB.cell' (i := 4) rfl
    have c5 := kB.cell' (i := 5) rfl
    go_enter Tryz.func50, Tryz.ntmps50
    go_wp2_with fail
    rw [← hW]; clear hW
    refine (implIsRep_any _ x _ HXR.out).mono ?_; rintro e w1 ⟨rfl, hb1⟩
    rw [H1.out]
    have g1 := bthen g0 hb1
    clear c0 c1 c2 c3 c4 c5 hb1 kB
    go_wp2
    go_ret2
    exact ⟨.slice none 0 0, by rw [HF.out]; rfl, by rw [HF.out]; exact IntssO.nil _ _ _, g1⟩
  · have H1 := Lib.hid h1
    have H2 := Lib.hid (show isL x.q = false by simpa [okL, h1] using hno)
    clear h1 hu' hq hno
    have c0 := kB.cell' (i := 0) rfl
    have c1 := kB.cell' (i := 1) rfl
    have c2 := kB.cell' (i := 2) rfl
    have c3 := kB.cell' (i := 3) rfl
    have c4 := kB.cell' (i := 4) rfl
    have c5 := kB.cell' (i := 5) rfl
    go_enter Tryz.func50, Tryz.ntmps50
    go_wp2_with fail
    rw [← hW]; clear hW
    refine (implIsRep_any _ x _ HXR.out).mono ?_; rintro e w1 ⟨rfl, hb1⟩
    rw [H1.out]
    have g1 := bthen g0 hb1
    have kB1 := kB.call hb1
    have HQ1 := Lib.hid (QvR.next hb1 HQ.out)
    clear c0 c1 c2 c3 c4 c5 hb1 kB g0
    have c0 := kB1.cell' (i := 0) rfl
    have c1 := kB1.cell' (i := 1) rfl
    have c2 := kB1.cell' (i := 2) rfl
    have c3 := kB1.cell' (i := 3) rfl
    have c4 := kB1.cell' (i := 4) rfl
    have c5 := kB1.cell' (i := 5) rfl
    go_wp2_with fail
    refine (implIsLine_any _ x.q _ HQ1.out).mono ?_; rintro e w2 ⟨rfl, hb2⟩
    rw [H2.out]
    have g2 := bthen g1 hb2
    clear c0 c1 c2 c3 c4 c5 hb2 kB1 g1
    go_wp2
    go_ret2
    exact ⟨.slice none 0 0, by rw [HF.out]; rfl, by rw [HF.out]; exact IntssO.nil _ _ _, g2⟩

set_option maxHeartbeats 6400000 in
set_option maxRecDepth 100000 in
theorem implRankTable_yes (u : Value) (x : Rp) (w0 : World) (hu : RpR w0 w0.heap.size u x) (hok : okL x = true) :
    Calls Tryz.prog 50 #[u] w0 fun e w' => ∃ v, e = .returned (.tuple #[v, .bool (rtM x).2]) ∧ IntssO w' w0.heap.size w'.heap.size v (rtM x).1 ∧ Below w0.heap.size w0 w' := by
  have hu' := hu
  obtain ⟨A, a, C, c, E, e, H, h, rfl, hq, hd, hm, hp, ld, lm⟩ := hu.open_
  clear hu lm
  obtain ⟨W, hW⟩ : ∃ W, W = w0.alloc (.cells #[.int .i64 x.p, .int .i64 x.q.v, .slice A x.q.f.length a, .slice C x.q.t.length c, .slice E x.d.length e, .slice H x.m.length h] 34) := ⟨_, rfl⟩
  have g0 : Below w0.heap.size w0 W := by rw [hW]; exact below_alloc _ _
  have kB : Blk W w0.heap.size 34 #[.int .i64 x.p, .int .i64 x.q.v, .slice A x.q.f.length a, .slice C x.q.t.length c, .slice E x.d.length e, .slice H x.m.length h] := by rw [hW]; exact Blk.new _ _ _
  have HXR := Lib.hid (RpR.next g0 hu')
  have HQ1 := Lib.hid (QvR.next g0 hq)
  clear hu'
  obtain ⟨h1, h2, h3, l1, l5, lm, hds, hms⟩ := okL_t hok
  have hpr := isFld_r h3
  have HF := Lib.hid (show rtM x = (matF x.d.length (rtF x), true) by rw [rtM, if_pos hok])
  have H1 := Lib.hid h1
  have H2 := Lib.hid h2
  have H3 := Lib.hid h3
  have HDS := Lib.hid hds
  have HMS := Lib.hid hms
  have HDA := Lib.hid (dN_all hok)
  have HQ := Lib.hid hq
  have HM := Lib.hid hm
  have HD := Lib.hid hd
  have LM := Lib.hid lm
  clear h1 h2 h3 hds hms hok hq hm hd lm
  obtain ⟨bd, od, ed, hbd⟩ : ∃ b o, E = some ⟨b, o, none⟩ ∧ b < w0.heap.size := by
    obtain ⟨b, o, _, h1, h2, _⟩ := SlI.at_ (k := 0) HD.out (by omega)
    exact ⟨b, o, h1, h2⟩
  subst ed
  have c0 := kB.cell' (i := 0) rfl
  have c1 := kB.cell' (i := 1) rfl
  have c2 := kB.cell' (i := 2) rfl
  have c3 := kB.cell' (i := 3) rfl
  have c4 := kB.cell' (i := 4) rfl
  have c5 := kB.cell' (i := 5) rfl
  go_enter Tryz.func50, Tryz.ntmps50
  go_wp2_with fail
  rw [← hW]; clear hW
  refine (implIsRep_any _ x _ HXR.out).mono ?_; rintro e w1 ⟨rfl, hb1⟩
  rw [H1.out]
  have g1 := bthen g0 hb1
  have kB1 := kB.call hb1
  have HQ2 := Lib.hid (QvR.next hb1 HQ1.out)
  clear c0 c1 c2 c3 c4 c5 hb1 kB g0
  have c0 := kB1.cell' (i := 0) rfl
  have c1 := kB1.cell' (i := 1) rfl
  have c2 := kB1.cell' (i := 2) rfl
  have c3 := kB1.cell' (i := 3) rfl
  have c4 := kB1.cell' (i := 4) rfl
  have c5 := kB1.cell' (i := 5) rfl
  go_wp2_with fail
  refine (implIsLine_any _ x.q _ HQ2.out).mono ?_; rintro e w2 ⟨rfl, hb2⟩
  rw [H2.out]
  have g2 := bthen g1 hb2
  have kB2 := kB1.call hb2
  clear c0 c1 c2 c3 c4 c5 hb2 kB1 g1
  obtain ⟨w3, hw3⟩ : ∃ u, u = w2.alloc (.cells (mkCells (.slice none 0 0) x.d.length) 24) := ⟨_, rfl⟩
  have b3 : Below w2.heap.size w2 w3 := by rw [hw3]; exact below_alloc _ _
  have iO : IntssO w3 w2.heap.size w3.heap.size (.slice (some ⟨w2.heap.size, 0, none⟩) x.d.length x.d.length) (rtA x.d.length (rtF x) 0) := by rw [hw3, rtA_0]; exact IntssO.made w2 (Nat.le_refl _) (by omega)
  have kB3 := kB2.call b3
  have g3 := bthen g2 b3
  have sg2 := g2.size
  have kBlt := kB2.lt
  have s23 : w2.heap.size < w3.heap.size := by rw [hw3]; simp
  have p2 := kB2.cell' (i := 4) rfl
  clear kB2 g2
  have hmk2 := run_mkII w2 (n := x.d.length) (by omega)
  rw [← hw3] at hmk2
  have c2 := kB3.cell' (i := 4) rfl
  clear hw3
  go_wp2
  clear hmk2 p2 c2
  go_loopw [25] (fun i wr => ∃ v : Nat, v ≤ x.d.length ∧ i = .int .i64 v ∧ Below w2.heap.size w3 wr ∧ IntssO wr w2.heap.size wr.heap.size (.slice (some ⟨w2.heap.size, 0, none⟩) x.d.length x.d.length) (rtA x.d.length (rtF x) v)) (fun i _ => x.d.length - (intOf i).toNat)
  case atStart => exact ⟨0, Nat.zero_le _, rfl, Below.refl _ _, iO⟩
  case round =>
    clear iO
    obtain ⟨v, hv, rfl, hbel, hO⟩ := hrel
    have ws := hbel.size
    have kBr := kB3.below hbel (by omega)
    have gw := g3.trans (hbel.mono (by omega))
    by_cases hlt : v < x.d.length
    · obtain ⟨bd', od', D0, ed, hbd', HX, x1, _⟩ := SlI.at_ (k := v) HD.out hlt
      injection ed with ed
      injection ed with ed1 ed2
      subst ed1 ed2
      have hx := HX.out
      rw [(HDS.out v hlt).1] at hx
      injection hx with hx
      subst hx
      have hDv := HDA.out v
      have x2 := bcell gw hbd x1
      obtain ⟨X, hX⟩ : ∃ u, u = wr.alloc (.cells (mkCells (.int .i64 0) x.d.length) 3) := ⟨_, rfl⟩
      have hmkX := run_mkI wr (n := x.d.length) (by omega)
      rw [← hX] at hmkX
      have bX : Below wr.heap.size wr X := by rw [hX]; exact below_alloc _ _
      have rX : IntsO X wr.heap.size X.heap.size (.slice (some ⟨wr.heap.size, 0, none⟩) x.d.length x.d.length) (List.replicate x.d.length 0) := by
        rw [hX]
        exact IntsO.of_own (OwnI.made0 (Nat.le_refl _) (by omega))
      have sX : X.heap.size = wr.heap.size + 1 := by rw [hX]; simp
      have hOX := hO.below bX
      obtain ⟨u0, y1, _, y2⟩ := hOX.row (j := v) (l := []) (by rw [rtA, List.getElem?_map, List.getElem?_range hlt]; simp)
      have y3 := (rX.1.cellG (j := v) (by simpa using hlt)).1
      have y4 := rX.1.frozenG v
      have st1 := hOX.setRow (j := v) (by rw [rtA_length]; exact hlt) rX (Nat.le_refl _) (by omega) (by omega)
      rw [rtA_set] at st1
      have st2 := st1.1.put (i := v) (x := rtF x v v) (rtBB_get (rtF x) 0 hlt) (World.cell?_setCell_same _ _ _ y1) (by have := rtF_rng HDA.out v v; constructor <;> omega)
      rw [rtR_diag (rtF x) (fun w hw => rtF_low x hw), rtBB_set, rtF_diag H3.out] at st2
      obtain ⟨Z, hZ⟩ : ∃ u, u = (X.setCell ⟨w2.heap.size, v, none⟩ (.slice (some ⟨wr.heap.size, 0, none⟩) x.d.length x.d.length)).setCell ⟨wr.heap.size, v, none⟩ (.int .i64 (dN x v)) := ⟨_, rfl⟩
      have hOZ : IntssO Z w2.heap.size X.heap.size (.slice (some ⟨w2.heap.size, 0, none⟩) x.d.length x.d.length) (rtBB x.d.length (rtF x) v (v + 1)) := by rw [hZ]; exact st2.1
      have sZ : Z.heap.size = wr.heap.size + 1 := by rw [hZ]; simpa using sX
      have bZ : Below w2.heap.size w3 Z := by
        rw [hZ]
        exact (hbel.trans (bX.mono (by omega))).trans ((st1.2.below (Nat.le_refl _) (by omega)).trans (below_grown st2.2 (fun k hk => by injection hk with hk; omega) (by simp; omega)))
      have rZ : Z.cell? ⟨w2.heap.size, v, none⟩ = some (.slice (some ⟨wr.heap.size, 0, none⟩) x.d.length x.d.length) := by
        rw [hZ, World.cell?_setCell_far _ _ _ _ (show wr.heap.size ≠ w2.heap.size by omega)]
        exact World.cell?_setCell_same _ _ _ y1
      have p2 := kBr.cell' (i := 4) rfl
      have HOZ := Lib.hid hOZ
      have BZ := Lib.hid bZ
      have RZ := Lib.hid rZ
      have q2 := (kBr.call bX).cell' (i := 4) rfl
      clear hO hOX st1 st2 rX bX hX hbel HX x1 hOZ bZ rZ
      go_wp2_with fail
      rw [← hZ]; clear hZ hmkX y1 y2 y3 y4 p2 q2 x2
      refine (identity_any (dN x v) _ (by omega)).mono ?_; rintro e w4 ⟨m4, rfl, hI, hb4⟩
      obtain ⟨MA, mc, em⟩ := hI.form
      subst em
      simp only [mxF, flat_length] at hI ⊢
      obtain ⟨MN, hMN⟩ : ∃ z, dN x v * dN x v = z := ⟨_, rfl⟩
      rw [hMN] at hI ⊢
      obtain ⟨s4, es, oI, _, _⟩ := hI
      simp only [Value.agg.injEq, Array.mk.injEq, List.cons.injEq, and_true, true_and] at es
      subst es
      obtain ⟨w5, hw5⟩ : ∃ u, u = w4.alloc (.cells #[.int .i64 (dN x v), .int .i64 (dN x v), .slice MA MN mc] 62) := ⟨_, rfl⟩
      have b5 : Below w4.heap.size w4 w5 := by rw [hw5]; exact below_alloc _ _
      have k5 : Blk w5 w4.heap.size 62 #[.int .i64 (dN x v), .int .i64 (dN x v), .slice MA MN mc] := by rw [hw5]; exact Blk.new _ _ _
      have b45 := bthen hb4 b5
      have s45 := b45.size
      have s4 := hb4.size
      have s5 : w5.heap.size = w4.heap.size + 1 := by rw [hw5]; simp
      have oI5 : IntsO w5 Z.heap.size w4.heap.size (.slice MA MN mc) (flat (dN x (v + 0)) (dN x v) (pdF x v 0)) := by
        have := oI.below b5
        exact this
      have hO5 := HOZ.out.below b45
      have B5 := BZ.out.trans (b45.mono (by omega))
      have r5 := bcell b45 (by omega) RZ.out
      obtain ⟨G, hG⟩ : ∃ z, z = wr.heap.size := ⟨_, rfl⟩
      rw [← hG] at r5 sZ sX
      have hG2 : w2.heap.size < G := by omega
      clear hG
      clear oI b5 hb4 hMN b45
      go_wp2
      rw [← hw5]; clear hw5
      go_loopw [8] (fun i wr => ∃ (n NN K : Nat) (MA : Option Addr) (mc : Nat), v + 1 + n ≤ x.d.length ∧ i = .int .i64 (K : Int) ∧ Hid (K = v + 1 + n) ∧ Below w2.heap.size w3 wr ∧ w5.heap.size ≤ wr.heap.size ∧ IntssO wr w2.heap.size Z.heap.size (.slice (some ⟨w2.heap.size, 0, none⟩) x.d.length x.d.length) (rtBB x.d.length (rtF x) v (v + 1 + n)) ∧
        wr.cell? ⟨w2.heap.size, v, none⟩ = some (.slice (some ⟨G, 0, none⟩) x.d.length x.d.length) ∧
        Blk wr w4.heap.size 62 #[.int .i64 (dN x (v + n)), .int .i64 (dN x v), .slice MA NN mc] ∧ IntsO wr Z.heap.size wr.heap.size (.slice MA NN mc) (flat (dN x (v + n)) (dN x v) (pdF x v n))) (fun i _ => x.d.length - (intOf i).toNat)
      case atStart => exact ⟨0, MN, v + 1, MA, mc, by omega, by simp, rfl, B5, Nat.le_refl _, hO5.wider (Nat.le_refl _) (by omega), r5, k5, oI5.wider (Nat.le_refl _) (by omega)⟩
      case round =>
        clear hO5 r5 k5 oI5 B5 ws kBr gw
        obtain ⟨n, NN, K, MA, mc, hn, rfl, HK, hbel, hs, hO, hr, k5, oM⟩ := hrel
        have kBr := kB3.below hbel (by omega)
        have gw := g3.trans (hbel.mono (by omega))
        have k4 := kBr.cell' (i := 4) rfl
        have hK1 : K ≤ v + 1 + n := Nat.le_of_eq HK.out
        have hK2 : v + 1 + n ≤ K := Nat.le_of_eq HK.out.symm
        by_cases hlw : K < x.d.length
        · obtain ⟨J, hJ⟩ : ∃ z, z = v + n := ⟨_, rfl⟩
          have hJ1 : J + 1 ≤ K := by omega
          have hJ2 : K ≤ J + 1 := by omega
          obtain ⟨hm1, hm2⟩ := HMS.out (v + n) (by omega)
          have hml : v + n < x.m.length := by have := LM.out; omega
          obtain ⟨bm, om, m1, A1, c1', eH, hbm, HM1, z0, z1, z2, hs1, i1, i2, _⟩ := SlM.at_ (k := v + n) HM.out hml
          subst eH
          have em1 := HM1.out
          rw [hm1] at em1
          injection em1 with em1
          subst em1
          have hMB : MxR w0 w0.heap.size (.agg #[.int .i64 (dN x (v + n + 1)), .int .i64 (dN x (v + n)), .slice A1 (flat (dN x (v + n + 1)) (dN x (v + n)) (mpF x (v + n))).length c1']) (mxF (dN x (v + n + 1)) (dN x (v + n)) (mpF x (v + n))) := ⟨_, rfl, hs1, i1, i2⟩
          simp only [mxF, flat_length] at hMB z0 z1 z2
          obtain ⟨ML, hML⟩ : ∃ z, dN x (v + n + 1) * dN x (v + n) = z := ⟨_, rfl⟩
          rw [hML] at hMB z2
          obtain ⟨y, hy⟩ : ∃ y, y = x := ⟨_, rfl⟩
          subst hy
          obtain ⟨D0, hD0⟩ : ∃ z, dN y v = z := ⟨_, rfl⟩
          obtain ⟨D1, hD1⟩ : ∃ z, dN y (v + n) = z := ⟨_, rfl⟩
          obtain ⟨D2, hD2⟩ : ∃ z, dN y (v + n + 1) = z := ⟨_, rfl⟩
          have inP := pdF_inF H3.out v n
          have inP1 := pdF_inF H3.out v (n + 1)
          have hp1 : pdF y v (n + 1) = muP y.p D1 (mpF y (v + n)) (pdF y v n) := by rw [pdF, hD1]
          have hrt : rtF y v K = (rkF y.p D2 D0 (pdF y v (n + 1)) : Int) := by
            rw [rtF, if_neg (by omega), show K - v = n + 1 by omega, show K = v + n + 1 by omega, hD2, hD0]
          have hd0 := HDA.out v
          have hd1 := HDA.out (v + n)
          have hd2 := HDA.out (v + n + 1)
          rw [hD0] at oM k5 hd0 inP inP1
          rw [hD1] at oM k5 hd1 inP hm2 hMB z1
          rw [hD2] at hd2 hm2 hMB z0
          rw [show v + (n + 1) = v + n + 1 from rfl, hD2, hp1] at inP1
          rw [← hJ] at z0 z1 z2
          have HJ := Lib.hid hJ
          have hJm : J < y.m.length := by omega
          have HP1 := Lib.hid hp1
          have HRT := Lib.hid hrt
          have HMB := Lib.hid hMB
          have HIN1 := Lib.hid hm2
          have HINP := Lib.hid inP
          have HINP1 := Lib.hid inP1
          have HOM := Lib.hid oM
          have HBEL := Lib.hid hbel
          have HOO := Lib.hid hO
          have HGW := Lib.hid gw
          have gws := gw.size
          have HD2 := Lib.hid hD2
          have HD0 := Lib.hid hD0
          have k0 := kBr.cell' (i := 0) rfl
          clear hm1 hm2 hml hs1 i1 i2 HM1 hMB hML hD0 hD1 hD2 inP inP1 hp1 hrt oM hbel hO gw k0 hJ
          go_wp2
          clear k4
          refine wp_region_net (by kernel_rfl) [.eq (.pointer (some ⟨w0.heap.size, 0, none⟩)), .eq (.int .i64 y.p), .eq (.pointer (some ⟨w0.heap.size, 5, none⟩)), .eq (.slice (some ⟨bm, om, none⟩) y.m.length h), .eq (.int .i64 (K : Int)), .eq (.int .i64 (J : Int)), .eq (.pointer (some ⟨bm, om + J * 3, none⟩)), .eq (.agg #[.int .i64 D2, .int .i64 D1, .slice A1 ML c1']), .eq (.agg #[.int .i64 D1, .int .i64 D0, .slice MA NN mc]), rel 9 (fun u lo hi w => MxO w lo hi u (mxF D2 D0 (muP y.p D1 (mpF y (v + n)) (pdF y v n))))] [[], [0], [], [2], [], [4], [2, 3, 4, 5], [2, 3, 4, 5, 6], [], [0, 1, 2, 3, 4, 5, 6, 7, 8], [0, 1, 2, 3, 4, 5, 6, 7, 8, 9]] 10 (by kernel_rfl) ⟨trivial, trivial, trivial, trivial, trivial, trivial, trivial, trivial, trivial, rel_stable (fun u lo hi w w' h hb => h.below hb), trivial⟩ ⟨?_, ?_, ?_, ?_, ?_, ?_, ?_, ?_, ?_, ?_, trivial⟩ ?_
          · intro x w hb hk Q' hQ
            clear hk
            simp only [netAct, dstAt, List.getElem?_toArray, List.getElem?_cons_zero, List.getElem?_cons_succ, Option.bind_some, Act.put, List.setIfInBounds_toArray, List.set_cons_zero, List.set_cons_succ] at hQ ⊢
            go_wp2
            exact hQ (.pointer (some ⟨w0.heap.size, 0, none⟩)) _ (Below.refl _ _) rfl
          · intro x w hb hk Q' hQ
            have h0 : x.v 0 = .pointer (some ⟨w0.heap.size, 0, none⟩) := (hk 0 (by decide)).1
            clear hk
            simp only [netAct, dstAt, List.getElem?_toArray, List.getElem?_cons_zero, List.getElem?_cons_succ, Option.bind_some, Act.put, List.setIfInBounds_toArray, List.set_cons_zero, List.set_cons_succ] at hQ ⊢
            simp only [h0] at hQ ⊢
            clear h0
            have q0 := (kBr.call hb).cell' (i := 0) rfl
            go_wp2
            exact hQ (.int .i64 y.p) _ (Below.refl _ _) rfl
          · intro x w hb hk Q' hQ
            clear hk
            simp only [netAct, dstAt, List.getElem?_toArray, List.getElem?_cons_zero, List.getElem?_cons_succ, Option.bind_some, Act.put, List.setIfInBounds_toArray, List.set_cons_zero, List.set_cons_succ] at hQ ⊢
            go_wp2
            exact hQ (.pointer (some ⟨w0.heap.size, 5, none⟩)) _ (Below.refl _ _) rfl
          · intro x w hb hk Q' hQ
            have h2 : x.v 2 = .pointer (some ⟨w0.heap.size, 5, none⟩) := (hk 2 (by decide)).1
            clear hk
            simp only [netAct, dstAt, List.getElem?_toArray, List.getElem?_cons_zero, List.getElem?_cons_succ, Option.bind_some, Act.put, List.setIfInBounds_toArray, List.set_cons_zero, List.set_cons_succ] at hQ ⊢
            simp only [h2] at hQ ⊢
            clear h2
            have q0 := (kBr.call hb).cell' (i := 5) rfl
            go_wp2
            exact hQ (.slice (some ⟨bm, om, none⟩) y.m.length h) _ (Below.refl _ _) rfl
          · intro x w hb hk Q' hQ
            clear hk
            simp only [netAct, dstAt, List.getElem?_toArray, List.getElem?_cons_zero, List.getElem?_cons_succ, Option.bind_some, Act.put, List.setIfInBounds_toArray, List.set_cons_zero, List.set_cons_succ] at hQ ⊢
            go_wp2
            exact hQ (.int .i64 (K : Int)) _ (Below.refl _ _) rfl
          · intro x w hb hk Q' hQ
            have h4 : x.v 4 = .int .i64 (K : Int) := (hk 4 (by decide)).1
            clear hk
            simp only [netAct, dstAt, List.getElem?_toArray, List.getElem?_cons_zero, List.getElem?_cons_succ, Option.bind_some, Act.put, List.setIfInBounds_toArray, List.set_cons_zero, List.set_cons_succ] at hQ ⊢
            simp only [h4] at hQ ⊢
            clear h4
            go_wp2
            rw [show (K : Int) - 1 = (J : Int) by omega]
            exact hQ (.int .i64 (J : Int)) _ (Below.refl _ _) rfl
          · intro x w hb hk Q' hQ
            have h3 : x.v 3 = .slice (some ⟨bm, om, none⟩) y.m.length h := (hk 3 (by decide)).1
            have h5 : x.v 5 = .int .i64 (J : Int) := (hk 5 (by decide)).1
            clear hk
            simp only [netAct, dstAt, List.getElem?_toArray, List.getElem?_cons_zero, List.getElem?_cons_succ, Option.bind_some, Act.put, List.setIfInBounds_toArray, List.set_cons_zero, List.set_cons_succ] at hQ ⊢
            simp only [h3, h5] at hQ ⊢
            clear h3 h5
            go_wp2
            exact hQ (.pointer (some ⟨bm, om + J * 3, none⟩)) _ (Below.refl _ _) rfl
          · intro x w hb hk Q' hQ
            have h6 : x.v 6 = .pointer (some ⟨bm, om + J * 3, none⟩) := (hk 6 (by decide)).1
            clear hk
            simp only [netAct, dstAt, List.getElem?_toArray, List.getElem?_cons_zero, List.getElem?_cons_succ, Option.bind_some, Act.put, List.setIfInBounds_toArray, List.set_cons_zero, List.set_cons_succ] at hQ ⊢
            simp only [h6] at hQ ⊢
            clear h6
            have gq := (HGW.out).trans (hb.mono (HGW.out).size)
            have q0 := bcell gq hbm z0
            have q1 := bcell gq hbm z1
            have q2 := bcell gq hbm z2
            go_wp2
            exact hQ (.agg #[.int .i64 D2, .int .i64 D1, .slice A1 ML c1']) _ (Below.refl _ _) rfl
          · intro x w hb hk Q' hQ
            clear hk
            simp only [netAct, dstAt, List.getElem?_toArray, List.getElem?_cons_zero, List.getElem?_cons_succ, Option.bind_some, Act.put, List.setIfInBounds_toArray, List.set_cons_zero, List.set_cons_succ] at hQ ⊢
            have kq := k5.call hb
            have q0 := kq.cell' (i := 0) rfl
            have q1 := kq.cell' (i := 1) rfl
            have q2 := kq.cell' (i := 2) rfl
            go_wp2
            exact hQ (.agg #[.int .i64 D1, .int .i64 D0, .slice MA NN mc]) _ (Below.refl _ _) rfl
          · intro x w hb hk Q' hQ
            have h0 : x.v 0 = .pointer (some ⟨w0.heap.size, 0, none⟩) := (hk 0 (by decide)).1
            have h1 : x.v 1 = .int .i64 y.p := (hk 1 (by decide)).1
            have h2 : x.v 2 = .pointer (some ⟨w0.heap.size, 5, none⟩) := (hk 2 (by decide)).1
            have h3 : x.v 3 = .slice (some ⟨bm, om, none⟩) y.m.length h := (hk 3 (by decide)).1
            have h4 : x.v 4 = .int .i64 (K : Int) := (hk 4 (by decide)).1
            have h5 : x.v 5 = .int .i64 (J : Int) := (hk 5 (by decide)).1
            have h6 : x.v 6 = .pointer (some ⟨bm, om + J * 3, none⟩) := (hk 6 (by decide)).1
            have h7 : x.v 7 = .agg #[.int .i64 D2, .int .i64 D1, .slice A1 ML c1'] := (hk 7 (by decide)).1
            have h8 : x.v 8 = .agg #[.int .i64 D1, .int .i64 D0, .slice MA NN mc] := (hk 8 (by decide)).1
            clear hk
            simp only [netAct, dstAt, List.getElem?_toArray, List.getElem?_cons_zero, List.getElem?_cons_succ, Option.bind_some, Act.put, List.setIfInBounds_toArray, List.set_cons_zero, List.set_cons_succ] at hQ ⊢
            simp only [h0, h1, h2, h3, h4, h5, h6, h7, h8] at hQ ⊢
            clear h0 h1 h2 h3 h4 h5 h6 h7 h8
            have gq := (HGW.out).trans (hb.mono (HGW.out).size)
            have HMR := Lib.hid (MxR.more gq.size (MxR.below gq HMB.out))
            have hM := (HOM.out.below hb).rd
            have HMM : Hid (MxR w w.heap.size (.agg #[.int .i64 D1, .int .i64 D0, .slice MA NN mc]) (mxF D1 D0 (pdF y v n))) := ⟨_, rfl, hM, by constructor <;> simp [mxF] <;> omega, by constructor <;> simp [mxF] <;> omega⟩
            clear gq hM
            go_wp2_with fail
            refine (times_any y.p _ _ D2 D1 D0 _ _ _ hpr (by omega) (by omega) (by omega) HMR.out HMM.out HIN1.out HINP.out).mono ?_; rintro e w6 ⟨m6, rfl, hM6, hb6⟩
            go_wp2
            exact hQ _ _ hb6 hM6
          · intro x w hb hk hiv hdj
            have h0 : x.v 0 = .pointer (some ⟨w0.heap.size, 0, none⟩) := hk 0 (by decide)
            have h1 : x.v 1 = .int .i64 y.p := hk 1 (by decide)
            have h2 : x.v 2 = .pointer (some ⟨w0.heap.size, 5, none⟩) := hk 2 (by decide)
            have h3 : x.v 3 = .slice (some ⟨bm, om, none⟩) y.m.length h := hk 3 (by decide)
            have h4 : x.v 4 = .int .i64 (K : Int) := hk 4 (by decide)
            have h5 : x.v 5 = .int .i64 (J : Int) := hk 5 (by decide)
            have h6 : x.v 6 = .pointer (some ⟨bm, om + J * 3, none⟩) := hk 6 (by decide)
            have h7 : x.v 7 = .agg #[.int .i64 D2, .int .i64 D1, .slice A1 ML c1'] := hk 7 (by decide)
            have h8 : x.v 8 = .agg #[.int .i64 D1, .int .i64 D0, .slice MA NN mc] := hk 8 (by decide)
            have h9 : MxO w (x.lo 9) (x.hi 9) (x.v 9) (mxF D2 D0 (muP y.p D1 (mpF y (v + n)) (pdF y v n))) := hk 9 (by decide)
            clear hk
            simp only [netAct, dstAt, List.getElem?_toArray, List.getElem?_cons_zero, List.getElem?_cons_succ, Option.bind_some, Act.put, List.setIfInBounds_toArray, List.set_cons_zero, List.set_cons_succ]
            simp only [List.drop_succ_cons, List.drop_zero, h0, h1, h2, h3, h4, h5, h6, h7, h8]
            clear h0 h1 h2 h3 h4 h5 h6 h7 h8
            obtain ⟨i9a, i9b, i9c⟩ := hiv 9 (by decide)
            obtain ⟨MB, mb, e9⟩ := h9.form
            have h9' := h9
            rw [e9] at h9' ⊢
            simp only [mxF, flat_length] at h9' ⊢
            obtain ⟨MS, hMS⟩ : ∃ z, D2 * D0 = z := ⟨_, rfl⟩
            rw [hMS] at h9' ⊢
            obtain ⟨sq, eq, oN, _, _⟩ := h9'
            simp only [Value.agg.injEq, Array.mk.injEq, List.cons.injEq, and_true, true_and] at eq
            subst eq
            have kq := k5.call hb
            have q0 := kq.cell' (i := 0) rfl
            have q1 := kq.cell' (i := 1) rfl
            have q2 := kq.cell' (i := 2) rfl
            have qf := kq.frozen
            have hws := hb.size
            have hc := chg3 w w4.heap.size (.int .i64 D2) (.int .i64 D0) (.slice MB MS mb)
            obtain ⟨Y, hY⟩ : ∃ u, u = ((w.setCell ⟨w4.heap.size, 0, none⟩ (.int .i64 D2)).setCell ⟨w4.heap.size, 1, none⟩ (.int .i64 D0)).setCell ⟨w4.heap.size, 2, none⟩ (.slice MB MS mb) := ⟨_, rfl⟩
            rw [← hY] at hc
            have kY : Blk Y w4.heap.size 62 #[.int .i64 D2, .int .i64 D0, .slice MB MS mb] := by
              rw [hY]
              exact ((kq.set_ 0 (.int .i64 D2)).set_ 1 (.int .i64 D0)).set_ 2 (.slice MB MS mb)
            have hOY := (HOO.out.below hb).chg hc (.inl (by omega))
            have hbY := (HBEL.out.trans (hb.mono (by omega))).trans (hc.below (by omega) (by omega))
            have hrY := bcell (hc.below (Nat.le_refl _) (by omega)) (show w2.heap.size < w4.heap.size by omega) (bcell hb (by omega) hr)
            have oNY := oN.chg hc (.inr (by omega))
            have hsY : Y.heap.size = w.heap.size := by rw [hY]; simp
            have HSY := Lib.hid hsY
            have kBY := kB3.below hbY (by omega)
            clear hMS h9 e9 oN hc hiv hdj kq hb k5 hr
            go_wp2
            rw [← hY]
            clear hY q0 q1 q2 qf
            have hRKL := rkF_le y.p D2 D0 (pdF y v (n + 1))
            obtain ⟨rk, hrk⟩ : ∃ z, rkF y.p D2 D0 (pdF y v (n + 1)) = z := ⟨_, rfl⟩
            rw [hrk] at hRKL
            have HRK := Lib.hid hrk
            have HHR := Lib.hid (show rtF y v K = (rk : Int) by rw [HRT.out, hrk])
            have HOY := Lib.hid hOY
            have HBY := Lib.hid hbY
            have HRY := Lib.hid hrY
            have ONY := Lib.hid oNY
            have hsY1 : w.heap.size ≤ Y.heap.size := Nat.le_of_eq HSY.out.symm
            clear hrk hOY hbY hrY oNY hsY
            refine wp_region_net (by kernel_rfl) [.eq (.slice (some ⟨w2.heap.size, 0, none⟩) y.d.length y.d.length), .eq (.int .i64 v), .eq (.pointer (some ⟨w2.heap.size, v, none⟩)), .eq (.slice (some ⟨G, 0, none⟩) y.d.length y.d.length), .eq (.int .i64 (K : Int)), .eq (.pointer (some ⟨w0.heap.size, 0, none⟩)), .eq (.int .i64 y.p), .eq (.agg #[.int .i64 D2, .int .i64 D0, .slice MB MS mb]), .eq (.int .i64 (rk : Int)), .eq (.pointer (some ⟨G, K, none⟩))] [[], [], [0, 1], [0, 1, 2], [], [], [5], [], [5, 6, 7], [0, 1, 2, 3, 4, 5, 6, 7, 8], [0, 1, 2, 3, 4, 5, 6, 7, 8, 9]] 10 (by kernel_rfl) ⟨trivial, trivial, trivial, trivial, trivial, trivial, trivial, trivial, trivial, trivial, trivial⟩ ⟨?_, ?_, ?_, ?_, ?_, ?_, ?_, ?_, ?_, ?_, trivial⟩ ?_
            · intro x w hb hk Q' hQ
              clear hk
              simp only [netAct, dstAt, List.getElem?_toArray, List.getElem?_cons_zero, List.getElem?_cons_succ, Option.bind_some, Act.put, List.setIfInBounds_toArray, List.set_cons_zero, List.set_cons_succ] at hQ ⊢
              go_wp2
              exact hQ (.slice (some ⟨w2.heap.size, 0, none⟩) y.d.length y.d.length) _ (Below.refl _ _) rfl
            · intro x w hb hk Q' hQ
              clear hk
              simp only [netAct, dstAt, List.getElem?_toArray, List.getElem?_cons_zero, List.getElem?_cons_succ, Option.bind_some, Act.put, List.setIfInBounds_toArray, List.set_cons_zero, List.set_cons_succ] at hQ ⊢
              go_wp2
              exact hQ (.int .i64 v) _ (Below.refl _ _) rfl
            · intro x w hb hk Q' hQ
              have h0 : x.v 0 = .slice (some ⟨w2.heap.size, 0, none⟩) y.d.length y.d.length := (hk 0 (by decide)).1
              have h1 : x.v 1 = .int .i64 v := (hk 1 (by decide)).1
              clear hk
              simp only [netAct, dstAt, List.getElem?_toArray, List.getElem?_cons_zero, List.getElem?_cons_succ, Option.bind_some, Act.put, List.setIfInBounds_toArray, List.set_cons_zero, List.set_cons_succ] at hQ ⊢
              simp only [h0, h1] at hQ ⊢
              clear h0 h1
              go_wp2
              exact hQ (.pointer (some ⟨w2.heap.size, v, none⟩)) _ (Below.refl _ _) rfl
            · intro x w hb hk Q' hQ
              have h2 : x.v 2 = .pointer (some ⟨w2.heap.size, v, none⟩) := (hk 2 (by decide)).1
              clear hk
              simp only [netAct, dstAt, List.getElem?_toArray, List.getElem?_cons_zero, List.getElem?_cons_succ, Option.bind_some, Act.put, List.setIfInBounds_toArray, List.set_cons_zero, List.set_cons_succ] at hQ ⊢
              simp only [h2] at hQ ⊢
              clear h2
              have q0 := bcell hb (by omega) HRY.out
              go_wp2
              exact hQ (.slice (some ⟨G, 0, none⟩) y.d.length y.d.length) _ (Below.refl _ _) rfl
            · intro x w hb hk Q' hQ
              clear hk
              simp only [netAct, dstAt, List.getElem?_toArray, List.getElem?_cons_zero, List.getElem?_cons_succ, Option.bind_some, Act.put, List.setIfInBounds_toArray, List.set_cons_zero, List.set_cons_succ] at hQ ⊢
              go_wp2
              exact hQ (.int .i64 (K : Int)) _ (Below.refl _ _) rfl
            · intro x w hb hk Q' hQ
              clear hk
              simp only [netAct, dstAt, List.getElem?_toArray, List.getElem?_cons_zero, List.getElem?_cons_succ, Option.bind_some, Act.put, List.setIfInBounds_toArray, List.set_cons_zero, List.set_cons_succ] at hQ ⊢
              go_wp2
              exact hQ (.pointer (some ⟨w0.heap.size, 0, none⟩)) _ (Below.refl _ _) rfl
            · intro x w hb hk Q' hQ
              have h5 : x.v 5 = .pointer (some ⟨w0.heap.size, 0, none⟩) := (hk 5 (by decide)).1
              clear hk
              simp only [netAct, dstAt, List.getElem?_toArray, List.getElem?_cons_zero, List.getElem?_cons_succ, Option.bind_some, Act.put, List.setIfInBounds_toArray, List.set_cons_zero, List.set_cons_succ] at hQ ⊢
              simp only [h5] at hQ ⊢
              clear h5
              have q0 := (kBY.call hb).cell' (i := 0) rfl
              go_wp2
              exact hQ (.int .i64 y.p) _ (Below.refl _ _) rfl
            · intro x w hb hk Q' hQ
              clear hk
              simp only [netAct, dstAt, List.getElem?_toArray, List.getElem?_cons_zero, List.getElem?_cons_succ, Option.bind_some, Act.put, List.setIfInBounds_toArray, List.set_cons_zero, List.set_cons_succ] at hQ ⊢
              have kq := kY.call hb
              have q0 := kq.cell' (i := 0) rfl
              have q1 := kq.cell' (i := 1) rfl
              have q2 := kq.cell' (i := 2) rfl
              go_wp2
              exact hQ (.agg #[.int .i64 D2, .int .i64 D0, .slice MB MS mb]) _ (Below.refl _ _) rfl
            · intro x w hb hk Q' hQ
              have h6 : x.v 6 = .int .i64 y.p := (hk 6 (by decide)).1
              have h7 : x.v 7 = .agg #[.int .i64 D2, .int .i64 D0, .slice MB MS mb] := (hk 7 (by decide)).1
              clear hk
              simp only [netAct, dstAt, List.getElem?_toArray, List.getElem?_cons_zero, List.getElem?_cons_succ, Option.bind_some, Act.put, List.setIfInBounds_toArray, List.set_cons_zero, List.set_cons_succ] at hQ ⊢
              simp only [h6, h7] at hQ ⊢
              clear h6 h7
              have hM := (ONY.out.below hb).rd
              have HMM : Hid (MxR w w.heap.size (.agg #[.int .i64 D2, .int .i64 D0, .slice MB MS mb]) (mxF D2 D0 (pdF y v (n + 1)))) := ⟨_, rfl, by rw [HP1.out]; exact hM, by constructor <;> simp [mxF] <;> omega, by constructor <;> simp [mxF] <;> omega⟩
              clear hM
              go_wp2_with fail
              refine (implRank_any y.p _ D2 D0 (pdF y v (n + 1)) _ H3.out (by omega) (by omega) HMM.out (by rw [HP1.out]; exact HINP1.out)).mono ?_; rintro e w6 ⟨rfl, hb6⟩
              rw [HRK.out]
              go_wp2
              exact hQ _ _ hb6 rfl
            · intro x w hb hk Q' hQ
              have h3 : x.v 3 = .slice (some ⟨G, 0, none⟩) y.d.length y.d.length := (hk 3 (by decide)).1
              have h4 : x.v 4 = .int .i64 (K : Int) := (hk 4 (by decide)).1
              clear hk
              simp only [netAct, dstAt, List.getElem?_toArray, List.getElem?_cons_zero, List.getElem?_cons_succ, Option.bind_some, Act.put, List.setIfInBounds_toArray, List.set_cons_zero, List.set_cons_succ] at hQ ⊢
              simp only [h3, h4] at hQ ⊢
              clear h3 h4
              go_wp2
              exact hQ (.pointer (some ⟨G, K, none⟩)) _ (Below.refl _ _) rfl
            · intro x w hb hk hiv hdj
              have h0 : x.v 0 = .slice (some ⟨w2.heap.size, 0, none⟩) y.d.length y.d.length := hk 0 (by decide)
              have h1 : x.v 1 = .int .i64 v := hk 1 (by decide)
              have h2 : x.v 2 = .pointer (some ⟨w2.heap.size, v, none⟩) := hk 2 (by decide)
              have h3 : x.v 3 = .slice (some ⟨G, 0, none⟩) y.d.length y.d.length := hk 3 (by decide)
              have h4 : x.v 4 = .int .i64 (K : Int) := hk 4 (by decide)
              have h5 : x.v 5 = .pointer (some ⟨w0.heap.size, 0, none⟩) := hk 5 (by decide)
              have h6 : x.v 6 = .int .i64 y.p := hk 6 (by decide)
              have h7 : x.v 7 = .agg #[.int .i64 D2, .int .i64 D0, .slice MB MS mb] := hk 7 (by decide)
              have h8 : x.v 8 = .int .i64 (rk : Int) := hk 8 (by decide)
              have h9 : x.v 9 = .pointer (some ⟨G, K, none⟩) := hk 9 (by decide)
              clear hk
              simp only [netAct, dstAt, List.getElem?_toArray, List.getElem?_cons_zero, List.getElem?_cons_succ, Option.bind_some, Act.put, List.setIfInBounds_toArray, List.set_cons_zero, List.set_cons_succ]
              simp only [List.drop_succ_cons, List.drop_zero, h0, h1, h2, h3, h4, h5, h6, h7, h8, h9]
              clear h0 h1 h2 h3 h4 h5 h6 h7 h8 h9
              have hws2 := hb.size
              have hO2 := HOY.out.below hb
              have hr2 := bcell hb (show w2.heap.size < Y.heap.size by omega) HRY.out
              have st := hO2.put (i := K) (x := (rk : Int)) (rtBB_get (rtF y) (v + 1 + n) hlt) hr2 (by constructor <;> omega)
              obtain ⟨uu, cs1, io1, _⟩ := hO2.row (rtBB_get (rtF y) (v + 1 + n) hlt)
              rw [hr2] at cs1
              injection cs1 with cs1
              subst cs1
              have y3 := (io1.1.cellG (j := K) (by rw [rtR, rowF_length]; exact hlw)).1
              have y4 := io1.1.frozenG K
              rw [← HHR.out, HK.out, rtR_set, rtBB_set, ← HK.out, HHR.out] at st
              have hg := st.2
              have hc3 : Chg G (G + 1) w (w.setCell ⟨G, K, none⟩ (.int .i64 (rk : Int))) := chg_set (Nat.le_refl _) (Nat.lt_succ_self _)
              have kY2 := (kY.call hb).chg hc3 (.inr (by omega))
              have oN2 := (ONY.out.below hb).chg hc3 (.inr (by omega))
              have bY2 := (HBY.out.trans (hb.mono (by omega))).trans (hc3.below (by omega) (by omega))
              have rY2 := bcell (hc3.below (Nat.le_refl _) (by omega)) hG2 hr2
              have HST := Lib.hid st.1
              have HK2' := Lib.hid kY2
              have HON2 := Lib.hid oN2
              have HB2 := Lib.hid bY2
              have HR2 := Lib.hid rY2
              clear st hg hc3 kY2 oN2 bY2 rY2 hr2 hO2 io1 kY hb hiv hdj kBY
              go_wp2
              go_roundw
              case rel => exact ⟨n + 1, MS, K + 1, MB, mb, by omega, by go_num, (by show K + 1 = v + 1 + (n + 1); omega), HB2.out, by simp; omega, by rw [show v + 1 + (n + 1) = K + 1 by omega]; exact HST.out, HR2.out, by rw [show v + (n + 1) = v + n + 1 from rfl, HD2.out, HD0.out]; exact HK2'.out, by rw [show v + (n + 1) = v + n + 1 from rfl, HD2.out, HD0.out, HP1.out]; exact HON2.out.wider (by omega) (by simp; omega)⟩
              case measure => simp [intOf]; omega
        · have hKL : K = x.d.length := by omega
          have e1 : v + 1 + n = x.d.length := by omega
          rw [e1, rtBB_end] at hO
          have HO := Lib.hid (hO.wider (Nat.le_refl _) (show Z.heap.size ≤ wr.heap.size by omega))
          have HB := Lib.hid hbel
          clear hO hbel hKL e1 k5 oM hr gw kBr
          go_wp2
          go_roundw
          case rel => exact ⟨v + 1, by omega, by go_num, HB.out, HO.out⟩
          case measure => simp [intOf]; omega
    · have hvL : v = x.d.length := by omega
      rw [hvL, rtA_end] at hO
      have HO := Lib.hid (hO.wider (show w0.heap.size ≤ w2.heap.size by omega) (Nat.le_refl _))
      have HG := Lib.hid gw
      clear hO hbel hvL kBr gw
      go_wp2
      go_ret2
      exact ⟨.slice (some ⟨w2.heap.size, 0, none⟩) x.d.length x.d.length, by rw [HF.out]; rfl, by rw [HF.out]; exact HO.out, HG.out⟩
theorem implRankTable_any (u : Value) (x : Rp) (w0 : World) (hu : RpR w0 w0.heap.size u x) :
    Calls Tryz.prog 50 #[u] w0 fun e w' => ∃ v, e = .returned (.tuple #[v, .bool (rtM x).2]) ∧ IntssO w' w0.heap.size w'.heap.size v (rtM x).1 ∧ Below w0.heap.size w0 w' := by
  rcases h : okL x with _ | _
  · exact implRankTable_no u x w0 hu h
  · exact implRankTable_yes u x w0 hu h
end Go.Proofs.YtgabmemalaklbaaGreat

/- Products of matrices: the reference's l3Multiply. -/
namespace Go.Proofs.YtgabmemalaklbaaGreat
set_option linter.unusedVariables false
set_option linter.unusedSimpArgs false
open Go.RowKit

/-- the product, row i up to k, the rows below i done, the others 0 -/
def muK (p : Int) (c i k : Nat) (f g : Nat → Nat → Int) (a b : Nat) : Int := if a < i then muP p c f g a b else if a = i then (if b < k then muP p c f g a b else 0) else 0
end Go.Proofs.YtgabmemalaklbaaGreat

/- Elimination: the reference's l4Reduce. -/
namespace Go.Proofs.YtgabmemalaklbaaGreat
set_option linter.unusedVariables false
set_option linter.unusedSimpArgs false
open Go.RowKit

/-- the loops' state, and a matrix variable -/
def RT (bm B : Nat) (w1 : World) (A : Option Addr) (r c L cap : Nat) (w : World) (f : Nat → Nat → Int) (pv : Value) (ps : List Int) : Prop :=
  RS B w1 A r c L cap w f pv ps ∧ Blk w bm 62 #[.int .i64 r, .int .i64 c, .slice A L cap]
section
variable {bm B : Nat} {w1 w w' : World} {A : Option Addr} {r c L cap : Nat} {f : Nat → Nat → Int} {pv : Value} {ps : List Int}
theorem RT.call (h : RT bm B w1 A r c L cap w f pv ps) (hB : B ≤ w1.heap.size) (hb : Below w.heap.size w w') : RT bm B w1 A r c L cap w' f pv ps := ⟨h.1.call hB hb, h.2.call hb⟩
theorem RT.congr {f2 : Nat → Nat → Int} (h : RT bm B w1 A r c L cap w f pv ps) (e : flat r c f = flat r c f2) : RT bm B w1 A r c L cap w f2 pv ps := ⟨h.1.congr e, h.2⟩
theorem RT.put {g J : Nat} {x : Int} {f2 : Nat → Nat → Int} (h : RT bm B w1 (some ⟨g, 0, none⟩) r c L cap w f pv ps) (hg : B ≤ g) (hs : B ≤ w.heap.size) (hx : I64 x) (e : (flat r c f).set J x = flat r c f2) :
    RT bm B w1 (some ⟨g, 0, none⟩) r c L cap (w.setCell ⟨g, J, none⟩ (.int .i64 x)) f2 pv ps := by
  refine ⟨h.1.put hg hs hx e, h.2.far ?_ _⟩
  have := h.1.own.blkne h.2 (by decide)
  intro e2
  exact this (by simp [Value.ownBlock, e2])
theorem RT.app {pv' : Value} {ps' : List Int} (h : RT bm B w1 A r c L cap w f pv ps) (hs : B ≤ w.heap.size) (ho : OwnI w' B pv' ps') (hg : w.grownBy w' pv.ownBlock) (hv : pv'.ownBlock = pv.ownBlock ∨ pv'.ownBlock = some w.heap.size) :
    RT bm B w1 A r c L cap w' f pv' ps' := ⟨h.1.app hs ho hg hv, h.2.grown hg (h.1.ownP.1.blkne h.2 (by decide))⟩
end
/-- what the reference's search has found -/
def atI (f : Nat → Nat → Int) (k m r : Nat) : Int := if nzF f k m r = r then -1 else (nzF f k m r : Int)
end Go.Proofs.YtgabmemalaklbaaGreat

/- The reference's ScaleVector and AddVectors, for vectors. -/
namespace Go.Proofs.YtgabmemalaklbaaGreat
set_option linter.unusedVariables false
set_option linter.unusedSimpArgs false
open Go.RowKit
def scF (p k : Int) (f : Nat → Int) (i : Nat) : Int := (k % p * f i) % p
def adF (p : Int) (f g : Nat → Int) (i : Nat) : Int := (f i + g i) % p
end Go.Proofs.YtgabmemalaklbaaGreat

/- The reference's AddVectors, for vectors. -/
namespace Go.Proofs.YtgabmemalaklbaaGreat
set_option linter.unusedVariables false
set_option linter.unusedSimpArgs false
open Go.RowKit
end Go.Proofs.YtgabmemalaklbaaGreat

/- The reference's ScaleMatrix. -/
namespace Go.Proofs.YtgabmemalaklbaaGreat
set_option linter.unusedVariables false
set_option linter.unusedSimpArgs false
open Go.RowKit
/-- a valid matrix told by entries -/
theorem isMat_mxF {p : Int} {r c : Nat} {f : Nat → Nat → Int} (hp : isFld p = true) (hr : r ≤ 8) (hc : c ≤ 8) (hf : ∀ i j, i < r → j < c → 0 ≤ f i j ∧ f i j ≤ p - 1) : isMat p (mxF r c f) = true := by
  rw [isMat_t]
  refine ⟨by simp only [mxF]; omega, by simp only [mxF]; omega, by simp [mxF, flat_length], isVec_t.2 ⟨hp, ?_, fun x hx => ?_⟩⟩
  · simp only [mxF, flat_length]
    exact Nat.mul_le_mul hr hc
  · obtain ⟨i, j, hi, hj, rfl⟩ := flat_mem hx
    exact hf i j hi hj
def scM (p k : Int) (f : Nat → Nat → Int) (i j : Nat) : Int := (k % p * f i j) % p
def adM (p : Int) (f g : Nat → Nat → Int) (i j : Nat) : Int := (f i j + g i j) % p
end Go.Proofs.YtgabmemalaklbaaGreat

/- Ranks: the reference's RowReduce and RankOf, of valid matrices. -/
namespace Go.Proofs.YtgabmemalaklbaaGreat
set_option linter.unusedVariables false
set_option linter.unusedSimpArgs false
open Go.RowKit

end Go.Proofs.YtgabmemalaklbaaGreat

/- RankTable: the reference's. -/
namespace Go.Proofs.YtgabmemalaklbaaGreat
set_option linter.unusedVariables false
set_option linter.unusedSimpArgs false
open Go.RowKit

def rtS (L : Nat) (f : Nat → Nat → Int) (v : Nat) : List (List Int) := (List.range v).map fun a => rowF L (f a)
end Go.Proofs.YtgabmemalaklbaaGreat
