/- FnPencils: the law holds for every argument. Part 11 of 18 of the proof: Mul2, Hom2, Hom2b, Hom3. No condition. -/
import Derived.Test.YthhjoamgcfiecaaGreatBPencils10
set_option linter.unusedVariables false
set_option linter.unusedSimpArgs false
namespace Go.Proofs.YthhjoamgcfiecaaGreat
open Go.RowKit
theorem row_d0 (r : Int) (d L i cap : Nat) (A : Option Addr) (w : World) (hd : d = 0) (hL : L = 0) (hb : cap ≤ 9223372036854775807) (hi : i ≤ 1000) :
  Calls Tryz.prog 33 #[.agg #[.int .i64 r, .int .i64 d, .slice A L cap], .int .i64 i] w fun e w' => ∃ A', e = .returned (.slice A' 0 cap) ∧ Below w.heap.size w w' := by
 subst hd hL
 exact row_zero r i cap A w hb hi
theorem addMultiple_d0 (p k : Int) (va vb : Value) (B : Option Addr) (d c : Nat) (w : World) (hd : d = 0) (hv : ∃ A n m, va = .slice A n m) (hvb : vb = .slice B d c) (hc : c ≤ 9223372036854775807) :
  Calls Tryz.prog 90 #[.int .i64 p, va, .int .i64 k, vb] w fun e w' => e = .returned va ∧ w' = w := by
 subst hd hvb
 exact addMultiple_zero p k va B c w hv hc
theorem le_pred {p : Int} {r c : Nat} {f : Nat → Nat → Int} (hp : 2 ≤ p ∧ p ≤ 5) (h : InF p r c f) {a b : Nat} (ha : a < r) (hb : b < c) : 0 ≤ f a b ∧ f a b ≤ 4 := by
 have := h a b ha hb
 omega
set_option maxHeartbeats 6400000 in
set_option maxRecDepth 100000 in
theorem times_any (p : Int) (u v : Value) (r c d : Nat) (f g : Nat → Nat → Int) (w0 : World) (hp : 2 ≤ p ∧ p ≤ 5) (hr : r ≤ 1000) (hc : c ≤ 1000) (hd : d ≤ 1000) (hu : MxR w0 w0.heap.size u (mxF r c f)) (hv : MxR w0 w0.heap.size v (mxF c d g)) (hf : InF p r c f) (hg : InF p c d g) :
  Calls Tryz.prog 107 #[.int .i64 p, u, v] w0 fun e w' => ∃ m, e = .returned m ∧ MxO w' w0.heap.size w'.heap.size m (mxF r d (muP p c f g)) ∧ Below w0.heap.size w0 w' := by
 have hu' := hu
 have hv' := hv
 obtain ⟨U, uc, rfl⟩ := hu.form
 obtain ⟨V, vc, rfl⟩ := hv.form
 simp only [mxF, flat_length] at hu hu' hv hv' ⊢
 obtain ⟨UL, hUL⟩ : ∃ z, r * c = z := ⟨_, rfl⟩
 obtain ⟨VL, hVL⟩ : ∃ z, c * d = z := ⟨_, rfl⟩
 rw [hUL] at hu hu' ⊢
 rw [hVL] at hv hv' ⊢
 have HUL := Lib.hid hUL
 have HVL := Lib.hid hVL
 clear hu hv hUL hVL
 obtain ⟨W, hW⟩ : ∃ W, W = ((w0.alloc (.cells #[.int .i64 r, .int .i64 c, .slice U UL uc] 44)).alloc (.cells #[.int .i64 c, .int .i64 d, .slice V VL vc] 44)).alloc (.cells #[.int .i64 0, .int .i64 0, .slice none 0 0] 44) := ⟨_, rfl⟩
 have g0 : Below w0.heap.size w0 W := by rw [hW]; exact (((Below.refl _ _).alloc (Nat.le_refl _) _).alloc (by simp) _).alloc (by simp; omega) _
 have k1 : Blk W w0.heap.size 44 #[.int .i64 r, .int .i64 c, .slice U UL uc] := by rw [hW]; exact ((Blk.new _ _ _).alloc _).alloc _
 have k2 : Blk W (w0.heap.size + 1) 44 #[.int .i64 c, .int .i64 d, .slice V VL vc] := by
  rw [hW]
  have := (Blk.new (w0.alloc (.cells #[.int .i64 r, .int .i64 c, .slice U UL uc] 44)) 44 #[.int .i64 c, .int .i64 d, .slice V VL vc]).alloc (.cells #[.int .i64 0, .int .i64 0, .slice none 0 0] 44)
  simpa only [World.size_alloc] using this
 have k3 : Blk W (w0.heap.size + 1 + 1) 44 #[.int .i64 0, .int .i64 0, .slice none 0 0] := by
  rw [hW]
  have := Blk.new ((w0.alloc (.cells #[.int .i64 r, .int .i64 c, .slice U UL uc] 44)).alloc (.cells #[.int .i64 c, .int .i64 d, .slice V VL vc] 44)) 44 #[.int .i64 0, .int .i64 0, .slice none 0 0]
  simpa only [World.size_alloc] using this
 have sz : W.heap.size = w0.heap.size + 1 + 1 + 1 := by rw [hW]; simp
 have SZ := Lib.hid sz
 have HU := Lib.hid hu'
 have HV := Lib.hid hv'
 have HF := Lib.hid hf
 have HG := Lib.hid hg
 have a0 := k1.cell' (i := 0) rfl
 have a1 := k1.cell' (i := 1) rfl
 have a2 := k1.cell' (i := 2) rfl
 have b0 := k2.cell' (i := 0) rfl
 have b1 := k2.cell' (i := 1) rfl
 have b2 := k2.cell' (i := 2) rfl
 clear hu' hv' hf hg sz
 go_enter Tryz.func107, Tryz.ntmps107
 go_wp2_with fail
 rw [← hW]; clear hW
 refine (zero_any r d _ (by omega) (by omega) (by omega) (by omega)).mono ?_; rintro e w1 ⟨v1, rfl, hZ, hb1⟩
 rw [zmx_flat] at hZ
 obtain ⟨A, cap, e1⟩ := hZ.form
 subst e1
 simp only [mxF, flat_length] at hZ ⊢
 obtain ⟨sA, esA, oZ, hr1, hr2⟩ := hZ
 simp only [Value.agg.injEq, Array.mk.injEq, List.cons.injEq, and_true, true_and] at esA
 subst esA
 obtain ⟨L, hL⟩ : ∃ z, r * d = z := ⟨_, rfl⟩
 rw [hL] at oZ ⊢
 have HL := Lib.hid hL
 clear hL
 have s1 := hb1.size
 obtain ⟨w2, hw2⟩ : ∃ u, u = w1.alloc (.cells #[.int .i64 r, .int .i64 d, .slice A L cap] 44) := ⟨_, rfl⟩
 have b2' : Below w1.heap.size w1 w2 := by rw [hw2]; exact below_alloc _ _
 have k4 : Blk w2 w1.heap.size 44 #[.int .i64 r, .int .i64 d, .slice A L cap] := by rw [hw2]; exact Blk.new _ _ _
 have oZ2 := oZ.below b2'
 rw [muS_0 p c r d f g] at oZ2
 have s2 := b2'.size
 have l4 := k4.lt
 have gW2 := bthen hb1 b2'
 have K1 := Lib.hid k1
 have K2 := Lib.hid k2
 have K3 := Lib.hid k3
 have G0 := Lib.hid g0
 have hWs := SZ.out
 clear a0 a1 a2 b0 b1 b2 oZ b2' hb1 k1 k2 k3 g0
 have k1 := (K1.out).below gW2 (by omega)
 have a0 := k1.cell' (i := 0) rfl
 rw [hw2] at a0
 go_wp2
 rw [← hw2]; clear hw2 a0 k1
 go_loopw [18] (fun i wr => ∃ i' : Nat, i' ≤ r ∧ i = .int .i64 i' ∧ Blk wr w1.heap.size 44 #[.int .i64 r, .int .i64 d, .slice A L cap] ∧ IntsO wr W.heap.size w1.heap.size (.slice A L cap) (flat r d (muS p c i' 0 f g)) ∧ Below W.heap.size W wr) (fun i _ => r - (intOf i).toNat)
 case atStart => exact ⟨0, Nat.zero_le _, rfl, k4, oZ2, gW2⟩
 case round =>
  clear k4 oZ2 gW2
  obtain ⟨i, hi, rfl, k4, oA, gW⟩ := hrel
  have sW := gW.size
  by_cases hlr : i < r
  ·have k1 := K1.out.below gW (by omega)
   have k2 := K2.out.below gW (by omega)
   have a0 := k1.cell' (i := 0) rfl
   have a1 := k1.cell' (i := 1) rfl
   have a2 := k1.cell' (i := 2) rfl
   have b0 := k2.cell' (i := 0) rfl
   have b1 := k2.cell' (i := 1) rfl
   have b2 := k2.cell' (i := 2) rfl
   have gw := G0.out.trans (gW.mono (by omega))
   have hUr : MxR wr w0.heap.size (.agg #[.int .i64 r, .int .i64 c, .slice U UL uc]) (mxF r c f) := MxR.below gw HU.out
   have HUR := Lib.hid hUr
   clear hUr
   go_wp2_with fail
   refine (row_rd _ r c i w0.heap.size f _ HUR.out gw.size hr hc hlr).mono ?_; rintro e w3 ⟨vr, rfl, hR, hb3⟩
   obtain ⟨RA, rc, ev, hrc1, hrc2, _, hR⟩ := hR.open_
   subst ev
   rw [rowF_length] at hR ⊢
   have s3 := hb3.size
   have HR3 := Lib.hid hR
   have k43 := k4.call hb3
   have oA3 := oA.below hb3
   have gW3 := gW.trans (hb3.mono sW)
   clear a0 a1 a2 b0 b1 b2 k1 k2 hR k4 oA gW gw hb3
   go_wp2
   go_loopw [25] (fun k wr => ∃ k' : Nat, k' ≤ c ∧ k = .int .i64 k' ∧ Blk wr w1.heap.size 44 #[.int .i64 r, .int .i64 d, .slice A L cap] ∧ IntsO wr W.heap.size w1.heap.size (.slice A L cap) (flat r d (muS p c i k' f g)) ∧ Below W.heap.size W wr ∧ SlI wr w0.heap.size (.slice RA c rc) (rowF c (f i))) (fun k _ => c - (intOf k).toNat)
   case atStart => exact ⟨0, Nat.zero_le _, rfl, k43, oA3, gW3, HR3.out⟩
   case round =>
    clear k43 oA3 gW3
    obtain ⟨k, hk, rfl, k4, oA, gW, hR⟩ := hrel
    have sW' := gW.size
    by_cases hlc : k < c
    ·have hR2 : SlI wr w0.heap.size (.slice RA (rowF c (f i)).length rc) (rowF c (f i)) := by rw [rowF_length]; exact hR
     obtain ⟨b, o, x, rfl, hbl, HXX, x1, _⟩ := SlI.at_ (k := k) hR2 (by rw [rowF_length]; exact hlc)
     have hxx := HXX.out
     rw [rowF_get _ hlc] at hxx
     injection hxx with hxx
     subst hxx
     have hfx := le_pred hp HF.out hlr hlc
     obtain ⟨xk, hx⟩ : ∃ x, f i k = x := ⟨_, rfl⟩
     rw [hx] at x1 hfx
     have HX := Lib.hid hx
     have HRR := Lib.hid hR
     have hOA := Lib.hid oA
     have hK4 := Lib.hid k4
     have hGW := Lib.hid gW
     clear hx hR hR2 HXX oA k4 gW
     go_wp2
     clear x1
     rcases Nat.eq_zero_or_pos d with hd0 | hd0
     ·have hL0 : L = 0 := by have := HL.out; rw [hd0, Nat.mul_zero] at this; exact this.symm
      have e0 : ∀ h, flat r d h = [] := fun h => by simp [flat, hd0]
      have E0 := Lib.hid e0
      have HD0 := Lib.hid hd0
      have HL0 := Lib.hid hL0
      have hcap : cap ≤ 9223372036854775807 := by
       obtain ⟨_, cL, eL, lA1, lA2⟩ := (hOA.out).1.form
       injection eL with eLx eLy eL3
       omega
      clear hd0 hL0 e0
      refine wp_region_net (by kernel_rfl) [.eq (.int .i64 p), .eq (.agg #[.int .i64 r, .int .i64 d, .slice A L cap]), .eq (.int .i64 i), rel 3 (fun u lo hi w => ∃ A n m, u = .slice A n m), .eq (.int .i64 xk), .eq (.agg #[.int .i64 c, .int .i64 d, .slice V VL vc]), .eq (.int .i64 k), rel 7 (fun u lo hi w => ∃ A m, m ≤ 9223372036854775807 ∧ u = .slice A d m)] [[], [], [], [1, 2], [], [], [], [1, 2, 3, 5, 6], [0, 1, 2, 3, 4, 5, 6, 7]] 8 (by kernel_rfl) ⟨trivial, trivial, trivial, rel_stable (fun u lo hi w w' h hb => h), trivial, trivial, trivial, rel_stable (fun u lo hi w w' h hb => h), trivial⟩ ⟨?_, ?_, ?_, ?_, ?_, ?_, ?_, ?_, trivial⟩ ?_
      ·intro x w hb hk Q' hQ
       clear hk
       simp only [netE] at hQ ⊢
       go_wp2
       exact hQ _ _ (Below.refl _ _) rfl
      ·intro x w hb hk Q' hQ
       clear hk
       simp only [netE] at hQ ⊢
       have kq := hK4.out.call hb
       have z0 := kq.cell' (i := 0) rfl
       have z1 := kq.cell' (i := 1) rfl
       have z2 := kq.cell' (i := 2) rfl
       go_wp2
       exact hQ _ _ (Below.refl _ _) rfl
      ·intro x w hb hk Q' hQ
       clear hk
       simp only [netE] at hQ ⊢
       go_wp2
       exact hQ _ _ (Below.refl _ _) rfl
      ·intro x w hb hk Q' hQ
       have h1 : x.v 1 = _ := (hk 1 (by decide)).1
       have h2 : x.v 2 = _ := (hk 2 (by decide)).1
       clear hk
       simp only [netE] at hQ ⊢
       simp only [h1, h2] at hQ ⊢
       clear h1 h2
       go_wp2_with fail
       refine (row_d0 (r : Int) d L i cap A _ HD0.out HL0.out hcap (by omega)).mono ?_; rintro e w5 ⟨A5, rfl, hb5⟩
       go_wp2
       exact hQ _ _ hb5 ⟨_, _, _, rfl⟩
      ·intro x w hb hk Q' hQ
       clear hk
       simp only [netE] at hQ ⊢
       go_wp2
       exact hQ _ _ (Below.refl _ _) rfl
      ·intro x w hb hk Q' hQ
       clear hk
       simp only [netE] at hQ ⊢
       have kq := (K2.out.below hGW.out (by omega)).call hb
       have z0 := kq.cell' (i := 0) rfl
       have z1 := kq.cell' (i := 1) rfl
       have z2 := kq.cell' (i := 2) rfl
       go_wp2
       exact hQ _ _ (Below.refl _ _) rfl
      ·intro x w hb hk Q' hQ
       clear hk
       simp only [netE] at hQ ⊢
       go_wp2
       exact hQ _ _ (Below.refl _ _) rfl
      ·intro x w hb hk Q' hQ
       have h1 : x.v 1 = _ := (hk 1 (by decide)).1
       have h2 : x.v 2 = _ := (hk 2 (by decide)).1
       have h3 : ∃ A n m, (x.v 3) = .slice A n m := (hk 3 (by decide)).1
       have h5 : x.v 5 = _ := (hk 5 (by decide)).1
       have h6 : x.v 6 = _ := (hk 6 (by decide)).1
       have s3 := (hk 3 (by decide)).2
       clear hk
       simp only [netE] at hQ ⊢
       simp only [h1, h2, h5, h6] at hQ ⊢
       clear h1 h2 h5 h6
       have gz := (G0.out.trans (hGW.out.mono (by omega))).trans (hb.mono (by omega))
       have HVR := Lib.hid (MxR.below gz HV.out)
       have gzs := gz.size
       clear gz
       go_wp2_with fail
       refine (row_rd _ c d k w0.heap.size g _ HVR.out gzs hc hd hlc).mono ?_; rintro e w5 ⟨v5, rfl, hR5, hb5⟩
       obtain ⟨A5, c5, e5, _, hc5, _⟩ := hR5.open_
       subst e5
       rw [rowF_length]
       go_wp2
       exact hQ _ _ hb5 ⟨_, _, hc5, rfl⟩
      ·intro x w hb hk hiv hdj
       have h0 : x.v 0 = .int .i64 p := hk 0 (by decide)
       have h1 : x.v 1 = .agg #[.int .i64 r, .int .i64 d, .slice A L cap] := hk 1 (by decide)
       have h2 : x.v 2 = .int .i64 i := hk 2 (by decide)
       have h3 : ∃ A n m, (x.v 3) = .slice A n m := hk 3 (by decide)
       have h4 : x.v 4 = .int .i64 xk := hk 4 (by decide)
       have h5 : x.v 5 = .agg #[.int .i64 c, .int .i64 d, .slice V VL vc] := hk 5 (by decide)
       have h6 : x.v 6 = .int .i64 k := hk 6 (by decide)
       have h7 : ∃ A m, m ≤ 9223372036854775807 ∧ (x.v 7) = .slice A d m := hk 7 (by decide)
       clear hk
       simp only [netE]
       simp only [List.drop_succ_cons, List.drop_zero, h0, h1, h2, h4, h5, h6]
       clear h0 h1 h2 h4 h5 h6
       obtain ⟨A3, n3, m3, e3⟩ := h3
       obtain ⟨A7, m7, hm7, e7⟩ := h7
       have HB := Lib.hid hb
       have HGW2 := Lib.hid ((hGW.out).trans (hb.mono (by omega)))
       have hR6 := SlI.below (hb.mono (by omega)) HRR.out
       have hA2 := (hOA.out).below hb
       have k46 := (hK4.out).call hb
       rw [E0.out] at hA2
       have HA2 := Lib.hid (show IntsO w W.heap.size w1.heap.size (.slice A L cap) (flat r d (muS p c i (k + 1) f g)) by rw [E0.out]; exact hA2)
       have E3 := Lib.hid e3
       have E7 := Lib.hid e7
       clear hb hiv hdj hA2 e3 e7
       go_wp2_with fail
       refine (addMultiple_d0 p xk _ _ A7 d m7 _ HD0.out ⟨_, _, _, E3.out⟩ E7.out hm7).mono ?_; rintro e w6 ⟨rfl, hww⟩
       replace hww := hww.symm
       subst hww
       go_wp2
       go_roundw
       ·exact ⟨k + 1, by omega, by simp, k46, HA2.out, HGW2.out, hR6⟩
       ·show c - (k + 1) < c - k
        omega
     ·obtain ⟨P, hP⟩ : ∃ P, P = i * d := ⟨_, rfl⟩
      have hrp := rowP hlr hd0 hr hd hP
      rw [HL.out] at hrp
      obtain ⟨gA, cA, eA, q1, q2, q3⟩ := (hOA.out).at_ (by rw [flat_length, HL.out]; omega)
      rw [flat_length, HL.out] at eA
      injection eA with eA1 eA2 eA3
      subst eA1 eA3
      obtain ⟨_, cL, eL, lA1, lA2⟩ := (hOA.out).1.form
      injection eL with eLx eLy eL3
      rw [← eL3, flat_length, HL.out] at lA1
      rw [← eL3] at lA2
      clear eLx eLy eL3
      have q5 : flat r d (muS p c i k f g) = rowF L (fun a => muS p c i k f g (a / d) (a % d)) := by rw [← HL.out]; rfl
      have HP := Lib.hid hP
      clear hP
      refine wp_region_net (by kernel_rfl) [.eq (.int .i64 p), .eq (.agg #[.int .i64 r, .int .i64 d, .slice (some ⟨gA, 0, none⟩) L cap]), .eq (.int .i64 i), .eq (.slice (some ⟨gA, P, none⟩) d (cap - P)), .eq (.int .i64 xk), .eq (.agg #[.int .i64 c, .int .i64 d, .slice V VL vc]), .eq (.int .i64 k), rel 7 (fun u lo hi w => w0.heap.size ≤ w.heap.size ∧ SlI w w0.heap.size u (rowF d (g k)))] [[], [], [], [1, 2], [], [], [], [1, 2, 3, 5, 6], [0, 1, 2, 3, 4, 5, 6, 7]] 8 (by kernel_rfl) ⟨trivial, trivial, trivial, trivial, trivial, trivial, trivial, rel_stable (fun u lo hi w w' ⟨h1, h2⟩ hb => ⟨Nat.le_trans h1 hb.size, SlI.below (hb.mono h1) h2⟩), trivial⟩ ⟨?_, ?_, ?_, ?_, ?_, ?_, ?_, ?_, trivial⟩ ?_
      ·intro x w hb hk Q' hQ
       clear hk
       simp only [netE] at hQ ⊢
       go_wp2
       exact hQ _ _ (Below.refl _ _) rfl
      ·intro x w hb hk Q' hQ
       clear hk
       simp only [netE] at hQ ⊢
       have kq := hK4.out.call hb
       have z0 := kq.cell' (i := 0) rfl
       have z1 := kq.cell' (i := 1) rfl
       have z2 := kq.cell' (i := 2) rfl
       go_wp2
       exact hQ _ _ (Below.refl _ _) rfl
      ·intro x w hb hk Q' hQ
       clear hk
       simp only [netE] at hQ ⊢
       go_wp2
       exact hQ _ _ (Below.refl _ _) rfl
      ·intro x w hb hk Q' hQ
       have h1 : x.v 1 = _ := (hk 1 (by decide)).1
       have h2 : x.v 2 = _ := (hk 2 (by decide)).1
       clear hk
       simp only [netE] at hQ ⊢
       simp only [h1, h2] at hQ ⊢
       clear h1 h2
       go_wp2_with fail
       refine (row_in (g := gA) _ hlr hd0 hr hd HL.out.symm lA1 lA2 HP.out).mono ?_; rintro e w5 ⟨rfl, hb5⟩
       go_wp2
       exact hQ _ _ hb5 rfl
      ·intro x w hb hk Q' hQ
       clear hk
       simp only [netE] at hQ ⊢
       go_wp2
       exact hQ _ _ (Below.refl _ _) rfl
      ·intro x w hb hk Q' hQ
       clear hk
       simp only [netE] at hQ ⊢
       have kq := (K2.out.below hGW.out (by omega)).call hb
       have z0 := kq.cell' (i := 0) rfl
       have z1 := kq.cell' (i := 1) rfl
       have z2 := kq.cell' (i := 2) rfl
       go_wp2
       exact hQ _ _ (Below.refl _ _) rfl
      ·intro x w hb hk Q' hQ
       clear hk
       simp only [netE] at hQ ⊢
       go_wp2
       exact hQ _ _ (Below.refl _ _) rfl
      ·intro x w hb hk Q' hQ
       have h1 : x.v 1 = _ := (hk 1 (by decide)).1
       have h2 : x.v 2 = _ := (hk 2 (by decide)).1
       have h3 : x.v 3 = _ := (hk 3 (by decide)).1
       have h5 : x.v 5 = _ := (hk 5 (by decide)).1
       have h6 : x.v 6 = _ := (hk 6 (by decide)).1
       clear hk
       simp only [netE] at hQ ⊢
       simp only [h1, h2, h3, h5, h6] at hQ ⊢
       clear h1 h2 h3 h5 h6
       have gz := (G0.out.trans (hGW.out.mono (by omega))).trans (hb.mono (by omega))
       have HVR := Lib.hid (MxR.below gz HV.out)
       have gzs := gz.size
       clear gz
       go_wp2_with fail
       refine (row_rd _ c d k w0.heap.size g _ HVR.out gzs hc hd hlc).mono ?_; rintro e w5 ⟨v5, rfl, hR5, hb5⟩
       have h6 := hb5.size
       go_wp2
       exact hQ _ _ hb5 ⟨by omega, hR5⟩
      ·intro x w hb hk hiv hdj
       have h0 : x.v 0 = .int .i64 p := hk 0 (by decide)
       have h1 : x.v 1 = .agg #[.int .i64 r, .int .i64 d, .slice (some ⟨gA, 0, none⟩) L cap] := hk 1 (by decide)
       have h2 : x.v 2 = .int .i64 i := hk 2 (by decide)
       have h3 : x.v 3 = .slice (some ⟨gA, P, none⟩) d (cap - P) := hk 3 (by decide)
       have h4 : x.v 4 = .int .i64 xk := hk 4 (by decide)
       have h5 : x.v 5 = .agg #[.int .i64 c, .int .i64 d, .slice V VL vc] := hk 5 (by decide)
       have h6 : x.v 6 = .int .i64 k := hk 6 (by decide)
       have h7 : w0.heap.size ≤ w.heap.size ∧ SlI w w0.heap.size (x.v 7) (rowF d (g k)) := hk 7 (by decide)
       clear hk
       simp only [netE]
       simp only [List.drop_succ_cons, List.drop_zero, h0, h1, h2, h3, h4, h5, h6]
       clear h0 h1 h2 h3 h4 h5 h6
       obtain ⟨h71, h72⟩ := h7
       have HB := Lib.hid hb
       have HGW2 := Lib.hid ((hGW.out).trans (hb.mono (by omega)))
       have hbs := hb.size
       have hA' := hOA.out
       rw [q5] at hA'
       have hA2 := hA'.below hb
       have hPd : P + d ≤ L := by rw [← HL.out]; exact (rowP hlr hd0 hr hd HP.out).2.1
       have hrng : ∀ a, a < L → 0 ≤ muS p c i k f g (a / d) (a % d) ∧ muS p c i k f g (a / d) (a % d) ≤ 4 := fun a _ => by
        have := muS_rng (p := p) hp.1 c i k f g (a / d) (a % d)
        omega
       have hrg : ∀ b, b < d → 0 ≤ g k b ∧ g k b ≤ 4 := fun b hb => le_pred hp HG.out hlc hb
       have HRNG := Lib.hid hrng
       have HRG := Lib.hid hrg
       have HK6 := Lib.hid ((hK4.out).call hb)
       clear hA' hb hiv hdj hrng hrg
       go_wp2_with fail
       refine (addMultiple_own p xk gA P d L cap (cap - P) W.heap.size w1.heap.size (fun a => muS p c i k f g (a / d) (a % d)) (g k) _ _ hp (by omega) hA2 ⟨q1, q2⟩ hPd (by omega) ⟨by omega, by omega⟩ (by omega) (SlI.up (by omega) h72) HRNG.out HRG.out).mono ?_; rintro e w6 ⟨rfl, hO5, hc5, hs5⟩
       rw [← HX.out, HP.out, ← HL.out, mu_step, HL.out] at hO5
       have hO5' := hO5
       have k46 := (HK6.out).chg hc5 (.inr (Nat.le_refl _))
       have gW6 := (HGW2.out).trans (hc5.below (Nat.le_refl _) (by omega))
       have hR6 := SlI.below (((HB.out).mono (by omega)).trans (hc5.below (by omega) (by omega))) HRR.out
       clear hO5
       go_wp2
       go_roundw
       ·exact ⟨k + 1, by omega, by simp, k46, hO5', gW6, hR6⟩
       ·show c - (k + 1) < c - k
        omega
    ·have hk' : k = c := by omega
     subst hk'
     rw [muS_next] at oA
     go_wp2
     go_roundw
     ·exact ⟨i + 1, by omega, by simp, k4, oA, gW⟩
     ·show r - (i + 1) < r - i
      omega
  ·have hi' : i = r := by omega
   subst hi'
   rw [muS_end] at oA
   have k3' := (K3.out).below gW (by have := SZ.out; omega)
   have hlt := k4.lt
   have z0 := k4.cell' (i := 0) rfl
   have z1 := k4.cell' (i := 1) rfl
   have z2 := k4.cell' (i := 2) rfl
   have p0 := k3'.cell' (i := 0) rfl
   have p1 := k3'.cell' (i := 1) rfl
   have p2 := k3'.cell' (i := 2) rfl
   have f2 := k3'.frozen
   have h2 := chg3 wr (w0.heap.size + 1 + 1) (.int .i64 (i : Int)) (.int .i64 d) (.slice A L cap)
   have gw : Below w0.heap.size w0 wr := (G0.out).trans (gW.mono (G0.out).size)
   have gs := gw.size
   have oA2 := (oA.chg h2 (.inr (by have := SZ.out; omega))).wider (lo' := w0.heap.size) (hi' := wr.heap.size) (by have := SZ.out; omega) (by omega)
   have fg := gw.trans (h2.below (by omega) gs)
   have OA2 := Lib.hid oA2
   have FG := Lib.hid fg
   clear oA oA2 fg gw h2 k3' k4 gW
   go_wp2
   exact bodyPost_ret (v := .agg #[.int .i64 (i : Int), .int .i64 d, .slice A L cap]) (by simp [results, go_sem, p0, p1, p2]) rfl ⟨_, rfl, ⟨_, rfl, (OA2.out).wider (Nat.le_refl _) (by simp), hr1, hr2⟩, FG.out⟩
theorem SlM.atF {w : World} {B c n k R C : Nat} {A : Option Addr} {ms : List Mx} {f : Nat → Nat → Int} (h : SlM w B (.slice A n c) ms) (hn : ms.length = n) (hm : ms[k]? = some (mxF R C f)) :
  ∃ b o A' L c', A = some ⟨b, o, none⟩ ∧ b < B ∧ w.cell? ⟨b, o + k * 3, none⟩ = some (.int .i64 R) ∧ w.cell? ⟨b, o + k * 3 + 1, none⟩ = some (.int .i64 C) ∧ w.cell? ⟨b, o + k * 3 + 2, none⟩ = some (.slice A' L c') ∧ MxR w B (.agg #[.int .i64 R, .int .i64 C, .slice A' L c']) (mxF R C f) := by
 subst hn
 obtain ⟨b, o, m, A', c', h1, h2, HX, h4, h5, h6, h7, h8, h9, _⟩ := SlM.at_ h (lt_of_some hm)
 have := HX.out
 rw [hm] at this
 injection this with this
 subst this
 exact ⟨b, o, A', _, c', h1, h2, h4, h5, h6, _, rfl, h7, h8, h9⟩
def mvL (X Y : Rp) (F : Nat → Nat → Nat → Int) (V : Nat) : List Mx := (List.range V).map fun v => mxF (dmN Y.d v) (dmN X.d v) (F v)
theorem mvL_length (X Y : Rp) (F : Nat → Nat → Nat → Int) (V : Nat) : (mvL X Y F V).length = V := by simp [mvL]
theorem mvL_get (X Y : Rp) (F : Nat → Nat → Nat → Int) {V k : Nat} (h : k < V) : (mvL X Y F V)[k]? = some (mxF (dmN Y.d k) (dmN X.d k) (F k)) := by simp [mvL, h]
set_option maxHeartbeats 6400000 in
set_option maxRecDepth 100000 in
theorem shaped_any (u cv : Value) (ms : List Mx) (cs : List Int) (w0 : World) (hu : SlM w0 w0.heap.size u ms) (hc : SlI w0 w0.heap.size cv cs) (hn : ms.length ≤ 1000) (ht : totA ms ≤ cs.length) :
  Calls Tryz.prog 94 #[u, cv] w0 fun e w' => ∃ v, e = .returned v ∧ MatsO w' w0.heap.size w'.heap.size v (shL ms cs) ∧ Below w0.heap.size w0 w' := by
 obtain ⟨A, c, rfl, _, _, _, hx⟩ := hu.open_
 clear hu
 obtain ⟨CA, cc, rfl, hc1, hc2, hc3, hcx⟩ := hc.open_
 have HX := Lib.hid hx
 have HT := Lib.hid ht
 obtain ⟨n, hnl⟩ : ∃ n, ms.length = n := ⟨_, rfl⟩
 have HNL := Lib.hid hnl
 rw [hnl] at hn ⊢
 have hst : ∃ (L k0 : Nat) (A' : Option Addr) (c' : Nat), (.slice CA cs.length cc : Value) = .slice A' L c' ∧ L + totA (ms.take 0) = cs.length ∧ SlI w0 w0.heap.size (.slice A' L c') (cs.drop (totA (ms.take 0))) ∧ k0 = 0 := ⟨cs.length, 0, CA, cc, rfl, by simp [totA, tot], by simpa [totA, tot] using hcx, rfl⟩
 obtain ⟨L0, _, A0, c0, e0, l0, s0, _⟩ := hst
 have HL0 := Lib.hid l0
 have HS0 := Lib.hid s0
 rw [e0]
 clear hx ht hnl hc hcx hc1 hc2 hc3 e0 l0 s0
 go_enter Tryz.func94, Tryz.ntmps94
 go_wp2
 go_loopw [1, 5, 11] (fun cv out i wr => ∃ (k L c' : Nat) (CB : Option Addr), k ≤ n ∧ i = .int .i64 k ∧ cv = .slice CB L c' ∧ Hid (L + totA (ms.take k) = cs.length) ∧ Hid (∀ w2, Below w0.heap.size w0 w2 → SlI w2 w0.heap.size (.slice CB L c') (cs.drop (totA (ms.take k)))) ∧ MatsO wr w0.heap.size wr.heap.size out (shL (ms.take k) cs) ∧ Below w0.heap.size w0 wr) (fun _ _ i _ => n - (intOf i).toNat)
 case atStart => exact ⟨0, L0, c0, A0, Nat.zero_le _, rfl, rfl, HL0.out, fun w2 hb => SlI.below hb HS0.out, by simpa [shL] using MatsO.nil _ _ _, Below.refl _ _⟩
 case round =>
  obtain ⟨k, L, c', CB, hk, rfl, rfl, HL, HCB, hO, hbel⟩ := hrel
  have hbs := hbel.size
  have hln := shL_length (ms.take k) cs
  rw [List.length_take, show min k ms.length = k by have := HNL.out; omega] at hln
  have HLN := Lib.hid hln
  obtain ⟨OA, oc, eo, _, _⟩ := hO.form2
  rw [hln] at eo
  subst eo
  clear hln
  by_cases hlt : k < n
  ·have hx := HX.out
   obtain ⟨b, o, m, A', c'', rfl, hb, HX2, x1, x2, x3, hsl, i1, i2, _⟩ := SlM.at_ hx (by rw [HNL.out]; exact hlt)
   have d1 := bcell hbel hb x1
   have d2 := bcell hbel hb x2
   have d3 := bcell hbel hb x3
   have e1 : ms.take (k + 1) = ms.take k ++ [m] := by rw [take_snoc HX2.out]
   have hle : totA (ms.take k) + m.a.length ≤ cs.length := by
    have h1 : ms = ms.take (k + 1) ++ ms.drop (k + 1) := (List.take_append_drop _ _).symm
    have h2 := congrArg totA h1
    rw [totA_app, e1, totA_app, totA_one] at h2
    have := HT.out
    omega
   obtain ⟨S, hS⟩ : ∃ z, m.a.length = z := ⟨_, rfl⟩
   obtain ⟨T, hT⟩ : ∃ z, totA (ms.take k) = z := ⟨_, rfl⟩
   have hL := HL.out
   rw [hT] at hL
   rw [hS, hT] at hle
   rw [hS] at d3
   have HSH := Lib.hid (show shL (ms.take (k + 1)) cs = shL (ms.take k) cs ++ [⟨m.r, m.c, (cs.drop T).take S⟩] by rw [e1, shL_snoc, hS, hT])
   have HTS := Lib.hid (show totA (ms.take (k + 1)) = T + S by rw [e1, totA_app, totA_one, hS, hT])
   have HCT := Lib.hid (show ∀ w2, Below w0.heap.size w0 w2 → SlI w2 w0.heap.size (.slice CB L c') (cs.drop T) by have := HCB.out; rw [hT] at this; exact this)
   have hLc : L ≤ c' ∧ c' ≤ 9223372036854775807 := by
    obtain ⟨_, _, e, g1, g2, _⟩ := HCT.out wr hbel
    injection e with _ e2 e3
    rw [e3]
    omega
   have HDL := Lib.hid (show (cs.drop T).length = L by rw [List.length_drop]; omega)
   have hSL : S ≤ L := by omega
   have hL44 : L ≤ 17592186044416 := by
    obtain ⟨_, _, _, _, _, g3, _⟩ := (HCT.out wr hbel).open_
    have := HDL.out
    omega
   obtain ⟨W1, hW1⟩ : ∃ z, wr.alloc (.cells #[.int .i64 m.r, .int .i64 m.c, .slice A' S c''] 44) = z := ⟨_, rfl⟩
   have ga : Below wr.heap.size wr W1 := by rw [← hW1]; exact below_alloc _ _
   have kW : Blk W1 wr.heap.size 44 #[.int .i64 m.r, .int .i64 m.c, .slice A' S c''] := by rw [← hW1]; exact Blk.new _ _ _
   have z2 := kW.cell' (i := 2) rfl
   have KW := Lib.hid kW
   have HO := Lib.hid (hO.below ga)
   have HB := Lib.hid (hbel.trans (ga.mono hbs))
   have hsa := ga.size
   have hbs1 : w0.heap.size ≤ W1.heap.size := by omega
   have HI := Lib.hid (show I64 m.r ∧ I64 m.c from ⟨i1, i2⟩)
   clear hx hsl HX2 x1 x2 x3 hO hle hbel ga kW hS hT e1 i1 i2 HCB HL
   go_wp2
   clear hW1 d1 d2 d3 z2
   refine wp_region_net (by kernel_rfl) [.eq (.slice OA k oc), .eq (.pointer (some ⟨wr.heap.size, 0, none⟩)), .eq (.int .i64 m.r), .eq (.pointer (some ⟨wr.heap.size, 1, none⟩)), .eq (.int .i64 m.c), .eq (.slice CB L c'), .eq (.int .i64 S), .eq (.slice CB S c'), rel 8 (fun u lo hi w => IntsO w lo hi u ((cs.drop T).take S)), .rel (fun x w => x.v 9 = .agg #[.int .i64 m.r, .int .i64 m.c, x.v 8] ∧ IntsO w (x.lo 8) (x.hi 8) (x.v 8) ((cs.drop T).take S)), .rel (fun x w => ∃ g s, x.v 10 = .slice (some ⟨g, 0, none⟩) 1 1 ∧ x.v 9 = .agg #[.int .i64 m.r, .int .i64 m.c, s] ∧ Blk w g 44 #[.int .i64 m.r, .int .i64 m.c, s])] [[], [], [1], [], [3], [], [], [5, 6], [5, 6, 7], [1, 2, 3, 4, 5, 6, 7, 8], [1, 2, 3, 4, 5, 6, 7, 8, 9], [0, 1, 2, 3, 4, 5, 6, 7, 8, 9, 10], [0, 1, 2, 3, 4, 5, 6, 7, 8, 9, 10, 11]] 11 (by kernel_rfl) ⟨trivial, trivial, trivial, trivial, trivial, trivial, trivial, trivial, rel_stable (fun u lo hi w w' h hb => h.below hb), fun x w w' h hb => ⟨h.1, h.2.below hb⟩, fun x w w' ⟨g, s, e1, e2, h⟩ hb => ⟨g, s, e1, e2, h.call hb⟩, trivial⟩ ⟨?_, ?_, ?_, ?_, ?_, ?_, ?_, ?_, ?_, ?_, ?_, trivial⟩ ?_
   ·intro x w hb hk Q' hQ
    clear hk
    simp only [netE] at hQ ⊢
    go_wp2
    exact hQ _ _ (Below.refl _ _) rfl
   ·intro x w hb hk Q' hQ
    clear hk
    simp only [netE] at hQ ⊢
    go_wp2
    exact hQ _ _ (Below.refl _ _) rfl
   ·intro x w hb hk Q' hQ
    have h1 : x.v 1 = _ := (hk 1 (by decide)).1
    clear hk
    simp only [netE] at hQ ⊢
    simp only [h1] at hQ ⊢
    clear h1
    have z := (KW.out.call hb).cell' (i := 0) rfl
    go_wp2
    exact hQ _ _ (Below.refl _ _) rfl
   ·intro x w hb hk Q' hQ
    clear hk
    simp only [netE] at hQ ⊢
    go_wp2
    exact hQ _ _ (Below.refl _ _) rfl
   ·intro x w hb hk Q' hQ
    have h3 : x.v 3 = _ := (hk 3 (by decide)).1
    clear hk
    simp only [netE] at hQ ⊢
    simp only [h3] at hQ ⊢
    clear h3
    have z := (KW.out.call hb).cell' (i := 1) rfl
    go_wp2
    exact hQ _ _ (Below.refl _ _) rfl
   ·intro x w hb hk Q' hQ
    clear hk
    simp only [netE] at hQ ⊢
    go_wp2
    exact hQ _ _ (Below.refl _ _) rfl
   ·intro x w hb hk Q' hQ
    clear hk
    simp only [netE] at hQ ⊢
    go_wp2
    exact hQ _ _ (Below.refl _ _) rfl
   ·intro x w hb hk Q' hQ
    have h5 : x.v 5 = _ := (hk 5 (by decide)).1
    have h6 : x.v 6 = _ := (hk 6 (by decide)).1
    clear hk
    simp only [netE] at hQ ⊢
    simp only [h5, h6] at hQ ⊢
    clear h5 h6
    go_wp2
    exact hQ _ _ (Below.refl _ _) rfl
   ·intro x w hb hk Q' hQ
    have h5 : x.v 5 = _ := (hk 5 (by decide)).1
    have h6 : x.v 6 = _ := (hk 6 (by decide)).1
    have h7 : x.v 7 = _ := (hk 7 (by decide)).1
    clear hk
    simp only [netE] at hQ ⊢
    simp only [h5, h6, h7] at hQ ⊢
    clear h5 h6 h7
    have hcw := HCT.out w (HB.out.trans (hb.mono hbs1))
    rw [← HDL.out] at hcw
    have HCW := Lib.hid (SlI.more (show w0.heap.size ≤ w.heap.size by have := hb.size; omega) (SlG.takeG (k := S) hcw (by rw [HDL.out]; exact hSL)))
    clear hcw
    go_wp2_with fail
    refine (clone_own _ ((cs.drop T).take S) _ HCW.out).mono ?_; rintro e w6 ⟨v6, rfl, hR, hb6⟩
    go_wp2
    exact hQ _ _ hb6 hR
   ·intro x w hb hk Q' hQ
    have h1 : x.v 1 = _ := (hk 1 (by decide)).1
    have h2 : x.v 2 = _ := (hk 2 (by decide)).1
    have h3 : x.v 3 = _ := (hk 3 (by decide)).1
    have h4 : x.v 4 = _ := (hk 4 (by decide)).1
    have h5 : x.v 5 = _ := (hk 5 (by decide)).1
    have h6 : x.v 6 = _ := (hk 6 (by decide)).1
    have h7 : x.v 7 = _ := (hk 7 (by decide)).1
    have h8 : IntsO w (x.lo 8) (x.hi 8) (x.v 8) ((cs.drop T).take S) := (hk 8 (by decide)).1
    have s8 := (hk 8 (by decide)).2
    clear hk
    simp only [netE] at hQ ⊢
    simp only [h1, h2, h3, h4, h5, h6, h7] at hQ ⊢
    clear h1 h2 h3 h4 h5 h6 h7
    have hQ' := hQ (.agg #[.int .i64 m.r, .int .i64 m.c, x.v 8]) w (Below.refl _ _) ⟨rfl, h8⟩
    obtain ⟨sA, sc, es⟩ := h8.form
    obtain ⟨sn, hsn⟩ : ∃ n, ((cs.drop T).take S).length = n := ⟨_, rfl⟩
    rw [hsn] at es
    rw [es] at hQ' ⊢
    clear hsn h8 es hQ
    go_wp2
    exact hQ'
   ·intro x w hb hk Q' hQ
    have h1 : x.v 1 = _ := (hk 1 (by decide)).1
    have h2 : x.v 2 = _ := (hk 2 (by decide)).1
    have h3 : x.v 3 = _ := (hk 3 (by decide)).1
    have h4 : x.v 4 = _ := (hk 4 (by decide)).1
    have h5 : x.v 5 = _ := (hk 5 (by decide)).1
    have h6 : x.v 6 = _ := (hk 6 (by decide)).1
    have h7 : x.v 7 = _ := (hk 7 (by decide)).1
    have h8 : IntsO w (x.lo 8) (x.hi 8) (x.v 8) ((cs.drop T).take S) := (hk 8 (by decide)).1
    have h9 : x.v 9 = .agg #[.int .i64 m.r, .int .i64 m.c, x.v 8] ∧ IntsO w (x.lo 8) (x.hi 8) (x.v 8) ((cs.drop T).take S) := (hk 9 (by decide)).1
    have s8 := (hk 8 (by decide)).2
    have s9 := (hk 9 (by decide)).2
    clear hk
    simp only [netE] at hQ ⊢
    simp only [h1, h2, h3, h4, h5, h6, h7] at hQ ⊢
    clear h1 h2 h3 h4 h5 h6 h7
    obtain ⟨e9, h9s⟩ := h9
    obtain ⟨sA, sc, es⟩ := h9s.form
    obtain ⟨sn, hsn⟩ : ∃ n, ((cs.drop T).take S).length = n := ⟨_, rfl⟩
    rw [hsn] at es
    rw [es] at e9
    clear hsn h9s es
    have hQ' := hQ (.slice (some ⟨w.heap.size, 0, none⟩) 1 1) (w.alloc (.cells #[.int .i64 m.r, .int .i64 m.c, .slice sA sn sc] 44)) (below_alloc _ _) ⟨_, _, rfl, e9, Blk.new _ _ _⟩
    rw [e9] at hQ' ⊢
    go_wp2
    exact hQ'
   ·intro x w hb hk hiv hdj
    have h0 : x.v 0 = .slice OA k oc := hk 0 (by decide)
    have h1 : x.v 1 = .pointer (some ⟨wr.heap.size, 0, none⟩) := hk 1 (by decide)
    have h2 : x.v 2 = .int .i64 m.r := hk 2 (by decide)
    have h3 : x.v 3 = .pointer (some ⟨wr.heap.size, 1, none⟩) := hk 3 (by decide)
    have h4 : x.v 4 = .int .i64 m.c := hk 4 (by decide)
    have h5 : x.v 5 = .slice CB L c' := hk 5 (by decide)
    have h6 : x.v 6 = .int .i64 S := hk 6 (by decide)
    have h7 : x.v 7 = .slice CB S c' := hk 7 (by decide)
    have h8 : IntsO w (x.lo 8) (x.hi 8) (x.v 8) ((cs.drop T).take S) := hk 8 (by decide)
    have h9 : x.v 9 = .agg #[.int .i64 m.r, .int .i64 m.c, x.v 8] ∧ IntsO w (x.lo 8) (x.hi 8) (x.v 8) ((cs.drop T).take S) := hk 9 (by decide)
    have h10 : ∃ g s, x.v 10 = .slice (some ⟨g, 0, none⟩) 1 1 ∧ x.v 9 = .agg #[.int .i64 m.r, .int .i64 m.c, s] ∧ Blk w g 44 #[.int .i64 m.r, .int .i64 m.c, s] := hk 10 (by decide)
    clear hk
    simp only [netE]
    simp only [List.drop_succ_cons, List.drop_zero, h0, h1, h2, h3, h4, h5, h6, h7]
    clear h0 h1 h2 h3 h4 h5 h6 h7
    obtain ⟨g, s, ej, ei, hg⟩ := h10
    have li := (hiv 8 (by decide)).1
    have hi_ := (hiv 8 (by decide)).2.2
    obtain ⟨e9, hs⟩ := h9
    rw [e9] at ei
    simp only [Value.agg.injEq, Array.mk.injEq, List.cons.injEq, and_true, true_and] at ei
    rw [ei] at hs
    rw [ej]
    have hbs2 := hb.size
    have HOZ := Lib.hid (HO.out.below hb)
    have HKZ := Lib.hid hg
    have HSZ := Lib.hid (hs.wider li hi_)
    have HBZ := Lib.hid (HB.out.trans (hb.mono hbs1))
    clear hiv hdj hs ej ei hg hb e9 h8
    refine wpList_appMats (by rfl) (.tmp 18) (.tmp 28) (by rfl) w0.heap.size wr.heap.size _ (shL (ms.take k) cs) (by rfl) HOZ.out g 1 W1.heap.size w.heap.size ⟨m.r, m.c, (cs.drop T).take S⟩ s (by rfl) HKZ.out HSZ.out HI.out hsa hbs (Nat.le_refl _) (by omega) (by rw [HLN.out]; omega) ?_
    intro v' w' h1 h2
    rw [← HSH.out] at h1
    have H1 := Lib.hid h1
    have H2 := Lib.hid (HBZ.out.trans (h2.below (Nat.le_refl _) (by omega)))
    clear h1 h2
    go_wp2
    go_roundw
    case rel =>
     refine ⟨k + 1, L - S, c' - S, _, by omega, by go_num, rfl, by have := HTS.out; show L - S + _ = _; omega, fun w2 hb2 => ?_, H1.out, H2.out⟩
     have h2 := HCT.out w2 hb2
     have hcl := HDL.out
     rw [← hcl] at h2
     obtain ⟨CB', eCB, h3⟩ := SlG.cut (i := S) (k := L) h2 hSL (Nat.le_of_eq hcl.symm)
     rw [List.take_of_length_le (by rw [List.length_drop, hcl]; exact Nat.le_refl _), List.drop_drop, ← HTS.out] at h3
     rw [← eCB, Nat.mul_one] at h3
     exact h3
    case measure => simp [intOf]; omega
  ·obtain rfl : k = n := by omega
   have e0 : ms.take k = ms := List.take_of_length_le (by have := HNL.out; omega)
   rw [e0] at hO
   have HO := Lib.hid hO
   have HB := Lib.hid hbel
   clear hO hbel e0
   go_wp2
   go_ret
   exact ⟨_, rfl, HO.out, HB.out⟩
set_option maxHeartbeats 12800000 in
set_option maxRecDepth 100000 in
theorem coboundary_any (ua ub fv : Value) (X Y : Rp) (F : Nat → Nat → Nat → Int) (w0 : World) (ha : RpR w0 w0.heap.size ua X) (hb : RpR w0 w0.heap.size ub Y) (hfv : SlM w0 w0.heap.size fv (mvL X Y F X.d.length)) (hf : Fit2 X Y) (hF : ∀ v, v < X.d.length → InF X.p (dmN Y.d v) (dmN X.d v) (F v)) :
  Calls Tryz.prog 93 #[ua, ub, fv] w0 fun e w' => ∃ v, e = .returned v ∧ MatsO w' w0.heap.size w'.heap.size v (cbL X Y F X.q.f.length) ∧ Below w0.heap.size w0 w' := by
 obtain ⟨FA, fc, rfl, _, _, _, hfx⟩ := hfv.open_
 clear hfv
 rw [mvL_length] at hfx ⊢
 have ha' := ha
 have hb' := hb
 obtain ⟨A, a, C, c, Ea, ea, Ha, ha_, rfl, hqa, hda, hma, hpa, lda, lma⟩ := ha.open_
 obtain ⟨A2, a2, C2, c2, Eb, eb, Hb, hb_, rfl, hqb, hdb, hmb, hpb, ldb, lmb⟩ := hb.open_
 clear ha hb
 obtain ⟨W, hW⟩ : ∃ W, W = (w0.alloc (.cells #[.int .i64 X.p, .int .i64 X.q.v, .slice A X.q.f.length a, .slice C X.q.t.length c, .slice Ea X.d.length ea, .slice Ha X.m.length ha_] 31)).alloc (.cells #[.int .i64 Y.p, .int .i64 Y.q.v, .slice A2 Y.q.f.length a2, .slice C2 Y.q.t.length c2, .slice Eb Y.d.length eb, .slice Hb Y.m.length hb_] 31) := ⟨_, rfl⟩
 have g0 : Below w0.heap.size w0 W := by rw [hW]; exact ((Below.refl _ _).alloc (Nat.le_refl _) _).alloc (by simp) _
 have k1 : Blk W w0.heap.size 31 #[.int .i64 X.p, .int .i64 X.q.v, .slice A X.q.f.length a, .slice C X.q.t.length c, .slice Ea X.d.length ea, .slice Ha X.m.length ha_] := by rw [hW]; exact (Blk.new _ _ _).alloc _
 have k2 : Blk W (w0.heap.size + 1) 31 #[.int .i64 Y.p, .int .i64 Y.q.v, .slice A2 Y.q.f.length a2, .slice C2 Y.q.t.length c2, .slice Eb Y.d.length eb, .slice Hb Y.m.length hb_] := by
  rw [hW]
  have := Blk.new (w0.alloc (.cells #[.int .i64 X.p, .int .i64 X.q.v, .slice A X.q.f.length a, .slice C X.q.t.length c, .slice Ea X.d.length ea, .slice Ha X.m.length ha_] 31)) 31 #[.int .i64 Y.p, .int .i64 Y.q.v, .slice A2 Y.q.f.length a2, .slice C2 Y.q.t.length c2, .slice Eb Y.d.length eb, .slice Hb Y.m.length hb_]
  simpa only [World.size_alloc] using this
 have HXA := Lib.hid (RpR.next g0 ha')
 have HXB := Lib.hid (RpR.next g0 hb')
 have HQA := Lib.hid (QvR.next g0 hqa)
 have HDA := Lib.hid (SlI.next g0 hda)
 have HDB := Lib.hid (SlI.next g0 hdb)
 have HMA := Lib.hid (SlM.next g0 hma)
 have HMB := Lib.hid (SlM.next g0 hmb)
 have G0 := Lib.hid g0
 clear ha' hb' hqa hqb hda hdb hma hmb hpa hpb g0
 have HFV := Lib.hid (SlM.next G0.out hfx)
 have HF := Lib.hid hf
 have HFF := Lib.hid hF
 have hp2 := hf.p2
 obtain ⟨hN6, hlm, hlmy, hTl⟩ := hf.arrs
 have HLM := Lib.hid hlm
 have HLMY := Lib.hid hlmy
 obtain ⟨_, _, _, _, eqq, hfs, hts, _⟩ := HQA.out.open_
 simp only [Value.agg.injEq, Array.mk.injEq, List.cons.injEq, and_true, Value.slice.injEq, true_and] at eqq
 obtain ⟨⟨rfl, rfl⟩, rfl, rfl⟩ := eqq
 have HFS := Lib.hid hfs
 have HTS := Lib.hid hts
 have c2_ := k1.cell' (i := 2) rfl
 clear hf hfs hts hfx hF hlm hlmy hTl
 go_enter Tryz.func93, Tryz.ntmps93
 go_wp2
 rw [← hW]; clear hW
 go_loopw [7, 15] (fun out i wr => ∃ k : Nat, k ≤ X.q.f.length ∧ i = .int .i64 k ∧ MatsO wr W.heap.size wr.heap.size out (cbL X Y F k) ∧ Below W.heap.size W wr) (fun _ i _ => X.q.f.length - (intOf i).toNat)
 case atStart => exact ⟨0, Nat.zero_le _, rfl, MatsO.nil _ _ _, Below.refl _ _⟩
 case round =>
  obtain ⟨k, hk, rfl, hO, hbel⟩ := hrel
  have hbs := hbel.size
  obtain ⟨OA, oc, eo, _, _⟩ := hO.form2
  rw [cbL_length] at eo
  subst eo
  by_cases hlt : k < X.q.f.length
  ·obtain ⟨ef, et, lf, lt, hkt, emx, emy, hIx, hIy⟩ := HF.out.arr hlt
   have hIf := HFF.out _ lf
   have hIt := HFF.out _ lt
   have bf4 := HF.out.dims (srN X.q k)
   have bt4 := HF.out.dims (tgN X.q k)
   have gf := mvL_get X Y F lf
   have gt_ := mvL_get X Y F lt
   have HZS := Lib.hid (cbL_succ X Y F k)
   have HCB := Lib.hid (show cbF X Y F k = plF X.p (X.p - 1) (muP X.p (dmN Y.d (srN X.q k)) (arF Y k) (F (srN X.q k))) (muP X.p (dmN X.d (tgN X.q k)) (F (tgN X.q k)) (arF X k)) from rfl)
   obtain ⟨nf, hnf⟩ : ∃ n, srN X.q k = n := ⟨_, rfl⟩
   obtain ⟨nt, hnt⟩ : ∃ n, tgN X.q k = n := ⟨_, rfl⟩
   rw [hnf] at ef lf emx emy hIx hIy hIf bf4 gf HZS HCB
   rw [hnt] at et lt emx emy hIx hIy hIt bt4 gt_ HZS HCB
   obtain ⟨DXF, e1⟩ : ∃ n, dmN X.d nf = n := ⟨_, rfl⟩
   obtain ⟨DYF, e2⟩ : ∃ n, dmN Y.d nf = n := ⟨_, rfl⟩
   obtain ⟨DXT, e3⟩ : ∃ n, dmN X.d nt = n := ⟨_, rfl⟩
   obtain ⟨DYT, e4⟩ : ∃ n, dmN Y.d nt = n := ⟨_, rfl⟩
   simp only [e1, e2, e3, e4] at emx emy hIx hIy hIf hIt bf4 bt4 gf gt_ HZS HCB
   obtain ⟨CF, hCF⟩ : ∃ n, cbF X Y F k = n := ⟨_, rfl⟩
   rw [hCF] at HZS HCB
   clear hnf hnt e1 e2 e3 e4 hCF
   obtain ⟨bf, of_, x1, e1, hbf, HX1, z1, _, _⟩ := SlI.at_ HFS.out hlt
   obtain ⟨bt, ot, x2, e2, hbt, HX2, z2, _, _⟩ := SlI.at_ HTS.out hkt
   subst e1 e2
   have q1 := HX1.out
   rw [ef] at q1
   injection q1 with q1
   subst q1
   have q2 := HX2.out
   rw [et] at q2
   injection q2 with q2
   subst q2
   obtain ⟨bx, ox, AX, LX, cx, e1, hbx, mx0_, mx1, mx2, MX⟩ := SlM.atF HMA.out rfl emx
   obtain ⟨by_, oy, AY, LY, cy, e2, hby, my0, my1, my2, MY⟩ := SlM.atF HMB.out rfl emy
   subst e1 e2
   obtain ⟨bg, og, AF, LF, cf, e1, hbg, mf0, mf1, mf2, MF⟩ := SlM.atF HFV.out (mvL_length _ _ _ _) gf
   obtain ⟨bg', og', AG, LG, cg, e2, _, mg0, mg1, mg2, MG⟩ := SlM.atF HFV.out (mvL_length _ _ _ _) gt_
   rw [e1] at e2
   injection e2 with e2
   injection e2 with e2 e3
   subst e2 e3
   subst e1
   clear HX1 HX2 ef et emx emy gf gt_
   have K1 := Lib.hid (k1.call hbel)
   have K2 := Lib.hid (k2.call hbel)
   have y1 := bcell hbel hbf z1
   have Y2 := Lib.hid (bcell hbel hbt z2)
   have HO := Lib.hid hO
   have HB := Lib.hid hbel
   have MX0 := Lib.hid (bcell hbel hbx mx0_)
   have MX1 := Lib.hid (bcell hbel hbx mx1)
   have MX2 := Lib.hid (bcell hbel hbx mx2)
   have MY0 := Lib.hid (bcell hbel hby my0)
   have MY1 := Lib.hid (bcell hbel hby my1)
   have MY2 := Lib.hid (bcell hbel hby my2)
   have MF0 := Lib.hid (bcell hbel hbg mf0)
   have MF1 := Lib.hid (bcell hbel hbg mf1)
   have MF2 := Lib.hid (bcell hbel hbg mf2)
   have MG0 := Lib.hid (bcell hbel hbg mg0)
   have MG1 := Lib.hid (bcell hbel hbg mg1)
   have MG2 := Lib.hid (bcell hbel hbg mg2)
   have HMX := Lib.hid (MxR.more hbs (MxR.below hbel MX))
   have HMY := Lib.hid (MxR.more hbs (MxR.below hbel MY))
   have HMF := Lib.hid (MxR.more hbs (MxR.below hbel MF))
   have HMG := Lib.hid (MxR.more hbs (MxR.below hbel MG))
   have HIX := Lib.hid hIx
   have HIY := Lib.hid hIy
   have HIF := Lib.hid hIf
   have HIT := Lib.hid hIt
   clear hO hbel z1 z2 c2_ mx0_ mx1 mx2 my0 my1 my2 mf0 mf1 mf2 mg0 mg1 mg2 MX MY MF MG hIx hIy hIf hIt
   have a1' : (k : Int) < Y.m.length := by have := HLMY.out; omega
   have a2' : (k : Int) < X.m.length := by have := HLM.out; omega
   have a3' : (nf : Int) < X.d.length := by omega
   have a4' : (nt : Int) < X.d.length := by omega
   have a5' : (k : Int) < X.q.t.length := by omega
   have a6' : (0 : Int) ≤ (nf : Int) := by omega
   have a7' : (0 : Int) ≤ (nt : Int) := by omega
   go_wp2
   clear y1
   refine wp_region_net (by kernel_rfl) [.eq (.pointer (some ⟨w0.heap.size, 0, none⟩)), .eq (.int .i64 X.p), .eq (.pointer (some ⟨w0.heap.size + 1, 5, none⟩)), .eq (.slice (some ⟨by_, oy, none⟩) Y.m.length hb_), .eq (.int .i64 k), .eq (.pointer (some ⟨by_, oy + k * 3, none⟩)), .eq (.agg #[.int .i64 DYT, .int .i64 DYF, .slice AY LY cy]), .eq (.slice (some ⟨bg, og, none⟩) X.d.length fc), .eq (.int .i64 nf), .eq (.pointer (some ⟨bg, og + nf * 3, none⟩)), .eq (.agg #[.int .i64 DYF, .int .i64 DXF, .slice AF LF cf]), rel 11 (fun u lo hi w => MxO w lo hi u (mxF DYT DXF (muP X.p DYF (arF Y k) (F nf)))), rel 12 (fun u lo hi w => ∃ g, u = .pointer (some ⟨g, 0, none⟩) ∧ lo ≤ g ∧ Blk w g 44 #[.int .i64 0, .int .i64 0, .slice none 0 0])] [[], [0], [], [2], [], [2, 3, 4], [2, 3, 4, 5], [], [], [7, 8], [7, 8, 9], [0, 1, 2, 3, 4, 5, 6, 7, 8, 9, 10], [], [0, 1, 2, 3, 4, 5, 6, 7, 8, 9, 10, 11, 12]] 13 (by kernel_rfl) ⟨trivial, trivial, trivial, trivial, trivial, trivial, trivial, trivial, trivial, trivial, trivial, rel_stable (fun u lo hi w w' h hb => h.below hb), rel_stable (fun u lo hi w w' ⟨g, e, h1, h⟩ hb => ⟨g, e, h1, h.call hb⟩), trivial⟩ ⟨?_, ?_, ?_, ?_, ?_, ?_, ?_, ?_, ?_, ?_, ?_, ?_, ?_, trivial⟩ ?_
   ·intro x w hb hk Q' hQ
    clear hk
    simp only [netE] at hQ ⊢
    go_wp2
    exact hQ _ _ (Below.refl _ _) rfl
   ·intro x w hb hk Q' hQ
    have h0 : x.v 0 = _ := (hk 0 (by decide)).1
    clear hk
    simp only [netE] at hQ ⊢
    simp only [h0] at hQ ⊢
    clear h0
    have z := (K1.out.call hb).cell' (i := 0) rfl
    go_wp2
    exact hQ _ _ (Below.refl _ _) rfl
   ·intro x w hb hk Q' hQ
    clear hk
    simp only [netE] at hQ ⊢
    go_wp2
    exact hQ _ _ (Below.refl _ _) rfl
   ·intro x w hb hk Q' hQ
    have h2 : x.v 2 = _ := (hk 2 (by decide)).1
    clear hk
    simp only [netE] at hQ ⊢
    simp only [h2] at hQ ⊢
    clear h2
    have z := (K2.out.call hb).cell' (i := 5) rfl
    go_wp2
    exact hQ _ _ (Below.refl _ _) rfl
   ·intro x w hb hk Q' hQ
    clear hk
    simp only [netE] at hQ ⊢
    go_wp2
    exact hQ _ _ (Below.refl _ _) rfl
   ·intro x w hb hk Q' hQ
    have h3 : x.v 3 = _ := (hk 3 (by decide)).1
    have h4 : x.v 4 = _ := (hk 4 (by decide)).1
    clear hk
    simp only [netE] at hQ ⊢
    simp only [h3, h4] at hQ ⊢
    clear h3 h4
    go_wp2
    exact hQ _ _ (Below.refl _ _) rfl
   ·intro x w hb hk Q' hQ
    have h5 : x.v 5 = _ := (hk 5 (by decide)).1
    clear hk
    simp only [netE] at hQ ⊢
    simp only [h5] at hQ ⊢
    clear h5
    have q0 := bcell hb (by omega) MY0.out
    have q1 := bcell hb (by omega) MY1.out
    have q2 := bcell hb (by omega) MY2.out
    go_wp2
    exact hQ _ _ (Below.refl _ _) rfl
   ·intro x w hb hk Q' hQ
    clear hk
    simp only [netE] at hQ ⊢
    go_wp2
    exact hQ _ _ (Below.refl _ _) rfl
   ·intro x w hb hk Q' hQ
    clear hk
    simp only [netE] at hQ ⊢
    go_wp2
    exact hQ _ _ (Below.refl _ _) rfl
   ·intro x w hb hk Q' hQ
    have h7 : x.v 7 = _ := (hk 7 (by decide)).1
    have h8 : x.v 8 = _ := (hk 8 (by decide)).1
    clear hk
    simp only [netE] at hQ ⊢
    simp only [h7, h8] at hQ ⊢
    clear h7 h8
    go_wp2
    exact hQ _ _ (Below.refl _ _) rfl
   ·intro x w hb hk Q' hQ
    have h9 : x.v 9 = _ := (hk 9 (by decide)).1
    clear hk
    simp only [netE] at hQ ⊢
    simp only [h9] at hQ ⊢
    clear h9
    have q0 := bcell hb (by omega) MF0.out
    have q1 := bcell hb (by omega) MF1.out
    have q2 := bcell hb (by omega) MF2.out
    go_wp2
    exact hQ _ _ (Below.refl _ _) rfl
   ·intro x w hb hk Q' hQ
    have h0 : x.v 0 = _ := (hk 0 (by decide)).1
    have h1 : x.v 1 = _ := (hk 1 (by decide)).1
    have h2 : x.v 2 = _ := (hk 2 (by decide)).1
    have h3 : x.v 3 = _ := (hk 3 (by decide)).1
    have h4 : x.v 4 = _ := (hk 4 (by decide)).1
    have h5 : x.v 5 = _ := (hk 5 (by decide)).1
    have h6 : x.v 6 = _ := (hk 6 (by decide)).1
    have h7 : x.v 7 = _ := (hk 7 (by decide)).1
    have h8 : x.v 8 = _ := (hk 8 (by decide)).1
    have h9 : x.v 9 = _ := (hk 9 (by decide)).1
    have h10 : x.v 10 = _ := (hk 10 (by decide)).1
    clear hk
    simp only [netE] at hQ ⊢
    simp only [h0, h1, h2, h3, h4, h5, h6, h7, h8, h9, h10] at hQ ⊢
    clear h0 h1 h2 h3 h4 h5 h6 h7 h8 h9 h10
    have hA := Lib.hid (MxR.next hb HMY.out)
    have hB := Lib.hid (MxR.next hb HMF.out)
    go_wp2_with fail
    refine (times_any X.p _ _ DYT DYF DXF (arF Y k) (F nf) _ hp2 (by omega) (by omega) (by omega) hA.out hB.out HIY.out HIF.out).mono ?_; rintro e w3 ⟨v3, rfl, hZ, hb3⟩
    go_wp2
    exact hQ _ _ hb3 hZ
   ·intro x w hb hk Q' hQ
    clear hk
    simp only [netE] at hQ ⊢
    go_wp2
    exact hQ _ _ (below_alloc _ _) ⟨_, rfl, Nat.le_refl _, Blk.new _ _ _⟩
   ·intro x w hb hk hiv hdj
    have h0 : x.v 0 = .pointer (some ⟨w0.heap.size, 0, none⟩) := hk 0 (by decide)
    have h1 : x.v 1 = .int .i64 X.p := hk 1 (by decide)
    have h2 : x.v 2 = .pointer (some ⟨w0.heap.size + 1, 5, none⟩) := hk 2 (by decide)
    have h3 : x.v 3 = .slice (some ⟨by_, oy, none⟩) Y.m.length hb_ := hk 3 (by decide)
    have h4 : x.v 4 = .int .i64 k := hk 4 (by decide)
    have h5 : x.v 5 = .pointer (some ⟨by_, oy + k * 3, none⟩) := hk 5 (by decide)
    have h6 : x.v 6 = .agg #[.int .i64 DYT, .int .i64 DYF, .slice AY LY cy] := hk 6 (by decide)
    have h7 : x.v 7 = .slice (some ⟨bg, og, none⟩) X.d.length fc := hk 7 (by decide)
    have h8 : x.v 8 = .int .i64 nf := hk 8 (by decide)
    have h9 : x.v 9 = .pointer (some ⟨bg, og + nf * 3, none⟩) := hk 9 (by decide)
    have h10 : x.v 10 = .agg #[.int .i64 DYF, .int .i64 DXF, .slice AF LF cf] := hk 10 (by decide)
    have h11 : MxO w (x.lo 11) (x.hi 11) (x.v 11) (mxF DYT DXF (muP X.p DYF (arF Y k) (F nf))) := hk 11 (by decide)
    have h12 : ∃ g, (x.v 12) = .pointer (some ⟨g, 0, none⟩) ∧ (x.lo 12) ≤ g ∧ Blk w g 44 #[.int .i64 0, .int .i64 0, .slice none 0 0] := hk 12 (by decide)
    clear hk
    simp only [netE]
    simp only [List.drop_succ_cons, List.drop_zero, h0, h1, h2, h3, h4, h5, h6, h7, h8, h9, h10]
    clear h0 h1 h2 h3 h4 h5 h6 h7 h8 h9 h10
    obtain ⟨g5, e12, hg5, k5'⟩ := h12
    have li12 := (hiv 12 (by decide)).1
    rw [e12]
    have hM11 := ((h11.setBlk (i := 0) k5' (by decide) (.int .i64 DYT)).setBlk (i := 1) (k5'.set_ 0 _) (by decide) (.int .i64 DXF))
    obtain ⟨s1, e11, hs, hI1⟩ := h11
    obtain ⟨s1A, s1c, es⟩ := hs.form
    obtain ⟨s1n, hs1n⟩ : ∃ n, (mxF DYT DXF (muP X.p DYF (arF Y k) (F nf))).a.length = n := ⟨_, rfl⟩
    rw [hs1n] at es
    subst es
    simp only [mxF] at e11
    rw [e11] at hM11 ⊢
    have hM12 := hM11.setBlk (i := 2) ((k5'.set_ 0 (.int .i64 DYT)).set_ 1 (.int .i64 DXF)) (by decide) (.slice s1A s1n s1c)
    obtain ⟨W5, hW5⟩ : ∃ z, ((w.setCell ⟨g5, 0, none⟩ (.int .i64 DYT)).setCell ⟨g5, 1, none⟩ (.int .i64 DXF)).setCell ⟨g5, 2, none⟩ (.slice s1A s1n s1c) = z := ⟨_, rfl⟩
    have k5 : Blk W5 g5 44 #[.int .i64 DYT, .int .i64 DXF, .slice s1A s1n s1c] := by rw [← hW5]; exact ((k5'.set_ 0 _).set_ 1 _).set_ 2 _
    have hcs : ∀ (w : World) (i : Nat) (u : Value), Chg g5 (g5 + 1) w (w.setCell ⟨g5, i, none⟩ u) := fun w i u => chg_set (Nat.le_refl _) (Nat.lt_succ_self _)
    have hc5 : Chg g5 (g5 + 1) w W5 := by rw [← hW5]; exact ((hcs _ _ _).trans (hcs _ _ _)).trans (hcs _ _ _)
    clear hcs
    rw [hW5] at hM12
    have hbs5 := hb.size
    have hb5 : Below wr.heap.size wr W5 := hb.trans (hc5.below (by omega) hbs5)
    have K5 := Lib.hid k5
    have HM5 := Lib.hid (show MxR W5 W5.heap.size (.agg #[.int .i64 DYT, .int .i64 DXF, .slice s1A s1n s1c]) (mxF DYT DXF (muP X.p DYF (arF Y k) (F nf))) from hM12.rd)
    have HB5 := Lib.hid hb5
    have hsz5 := hb5.size
    have HO5 := Lib.hid (HO.out.below hb5)
    have fr5 := k5'.frozen
    have z0_ := k5'.cell' (i := 0) rfl
    have z1_ := k5'.cell' (i := 1) rfl
    have z2_ := k5'.cell' (i := 2) rfl
    clear hiv hdj hs e11 hs1n k5 hb5 hI1 hb hc5 hM11 hM12 k5' e12
    go_wp2
    clear hW5 fr5 z0_ z1_ z2_
    have sW := HB.out.size
    have KK1 := Lib.hid (K1.out.call HB5.out)
    have KK2 := Lib.hid (K2.out.call HB5.out)
    have HMX5 := Lib.hid (MxR.next HB5.out HMX.out)
    have HMG5 := Lib.hid (MxR.next HB5.out HMG.out)
    refine wp_region_net (by kernel_rfl) [.eq (.slice OA k oc), .eq (.pointer (some ⟨w0.heap.size, 0, none⟩)), .eq (.int .i64 X.p), .eq (.agg #[.int .i64 DYT, .int .i64 DXF, .slice s1A s1n s1c]), .eq (.pointer (some ⟨w0.heap.size, 0, none⟩)), .eq (.int .i64 X.p), .eq (.int .i64 (X.p - 1)), .eq (.pointer (some ⟨w0.heap.size, 0, none⟩)), .eq (.int .i64 X.p), .eq (.slice (some ⟨bg, og, none⟩) X.d.length fc), .eq (.pointer (some ⟨w0.heap.size, 1, none⟩)), .eq (.pointer (some ⟨w0.heap.size, 3, none⟩)), .eq (.slice (some ⟨bt, ot, none⟩) X.q.t.length c), .eq (.int .i64 k), .eq (.pointer (some ⟨bt, ot + k, none⟩)), .eq (.int .i64 nt), .eq (.pointer (some ⟨bg, og + nt * 3, none⟩)), .eq (.agg #[.int .i64 DYT, .int .i64 DXT, .slice AG LG cg]), .eq (.pointer (some ⟨w0.heap.size, 5, none⟩)), .eq (.slice (some ⟨bx, ox, none⟩) X.m.length ha_), .eq (.int .i64 k), .eq (.pointer (some ⟨bx, ox + k * 3, none⟩)), .eq (.agg #[.int .i64 DXT, .int .i64 DXF, .slice AX LX cx]), rel 23 (fun u lo hi w => MxO w lo hi u (mxF DYT DXF (muP X.p DXT (F nt) (arF X k)))), rel 24 (fun u lo hi w => MxO w lo hi u (mxF DYT DXF CF)), .rel (fun x w => ∃ g s, x.v 25 = .slice (some ⟨g, 0, none⟩) 1 1 ∧ x.v 24 = .agg #[.int .i64 DYT, .int .i64 DXF, s] ∧ Blk w g 44 #[.int .i64 DYT, .int .i64 DXF, s])] [[], [], [1], [], [], [4], [4, 5], [], [7], [], [], [10], [10, 11], [], [10, 11, 12, 13], [10, 11, 12, 13, 14], [9, 10, 11, 12, 13, 14, 15], [9, 10, 11, 12, 13, 14, 15, 16], [], [18], [], [18, 19, 20], [18, 19, 20, 21], [7, 8, 9, 10, 11, 12, 13, 14, 15, 16, 17, 18, 19, 20, 21, 22], [1, 2, 3, 4, 5, 6, 7, 8, 9, 10, 11, 12, 13, 14, 15, 16, 17, 18, 19, 20, 21, 22, 23], [1, 2, 3, 4, 5, 6, 7, 8, 9, 10, 11, 12, 13, 14, 15, 16, 17, 18, 19, 20, 21, 22, 23, 24], [0, 1, 2, 3, 4, 5, 6, 7, 8, 9, 10, 11, 12, 13, 14, 15, 16, 17, 18, 19, 20, 21, 22, 23, 24, 25], [0, 1, 2, 3, 4, 5, 6, 7, 8, 9, 10, 11, 12, 13, 14, 15, 16, 17, 18, 19, 20, 21, 22, 23, 24, 25, 26]] 26 (by kernel_rfl) ⟨trivial, trivial, trivial, trivial, trivial, trivial, trivial, trivial, trivial, trivial, trivial, trivial, trivial, trivial, trivial, trivial, trivial, trivial, trivial, trivial, trivial, trivial, trivial, rel_stable (fun u lo hi w w' h hb => h.below hb), rel_stable (fun u lo hi w w' h hb => h.below hb), fun x w w' ⟨g, s, e1, e2, h⟩ hb => ⟨g, s, e1, e2, h.call hb⟩, trivial⟩ ⟨?_, ?_, ?_, ?_, ?_, ?_, ?_, ?_, ?_, ?_, ?_, ?_, ?_, ?_, ?_, ?_, ?_, ?_, ?_, ?_, ?_, ?_, ?_, ?_, ?_, ?_, trivial⟩ ?_
    ·intro x w hb hk Q' hQ
     clear hk
     simp only [netE] at hQ ⊢
     go_wp2
     exact hQ _ _ (Below.refl _ _) rfl
    ·intro x w hb hk Q' hQ
     clear hk
     simp only [netE] at hQ ⊢
     go_wp2
     exact hQ _ _ (Below.refl _ _) rfl
    ·intro x w hb hk Q' hQ
     have h1 : x.v 1 = _ := (hk 1 (by decide)).1
     clear hk
     simp only [netE] at hQ ⊢
     simp only [h1] at hQ ⊢
     clear h1
     have z := (KK1.out.call hb).cell' (i := 0) rfl
     go_wp2
     exact hQ _ _ (Below.refl _ _) rfl
    ·intro x w hb hk Q' hQ
     clear hk
     simp only [netE] at hQ ⊢
     have q0 := (K5.out.call hb).cell' (i := 0) rfl
     have q1 := (K5.out.call hb).cell' (i := 1) rfl
     have q2 := (K5.out.call hb).cell' (i := 2) rfl
     go_wp2
     exact hQ _ _ (Below.refl _ _) rfl
    ·intro x w hb hk Q' hQ
     clear hk
     simp only [netE] at hQ ⊢
     go_wp2
     exact hQ _ _ (Below.refl _ _) rfl
    ·intro x w hb hk Q' hQ
     have h4 : x.v 4 = _ := (hk 4 (by decide)).1
     clear hk
     simp only [netE] at hQ ⊢
     simp only [h4] at hQ ⊢
     clear h4
     have z := (KK1.out.call hb).cell' (i := 0) rfl
     go_wp2
     exact hQ _ _ (Below.refl _ _) rfl
    ·intro x w hb hk Q' hQ
     have h5 : x.v 5 = _ := (hk 5 (by decide)).1
     clear hk
     simp only [netE] at hQ ⊢
     simp only [h5] at hQ ⊢
     clear h5
     go_wp2
     exact hQ _ _ (Below.refl _ _) rfl
    ·intro x w hb hk Q' hQ
     clear hk
     simp only [netE] at hQ ⊢
     go_wp2
     exact hQ _ _ (Below.refl _ _) rfl
    ·intro x w hb hk Q' hQ
     have h7 : x.v 7 = _ := (hk 7 (by decide)).1
     clear hk
     simp only [netE] at hQ ⊢
     simp only [h7] at hQ ⊢
     clear h7
     have z := (KK1.out.call hb).cell' (i := 0) rfl
     go_wp2
     exact hQ _ _ (Below.refl _ _) rfl
    ·intro x w hb hk Q' hQ
     clear hk
     simp only [netE] at hQ ⊢
     go_wp2
     exact hQ _ _ (Below.refl _ _) rfl
    ·intro x w hb hk Q' hQ
     clear hk
     simp only [netE] at hQ ⊢
     go_wp2
     exact hQ _ _ (Below.refl _ _) rfl
    ·intro x w hb hk Q' hQ
     have h10 : x.v 10 = _ := (hk 10 (by decide)).1
     clear hk
     simp only [netE] at hQ ⊢
     simp only [h10] at hQ ⊢
     clear h10
     go_wp2
     exact hQ _ _ (Below.refl _ _) rfl
    ·intro x w hb hk Q' hQ
     have h11 : x.v 11 = _ := (hk 11 (by decide)).1
     clear hk
     simp only [netE] at hQ ⊢
     simp only [h11] at hQ ⊢
     clear h11
     have z := (KK1.out.call hb).cell' (i := 3) rfl
     go_wp2
     exact hQ _ _ (Below.refl _ _) rfl
    ·intro x w hb hk Q' hQ
     clear hk
     simp only [netE] at hQ ⊢
     go_wp2
     exact hQ _ _ (Below.refl _ _) rfl
    ·intro x w hb hk Q' hQ
     have h12 : x.v 12 = _ := (hk 12 (by decide)).1
     have h13 : x.v 13 = _ := (hk 13 (by decide)).1
     clear hk
     simp only [netE] at hQ ⊢
     simp only [h12, h13] at hQ ⊢
     clear h12 h13
     go_wp2
     exact hQ _ _ (Below.refl _ _) rfl
    ·intro x w hb hk Q' hQ
     have h14 : x.v 14 = _ := (hk 14 (by decide)).1
     clear hk
     simp only [netE] at hQ ⊢
     simp only [h14] at hQ ⊢
     clear h14
     have z := bcell (HB5.out.trans (hb.mono hsz5)) (by omega) Y2.out
     go_wp2
     exact hQ _ _ (Below.refl _ _) rfl
    ·intro x w hb hk Q' hQ
     have h9 : x.v 9 = _ := (hk 9 (by decide)).1
     have h15 : x.v 15 = _ := (hk 15 (by decide)).1
     clear hk
     simp only [netE] at hQ ⊢
     simp only [h9, h15] at hQ ⊢
     clear h9 h15
     go_wp2
     exact hQ _ _ (Below.refl _ _) rfl
    ·intro x w hb hk Q' hQ
     have h16 : x.v 16 = _ := (hk 16 (by decide)).1
     clear hk
     simp only [netE] at hQ ⊢
     simp only [h16] at hQ ⊢
     clear h16
     have q0 := bcell (HB5.out.trans (hb.mono hsz5)) (by omega) MG0.out
     have q1 := bcell (HB5.out.trans (hb.mono hsz5)) (by omega) MG1.out
     have q2 := bcell (HB5.out.trans (hb.mono hsz5)) (by omega) MG2.out
     go_wp2
     exact hQ _ _ (Below.refl _ _) rfl
    ·intro x w hb hk Q' hQ
     clear hk
     simp only [netE] at hQ ⊢
     go_wp2
     exact hQ _ _ (Below.refl _ _) rfl
    ·intro x w hb hk Q' hQ
     have h18 : x.v 18 = _ := (hk 18 (by decide)).1
     clear hk
     simp only [netE] at hQ ⊢
     simp only [h18] at hQ ⊢
     clear h18
     have z := (KK1.out.call hb).cell' (i := 5) rfl
     go_wp2
     exact hQ _ _ (Below.refl _ _) rfl
    ·intro x w hb hk Q' hQ
     clear hk
     simp only [netE] at hQ ⊢
     go_wp2
     exact hQ _ _ (Below.refl _ _) rfl
    ·intro x w hb hk Q' hQ
     have h19 : x.v 19 = _ := (hk 19 (by decide)).1
     have h20 : x.v 20 = _ := (hk 20 (by decide)).1
     clear hk
     simp only [netE] at hQ ⊢
     simp only [h19, h20] at hQ ⊢
     clear h19 h20
     go_wp2
     exact hQ _ _ (Below.refl _ _) rfl
    ·intro x w hb hk Q' hQ
     have h21 : x.v 21 = _ := (hk 21 (by decide)).1
     clear hk
     simp only [netE] at hQ ⊢
     simp only [h21] at hQ ⊢
     clear h21
     have q0 := bcell (HB5.out.trans (hb.mono hsz5)) (by omega) MX0.out
     have q1 := bcell (HB5.out.trans (hb.mono hsz5)) (by omega) MX1.out
     have q2 := bcell (HB5.out.trans (hb.mono hsz5)) (by omega) MX2.out
     go_wp2
     exact hQ _ _ (Below.refl _ _) rfl
    ·intro x w hb hk Q' hQ
     have h7 : x.v 7 = _ := (hk 7 (by decide)).1
     have h8 : x.v 8 = _ := (hk 8 (by decide)).1
     have h9 : x.v 9 = _ := (hk 9 (by decide)).1
     have h10 : x.v 10 = _ := (hk 10 (by decide)).1
     have h11 : x.v 11 = _ := (hk 11 (by decide)).1
     have h12 : x.v 12 = _ := (hk 12 (by decide)).1
     have h13 : x.v 13 = _ := (hk 13 (by decide)).1
     have h14 : x.v 14 = _ := (hk 14 (by decide)).1
     have h15 : x.v 15 = _ := (hk 15 (by decide)).1
     have h16 : x.v 16 = _ := (hk 16 (by decide)).1
     have h17 : x.v 17 = _ := (hk 17 (by decide)).1
     have h18 : x.v 18 = _ := (hk 18 (by decide)).1
     have h19 : x.v 19 = _ := (hk 19 (by decide)).1
     have h20 : x.v 20 = _ := (hk 20 (by decide)).1
     have h21 : x.v 21 = _ := (hk 21 (by decide)).1
     have h22 : x.v 22 = _ := (hk 22 (by decide)).1
     clear hk
     simp only [netE] at hQ ⊢
     simp only [h7, h8, h9, h10, h11, h12, h13, h14, h15, h16, h17, h18, h19, h20, h21, h22] at hQ ⊢
     clear h7 h8 h9 h10 h11 h12 h13 h14 h15 h16 h17 h18 h19 h20 h21 h22
     have hA := Lib.hid (MxR.next hb HMG5.out)
     have hB := Lib.hid (MxR.next hb HMX5.out)
     go_wp2_with fail
     refine (times_any X.p _ _ DYT DXT DXF (F nt) (arF X k) _ hp2 (by omega) (by omega) (by omega) hA.out hB.out HIT.out HIX.out).mono ?_; rintro e w3 ⟨v3, rfl, hZ, hb3⟩
     go_wp2
     exact hQ _ _ hb3 hZ
    ·intro x w hb hk Q' hQ
     have h1 : x.v 1 = _ := (hk 1 (by decide)).1
     have h2 : x.v 2 = _ := (hk 2 (by decide)).1
     have h3 : x.v 3 = _ := (hk 3 (by decide)).1
     have h4 : x.v 4 = _ := (hk 4 (by decide)).1
     have h5 : x.v 5 = _ := (hk 5 (by decide)).1
     have h6 : x.v 6 = _ := (hk 6 (by decide)).1
     have h7 : x.v 7 = _ := (hk 7 (by decide)).1
     have h8 : x.v 8 = _ := (hk 8 (by decide)).1
     have h9 : x.v 9 = _ := (hk 9 (by decide)).1
     have h10 : x.v 10 = _ := (hk 10 (by decide)).1
     have h11 : x.v 11 = _ := (hk 11 (by decide)).1
     have h12 : x.v 12 = _ := (hk 12 (by decide)).1
     have h13 : x.v 13 = _ := (hk 13 (by decide)).1
     have h14 : x.v 14 = _ := (hk 14 (by decide)).1
     have h15 : x.v 15 = _ := (hk 15 (by decide)).1
     have h16 : x.v 16 = _ := (hk 16 (by decide)).1
     have h17 : x.v 17 = _ := (hk 17 (by decide)).1
     have h18 : x.v 18 = _ := (hk 18 (by decide)).1
     have h19 : x.v 19 = _ := (hk 19 (by decide)).1
     have h20 : x.v 20 = _ := (hk 20 (by decide)).1
     have h21 : x.v 21 = _ := (hk 21 (by decide)).1
     have h22 : x.v 22 = _ := (hk 22 (by decide)).1
     have h23 : MxO w (x.lo 23) (x.hi 23) (x.v 23) (mxF DYT DXF (muP X.p DXT (F nt) (arF X k))) := (hk 23 (by decide)).1
     have s23 := (hk 23 (by decide)).2
     clear hk
     simp only [netE] at hQ ⊢
     simp only [h1, h2, h3, h4, h5, h6, h7, h8, h9, h10, h11, h12, h13, h14, h15, h16, h17, h18, h19, h20, h21, h22] at hQ ⊢
     clear h1 h2 h3 h4 h5 h6 h7 h8 h9 h10 h11 h12 h13 h14 h15 h16 h17 h18 h19 h20 h21 h22
     have hA := Lib.hid (MxR.next hb HM5.out)
     have hB := Lib.hid h23.rd
     obtain ⟨s2, e23, _⟩ := h23
     rw [e23] at hB hQ ⊢
     go_wp2_with fail
     refine (plus_any X.p (X.p - 1) _ _ DYT DXF (muP X.p DYF (arF Y k) (F nf)) (muP X.p DXT (F nt) (arF X k)) _ hp2 (by omega) hA.out hB.out (by omega) (by omega) (fun i j _ _ => by have := muP_rng hp2.1 DYF (arF Y k) (F nf) i j; omega) (fun i j _ _ => by have := muP_rng hp2.1 DXT (F nt) (arF X k) i j; omega)).mono ?_; rintro e w3 ⟨v3, rfl, hZ, hb3⟩
     rw [← HCB.out] at hZ
     go_wp2
     exact hQ _ _ hb3 hZ
    ·intro x w hb hk Q' hQ
     have h1 : x.v 1 = _ := (hk 1 (by decide)).1
     have h2 : x.v 2 = _ := (hk 2 (by decide)).1
     have h3 : x.v 3 = _ := (hk 3 (by decide)).1
     have h4 : x.v 4 = _ := (hk 4 (by decide)).1
     have h5 : x.v 5 = _ := (hk 5 (by decide)).1
     have h6 : x.v 6 = _ := (hk 6 (by decide)).1
     have h7 : x.v 7 = _ := (hk 7 (by decide)).1
     have h8 : x.v 8 = _ := (hk 8 (by decide)).1
     have h9 : x.v 9 = _ := (hk 9 (by decide)).1
     have h10 : x.v 10 = _ := (hk 10 (by decide)).1
     have h11 : x.v 11 = _ := (hk 11 (by decide)).1
     have h12 : x.v 12 = _ := (hk 12 (by decide)).1
     have h13 : x.v 13 = _ := (hk 13 (by decide)).1
     have h14 : x.v 14 = _ := (hk 14 (by decide)).1
     have h15 : x.v 15 = _ := (hk 15 (by decide)).1
     have h16 : x.v 16 = _ := (hk 16 (by decide)).1
     have h17 : x.v 17 = _ := (hk 17 (by decide)).1
     have h18 : x.v 18 = _ := (hk 18 (by decide)).1
     have h19 : x.v 19 = _ := (hk 19 (by decide)).1
     have h20 : x.v 20 = _ := (hk 20 (by decide)).1
     have h21 : x.v 21 = _ := (hk 21 (by decide)).1
     have h22 : x.v 22 = _ := (hk 22 (by decide)).1
     have h23 : MxO w (x.lo 23) (x.hi 23) (x.v 23) (mxF DYT DXF (muP X.p DXT (F nt) (arF X k))) := (hk 23 (by decide)).1
     have h24 : MxO w (x.lo 24) (x.hi 24) (x.v 24) (mxF DYT DXF CF) := (hk 24 (by decide)).1
     have s23 := (hk 23 (by decide)).2
     have s24 := (hk 24 (by decide)).2
     clear hk
     simp only [netE] at hQ ⊢
     simp only [h1, h2, h3, h4, h5, h6, h7, h8, h9, h10, h11, h12, h13, h14, h15, h16, h17, h18, h19, h20, h21, h22] at hQ ⊢
     clear h1 h2 h3 h4 h5 h6 h7 h8 h9 h10 h11 h12 h13 h14 h15 h16 h17 h18 h19 h20 h21 h22
     obtain ⟨s, e24, hs⟩ := h24
     obtain ⟨sA, sc, es⟩ := hs.1.form
     obtain ⟨sn, hsn⟩ : ∃ n, (mxF DYT DXF CF).a.length = n := ⟨_, rfl⟩
     rw [hsn] at es
     clear hsn hs
     subst es
     have hQ' := hQ (.slice (some ⟨w.heap.size, 0, none⟩) 1 1) (w.alloc (.cells #[.int .i64 (mxF DYT DXF CF).r, .int .i64 (mxF DYT DXF CF).c, .slice sA sn sc] 44)) (below_alloc _ _) ⟨_, _, rfl, e24, Blk.new _ _ _⟩
     simp only [mxF] at e24 hQ'
     rw [e24] at hQ' ⊢
     go_wp2
     exact hQ'
    ·intro x w hb hk hiv hdj
     have h0 : x.v 0 = .slice OA k oc := hk 0 (by decide)
     have h1 : x.v 1 = .pointer (some ⟨w0.heap.size, 0, none⟩) := hk 1 (by decide)
     have h2 : x.v 2 = .int .i64 X.p := hk 2 (by decide)
     have h3 : x.v 3 = .agg #[.int .i64 DYT, .int .i64 DXF, .slice s1A s1n s1c] := hk 3 (by decide)
     have h4 : x.v 4 = .pointer (some ⟨w0.heap.size, 0, none⟩) := hk 4 (by decide)
     have h5 : x.v 5 = .int .i64 X.p := hk 5 (by decide)
     have h6 : x.v 6 = .int .i64 (X.p - 1) := hk 6 (by decide)
     have h7 : x.v 7 = .pointer (some ⟨w0.heap.size, 0, none⟩) := hk 7 (by decide)
     have h8 : x.v 8 = .int .i64 X.p := hk 8 (by decide)
     have h9 : x.v 9 = .slice (some ⟨bg, og, none⟩) X.d.length fc := hk 9 (by decide)
     have h10 : x.v 10 = .pointer (some ⟨w0.heap.size, 1, none⟩) := hk 10 (by decide)
     have h11 : x.v 11 = .pointer (some ⟨w0.heap.size, 3, none⟩) := hk 11 (by decide)
     have h12 : x.v 12 = .slice (some ⟨bt, ot, none⟩) X.q.t.length c := hk 12 (by decide)
     have h13 : x.v 13 = .int .i64 k := hk 13 (by decide)
     have h14 : x.v 14 = .pointer (some ⟨bt, ot + k, none⟩) := hk 14 (by decide)
     have h15 : x.v 15 = .int .i64 nt := hk 15 (by decide)
     have h16 : x.v 16 = .pointer (some ⟨bg, og + nt * 3, none⟩) := hk 16 (by decide)
     have h17 : x.v 17 = .agg #[.int .i64 DYT, .int .i64 DXT, .slice AG LG cg] := hk 17 (by decide)
     have h18 : x.v 18 = .pointer (some ⟨w0.heap.size, 5, none⟩) := hk 18 (by decide)
     have h19 : x.v 19 = .slice (some ⟨bx, ox, none⟩) X.m.length ha_ := hk 19 (by decide)
     have h20 : x.v 20 = .int .i64 k := hk 20 (by decide)
     have h21 : x.v 21 = .pointer (some ⟨bx, ox + k * 3, none⟩) := hk 21 (by decide)
     have h22 : x.v 22 = .agg #[.int .i64 DXT, .int .i64 DXF, .slice AX LX cx] := hk 22 (by decide)
     have h23 : MxO w (x.lo 23) (x.hi 23) (x.v 23) (mxF DYT DXF (muP X.p DXT (F nt) (arF X k))) := hk 23 (by decide)
     have h24 : MxO w (x.lo 24) (x.hi 24) (x.v 24) (mxF DYT DXF CF) := hk 24 (by decide)
     have h25 : ∃ g s, x.v 25 = .slice (some ⟨g, 0, none⟩) 1 1 ∧ x.v 24 = .agg #[.int .i64 DYT, .int .i64 DXF, s] ∧ Blk w g 44 #[.int .i64 DYT, .int .i64 DXF, s] := hk 25 (by decide)
     clear hk
     simp only [netE]
     simp only [List.drop_succ_cons, List.drop_zero, h0, h1, h2, h3, h4, h5, h6, h7, h8, h9, h10, h11, h12, h13, h14, h15, h16, h17, h18, h19, h20, h21, h22]
     clear h0 h1 h2 h3 h4 h5 h6 h7 h8 h9 h10 h11 h12 h13 h14 h15 h16 h17 h18 h19 h20 h21 h22
     obtain ⟨g, s, ej, ei, hg⟩ := h25
     have li2 := (hiv 24 (by decide)).1
     have hi2 := (hiv 24 (by decide)).2.2
     obtain ⟨s', ei', hs, hI⟩ := h24
     rw [ei] at ei'
     simp only [Value.agg.injEq, Array.mk.injEq, List.cons.injEq, and_true, mxF, true_and] at ei'
     subst ei'
     rw [ej]
     have hbs2 := hb.size
     have HOZ := Lib.hid (HO5.out.below hb)
     have HKZ := Lib.hid hg
     have HSZ := Lib.hid (hs.wider li2 hi2)
     have HI := Lib.hid hI
     have HBZ := Lib.hid ((HB.out.trans (HB5.out.mono hbs)).trans (hb.mono (by omega)))
     clear hiv hdj hs hI ej ei hg hb
     refine wpList_appMats (by rfl) (.tmp 32) (.tmp 57) (by rfl) W.heap.size wr.heap.size _ (cbL X Y F k) (by rfl) HOZ.out g 1 W5.heap.size w.heap.size (mxF DYT DXF CF) s (by rfl) HKZ.out HSZ.out HI.out hsz5 hbs (Nat.le_refl _) (by omega) (by rw [cbL_length]; omega) ?_
     intro v' w' h1 h2
     rw [← HZS.out] at h1
     have H1 := Lib.hid h1
     have H2 := Lib.hid (HBZ.out.trans (h2.below (Nat.le_refl _) (by omega)))
     clear h1 h2
     go_wp2
     go_roundw
     case rel => exact ⟨k + 1, by omega, by go_num, H1.out, H2.out⟩
     case measure => simp [intOf]; omega
  ·obtain rfl : k = X.q.f.length := by omega
   have HO := Lib.hid hO
   have GF := Lib.hid (G0.out.trans (hbel.mono G0.out.size))
   have hgs := G0.out.size
   clear hO hbel
   go_wp2
   go_ret
   exact ⟨_, rfl, HO.out.wider hgs (Nat.le_refl _), GF.out⟩
def homN (X Y : Rp) : Nat := hmN X Y - rkF X.p (eqR X Y) (hmN X Y) (eqG X Y)
def extN (X Y : Rp) : Nat := eqR X Y - rkF X.p (eqR X Y) (hmN X Y) (eqG X Y)
theorem mv_unit (X Y : Rp) (j V : Nat) : shF X.d Y.d (unitE j) V = mvL X Y (uF X Y j) V := rfl
theorem uF_in {X Y : Rp} (hp : 2 ≤ X.p) (j v r c : Nat) : InF X.p r c (uF X Y j v) := fun a b _ _ => by
 have := hInd_rng (hOff X.d Y.d v + a * dmN X.d v + b) j
 unfold uF
 omega
set_option maxHeartbeats 12800000 in
set_option maxRecDepth 100000 in
theorem boundaries_any (ua ub : Value) (X Y : Rp) (w0 : World) (ha : RpR w0 w0.heap.size ua X) (hb : RpR w0 w0.heap.size ub Y) (hf : Fit2 X Y) :
  Calls Tryz.prog 71 #[ua, ub] w0 fun e w' => ∃ v, e = .returned v ∧ MxO w' w0.heap.size w'.heap.size v (mxF (eqR X Y) (hmN X Y) (eqG X Y)) ∧ Below w0.heap.size w0 w' := by
 have ha' := ha
 have hb' := hb
 obtain ⟨A, a, C, c, Ea, ea, Ha, ha_, rfl, _⟩ := ha.open_
 obtain ⟨A2, a2, C2, c2, Eb, eb, Hb, hb_, rfl, _⟩ := hb.open_
 clear ha hb
 obtain ⟨W, hW⟩ : ∃ W, W = ((w0.alloc (.cells #[.int .i64 X.p, .int .i64 X.q.v, .slice A X.q.f.length a, .slice C X.q.t.length c, .slice Ea X.d.length ea, .slice Ha X.m.length ha_] 31)).alloc (.cells #[.int .i64 Y.p, .int .i64 Y.q.v, .slice A2 Y.q.f.length a2, .slice C2 Y.q.t.length c2, .slice Eb Y.d.length eb, .slice Hb Y.m.length hb_] 31)).alloc (.cells #[.int .i64 0, .int .i64 0, .slice none 0 0] 44) := ⟨_, rfl⟩
 have g0 : Below w0.heap.size w0 W := by rw [hW]; exact (((Below.refl _ _).alloc (Nat.le_refl _) _).alloc (by simp) _).alloc (by simp; omega) _
 have k1 : Blk W w0.heap.size 31 #[.int .i64 X.p, .int .i64 X.q.v, .slice A X.q.f.length a, .slice C X.q.t.length c, .slice Ea X.d.length ea, .slice Ha X.m.length ha_] := by rw [hW]; exact ((Blk.new _ _ _).alloc _).alloc _
 have k2 : Blk W (w0.heap.size + 1) 31 #[.int .i64 Y.p, .int .i64 Y.q.v, .slice A2 Y.q.f.length a2, .slice C2 Y.q.t.length c2, .slice Eb Y.d.length eb, .slice Hb Y.m.length hb_] := by
  rw [hW]
  have := (Blk.new (w0.alloc (.cells #[.int .i64 X.p, .int .i64 X.q.v, .slice A X.q.f.length a, .slice C X.q.t.length c, .slice Ea X.d.length ea, .slice Ha X.m.length ha_] 31)) 31 #[.int .i64 Y.p, .int .i64 Y.q.v, .slice A2 Y.q.f.length a2, .slice C2 Y.q.t.length c2, .slice Eb Y.d.length eb, .slice Hb Y.m.length hb_]).alloc (.cells #[.int .i64 0, .int .i64 0, .slice none 0 0] 44)
  simpa only [World.size_alloc] using this
 have k3 : Blk W (w0.heap.size + 1 + 1) 44 #[.int .i64 0, .int .i64 0, .slice none 0 0] := by
  rw [hW]
  have := Blk.new ((w0.alloc (.cells #[.int .i64 X.p, .int .i64 X.q.v, .slice A X.q.f.length a, .slice C X.q.t.length c, .slice Ea X.d.length ea, .slice Ha X.m.length ha_] 31)).alloc (.cells #[.int .i64 Y.p, .int .i64 Y.q.v, .slice A2 Y.q.f.length a2, .slice C2 Y.q.t.length c2, .slice Eb Y.d.length eb, .slice Hb Y.m.length hb_] 31)) 44 #[.int .i64 0, .int .i64 0, .slice none 0 0]
  simpa only [World.size_alloc] using this
 have sz : W.heap.size = w0.heap.size + 1 + 1 + 1 := by rw [hW]; simp
 have SZ := Lib.hid sz
 have HXA := Lib.hid (RpR.next g0 ha')
 have HXB := Lib.hid (RpR.next g0 hb')
 have G0 := Lib.hid g0
 have HF := Lib.hid hf
 have hl5 := hf.len.2
 have hN80 := hmN_le hf
 have hR96 := eqR_le hf
 have HN6 := Lib.hid hf.arrs.1
 have c0 := k1.cell' (i := 0) rfl
 have c1 := k1.cell' (i := 1) rfl
 have c2_ := k1.cell' (i := 2) rfl
 have c3 := k1.cell' (i := 3) rfl
 have c4 := k1.cell' (i := 4) rfl
 have c5 := k1.cell' (i := 5) rfl
 have d0 := k2.cell' (i := 0) rfl
 have d1 := k2.cell' (i := 1) rfl
 have d2 := k2.cell' (i := 2) rfl
 have d3 := k2.cell' (i := 3) rfl
 have d4 := k2.cell' (i := 4) rfl
 have d5 := k2.cell' (i := 5) rfl
 obtain ⟨n, hn⟩ : ∃ n, hmN X Y = n := ⟨_, rfl⟩
 have HN' := Lib.hid (show hOff X.d Y.d X.d.length = n from hn)
 obtain ⟨R, hR⟩ : ∃ R, eqR X Y = R := ⟨_, rfl⟩
 obtain ⟨g, hg⟩ : ∃ g, eqG X Y = g := ⟨_, rfl⟩
 have HCOL := Lib.hid (show ∀ j, j < n → rowF R (fun i => g i j) = flM (cbL X Y (uF X Y j) X.q.f.length) from fun j hj => by rw [← hR, ← hg]; exact eqG_col X Y j (by rw [hn]; exact hj))
 have HR := Lib.hid hR
 rw [hn] at hN80 ⊢
 rw [hR] at hR96 ⊢
 rw [hg]
 clear hn hR hg
 clear ha' hb' g0 sz hf
 go_enter Tryz.func71, Tryz.ntmps71
 go_wp2_with fail
 rw [← hW]; clear hW
 refine (zeros_any _ _ X Y _ HXA.out HXB.out HF.out).mono ?_; rintro e w1 ⟨v1, rfl, hZ, hb1⟩
 obtain ⟨ZA, zc, ez, _, _⟩ := hZ.form2
 rw [zrL_length] at ez
 subst ez
 have HZ := Lib.hid hZ
 have s1 := hb1.size
 have B1 := Lib.hid hb1
 clear hZ hb1
 go_wp2_with fail
 refine (flat_any _ (zrL X.d Y.d X.d.length) _ HZ.out.rd (by rw [zrL_length]; omega) (by rw [zrL_tot, HN'.out]; omega)).mono ?_; rintro e w2 ⟨v2, rfl, hFl, hb2⟩
 obtain ⟨FA, fc, ef⟩ := hFl.form
 rw [flM_length, zrL_tot] at ef
 subst ef
 rw [HN'.out]
 have s2 := hb2.size
 have B2 := Lib.hid (B1.out.trans (hb2.mono s1))
 have HZ2 := Lib.hid (HZ.out.below hb2)
 have HXA2 := Lib.hid (RpR.next B2.out HXA.out)
 have HXB2 := Lib.hid (RpR.next B2.out HXB.out)
 have K1 := Lib.hid (k1.call B2.out)
 have K2 := Lib.hid (k2.call B2.out)
 have K3 := Lib.hid (k3.call B2.out)
 clear hFl hb2 c0 c1 c2_ c3 c4 c5 d0 d1 d2 d3 d4 d5 k1 k2 k3
 go_wp2
 go_loopw [7, 17] (fun out i wr => ∃ k : Nat, k ≤ n ∧ i = .int .i64 k ∧ IntssO wr w2.heap.size wr.heap.size out (rowsF k R (fun a b => g b a)) ∧ Below w2.heap.size w2 wr) (fun _ i _ => n - (intOf i).toNat)
 case atStart => exact ⟨0, Nat.zero_le _, rfl, by simpa [rowsF] using IntssO.nil w2 w2.heap.size w2.heap.size, Below.refl _ _⟩
 case round =>
  obtain ⟨k, hk, rfl, hO, hbel⟩ := hrel
  have hbs := hbel.size
  obtain ⟨OA, oc, eo, _, _, _⟩ := hO.form2
  rw [rowsF_length] at eo
  subst eo
  by_cases hlt : k < n
  ·have hmk := run_mkI wr (n := n) (by omega)
   obtain ⟨W4, hW4⟩ : ∃ z, wr.alloc (.cells (mkCells (.int .i64 0) n) 3) = z := ⟨_, rfl⟩
   rw [hW4] at hmk
   have g4 : Below wr.heap.size wr W4 := by rw [← hW4]; exact below_alloc _ _
   have o4 : OwnI W4 wr.heap.size (.slice (some ⟨wr.heap.size, 0, none⟩) n n) (List.replicate n 0) := by
    rw [← hW4]
    exact OwnI.made0 (Nat.le_refl _) (by omega)
   obtain ⟨gr, hgr⟩ : ∃ z, wr.heap.size = z := ⟨_, rfl⟩
   have f4 := o4.frozenG k
   have r4 := (o4.cellG (j := k) (by simpa using hlt)).1
   obtain ⟨W5, hW5⟩ : ∃ z, W4.setCell ⟨wr.heap.size, k, none⟩ (.int .i64 1) = z := ⟨_, rfl⟩
   have hp5 := o4.put (j := k) (x := 1) (by simp [I64])
   rw [unit_row, hW5] at hp5
   have g5 : Below wr.heap.size wr W5 := by rw [← hW5]; exact g4.setCell (Nat.le_refl _) _
   have HE5 := Lib.hid hp5.1.rd
   have HO5 := Lib.hid (hO.below g5)
   have G5 := Lib.hid (hbel.trans (g5.mono hbs))
   have hs5 := g5.size
   have HZ5 := Lib.hid (HZ2.out.rd.next G5.out)
   have HXA5 := Lib.hid (RpR.next G5.out HXA2.out)
   have HXB5 := Lib.hid (RpR.next G5.out HXB2.out)
   have KK1 := Lib.hid (K1.out.call G5.out)
   have KK2 := Lib.hid (K2.out.call G5.out)
   have a1' : (k : Int) < n := by omega
   have a2' : (0 : Int) ≤ (n : Int) := by omega
   have hs52 : w2.heap.size ≤ W5.heap.size := by omega
   clear hO hbel o4 g4 hp5 g5
   rw [hgr] at hmk f4 r4 hW5 HE5 
   clear hW4
   go_wp2
   clear hW5 hmk f4 r4
   refine wp_region_net (by kernel_rfl) [.eq (.slice OA k oc), .eq (.agg #[.int .i64 X.p, .int .i64 X.q.v, .slice A X.q.f.length a, .slice C X.q.t.length c, .slice Ea X.d.length ea, .slice Ha X.m.length ha_]), .eq (.agg #[.int .i64 Y.p, .int .i64 Y.q.v, .slice A2 Y.q.f.length a2, .slice C2 Y.q.t.length c2, .slice Eb Y.d.length eb, .slice Hb Y.m.length hb_]), .eq (.slice ZA X.d.length zc), .eq (.slice (some ⟨gr, 0, none⟩) n n), rel 5 (fun u lo hi w => MatsO w lo hi u (mvL X Y (uF X Y k) X.d.length)), rel 6 (fun u lo hi w => MatsO w lo hi u (cbL X Y (uF X Y k) X.q.f.length)), rel 7 (fun u lo hi w => IntsO w lo hi u (rowF R fun i => g i k)), .rel (fun x w => ∃ g', x.v 8 = .slice (some ⟨g', 0, none⟩) 1 1 ∧ Blk w g' 26 #[x.v 7])] [[], [], [], [], [], [3, 4], [1, 2, 3, 4, 5], [1, 2, 3, 4, 5, 6], [1, 2, 3, 4, 5, 6, 7], [0, 1, 2, 3, 4, 5, 6, 7, 8], [0, 1, 2, 3, 4, 5, 6, 7, 8, 9]] 9 (by kernel_rfl) ⟨trivial, trivial, trivial, trivial, trivial, rel_stable (fun u lo hi w w' h hb => h.below hb), rel_stable (fun u lo hi w w' h hb => h.below hb), rel_stable (fun u lo hi w w' h hb => h.below hb), fun x w w' ⟨g, e1, h⟩ hb => ⟨g, e1, h.call hb⟩, trivial⟩ ⟨?_, ?_, ?_, ?_, ?_, ?_, ?_, ?_, ?_, trivial⟩ ?_
   ·intro x w hb hk Q' hQ
    clear hk
    simp only [netE] at hQ ⊢
    go_wp2
    exact hQ _ _ (Below.refl _ _) rfl
   ·intro x w hb hk Q' hQ
    clear hk
    simp only [netE] at hQ ⊢
    have z0 := (KK1.out.call hb).cell' (i := 0) rfl
    have z1 := (KK1.out.call hb).cell' (i := 1) rfl
    have z2 := (KK1.out.call hb).cell' (i := 2) rfl
    have z3 := (KK1.out.call hb).cell' (i := 3) rfl
    have z4 := (KK1.out.call hb).cell' (i := 4) rfl
    have z5 := (KK1.out.call hb).cell' (i := 5) rfl
    go_wp2
    exact hQ _ _ (Below.refl _ _) rfl
   ·intro x w hb hk Q' hQ
    clear hk
    simp only [netE] at hQ ⊢
    have z0 := (KK2.out.call hb).cell' (i := 0) rfl
    have z1 := (KK2.out.call hb).cell' (i := 1) rfl
    have z2 := (KK2.out.call hb).cell' (i := 2) rfl
    have z3 := (KK2.out.call hb).cell' (i := 3) rfl
    have z4 := (KK2.out.call hb).cell' (i := 4) rfl
    have z5 := (KK2.out.call hb).cell' (i := 5) rfl
    go_wp2
    exact hQ _ _ (Below.refl _ _) rfl
   ·intro x w hb hk Q' hQ
    clear hk
    simp only [netE] at hQ ⊢
    go_wp2
    exact hQ _ _ (Below.refl _ _) rfl
   ·intro x w hb hk Q' hQ
    clear hk
    simp only [netE] at hQ ⊢
    go_wp2
    exact hQ _ _ (Below.refl _ _) rfl
   ·intro x w hb hk Q' hQ
    have h3 : x.v 3 = _ := (hk 3 (by decide)).1
    have h4 : x.v 4 = _ := (hk 4 (by decide)).1
    clear hk
    simp only [netE] at hQ ⊢
    simp only [h3, h4] at hQ ⊢
    clear h3 h4
    have hA := Lib.hid (SlM.next hb HZ5.out)
    have hE := Lib.hid (SlI.next hb HE5.out)
    go_wp2_with fail
    refine (shaped_any _ _ (zrL X.d Y.d X.d.length) (rowF n (unitE k)) _ hA.out hE.out (by rw [zrL_length]; omega) (by rw [zrL_tot, HN'.out, rowF_length]; exact Nat.le_refl _)).mono ?_; rintro e w3 ⟨v3, rfl, hS, hb3⟩
    rw [shL_zr _ _ _ _ _ (by rw [HN'.out]; exact Nat.le_refl _), mv_unit] at hS
    go_wp2
    exact hQ _ _ hb3 hS
   ·intro x w hb hk Q' hQ
    have h1 : x.v 1 = _ := (hk 1 (by decide)).1
    have h2 : x.v 2 = _ := (hk 2 (by decide)).1
    have h3 : x.v 3 = _ := (hk 3 (by decide)).1
    have h4 : x.v 4 = _ := (hk 4 (by decide)).1
    have h5 : MatsO w (x.lo 5) (x.hi 5) (x.v 5) (mvL X Y (uF X Y k) X.d.length) := (hk 5 (by decide)).1
    have s5 := (hk 5 (by decide)).2
    clear hk
    simp only [netE] at hQ ⊢
    simp only [h1, h2, h3, h4] at hQ ⊢
    clear h1 h2 h3 h4
    have hA := Lib.hid (RpR.next hb HXA5.out)
    have hB := Lib.hid (RpR.next hb HXB5.out)
    have H5 := Lib.hid h5.rd
    clear h5
    go_wp2_with fail
    refine (coboundary_any _ _ _ X Y (uF X Y k) _ hA.out hB.out H5.out HF.out (fun v _ => uF_in HF.out.p2.1 _ _ _ _)).mono ?_; rintro e w3 ⟨v3, rfl, hS, hb3⟩
    go_wp2
    exact hQ _ _ hb3 hS
   ·intro x w hb hk Q' hQ
    have h1 : x.v 1 = _ := (hk 1 (by decide)).1
    have h2 : x.v 2 = _ := (hk 2 (by decide)).1
    have h3 : x.v 3 = _ := (hk 3 (by decide)).1
    have h4 : x.v 4 = _ := (hk 4 (by decide)).1
    have h5 : MatsO w (x.lo 5) (x.hi 5) (x.v 5) (mvL X Y (uF X Y k) X.d.length) := (hk 5 (by decide)).1
    have h6 : MatsO w (x.lo 6) (x.hi 6) (x.v 6) (cbL X Y (uF X Y k) X.q.f.length) := (hk 6 (by decide)).1
    have s5 := (hk 5 (by decide)).2
    have s6 := (hk 6 (by decide)).2
    clear hk
    simp only [netE] at hQ ⊢
    simp only [h1, h2, h3, h4] at hQ ⊢
    clear h1 h2 h3 h4
    have H6 := Lib.hid h6.rd
    clear h6
    have hcl := HCOL.out k hlt
    go_wp2_with fail
    refine (flat_any _ (cbL X Y (uF X Y k) X.q.f.length) _ H6.out (by rw [cbL_length]; have := HN6.out; omega) (by rw [← flM_length, ← hcl, rowF_length]; omega)).mono ?_; rintro e w3 ⟨v3, rfl, hS, hb3⟩
    rw [← hcl] at hS
    clear hcl
    go_wp2
    exact hQ _ _ hb3 hS
   ·intro x w hb hk Q' hQ
    have h1 : x.v 1 = _ := (hk 1 (by decide)).1
    have h2 : x.v 2 = _ := (hk 2 (by decide)).1
    have h3 : x.v 3 = _ := (hk 3 (by decide)).1
    have h4 : x.v 4 = _ := (hk 4 (by decide)).1
    have h5 : MatsO w (x.lo 5) (x.hi 5) (x.v 5) (mvL X Y (uF X Y k) X.d.length) := (hk 5 (by decide)).1
    have h6 : MatsO w (x.lo 6) (x.hi 6) (x.v 6) (cbL X Y (uF X Y k) X.q.f.length) := (hk 6 (by decide)).1
    have h7 : IntsO w (x.lo 7) (x.hi 7) (x.v 7) (rowF R fun i => g i k) := (hk 7 (by decide)).1
    have s5 := (hk 5 (by decide)).2
    have s6 := (hk 6 (by decide)).2
    have s7 := (hk 7 (by decide)).2
    clear hk
    simp only [netE] at hQ ⊢
    simp only [h1, h2, h3, h4] at hQ ⊢
    clear h1 h2 h3 h4
    obtain ⟨sA, sc, es⟩ := h7.form
    rw [rowF_length] at es
    have hQ' := hQ (.slice (some ⟨w.heap.size, 0, none⟩) 1 1) (w.alloc (.cells #[x.v 7] 26)) (below_alloc _ _) ⟨_, rfl, Blk.new _ _ _⟩
    rw [es] at hQ' ⊢
    clear h7 es
    go_wp2
    exact hQ'
   ·intro x w hb hk hiv hdj
    have h0 : x.v 0 = .slice OA k oc := hk 0 (by decide)
    have h1 : x.v 1 = .agg #[.int .i64 X.p, .int .i64 X.q.v, .slice A X.q.f.length a, .slice C X.q.t.length c, .slice Ea X.d.length ea, .slice Ha X.m.length ha_] := hk 1 (by decide)
    have h2 : x.v 2 = .agg #[.int .i64 Y.p, .int .i64 Y.q.v, .slice A2 Y.q.f.length a2, .slice C2 Y.q.t.length c2, .slice Eb Y.d.length eb, .slice Hb Y.m.length hb_] := hk 2 (by decide)
    have h3 : x.v 3 = .slice ZA X.d.length zc := hk 3 (by decide)
    have h4 : x.v 4 = .slice (some ⟨gr, 0, none⟩) n n := hk 4 (by decide)
    have h5 : MatsO w (x.lo 5) (x.hi 5) (x.v 5) (mvL X Y (uF X Y k) X.d.length) := hk 5 (by decide)
    have h6 : MatsO w (x.lo 6) (x.hi 6) (x.v 6) (cbL X Y (uF X Y k) X.q.f.length) := hk 6 (by decide)
    have h7 : IntsO w (x.lo 7) (x.hi 7) (x.v 7) (rowF R fun i => g i k) := hk 7 (by decide)
    have h8 : ∃ g', x.v 8 = .slice (some ⟨g', 0, none⟩) 1 1 ∧ Blk w g' 26 #[x.v 7] := hk 8 (by decide)
    clear hk
    simp only [netE]
    simp only [List.drop_succ_cons, List.drop_zero, h0, h1, h2, h3, h4]
    clear h0 h1 h2 h3 h4
    obtain ⟨g8, e8, kg⟩ := h8
    have li := (hiv 7 (by decide)).1
    have hi_ := (hiv 7 (by decide)).2.2
    rw [e8]
    obtain ⟨v7, hv7⟩ : ∃ z, x.v 7 = z := ⟨_, rfl⟩
    rw [hv7] at h7 kg
    have hbs2 := hb.size
    have HOZ := Lib.hid (HO5.out.below hb)
    have C0 := Lib.hid (kg.cell' (i := 0) rfl)
    have HSZ := Lib.hid (h7.wider li hi_)
    have HBZ := Lib.hid (G5.out.trans (hb.mono hs52))
    clear hiv hdj h7 h6 h5 e8 kg hb hv7
    refine wpList_appR (by rfl) (.tmp 25) (.tmp 33) (by rfl) w2.heap.size wr.heap.size W5.heap.size w.heap.size _ _ _ (by rfl) HOZ.out (some ⟨g8, 0, none⟩) 1 _ (by rfl) ⟨_, _, rfl, C0.out⟩ HSZ.out (by omega) (by omega) (by omega) (by rw [rowsF_length]; omega) (by omega) (by omega) ?_
    intro v' w' h1 h2 h3
    have hsn := rowsF_succ k R (fun a b => g b a)
    rw [← hsn] at h1
    have H1 := Lib.hid h1
    have H2 := Lib.hid (HBZ.out.trans h2)
    clear h1 h2 h3 hsn
    go_wp2
    go_roundw
    case rel => exact ⟨k + 1, by omega, by go_num, H1.out, H2.out⟩
    case measure => simp [intOf]; omega
  ·obtain rfl : k = n := by omega
   have KK1 := K1.out.call hbel
   have KK2 := K2.out.call hbel
   have K3r := Lib.hid (K3.out.call hbel)
   have c0 := KK1.cell' (i := 0) rfl
   have c1 := KK1.cell' (i := 1) rfl
   have c2_ := KK1.cell' (i := 2) rfl
   have c3 := KK1.cell' (i := 3) rfl
   have c4 := KK1.cell' (i := 4) rfl
   have c5 := KK1.cell' (i := 5) rfl
   have d0 := KK2.cell' (i := 0) rfl
   have d1 := KK2.cell' (i := 1) rfl
   have d2 := KK2.cell' (i := 2) rfl
   have d3 := KK2.cell' (i := 3) rfl
   have d4 := KK2.cell' (i := 4) rfl
   have d5 := KK2.cell' (i := 5) rfl
   have HXr := Lib.hid (RpR.next hbel HXA2.out)
   have HYr := Lib.hid (RpR.next hbel HXB2.out)
   have HO := Lib.hid hO.rd
   have GR := Lib.hid (G0.out.trans ((B2.out.trans (hbel.mono (by omega))).mono G0.out.size))
   have hgr := GR.out.size
   clear hO hbel KK1 KK2
   go_wp2_with fail
   refine (cocycleZeros_any _ _ X Y _ HXr.out HYr.out HF.out).mono ?_; rintro e w6 ⟨v6, rfl, hC, hb6⟩
   obtain ⟨ZB, zd, ezb, _, _⟩ := hC.form2
   rw [czL_length] at ezb
   subst ezb
   have HC := Lib.hid hC
   clear hC c0 c1 c2_ c3 c4 c5 d0 d1 d2 d3 d4 d5
   go_wp2_with fail
   refine (flat_any _ (czL X Y X.q.f.length) _ HC.out.rd (by rw [czL_length]; have := HN6.out; omega) (by rw [czL_tot X Y (hmN X Y)]; have := HR.out; unfold eqR at this; omega)).mono ?_; rintro e w7 ⟨v7, rfl, hFl, hb7⟩
   obtain ⟨FB, fd, ef⟩ := hFl.form
   rw [flM_length, czL_tot X Y (hmN X Y), show (eqL X Y (hmN X Y) X.q.f.length).length = R from HR.out] at ef
   subst ef
   have hb67 := bthen hb6 hb7
   have HO7 := Lib.hid (SlII.next hb67 HO.out)
   have HB7 := Lib.hid (GR.out.trans (hb67.mono hgr))
   have K37 := Lib.hid (K3r.out.call hb67)
   have s67 := hb67.size
   clear hFl hb6 hb7 hb67
   go_wp2_with fail
   refine (fromColumns_any _ R k g _ HO7.out (by omega) (by omega)).mono ?_; rintro e w8 ⟨v8, rfl, hM, hb8⟩
   obtain ⟨sM, e8, hs8, hI8⟩ := hM
   obtain ⟨MA, mc, em⟩ := hs8.form
   obtain ⟨ml, hml⟩ : ∃ z, (mxF R k g).a.length = z := ⟨_, rfl⟩
   rw [hml] at em
   subst em
   simp only [mxF] at e8
   subst e8
   have k8 := K37.out.call hb8
   have z0 := k8.cell' (i := 0) rfl
   have z1 := k8.cell' (i := 1) rfl
   have z2 := k8.cell' (i := 2) rfl
   have fr := k8.frozen
   have GF := Lib.hid (HB7.out.trans (hb8.mono (HB7.out.size)))
   have HS8 := Lib.hid hs8
   have HI8 := Lib.hid hI8
   have s8 := hb8.size
   have gs := HB7.out.size
   clear hs8 hI8 hb8 k8 hml
   go_wp2
   have gf := GF.out
   have sz := SZ.out
   have hc : Chg (w0.heap.size + 1 + 1) (w0.heap.size + 1 + 1 + 1) w8 _ := ((chg_set (w := w8) (p := ⟨w0.heap.size + 1 + 1, 0, none⟩) (u := .int .i64 R) (by simp) (by simp)).trans (chg_set (p := ⟨w0.heap.size + 1 + 1, 1, none⟩) (u := .int .i64 k) (by simp) (by simp))).trans (chg_set (p := ⟨w0.heap.size + 1 + 1, 2, none⟩) (u := .slice MA ml mc) (by simp) (by simp))
   refine bodyPost_ret (v := .agg #[.int .i64 R, .int .i64 k, .slice MA ml mc]) (by simp [results, go_sem, z0, z1, z2]) rfl ⟨_, rfl, ⟨_, rfl, (HS8.out.chg hc (.inr (by omega))).wider (by omega) (by simp), HI8.out⟩, ((gf.setCell (by simp; omega) _).setCell (by simp; omega) _).setCell (by simp; omega) _⟩
set_option maxHeartbeats 6400000 in
set_option maxRecDepth 100000 in
theorem homDim_any (ua ub : Value) (X Y : Rp) (w0 : World) (ha : RpR w0 w0.heap.size ua X) (hb : RpR w0 w0.heap.size ub Y) (hf : Fit2 X Y) :
  Calls Tryz.prog 44 #[ua, ub] w0 fun e w' => e = .returned (.int .i64 (homN X Y : Int)) ∧ Below w0.heap.size w0 w' := by
 have hp := (isRep_t.1 hf.hx).1
 have hN80 := hmN_le hf
 have hR96 := eqR_le hf
 have HIF := Lib.hid (eqG_inF (x := X) Y hf.p2.1)
 have HP := Lib.hid hp
 have ha' := ha
 have hb' := hb
 obtain ⟨A, a, C, c, Ea, ea, Ha, ha_, rfl, hqa, hda, hma, hpa, lda, lma⟩ := ha.open_
 obtain ⟨A2, a2, C2, c2, Eb, eb, Hb, hb_, rfl, hqb, hdb, hmb, hpb, ldb, lmb⟩ := hb.open_
 clear ha hb
 obtain ⟨W, hW⟩ : ∃ W, W = (w0.alloc (.cells #[.int .i64 X.p, .int .i64 X.q.v, .slice A X.q.f.length a, .slice C X.q.t.length c, .slice Ea X.d.length ea, .slice Ha X.m.length ha_] 31)).alloc (.cells #[.int .i64 Y.p, .int .i64 Y.q.v, .slice A2 Y.q.f.length a2, .slice C2 Y.q.t.length c2, .slice Eb Y.d.length eb, .slice Hb Y.m.length hb_] 31) := ⟨_, rfl⟩
 have g0 : Below w0.heap.size w0 W := by rw [hW]; exact ((Below.refl _ _).alloc (Nat.le_refl _) _).alloc (by simp) _
 have k1 : Blk W w0.heap.size 31 #[.int .i64 X.p, .int .i64 X.q.v, .slice A X.q.f.length a, .slice C X.q.t.length c, .slice Ea X.d.length ea, .slice Ha X.m.length ha_] := by rw [hW]; exact (Blk.new _ _ _).alloc _
 have k2 : Blk W (w0.heap.size + 1) 31 #[.int .i64 Y.p, .int .i64 Y.q.v, .slice A2 Y.q.f.length a2, .slice C2 Y.q.t.length c2, .slice Eb Y.d.length eb, .slice Hb Y.m.length hb_] := by
  rw [hW]
  have := Blk.new (w0.alloc (.cells #[.int .i64 X.p, .int .i64 X.q.v, .slice A X.q.f.length a, .slice C X.q.t.length c, .slice Ea X.d.length ea, .slice Ha X.m.length ha_] 31)) 31 #[.int .i64 Y.p, .int .i64 Y.q.v, .slice A2 Y.q.f.length a2, .slice C2 Y.q.t.length c2, .slice Eb Y.d.length eb, .slice Hb Y.m.length hb_]
  simpa only [World.size_alloc] using this
 have HXA := Lib.hid (RpR.next g0 ha')
 have HXB := Lib.hid (RpR.next g0 hb')
 have HQA := Lib.hid (QvR.next g0 hqa)
 have HDA := Lib.hid (SlI.next g0 hda)
 have HDB := Lib.hid (SlI.next g0 hdb)
 have HMA := Lib.hid (SlM.next g0 hma)
 have HMB := Lib.hid (SlM.next g0 hmb)
 have G0 := Lib.hid g0
 clear ha' hb' hqa hqb hda hdb hma hmb hpa hpb g0
 have HF := Lib.hid hf
 have c0 := k1.cell' (i := 0) rfl
 have c1 := k1.cell' (i := 1) rfl
 have c2_ := k1.cell' (i := 2) rfl
 have c3 := k1.cell' (i := 3) rfl
 have c4 := k1.cell' (i := 4) rfl
 have c5 := k1.cell' (i := 5) rfl
 have d0 := k2.cell' (i := 0) rfl
 have d1 := k2.cell' (i := 1) rfl
 have d2 := k2.cell' (i := 2) rfl
 have d3 := k2.cell' (i := 3) rfl
 have d4 := k2.cell' (i := 4) rfl
 have d5 := k2.cell' (i := 5) rfl
 have hVV : (homN X Y : Int) = ((hmN X Y : Nat) : Int) - (rkF X.p (eqR X Y) (hmN X Y) (eqG X Y) : Nat) := by
  have := rkF_le X.p (eqR X Y) (hmN X Y) (eqG X Y)
  unfold homN
  omega
 rw [hVV]
 have hrk := (rkF_le X.p (eqR X Y) (hmN X Y) (eqG X Y)).2
 obtain ⟨R, hR⟩ : ∃ R, eqR X Y = R := ⟨_, rfl⟩
 obtain ⟨n, hn⟩ : ∃ n, hmN X Y = n := ⟨_, rfl⟩
 obtain ⟨g, hg⟩ : ∃ g, eqG X Y = g := ⟨_, rfl⟩
 have HRE := Lib.hid hR
 have HNE := Lib.hid hn
 have HGE := Lib.hid hg
 rw [hR, hn, hg] at HIF hrk
 rw [hR] at hR96
 rw [hn] at hN80
 rw [hR, hn, hg]
 obtain ⟨rk, hrk2⟩ : ∃ z, rkF X.p R n g = z := ⟨_, rfl⟩
 have HRK := Lib.hid hrk2
 rw [hrk2] at hrk ⊢
 clear hf hp hR hn hg hrk2 hVV
 go_enter Tryz.func44, Tryz.ntmps44
 go_wp2_with fail
 rw [← hW]; clear hW
 refine (boundaries_any _ _ X Y _ HXA.out HXB.out HF.out).mono ?_; rintro e w1 ⟨v1, rfl, hM, hb1⟩
 rw [HRE.out, HNE.out, HGE.out] at hM
 obtain ⟨MA, mc, em⟩ := hM.form
 subst em
 simp only [mxF] at hM ⊢
 obtain ⟨ML, hML⟩ : ∃ z, (flat R n g).length = z := ⟨_, rfl⟩
 rw [hML] at hM ⊢
 obtain ⟨W2, hW2⟩ : ∃ z, w1.alloc (.cells #[.int .i64 R, .int .i64 n, .slice MA ML mc] 44) = z := ⟨_, rfl⟩
 have ga : Below w1.heap.size w1 W2 := by rw [← hW2]; exact below_alloc _ _
 obtain ⟨g2, hg2⟩ : ∃ z, w1.heap.size = z := ⟨_, rfl⟩
 have kM : Blk W2 g2 44 #[.int .i64 R, .int .i64 n, .slice MA ML mc] := by rw [← hW2, ← hg2]; exact Blk.new _ _ _
 have HM := Lib.hid (MxR.next ga hM.rd)
 have gW := bthen hb1 ga
 have K1 := Lib.hid (k1.call gW)
 have G2 := Lib.hid (bthen G0.out gW)
 clear hM hML hb1 ga gW c0 c1 c2_ c3 c4 c5 d0 d1 d2 d3 d4 d5 k1 k2
 go_wp2
 clear hW2
 try clear hg2
 refine wp_region_net (by kernel_rfl) [.eq (.pointer (some ⟨g2, 1, none⟩)), .eq (.int .i64 n), .eq (.pointer (some ⟨w0.heap.size, 0, none⟩)), .eq (.int .i64 X.p), .eq (.agg #[.int .i64 R, .int .i64 n, .slice MA ML mc]), .eq (.int .i64 rk), .eq (.int .i64 ((n : Int) - rk))] [[], [0], [], [2], [], [2, 3, 4], [0, 1, 2, 3, 4, 5], [0, 1, 2, 3, 4, 5, 6]] 7 (by kernel_rfl) ⟨trivial, trivial, trivial, trivial, trivial, trivial, trivial, trivial⟩ ⟨?_, ?_, ?_, ?_, ?_, ?_, ?_, trivial⟩ ?_
 ·intro x w hb hk Q' hQ
  clear hk
  simp only [netE] at hQ ⊢
  go_wp2
  exact hQ _ _ (Below.refl _ _) rfl
 ·intro x w hb hk Q' hQ
  have h0 : x.v 0 = _ := (hk 0 (by decide)).1
  clear hk
  simp only [netE] at hQ ⊢
  simp only [h0] at hQ ⊢
  clear h0
  have z := (kM.call hb).cell' (i := 1) rfl
  go_wp2
  exact hQ _ _ (Below.refl _ _) rfl
 ·intro x w hb hk Q' hQ
  clear hk
  simp only [netE] at hQ ⊢
  go_wp2
  exact hQ _ _ (Below.refl _ _) rfl
 ·intro x w hb hk Q' hQ
  have h2 : x.v 2 = _ := (hk 2 (by decide)).1
  clear hk
  simp only [netE] at hQ ⊢
  simp only [h2] at hQ ⊢
  clear h2
  have z := (K1.out.call hb).cell' (i := 0) rfl
  go_wp2
  exact hQ _ _ (Below.refl _ _) rfl
 ·intro x w hb hk Q' hQ
  clear hk
  simp only [netE] at hQ ⊢
  have z0 := (kM.call hb).cell' (i := 0) rfl
  have z1 := (kM.call hb).cell' (i := 1) rfl
  have z2 := (kM.call hb).cell' (i := 2) rfl
  go_wp2
  exact hQ _ _ (Below.refl _ _) rfl
 ·intro x w hb hk Q' hQ
  have h3 : x.v 3 = _ := (hk 3 (by decide)).1
  have h4 : x.v 4 = _ := (hk 4 (by decide)).1
  clear hk
  simp only [netE] at hQ ⊢
  simp only [h3, h4] at hQ ⊢
  clear h3 h4
  have hA := Lib.hid (MxR.next hb HM.out)
  go_wp2_with fail
  refine (implRank_any X.p _ R n g _ HP.out (by omega) (by omega) hA.out HIF.out).mono ?_; rintro e w3 ⟨rfl, hb3⟩
  rw [HRK.out]
  go_wp2
  exact hQ _ _ hb3 rfl
 ·intro x w hb hk Q' hQ
  have h1 : x.v 1 = _ := (hk 1 (by decide)).1
  have h5 : x.v 5 = _ := (hk 5 (by decide)).1
  clear hk
  simp only [netE] at hQ ⊢
  simp only [h1, h5] at hQ ⊢
  clear h1 h5
  go_wp2
  exact hQ (.int .i64 ((n : Int) - rk)) _ (Below.refl _ _) rfl
 ·intro x w hb hk hiv hdj
  have h0 : x.v 0 = .pointer (some ⟨g2, 1, none⟩) := hk 0 (by decide)
  have h1 : x.v 1 = .int .i64 n := hk 1 (by decide)
  have h2 : x.v 2 = .pointer (some ⟨w0.heap.size, 0, none⟩) := hk 2 (by decide)
  have h3 : x.v 3 = .int .i64 X.p := hk 3 (by decide)
  have h4 : x.v 4 = .agg #[.int .i64 R, .int .i64 n, .slice MA ML mc] := hk 4 (by decide)
  have h5 : x.v 5 = .int .i64 rk := hk 5 (by decide)
  have h6 : x.v 6 = .int .i64 ((n : Int) - rk) := hk 6 (by decide)
  clear hk
  simp only [netE]
  simp only [List.drop_succ_cons, List.drop_zero, h0, h1, h2, h3, h4, h5, h6]
  clear h0 h1 h2 h3 h4 h5 h6
  have GF := Lib.hid (bthen G2.out hb)
  clear hb hiv hdj
  go_wp2
  go_ret
  exact ⟨rfl, GF.out⟩
end Go.Proofs.YthhjoamgcfiecaaGreat
