/- FnPencils: the law holds for every argument. Part 13 of 18 of the proof: AVec, SMat, Rank2, PenAt, PenAt2, PenAt3, AMat. No condition. -/
import Derived.Test.YthhjoamgcfiecaaGreatBPencils12
set_option linter.unusedVariables false
set_option linter.unusedSimpArgs false
namespace Go.Proofs.YthhjoamgcfiecaaGreat
open Go.RowKit
set_option maxHeartbeats 3200000 in
set_option maxRecDepth 100000 in
theorem addVectors_any (p : Int) (va vb : Value) (n : Nat) (f g : Nat → Int) (w0 : World) (ha : SlI w0 w0.heap.size va (rowF n f)) (hb0 : SlI w0 w0.heap.size vb (rowF n g)) (hv : isVec p (rowF n f) = true) (hv2 : isVec p (rowF n g) = true) :
  Calls Tryz.prog 80 #[.int .i64 p, va, vb] w0 fun e w' => ∃ r, e = .returned (.tuple #[r, .bool true]) ∧ IntsO w' w0.heap.size w'.heap.size r (rowF n (adF p f g)) ∧ Below w0.heap.size w0 w' := by
 have hp := isFld_r (isVec_t.1 hv).1
 have hn := (isVec_t.1 hv).2.1
 rw [rowF_length] at hn
 have HR := Lib.hid (isVec_rowF hv)
 have HR2 := Lib.hid (isVec_rowF hv2)
 have HV := Lib.hid hv
 have HV2 := Lib.hid hv2
 have ha' := ha
 have hb' := hb0
 obtain ⟨A, ac, rfl, _⟩ := ha
 obtain ⟨B, bc, rfl, _⟩ := hb0
 simp only [rowF_length] at ha' hb' ⊢
 obtain ⟨W, hW⟩ : ∃ W, W = w0.alloc (.cells #[] 3) := ⟨_, rfl⟩
 have g0 : Below w0.heap.size w0 W := by rw [hW]; exact below_alloc _ _
 have ho : OwnI W w0.heap.size (.slice (some ⟨w0.heap.size, 0, none⟩) 0 0) (rowF 0 (adF p f g)) := by
  rw [hW]
  have h0 : rowF 0 (adF p f g) = [] := rfl
  rw [h0]
  exact OwnI.made (w := w0) (base := w0.heap.size) 3 rfl (Nat.le_refl _)
 have HA := Lib.hid ha'
 have HB := Lib.hid hb'
 clear ha' hv hv2 hb'
 go_enter Tryz.func80, Tryz.ntmps80
 go_wp2_with fail
 rw [← hW]; clear hW
 refine (specIsVector_any p _ (rowF n f) W (SlI.more g0.size (SlI.below g0 HA.out))).mono ?_; rintro e w1 ⟨rfl, hb1⟩
 rw [HV.out]
 replace ho := ho.below hb1
 have gW := g0.trans (hb1.mono g0.size)
 clear hb1
 go_wp2_with fail
 refine (specIsVector_any p _ (rowF n g) _ (SlI.more gW.size (SlI.below gW HB.out))).mono ?_; rintro e w2 ⟨rfl, hb1⟩
 rw [HV2.out]
 replace ho := ho.below hb1
 replace gW := gW.trans (hb1.mono gW.size)
 clear hb1
 go_wp2
 go_loopw [8, 9] (fun out i wr => ∃ j : Nat, j ≤ n ∧ i = .int .i64 j ∧ OwnI wr w0.heap.size out (rowF j (adF p f g)) ∧ Below w0.heap.size w0 wr) (fun _ i _ => n - (intOf i).toNat)
 case atStart => exact ⟨0, Nat.zero_le _, rfl, ho, gW⟩
 case round =>
  clear ho gW
  obtain ⟨j, hj, rfl, ho, gW⟩ := hrel
  have gs := gW.size
  by_cases hlt : j < n
  ·have hx := HA.out
   have hx2 := HB.out
   have hlt2 : j < (rowF n g).length := by rw [rowF_length]; exact hlt
   rw [← rowF_length n f] at hlt
   rw [show (Value.slice A n ac) = .slice A (rowF n f).length ac by rw [rowF_length]] at hx
   rw [show (Value.slice B n bc) = .slice B (rowF n g).length bc by rw [rowF_length]] at hx2
   obtain ⟨b, o, x, rfl, hbl, HXX, x1, _⟩ := SlI.at_ hx hlt
   obtain ⟨b2, o2, y, rfl, hbl2, HYY, y1, _⟩ := SlI.at_ hx2 hlt2
   rw [rowF_length] at hlt
   have hxx := HXX.out
   rw [rowF_get _ hlt] at hxx
   injection hxx with hxx
   subst hxx
   have hyy := HYY.out
   rw [rowF_get _ hlt] at hyy
   injection hyy with hyy
   subst hyy
   have x2 := bcell gW hbl x1
   have y2 := bcell gW hbl2 y1
   have hr := HR.out j hlt
   have hr2 := HR2.out j hlt
   obtain ⟨z, hz⟩ : ∃ z, f j = z := ⟨_, rfl⟩
   obtain ⟨q, hq⟩ : ∃ q, g j = q := ⟨_, rfl⟩
   rw [hz] at x2 hr
   rw [hq] at y2 hr2
   have hsn := rowF_snoc j (adF p f g)
   rw [show adF p f g j = (z + q) % p by rw [adF, hq, hz]] at hsn
   have HSN := Lib.hid hsn
   have hr0 := Int.emod_nonneg (z + q) (show p ≠ 0 by omega)
   have hr1 := Int.emod_lt_of_pos (z + q) (show 0 < p by omega)
   obtain ⟨OB, ob, rfl, _, _⟩ := ho.form
   clear hx HXX x1 hz hq hsn hx2 HYY y1 hlt2
   have hblr : b < wr.heap.size := by omega
   have hblr2 : b2 < wr.heap.size := by omega
   go_wp2
   refine wp_region_net (by kernel_rfl) [.eq (.slice OB (rowF j (adF p f g)).length ob), .eq (.int .i64 p), .eq (.slice (some ⟨b, o, none⟩) n ac), .eq (.int .i64 j), .eq (.pointer (some ⟨b, o + j, none⟩)), .eq (.int .i64 z), .eq (.slice (some ⟨b2, o2, none⟩) n bc), .eq (.int .i64 j), .eq (.pointer (some ⟨b2, o2 + j, none⟩)), .eq (.int .i64 q), .eq (.int .i64 (z + q)), .eq (.int .i64 ((z + q) % p)), rel 12 (fun u lo hi w => ∃ g, u = .slice (some ⟨g, 0, none⟩) 1 1 ∧ SlI w w.heap.size u [(z + q) % p])] [[], [], [], [], [2, 3], [2, 3, 4], [], [], [6, 7], [6, 7, 8], [2, 3, 4, 5, 6, 7, 8, 9], [1, 2, 3, 4, 5, 6, 7, 8, 9, 10], [1, 2, 3, 4, 5, 6, 7, 8, 9, 10, 11], [0, 1, 2, 3, 4, 5, 6, 7, 8, 9, 10, 11, 12], [0, 1, 2, 3, 4, 5, 6, 7, 8, 9, 10, 11, 12, 13]] 13 (by kernel_rfl) ⟨trivial, trivial, trivial, trivial, trivial, trivial, trivial, trivial, trivial, trivial, trivial, trivial, rel_stable (fun u lo hi w w' ⟨g, e, h⟩ hb => ⟨g, e, SlI.next hb h⟩), trivial⟩ ⟨?_, ?_, ?_, ?_, ?_, ?_, ?_, ?_, ?_, ?_, ?_, ?_, ?_, trivial⟩ ?_
   ·intro x w hb hk Q' hQ
    clear hk
    simp only [netE] at hQ ⊢
    go_wp2
    exact hQ (.slice OB (rowF j (adF p f g)).length ob) _ (Below.refl _ _) rfl
   ·intro x w hb hk Q' hQ
    clear hk
    simp only [netE] at hQ ⊢
    go_wp2
    exact hQ _ _ (Below.refl _ _) rfl
   ·intro x w hb hk Q' hQ
    clear hk
    simp only [netE] at hQ ⊢
    go_wp2
    exact hQ _ _ (Below.refl _ _) rfl
   ·intro x w hb hk Q' hQ
    clear hk
    simp only [netE] at hQ ⊢
    go_wp2
    exact hQ _ _ (Below.refl _ _) rfl
   ·intro x w hb hk Q' hQ
    have h2 : x.v 2 = _ := (hk 2 (by decide)).1
    have h3 : x.v 3 = _ := (hk 3 (by decide)).1
    clear hk
    simp only [netE] at hQ ⊢
    simp only [h2, h3] at hQ ⊢
    clear h2 h3
    go_wp2
    exact hQ _ _ (Below.refl _ _) rfl
   ·intro x w hb hk Q' hQ
    have h4 : x.v 4 = _ := (hk 4 (by decide)).1
    clear hk
    simp only [netE] at hQ ⊢
    simp only [h4] at hQ ⊢
    clear h4
    have q0 := bcell hb hblr x2
    go_wp2
    exact hQ _ _ (Below.refl _ _) rfl
   ·intro x w hb hk Q' hQ
    clear hk
    simp only [netE] at hQ ⊢
    go_wp2
    exact hQ _ _ (Below.refl _ _) rfl
   ·intro x w hb hk Q' hQ
    clear hk
    simp only [netE] at hQ ⊢
    go_wp2
    exact hQ _ _ (Below.refl _ _) rfl
   ·intro x w hb hk Q' hQ
    have h6 : x.v 6 = _ := (hk 6 (by decide)).1
    have h7 : x.v 7 = _ := (hk 7 (by decide)).1
    clear hk
    simp only [netE] at hQ ⊢
    simp only [h6, h7] at hQ ⊢
    clear h6 h7
    go_wp2
    exact hQ _ _ (Below.refl _ _) rfl
   ·intro x w hb hk Q' hQ
    have h8 : x.v 8 = _ := (hk 8 (by decide)).1
    clear hk
    simp only [netE] at hQ ⊢
    simp only [h8] at hQ ⊢
    clear h8
    have q0 := bcell hb hblr2 y2
    go_wp2
    exact hQ _ _ (Below.refl _ _) rfl
   ·intro x w hb hk Q' hQ
    have h5 : x.v 5 = _ := (hk 5 (by decide)).1
    have h9 : x.v 9 = _ := (hk 9 (by decide)).1
    clear hk
    simp only [netE] at hQ ⊢
    simp only [h5, h9] at hQ ⊢
    clear h5 h9
    go_wp2
    exact hQ _ _ (Below.refl _ _) rfl
   ·intro x w hb hk Q' hQ
    have h1 : x.v 1 = _ := (hk 1 (by decide)).1
    have h10 : x.v 10 = _ := (hk 10 (by decide)).1
    clear hk
    simp only [netE] at hQ ⊢
    simp only [h1, h10] at hQ ⊢
    clear h1 h10
    go_wp2_with fail
    refine (l2Mod_any p (z + q) _ hp (by simp only [I64]; omega)).mono ?_; rintro e w5 ⟨rfl, rfl⟩
    go_wp2
    exact hQ (.int .i64 ((z + q) % p)) _ (Below.refl _ _) rfl
   ·intro x w hb hk Q' hQ
    have h1 : x.v 1 = _ := (hk 1 (by decide)).1
    have h2 : x.v 2 = _ := (hk 2 (by decide)).1
    have h3 : x.v 3 = _ := (hk 3 (by decide)).1
    have h4 : x.v 4 = _ := (hk 4 (by decide)).1
    have h5 : x.v 5 = _ := (hk 5 (by decide)).1
    have h6 : x.v 6 = _ := (hk 6 (by decide)).1
    have h7 : x.v 7 = _ := (hk 7 (by decide)).1
    have h8 : x.v 8 = _ := (hk 8 (by decide)).1
    have h9 : x.v 9 = _ := (hk 9 (by decide)).1
    have h10 : x.v 10 = _ := (hk 10 (by decide)).1
    have h11 : x.v 11 = _ := (hk 11 (by decide)).1
    clear hk
    simp only [netE] at hQ ⊢
    simp only [h1, h2, h3, h4, h5, h6, h7, h8, h9, h10, h11] at hQ ⊢
    clear h1 h2 h3 h4 h5 h6 h7 h8 h9 h10 h11
    go_wp2
    exact hQ (.slice (some ⟨w.heap.size, 0, none⟩) 1 1) _ (below_alloc _ _) ⟨_, rfl, SlI.one _ _ _ (by simp only [I64]; omega)⟩
   ·intro x w hb hk hiv hdj
    have h0 : x.v 0 = .slice OB (rowF j (adF p f g)).length ob := hk 0 (by decide)
    have h1 : x.v 1 = .int .i64 p := hk 1 (by decide)
    have h2 : x.v 2 = .slice (some ⟨b, o, none⟩) n ac := hk 2 (by decide)
    have h3 : x.v 3 = .int .i64 j := hk 3 (by decide)
    have h4 : x.v 4 = .pointer (some ⟨b, o + j, none⟩) := hk 4 (by decide)
    have h5 : x.v 5 = .int .i64 z := hk 5 (by decide)
    have h6 : x.v 6 = .slice (some ⟨b2, o2, none⟩) n bc := hk 6 (by decide)
    have h7 : x.v 7 = .int .i64 j := hk 7 (by decide)
    have h8 : x.v 8 = .pointer (some ⟨b2, o2 + j, none⟩) := hk 8 (by decide)
    have h9 : x.v 9 = .int .i64 q := hk 9 (by decide)
    have h10 : x.v 10 = .int .i64 (z + q) := hk 10 (by decide)
    have h11 : x.v 11 = .int .i64 ((z + q) % p) := hk 11 (by decide)
    have h12 : ∃ g, (x.v 12) = .slice (some ⟨g, 0, none⟩) 1 1 ∧ SlI w w.heap.size (x.v 12) [(z + q) % p] := hk 12 (by decide)
    clear hk
    simp only [netE]
    simp only [List.drop_succ_cons, List.drop_zero, h0, h1, h2, h3, h4, h5, h6, h7, h8, h9, h10, h11]
    clear h0 h1 h2 h3 h4 h5 h6 h7 h8 h9 h10 h11
    obtain ⟨gg, e11, hs11⟩ := h12
    rw [e11] at hs11 ⊢
    have ho2 := ho.below hb
    have hlo := ho2.lt
    have hbs := hb.size
    clear hiv hdj e11 ho
    refine wpList_appI (by rfl) (.tmp 35) (.tmp 47) (by rfl) w0.heap.size w.heap.size _ _ (by rfl) ho2 _ 1 1 [(z + q) % p] (by rfl) rfl hs11 (by rw [rowF_length]; simp; omega) (by omega) ?_
    intro v' w' h1 h2 h3
    rw [← HSN.out] at h1
    have G2 := Lib.hid ((gW.trans (hb.mono gs)).trans (below_grown h2 (fun k hk => (hlo k hk).1) (by omega)))
    have H1 := Lib.hid h1
    clear h1 h2 h3 hlo ho2 hs11 hb gW
    go_wp2
    go_roundw
    case rel => exact ⟨j + 1, by omega, by go_num, H1.out, G2.out⟩
    case measure => simp [intOf]; omega
  ·obtain rfl : j = n := by omega
   have HO := Lib.hid ho
   clear ho
   go_wp2
   go_ret2
   exact ⟨_, rfl, IntsO.of_own HO.out, gW⟩
theorem isMat_mxF {p : Int} {r c : Nat} {f : Nat → Nat → Int} (hp : isFld p = true) (hr : r ≤ 8) (hc : c ≤ 8) (hf : ∀ i j, i < r → j < c → 0 ≤ f i j ∧ f i j ≤ p - 1) : isMat p (mxF r c f) = true := by
 rw [isMat_t]
 refine ⟨by simp only [mxF]; omega, by simp only [mxF]; omega, by simp [mxF, flat_length], isVec_t.2 ⟨hp, ?_, fun x hx => ?_⟩⟩
 ·simp only [mxF, flat_length]
  exact Nat.mul_le_mul hr hc
 ·obtain ⟨i, j, hi, hj, rfl⟩ := flat_mem hx
  exact hf i j hi hj
def scM (p k : Int) (f : Nat → Nat → Int) (i j : Nat) : Int := (k % p * f i j) % p
def adM (p : Int) (f g : Nat → Nat → Int) (i j : Nat) : Int := (f i j + g i j) % p
set_option maxHeartbeats 1600000 in
theorem scaleMatrix_any (p k : Int) (u : Value) (r c : Nat) (f : Nat → Nat → Int) (w0 : World) (hk : I64 k) (hu : MxR w0 w0.heap.size u (mxF r c f)) (hM : isMat p (mxF r c f) = true) :
  Calls Tryz.prog 57 #[.int .i64 p, .int .i64 k, u] w0 fun e w' => ∃ v, e = .returned (.tuple #[v, .bool true]) ∧ MxO w' w0.heap.size w'.heap.size v (mxF r c (scM p k f)) ∧ Below w0.heap.size w0 w' := by
 have hu' := hu
 obtain ⟨U, uc, rfl, hs, i1, i2, _⟩ := hu.open_
 have hV := (isMat_t.1 hM).2.2.2
 have HV : Hid (isVec p (rowF (r * c) fun j => f (j / c) (j % c)) = true) := hV
 have HS := hs
 have z1 : (mxF r c f).r = (r : Int) := rfl
 have z2 : (mxF r c f).c = (c : Int) := rfl
 have z5 : (mxF r c f).a = rowF (r * c) fun j => f (j / c) (j % c) := rfl
 rw [z1] at i1
 rw [z2] at i2
 have HM := Lib.hid hM
 rw [z5] at hs
 obtain ⟨N, hN⟩ : ∃ N, (mxF r c f).a.length = N := ⟨_, rfl⟩
 rw [← z5, hN, z5] at hs
 rw [hN, z1, z2] at hu' ⊢
 clear hu hV hM z1 z2 z5 hN HS
 obtain ⟨W, hW⟩ : ∃ W, W = (w0.alloc (.cells #[.int .i64 r, .int .i64 c, .slice U N uc] 44)).alloc (.cells #[.int .i64 0, .int .i64 0, .slice none 0 0] 44) := ⟨_, rfl⟩
 have g0 : Below w0.heap.size w0 W := by rw [hW]; exact ((Below.refl _ _).alloc (Nat.le_refl _) _).alloc (by simp) _
 have k1 : Blk W w0.heap.size 44 #[.int .i64 r, .int .i64 c, .slice U N uc] := by rw [hW]; exact (Blk.new _ _ _).alloc _
 have k2 : Blk W (w0.heap.size + 1) 44 #[.int .i64 0, .int .i64 0, .slice none 0 0] := by
  rw [hW]
  have := Blk.new (w0.alloc (.cells #[.int .i64 r, .int .i64 c, .slice U N uc] 44)) 44 #[.int .i64 0, .int .i64 0, .slice none 0 0]
  simpa only [World.size_alloc] using this
 have sz : W.heap.size = w0.heap.size + 1 + 1 := by rw [hW]; simp
 have HU := Lib.hid (MxR.next g0 hu')
 have HSS := Lib.hid (SlI.next g0 hs)
 have SZ := Lib.hid sz
 have G0 := Lib.hid g0
 clear sz hu' hs g0
 go_enter Tryz.func57, Tryz.ntmps57
 go_wp2_with fail
 rw [← hW]; clear hW
 refine (specIsMatrix_any p _ (mxF r c f) W HU.out).mono ?_; rintro e w1 ⟨rfl, hb1⟩
 rw [HM.out]
 replace k1 := k1.call hb1
 replace k2 := k2.call hb1
 have hs1 := SlI.next hb1 HSS.out
 have hw1 := hb1.size
 have gW := hb1
 have c2 := k1.cell' (i := 2) rfl
 clear hb1
 go_wp2_with fail
 refine (scaleVector_any p k _ (r * c) _ _ hk hs1 HV.out).mono ?_; rintro e wr ⟨v, rfl, hO, hb1⟩
 replace k1 := k1.call hb1
 replace k2 := k2.call hb1
 have hws := hb1.size
 replace gW := bthen gW hb1
 obtain ⟨A1, c1, rfl⟩ := hO.form
 have hO2 : IntsO wr w1.heap.size wr.heap.size (.slice A1 (rowF (r * c) (scF p k fun j => f (j / c) (j % c))).length c1) (mxF r c (scM p k f)).a := hO
 obtain ⟨N1, hN1⟩ : ∃ N, (rowF (r * c) (scF p k fun j => f (j / c) (j % c))).length = N := ⟨_, rfl⟩
 rw [hN1] at hO2 ⊢
 clear c2 hb1 hs1 hO hN1
 have z0 := k1.cell' (i := 0) rfl
 have z1 := k1.cell' (i := 1) rfl
 have p0 := k2.cell' (i := 0) rfl
 have p1 := k2.cell' (i := 1) rfl
 have p2 := k2.cell' (i := 2) rfl
 have f2 := k2.frozen
 have h2 := chg3 wr (w0.heap.size + 1) (.int .i64 (r : Int)) (.int .i64 c) (.slice A1 N1 c1)
 have gw : Below w0.heap.size w0 wr := (G0.out).trans (gW.mono (G0.out).size)
 have gs := gw.size
 have sz := SZ.out
 have hl1 := k1.lt
 have gW1 := gW.size
 have oA2 := (hO2.chg h2 (.inr (by omega))).wider (lo' := w0.heap.size) (hi' := wr.heap.size) (by omega) (Nat.le_refl _)
 have fg := gw.trans (h2.below (by omega) gs)
 have OA2 := Lib.hid oA2
 have FG := Lib.hid fg
 clear hO2 oA2 fg gw h2 k2 k1 gW sz
 go_wp2
 exact bodyPost_ret (v := .tuple #[.agg #[.int .i64 (r : Int), .int .i64 c, .slice A1 N1 c1], .bool true]) (by simp [results, go_sem, p0, p1, p2]) rfl ⟨_, rfl, ⟨_, rfl, (OA2.out).wider (Nat.le_refl _) (by simp), i1, i2⟩, FG.out⟩
theorem slOne {w : World} {g : Nat} {x : Int} (hk : Blk w g 3 #[.int .i64 x]) (hx : I64 x) : SlI w w.heap.size (.slice (some ⟨g, 0, none⟩) 1 1) [x] := by
 refine ⟨_, 1, rfl, by simp, by omega, by simp, fun _ => ⟨g, 0, rfl, hk.lt, fun j y hj => ?_⟩⟩
 match j, hj with
 | 0, hj =>
  simp at hj; subst hj
  exact ⟨by rw [hk.cell]; rfl, hx⟩
 | j + 1, hj => simp at hj
set_option maxHeartbeats 1600000 in
set_option maxRecDepth 100000 in
theorem rowReduce_yes (p : Int) (u : Value) (r c : Nat) (f : Nat → Nat → Int) (w0 : World) (hp : isFld p = true) (hr : r ≤ 8) (hc : c ≤ 8) (hu : MxR w0 w0.heap.size u (mxF r c f)) (hf : InF p r c f) :
  Calls Tryz.prog 88 #[.int .i64 p, u] w0 fun e w' => ∃ m v, e = .returned (.tuple #[m, v, .bool true]) ∧ MxO w' w0.heap.size w'.heap.size m (mxF r c (rdTo p r f c).1) ∧ IntsO w' w0.heap.size w'.heap.size v (rdTo p r f c).2 ∧ Below w0.heap.size w0 w' := by
 have hu' := hu
 have hmat := isMat_mxF hp hr hc hf
 obtain ⟨UA, uc, rfl⟩ := hu.form
 simp only [mxF] at hu hu' ⊢
 rw [flat_length] at hu hu' ⊢
 obtain ⟨UL, hUL⟩ : ∃ n, r * c = n := ⟨_, rfl⟩
 rw [hUL] at hu hu' ⊢
 clear hUL hu
 obtain ⟨W, hW⟩ : ∃ W, W = (w0.alloc (.cells #[.int .i64 r, .int .i64 c, .slice UA UL uc] 44)).alloc (.cells #[.int .i64 0, .int .i64 0, .slice none 0 0] 44) := ⟨_, rfl⟩
 have g0 : Below w0.heap.size w0 W := by rw [hW]; exact ((Below.refl _ _).alloc (Nat.le_refl _) _).alloc (by simp) _
 have kB : Blk W w0.heap.size 44 #[.int .i64 r, .int .i64 c, .slice UA UL uc] := by rw [hW]; exact (Blk.new _ _ _).alloc _
 have kR : Blk W (w0.heap.size + 1) 44 #[.int .i64 0, .int .i64 0, .slice none 0 0] := by
  rw [hW]
  have := Blk.new (w0.alloc (.cells #[.int .i64 r, .int .i64 c, .slice UA UL uc] 44)) 44 #[.int .i64 0, .int .i64 0, .slice none 0 0]
  simpa only [World.size_alloc] using this
 have sz : W.heap.size = w0.heap.size + 1 + 1 := by rw [hW]; simp
 have SZ := Lib.hid sz
 have hU := MxR.next g0 hu'
 have HF := Lib.hid hf
 have HP := Lib.hid hp
 have HMT := Lib.hid hmat
 have c0 := kB.cell' (i := 0) rfl
 have c1 := kB.cell' (i := 1) rfl
 have c2 := kB.cell' (i := 2) rfl
 clear hu' hf hp hmat sz
 go_enter Tryz.func88, Tryz.ntmps88
 go_wp2_with fail
 rw [← hW]; clear hW
 refine (specIsMatrix_any p _ (mxF r c f) _ hU).mono ?_; rintro e w1 ⟨rfl, hb1⟩
 rw [HMT.out]
 have HU1 := Lib.hid (MxR.next hb1 hU)
 have kB1 := kB.call hb1
 have kR1 := kR.call hb1
 have g1 := bthen g0 hb1
 have s1 := hb1.size
 clear c0 c1 c2 hU kB kR g0 hb1
 have c0 := kB1.cell' (i := 0) rfl
 have c1 := kB1.cell' (i := 1) rfl
 have c2 := kB1.cell' (i := 2) rfl
 go_wp2_with fail
 refine (l4Reduce_any p _ r c f _ HP.out (by omega) (by omega) HU1.out HF.out).mono ?_; rintro e w2 ⟨m, v, rfl, hM, hI, hb2⟩
 obtain ⟨MA, mc, em⟩ := hM.form
 obtain ⟨PA, pc, ev⟩ := hI.form
 subst em ev
 simp only [mxF, flat_length] at hM ⊢
 obtain ⟨ML, hML⟩ : ∃ n, r * c = n := ⟨_, rfl⟩
 rw [hML] at hM ⊢
 have g2 := bthen g1 hb2
 have kR2 := kR1.call hb2
 have s2 := hb2.size
 obtain ⟨X, hX⟩ : ∃ X, X = w2.alloc (.cells #[.int .i64 r, .int .i64 c, .slice MA ML mc] 44) := ⟨_, rfl⟩
 have bX : Below w2.heap.size w2 X := by rw [hX]; exact below_alloc _ _
 have kX : Blk X w2.heap.size 44 #[.int .i64 r, .int .i64 c, .slice MA ML mc] := by rw [hX]; exact Blk.new _ _ _
 have kRX := kR2.call bX
 have gX := bthen g2 bX
 have sX := bX.size
 have fr := kRX.frozen
 have p0 := kRX.cell' (i := 0) rfl
 have p1 := kRX.cell' (i := 1) rfl
 have p2 := kRX.cell' (i := 2) rfl
 have d0 := kX.cell' (i := 0) rfl
 have d1 := kX.cell' (i := 1) rfl
 have d2 := kX.cell' (i := 2) rfl
 have sz := SZ.out
 have hc3 := chg3 X (w0.heap.size + 1) (.int .i64 (r : Int)) (.int .i64 c) (.slice MA ML mc)
 have hMX := hM.below bX
 have hIX := hI.below bX
 have OM := Lib.hid ((hMX.chg hc3 (.inr (by omega))).wider (lo' := w0.heap.size) (hi' := X.heap.size) (by omega) (by omega))
 have OI := Lib.hid ((hIX.chg hc3 (.inr (by omega))).wider (lo' := w0.heap.size) (hi' := X.heap.size) (by omega) (by omega))
 have GF := Lib.hid (gX.trans (hc3.below (by omega) gX.size))
 rw [hX] at fr p0 p1 p2 d0 d1 d2
 clear hM hI hMX hIX hc3 gX kRX kX bX kR2 g2 hb2 kR1 g1 s1 s2 sX c0 c1 c2 kB1 sz
 go_wp2
 rw [← hX]
 rw [← hX] at p0 p1 p2
 exact bodyPost_ret (v := .tuple #[.agg #[.int .i64 (r : Int), .int .i64 c, .slice MA ML mc], .slice PA (rdTo p r f c).2.length pc, .bool true]) (by simp [results, go_sem, p0, p1, p2]) rfl ⟨_, _, rfl, MxO.wider OM.out (Nat.le_refl _) (by simp), IntsO.wider OI.out (Nat.le_refl _) (by simp), GF.out⟩
set_option maxHeartbeats 1600000 in
set_option maxRecDepth 100000 in
theorem rankOf_yes (p : Int) (u : Value) (r c : Nat) (f : Nat → Nat → Int) (w0 : World) (hp : isFld p = true) (hr : r ≤ 8) (hc : c ≤ 8) (hu : MxR w0 w0.heap.size u (mxF r c f)) (hf : InF p r c f) :
  Calls Tryz.prog 67 #[.int .i64 p, u] w0 fun e w' => e = .returned (.int .i64 (rkF p r c f : Int)) ∧ Below w0.heap.size w0 w' := by
 have hu' := hu
 obtain ⟨UA, uc, rfl⟩ := hu.form
 simp only [mxF] at hu hu' ⊢
 rw [flat_length] at hu hu' ⊢
 obtain ⟨UL, hUL⟩ : ∃ n, r * c = n := ⟨_, rfl⟩
 rw [hUL] at hu hu' ⊢
 clear hUL hu
 obtain ⟨W, hW⟩ : ∃ W, W = w0.alloc (.cells #[.int .i64 r, .int .i64 c, .slice UA UL uc] 44) := ⟨_, rfl⟩
 have g0 : Below w0.heap.size w0 W := by rw [hW]; exact below_alloc _ _
 have kB : Blk W w0.heap.size 44 #[.int .i64 r, .int .i64 c, .slice UA UL uc] := by rw [hW]; exact Blk.new _ _ _
 have HU := Lib.hid (MxR.next g0 hu')
 have HF := Lib.hid hf
 have HP := Lib.hid hp
 have c0 := kB.cell' (i := 0) rfl
 have c1 := kB.cell' (i := 1) rfl
 have c2 := kB.cell' (i := 2) rfl
 clear hu' hf hp kB
 go_enter Tryz.func67, Tryz.ntmps67
 go_wp2_with fail
 rw [← hW]; clear hW
 refine (rowReduce_yes p _ r c f _ HP.out hr hc HU.out HF.out).mono ?_; rintro e w1 ⟨m, v, rfl, hM, hI, hb1⟩
 obtain ⟨MA, mc, em⟩ := hM.form
 obtain ⟨PA, pc, ev⟩ := hI.form
 subst em ev
 have g1 := bthen g0 hb1
 simp only [mxF]
 obtain ⟨rk, hrk⟩ : ∃ rk, rkF p r c f = rk := ⟨_, rfl⟩
 have hrk2 := hrk
 unfold rkF at hrk2
 rw [hrk2]
 have HRK := Lib.hid hrk
 clear hM hI hb1 g0 c0 c1 c2 hrk hrk2
 go_wp2
 go_ret
 exact ⟨by rw [HRK.out]; rfl, g1.alloc g1.size _⟩
theorem pen_at {x : Rp} (h : isPen x = true) : ∃ (C R : Nat) (fa fb : Nat → Nat → Int), x.d = [(C : Int), (R : Int)] ∧ x.m = [mxF R C fa, mxF R C fb] ∧ C ≤ 4 ∧ R ≤ 4 ∧ isFld x.p = true ∧ x.q = pQ ∧
  (∀ i j, i < R → j < C → 0 ≤ fa i j ∧ fa i j ≤ x.p - 1) ∧ (∀ i j, i < R → j < C → 0 ≤ fb i j ∧ fb i j ≤ x.p - 1) := by
 simp only [isPen, Bool.and_eq_true, decide_eq_true_eq] at h
 obtain ⟨h1, h2⟩ := h
 obtain ⟨hp, hd, hl, _⟩ := isRep_t.1 h1
 have hdl := (areDims_t.1 hd).2.1
 rw [h2] at hdl hl
 obtain ⟨m0, nf, nt, yf, yt, em, ef, et, df, dt, eM, he, b1, b2, _⟩ := isRep_at h1 (k := 0) (by rw [h2]; decide)
 obtain ⟨m1, nf', nt', yf', yt', em', ef', et', df', dt', eM', he', b1', b2', _⟩ := isRep_at h1 (k := 1) (by rw [h2]; decide)
 rw [h2] at ef et ef' et'
 simp only [pQ, List.getElem?_cons_zero, List.getElem?_cons_succ, Option.some.injEq] at ef et ef' et' hdl hl
 obtain rfl : nf = 0 := by omega
 obtain rfl : nt = 1 := by omega
 obtain rfl : nf' = 0 := by omega
 obtain rfl : nt' = 1 := by omega
 rw [df] at df'
 rw [dt] at dt'
 injection df' with df'
 injection dt' with dt'
 obtain rfl : yf = yf' := by omega
 obtain rfl : yt = yt' := by omega
 have hd2 : x.d.length = 2 := by omega
 have hm2 : x.m.length = 2 := by simpa using hl
 refine ⟨yf, yt, entry m0.a yf, entry m1.a yf, ?_, ?_, b1, b2, hp, h2, he, he'⟩
 ·match hx : x.d, hd2 with
  | [a, b], _ =>
   rw [hx] at df dt
   simp only [List.getElem?_cons_zero, List.getElem?_cons_succ, Option.some.injEq] at df dt
   rw [df, dt]
 ·match hx : x.m, hm2 with
  | [a, b], _ =>
   rw [hx] at em em'
   simp only [List.getElem?_cons_zero, List.getElem?_cons_succ, Option.some.injEq] at em em'
   rw [em, em', ← eM, ← eM']
def penM (x : Rp) (a b : Int) : Mx := mxF ((x.m.getD 0 mx0).r.toNat) ((x.m.getD 0 mx0).c.toNat) (plF x.p b (plF x.p a (fun _ _ => 0) (entry (x.m.getD 0 mx0).a (x.m.getD 0 mx0).c.toNat)) (entry (x.m.getD 1 mx0).a (x.m.getD 0 mx0).c.toNat))
theorem entry_flat {r c i j : Nat} (f : Nat → Nat → Int) (hi : i < r) (hj : j < c) : entry (flat r c f) c i j = f i j := flat_getD f hi hj
theorem penM_of {x : Rp} {a b : Int} {C R : Nat} {fa fb : Nat → Nat → Int} (hm : x.m = [mxF R C fa, mxF R C fb]) : penM x a b = mxF R C (plF x.p b (plF x.p a (fun _ _ => 0) fa) fb) := by
 simp only [penM, hm, List.getD_cons_zero, List.getD_cons_succ, mxF, Int.toNat_natCast]
 rw [mx_ext]
 refine ⟨rfl, rfl, flat_congr fun i j hi hj => ?_⟩
 simp only [plF, entry_flat fa hi hj, entry_flat fb hi hj]
theorem plF_rng {p k : Int} {f g : Nat → Nat → Int} (hp : 2 ≤ p ∧ p ≤ 5) (i j : Nat) : 0 ≤ plF p k f g i j ∧ plF p k f g i j ≤ 4 := by
 have h1 := Int.emod_nonneg (f i j + k * g i j) (show p ≠ 0 by omega)
 have h2 := Int.emod_lt_of_pos (f i j + k * g i j) (show 0 < p by omega)
 unfold plF
 omega
set_option maxHeartbeats 6400000 in
set_option maxRecDepth 100000 in
theorem pencilAt_any (u : Value) (x : Rp) (a b : Int) (w0 : World) (hu : RpR w0 w0.heap.size u x) (hx : isPen x = true) (ha : 0 ≤ a ∧ a ≤ 4) (hb0 : 0 ≤ b ∧ b ≤ 4) :
  Calls Tryz.prog 42 #[u, .int .i64 a, .int .i64 b] w0 fun e w' => ∃ r, e = .returned r ∧ MxO w' w0.heap.size w'.heap.size r (penM x a b) ∧ Below w0.heap.size w0 w' := by
 obtain ⟨C, R, fa, fb, ed, em, hC, hR, hp, hqq, rfa, rfb⟩ := pen_at hx
 clear hqq
 have hpr := isFld_r hp
 have HPM := Lib.hid (penM_of (a := a) (b := b) em)
 obtain ⟨UA, ua, UC, uc, UE, ue, UH, uh, rfl, hq, hd, hm, hpI, ld, lm⟩ := hu.open_
 clear hu hq
 rw [ed] at hd ⊢
 rw [em] at hm ⊢
 have zd : ([(C : Int), (R : Int)] : List Int).length = 2 := rfl
 have zm : ([mxF R C fa, mxF R C fb] : List Mx).length = 2 := rfl
 obtain ⟨bd, od, x0, rfl, hbd, HX0, d0, _⟩ := SlI.at_ (k := 0) hd (by simp)
 obtain ⟨bd', od', x1, e1, hbd', HX1, d1, _⟩ := SlI.at_ (k := 1) hd (by simp)
 injection e1 with e1
 injection e1 with e1 e2
 subst e1 e2
 obtain ⟨bm, om, m0, A0, c0, rfl, hbm, HM0, y0, y1, y2, hs0, r0, r1, _⟩ := SlM.at_ (k := 0) hm (by simp)
 obtain ⟨bm', om', m1, A1, c1, e1, hbm', HM1, z0, z1, z2, hs1, r2, r3, _⟩ := SlM.at_ (k := 1) hm (by simp)
 injection e1 with e1
 injection e1 with e1 e2
 subst e1 e2
 have t0 := HX0.out
 have t1 := HX1.out
 have t2 := HM0.out
 have t3 := HM1.out
 simp only [List.getElem?_cons_zero, List.getElem?_cons_succ, Option.some.injEq] at t0 t1 t2 t3
 subst t0 t1 t2 t3
 simp only [Nat.zero_mul, Nat.add_zero, Nat.one_mul] at y0 y1 y2 z0 z1 z2 d0 d1
 have q1 : (mxF R C fa).r = (R : Int) := rfl
 have q2 : (mxF R C fa).c = (C : Int) := rfl
 have q3 : (mxF R C fb).r = (R : Int) := rfl
 have q4 : (mxF R C fb).c = (C : Int) := rfl
 obtain ⟨LA, hLA⟩ : ∃ L, (mxF R C fa).a.length = L := ⟨_, rfl⟩
 obtain ⟨LB, hLB⟩ : ∃ L, (mxF R C fb).a.length = L := ⟨_, rfl⟩
 have hM0 : MxR w0 w0.heap.size (.agg #[.int .i64 (R : Int), .int .i64 C, .slice A0 LA c0]) (mxF R C fa) := ⟨_, rfl, by rw [← hLA]; exact hs0, r0, r1⟩
 have hM1 : MxR w0 w0.heap.size (.agg #[.int .i64 (R : Int), .int .i64 C, .slice A1 LB c1]) (mxF R C fb) := ⟨_, rfl, by rw [← hLB]; exact hs1, r2, r3⟩
 rw [q1] at y0
 rw [q2] at y1
 rw [hLA] at y2
 rw [q3] at z0
 rw [q4] at z1
 rw [hLB] at z2
 rw [zd, zm]
 clear q1 q2 q3 q4 hLA hLB hs0 hs1 r0 r1 r2 r3 zd zm hd hm ed em HX0 HX1 HM0 HM1 ld lm hbd' hbm'
 have HFA := Lib.hid rfa
 have HFB := Lib.hid rfb
 clear rfa rfb
 obtain ⟨p, hpp⟩ : ∃ p, x.p = p := ⟨_, rfl⟩
 rw [hpp] at hp hpr hpI HFA HFB HPM ⊢
 generalize hMM : penM x a b = PM at HPM ⊢
 clear hMM hpp hx
 obtain ⟨W, hW⟩ : ∃ W, W = (w0.alloc (.cells #[.int .i64 p, .int .i64 x.q.v, .slice UA x.q.f.length ua, .slice UC x.q.t.length uc, .slice (some ⟨bd, od, none⟩) 2 ue, .slice (some ⟨bm, om, none⟩) 2 uh] 31)).alloc (.cells #[.int .i64 0, .int .i64 0, .slice none 0 0] 44) := ⟨_, rfl⟩
 have g0 : Below w0.heap.size w0 W := by rw [hW]; exact ((Below.refl _ _).alloc (Nat.le_refl _) _).alloc (by simp) _
 have kB : Blk W w0.heap.size 31 #[.int .i64 p, .int .i64 x.q.v, .slice UA x.q.f.length ua, .slice UC x.q.t.length uc, .slice (some ⟨bd, od, none⟩) 2 ue, .slice (some ⟨bm, om, none⟩) 2 uh] := by rw [hW]; exact (Blk.new _ _ _).alloc _
 have kR : Blk W (w0.heap.size + 1) 44 #[.int .i64 0, .int .i64 0, .slice none 0 0] := by
  rw [hW]
  have := Blk.new (w0.alloc (.cells #[.int .i64 p, .int .i64 x.q.v, .slice UA x.q.f.length ua, .slice UC x.q.t.length uc, .slice (some ⟨bd, od, none⟩) 2 ue, .slice (some ⟨bm, om, none⟩) 2 uh] 31)) 44 #[.int .i64 0, .int .i64 0, .slice none 0 0]
  simpa only [World.size_alloc] using this
 have sz : W.heap.size = w0.heap.size + 1 + 1 := by rw [hW]; simp
 have SZ := Lib.hid sz
 have d0' := bcell g0 hbd d0
 have d1' := bcell g0 hbd d1
 have y0' := bcell g0 hbm y0
 have y1' := bcell g0 hbm y1
 have y2' := bcell g0 hbm y2
 have z0' := bcell g0 hbm z0
 have z1' := bcell g0 hbm z1
 have z2' := bcell g0 hbm z2
 have hbd2 : bd < W.heap.size := by omega
 have hbm2 : bm < W.heap.size := by omega
 have HM0 := Lib.hid (MxR.next g0 hM0)
 have HM1 := Lib.hid (MxR.next g0 hM1)
 have GW0 := Lib.hid g0
 clear sz d0 d1 y0 y1 y2 z0 z1 z2 hbd hbm hM0 hM1 g0
 go_enter Tryz.func42, Tryz.ntmps42
 go_wp2
 rw [← hW]; clear hW
 have HWS : Hid (w0.heap.size < W.heap.size) := by show _ < _; have := SZ.out; omega
 refine wp_region_net (by kernel_rfl) [.eq (.pointer (some ⟨w0.heap.size, 0, none⟩)), .eq (.int .i64 p), .eq (.pointer (some ⟨w0.heap.size, 4, none⟩)), .eq (.slice (some ⟨bd, od, none⟩) 2 ue), .eq (.pointer (some ⟨bd, od + 1, none⟩)), .eq (.int .i64 R), .eq (.pointer (some ⟨w0.heap.size, 4, none⟩)), .eq (.slice (some ⟨bd, od, none⟩) 2 ue), .eq (.pointer (some ⟨bd, od, none⟩)), .eq (.int .i64 C), rel 10 (fun u lo hi w => MxO w lo hi u (mxF R C (fun _ _ => 0))), .eq (.int .i64 a), .eq (.pointer (some ⟨w0.heap.size, 5, none⟩)), .eq (.slice (some ⟨bm, om, none⟩) 2 uh), .eq (.pointer (some ⟨bm, om, none⟩)), .eq (.agg #[.int .i64 R, .int .i64 C, .slice A0 LA c0]), rel 16 (fun u lo hi w => MxO w lo hi u (mxF R C (plF p a (fun _ _ => 0) fa))), rel 17 (fun u lo hi w => ∃ g, u = .pointer (some ⟨g, 0, none⟩) ∧ (lo ≤ g ∧ g < hi) ∧ Blk w g 44 #[.int .i64 0, .int .i64 0, .slice none 0 0])] [[], [0], [], [2], [2, 3], [2, 3, 4], [], [6], [6, 7], [6, 7, 8], [2, 3, 4, 5, 6, 7, 8, 9], [], [], [12], [12, 13], [12, 13, 14], [0, 1, 2, 3, 4, 5, 6, 7, 8, 9, 10, 11, 12, 13, 14, 15], [], [0, 1, 2, 3, 4, 5, 6, 7, 8, 9, 10, 11, 12, 13, 14, 15, 16, 17]] 18 (by kernel_rfl) ⟨trivial, trivial, trivial, trivial, trivial, trivial, trivial, trivial, trivial, trivial, rel_stable (fun u lo hi w w' h hb => h.below hb), trivial, trivial, trivial, trivial, trivial, rel_stable (fun u lo hi w w' h hb => h.below hb), rel_stable (fun u lo hi w w' ⟨g, e, h1, h⟩ hb => ⟨g, e, h1, h.call hb⟩), trivial⟩ ⟨?_, ?_, ?_, ?_, ?_, ?_, ?_, ?_, ?_, ?_, ?_, ?_, ?_, ?_, ?_, ?_, ?_, ?_, trivial⟩ ?_
 ·intro x w hb hk Q' hQ
  clear hk
  simp only [netE] at hQ ⊢
  go_wp2
  exact hQ _ _ (Below.refl _ _) rfl
 ·intro x w hb hk Q' hQ
  have h0 : x.v 0 = _ := (hk 0 (by decide)).1
  clear hk
  simp only [netE] at hQ ⊢
  simp only [h0] at hQ ⊢
  clear h0
  have z0 := (kB.call hb).cell' (i := 0) rfl
  go_wp2
  exact hQ _ _ (Below.refl _ _) rfl
 ·intro x w hb hk Q' hQ
  clear hk
  simp only [netE] at hQ ⊢
  go_wp2
  exact hQ _ _ (Below.refl _ _) rfl
 ·intro x w hb hk Q' hQ
  have h2 : x.v 2 = _ := (hk 2 (by decide)).1
  clear hk
  simp only [netE] at hQ ⊢
  simp only [h2] at hQ ⊢
  clear h2
  have z0 := (kB.call hb).cell' (i := 4) rfl
  go_wp2
  exact hQ _ _ (Below.refl _ _) rfl
 ·intro x w hb hk Q' hQ
  have h3 : x.v 3 = _ := (hk 3 (by decide)).1
  clear hk
  simp only [netE] at hQ ⊢
  simp only [h3] at hQ ⊢
  clear h3
  go_wp2
  exact hQ _ _ (Below.refl _ _) rfl
 ·intro x w hb hk Q' hQ
  have h4 : x.v 4 = _ := (hk 4 (by decide)).1
  clear hk
  simp only [netE] at hQ ⊢
  simp only [h4] at hQ ⊢
  clear h4
  have z0 := bcell hb hbd2 d1'
  go_wp2
  exact hQ _ _ (Below.refl _ _) rfl
 ·intro x w hb hk Q' hQ
  clear hk
  simp only [netE] at hQ ⊢
  go_wp2
  exact hQ _ _ (Below.refl _ _) rfl
 ·intro x w hb hk Q' hQ
  have h6 : x.v 6 = _ := (hk 6 (by decide)).1
  clear hk
  simp only [netE] at hQ ⊢
  simp only [h6] at hQ ⊢
  clear h6
  have z0 := (kB.call hb).cell' (i := 4) rfl
  go_wp2
  exact hQ _ _ (Below.refl _ _) rfl
 ·intro x w hb hk Q' hQ
  have h7 : x.v 7 = _ := (hk 7 (by decide)).1
  clear hk
  simp only [netE] at hQ ⊢
  simp only [h7] at hQ ⊢
  clear h7
  go_wp2
  exact hQ _ _ (Below.refl _ _) rfl
 ·intro x w hb hk Q' hQ
  have h8 : x.v 8 = _ := (hk 8 (by decide)).1
  clear hk
  simp only [netE] at hQ ⊢
  simp only [h8] at hQ ⊢
  clear h8
  have z0 := bcell hb hbd2 d0'
  go_wp2
  exact hQ _ _ (Below.refl _ _) rfl
 ·intro x w hb hk Q' hQ
  have h2 : x.v 2 = _ := (hk 2 (by decide)).1
  have h3 : x.v 3 = _ := (hk 3 (by decide)).1
  have h4 : x.v 4 = _ := (hk 4 (by decide)).1
  have h5 : x.v 5 = _ := (hk 5 (by decide)).1
  have h6 : x.v 6 = _ := (hk 6 (by decide)).1
  have h7 : x.v 7 = _ := (hk 7 (by decide)).1
  have h8 : x.v 8 = _ := (hk 8 (by decide)).1
  have h9 : x.v 9 = _ := (hk 9 (by decide)).1
  clear hk
  simp only [netE] at hQ ⊢
  simp only [h2, h3, h4, h5, h6, h7, h8, h9] at hQ ⊢
  clear h2 h3 h4 h5 h6 h7 h8 h9
  go_wp2_with fail
  refine (zero_any (R : Int) C _ (by omega) (by omega) (by omega) (by omega)).mono ?_; rintro e w5 ⟨v5, rfl, hO5, hb5⟩
  rw [zmx_flat] at hO5
  go_wp2
  exact hQ _ _ hb5 hO5
 ·intro x w hb hk Q' hQ
  clear hk
  simp only [netE] at hQ ⊢
  go_wp2
  exact hQ _ _ (Below.refl _ _) rfl
 ·intro x w hb hk Q' hQ
  clear hk
  simp only [netE] at hQ ⊢
  go_wp2
  exact hQ _ _ (Below.refl _ _) rfl
 ·intro x w hb hk Q' hQ
  have h12 : x.v 12 = _ := (hk 12 (by decide)).1
  clear hk
  simp only [netE] at hQ ⊢
  simp only [h12] at hQ ⊢
  clear h12
  have z0 := (kB.call hb).cell' (i := 5) rfl
  go_wp2
  exact hQ _ _ (Below.refl _ _) rfl
 ·intro x w hb hk Q' hQ
  have h13 : x.v 13 = _ := (hk 13 (by decide)).1
  clear hk
  simp only [netE] at hQ ⊢
  simp only [h13] at hQ ⊢
  clear h13
  go_wp2
  exact hQ _ _ (Below.refl _ _) rfl
 ·intro x w hb hk Q' hQ
  have h14 : x.v 14 = _ := (hk 14 (by decide)).1
  clear hk
  simp only [netE] at hQ ⊢
  simp only [h14] at hQ ⊢
  clear h14
  have q0 := bcell hb hbm2 y0'
  have q1 := bcell hb hbm2 y1'
  have q2 := bcell hb hbm2 y2'
  go_wp2
  exact hQ _ _ (Below.refl _ _) rfl
 ·intro x w hb hk Q' hQ
  have h0 : x.v 0 = _ := (hk 0 (by decide)).1
  have h1 : x.v 1 = _ := (hk 1 (by decide)).1
  have h2 : x.v 2 = _ := (hk 2 (by decide)).1
  have h3 : x.v 3 = _ := (hk 3 (by decide)).1
  have h4 : x.v 4 = _ := (hk 4 (by decide)).1
  have h5 : x.v 5 = _ := (hk 5 (by decide)).1
  have h6 : x.v 6 = _ := (hk 6 (by decide)).1
  have h7 : x.v 7 = _ := (hk 7 (by decide)).1
  have h8 : x.v 8 = _ := (hk 8 (by decide)).1
  have h9 : x.v 9 = _ := (hk 9 (by decide)).1
  have h10 : MxO w (x.lo 10) (x.hi 10) (x.v 10) (mxF R C (fun _ _ => 0)) := (hk 10 (by decide)).1
  have h11 : x.v 11 = _ := (hk 11 (by decide)).1
  have h12 : x.v 12 = _ := (hk 12 (by decide)).1
  have h13 : x.v 13 = _ := (hk 13 (by decide)).1
  have h14 : x.v 14 = _ := (hk 14 (by decide)).1
  have h15 : x.v 15 = _ := (hk 15 (by decide)).1
  have s10 := (hk 10 (by decide)).2
  clear hk
  simp only [netE] at hQ ⊢
  simp only [h0, h1, h2, h3, h4, h5, h6, h7, h8, h9, h11, h12, h13, h14, h15] at hQ ⊢
  clear h0 h1 h2 h3 h4 h5 h6 h7 h8 h9 h11 h12 h13 h14 h15
  obtain ⟨A2, c2, e2⟩ := h10.form
  simp only [mxF] at e2
  have h10r := h10.rd
  rw [e2] at h10r hQ ⊢
  have H10 := Lib.hid h10r
  clear h10 h10r
  go_wp2_with fail
  refine (plus_any p a _ _ R C (fun _ _ => 0) fa _ hpr (by omega) H10.out (MxR.more hb.size (MxR.below hb HM0.out)) (by omega) (by omega) (fun _ _ _ _ => by omega) (fun i j hi hj => by have := HFA.out i j hi hj; omega)).mono ?_; rintro e w5 ⟨v5, rfl, hO5, hb5⟩
  go_wp2
  exact hQ _ _ hb5 hO5
 ·intro x w hb hk Q' hQ
  clear hk
  simp only [netE] at hQ ⊢
  go_wp2
  exact hQ _ _ (below_alloc _ _) ⟨_, rfl, ⟨Nat.le_refl _, by show w.heap.size < (w.alloc _).heap.size; simp⟩, Blk.new _ _ _⟩
 ·intro x w hb hk hiv hdj
  have h0 : x.v 0 = .pointer (some ⟨w0.heap.size, 0, none⟩) := hk 0 (by decide)
  have h1 : x.v 1 = .int .i64 p := hk 1 (by decide)
  have h2 : x.v 2 = .pointer (some ⟨w0.heap.size, 4, none⟩) := hk 2 (by decide)
  have h3 : x.v 3 = .slice (some ⟨bd, od, none⟩) 2 ue := hk 3 (by decide)
  have h4 : x.v 4 = .pointer (some ⟨bd, od + 1, none⟩) := hk 4 (by decide)
  have h5 : x.v 5 = .int .i64 R := hk 5 (by decide)
  have h6 : x.v 6 = .pointer (some ⟨w0.heap.size, 4, none⟩) := hk 6 (by decide)
  have h7 : x.v 7 = .slice (some ⟨bd, od, none⟩) 2 ue := hk 7 (by decide)
  have h8 : x.v 8 = .pointer (some ⟨bd, od, none⟩) := hk 8 (by decide)
  have h9 : x.v 9 = .int .i64 C := hk 9 (by decide)
  have h10 : MxO w (x.lo 10) (x.hi 10) (x.v 10) (mxF R C (fun _ _ => 0)) := hk 10 (by decide)
  have h11 : x.v 11 = .int .i64 a := hk 11 (by decide)
  have h12 : x.v 12 = .pointer (some ⟨w0.heap.size, 5, none⟩) := hk 12 (by decide)
  have h13 : x.v 13 = .slice (some ⟨bm, om, none⟩) 2 uh := hk 13 (by decide)
  have h14 : x.v 14 = .pointer (some ⟨bm, om, none⟩) := hk 14 (by decide)
  have h15 : x.v 15 = .agg #[.int .i64 R, .int .i64 C, .slice A0 LA c0] := hk 15 (by decide)
  have h16 : MxO w (x.lo 16) (x.hi 16) (x.v 16) (mxF R C (plF p a (fun _ _ => 0) fa)) := hk 16 (by decide)
  have h17 : ∃ g, (x.v 17) = .pointer (some ⟨g, 0, none⟩) ∧ ((x.lo 17) ≤ g ∧ g < (x.hi 17)) ∧ Blk w g 44 #[.int .i64 0, .int .i64 0, .slice none 0 0] := hk 17 (by decide)
  clear hk
  simp only [netE]
  simp only [List.drop_succ_cons, List.drop_zero, h0, h1, h2, h3, h4, h5, h6, h7, h8, h9, h11, h12, h13, h14, h15]
  clear h0 h1 h2 h3 h4 h5 h6 h7 h8 h9 h11 h12 h13 h14 h15
  obtain ⟨gR, e17, hg, kG⟩ := h17
  obtain ⟨A2, c2, e16⟩ := h16.form
  simp only [mxF] at e16
  obtain ⟨N2, hN2⟩ : ∃ n, (flat R C (plF p a (fun _ _ => 0) fa)).length = n := ⟨_, rfl⟩
  rw [hN2] at e16
  rw [e16] at h16
  rw [e16, e17]
  have i16 := hiv 16 (by decide)
  have i17 := hiv 17 (by decide)
  have d167 := hdj 16 17 (by decide) (by decide) (by decide)
  clear hiv hdj e16 e17 h10 hN2
  have frG := kG.frozen
  have r0 := kG.cell' (i := 0) rfl
  have r1 := kG.cell' (i := 1) rfl
  have r2 := kG.cell' (i := 2) rfl
  have hbs := hb.size
  obtain ⟨W3, e3⟩ : ∃ u, u = (((w.setCell ⟨gR, 0, none⟩ (.int .i64 R)).setCell ⟨gR, 1, none⟩ (.int .i64 C)).setCell ⟨gR, 2, none⟩ (.slice A2 N2 c2)) := ⟨_, rfl⟩
  have kG3 : Blk W3 gR 44 #[.int .i64 R, .int .i64 C, .slice A2 N2 c2] := by rw [e3]; exact (((kG.set_ 0 _).set_ 1 _).set_ 2 _)
  have hc : Chg gR (gR + 1) w W3 := by rw [e3]; exact chg3 _ _ _ _ _
  have kB3 := (kB.call hb).chg hc (by have := HWS.out; omega)
  have kR3 := (kR.call hb).chg hc (by have := SZ.out; omega)
  have gW3 := hb.trans (hc.below (B := W.heap.size) (by omega) (by omega))
  have h16' := (h16.chg hc (by omega)).rd
  have H16 := Lib.hid h16'
  have s3 := hc.size
  clear h16 h16' kG hb hc d167 i16 i17 hg kB kR
  go_wp2
  rw [← e3]
  clear e3 frG r0 r1 r2 hbs
  have gs3 := gW3.size
  have hbd3 : bd < W3.heap.size := by omega
  have hbm3 : bm < W3.heap.size := by omega
  have z0'' := bcell gW3 hbm2 z0'
  have z1'' := bcell gW3 hbm2 z1'
  have z2'' := bcell gW3 hbm2 z2'
  refine wp_region_net (by kernel_rfl) [.eq (.pointer (some ⟨w0.heap.size, 0, none⟩)), .eq (.int .i64 p), .eq (.agg #[.int .i64 R, .int .i64 C, .slice A2 N2 c2]), .eq (.int .i64 b), .eq (.pointer (some ⟨w0.heap.size, 5, none⟩)), .eq (.slice (some ⟨bm, om, none⟩) 2 uh), .eq (.pointer (some ⟨bm, om + 3, none⟩)), .eq (.agg #[.int .i64 R, .int .i64 C, .slice A1 LB c1]), rel 8 (fun u lo hi w => MxO w lo hi u PM)] [[], [0], [], [], [], [4], [4, 5], [4, 5, 6], [0, 1, 2, 3, 4, 5, 6, 7], [0, 1, 2, 3, 4, 5, 6, 7, 8]] 9 (by kernel_rfl) ⟨trivial, trivial, trivial, trivial, trivial, trivial, trivial, trivial, rel_stable (fun u lo hi w w' h hb => h.below hb), trivial⟩ ⟨?_, ?_, ?_, ?_, ?_, ?_, ?_, ?_, ?_, trivial⟩ ?_
  ·intro x w hb hk Q' hQ
   clear hk
   simp only [netE] at hQ ⊢
   go_wp2
   exact hQ _ _ (Below.refl _ _) rfl
  ·intro x w hb hk Q' hQ
   have h0 : x.v 0 = _ := (hk 0 (by decide)).1
   clear hk
   simp only [netE] at hQ ⊢
   simp only [h0] at hQ ⊢
   clear h0
   have z0 := (kB3.call hb).cell' (i := 0) rfl
   go_wp2
   exact hQ _ _ (Below.refl _ _) rfl
  ·intro x w hb hk Q' hQ
   clear hk
   simp only [netE] at hQ ⊢
   have q0 := (kG3.call hb).cell' (i := 0) rfl
   have q1 := (kG3.call hb).cell' (i := 1) rfl
   have q2 := (kG3.call hb).cell' (i := 2) rfl
   go_wp2
   exact hQ _ _ (Below.refl _ _) rfl
  ·intro x w hb hk Q' hQ
   clear hk
   simp only [netE] at hQ ⊢
   go_wp2
   exact hQ _ _ (Below.refl _ _) rfl
  ·intro x w hb hk Q' hQ
   clear hk
   simp only [netE] at hQ ⊢
   go_wp2
   exact hQ _ _ (Below.refl _ _) rfl
  ·intro x w hb hk Q' hQ
   have h4 : x.v 4 = _ := (hk 4 (by decide)).1
   clear hk
   simp only [netE] at hQ ⊢
   simp only [h4] at hQ ⊢
   clear h4
   have z0 := (kB3.call hb).cell' (i := 5) rfl
   go_wp2
   exact hQ _ _ (Below.refl _ _) rfl
  ·intro x w hb hk Q' hQ
   have h5 : x.v 5 = _ := (hk 5 (by decide)).1
   clear hk
   simp only [netE] at hQ ⊢
   simp only [h5] at hQ ⊢
   clear h5
   go_wp2
   exact hQ _ _ (Below.refl _ _) rfl
  ·intro x w hb hk Q' hQ
   have h6 : x.v 6 = _ := (hk 6 (by decide)).1
   clear hk
   simp only [netE] at hQ ⊢
   simp only [h6] at hQ ⊢
   clear h6
   have q0 := bcell hb hbm3 z0''
   have q1 := bcell hb hbm3 z1''
   have q2 := bcell hb hbm3 z2''
   go_wp2
   exact hQ _ _ (Below.refl _ _) rfl
  ·intro x w hb hk Q' hQ
   have h0 : x.v 0 = _ := (hk 0 (by decide)).1
   have h1 : x.v 1 = _ := (hk 1 (by decide)).1
   have h2 : x.v 2 = _ := (hk 2 (by decide)).1
   have h3 : x.v 3 = _ := (hk 3 (by decide)).1
   have h4 : x.v 4 = _ := (hk 4 (by decide)).1
   have h5 : x.v 5 = _ := (hk 5 (by decide)).1
   have h6 : x.v 6 = _ := (hk 6 (by decide)).1
   have h7 : x.v 7 = _ := (hk 7 (by decide)).1
   clear hk
   simp only [netE] at hQ ⊢
   simp only [h0, h1, h2, h3, h4, h5, h6, h7] at hQ ⊢
   clear h0 h1 h2 h3 h4 h5 h6 h7
   have hm2 := MxR.next hb H16.out
   have HM2 := Lib.hid hm2
   have hm3 := MxR.more (show W.heap.size ≤ w.heap.size by have := hb.size; omega) (MxR.below (gW3.trans (hb.mono gs3)) HM1.out)
   have HM3 := Lib.hid hm3
   clear hm2 hm3
   go_wp2_with fail
   refine (plus_any p b _ _ R C (plF p a (fun _ _ => 0) fa) fb _ hpr (by omega) HM2.out HM3.out (by omega) (by omega) (fun i j _ _ => plF_rng hpr i j) (fun i j hi hj => by have := HFB.out i j hi hj; omega)).mono ?_; rintro e w5 ⟨v5, rfl, hO5, hb5⟩
   rw [← HPM.out] at hO5
   go_wp2
   exact hQ _ _ hb5 hO5
  ·intro x w hb hk hiv hdj
   have h0 : x.v 0 = .pointer (some ⟨w0.heap.size, 0, none⟩) := hk 0 (by decide)
   have h1 : x.v 1 = .int .i64 p := hk 1 (by decide)
   have h2 : x.v 2 = .agg #[.int .i64 R, .int .i64 C, .slice A2 N2 c2] := hk 2 (by decide)
   have h3 : x.v 3 = .int .i64 b := hk 3 (by decide)
   have h4 : x.v 4 = .pointer (some ⟨w0.heap.size, 5, none⟩) := hk 4 (by decide)
   have h5 : x.v 5 = .slice (some ⟨bm, om, none⟩) 2 uh := hk 5 (by decide)
   have h6 : x.v 6 = .pointer (some ⟨bm, om + 3, none⟩) := hk 6 (by decide)
   have h7 : x.v 7 = .agg #[.int .i64 R, .int .i64 C, .slice A1 LB c1] := hk 7 (by decide)
   have h8 : MxO w (x.lo 8) (x.hi 8) (x.v 8) PM := hk 8 (by decide)
   clear hk
   simp only [netE]
   simp only [List.drop_succ_cons, List.drop_zero, h0, h1, h2, h3, h4, h5, h6, h7]
   clear h0 h1 h2 h3 h4 h5 h6 h7
   have i8 := hiv 8 (by decide)
   obtain ⟨A7, c7, e7⟩ := h8.form
   rw [e7] at h8 ⊢
   clear hiv hdj e7
   obtain ⟨N, hN⟩ : ∃ N, PM.a.length = N := ⟨_, rfl⟩
   rw [hN] at h8 ⊢
   have kX := kR3.call hb
   have p0 := kX.cell' (i := 0) rfl
   have p1 := kX.cell' (i := 1) rfl
   have p2 := kX.cell' (i := 2) rfl
   have fr := kX.frozen
   have sz := SZ.out
   have gX := (GW0.out).trans ((gW3.mono (by omega)).trans (hb.mono (by omega)))
   have gXs := gX.size
   have hbs := hb.size
   have h2 := chg3 w (w0.heap.size + 1) (.int .i64 PM.r) (.int .i64 PM.c) (.slice A7 N c7)
   have OF := Lib.hid ((h8.chg h2 (.inr (by omega))).wider (lo' := w0.heap.size) (hi' := w.heap.size) (by omega) (by omega))
   have GF := Lib.hid (gX.trans (h2.below (by omega) gXs))
   clear h8 h2 gX kX hN sz gXs hbs i8 hb kB3 kR3 kG3
   go_wp2
   exact bodyPost_ret (v := .agg #[.int .i64 PM.r, .int .i64 PM.c, .slice A7 N c7]) (by simp [results, go_sem, p0, p1, p2]) rfl ⟨_, rfl, OF.out.wider (Nat.le_refl _) (by simp), GF.out⟩
def pAtP (x : Rp) (a b : Int) : Mx × Bool := if isPen x then (penM x (a % x.p) (b % x.p), true) else (mx0, false)
theorem pAtP_no {x : Rp} {a b : Int} (h : isPen x = false) : pAtP x a b = (mx0, false) := by simp [pAtP, h]
theorem pAtP_yes {x : Rp} {a b : Int} (h : isPen x = true) : pAtP x a b = (penM x (a % x.p) (b % x.p), true) := by simp [pAtP, h]
set_option maxHeartbeats 3200000 in
set_option maxRecDepth 100000 in
theorem implPA_no (u : Value) (x : Rp) (v1 v2 : Int) (w0 : World) (hu : RpR w0 w0.heap.size u x) (hno : isPen x = false) :
  Calls Tryz.prog 19 #[u, .int .i64 v1, .int .i64 v2] w0 fun e w' => ∃ r, e = .returned (.tuple #[r, .bool (pAtP x v1 v2).2]) ∧ MxO w' w0.heap.size w'.heap.size r (pAtP x v1 v2).1 ∧ Below w0.heap.size w0 w' := by
 have hu' := hu
 obtain ⟨A, a, C, c, E, e, H, h, rfl, hq, hd, hm, hp, ld, lm⟩ := hu.open_
 clear hu
 obtain ⟨W, hW⟩ : ∃ W, W = (w0.alloc (.cells #[.int .i64 x.p, .int .i64 x.q.v, .slice A x.q.f.length a, .slice C x.q.t.length c, .slice E x.d.length e, .slice H x.m.length h] 31)).alloc (.cells #[.int .i64 0, .int .i64 0, .slice none 0 0] 44) := ⟨_, rfl⟩
 have g0 : Below w0.heap.size w0 W := by rw [hW]; exact ((Below.refl _ _).alloc (Nat.le_refl _) _).alloc (by simp) _
 have kB : Blk W w0.heap.size 31 #[.int .i64 x.p, .int .i64 x.q.v, .slice A x.q.f.length a, .slice C x.q.t.length c, .slice E x.d.length e, .slice H x.m.length h] := by rw [hW]; exact (Blk.new _ _ _).alloc _
 have kR : Blk W (w0.heap.size + 1) 44 #[.int .i64 0, .int .i64 0, .slice none 0 0] := by
  rw [hW]
  have := Blk.new (w0.alloc (.cells #[.int .i64 x.p, .int .i64 x.q.v, .slice A x.q.f.length a, .slice C x.q.t.length c, .slice E x.d.length e, .slice H x.m.length h] 31)) 44 #[.int .i64 0, .int .i64 0, .slice none 0 0]
  simpa only [World.size_alloc] using this
 have sz : W.heap.size = w0.heap.size + 1 + 1 := by rw [hW]; simp
 replace hq := QvR.next g0 hq
 replace hd := SlI.next g0 hd
 replace hm := SlM.next g0 hm
 have HF := Lib.hid (pAtP_no (a := v1) (b := v2) hno)
 have H1 := Lib.hid hno
 have SZ := Lib.hid sz
 have HXR := Lib.hid (show RpR W W.heap.size (.agg #[.int .i64 x.p, .int .i64 x.q.v, .slice A x.q.f.length a, .slice C x.q.t.length c, .slice E x.d.length e, .slice H x.m.length h]) x from RpR.next g0 hu')
 clear hno sz hq hd hm hu'
 have c0 := kB.cell' (i := 0) rfl
 have c1 := kB.cell' (i := 1) rfl
 have c2 := kB.cell' (i := 2) rfl
 have c3 := kB.cell' (i := 3) rfl
 have c4 := kB.cell' (i := 4) rfl
 have c5 := kB.cell' (i := 5) rfl
 go_enter Tryz.func19, Tryz.ntmps19
 go_wp2_with fail
 rw [← hW]; clear hW
 refine (implIsPencil_any _ x _ HXR.out).mono ?_; rintro e w1 ⟨rfl, hb1⟩
 rw [H1.out]
 replace kR := kR.call hb1
 replace kB := kB.call hb1
 replace g0 := bthen g0 hb1
 have hs1 := hb1.size
 clear c0 c1 c2 c3 c4 c5 hb1
 have hF := HF.out
 have sz := SZ.out
 have kZ := kR
 have p0 := kZ.cell' (i := 0) rfl
 have p1 := kZ.cell' (i := 1) rfl
 have p2 := kZ.cell' (i := 2) rfl
 have fr := kZ.frozen
 clear hF kR kB
 go_wp2
 have hF := HF.out
 exact bodyPost_ret (v := .tuple #[.agg #[.int .i64 0, .int .i64 0, .slice none 0 0], .bool false]) (by simp [results, go_sem, p0, p1, p2]) rfl ⟨_, by rw [hF], by rw [hF]; exact MxO.zero _ _ _, ((g0.setCell (by simp) _).setCell (by simp) _).setCell (by simp) _⟩
set_option maxHeartbeats 3200000 in
set_option maxRecDepth 100000 in
theorem specPA_no (u : Value) (x : Rp) (v1 v2 : Int) (w0 : World) (hu : RpR w0 w0.heap.size u x) (hno : isPen x = false) :
  Calls Tryz.prog 20 #[u, .int .i64 v1, .int .i64 v2] w0 fun e w' => ∃ r, e = .returned (.tuple #[r, .bool (pAtP x v1 v2).2]) ∧ MxO w' w0.heap.size w'.heap.size r (pAtP x v1 v2).1 ∧ Below w0.heap.size w0 w' := by
 have hu' := hu
 obtain ⟨A, a, C, c, E, e, H, h, rfl, hq, hd, hm, hp, ld, lm⟩ := hu.open_
 clear hu
 obtain ⟨W, hW⟩ : ∃ W, W = (w0.alloc (.cells #[.int .i64 x.p, .int .i64 x.q.v, .slice A x.q.f.length a, .slice C x.q.t.length c, .slice E x.d.length e, .slice H x.m.length h] 31)).alloc (.cells #[.int .i64 0, .int .i64 0, .slice none 0 0] 44) := ⟨_, rfl⟩
 have g0 : Below w0.heap.size w0 W := by rw [hW]; exact ((Below.refl _ _).alloc (Nat.le_refl _) _).alloc (by simp) _
 have kB : Blk W w0.heap.size 31 #[.int .i64 x.p, .int .i64 x.q.v, .slice A x.q.f.length a, .slice C x.q.t.length c, .slice E x.d.length e, .slice H x.m.length h] := by rw [hW]; exact (Blk.new _ _ _).alloc _
 have kR : Blk W (w0.heap.size + 1) 44 #[.int .i64 0, .int .i64 0, .slice none 0 0] := by
  rw [hW]
  have := Blk.new (w0.alloc (.cells #[.int .i64 x.p, .int .i64 x.q.v, .slice A x.q.f.length a, .slice C x.q.t.length c, .slice E x.d.length e, .slice H x.m.length h] 31)) 44 #[.int .i64 0, .int .i64 0, .slice none 0 0]
  simpa only [World.size_alloc] using this
 have sz : W.heap.size = w0.heap.size + 1 + 1 := by rw [hW]; simp
 replace hq := QvR.next g0 hq
 replace hd := SlI.next g0 hd
 replace hm := SlM.next g0 hm
 have HF := Lib.hid (pAtP_no (a := v1) (b := v2) hno)
 have H1 := Lib.hid hno
 have SZ := Lib.hid sz
 have HXR := Lib.hid (show RpR W W.heap.size (.agg #[.int .i64 x.p, .int .i64 x.q.v, .slice A x.q.f.length a, .slice C x.q.t.length c, .slice E x.d.length e, .slice H x.m.length h]) x from RpR.next g0 hu')
 clear hno sz hq hd hm hu'
 have c0 := kB.cell' (i := 0) rfl
 have c1 := kB.cell' (i := 1) rfl
 have c2 := kB.cell' (i := 2) rfl
 have c3 := kB.cell' (i := 3) rfl
 have c4 := kB.cell' (i := 4) rfl
 have c5 := kB.cell' (i := 5) rfl
 go_enter Tryz.func20, Tryz.ntmps20
 go_wp2_with fail
 rw [← hW]; clear hW
 refine (specIsPencil_any _ x _ HXR.out).mono ?_; rintro e w1 ⟨rfl, hb1⟩
 rw [H1.out]
 replace kR := kR.call hb1
 replace kB := kB.call hb1
 replace g0 := bthen g0 hb1
 have hs1 := hb1.size
 clear c0 c1 c2 c3 c4 c5 hb1
 have hF := HF.out
 have sz := SZ.out
 have kZ := kR
 have p0 := kZ.cell' (i := 0) rfl
 have p1 := kZ.cell' (i := 1) rfl
 have p2 := kZ.cell' (i := 2) rfl
 have fr := kZ.frozen
 clear hF kR kB
 go_wp2
 have hF := HF.out
 exact bodyPost_ret (v := .tuple #[.agg #[.int .i64 0, .int .i64 0, .slice none 0 0], .bool false]) (by simp [results, go_sem, p0, p1, p2]) rfl ⟨_, by rw [hF], by rw [hF]; exact MxO.zero _ _ _, ((g0.setCell (by simp) _).setCell (by simp) _).setCell (by simp) _⟩
set_option maxHeartbeats 6400000 in
set_option maxRecDepth 100000 in
theorem implPA_yes (u : Value) (x : Rp) (v1 v2 : Int) (w0 : World) (hu : RpR w0 w0.heap.size u x) (hv1 : I64 v1) (hv2 : I64 v2) (hyes : isPen x = true) :
  Calls Tryz.prog 19 #[u, .int .i64 v1, .int .i64 v2] w0 fun e w' => ∃ r, e = .returned (.tuple #[r, .bool (pAtP x v1 v2).2]) ∧ MxO w' w0.heap.size w'.heap.size r (pAtP x v1 v2).1 ∧ Below w0.heap.size w0 w' := by
 have hu' := hu
 obtain ⟨A, a, C, c, E, e, H, h, rfl, hq, hd, hm, hp, ld, lm⟩ := hu.open_
 clear hu
 obtain ⟨W, hW⟩ : ∃ W, W = (w0.alloc (.cells #[.int .i64 x.p, .int .i64 x.q.v, .slice A x.q.f.length a, .slice C x.q.t.length c, .slice E x.d.length e, .slice H x.m.length h] 31)).alloc (.cells #[.int .i64 0, .int .i64 0, .slice none 0 0] 44) := ⟨_, rfl⟩
 have g0 : Below w0.heap.size w0 W := by rw [hW]; exact ((Below.refl _ _).alloc (Nat.le_refl _) _).alloc (by simp) _
 have kB : Blk W w0.heap.size 31 #[.int .i64 x.p, .int .i64 x.q.v, .slice A x.q.f.length a, .slice C x.q.t.length c, .slice E x.d.length e, .slice H x.m.length h] := by rw [hW]; exact (Blk.new _ _ _).alloc _
 have kR : Blk W (w0.heap.size + 1) 44 #[.int .i64 0, .int .i64 0, .slice none 0 0] := by
  rw [hW]
  have := Blk.new (w0.alloc (.cells #[.int .i64 x.p, .int .i64 x.q.v, .slice A x.q.f.length a, .slice C x.q.t.length c, .slice E x.d.length e, .slice H x.m.length h] 31)) 44 #[.int .i64 0, .int .i64 0, .slice none 0 0]
  simpa only [World.size_alloc] using this
 have sz : W.heap.size = w0.heap.size + 1 + 1 := by rw [hW]; simp
 replace hq := QvR.next g0 hq
 replace hd := SlI.next g0 hd
 replace hm := SlM.next g0 hm
 have hp : isFld x.p = true := by obtain ⟨_, _, _, _, _, _, _, _, hp, _⟩ := pen_at hyes; exact hp
 have hpr := isFld_r hp
 have HF := Lib.hid (pAtP_yes (a := v1) (b := v2) hyes)
 have H1 := Lib.hid hyes
 have HP := Lib.hid hp
 have SZ := Lib.hid sz
 have HXR := Lib.hid (show RpR W W.heap.size (.agg #[.int .i64 x.p, .int .i64 x.q.v, .slice A x.q.f.length a, .slice C x.q.t.length c, .slice E x.d.length e, .slice H x.m.length h]) x from RpR.next g0 hu')
 have GW0 := Lib.hid g0
 clear hyes sz hq hd hm hu' hp g0
 have c0 := kB.cell' (i := 0) rfl
 have c1 := kB.cell' (i := 1) rfl
 have c2 := kB.cell' (i := 2) rfl
 have c3 := kB.cell' (i := 3) rfl
 have c4 := kB.cell' (i := 4) rfl
 have c5 := kB.cell' (i := 5) rfl
 go_enter Tryz.func19, Tryz.ntmps19
 go_wp2_with fail
 rw [← hW]; clear hW
 refine (implIsPencil_any _ x _ HXR.out).mono ?_; rintro e wr ⟨rfl, hb1⟩
 rw [H1.out]
 replace kR := kR.call hb1
 replace kB := kB.call hb1
 have hs1 := hb1.size
 have gW := hb1
 clear c0 c1 c2 c3 c4 c5 hb1
 go_wp2
 obtain ⟨y, hy⟩ : ∃ y, y = x := ⟨_, rfl⟩
 subst hy
 refine wp_region_net (by kernel_rfl) [.eq (.agg #[.int .i64 y.p, .int .i64 y.q.v, .slice A y.q.f.length a, .slice C y.q.t.length c, .slice E y.d.length e, .slice H y.m.length h]), .eq (.pointer (some ⟨w0.heap.size, 0, none⟩)), .eq (.int .i64 y.p), .eq (.int .i64 v1), .eq (.int .i64 (v1 % y.p)), .eq (.pointer (some ⟨w0.heap.size, 0, none⟩)), .eq (.int .i64 y.p), .eq (.int .i64 v2), .eq (.int .i64 (v2 % y.p)), rel 9 (fun u lo hi w => MxO w lo hi u (penM y (v1 % y.p) (v2 % y.p)))] [[], [], [1], [], [1, 2, 3], [], [5], [], [1, 2, 3, 4, 5, 6, 7], [0, 1, 2, 3, 4, 5, 6, 7, 8], [0, 1, 2, 3, 4, 5, 6, 7, 8, 9], [0, 1, 2, 3, 4, 5, 6, 7, 8, 9, 10]] 10 (by kernel_rfl) ⟨trivial, trivial, trivial, trivial, trivial, trivial, trivial, trivial, trivial, rel_stable (fun u lo hi w w' h hb => h.below hb), trivial⟩ ⟨?_, ?_, ?_, ?_, ?_, ?_, ?_, ?_, ?_, ?_, trivial⟩ ?_
 ·intro x w hb hk Q' hQ
  clear hk
  simp only [netE] at hQ ⊢
  have kk := kB.call hb
  have q0 := kk.cell' (i := 0) rfl
  have q1 := kk.cell' (i := 1) rfl
  have q2 := kk.cell' (i := 2) rfl
  have q3 := kk.cell' (i := 3) rfl
  have q4 := kk.cell' (i := 4) rfl
  have q5 := kk.cell' (i := 5) rfl
  clear kk
  go_wp2
  exact hQ _ _ (Below.refl _ _) rfl
 ·intro x w hb hk Q' hQ
  clear hk
  simp only [netE] at hQ ⊢
  go_wp2
  exact hQ _ _ (Below.refl _ _) rfl
 ·intro x w hb hk Q' hQ
  have h1 : x.v 1 = _ := (hk 1 (by decide)).1
  clear hk
  simp only [netE] at hQ ⊢
  simp only [h1] at hQ ⊢
  clear h1
  have q0 := (kB.call hb).cell' (i := 0) rfl
  go_wp2
  exact hQ _ _ (Below.refl _ _) rfl
 ·intro x w hb hk Q' hQ
  clear hk
  simp only [netE] at hQ ⊢
  go_wp2
  exact hQ _ _ (Below.refl _ _) rfl
 ·intro x w hb hk Q' hQ
  have h2 : x.v 2 = _ := (hk 2 (by decide)).1
  have h3 : x.v 3 = _ := (hk 3 (by decide)).1
  clear hk
  simp only [netE] at hQ ⊢
  simp only [h2, h3] at hQ ⊢
  clear h2 h3
  go_wp2_with fail
  refine (reduceMod_any _ _ _ HP.out hv1).mono ?_; rintro e w5 ⟨rfl, rfl⟩
  go_wp2
  exact hQ _ _ (Below.refl _ _) rfl
 ·intro x w hb hk Q' hQ
  clear hk
  simp only [netE] at hQ ⊢
  go_wp2
  exact hQ _ _ (Below.refl _ _) rfl
 ·intro x w hb hk Q' hQ
  have h5 : x.v 5 = _ := (hk 5 (by decide)).1
  clear hk
  simp only [netE] at hQ ⊢
  simp only [h5] at hQ ⊢
  clear h5
  have q0 := (kB.call hb).cell' (i := 0) rfl
  go_wp2
  exact hQ _ _ (Below.refl _ _) rfl
 ·intro x w hb hk Q' hQ
  clear hk
  simp only [netE] at hQ ⊢
  go_wp2
  exact hQ _ _ (Below.refl _ _) rfl
 ·intro x w hb hk Q' hQ
  have h6 : x.v 6 = _ := (hk 6 (by decide)).1
  have h7 : x.v 7 = _ := (hk 7 (by decide)).1
  clear hk
  simp only [netE] at hQ ⊢
  simp only [h6, h7] at hQ ⊢
  clear h6 h7
  go_wp2_with fail
  refine (reduceMod_any _ _ _ HP.out hv2).mono ?_; rintro e w5 ⟨rfl, rfl⟩
  go_wp2
  exact hQ _ _ (Below.refl _ _) rfl
 ·intro x w hb hk Q' hQ
  have h0 : x.v 0 = _ := (hk 0 (by decide)).1
  have h1 : x.v 1 = _ := (hk 1 (by decide)).1
  have h2 : x.v 2 = _ := (hk 2 (by decide)).1
  have h3 : x.v 3 = _ := (hk 3 (by decide)).1
  have h4 : x.v 4 = _ := (hk 4 (by decide)).1
  have h5 : x.v 5 = _ := (hk 5 (by decide)).1
  have h6 : x.v 6 = _ := (hk 6 (by decide)).1
  have h7 : x.v 7 = _ := (hk 7 (by decide)).1
  have h8 : x.v 8 = _ := (hk 8 (by decide)).1
  clear hk
  simp only [netE] at hQ ⊢
  simp only [h0, h1, h2, h3, h4, h5, h6, h7, h8] at hQ ⊢
  clear h0 h1 h2 h3 h4 h5 h6 h7 h8
  have hr := RpR.more (show W.heap.size ≤ w.heap.size by have := hb.size; omega) (RpR.below (gW.trans (hb.mono hs1)) HXR.out)
  have HR := Lib.hid hr
  have m1 := Int.emod_nonneg v1 (show y.p ≠ 0 by omega)
  have m2 := Int.emod_lt_of_pos v1 (show 0 < y.p by omega)
  have m3 := Int.emod_nonneg v2 (show y.p ≠ 0 by omega)
  have m4 := Int.emod_lt_of_pos v2 (show 0 < y.p by omega)
  clear hr
  go_wp2_with fail
  refine (pencilAt_any _ y _ _ _ HR.out H1.out (by omega) (by omega)).mono ?_; rintro e w5 ⟨v5, rfl, hO5, hb5⟩
  go_wp2
  exact hQ _ _ hb5 hO5
 ·intro x w hb hk hiv hdj
  have h0 : x.v 0 = .agg #[.int .i64 y.p, .int .i64 y.q.v, .slice A y.q.f.length a, .slice C y.q.t.length c, .slice E y.d.length e, .slice H y.m.length h] := hk 0 (by decide)
  have h1 : x.v 1 = .pointer (some ⟨w0.heap.size, 0, none⟩) := hk 1 (by decide)
  have h2 : x.v 2 = .int .i64 y.p := hk 2 (by decide)
  have h3 : x.v 3 = .int .i64 v1 := hk 3 (by decide)
  have h4 : x.v 4 = .int .i64 (v1 % y.p) := hk 4 (by decide)
  have h5 : x.v 5 = .pointer (some ⟨w0.heap.size, 0, none⟩) := hk 5 (by decide)
  have h6 : x.v 6 = .int .i64 y.p := hk 6 (by decide)
  have h7 : x.v 7 = .int .i64 v2 := hk 7 (by decide)
  have h8 : x.v 8 = .int .i64 (v2 % y.p) := hk 8 (by decide)
  have h9 : MxO w (x.lo 9) (x.hi 9) (x.v 9) (penM y (v1 % y.p) (v2 % y.p)) := hk 9 (by decide)
  clear hk
  simp only [netE]
  simp only [List.drop_succ_cons, List.drop_zero, h0, h1, h2, h3, h4, h5, h6, h7, h8]
  clear h0 h1 h2 h3 h4 h5 h6 h7 h8
  have i8 := hiv 9 (by decide)
  obtain ⟨PM, hPM⟩ : ∃ M, M = penM y (v1 % y.p) (v2 % y.p) := ⟨_, rfl⟩
  have HFF := Lib.hid (show pAtP y v1 v2 = (PM, true) by rw [hPM]; exact HF.out)
  rw [← hPM] at h9
  obtain ⟨A7, c7, e7⟩ := h9.form
  rw [e7] at h9 ⊢
  clear hiv hdj e7 hPM
  obtain ⟨N, hN⟩ : ∃ N, PM.a.length = N := ⟨_, rfl⟩
  rw [hN] at h9 ⊢
  have kX := kR.call hb
  have p0 := kX.cell' (i := 0) rfl
  have p1 := kX.cell' (i := 1) rfl
  have p2 := kX.cell' (i := 2) rfl
  have fr := kX.frozen
  have sz := SZ.out
  have gX := (GW0.out).trans ((gW.mono (by omega)).trans (hb.mono (by omega)))
  have gXs := gX.size
  have hbs := hb.size
  have h2 := chg3 w (w0.heap.size + 1) (.int .i64 PM.r) (.int .i64 PM.c) (.slice A7 N c7)
  have OF := Lib.hid ((h9.chg h2 (.inr (by omega))).wider (lo' := w0.heap.size) (hi' := w.heap.size) (by omega) (by omega))
  have GF := Lib.hid (gX.trans (h2.below (by omega) gXs))
  clear h9 h2 gX kX hN sz gXs hbs i8 hb kB kR gW
  go_wp2
  exact bodyPost_ret (v := .tuple #[.agg #[.int .i64 PM.r, .int .i64 PM.c, .slice A7 N c7], .bool true]) (by simp [results, go_sem, p0, p1, p2]) rfl ⟨_, by rw [HFF.out], by rw [HFF.out]; exact OF.out.wider (Nat.le_refl _) (by simp), GF.out⟩
theorem implPencilAt_any (u : Value) (x : Rp) (v1 v2 : Int) (w0 : World) (hu : RpR w0 w0.heap.size u x) (hv1 : I64 v1) (hv2 : I64 v2) :
  Calls Tryz.prog 19 #[u, .int .i64 v1, .int .i64 v2] w0 fun e w' => ∃ r, e = .returned (.tuple #[r, .bool (pAtP x v1 v2).2]) ∧ MxO w' w0.heap.size w'.heap.size r (pAtP x v1 v2).1 ∧ Below w0.heap.size w0 w' := by
 rcases h : isPen x with _ | _
 ·exact implPA_no u x v1 v2 w0 hu h
 ·exact implPA_yes u x v1 v2 w0 hu hv1 hv2 h
set_option maxHeartbeats 1600000 in
theorem addMatrices_any (p : Int) (u v : Value) (r c : Nat) (f g : Nat → Nat → Int) (w0 : World) (hu : MxR w0 w0.heap.size u (mxF r c f)) (hv0 : MxR w0 w0.heap.size v (mxF r c g)) (hM : isMat p (mxF r c f) = true) (hM2 : isMat p (mxF r c g) = true) :
  Calls Tryz.prog 58 #[.int .i64 p, u, v] w0 fun e w' => ∃ v, e = .returned (.tuple #[v, .bool true]) ∧ MxO w' w0.heap.size w'.heap.size v (mxF r c (adM p f g)) ∧ Below w0.heap.size w0 w' := by
 have hu' := hu
 have hv' := hv0
 obtain ⟨U, uc, rfl, hs, i1, i2, _⟩ := hu.open_
 obtain ⟨V, vc, rfl, hs2, j1, j2, _⟩ := hv0.open_
 have hV := (isMat_t.1 hM).2.2.2
 have hV2 := (isMat_t.1 hM2).2.2.2
 have HV : Hid (isVec p (rowF (r * c) fun j => f (j / c) (j % c)) = true) := hV
 have HV2 : Hid (isVec p (rowF (r * c) fun j => g (j / c) (j % c)) = true) := hV2
 have z1 : (mxF r c f).r = (r : Int) := rfl
 have z2 : (mxF r c f).c = (c : Int) := rfl
 have z3 : (mxF r c g).r = (r : Int) := rfl
 have z4 : (mxF r c g).c = (c : Int) := rfl
 have z5 : (mxF r c f).a = rowF (r * c) fun j => f (j / c) (j % c) := rfl
 have z6 : (mxF r c g).a = rowF (r * c) fun j => g (j / c) (j % c) := rfl
 rw [z1] at i1
 rw [z2] at i2
 have HM := Lib.hid hM
 have HM2 := Lib.hid hM2
 obtain ⟨N, hN⟩ : ∃ N, (mxF r c f).a.length = N := ⟨_, rfl⟩
 obtain ⟨M, hN2⟩ : ∃ N, (mxF r c g).a.length = N := ⟨_, rfl⟩
 rw [hN, z5] at hs
 rw [hN2, z6] at hs2
 rw [hN, z1, z2] at hu' ⊢
 rw [hN2, z3, z4] at hv' ⊢
 clear hu hv0 hV hV2 hM hM2 z1 z2 z3 z4 z5 z6 hN hN2
 obtain ⟨W, hW⟩ : ∃ W, W = ((w0.alloc (.cells #[.int .i64 r, .int .i64 c, .slice U N uc] 44)).alloc (.cells #[.int .i64 r, .int .i64 c, .slice V M vc] 44)).alloc (.cells #[.int .i64 0, .int .i64 0, .slice none 0 0] 44) := ⟨_, rfl⟩
 have g0 : Below w0.heap.size w0 W := by rw [hW]; exact (((Below.refl _ _).alloc (Nat.le_refl _) _).alloc (by simp) _).alloc (by simp; omega) _
 have k1 : Blk W w0.heap.size 44 #[.int .i64 r, .int .i64 c, .slice U N uc] := by rw [hW]; exact ((Blk.new _ _ _).alloc _).alloc _
 have k2 : Blk W (w0.heap.size + 1) 44 #[.int .i64 r, .int .i64 c, .slice V M vc] := by
  rw [hW]
  have := (Blk.new (w0.alloc (.cells #[.int .i64 r, .int .i64 c, .slice U N uc] 44)) 44 #[.int .i64 r, .int .i64 c, .slice V M vc]).alloc (.cells #[.int .i64 0, .int .i64 0, .slice none 0 0] 44)
  simpa only [World.size_alloc] using this
 have k3 : Blk W (w0.heap.size + 1 + 1) 44 #[.int .i64 0, .int .i64 0, .slice none 0 0] := by
  rw [hW]
  have := Blk.new ((w0.alloc (.cells #[.int .i64 r, .int .i64 c, .slice U N uc] 44)).alloc (.cells #[.int .i64 r, .int .i64 c, .slice V M vc] 44)) 44 #[.int .i64 0, .int .i64 0, .slice none 0 0]
  simpa only [World.size_alloc] using this
 have sz : W.heap.size = w0.heap.size + 1 + 1 + 1 := by rw [hW]; simp
 have HU := Lib.hid (MxR.next g0 hu')
 have HVV := Lib.hid (MxR.next g0 hv')
 have HSS := Lib.hid (SlI.next g0 hs)
 have HTT := Lib.hid (SlI.next g0 hs2)
 have SZ := Lib.hid sz
 have G0 := Lib.hid g0
 clear sz hu' hs g0 hv' hs2
 go_enter Tryz.func58, Tryz.ntmps58
 go_wp2_with fail
 rw [← hW]; clear hW
 refine (specIsMatrix_any p _ (mxF r c f) W HU.out).mono ?_; rintro e w1 ⟨rfl, hb1⟩
 rw [HM.out]
 replace k1 := k1.call hb1
 replace k2 := k2.call hb1
 replace k3 := k3.call hb1
 have gW := hb1
 have b0 := k2.cell' (i := 0) rfl
 have b1 := k2.cell' (i := 1) rfl
 have b2 := k2.cell' (i := 2) rfl
 clear hb1
 go_wp2_with fail
 refine (specIsMatrix_any p _ (mxF r c g) _ (MxR.next gW HVV.out)).mono ?_; rintro e w2 ⟨rfl, hb1⟩
 rw [HM2.out]
 replace k1 := k1.call hb1
 replace k2 := k2.call hb1
 replace k3 := k3.call hb1
 replace gW := bthen gW hb1
 have hw1 := gW.size
 have a0 := k1.cell' (i := 0) rfl
 have a1 := k1.cell' (i := 1) rfl
 have a2 := k1.cell' (i := 2) rfl
 have b0 := k2.cell' (i := 0) rfl
 have b1 := k2.cell' (i := 1) rfl
 have b2 := k2.cell' (i := 2) rfl
 clear hb1
 go_wp2_with fail
 refine (addVectors_any p _ _ (r * c) _ _ _ (SlI.next gW HSS.out) (SlI.next gW HTT.out) HV.out HV2.out).mono ?_; rintro e wr ⟨v, rfl, hO, hb1⟩
 replace k1 := k1.call hb1
 replace k3 := k3.call hb1
 have hws := hb1.size
 replace gW := bthen gW hb1
 obtain ⟨A1, c1, rfl⟩ := hO.form
 have hO2 : IntsO wr w2.heap.size wr.heap.size (.slice A1 (rowF (r * c) (adF p (fun j => f (j / c) (j % c)) fun j => g (j / c) (j % c))).length c1) (mxF r c (adM p f g)).a := hO
 obtain ⟨N1, hN1⟩ : ∃ N, (rowF (r * c) (adF p (fun j => f (j / c) (j % c)) fun j => g (j / c) (j % c))).length = N := ⟨_, rfl⟩
 rw [hN1] at hO2 ⊢
 clear a0 a1 a2 b0 b1 b2 hb1 hO hN1 k2
 have z0 := k1.cell' (i := 0) rfl
 have z1 := k1.cell' (i := 1) rfl
 have p0 := k3.cell' (i := 0) rfl
 have p1 := k3.cell' (i := 1) rfl
 have p2 := k3.cell' (i := 2) rfl
 have f2 := k3.frozen
 have h2 := chg3 wr (w0.heap.size + 1 + 1) (.int .i64 (r : Int)) (.int .i64 c) (.slice A1 N1 c1)
 have gw : Below w0.heap.size w0 wr := (G0.out).trans (gW.mono (G0.out).size)
 have gs := gw.size
 have sz := SZ.out
 have hl1 := k1.lt
 have oA2 := (hO2.chg h2 (.inr (by omega))).wider (lo' := w0.heap.size) (hi' := wr.heap.size) (by omega) (Nat.le_refl _)
 have fg := gw.trans (h2.below (by omega) gs)
 have OA2 := Lib.hid oA2
 have FG := Lib.hid fg
 clear hO2 oA2 fg gw h2 k3 k1 gW sz
 go_wp2
 exact bodyPost_ret (v := .tuple #[.agg #[.int .i64 (r : Int), .int .i64 c, .slice A1 N1 c1], .bool true]) (by simp [results, go_sem, p0, p1, p2]) rfl ⟨_, rfl, ⟨_, rfl, (OA2.out).wider (Nat.le_refl _) (by simp), i1, i2⟩, FG.out⟩
end Go.Proofs.YthhjoamgcfiecaaGreat
