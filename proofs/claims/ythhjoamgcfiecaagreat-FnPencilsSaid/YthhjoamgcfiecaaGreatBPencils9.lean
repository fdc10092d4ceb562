/- FnPencils: the law holds for every argument. Part 9 of 18 of the proof: Tran, Prep2, Prei, RepAt, AddM, Plus, Elim, Mul, Besd, Conc. No condition. -/
import Derived.Test.YthhjoamgcfiecaaGreatBPencils8
import Derived.Shelf.Spec.SlicesGrow
set_option linter.unusedVariables false
set_option linter.unusedSimpArgs false
namespace Go.Proofs.YthhjoamgcfiecaaGreat
open Go.RowKit
def trK (f : Nat → Nat → Int) (i k a b : Nat) : Int := if b < i ∨ (b = i ∧ a < k) then f b a else 0
theorem trK_0 (r c : Nat) (f : Nat → Nat → Int) : flat c r (fun _ _ => 0) = flat c r (trK f 0 0) := flat_congr fun a b _ _ => by simp [trK]
theorem trK_put {r c i k : Nat} (f : Nat → Nat → Int) (hi : i < r) (hk : k < c) : (flat c r (trK f i k)).set (k * r + i) (f i k) = flat c r (trK f i (k + 1)) := by
 rw [flat_set _ _ hk hi]
 refine flat_congr fun a b _ _ => ?_
 simp only [trK]
 (repeat' split) <;> first | rfl | omega | (rename_i h _; rw [h.1, h.2])
theorem trK_next (r c i : Nat) (f : Nat → Nat → Int) : flat c r (trK f i c) = flat c r (trK f (i + 1) 0) := by
 refine flat_congr fun a b ha _ => ?_
 simp only [trK]
 (repeat' split) <;> first | rfl | omega
theorem trK_r (r c : Nat) (f : Nat → Nat → Int) : flat c r (trK f r 0) = flat c r (fun a b => f b a) := flat_congr fun a b _ hb => by simp [trK, hb]
set_option maxHeartbeats 3200000 in
theorem l3Transpose_any (u : Value) (r c : Nat) (f : Nat → Nat → Int) (w0 : World) (hu : MxR w0 w0.heap.size u (mxF r c f)) (hr : r ≤ 1000) (hc : c ≤ 1000) :
  Calls Tryz.prog 38 #[u] w0 fun e w' => ∃ v, e = .returned v ∧ MxO w' w0.heap.size w'.heap.size v (mxF c r (fun a b => f b a)) ∧ Below w0.heap.size w0 w' := by
 obtain ⟨U, uc, rfl, hs, i1, i2, hl⟩ := hu.open_
 clear hu
 simp only [mxF] at hs hl i1 i2 ⊢
 have HS := Lib.hid hs
 obtain ⟨L, hL⟩ : ∃ L, (flat r c f).length = L := ⟨_, rfl⟩
 have HL := Lib.hid hL
 rw [hL] at hl ⊢
 obtain ⟨W, hW⟩ : ∃ W, W = (w0.alloc (.cells #[.int .i64 r, .int .i64 c, .slice U L uc] 44)).alloc (.cells #[.int .i64 0, .int .i64 0, .slice none 0 0] 44) := ⟨_, rfl⟩
 have g0 : Below w0.heap.size w0 W := by rw [hW]; exact ((Below.refl _ _).alloc (Nat.le_refl _) _).alloc (by simp) _
 have k1 : Blk W w0.heap.size 44 #[.int .i64 r, .int .i64 c, .slice U L uc] := by rw [hW]; exact (Blk.new _ _ _).alloc _
 have k2 : Blk W (w0.heap.size + 1) 44 #[.int .i64 0, .int .i64 0, .slice none 0 0] := by
  rw [hW]
  have := Blk.new (w0.alloc (.cells #[.int .i64 r, .int .i64 c, .slice U L uc] 44)) 44 #[.int .i64 0, .int .i64 0, .slice none 0 0]
  simpa only [World.size_alloc] using this
 have sz : W.heap.size = w0.heap.size + 1 + 1 := by rw [hW]; simp
 have K1 := Lib.hid k1
 have K2 := Lib.hid k2
 have SZ := Lib.hid sz
 have q0 := k1.cell' (i := 0) rfl
 have q1 := k1.cell' (i := 1) rfl
 clear k1 k2 sz hs hL
 go_enter Tryz.func38, Tryz.ntmps38
 go_wp2_with fail
 rw [← hW]; clear hW
 refine (l3Zero_any (c : Int) r W (by omega) (by omega) (by omega) (by omega)).mono ?_; rintro e w1 ⟨v1, rfl, ⟨sA, rfl, oA, hr2, hc2⟩, hb1⟩
 rw [zmx_flat] at oA hr2 hc2 ⊢
 simp only [mxF] at oA hr2 hc2 ⊢
 rw [trK_0 r c f] at oA
 obtain ⟨A1, c1, e1⟩ := oA.form
 obtain ⟨N, hN⟩ : ∃ N, c * r = N := ⟨_, rfl⟩
 rw [flat_length, hN] at e1
 subst e1
 have HN := Lib.hid hN
 clear hN q0 q1
 have s1 := hb1.size
 obtain ⟨W4, hW4⟩ : ∃ W4, W4 = w1.alloc (.cells #[.int .i64 c, .int .i64 r, .slice A1 N c1] 44) := ⟨_, rfl⟩
 have b4 : Below w1.heap.size w1 W4 := by rw [hW4]; exact below_alloc _ _
 have k4 : Blk W4 w1.heap.size 44 #[.int .i64 c, .int .i64 r, .slice A1 N c1] := by rw [hW4]; exact Blk.new _ _ _
 have oA := oA.below b4
 have gW := bthen hb1 b4
 clear b4 hb1
 go_wp2
 rw [← hW4]; clear hW4
 go_loopw [4] (fun i wr => ∃ j : Nat, j ≤ r ∧ i = .int .i64 j ∧ Blk wr w1.heap.size 44 #[.int .i64 c, .int .i64 r, .slice A1 N c1] ∧ IntsO wr W.heap.size w1.heap.size (.slice A1 N c1) (flat c r (trK f j 0)) ∧ Below W.heap.size W wr) (fun i _ => r - (intOf i).toNat)
 case atStart => exact ⟨0, Nat.zero_le _, rfl, k4, oA, gW⟩
 case round =>
  clear k4 oA gW
  obtain ⟨j, hj, rfl, k4, oA, gW⟩ := hrel
  have s6 := gW.size
  have k1 := (K1.out).below gW (by have := SZ.out; omega)
  have q0 := k1.cell' (i := 0) rfl
  by_cases hlt : j < r
  ·go_wp2
   clear k1 q0
   go_loopw [5] (fun i wr => ∃ k : Nat, k ≤ c ∧ i = .int .i64 k ∧ Blk wr w1.heap.size 44 #[.int .i64 c, .int .i64 r, .slice A1 N c1] ∧ IntsO wr W.heap.size w1.heap.size (.slice A1 N c1) (flat c r (trK f j k)) ∧ Below W.heap.size W wr) (fun i _ => c - (intOf i).toNat)
   case atStart => exact ⟨0, Nat.zero_le _, rfl, k4, oA, gW⟩
   case round =>
    clear k4 oA gW s6
    obtain ⟨k, hk, rfl, k4, oA, gW⟩ := hrel
    have s6 := gW.size
    have k1 := (K1.out).below gW (by have := SZ.out; omega)
    have q1 := k1.cell' (i := 1) rfl
    by_cases hlk : k < c
    ·obtain ⟨P, J, hP, hPJ, hJ, hJN, hJb⟩ := ix_walk hlk hlt hc hr
     rw [HN.out] at hJN
     have hst := trK_put f hlt hlk
     rw [← hJ] at hst
     subst hPJ
     obtain ⟨P2, J2, hP2, hPJ2, hJ2, hJN2, hJb2⟩ := ix_walk hlt hlk hr hc
     have hs := HS.out
     obtain ⟨b, o, x, rfl, hb, HX, x1, xr⟩ := SlI.at_ (k := P2 + k) hs (by rw [flat_length]; omega)
     have hx := HX.out
     rw [hPJ2, hJ2, flat_get f hlt hlk] at hx
     injection hx with hx
     subst hx
     have hJL : P2 + k < L := by rw [← HL.out, flat_length]; omega
     have gww : Below w0.heap.size w0 wr := g0.trans (gW.mono g0.size)
     have gwws := gww.size
     have x2 := bcell gww hb x1
     obtain ⟨gA, cA, eA, a1, a2, a3⟩ := oA.at_ (by rw [flat_length, HN.out]; omega)
     rw [flat_length, HN.out] at eA
     injection eA with eA1 eA2 eA3
     subst eA1 eA3
     have hP' := Lib.hid hP
     have hP2' := Lib.hid hP2
     clear hs HX x1 hJ hJ2 hPJ2 hJN2
     go_wp2
     refine wp_region_net (by kernel_rfl) [.eq (.pointer (some ⟨w1.heap.size, 2, none⟩)), .eq (.slice (some ⟨gA, 0, none⟩) N c1), .eq (.int .i64 k), .eq (.pointer (some ⟨w0.heap.size, 0, none⟩)), .eq (.int .i64 r), .eq (.int .i64 P), .eq (.int .i64 j), .eq (.int .i64 ((P : Int) + j)), .eq (.pointer (some ⟨w0.heap.size, 2, none⟩)), .eq (.slice (some ⟨b, o, none⟩) L uc), .eq (.int .i64 j), .eq (.pointer (some ⟨w0.heap.size, 1, none⟩)), .eq (.int .i64 c), .eq (.int .i64 P2), .eq (.int .i64 k), .eq (.int .i64 ((P2 : Int) + k)), .eq (.pointer (some ⟨b, o + (P2 + k), none⟩)), .eq (.int .i64 (f j k)), .eq (.pointer (some ⟨gA, P + j, none⟩))] [[], [0], [], [], [3], [2, 3, 4], [], [2, 3, 4, 5, 6], [], [8], [], [], [11], [10, 11, 12], [], [10, 11, 12, 13, 14], [8, 9, 10, 11, 12, 13, 14, 15], [8, 9, 10, 11, 12, 13, 14, 15, 16], [0, 1, 2, 3, 4, 5, 6, 7, 8, 9, 10, 11, 12, 13, 14, 15, 16, 17], [0, 1, 2, 3, 4, 5, 6, 7, 8, 9, 10, 11, 12, 13, 14, 15, 16, 17, 18]] 19 (by kernel_rfl) ⟨trivial, trivial, trivial, trivial, trivial, trivial, trivial, trivial, trivial, trivial, trivial, trivial, trivial, trivial, trivial, trivial, trivial, trivial, trivial, trivial⟩ ⟨?_, ?_, ?_, ?_, ?_, ?_, ?_, ?_, ?_, ?_, ?_, ?_, ?_, ?_, ?_, ?_, ?_, ?_, ?_, trivial⟩ ?_
     ·intro x w hb hk Q' hQ
      clear hk
      simp only [netE] at hQ ⊢
      go_wp2
      exact hQ _ _ (Below.refl _ _) rfl
     ·intro x w hb hk Q' hQ
      have h0 : x.v 0 = _ := (hk 0 (by decide)).1
      clear hk
      simp only [netE] at hQ ⊢
      simp only [h0] at hQ ⊢
      clear h0
      have z2 := (k4.call hb).cell' (i := 2) rfl
      go_wp2
      exact hQ _ _ (Below.refl _ _) rfl
     ·intro x w hb hk Q' hQ
      clear hk
      simp only [netE] at hQ ⊢
      go_wp2
      exact hQ _ _ (Below.refl _ _) rfl
     ·intro x w hb hk Q' hQ
      clear hk
      simp only [netE] at hQ ⊢
      go_wp2
      exact hQ _ _ (Below.refl _ _) rfl
     ·intro x w hb hk Q' hQ
      have h3 : x.v 3 = _ := (hk 3 (by decide)).1
      clear hk
      simp only [netE] at hQ ⊢
      simp only [h3] at hQ ⊢
      clear h3
      have z2 := (k1.call hb).cell' (i := 0) rfl
      go_wp2
      exact hQ _ _ (Below.refl _ _) rfl
     ·intro x w hb hk Q' hQ
      have h2 : x.v 2 = _ := (hk 2 (by decide)).1
      have h4 : x.v 4 = _ := (hk 4 (by decide)).1
      clear hk
      simp only [netE] at hQ ⊢
      simp only [h2, h4] at hQ ⊢
      clear h2 h4
      go_wp2
      rw [hP'.out]
      exact hQ _ _ (Below.refl _ _) rfl
     ·intro x w hb hk Q' hQ
      clear hk
      simp only [netE] at hQ ⊢
      go_wp2
      exact hQ _ _ (Below.refl _ _) rfl
     ·intro x w hb hk Q' hQ
      have h5 : x.v 5 = _ := (hk 5 (by decide)).1
      have h6 : x.v 6 = _ := (hk 6 (by decide)).1
      clear hk
      simp only [netE] at hQ ⊢
      simp only [h5, h6] at hQ ⊢
      clear h5 h6
      go_wp2
      exact hQ (.int .i64 ((P : Int) + j)) _ (Below.refl _ _) rfl
     ·intro x w hb hk Q' hQ
      clear hk
      simp only [netE] at hQ ⊢
      go_wp2
      exact hQ _ _ (Below.refl _ _) rfl
     ·intro x w hb hk Q' hQ
      have h8 : x.v 8 = _ := (hk 8 (by decide)).1
      clear hk
      simp only [netE] at hQ ⊢
      simp only [h8] at hQ ⊢
      clear h8
      have z2 := (k1.call hb).cell' (i := 2) rfl
      go_wp2
      exact hQ _ _ (Below.refl _ _) rfl
     ·intro x w hb hk Q' hQ
      clear hk
      simp only [netE] at hQ ⊢
      go_wp2
      exact hQ _ _ (Below.refl _ _) rfl
     ·intro x w hb hk Q' hQ
      clear hk
      simp only [netE] at hQ ⊢
      go_wp2
      exact hQ _ _ (Below.refl _ _) rfl
     ·intro x w hb hk Q' hQ
      have h11 : x.v 11 = _ := (hk 11 (by decide)).1
      clear hk
      simp only [netE] at hQ ⊢
      simp only [h11] at hQ ⊢
      clear h11
      have z2 := (k1.call hb).cell' (i := 1) rfl
      go_wp2
      exact hQ _ _ (Below.refl _ _) rfl
     ·intro x w hb hk Q' hQ
      have h10 : x.v 10 = _ := (hk 10 (by decide)).1
      have h12 : x.v 12 = _ := (hk 12 (by decide)).1
      clear hk
      simp only [netE] at hQ ⊢
      simp only [h10, h12] at hQ ⊢
      clear h10 h12
      go_wp2
      rw [hP2'.out]
      exact hQ _ _ (Below.refl _ _) rfl
     ·intro x w hb hk Q' hQ
      clear hk
      simp only [netE] at hQ ⊢
      go_wp2
      exact hQ _ _ (Below.refl _ _) rfl
     ·intro x w hb hk Q' hQ
      have h13 : x.v 13 = _ := (hk 13 (by decide)).1
      have h14 : x.v 14 = _ := (hk 14 (by decide)).1
      clear hk
      simp only [netE] at hQ ⊢
      simp only [h13, h14] at hQ ⊢
      clear h13 h14
      go_wp2
      exact hQ (.int .i64 ((P2 : Int) + k)) _ (Below.refl _ _) rfl
     ·intro x w hb hk Q' hQ
      have h9 : x.v 9 = _ := (hk 9 (by decide)).1
      have h15 : x.v 15 = _ := (hk 15 (by decide)).1
      clear hk
      simp only [netE] at hQ ⊢
      simp only [h9, h15] at hQ ⊢
      clear h9 h15
      go_wp2
      exact hQ (.pointer (some ⟨b, o + (P2 + k), none⟩)) _ (Below.refl _ _) rfl
     ·intro x w hb hk Q' hQ
      have h16 : x.v 16 = _ := (hk 16 (by decide)).1
      clear hk
      simp only [netE] at hQ ⊢
      simp only [h16] at hQ ⊢
      clear h16
      have z2 := bcell hb (by omega) x2
      go_wp2
      exact hQ _ _ (Below.refl _ _) rfl
     ·intro x w hb hk Q' hQ
      have h1 : x.v 1 = _ := (hk 1 (by decide)).1
      have h7 : x.v 7 = _ := (hk 7 (by decide)).1
      clear hk
      simp only [netE] at hQ ⊢
      simp only [h1, h7] at hQ ⊢
      clear h1 h7
      go_wp2
      exact hQ _ _ (Below.refl _ _) rfl
     ·intro x w hb hk hiv hdj
      have h0 : x.v 0 = .pointer (some ⟨w1.heap.size, 2, none⟩) := hk 0 (by decide)
      have h1 : x.v 1 = .slice (some ⟨gA, 0, none⟩) N c1 := hk 1 (by decide)
      have h2 : x.v 2 = .int .i64 k := hk 2 (by decide)
      have h3 : x.v 3 = .pointer (some ⟨w0.heap.size, 0, none⟩) := hk 3 (by decide)
      have h4 : x.v 4 = .int .i64 r := hk 4 (by decide)
      have h5 : x.v 5 = .int .i64 P := hk 5 (by decide)
      have h6 : x.v 6 = .int .i64 j := hk 6 (by decide)
      have h7 : x.v 7 = .int .i64 ((P : Int) + j) := hk 7 (by decide)
      have h8 : x.v 8 = .pointer (some ⟨w0.heap.size, 2, none⟩) := hk 8 (by decide)
      have h9 : x.v 9 = .slice (some ⟨b, o, none⟩) L uc := hk 9 (by decide)
      have h10 : x.v 10 = .int .i64 j := hk 10 (by decide)
      have h11 : x.v 11 = .pointer (some ⟨w0.heap.size, 1, none⟩) := hk 11 (by decide)
      have h12 : x.v 12 = .int .i64 c := hk 12 (by decide)
      have h13 : x.v 13 = .int .i64 P2 := hk 13 (by decide)
      have h14 : x.v 14 = .int .i64 k := hk 14 (by decide)
      have h15 : x.v 15 = .int .i64 ((P2 : Int) + k) := hk 15 (by decide)
      have h16 : x.v 16 = .pointer (some ⟨b, o + (P2 + k), none⟩) := hk 16 (by decide)
      have h17 : x.v 17 = .int .i64 (f j k) := hk 17 (by decide)
      have h18 : x.v 18 = .pointer (some ⟨gA, P + j, none⟩) := hk 18 (by decide)
      clear hk
      simp only [netE]
      simp only [List.drop_succ_cons, List.drop_zero, h0, h1, h2, h3, h4, h5, h6, h7, h8, h9, h10, h11, h12, h13, h14, h15, h16, h17, h18]
      clear h0 h1 h2 h3 h4 h5 h6 h7 h8 h9 h10 h11 h12 h13 h14 h15 h16 h17 h18
      have oB := oA.below hb
      have k4b := k4.call hb
      have fA := oB.1.frozenG (P + j)
      have cA := (oB.1.cellG (j := P + j) (by rw [flat_length, HN.out]; omega)).1
      have hws := hb.size
      have hc1 : Chg W.heap.size w1.heap.size w (w.setCell ⟨gA, P + j, none⟩ (.int .i64 (f j k))) := chg_set a1 a2
      have oA2 := oB.put (j := P + j) (x := f j k) xr
      rw [hst] at oA2
      have OA2 := Lib.hid oA2
      have K4 := Lib.hid (k4b.chg hc1 (by omega))
      have GW := Lib.hid ((gW.trans (hb.mono s6)).trans (hc1.below (Nat.le_refl _) (by omega)))
      clear oA2 k4 oA gW hc1 hst oB k4b hiv hdj hb k1 q1
      go_wp2
      go_roundw
      case rel => exact ⟨k + 1, by omega, by go_num, K4.out, OA2.out, GW.out⟩
      case measure => simp [intOf]; omega
    ·obtain rfl : k = c := by omega
     rw [trK_next] at oA
     have OA := Lib.hid oA
     have K4 := Lib.hid k4
     have GW := Lib.hid gW
     clear oA k4 gW k1
     go_wp2
     go_roundw
     case rel => exact ⟨j + 1, by omega, by go_num, K4.out, OA.out, GW.out⟩
     case measure => simp [intOf]; omega
  ·obtain rfl : j = r := by omega
   rw [trK_r] at oA
   have k2 := K2.out.below gW (by have := SZ.out; omega)
   have z0 := k4.cell' (i := 0) rfl
   have z1 := k4.cell' (i := 1) rfl
   have z2 := k4.cell' (i := 2) rfl
   have p0 := k2.cell' (i := 0) rfl
   have p1 := k2.cell' (i := 1) rfl
   have p2 := k2.cell' (i := 2) rfl
   have f2 := k2.frozen
   have h2 := chg3 wr (w0.heap.size + 1) (.int .i64 (c : Int)) (.int .i64 j) (.slice A1 N c1)
   have gw : Below w0.heap.size w0 wr := g0.trans (gW.mono g0.size)
   have gs := gw.size
   have oA2 := (oA.chg h2 (.inr (by have := SZ.out; omega))).wider (lo' := w0.heap.size) (hi' := wr.heap.size) (by have := SZ.out; omega) (by have := k4.lt; omega)
   have fg := gw.trans (h2.below (by omega) gs)
   have OA2 := Lib.hid oA2
   have FG := Lib.hid fg
   clear oA oA2 fg gw h2 k2 k4 gW k1
   go_wp2
   exact bodyPost_ret (v := .agg #[.int .i64 (c : Int), .int .i64 j, .slice A1 N c1]) (by simp [results, go_sem, p0, p1, p2]) rfl ⟨_, rfl, ⟨_, rfl, by simpa using OA2.out, hr2, hc2⟩, FG.out⟩
theorem row_10 (r : Int) (g c : Nat) (w : World) (hc : 2 ≤ c) (hc2 : c ≤ 9223372036854775807) :
  Calls Tryz.prog 33 #[.agg #[.int .i64 r, .int .i64 1, .slice (some ⟨g, 0, none⟩) 2 c], .int .i64 0] w fun e w' => e = .returned (.slice (some ⟨g, 0, none⟩) 1 (c - 0)) ∧ Below w.heap.size w w' := by
 go_enter Tryz.func33, Tryz.ntmps33
 go_wp2
 exact bodyPost_ret (v := .slice (some ⟨g, 0, none⟩) 1 (c - 0)) (by simp [results, go_sem]) rfl ⟨rfl, below_alloc _ _⟩
theorem row_11 (r : Int) (g c : Nat) (w : World) (hc : 2 ≤ c) (hc2 : c ≤ 9223372036854775807) :
  Calls Tryz.prog 33 #[.agg #[.int .i64 r, .int .i64 1, .slice (some ⟨g, 0, none⟩) 2 c], .int .i64 1] w fun e w' => e = .returned (.slice (some ⟨g, 1, none⟩) 1 (c - 1)) ∧ Below w.heap.size w w' := by
 go_enter Tryz.func33, Tryz.ntmps33
 go_wp2
 exact bodyPost_ret (v := .slice (some ⟨g, 1, none⟩) 1 (c - 1)) (by simp [results, go_sem]) rfl ⟨rfl, below_alloc _ _⟩
theorem row_20 (r : Int) (g c : Nat) (w : World) (hc : 6 ≤ c) (hc2 : c ≤ 9223372036854775807) :
  Calls Tryz.prog 33 #[.agg #[.int .i64 r, .int .i64 2, .slice (some ⟨g, 0, none⟩) 6 c], .int .i64 0] w fun e w' => e = .returned (.slice (some ⟨g, 0, none⟩) 2 (c - 0)) ∧ Below w.heap.size w w' := by
 go_enter Tryz.func33, Tryz.ntmps33
 go_wp2
 exact bodyPost_ret (v := .slice (some ⟨g, 0, none⟩) 2 (c - 0)) (by simp [results, go_sem]) rfl ⟨rfl, below_alloc _ _⟩
theorem row_21 (r : Int) (g c : Nat) (w : World) (hc : 6 ≤ c) (hc2 : c ≤ 9223372036854775807) :
  Calls Tryz.prog 33 #[.agg #[.int .i64 r, .int .i64 2, .slice (some ⟨g, 0, none⟩) 6 c], .int .i64 1] w fun e w' => e = .returned (.slice (some ⟨g, 2, none⟩) 2 (c - 2)) ∧ Below w.heap.size w w' := by
 go_enter Tryz.func33, Tryz.ntmps33
 go_wp2
 exact bodyPost_ret (v := .slice (some ⟨g, 2, none⟩) 2 (c - 2)) (by simp [results, go_sem]) rfl ⟨rfl, below_alloc _ _⟩
theorem row_22 (r : Int) (g c : Nat) (w : World) (hc : 6 ≤ c) (hc2 : c ≤ 9223372036854775807) :
  Calls Tryz.prog 33 #[.agg #[.int .i64 r, .int .i64 2, .slice (some ⟨g, 0, none⟩) 6 c], .int .i64 2] w fun e w' => e = .returned (.slice (some ⟨g, 4, none⟩) 2 (c - 4)) ∧ Below w.heap.size w w' := by
 go_enter Tryz.func33, Tryz.ntmps33
 go_wp2
 exact bodyPost_ret (v := .slice (some ⟨g, 4, none⟩) 2 (c - 4)) (by simp [results, go_sem]) rfl ⟨rfl, below_alloc _ _⟩
theorem row_30 (r : Int) (g c : Nat) (w : World) (hc : 12 ≤ c) (hc2 : c ≤ 9223372036854775807) :
  Calls Tryz.prog 33 #[.agg #[.int .i64 r, .int .i64 3, .slice (some ⟨g, 0, none⟩) 12 c], .int .i64 0] w fun e w' => e = .returned (.slice (some ⟨g, 0, none⟩) 3 (c - 0)) ∧ Below w.heap.size w w' := by
 go_enter Tryz.func33, Tryz.ntmps33
 go_wp2
 exact bodyPost_ret (v := .slice (some ⟨g, 0, none⟩) 3 (c - 0)) (by simp [results, go_sem]) rfl ⟨rfl, below_alloc _ _⟩
theorem row_31 (r : Int) (g c : Nat) (w : World) (hc : 12 ≤ c) (hc2 : c ≤ 9223372036854775807) :
  Calls Tryz.prog 33 #[.agg #[.int .i64 r, .int .i64 3, .slice (some ⟨g, 0, none⟩) 12 c], .int .i64 1] w fun e w' => e = .returned (.slice (some ⟨g, 3, none⟩) 3 (c - 3)) ∧ Below w.heap.size w w' := by
 go_enter Tryz.func33, Tryz.ntmps33
 go_wp2
 exact bodyPost_ret (v := .slice (some ⟨g, 3, none⟩) 3 (c - 3)) (by simp [results, go_sem]) rfl ⟨rfl, below_alloc _ _⟩
theorem row_32 (r : Int) (g c : Nat) (w : World) (hc : 12 ≤ c) (hc2 : c ≤ 9223372036854775807) :
  Calls Tryz.prog 33 #[.agg #[.int .i64 r, .int .i64 3, .slice (some ⟨g, 0, none⟩) 12 c], .int .i64 2] w fun e w' => e = .returned (.slice (some ⟨g, 6, none⟩) 3 (c - 6)) ∧ Below w.heap.size w w' := by
 go_enter Tryz.func33, Tryz.ntmps33
 go_wp2
 exact bodyPost_ret (v := .slice (some ⟨g, 6, none⟩) 3 (c - 6)) (by simp [results, go_sem]) rfl ⟨rfl, below_alloc _ _⟩
theorem row_33 (r : Int) (g c : Nat) (w : World) (hc : 12 ≤ c) (hc2 : c ≤ 9223372036854775807) :
  Calls Tryz.prog 33 #[.agg #[.int .i64 r, .int .i64 3, .slice (some ⟨g, 0, none⟩) 12 c], .int .i64 3] w fun e w' => e = .returned (.slice (some ⟨g, 9, none⟩) 3 (c - 9)) ∧ Below w.heap.size w w' := by
 go_enter Tryz.func33, Tryz.ntmps33
 go_wp2
 exact bodyPost_ret (v := .slice (some ⟨g, 9, none⟩) 3 (c - 9)) (by simp [results, go_sem]) rfl ⟨rfl, below_alloc _ _⟩
theorem prepP_noField {p n : Int} (h : isFld p = false) : prepP p n = (rp0, false) := by
 unfold prepP penOf
 split
 ·rw [if_neg]
  simp [isRep, penRep, h]
 ·rfl
set_option maxHeartbeats 6400000 in
set_option maxRecDepth 100000 in
theorem implPreprojectivePencil_any (p n : Int) (w : World) (hp : I64 p) (hn : I64 n) :
  Calls Tryz.prog 6 #[.int .i64 p, .int .i64 n] w fun e w' => ∃ r, e = .returned (.tuple #[r, .bool (prepP p n).2]) ∧ RepO w' w.heap.size w'.heap.size r (prepP p n).1 ∧ Below w.heap.size w w' := by
 obtain ⟨W, hW⟩ : ∃ W, W = w.alloc (.cells #[.int .i64 0, .int .i64 0, .slice none 0 0, .slice none 0 0, .slice none 0 0, .slice none 0 0] 31) := ⟨_, rfl⟩
 have g0 : Below w.heap.size w W := by rw [hW]; exact below_alloc _ _
 have kR : Blk W w.heap.size 31 #[.int .i64 0, .int .i64 0, .slice none 0 0, .slice none 0 0, .slice none 0 0, .slice none 0 0] := by rw [hW]; exact Blk.new _ _ _
 have sz : W.heap.size = w.heap.size + 1 := by rw [hW]; simp
 have SZ := Lib.hid sz
 rcases hQ : isFld p with _ | _
 ·have hF : Hid (prepP p n = (rp0, false)) := prepP_noField hQ
  have fr := kR.frozen
  have s0 := kR.cell' (i := 0) rfl
  have s1 := kR.cell' (i := 1) rfl
  have s2 := kR.cell' (i := 2) rfl
  have s3 := kR.cell' (i := 3) rfl
  have s4 := kR.cell' (i := 4) rfl
  have s5 := kR.cell' (i := 5) rfl
  have HQ := Lib.hid hQ
  clear hQ sz
  go_enter Tryz.func6, Tryz.ntmps6
  go_wp2_with fail
  rw [← hW]; clear hW
  refine (implIsField_any _ _).mono ?_; rintro e w1 ⟨rfl, rfl⟩
  rw [HQ.out]
  go_wp2
  have sz := SZ.out
  refine bodyPost_ret (v := .tuple #[.agg #[.int .i64 0, .int .i64 0, .slice none 0 0, .slice none 0 0, .slice none 0 0, .slice none 0 0], .bool false]) (by simp [results, go_sem, s0, s1, s2, s3, s4, s5]) rfl ⟨_, by rw [hF.out], by rw [hF.out]; exact RepO.zero _ _ _, (((((g0.setCell (by simp) _).setCell (by simp) _).setCell (by simp) _).setCell (by simp) _).setCell (by simp) _).setCell (by simp) _⟩
 rcases hB : inR n 0 3 with _ | _
 ·have hF : Hid (prepP p n = (rp0, false)) := by show _ = _; simp [prepP, hB]
  have fr := kR.frozen
  have s0 := kR.cell' (i := 0) rfl
  have s1 := kR.cell' (i := 1) rfl
  have s2 := kR.cell' (i := 2) rfl
  have s3 := kR.cell' (i := 3) rfl
  have s4 := kR.cell' (i := 4) rfl
  have s5 := kR.cell' (i := 5) rfl
  have HB := Lib.hid hB
  have HQ := Lib.hid hQ
  clear hB hQ sz
  go_enter Tryz.func6, Tryz.ntmps6
  go_wp2_with fail
  rw [← hW]; clear hW
  refine (implIsField_any _ _).mono ?_; rintro e w1 ⟨rfl, rfl⟩
  rw [HQ.out]
  go_wp2_with fail
  refine (within_any _ _ _ _).mono ?_; rintro e w2 ⟨rfl, rfl⟩
  rw [HB.out]
  go_wp2
  have sz := SZ.out
  refine bodyPost_ret (v := .tuple #[.agg #[.int .i64 0, .int .i64 0, .slice none 0 0, .slice none 0 0, .slice none 0 0, .slice none 0 0], .bool false]) (by simp [results, go_sem, s0, s1, s2, s3, s4, s5]) rfl ⟨_, by rw [hF.out], by rw [hF.out]; exact RepO.zero _ _ _, (((((g0.setCell (by simp) _).setCell (by simp) _).setCell (by simp) _).setCell (by simp) _).setCell (by simp) _).setCell (by simp) _⟩
 ·obtain ⟨n1, n2⟩ := inR_t.1 hB
  obtain ⟨N, rfl⟩ := Int.eq_ofNat_of_zero_le n1
  have hF : Hid (prepP p N = penOf p (shA N) (shB N)) := by show _ = _; rw [prepP, hB]; rfl
  have HB := Lib.hid hB
  have HQ := Lib.hid hQ
  clear hB hQ
  have hn1 : wrap64 ((N : Int) + 1) = (N : Int) + 1 := IntWalk.wrap64_in _ ⟨by omega, by omega⟩
  go_enter Tryz.func6, Tryz.ntmps6
  go_wp2_with fail
  rw [← hW]; clear hW
  refine (implIsField_any _ _).mono ?_; rintro e w1' ⟨rfl, rfl⟩
  rw [HQ.out]
  go_wp2_with fail
  refine (within_any _ _ _ _).mono ?_; rintro e wq ⟨rfl, rfl⟩
  rw [HB.out]
  go_wp2_with fail
  refine (zero_any ((N : Int) + 1) N wq (by omega) (by omega) (by omega) (by omega)).mono ?_; rintro e wh ⟨v1, rfl, ⟨sA, rfl, oA, hr, hc⟩, hb1⟩
  rw [zmx_shift] at oA hr hc ⊢
  simp only at oA hr hc ⊢
  obtain ⟨A1, c1, e1⟩ := oA.form
  rw [stA_length] at e1
  obtain ⟨L, hL⟩ : ∃ L, (N + 1) * N = L := ⟨_, rfl⟩
  rw [hL] at e1
  subst e1
  go_wp2_with fail
  refine (zero_any ((N : Int) + 1) N wh (by omega) (by omega) (by omega) (by omega)).mono ?_; rintro e wi ⟨v2, rfl, ⟨sB, rfl, oB, _, _⟩, hb2⟩
  rw [zmx_shift] at oB ⊢
  simp only at oB ⊢
  obtain ⟨B1, d1, e1⟩ := oB.form
  rw [stA_length, hL] at e1
  subst e1
  go_wp2
  obtain ⟨W5, hW5⟩ : ∃ u, u = (wi.alloc (.cells #[.int .i64 ((N : Int) + 1), .int .i64 N, .slice A1 L c1] 44)).alloc (.cells #[.int .i64 ((N : Int) + 1), .int .i64 N, .slice B1 L d1] 44) := ⟨_, rfl⟩
  rw [← hW5]
  have b5 : Below wi.heap.size wi W5 := by rw [hW5]; exact ((Below.refl _ _).alloc (Nat.le_refl _) _).alloc (by simp) _
  have k6 : Blk W5 wi.heap.size 44 #[.int .i64 ((N : Int) + 1), .int .i64 N, .slice A1 L c1] := by rw [hW5]; exact (Blk.new _ _ _).alloc _
  have k7 : Blk W5 (wi.heap.size + 1) 44 #[.int .i64 ((N : Int) + 1), .int .i64 N, .slice B1 L d1] := by
   rw [hW5]
   have := Blk.new (wi.alloc (.cells #[.int .i64 ((N : Int) + 1), .int .i64 N, .slice A1 L c1] 44)) 44 #[.int .i64 ((N : Int) + 1), .int .i64 N, .slice B1 L d1]
   simpa only [World.size_alloc] using this
  clear hW5
  have oA := (oA.below hb2).below b5
  have oB := oB.below b5
  have s1 := hb1.size
  have s2 := hb2.size
  have s5 := b5.size
  have gW : Below wq.heap.size wq W5 := bthen (bthen hb1 hb2) b5
  clear b5 hb1 hb2
  have HF := Lib.hid hF
  go_loopw [8, 27] (fun q i wr => ∃ k : Nat, k ≤ N ∧ i = .int .i64 k ∧ Blk wr wi.heap.size 44 #[.int .i64 ((N : Int) + 1), .int .i64 N, .slice A1 L c1] ∧ Blk wr (wi.heap.size + 1) 44 #[.int .i64 ((N : Int) + 1), .int .i64 N, .slice B1 L d1] ∧ IntsO wr wq.heap.size wh.heap.size (.slice A1 L c1) (stA N k) ∧ IntsO wr wh.heap.size wi.heap.size (.slice B1 L d1) (stB N k) ∧ Below wq.heap.size wq wr) (fun _ i _ => N - (intOf i).toNat)
  case atStart => exact ⟨0, Nat.zero_le _, rfl, k6, k7, oA, oB, gW⟩
  case round =>
   clear k6 k7 oA oB gW
   obtain ⟨k, hk, rfl, k6, k7, oA, oB, gW⟩ := hrel
   have s6 := gW.size
   by_cases hlt : k < N
   ·have hcase : (N = 1 ∧ k = 0) ∨ (N = 2 ∧ k = 0) ∨ (N = 2 ∧ k = 1) ∨ (N = 3 ∧ k = 0) ∨ (N = 3 ∧ k = 1) ∨ (N = 3 ∧ k = 2) := by omega
    rcases hcase with ⟨rfl, rfl⟩ | ⟨rfl, rfl⟩ | ⟨rfl, rfl⟩ | ⟨rfl, rfl⟩ | ⟨rfl, rfl⟩ | ⟨rfl, rfl⟩
    ·subst hL
     obtain ⟨gA, cA, eA, a1, a2, a3⟩ := oA.at_ (by simp [stA_length])
     obtain ⟨gB, cB, eB, b1, b2, b3⟩ := oB.at_ (by simp [stB_length])
     simp only [stA_length] at eA
     simp only [stB_length] at eB
     injection eA with eA1 eA2 eA3
     injection eB with eB1 eB2 eB3
     subst eA1 eA3 eB1 eB3
     have z0 := k6.cell' (i := 0) rfl
     have z1 := k6.cell' (i := 1) rfl
     have z2 := k6.cell' (i := 2) rfl
     obtain ⟨_, cLA, eLA, lA1, lA2⟩ := oA.1.form
     injection eLA with eLx eLy eLA3
     rw [← eLA3] at lA1 lA2
     clear eLx eLy eLA3
     simp only [stA_length] at lA1
     obtain ⟨_, cLB, eLB, lB1, lB2⟩ := oB.1.form
     injection eLB with eLx eLy eLB3
     rw [← eLB3] at lB1 lB2
     clear eLx eLy eLB3
     simp only [stB_length] at lB1
     go_wp2_with fail
     refine (row_10 _ _ _ _ lA1 lA2).mono ?_; rintro e w7 ⟨rfl, hb7⟩
     have k6' := k6.call hb7
     have k7' := k7.call hb7
     have oA' := oA.below hb7
     have oB' := oB.below hb7
     have gW' := bthen gW hb7
     have s7 := hb7.size
     clear k6 k7 oA oB gW hb7 z0 z1 z2
     have fA := oA'.1.frozenG 0
     have hc1 : Chg wq.heap.size wh.heap.size w7 (w7.setCell ⟨gA, 0, none⟩ (.int .i64 1)) := chg_set a1 a2
     have oA2 := oA'.put (j := 0) (x := 1) (by simp [I64])
     have oB2 := oB'.chg hc1 (.inr (by omega))
     have k62 := k6'.chg hc1 (by omega)
     have k72 := k7'.chg hc1 (by omega)
     have gW2 := gW'.trans (hc1.below (by omega) (by omega))
     have cAA := (oA'.1.cellG (j := 0) (by simp [stA_length])).1
     obtain ⟨X1, hX1⟩ : ∃ u, u = w7.setCell ⟨gA, 0, none⟩ (.int .i64 1) := ⟨_, rfl⟩
     have y0 := k72.cell' (i := 0) rfl
     have y1 := k72.cell' (i := 1) rfl
     have y2 := k72.cell' (i := 2) rfl
     rw [← hX1] at oA2 oB2 k62 k72 gW2
     have sX1 : X1.heap.size = w7.heap.size := by rw [hX1]; simp
     clear oA' oB' k6' k7' gW' hc1
     go_wp2_with fail
     rw [← hX1]
     clear hX1 fA cAA y0 y1 y2
     refine (row_11 _ _ _ _ lB1 lB2).mono ?_; rintro e w8 ⟨rfl, hb8⟩
     have k6' := k62.call hb8
     have k7' := k72.call hb8
     have oA' := oA2.below hb8
     have oB' := oB2.below hb8
     have gW' := bthen gW2 hb8
     have s8 := hb8.size
     clear k62 k72 oA2 oB2 gW2 hb8
     have fB := oB'.1.frozenG 1
     have cBB := (oB'.1.cellG (j := 1) (by simp [stB_length])).1
     have hc2 : Chg wh.heap.size wi.heap.size w8 (w8.setCell ⟨gB, 1, none⟩ (.int .i64 1)) := chg_set b1 b2
     go_wp2
     exact ⟨⟨_, _, _, _, _, _, _, _, _, _, _, _, _, _, _, _, ⟨1, by omega, rfl, k6'.chg hc2 (by omega), k7'.chg hc2 (by omega), oA'.chg hc2 (.inl (by omega)), oB'.put (j := 1) (x := 1) (by simp [I64]), gW'.trans (hc2.below (by omega) (by omega))⟩, rfl⟩, by simp [intOf]⟩
    ·subst hL
     obtain ⟨gA, cA, eA, a1, a2, a3⟩ := oA.at_ (by simp [stA_length])
     obtain ⟨gB, cB, eB, b1, b2, b3⟩ := oB.at_ (by simp [stB_length])
     simp only [stA_length] at eA
     simp only [stB_length] at eB
     injection eA with eA1 eA2 eA3
     injection eB with eB1 eB2 eB3
     subst eA1 eA3 eB1 eB3
     have z0 := k6.cell' (i := 0) rfl
     have z1 := k6.cell' (i := 1) rfl
     have z2 := k6.cell' (i := 2) rfl
     obtain ⟨_, cLA, eLA, lA1, lA2⟩ := oA.1.form
     injection eLA with eLx eLy eLA3
     rw [← eLA3] at lA1 lA2
     clear eLx eLy eLA3
     simp only [stA_length] at lA1
     obtain ⟨_, cLB, eLB, lB1, lB2⟩ := oB.1.form
     injection eLB with eLx eLy eLB3
     rw [← eLB3] at lB1 lB2
     clear eLx eLy eLB3
     simp only [stB_length] at lB1
     go_wp2_with fail
     refine (row_20 _ _ _ _ lA1 lA2).mono ?_; rintro e w7 ⟨rfl, hb7⟩
     have k6' := k6.call hb7
     have k7' := k7.call hb7
     have oA' := oA.below hb7
     have oB' := oB.below hb7
     have gW' := bthen gW hb7
     have s7 := hb7.size
     clear k6 k7 oA oB gW hb7 z0 z1 z2
     have fA := oA'.1.frozenG 0
     have hc1 : Chg wq.heap.size wh.heap.size w7 (w7.setCell ⟨gA, 0, none⟩ (.int .i64 1)) := chg_set a1 a2
     have oA2 := oA'.put (j := 0) (x := 1) (by simp [I64])
     have oB2 := oB'.chg hc1 (.inr (by omega))
     have k62 := k6'.chg hc1 (by omega)
     have k72 := k7'.chg hc1 (by omega)
     have gW2 := gW'.trans (hc1.below (by omega) (by omega))
     have cAA := (oA'.1.cellG (j := 0) (by simp [stA_length])).1
     obtain ⟨X1, hX1⟩ : ∃ u, u = w7.setCell ⟨gA, 0, none⟩ (.int .i64 1) := ⟨_, rfl⟩
     have y0 := k72.cell' (i := 0) rfl
     have y1 := k72.cell' (i := 1) rfl
     have y2 := k72.cell' (i := 2) rfl
     rw [← hX1] at oA2 oB2 k62 k72 gW2
     have sX1 : X1.heap.size = w7.heap.size := by rw [hX1]; simp
     clear oA' oB' k6' k7' gW' hc1
     go_wp2_with fail
     rw [← hX1]
     clear hX1 fA cAA y0 y1 y2
     refine (row_21 _ _ _ _ lB1 lB2).mono ?_; rintro e w8 ⟨rfl, hb8⟩
     have k6' := k62.call hb8
     have k7' := k72.call hb8
     have oA' := oA2.below hb8
     have oB' := oB2.below hb8
     have gW' := bthen gW2 hb8
     have s8 := hb8.size
     clear k62 k72 oA2 oB2 gW2 hb8
     have fB := oB'.1.frozenG 2
     have cBB := (oB'.1.cellG (j := 2) (by simp [stB_length])).1
     have hc2 : Chg wh.heap.size wi.heap.size w8 (w8.setCell ⟨gB, 2, none⟩ (.int .i64 1)) := chg_set b1 b2
     go_wp2
     exact ⟨⟨_, _, _, _, _, _, _, _, _, _, _, _, _, _, _, _, ⟨1, by omega, rfl, k6'.chg hc2 (by omega), k7'.chg hc2 (by omega), oA'.chg hc2 (.inl (by omega)), oB'.put (j := 2) (x := 1) (by simp [I64]), gW'.trans (hc2.below (by omega) (by omega))⟩, rfl⟩, by simp [intOf]⟩
    ·subst hL
     obtain ⟨gA, cA, eA, a1, a2, a3⟩ := oA.at_ (by simp [stA_length])
     obtain ⟨gB, cB, eB, b1, b2, b3⟩ := oB.at_ (by simp [stB_length])
     simp only [stA_length] at eA
     simp only [stB_length] at eB
     injection eA with eA1 eA2 eA3
     injection eB with eB1 eB2 eB3
     subst eA1 eA3 eB1 eB3
     have z0 := k6.cell' (i := 0) rfl
     have z1 := k6.cell' (i := 1) rfl
     have z2 := k6.cell' (i := 2) rfl
     obtain ⟨_, cLA, eLA, lA1, lA2⟩ := oA.1.form
     injection eLA with eLx eLy eLA3
     rw [← eLA3] at lA1 lA2
     clear eLx eLy eLA3
     simp only [stA_length] at lA1
     obtain ⟨_, cLB, eLB, lB1, lB2⟩ := oB.1.form
     injection eLB with eLx eLy eLB3
     rw [← eLB3] at lB1 lB2
     clear eLx eLy eLB3
     simp only [stB_length] at lB1
     go_wp2_with fail
     refine (row_21 _ _ _ _ lA1 lA2).mono ?_; rintro e w7 ⟨rfl, hb7⟩
     have k6' := k6.call hb7
     have k7' := k7.call hb7
     have oA' := oA.below hb7
     have oB' := oB.below hb7
     have gW' := bthen gW hb7
     have s7 := hb7.size
     clear k6 k7 oA oB gW hb7 z0 z1 z2
     have fA := oA'.1.frozenG 3
     have hc1 : Chg wq.heap.size wh.heap.size w7 (w7.setCell ⟨gA, 3, none⟩ (.int .i64 1)) := chg_set a1 a2
     have oA2 := oA'.put (j := 3) (x := 1) (by simp [I64])
     have oB2 := oB'.chg hc1 (.inr (by omega))
     have k62 := k6'.chg hc1 (by omega)
     have k72 := k7'.chg hc1 (by omega)
     have gW2 := gW'.trans (hc1.below (by omega) (by omega))
     have cAA := (oA'.1.cellG (j := 3) (by simp [stA_length])).1
     obtain ⟨X1, hX1⟩ : ∃ u, u = w7.setCell ⟨gA, 3, none⟩ (.int .i64 1) := ⟨_, rfl⟩
     have y0 := k72.cell' (i := 0) rfl
     have y1 := k72.cell' (i := 1) rfl
     have y2 := k72.cell' (i := 2) rfl
     rw [← hX1] at oA2 oB2 k62 k72 gW2
     have sX1 : X1.heap.size = w7.heap.size := by rw [hX1]; simp
     clear oA' oB' k6' k7' gW' hc1
     go_wp2_with fail
     rw [← hX1]
     clear hX1 fA cAA y0 y1 y2
     refine (row_22 _ _ _ _ lB1 lB2).mono ?_; rintro e w8 ⟨rfl, hb8⟩
     have k6' := k62.call hb8
     have k7' := k72.call hb8
     have oA' := oA2.below hb8
     have oB' := oB2.below hb8
     have gW' := bthen gW2 hb8
     have s8 := hb8.size
     clear k62 k72 oA2 oB2 gW2 hb8
     have fB := oB'.1.frozenG 5
     have cBB := (oB'.1.cellG (j := 5) (by simp [stB_length])).1
     have hc2 : Chg wh.heap.size wi.heap.size w8 (w8.setCell ⟨gB, 5, none⟩ (.int .i64 1)) := chg_set b1 b2
     go_wp2
     exact ⟨⟨_, _, _, _, _, _, _, _, _, _, _, _, _, _, _, _, ⟨2, by omega, rfl, k6'.chg hc2 (by omega), k7'.chg hc2 (by omega), oA'.chg hc2 (.inl (by omega)), oB'.put (j := 5) (x := 1) (by simp [I64]), gW'.trans (hc2.below (by omega) (by omega))⟩, rfl⟩, by simp [intOf]⟩
    ·subst hL
     obtain ⟨gA, cA, eA, a1, a2, a3⟩ := oA.at_ (by simp [stA_length])
     obtain ⟨gB, cB, eB, b1, b2, b3⟩ := oB.at_ (by simp [stB_length])
     simp only [stA_length] at eA
     simp only [stB_length] at eB
     injection eA with eA1 eA2 eA3
     injection eB with eB1 eB2 eB3
     subst eA1 eA3 eB1 eB3
     have z0 := k6.cell' (i := 0) rfl
     have z1 := k6.cell' (i := 1) rfl
     have z2 := k6.cell' (i := 2) rfl
     obtain ⟨_, cLA, eLA, lA1, lA2⟩ := oA.1.form
     injection eLA with eLx eLy eLA3
     rw [← eLA3] at lA1 lA2
     clear eLx eLy eLA3
     simp only [stA_length] at lA1
     obtain ⟨_, cLB, eLB, lB1, lB2⟩ := oB.1.form
     injection eLB with eLx eLy eLB3
     rw [← eLB3] at lB1 lB2
     clear eLx eLy eLB3
     simp only [stB_length] at lB1
     go_wp2_with fail
     refine (row_30 _ _ _ _ lA1 lA2).mono ?_; rintro e w7 ⟨rfl, hb7⟩
     have k6' := k6.call hb7
     have k7' := k7.call hb7
     have oA' := oA.below hb7
     have oB' := oB.below hb7
     have gW' := bthen gW hb7
     have s7 := hb7.size
     clear k6 k7 oA oB gW hb7 z0 z1 z2
     have fA := oA'.1.frozenG 0
     have hc1 : Chg wq.heap.size wh.heap.size w7 (w7.setCell ⟨gA, 0, none⟩ (.int .i64 1)) := chg_set a1 a2
     have oA2 := oA'.put (j := 0) (x := 1) (by simp [I64])
     have oB2 := oB'.chg hc1 (.inr (by omega))
     have k62 := k6'.chg hc1 (by omega)
     have k72 := k7'.chg hc1 (by omega)
     have gW2 := gW'.trans (hc1.below (by omega) (by omega))
     have cAA := (oA'.1.cellG (j := 0) (by simp [stA_length])).1
     obtain ⟨X1, hX1⟩ : ∃ u, u = w7.setCell ⟨gA, 0, none⟩ (.int .i64 1) := ⟨_, rfl⟩
     have y0 := k72.cell' (i := 0) rfl
     have y1 := k72.cell' (i := 1) rfl
     have y2 := k72.cell' (i := 2) rfl
     rw [← hX1] at oA2 oB2 k62 k72 gW2
     have sX1 : X1.heap.size = w7.heap.size := by rw [hX1]; simp
     clear oA' oB' k6' k7' gW' hc1
     go_wp2_with fail
     rw [← hX1]
     clear hX1 fA cAA y0 y1 y2
     refine (row_31 _ _ _ _ lB1 lB2).mono ?_; rintro e w8 ⟨rfl, hb8⟩
     have k6' := k62.call hb8
     have k7' := k72.call hb8
     have oA' := oA2.below hb8
     have oB' := oB2.below hb8
     have gW' := bthen gW2 hb8
     have s8 := hb8.size
     clear k62 k72 oA2 oB2 gW2 hb8
     have fB := oB'.1.frozenG 3
     have cBB := (oB'.1.cellG (j := 3) (by simp [stB_length])).1
     have hc2 : Chg wh.heap.size wi.heap.size w8 (w8.setCell ⟨gB, 3, none⟩ (.int .i64 1)) := chg_set b1 b2
     go_wp2
     exact ⟨⟨_, _, _, _, _, _, _, _, _, _, _, _, _, _, _, _, ⟨1, by omega, rfl, k6'.chg hc2 (by omega), k7'.chg hc2 (by omega), oA'.chg hc2 (.inl (by omega)), oB'.put (j := 3) (x := 1) (by simp [I64]), gW'.trans (hc2.below (by omega) (by omega))⟩, rfl⟩, by simp [intOf]⟩
    ·subst hL
     obtain ⟨gA, cA, eA, a1, a2, a3⟩ := oA.at_ (by simp [stA_length])
     obtain ⟨gB, cB, eB, b1, b2, b3⟩ := oB.at_ (by simp [stB_length])
     simp only [stA_length] at eA
     simp only [stB_length] at eB
     injection eA with eA1 eA2 eA3
     injection eB with eB1 eB2 eB3
     subst eA1 eA3 eB1 eB3
     have z0 := k6.cell' (i := 0) rfl
     have z1 := k6.cell' (i := 1) rfl
     have z2 := k6.cell' (i := 2) rfl
     obtain ⟨_, cLA, eLA, lA1, lA2⟩ := oA.1.form
     injection eLA with eLx eLy eLA3
     rw [← eLA3] at lA1 lA2
     clear eLx eLy eLA3
     simp only [stA_length] at lA1
     obtain ⟨_, cLB, eLB, lB1, lB2⟩ := oB.1.form
     injection eLB with eLx eLy eLB3
     rw [← eLB3] at lB1 lB2
     clear eLx eLy eLB3
     simp only [stB_length] at lB1
     go_wp2_with fail
     refine (row_31 _ _ _ _ lA1 lA2).mono ?_; rintro e w7 ⟨rfl, hb7⟩
     have k6' := k6.call hb7
     have k7' := k7.call hb7
     have oA' := oA.below hb7
     have oB' := oB.below hb7
     have gW' := bthen gW hb7
     have s7 := hb7.size
     clear k6 k7 oA oB gW hb7 z0 z1 z2
     have fA := oA'.1.frozenG 4
     have hc1 : Chg wq.heap.size wh.heap.size w7 (w7.setCell ⟨gA, 4, none⟩ (.int .i64 1)) := chg_set a1 a2
     have oA2 := oA'.put (j := 4) (x := 1) (by simp [I64])
     have oB2 := oB'.chg hc1 (.inr (by omega))
     have k62 := k6'.chg hc1 (by omega)
     have k72 := k7'.chg hc1 (by omega)
     have gW2 := gW'.trans (hc1.below (by omega) (by omega))
     have cAA := (oA'.1.cellG (j := 4) (by simp [stA_length])).1
     obtain ⟨X1, hX1⟩ : ∃ u, u = w7.setCell ⟨gA, 4, none⟩ (.int .i64 1) := ⟨_, rfl⟩
     have y0 := k72.cell' (i := 0) rfl
     have y1 := k72.cell' (i := 1) rfl
     have y2 := k72.cell' (i := 2) rfl
     rw [← hX1] at oA2 oB2 k62 k72 gW2
     have sX1 : X1.heap.size = w7.heap.size := by rw [hX1]; simp
     clear oA' oB' k6' k7' gW' hc1
     go_wp2_with fail
     rw [← hX1]
     clear hX1 fA cAA y0 y1 y2
     refine (row_32 _ _ _ _ lB1 lB2).mono ?_; rintro e w8 ⟨rfl, hb8⟩
     have k6' := k62.call hb8
     have k7' := k72.call hb8
     have oA' := oA2.below hb8
     have oB' := oB2.below hb8
     have gW' := bthen gW2 hb8
     have s8 := hb8.size
     clear k62 k72 oA2 oB2 gW2 hb8
     have fB := oB'.1.frozenG 7
     have cBB := (oB'.1.cellG (j := 7) (by simp [stB_length])).1
     have hc2 : Chg wh.heap.size wi.heap.size w8 (w8.setCell ⟨gB, 7, none⟩ (.int .i64 1)) := chg_set b1 b2
     go_wp2
     exact ⟨⟨_, _, _, _, _, _, _, _, _, _, _, _, _, _, _, _, ⟨2, by omega, rfl, k6'.chg hc2 (by omega), k7'.chg hc2 (by omega), oA'.chg hc2 (.inl (by omega)), oB'.put (j := 7) (x := 1) (by simp [I64]), gW'.trans (hc2.below (by omega) (by omega))⟩, rfl⟩, by simp [intOf]⟩
    ·subst hL
     obtain ⟨gA, cA, eA, a1, a2, a3⟩ := oA.at_ (by simp [stA_length])
     obtain ⟨gB, cB, eB, b1, b2, b3⟩ := oB.at_ (by simp [stB_length])
     simp only [stA_length] at eA
     simp only [stB_length] at eB
     injection eA with eA1 eA2 eA3
     injection eB with eB1 eB2 eB3
     subst eA1 eA3 eB1 eB3
     have z0 := k6.cell' (i := 0) rfl
     have z1 := k6.cell' (i := 1) rfl
     have z2 := k6.cell' (i := 2) rfl
     obtain ⟨_, cLA, eLA, lA1, lA2⟩ := oA.1.form
     injection eLA with eLx eLy eLA3
     rw [← eLA3] at lA1 lA2
     clear eLx eLy eLA3
     simp only [stA_length] at lA1
     obtain ⟨_, cLB, eLB, lB1, lB2⟩ := oB.1.form
     injection eLB with eLx eLy eLB3
     rw [← eLB3] at lB1 lB2
     clear eLx eLy eLB3
     simp only [stB_length] at lB1
     go_wp2_with fail
     refine (row_32 _ _ _ _ lA1 lA2).mono ?_; rintro e w7 ⟨rfl, hb7⟩
     have k6' := k6.call hb7
     have k7' := k7.call hb7
     have oA' := oA.below hb7
     have oB' := oB.below hb7
     have gW' := bthen gW hb7
     have s7 := hb7.size
     clear k6 k7 oA oB gW hb7 z0 z1 z2
     have fA := oA'.1.frozenG 8
     have hc1 : Chg wq.heap.size wh.heap.size w7 (w7.setCell ⟨gA, 8, none⟩ (.int .i64 1)) := chg_set a1 a2
     have oA2 := oA'.put (j := 8) (x := 1) (by simp [I64])
     have oB2 := oB'.chg hc1 (.inr (by omega))
     have k62 := k6'.chg hc1 (by omega)
     have k72 := k7'.chg hc1 (by omega)
     have gW2 := gW'.trans (hc1.below (by omega) (by omega))
     have cAA := (oA'.1.cellG (j := 8) (by simp [stA_length])).1
     obtain ⟨X1, hX1⟩ : ∃ u, u = w7.setCell ⟨gA, 8, none⟩ (.int .i64 1) := ⟨_, rfl⟩
     have y0 := k72.cell' (i := 0) rfl
     have y1 := k72.cell' (i := 1) rfl
     have y2 := k72.cell' (i := 2) rfl
     rw [← hX1] at oA2 oB2 k62 k72 gW2
     have sX1 : X1.heap.size = w7.heap.size := by rw [hX1]; simp
     clear oA' oB' k6' k7' gW' hc1
     go_wp2_with fail
     rw [← hX1]
     clear hX1 fA cAA y0 y1 y2
     refine (row_33 _ _ _ _ lB1 lB2).mono ?_; rintro e w8 ⟨rfl, hb8⟩
     have k6' := k62.call hb8
     have k7' := k72.call hb8
     have oA' := oA2.below hb8
     have oB' := oB2.below hb8
     have gW' := bthen gW2 hb8
     have s8 := hb8.size
     clear k62 k72 oA2 oB2 gW2 hb8
     have fB := oB'.1.frozenG 11
     have cBB := (oB'.1.cellG (j := 11) (by simp [stB_length])).1
     have hc2 : Chg wh.heap.size wi.heap.size w8 (w8.setCell ⟨gB, 11, none⟩ (.int .i64 1)) := chg_set b1 b2
     go_wp2
     exact ⟨⟨_, _, _, _, _, _, _, _, _, _, _, _, _, _, _, _, ⟨3, by omega, rfl, k6'.chg hc2 (by omega), k7'.chg hc2 (by omega), oA'.chg hc2 (.inl (by omega)), oB'.put (j := 11) (x := 1) (by simp [I64]), gW'.trans (hc2.below (by omega) (by omega))⟩, rfl⟩, by simp [intOf]⟩
   ·obtain rfl : k = N := by omega
    have z0 := k6.cell' (i := 0) rfl
    have z1 := k6.cell' (i := 1) rfl
    have z2 := k6.cell' (i := 2) rfl
    have y0 := k7.cell' (i := 0) rfl
    have y1 := k7.cell' (i := 1) rfl
    have y2 := k7.cell' (i := 2) rfl
    have ha : MxR wr wr.heap.size (.agg #[.int .i64 ((k : Int) + 1), .int .i64 k, .slice A1 L c1]) (shA k) := ⟨_, rfl, oA.rd, hr, hc⟩
    have hb : MxR wr wr.heap.size (.agg #[.int .i64 ((k : Int) + 1), .int .i64 k, .slice B1 L d1]) (shB k) := ⟨_, rfl, oB.rd, hr, hc⟩
    go_wp2_with fail
    refine (implPencilOf_any p _ (shA k) _ (shB k) wr hp ha hb).mono ?_; rintro e w2 ⟨r, rfl, ho, hb3⟩
    have g2 := bthen gW hb3
    have gX := g0.trans (g2.mono g0.size)
    have sz := SZ.out
    have s3 := hb3.size
    have kX := kR.call g2
    generalize penOf p (shA k) (shB k) = R at *
    obtain ⟨RA, ra, RC, rc, RE, re, RH, rh, er⟩ := ho.form
    subst er
    have fr := kX.frozen
    have p0 := kX.cell' (i := 0) rfl
    have p1 := kX.cell' (i := 1) rfl
    have p2 := kX.cell' (i := 2) rfl
    have p3 := kX.cell' (i := 3) rfl
    have p4 := kX.cell' (i := 4) rfl
    have p5 := kX.cell' (i := 5) rfl
    have hc6 := chg6 w2 w.heap.size (.int .i64 R.1.p) (.int .i64 R.1.q.v) (.slice RA R.1.q.f.length ra) (.slice RC R.1.q.t.length rc) (.slice RE R.1.d.length re) (.slice RH R.1.m.length rh)
    have OF := Lib.hid (RepO.wider (ho.chg hc6 (.inr (by omega))) (lo' := w.heap.size) (by omega) (hi' := w2.heap.size) (by omega))
    have GF := Lib.hid (gX.trans (hc6.below (Nat.le_refl _) gX.size))
    clear ho hc6 gX g2 hb3 kX kR ha hb k6 k7 oA oB gW z0 z1 z2 y0 y1 y2 s3 hF
    go_wp2
    exact bodyPost_ret (v := .tuple #[.agg #[.int .i64 R.1.p, .int .i64 R.1.q.v, .slice RA R.1.q.f.length ra, .slice RC R.1.q.t.length rc, .slice RE R.1.d.length re, .slice RH R.1.m.length rh], .bool R.2]) (by simp [results, go_sem, p0, p1, p2, p3, p4, p5]) rfl ⟨_, by rw [HF.out.out], by rw [HF.out.out]; exact RepO.wider OF.out (Nat.le_refl _) (by simp), GF.out⟩
def shPF (d a b : Nat) : Int := if a = b + d then 1 else 0
theorem shA_F {n : Nat} (h : n ≤ 3) : shA n = mxF (n + 1) n (shPF 0) := by
 rcases (show n = 0 ∨ n = 1 ∨ n = 2 ∨ n = 3 by omega) with rfl | rfl | rfl | rfl <;> decide
theorem shB_F {n : Nat} (h : n ≤ 3) : shB n = mxF (n + 1) n (shPF 1) := by
 rcases (show n = 0 ∨ n = 1 ∨ n = 2 ∨ n = 3 by omega) with rfl | rfl | rfl | rfl <;> decide
def preiOf (p : Int) (N : Nat) : Rp × Bool := penOf p (mxF N (N + 1) (fun a b => shPF 0 b a)) (mxF N (N + 1) (fun a b => shPF 1 b a))
def preiP (p n : Int) : Rp × Bool := if inR n 0 3 then preiOf p n.toNat else (rp0, false)
set_option maxHeartbeats 6400000 in
set_option maxRecDepth 100000 in
theorem specPreinjectivePencil_any (p n : Int) (w0 : World) (hp : I64 p) (hn : I64 n) :
  Calls Tryz.prog 9 #[.int .i64 p, .int .i64 n] w0 fun e w' => ∃ r, e = .returned (.tuple #[r, .bool (preiP p n).2]) ∧ RepO w' w0.heap.size w'.heap.size r (preiP p n).1 ∧ Below w0.heap.size w0 w' := by
 obtain ⟨W, hW⟩ : ∃ W, W = w0.alloc (.cells #[.int .i64 0, .int .i64 0, .slice none 0 0, .slice none 0 0, .slice none 0 0, .slice none 0 0] 31) := ⟨_, rfl⟩
 have g0 : Below w0.heap.size w0 W := by rw [hW]; exact below_alloc _ _
 have kR : Blk W w0.heap.size 31 #[.int .i64 0, .int .i64 0, .slice none 0 0, .slice none 0 0, .slice none 0 0, .slice none 0 0] := by rw [hW]; exact Blk.new _ _ _
 have sz : W.heap.size = w0.heap.size + 1 := by rw [hW]; simp
 have SZ := Lib.hid sz
 rcases hB : inR n 0 3 with _ | _
 ·have hF : Hid (preiP p n = (rp0, false)) := by show _ = _; simp [preiP, hB]
  have fr := kR.frozen
  have s0 := kR.cell' (i := 0) rfl
  have s1 := kR.cell' (i := 1) rfl
  have s2 := kR.cell' (i := 2) rfl
  have s3 := kR.cell' (i := 3) rfl
  have s4 := kR.cell' (i := 4) rfl
  have s5 := kR.cell' (i := 5) rfl
  have HB := Lib.hid hB
  clear hB sz
  go_enter Tryz.func9, Tryz.ntmps9
  go_wp2_with fail
  rw [← hW]; clear hW
  refine (l1In_any _ _ _ _).mono ?_; rintro e w1 ⟨rfl, rfl⟩
  rw [HB.out]
  go_wp2
  have sz := SZ.out
  refine bodyPost_ret (v := .tuple #[.agg #[.int .i64 0, .int .i64 0, .slice none 0 0, .slice none 0 0, .slice none 0 0, .slice none 0 0], .bool false]) (by simp [results, go_sem, s0, s1, s2, s3, s4, s5]) rfl ⟨_, by rw [hF.out], by rw [hF.out]; exact RepO.zero _ _ _, (((((g0.setCell (by simp) _).setCell (by simp) _).setCell (by simp) _).setCell (by simp) _).setCell (by simp) _).setCell (by simp) _⟩
 ·obtain ⟨n1, n2⟩ := inR_t.1 hB
  obtain ⟨N, rfl⟩ := Int.eq_ofNat_of_zero_le n1
  obtain ⟨R, hR⟩ : ∃ R, R = preiOf p N := ⟨_, rfl⟩
  have HR := Lib.hid (show penOf p (mxF N (N + 1) (fun a b => shPF 0 b a)) (mxF N (N + 1) (fun a b => shPF 1 b a)) = R from hR.symm)
  have HRF : Hid (preiP p N = R) := by show _ = _; rw [preiP, hB, hR]; rfl
  have HB := Lib.hid hB
  have KR := Lib.hid kR
  have G0 := Lib.hid g0
  clear hB hR sz kR g0
  go_enter Tryz.func9, Tryz.ntmps9
  go_wp2_with fail
  rw [← hW]; clear hW
  refine (l1In_any _ _ _ _).mono ?_; rintro e w1' ⟨rfl, rfl⟩
  rw [HB.out]
  go_wp2_with fail
  refine (l26Shift_any N _ (by omega)).mono ?_; rintro e w1 ⟨ua, ub, rfl, ha, hb, hb1⟩
  rw [shA_F (by omega)] at ha
  rw [shB_F (by omega)] at hb
  obtain ⟨A1, ac, ea⟩ := ha.form
  obtain ⟨B1, bc, eb⟩ := hb.form
  subst ea eb
  have zA : (mxF (N + 1) N (shPF 0)).r = (N : Int) + 1 := by simp [mxF]
  have zB : (mxF (N + 1) N (shPF 1)).r = (N : Int) + 1 := by simp [mxF]
  have zA2 : (mxF (N + 1) N (shPF 0)).c = (N : Int) := by simp [mxF]
  have zB2 : (mxF (N + 1) N (shPF 1)).c = (N : Int) := by simp [mxF]
  obtain ⟨LA, hLA⟩ : ∃ L, (mxF (N + 1) N (shPF 0)).a.length = L := ⟨_, rfl⟩
  obtain ⟨LB, hLB⟩ : ∃ L, (mxF (N + 1) N (shPF 1)).a.length = L := ⟨_, rfl⟩
  rw [zA, zA2, hLA] at ha ⊢
  rw [zB, zB2, hLB] at hb ⊢
  clear zA zB zA2 zB2 hLA hLB
  obtain ⟨wr, hW2⟩ : ∃ u, u = (w1.alloc (.cells #[.int .i64 ((N : Int) + 1), .int .i64 N, .slice A1 LA ac] 44)).alloc (.cells #[.int .i64 ((N : Int) + 1), .int .i64 N, .slice B1 LB bc] 44) := ⟨_, rfl⟩
  have hb2 : Below w1.heap.size w1 wr := by rw [hW2]; exact ((Below.refl _ _).alloc (Nat.le_refl _) _).alloc (by simp) _
  have k4 : Blk wr w1.heap.size 44 #[.int .i64 ((N : Int) + 1), .int .i64 N, .slice A1 LA ac] := by rw [hW2]; exact (Blk.new _ _ _).alloc _
  have k5 : Blk wr (w1.heap.size + 1) 44 #[.int .i64 ((N : Int) + 1), .int .i64 N, .slice B1 LB bc] := by
   rw [hW2]
   have := Blk.new (w1.alloc (.cells #[.int .i64 ((N : Int) + 1), .int .i64 N, .slice A1 LA ac] 44)) 44 #[.int .i64 ((N : Int) + 1), .int .i64 N, .slice B1 LB bc]
   simpa only [World.size_alloc] using this
  go_wp2
  rw [← hW2]
  clear hW2
  have gW := bthen hb1 hb2
  have s6 := gW.size
  have HA := Lib.hid (MxR.next hb2 ha)
  have HB2 := Lib.hid (MxR.next hb2 hb)
  have GF := Lib.hid (G0.out.trans (gW.mono (G0.out).size))
  have HKR := Lib.hid (KR.out.below gW (by have := SZ.out; omega))
  clear gW hb1 hb2 ha hb
  refine wp_region_net2 (by kernel_rfl) [.eq (.int .i64 p), .eq (.agg #[.int .i64 ((N : Int) + 1), .int .i64 N, .slice A1 LA ac]), rel 2 (fun u lo hi w => MxO w lo hi u (mxF N (N + 1) (fun a b => shPF 0 b a))), .eq (.agg #[.int .i64 ((N : Int) + 1), .int .i64 N, .slice B1 LB bc]), rel 4 (fun u lo hi w => MxO w lo hi u (mxF N (N + 1) (fun a b => shPF 1 b a))), .rel (fun x w => ∃ A a C c E e H h, x.v 5 = .tuple #[.agg #[.int .i64 R.1.p, .int .i64 R.1.q.v, .slice A R.1.q.f.length a, .slice C R.1.q.t.length c, .slice E R.1.d.length e, .slice H R.1.m.length h], .bool R.2] ∧ RepO w (x.lo 5) (x.hi 5) (.agg #[.int .i64 R.1.p, .int .i64 R.1.q.v, .slice A R.1.q.f.length a, .slice C R.1.q.t.length c, .slice E R.1.d.length e, .slice H R.1.m.length h]) R.1), .rel (fun x w => ∃ A a C c E e H h, x.v 6 = .tuple #[.agg #[.int .i64 R.1.p, .int .i64 R.1.q.v, .slice A R.1.q.f.length a, .slice C R.1.q.t.length c, .slice E R.1.d.length e, .slice H R.1.m.length h], .bool R.2] ∧ RepO w (x.lo 5) (x.hi 5) (.agg #[.int .i64 R.1.p, .int .i64 R.1.q.v, .slice A R.1.q.f.length a, .slice C R.1.q.t.length c, .slice E R.1.d.length e, .slice H R.1.m.length h]) R.1), .rel (fun x w => ∃ A a C c E e H h, x.v 7 = .agg #[.int .i64 R.1.p, .int .i64 R.1.q.v, .slice A R.1.q.f.length a, .slice C R.1.q.t.length c, .slice E R.1.d.length e, .slice H R.1.m.length h] ∧ RepO w (x.lo 5) (x.hi 5) (.agg #[.int .i64 R.1.p, .int .i64 R.1.q.v, .slice A R.1.q.f.length a, .slice C R.1.q.t.length c, .slice E R.1.d.length e, .slice H R.1.m.length h]) R.1), .eq (.bool R.2), rel 9 (fun u lo hi w => ∃ g, u = .pointer (some ⟨g, 0, none⟩) ∧ (lo ≤ g ∧ g < hi) ∧ Blk w g 31 #[.int .i64 0, .int .i64 0, .slice none 0 0, .slice none 0 0, .slice none 0 0, .slice none 0 0])] [[], [], [1], [], [1, 2, 3], [0, 1, 2, 3, 4], [0, 1, 2, 3, 4, 5], [0, 1, 2, 3, 4, 5, 6], [0, 1, 2, 3, 4, 5, 6], [], [0, 1, 2, 3, 4, 5, 6, 7, 9], [0, 1, 2, 3, 4, 5, 6, 7, 8, 9, 10]] 10 8 [0, 1, 2, 3, 4, 5, 6, 7, 9] (by kernel_rfl) rfl ⟨trivial, trivial, rel_stable (fun u lo hi w w' h hb => h.below hb), trivial, rel_stable (fun u lo hi w w' h hb => h.below hb), fun x w w' ⟨A, a, C, c, E, e, H, h, e1, h1⟩ hb => ⟨A, a, C, c, E, e, H, h, e1, h1.below hb⟩, fun x w w' ⟨A, a, C, c, E, e, H, h, e1, h1⟩ hb => ⟨A, a, C, c, E, e, H, h, e1, h1.below hb⟩, fun x w w' ⟨A, a, C, c, E, e, H, h, e1, h1⟩ hb => ⟨A, a, C, c, E, e, H, h, e1, h1.below hb⟩, trivial, rel_stable (fun u lo hi w w' ⟨g, e, h1, h⟩ hb => ⟨g, e, h1, h.call hb⟩), trivial⟩ ⟨?_, ?_, ?_, ?_, ?_, ?_, ?_, ?_, ?_, ?_, trivial⟩ ?_ ?_
  ·intro x w hb hk Q' hQ
   clear hk
   simp only [netE] at hQ ⊢
   go_wp2
   exact hQ _ _ (Below.refl _ _) rfl
  ·intro x w hb hk Q' hQ
   clear hk
   simp only [netE] at hQ ⊢
   have z0 := (k4.call hb).cell' (i := 0) rfl
   have z1 := (k4.call hb).cell' (i := 1) rfl
   have z2 := (k4.call hb).cell' (i := 2) rfl
   go_wp2
   exact hQ (.agg #[.int .i64 ((N : Int) + 1), .int .i64 N, .slice A1 LA ac]) _ (Below.refl _ _) rfl
  ·intro x w hb hk Q' hQ
   have h1 : x.v 1 = _ := (hk 1 (by decide)).1
   clear hk
   simp only [netE] at hQ ⊢
   simp only [h1] at hQ ⊢
   clear h1
   go_wp2_with fail
   refine (l3Transpose_any _ (N + 1) N (shPF 0) _ (MxR.more hb.size (MxR.below hb HA.out)) (by omega) (by omega)).mono ?_; rintro e w5 ⟨v5, rfl, hO5, hb5⟩
   go_wp2
   exact hQ _ _ hb5 hO5
  ·intro x w hb hk Q' hQ
   clear hk
   simp only [netE] at hQ ⊢
   have z0 := (k5.call hb).cell' (i := 0) rfl
   have z1 := (k5.call hb).cell' (i := 1) rfl
   have z2 := (k5.call hb).cell' (i := 2) rfl
   go_wp2
   exact hQ (.agg #[.int .i64 ((N : Int) + 1), .int .i64 N, .slice B1 LB bc]) _ (Below.refl _ _) rfl
  ·intro x w hb hk Q' hQ
   have h1 : x.v 1 = _ := (hk 1 (by decide)).1
   have h2 : MxO w (x.lo 2) (x.hi 2) (x.v 2) (mxF N (N + 1) (fun a b => shPF 0 b a)) := (hk 2 (by decide)).1
   have h3 : x.v 3 = _ := (hk 3 (by decide)).1
   have s2 := (hk 2 (by decide)).2
   clear hk
   simp only [netE] at hQ ⊢
   simp only [h1, h3] at hQ ⊢
   clear h1 h3
   go_wp2_with fail
   refine (l3Transpose_any _ (N + 1) N (shPF 1) _ (MxR.more hb.size (MxR.below hb HB2.out)) (by omega) (by omega)).mono ?_; rintro e w5 ⟨v5, rfl, hO5, hb5⟩
   go_wp2
   exact hQ _ _ hb5 hO5
  ·intro x w hb hk Q' hQ
   have h0 : x.v 0 = _ := (hk 0 (by decide)).1
   have h1 : x.v 1 = _ := (hk 1 (by decide)).1
   have h2 : MxO w (x.lo 2) (x.hi 2) (x.v 2) (mxF N (N + 1) (fun a b => shPF 0 b a)) := (hk 2 (by decide)).1
   have h3 : x.v 3 = _ := (hk 3 (by decide)).1
   have h4 : MxO w (x.lo 4) (x.hi 4) (x.v 4) (mxF N (N + 1) (fun a b => shPF 1 b a)) := (hk 4 (by decide)).1
   have s2 := (hk 2 (by decide)).2
   have s4 := (hk 4 (by decide)).2
   clear hk
   simp only [netE] at hQ ⊢
   simp only [h0, h1, h3] at hQ ⊢
   clear h0 h1 h3
   obtain ⟨A2, c2, e2⟩ := h2.form
   obtain ⟨A4, c4, e4⟩ := h4.form
   simp only [mxF] at e2 e4
   rw [e2] at h2 hQ ⊢
   rw [e4] at h4 hQ ⊢
   go_wp2_with fail
   refine (specPencilOf_any p _ (mxF N (N + 1) (fun a b => shPF 0 b a)) _ (mxF N (N + 1) (fun a b => shPF 1 b a)) _ hp h2.rd h4.rd).mono ?_; rintro e w5 ⟨v5, rfl, hO5, hb5⟩
   rw [HR.out] at hO5 ⊢
   have HO5 := Lib.hid hO5
   obtain ⟨A, a, C, c, E, e, H, h, e5⟩ := hO5.form
   subst e5
   clear hO5
   go_wp2
   exact hQ _ _ hb5 ⟨A, a, C, c, E, e, H, h, rfl, HO5.out⟩
  ·intro x w hb hk Q' hQ
   have h0 : x.v 0 = _ := (hk 0 (by decide)).1
   have h1 : x.v 1 = _ := (hk 1 (by decide)).1
   have h2 : MxO w (x.lo 2) (x.hi 2) (x.v 2) (mxF N (N + 1) (fun a b => shPF 0 b a)) := (hk 2 (by decide)).1
   have h3 : x.v 3 = _ := (hk 3 (by decide)).1
   have h4 : MxO w (x.lo 4) (x.hi 4) (x.v 4) (mxF N (N + 1) (fun a b => shPF 1 b a)) := (hk 4 (by decide)).1
   have h5 : ∃ A a C c E e H h, x.v 5 = .tuple #[.agg #[.int .i64 R.1.p, .int .i64 R.1.q.v, .slice A R.1.q.f.length a, .slice C R.1.q.t.length c, .slice E R.1.d.length e, .slice H R.1.m.length h], .bool R.2] ∧ RepO w (x.lo 5) (x.hi 5) (.agg #[.int .i64 R.1.p, .int .i64 R.1.q.v, .slice A R.1.q.f.length a, .slice C R.1.q.t.length c, .slice E R.1.d.length e, .slice H R.1.m.length h]) R.1 := (hk 5 (by decide)).1
   have s2 := (hk 2 (by decide)).2
   have s4 := (hk 4 (by decide)).2
   have s5 := (hk 5 (by decide)).2
   clear hk
   simp only [netE] at hQ ⊢
   simp only [h0, h1, h3] at hQ ⊢
   clear h0 h1 h3
   obtain ⟨A, a, C, c, E, e, H, h, e4, ho⟩ := h5
   have hQ' := hQ (.tuple #[.agg #[.int .i64 R.1.p, .int .i64 R.1.q.v, .slice A R.1.q.f.length a, .slice C R.1.q.t.length c, .slice E R.1.d.length e, .slice H R.1.m.length h], .bool R.2]) w (Below.refl _ _) ⟨A, a, C, c, E, e, H, h, rfl, ho⟩
   rw [e4] at hQ' ⊢
   go_wp2
   exact hQ'
  ·intro x w hb hk Q' hQ
   have h0 : x.v 0 = _ := (hk 0 (by decide)).1
   have h1 : x.v 1 = _ := (hk 1 (by decide)).1
   have h2 : MxO w (x.lo 2) (x.hi 2) (x.v 2) (mxF N (N + 1) (fun a b => shPF 0 b a)) := (hk 2 (by decide)).1
   have h3 : x.v 3 = _ := (hk 3 (by decide)).1
   have h4 : MxO w (x.lo 4) (x.hi 4) (x.v 4) (mxF N (N + 1) (fun a b => shPF 1 b a)) := (hk 4 (by decide)).1
   have h5 : ∃ A a C c E e H h, x.v 5 = .tuple #[.agg #[.int .i64 R.1.p, .int .i64 R.1.q.v, .slice A R.1.q.f.length a, .slice C R.1.q.t.length c, .slice E R.1.d.length e, .slice H R.1.m.length h], .bool R.2] ∧ RepO w (x.lo 5) (x.hi 5) (.agg #[.int .i64 R.1.p, .int .i64 R.1.q.v, .slice A R.1.q.f.length a, .slice C R.1.q.t.length c, .slice E R.1.d.length e, .slice H R.1.m.length h]) R.1 := (hk 5 (by decide)).1
   have h6 : ∃ A a C c E e H h, x.v 6 = .tuple #[.agg #[.int .i64 R.1.p, .int .i64 R.1.q.v, .slice A R.1.q.f.length a, .slice C R.1.q.t.length c, .slice E R.1.d.length e, .slice H R.1.m.length h], .bool R.2] ∧ RepO w (x.lo 5) (x.hi 5) (.agg #[.int .i64 R.1.p, .int .i64 R.1.q.v, .slice A R.1.q.f.length a, .slice C R.1.q.t.length c, .slice E R.1.d.length e, .slice H R.1.m.length h]) R.1 := (hk 6 (by decide)).1
   have s2 := (hk 2 (by decide)).2
   have s4 := (hk 4 (by decide)).2
   have s5 := (hk 5 (by decide)).2
   have s6 := (hk 6 (by decide)).2
   clear hk
   simp only [netE] at hQ ⊢
   simp only [h0, h1, h3] at hQ ⊢
   clear h0 h1 h3
   obtain ⟨A, a, C, c, E, e, H, h, e4, ho⟩ := h6
   have hQ' := hQ (.agg #[.int .i64 R.1.p, .int .i64 R.1.q.v, .slice A R.1.q.f.length a, .slice C R.1.q.t.length c, .slice E R.1.d.length e, .slice H R.1.m.length h]) w (Below.refl _ _) ⟨A, a, C, c, E, e, H, h, rfl, ho⟩
   rw [e4] at hQ' ⊢
   go_wp2
   exact hQ'
  ·intro x w hb hk Q' hQ
   have h6 : ∃ A a C c E e H h, x.v 6 = .tuple #[.agg #[.int .i64 R.1.p, .int .i64 R.1.q.v, .slice A R.1.q.f.length a, .slice C R.1.q.t.length c, .slice E R.1.d.length e, .slice H R.1.m.length h], .bool R.2] ∧ RepO w (x.lo 5) (x.hi 5) (.agg #[.int .i64 R.1.p, .int .i64 R.1.q.v, .slice A R.1.q.f.length a, .slice C R.1.q.t.length c, .slice E R.1.d.length e, .slice H R.1.m.length h]) R.1 := (hk 6 (by decide)).1
   clear hk
   simp only [netE] at hQ ⊢
   obtain ⟨A, a, C, c, E, e, H, h, e4, ho⟩ := h6
   rw [e4] at hQ ⊢
   go_wp2
   exact hQ _ _ (Below.refl _ _) rfl
  ·intro x w hb hk Q' hQ
   clear hk
   simp only [netE] at hQ ⊢
   go_wp2
   exact hQ _ _ (below_alloc _ _) ⟨_, rfl, ⟨Nat.le_refl _, by show w.heap.size < (w.alloc _).heap.size; simp⟩, Blk.new _ _ _⟩
  ·intro x w hb hk hiv hdj
   have h0 : x.v 0 = .int .i64 p := hk 0 (by decide)
   have h1 : x.v 1 = .agg #[.int .i64 ((N : Int) + 1), .int .i64 N, .slice A1 LA ac] := hk 1 (by decide)
   have h2 : MxO w (x.lo 2) (x.hi 2) (x.v 2) (mxF N (N + 1) (fun a b => shPF 0 b a)) := hk 2 (by decide)
   have h3 : x.v 3 = .agg #[.int .i64 ((N : Int) + 1), .int .i64 N, .slice B1 LB bc] := hk 3 (by decide)
   have h4 : MxO w (x.lo 4) (x.hi 4) (x.v 4) (mxF N (N + 1) (fun a b => shPF 1 b a)) := hk 4 (by decide)
   have h5 : ∃ A a C c E e H h, x.v 5 = .tuple #[.agg #[.int .i64 R.1.p, .int .i64 R.1.q.v, .slice A R.1.q.f.length a, .slice C R.1.q.t.length c, .slice E R.1.d.length e, .slice H R.1.m.length h], .bool R.2] ∧ RepO w (x.lo 5) (x.hi 5) (.agg #[.int .i64 R.1.p, .int .i64 R.1.q.v, .slice A R.1.q.f.length a, .slice C R.1.q.t.length c, .slice E R.1.d.length e, .slice H R.1.m.length h]) R.1 := hk 5 (by decide)
   have h6 : ∃ A a C c E e H h, x.v 6 = .tuple #[.agg #[.int .i64 R.1.p, .int .i64 R.1.q.v, .slice A R.1.q.f.length a, .slice C R.1.q.t.length c, .slice E R.1.d.length e, .slice H R.1.m.length h], .bool R.2] ∧ RepO w (x.lo 5) (x.hi 5) (.agg #[.int .i64 R.1.p, .int .i64 R.1.q.v, .slice A R.1.q.f.length a, .slice C R.1.q.t.length c, .slice E R.1.d.length e, .slice H R.1.m.length h]) R.1 := hk 6 (by decide)
   have h7 : ∃ A a C c E e H h, x.v 7 = .agg #[.int .i64 R.1.p, .int .i64 R.1.q.v, .slice A R.1.q.f.length a, .slice C R.1.q.t.length c, .slice E R.1.d.length e, .slice H R.1.m.length h] ∧ RepO w (x.lo 5) (x.hi 5) (.agg #[.int .i64 R.1.p, .int .i64 R.1.q.v, .slice A R.1.q.f.length a, .slice C R.1.q.t.length c, .slice E R.1.d.length e, .slice H R.1.m.length h]) R.1 := hk 7 (by decide)
   have h8 : x.v 8 = .bool R.2 := hk 8 (by decide)
   have h9 : ∃ g, (x.v 9) = .pointer (some ⟨g, 0, none⟩) ∧ ((x.lo 9) ≤ g ∧ g < (x.hi 9)) ∧ Blk w g 31 #[.int .i64 0, .int .i64 0, .slice none 0 0, .slice none 0 0, .slice none 0 0, .slice none 0 0] := hk 9 (by decide)
   clear hk
   simp only [netE]
   simp only [List.drop_succ_cons, List.drop_zero, h0, h1, h3, h8]
   clear h0 h1 h3 h8
   obtain ⟨A, a, C, c, E, e, H, h, e7, ho⟩ := h7
   obtain ⟨gR, e9, hg, kG⟩ := h9
   obtain ⟨An, an, Cn, cn, En, en, Hn, hn', e6, _⟩ := h6
   obtain ⟨l4, _, l4h⟩ := hiv 5 (by decide)
   obtain ⟨l8, _, l8h⟩ := hiv 9 (by decide)
   have d48 := hdj 5 9 (by decide) (by decide) (by decide)
   rw [e7, e9, e6]
   clear hiv hdj e7 e9 e6 h5 h4 h2 k5
   have sz := SZ.out
   have hkR := HKR.out.call hb
   have gX := (GF.out).trans (hb.mono (GF.out).size)
   have gXs := gX.size
   have hbs := hb.size
   have gfs := (GF.out).size
   have frG := kG.frozen
   have r0 := kG.cell' (i := 0) rfl
   have r1 := kG.cell' (i := 1) rfl
   have r2 := kG.cell' (i := 2) rfl
   have r3 := kG.cell' (i := 3) rfl
   have r4 := kG.cell' (i := 4) rfl
   have r5 := kG.cell' (i := 5) rfl
   obtain ⟨W3, e3⟩ : ∃ u, u = ((((((w.setCell ⟨gR, 0, none⟩ (.int .i64 R.1.p)).setCell ⟨gR, 1, none⟩ (.int .i64 R.1.q.v)).setCell ⟨gR, 2, none⟩ (.slice A R.1.q.f.length a)).setCell ⟨gR, 3, none⟩ (.slice C R.1.q.t.length c)).setCell ⟨gR, 4, none⟩ (.slice E R.1.d.length e)).setCell ⟨gR, 5, none⟩ (.slice H R.1.m.length h)) := ⟨_, rfl⟩
   have kB : Blk W3 gR 31 #[.int .i64 R.1.p, .int .i64 R.1.q.v, .slice A R.1.q.f.length a, .slice C R.1.q.t.length c, .slice E R.1.d.length e, .slice H R.1.m.length h] := by rw [e3]; exact ((((((kG.set_ 0 _).set_ 1 _).set_ 2 _).set_ 3 _).set_ 4 _).set_ 5 _)
   have hc : Chg gR (gR + 1) w W3 := by rw [e3]; exact chg6 _ _ _ _ _ _ _ _
   have hO3 := ho.chg hc (by omega)
   have hkR3 := hkR.chg hc (by omega)
   have g3 := gX.trans (hc.below (by omega) (by omega))
   have s3 := hc.size
   have fr3 := hkR3.frozen
   have p0 := kB.cell' (i := 0) rfl
   have p1 := kB.cell' (i := 1) rfl
   have p2 := kB.cell' (i := 2) rfl
   have p3 := kB.cell' (i := 3) rfl
   have p4 := kB.cell' (i := 4) rfl
   have p5 := kB.cell' (i := 5) rfl
   have q0 := hkR3.cell' (i := 0) rfl
   have q1 := hkR3.cell' (i := 1) rfl
   have q2 := hkR3.cell' (i := 2) rfl
   have q3 := hkR3.cell' (i := 3) rfl
   have q4 := hkR3.cell' (i := 4) rfl
   have q5 := hkR3.cell' (i := 5) rfl
   rw [e3] at fr3 p0 p1 p2 p3 p4 p5 q0 q1 q2 q3 q4 q5
   have hc6 := chg6 W3 w0.heap.size (.int .i64 R.1.p) (.int .i64 R.1.q.v) (.slice A R.1.q.f.length a) (.slice C R.1.q.t.length c) (.slice E R.1.d.length e) (.slice H R.1.m.length h)
   have OF := Lib.hid (RepO.wider (hO3.chg hc6 (.inr (by omega))) (lo' := w0.heap.size) (by omega) (hi' := W3.heap.size) (by omega))
   have GF2 := Lib.hid (g3.trans (hc6.below (Nat.le_refl _) g3.size))
   clear hO3 hc hc6 g3 kB hkR hkR3 kG gX ho k4 hb sz gXs hbs gfs s3 hg l4 l4h l8 l8h d48
   go_wp2
   rw [← e3]
   rw [← e3] at p0 p1 p2 p3 p4 p5 q0 q1 q2 q3 q4 q5
   exact bodyPost_ret (v := .tuple #[.agg #[.int .i64 R.1.p, .int .i64 R.1.q.v, .slice A R.1.q.f.length a, .slice C R.1.q.t.length c, .slice E R.1.d.length e, .slice H R.1.m.length h], .bool R.2]) (by simp [results, go_sem, q0, q1, q2, q3, q4, q5]) rfl ⟨_, by rw [HRF.out], by rw [HRF.out]; exact RepO.wider OF.out (Nat.le_refl _) (by simp), GF2.out⟩
  ·intro x w hb hk hiv hdj om os hom hos
   simp only [List.getElem?_cons_zero, List.getElem?_cons_succ, Option.some.injEq] at hom hos
   subst hom hos
   have h0 : x.v 0 = .int .i64 p := hk 0 (by decide)
   have h1 : x.v 1 = .agg #[.int .i64 ((N : Int) + 1), .int .i64 N, .slice A1 LA ac] := hk 1 (by decide)
   have h2 : MxO w (x.lo 2) (x.hi 2) (x.v 2) (mxF N (N + 1) (fun a b => shPF 0 b a)) := hk 2 (by decide)
   have h3 : x.v 3 = .agg #[.int .i64 ((N : Int) + 1), .int .i64 N, .slice B1 LB bc] := hk 3 (by decide)
   have h4 : MxO w (x.lo 4) (x.hi 4) (x.v 4) (mxF N (N + 1) (fun a b => shPF 1 b a)) := hk 4 (by decide)
   have h5 : ∃ A a C c E e H h, x.v 5 = .tuple #[.agg #[.int .i64 R.1.p, .int .i64 R.1.q.v, .slice A R.1.q.f.length a, .slice C R.1.q.t.length c, .slice E R.1.d.length e, .slice H R.1.m.length h], .bool R.2] ∧ RepO w (x.lo 5) (x.hi 5) (.agg #[.int .i64 R.1.p, .int .i64 R.1.q.v, .slice A R.1.q.f.length a, .slice C R.1.q.t.length c, .slice E R.1.d.length e, .slice H R.1.m.length h]) R.1 := hk 5 (by decide)
   have h6 : ∃ A a C c E e H h, x.v 6 = .tuple #[.agg #[.int .i64 R.1.p, .int .i64 R.1.q.v, .slice A R.1.q.f.length a, .slice C R.1.q.t.length c, .slice E R.1.d.length e, .slice H R.1.m.length h], .bool R.2] ∧ RepO w (x.lo 5) (x.hi 5) (.agg #[.int .i64 R.1.p, .int .i64 R.1.q.v, .slice A R.1.q.f.length a, .slice C R.1.q.t.length c, .slice E R.1.d.length e, .slice H R.1.m.length h]) R.1 := hk 6 (by decide)
   have h7 : ∃ A a C c E e H h, x.v 7 = .agg #[.int .i64 R.1.p, .int .i64 R.1.q.v, .slice A R.1.q.f.length a, .slice C R.1.q.t.length c, .slice E R.1.d.length e, .slice H R.1.m.length h] ∧ RepO w (x.lo 5) (x.hi 5) (.agg #[.int .i64 R.1.p, .int .i64 R.1.q.v, .slice A R.1.q.f.length a, .slice C R.1.q.t.length c, .slice E R.1.d.length e, .slice H R.1.m.length h]) R.1 := hk 7 (by decide)
   have h9 : ∃ g, (x.v 9) = .pointer (some ⟨g, 0, none⟩) ∧ ((x.lo 9) ≤ g ∧ g < (x.hi 9)) ∧ Blk w g 31 #[.int .i64 0, .int .i64 0, .slice none 0 0, .slice none 0 0, .slice none 0 0, .slice none 0 0] := hk 9 (by decide)
   clear hk
   simp only [List.foldl_cons, List.foldl_nil, netE]
   simp only [List.drop_succ_cons, List.drop_zero, h0, h1, h3]
   clear h0 h1 h3
   obtain ⟨A, a, C, c, E, e, H, h, e7, ho⟩ := h7
   obtain ⟨gR, e9, hg, kG⟩ := h9
   obtain ⟨An, an, Cn, cn, En, en, Hn, hn', e6, _⟩ := h6
   obtain ⟨l4, _, l4h⟩ := hiv 5 (by decide)
   obtain ⟨l8, _, l8h⟩ := hiv 9 (by decide)
   have d48 := hdj 5 9 (by decide) (by decide) (by decide)
   rw [e7, e9, e6]
   clear hiv hdj e7 e9 e6 h5 h4 h2 k5
   have sz := SZ.out
   have hkR := HKR.out.call hb
   have gX := (GF.out).trans (hb.mono (GF.out).size)
   have gXs := gX.size
   have hbs := hb.size
   have gfs := (GF.out).size
   have frG := kG.frozen
   have r0 := kG.cell' (i := 0) rfl
   have r1 := kG.cell' (i := 1) rfl
   have r2 := kG.cell' (i := 2) rfl
   have r3 := kG.cell' (i := 3) rfl
   have r4 := kG.cell' (i := 4) rfl
   have r5 := kG.cell' (i := 5) rfl
   obtain ⟨W3, e3⟩ : ∃ u, u = ((((((w.setCell ⟨gR, 0, none⟩ (.int .i64 R.1.p)).setCell ⟨gR, 1, none⟩ (.int .i64 R.1.q.v)).setCell ⟨gR, 2, none⟩ (.slice A R.1.q.f.length a)).setCell ⟨gR, 3, none⟩ (.slice C R.1.q.t.length c)).setCell ⟨gR, 4, none⟩ (.slice E R.1.d.length e)).setCell ⟨gR, 5, none⟩ (.slice H R.1.m.length h)) := ⟨_, rfl⟩
   have kB : Blk W3 gR 31 #[.int .i64 R.1.p, .int .i64 R.1.q.v, .slice A R.1.q.f.length a, .slice C R.1.q.t.length c, .slice E R.1.d.length e, .slice H R.1.m.length h] := by rw [e3]; exact ((((((kG.set_ 0 _).set_ 1 _).set_ 2 _).set_ 3 _).set_ 4 _).set_ 5 _)
   have hc : Chg gR (gR + 1) w W3 := by rw [e3]; exact chg6 _ _ _ _ _ _ _ _
   have hO3 := ho.chg hc (by omega)
   have hkR3 := hkR.chg hc (by omega)
   have g3 := gX.trans (hc.below (by omega) (by omega))
   have s3 := hc.size
   have fr3 := hkR3.frozen
   have p0 := kB.cell' (i := 0) rfl
   have p1 := kB.cell' (i := 1) rfl
   have p2 := kB.cell' (i := 2) rfl
   have p3 := kB.cell' (i := 3) rfl
   have p4 := kB.cell' (i := 4) rfl
   have p5 := kB.cell' (i := 5) rfl
   have q0 := hkR3.cell' (i := 0) rfl
   have q1 := hkR3.cell' (i := 1) rfl
   have q2 := hkR3.cell' (i := 2) rfl
   have q3 := hkR3.cell' (i := 3) rfl
   have q4 := hkR3.cell' (i := 4) rfl
   have q5 := hkR3.cell' (i := 5) rfl
   rw [e3] at fr3 p0 p1 p2 p3 p4 p5 q0 q1 q2 q3 q4 q5
   have hc6 := chg6 W3 w0.heap.size (.int .i64 R.1.p) (.int .i64 R.1.q.v) (.slice A R.1.q.f.length a) (.slice C R.1.q.t.length c) (.slice E R.1.d.length e) (.slice H R.1.m.length h)
   have OF := Lib.hid (RepO.wider (hO3.chg hc6 (.inr (by omega))) (lo' := w0.heap.size) (by omega) (hi' := W3.heap.size) (by omega))
   have GF2 := Lib.hid (g3.trans (hc6.below (Nat.le_refl _) g3.size))
   clear hO3 hc hc6 g3 kB hkR hkR3 kG gX ho k4 hb sz gXs hbs gfs s3 hg l4 l4h l8 l8h d48
   go_wp2
   rw [← e3]
   rw [← e3] at p0 p1 p2 p3 p4 p5 q0 q1 q2 q3 q4 q5
   exact bodyPost_ret (v := .tuple #[.agg #[.int .i64 R.1.p, .int .i64 R.1.q.v, .slice A R.1.q.f.length a, .slice C R.1.q.t.length c, .slice E R.1.d.length e, .slice H R.1.m.length h], .bool R.2]) (by simp [results, go_sem, q0, q1, q2, q3, q4, q5]) rfl ⟨_, by rw [HRF.out], by rw [HRF.out]; exact RepO.wider OF.out (Nat.le_refl _) (by simp), GF2.out⟩
theorem isRep_at {x : Rp} (hx : isRep x = true) {k : Nat} (hk : k < x.q.f.length) : ∃ (m : Mx) (nf nt yf yt : Nat), x.m[k]? = some m ∧ x.q.f[k]? = some (nf : Int) ∧ x.q.t[k]? = some (nt : Int) ∧ x.d[nf]? = some (yf : Int) ∧ x.d[nt]? = some (yt : Int) ∧
  m = mxF yt yf (entry m.a yf) ∧ (∀ i j, i < yt → j < yf → 0 ≤ entry m.a yf i j ∧ entry m.a yf i j ≤ x.p - 1) ∧ yf ≤ 4 ∧ yt ≤ 4 ∧ nf ≤ 5 ∧ nt ≤ 5 ∧ nf < x.d.length ∧ nt < x.d.length ∧ k < x.q.t.length ∧ k < x.m.length := by
 obtain ⟨h1, h2, h3, h4⟩ := isRep_t.1 hx
 obtain ⟨nf, nt, yf, yt, ef, et, df, dt, lf, lt, l5, l6, l7⟩ := rep_at h2 hk
 have hd := (areDims_t.1 h2).2.2.1
 have bf := hd _ (List.mem_of_getElem? df)
 have bt := hd _ (List.mem_of_getElem? dt)
 have hkm : k < x.m.length := by omega
 have em := List.getElem?_eq_getElem hkm
 obtain ⟨m, hm⟩ : ∃ m, x.m[k] = m := ⟨_, rfl⟩
 rw [hm] at em
 have h5 := h4
 simp only [okMs, List.all_eq_true, List.mem_range] at h5
 have h6 := h5 k hkm
 simp only [List.getD_eq_getElem?_getD, em, ef, et, Option.getD_some] at h6
 simp only [okM, Bool.and_eq_true, decide_eq_true_eq] at h6
 obtain ⟨⟨hM, hc⟩, hr⟩ := h6
 rw [dAt_of df] at hc
 rw [dAt_of dt] at hr
 obtain ⟨_, _, hl, hv⟩ := isMat_t.1 hM
 obtain ⟨YF, rfl⟩ := Int.eq_ofNat_of_zero_le bf.1
 obtain ⟨YT, rfl⟩ := Int.eq_ofNat_of_zero_le bt.1
 have hl' : m.a.length = YT * YF := by
  rw [hr, hc] at hl
  exact_mod_cast hl
 have hrange := (isVec_t.1 hv).2.2
 refine ⟨m, nf, nt, YF, YT, em, ef, et, df, dt, ?_, fun i j hi hj => ?_, by omega, by omega, l5, l6, lf, lt, l7, hkm⟩
 ·rw [mx_ext]
  exact ⟨hr, hc, flat_of hl'⟩
 ·refine hrange _ ?_
  have := ix_lt hi hj
  rw [entry, List.getD_eq_getElem?_getD, List.getElem?_eq_getElem (by omega)]
  exact List.getElem_mem _
def mx0 : Mx := ⟨0, 0, []⟩
theorem MxO.zero (w : World) (lo hi : Nat) : MxO w lo hi (.agg #[.int .i64 0, .int .i64 0, .slice none 0 0]) mx0 := ⟨_, rfl, ⟨OwnI.nil _ _, by simp [Value.ownBlock]⟩, by simp [mx0, I64], by simp [mx0, I64]⟩
theorem MxO.setBlk {w : World} {lo hi g i : Nat} {v : Value} {m : Mx} {t : TypeId} {cs : Array Value} (h : MxO w lo hi v m) (hb : Blk w g t cs) (ht : 3 ≠ t) (u : Value) : MxO (w.setCell ⟨g, i, none⟩ u) lo hi v m := by
 obtain ⟨s, e, h1, h2⟩ := h
 exact ⟨s, e, ⟨h1.1.setCell (p := ⟨g, i, none⟩) (fun e => h1.1.blkne hb ht e.symm) u, h1.2⟩, h2⟩
theorem tmod_fix {p x : Int} (hp : 2 ≤ p) : (if x.tmod p < 0 then x.tmod p + p else x.tmod p) = x % p ∧ -p < x.tmod p ∧ x.tmod p < p := by
 have h1 := Int.tmod_lt_of_pos x (show 0 < p by omega)
 have h2 : -p < x.tmod p := by
  have := Int.tmod_lt_of_pos (-x) (show 0 < p by omega)
  rw [Int.neg_tmod] at this
  omega
 refine ⟨?_, h2, h1⟩
 rw [Int.tmod_eq_emod]
 have h3 := Int.emod_nonneg x (show p ≠ 0 by omega)
 have h4 := Int.emod_lt_of_pos x (show 0 < p by omega)
 have h5 : p.natAbs = p := by omega
 split
 ·split <;> omega
 ·rename_i h
  split <;> omega
theorem tmod_twice {p x : Int} (hp : 2 ≤ p) : (x.tmod p + p) % p = x % p := by
 rw [Int.add_emod_right, Int.emod_def, Int.emod_def x p]
 have h := (tmod_fix (x := x) hp).1
 have h4 := Int.emod_lt_of_pos x (show 0 < p by omega)
 have h3 := Int.emod_nonneg x (show p ≠ 0 by omega)
 rw [← Int.emod_def, ← Int.emod_def]
 rw [← h]
 split
 ·rename_i hn
  rw [← Int.add_emod_right, Int.emod_eq_of_lt]
  ·have := (tmod_fix (x := x) hp).2.1; omega
  ·omega
 ·rename_i hn
  exact Int.emod_eq_of_lt (by omega) (tmod_fix (x := x) hp).2.2
def amF (p k : Int) (off n : Nat) (f y : Nat → Int) (i : Nat) : Int := if off ≤ i ∧ i < off + n then (f i + k * y (i - off)) % p else f i
theorem amF_0 (p k : Int) (off N : Nat) (f y : Nat → Int) : rowF N f = rowF N (amF p k off 0 f y) := rowF_congr fun i _ => by rw [amF, if_neg (by omega)]
theorem amF_succ {p k : Int} {off j N : Nat} (f y : Nat → Int) : (rowF N (amF p k off j f y)).set (off + j) ((f (off + j) + k * y j) % p) = rowF N (amF p k off (j + 1) f y) := by
 rw [rowF_set]
 refine rowF_congr fun i _ => ?_
 simp only [amF]
 by_cases h : i = off + j
 ·subst h
  rw [if_pos rfl, if_pos (by omega), show off + j - off = j by omega]
 ·rw [if_neg h]
  (repeat' split) <;> first | rfl | omega
theorem amF_rest {p k : Int} {off j : Nat} (f y : Nat → Int) : amF p k off j f y (off + j) = f (off + j) := by rw [amF, if_neg (by omega)]
set_option maxHeartbeats 1600000 in
theorem addMultiple_own (p k : Int) (g off n N cap ca : Nat) (lo hi : Nat) (f y : Nat → Int) (vb : Value) (w : World) (hp : 2 ≤ p ∧ p ≤ 5) (hk : 0 ≤ k ∧ k ≤ 5)
  (hown : IntsO w lo hi (.slice (some ⟨g, 0, none⟩) N cap) (rowF N f)) (hg : lo ≤ g ∧ g < hi) (hoff : off + n ≤ N) (hN : N ≤ 1000000) (hca : n ≤ ca ∧ ca ≤ 9223372036854775807)
  (hlo : lo ≤ w.heap.size) (hb : SlI w lo vb (rowF n y)) (hf : ∀ i, i < N → 0 ≤ f i ∧ f i ≤ 4) (hy : ∀ i, i < n → 0 ≤ y i ∧ y i ≤ 4) :
  Calls Tryz.prog 90 #[.int .i64 p, .slice (some ⟨g, off, none⟩) n ca, .int .i64 k, vb] w fun e w' => e = .returned (.slice (some ⟨g, off, none⟩) n ca) ∧ IntsO w' lo hi (.slice (some ⟨g, 0, none⟩) N cap) (rowF N (amF p k off n f y)) ∧ Chg lo hi w w' ∧ w.heap.size = w'.heap.size := by
 obtain ⟨A, c, rfl, _, _, hln, hx⟩ := hb.open_
 clear hb
 have HX := Lib.hid hx
 have HF := Lib.hid hf
 have HY := Lib.hid hy
 rw [rowF_length] at hln ⊢
 rw [amF_0 p k off N f y] at hown
 clear hx hf hy
 go_enter Tryz.func90, Tryz.ntmps90
 go_wp2
 go_loopw [13] (fun i wr => ∃ j : Nat, j ≤ n ∧ i = .int .i64 j ∧ IntsO wr lo hi (.slice (some ⟨g, 0, none⟩) N cap) (rowF N (amF p k off j f y)) ∧ Chg lo hi w wr ∧ Hid (w.heap.size = wr.heap.size)) (fun i _ => n - (intOf i).toNat)
 case atStart => exact ⟨0, Nat.zero_le _, rfl, hown, Chg.refl _ _ _, rfl⟩
 case round =>
  clear hown
  obtain ⟨j, hj, rfl, ho, hc, hsz⟩ := hrel
  by_cases hlt : j < n
  ·have hx := HX.out
   rw [← rowF_length n y] at hlt
   obtain ⟨b, o, x, rfl, hbl, HXX, x1, _⟩ := SlI.at_ hx hlt
   rw [rowF_length] at hlt
   have hxx := HXX.out
   rw [rowF_get _ hlt] at hxx
   injection hxx with hxx
   subst hxx
   have x2 := bcell (hc.below (Nat.le_refl _) hlo) hbl x1
   have cA := (ho.1.cellG (j := off + j) (by rw [rowF_length]; omega)).1
   rw [rowF_getD _ (by omega), amF_rest] at cA
   have fA := ho.1.frozenG (off + j)
   have hf1 := HF.out (off + j) (by omega)
   have hy1 := HY.out j hlt
   have hst := amF_succ (p := p) (k := k) (off := off) (j := j) (N := N) f y
   obtain ⟨a, ha⟩ : ∃ a, f (off + j) = a := ⟨_, rfl⟩
   obtain ⟨z, hz⟩ : ∃ z, y j = z := ⟨_, rfl⟩
   rw [ha] at cA hf1 hst
   rw [hz] at x2 hy1 hst
   have hkz0 : 0 ≤ k * z := Int.mul_nonneg hk.1 hy1.1
   have hkz1 : k * z ≤ 5 * 4 := Int.mul_le_mul hk.2 hy1.2 hy1.1 (by omega)
   obtain ⟨K, hK⟩ : ∃ K, k * z = K := ⟨_, rfl⟩
   rw [hK] at hkz0 hkz1 hst
   have hKw : wrap64 (k * z) = K := by rw [hK]; exact IntWalk.wrap64_in _ ⟨by omega, by omega⟩
   have hr0 := Int.emod_nonneg (a + K) (show p ≠ 0 by omega)
   have hr1 := Int.emod_lt_of_pos (a + K) (show 0 < p by omega)
   have hc1 : Chg lo hi wr (wr.setCell ⟨g, off + j, none⟩ (.int .i64 ((a + K) % p))) := chg_set hg.1 hg.2
   have ho2 := ho.put (j := off + j) (x := (a + K) % p) (by simp only [I64]; omega)
   rw [hst] at ho2
   have HO2 := Lib.hid ho2
   have HC2 := Lib.hid (hc.trans hc1)
   have HS2 : Hid (w.heap.size = (wr.setCell ⟨g, off + j, none⟩ (.int .i64 ((a + K) % p))).heap.size) := by show _ = _; rw [hsz.out]; simp
   have htm : (wrap64 (a + K)).tmod p = (a + K) % p := by
    rw [IntWalk.wrap64_in _ ⟨by omega, by omega⟩]
    exact Int.tmod_eq_emod_of_nonneg (by omega)
   have htm2 : (a + K).tmod p = (a + K) % p := Int.tmod_eq_emod_of_nonneg (by omega)
   clear hst ho2 hc1 ho hc hr0 hr1 hx HXX x1 ha hz hK hkz0 hkz1
   go_wp2
   go_roundw
   case rel => exact ⟨j + 1, by omega, by go_num, HO2.out, HC2.out, HS2⟩
   case measure => simp [intOf]; omega
  ·go_wp2
   go_ret
   obtain rfl : j = n := by omega
   exact ⟨rfl, ho, hc, hsz⟩
theorem reduceMod_any (p x : Int) (w : World) (hp : isFld p = true) (hx : I64 x) :
  Calls Tryz.prog 56 #[.int .i64 p, .int .i64 x] w fun e w' => e = .returned (.int .i64 (x % p)) ∧ w' = w := by
 have hp' := isFld_r hp
 obtain ⟨h1, h2, h3⟩ := tmod_fix (x := x) hp'.1
 have htm : (x.tmod p + p).tmod p = x % p := by rw [Int.tmod_eq_emod_of_nonneg (by omega)]; exact tmod_twice hp'.1
 have H1 := Lib.hid hp
 clear hp h1
 go_enter Tryz.func56, Tryz.ntmps56
 go_wp2_with fail
 refine (implIsField_any _ _).mono ?_; rintro e w1 ⟨rfl, rfl⟩
 rw [H1.out]
 go_wp2
 go_ret
 exact ⟨rfl, rfl⟩
theorem l2Mod_any (p x : Int) (w : World) (hp : 2 ≤ p ∧ p ≤ 5) (hx : I64 x) :
  Calls Tryz.prog 53 #[.int .i64 p, .int .i64 x] w fun e w' => e = .returned (.int .i64 (x % p)) ∧ w' = w := by
 obtain ⟨h1, h2, h3⟩ := tmod_fix (x := x) hp.1
 by_cases hn : x.tmod p < 0
 ·rw [if_pos hn] at h1
  have HE := Lib.hid h1
  clear h1
  go_enter Tryz.func53, Tryz.ntmps53
  go_wp2
  go_ret
  exact ⟨by rw [← HE.out]; rfl, rfl⟩
 ·rw [if_neg hn] at h1
  have HE := Lib.hid h1
  clear h1
  go_enter Tryz.func53, Tryz.ntmps53
  go_wp2
  go_ret
  exact ⟨by rw [← HE.out]; rfl, rfl⟩
theorem addMultiple_zero (p k : Int) (va : Value) (B : Option Addr) (c : Nat) (w : World) (hv : ∃ A n m, va = .slice A n m) (hc : c ≤ 9223372036854775807) :
  Calls Tryz.prog 90 #[.int .i64 p, va, .int .i64 k, .slice B 0 c] w fun e w' => e = .returned va ∧ w' = w := by
 obtain ⟨A, n, m, rfl⟩ := hv
 go_enter Tryz.func90, Tryz.ntmps90
 go_wp2
 refine wp_loop_rounds 1 ?_
 rw [rounds_succ]
 go_wp2
 go_ret
 exact ⟨rfl, rfl⟩
def plF (p k : Int) (f g : Nat → Nat → Int) (a b : Nat) : Int := (f a b + k * g a b) % p
theorem plF_flat (p k : Int) (r c : Nat) (f g : Nat → Nat → Int) : rowF (r * c) (amF p k 0 (r * c) (fun j => f (j / c) (j % c)) (fun j => g (j / c) (j % c))) = flat r c (plF p k f g) := by
 refine rowF_congr fun i hi => ?_
 rw [amF, if_pos (by omega)]
 rfl
set_option maxHeartbeats 3200000 in
theorem plus_any (p k : Int) (u v : Value) (r c : Nat) (f g : Nat → Nat → Int) (w0 : World) (hp : 2 ≤ p ∧ p ≤ 5) (hk : 0 ≤ k ∧ k ≤ 5) (hu : MxR w0 w0.heap.size u (mxF r c f)) (hv : MxR w0 w0.heap.size v (mxF r c g)) (hr : r ≤ 1000) (hc : c ≤ 1000)
  (hf : ∀ i j, i < r → j < c → 0 ≤ f i j ∧ f i j ≤ 4) (hg : ∀ i j, i < r → j < c → 0 ≤ g i j ∧ g i j ≤ 4) :
  Calls Tryz.prog 70 #[.int .i64 p, u, .int .i64 k, v] w0 fun e w' => ∃ v, e = .returned v ∧ MxO w' w0.heap.size w'.heap.size v (mxF r c (plF p k f g)) ∧ Below w0.heap.size w0 w' := by
 have hu' := hu
 obtain ⟨U, uc, rfl⟩ := hu.form
 obtain ⟨V, vc, rfl, hsv, j1, j2, _⟩ := hv.open_
 have z1 : (mxF r c f).r = (r : Int) := rfl
 have z2 : (mxF r c f).c = (c : Int) := rfl
 have z3 : (mxF r c g).r = (r : Int) := rfl
 have z4 : (mxF r c g).c = (c : Int) := rfl
 have z5 : (mxF r c f).a.length = r * c := flat_length _ _ _
 have z6 : (mxF r c g).a.length = r * c := flat_length _ _ _
 obtain ⟨N, hN⟩ : ∃ N, r * c = N := ⟨_, rfl⟩
 have hN6 : N ≤ 1000000 := by rw [← hN]; exact Nat.mul_le_mul hr hc
 rw [z5, z1, z2, hN] at hu' ⊢
 rw [z6, z3, z4, hN]
 rw [z6, hN] at hsv
 clear hu hv z1 z2 z3 z4 z5 z6
 obtain ⟨W, hW⟩ : ∃ W, W = ((w0.alloc (.cells #[.int .i64 r, .int .i64 c, .slice U N uc] 44)).alloc (.cells #[.int .i64 r, .int .i64 c, .slice V N vc] 44)).alloc (.cells #[.int .i64 0, .int .i64 0, .slice none 0 0] 44) := ⟨_, rfl⟩
 have g0 : Below w0.heap.size w0 W := by rw [hW]; exact (((Below.refl _ _).alloc (Nat.le_refl _) _).alloc (by simp) _).alloc (by simp; omega) _
 have k2 : Blk W (w0.heap.size + 1) 44 #[.int .i64 r, .int .i64 c, .slice V N vc] := by
  rw [hW]
  have := (Blk.new (w0.alloc (.cells #[.int .i64 r, .int .i64 c, .slice U N uc] 44)) 44 #[.int .i64 r, .int .i64 c, .slice V N vc]).alloc (.cells #[.int .i64 0, .int .i64 0, .slice none 0 0] 44)
  simpa only [World.size_alloc] using this
 have k3 : Blk W (w0.heap.size + 1 + 1) 44 #[.int .i64 0, .int .i64 0, .slice none 0 0] := by
  rw [hW]
  have := Blk.new ((w0.alloc (.cells #[.int .i64 r, .int .i64 c, .slice U N uc] 44)).alloc (.cells #[.int .i64 r, .int .i64 c, .slice V N vc] 44)) 44 #[.int .i64 0, .int .i64 0, .slice none 0 0]
  simpa only [World.size_alloc] using this
 have sz : W.heap.size = w0.heap.size + 1 + 1 + 1 := by rw [hW]; simp
 have HU := Lib.hid (MxR.next g0 hu')
 have HV := Lib.hid (SlI.next g0 hsv)
 have SZ := Lib.hid sz
 have HN := Lib.hid hN
 have G0 := Lib.hid g0
 have HFF := Lib.hid hf
 have HGG := Lib.hid hg
 clear sz hu' hsv hN g0 hf hg
 go_enter Tryz.func70, Tryz.ntmps70
 go_wp2_with fail
 rw [← hW]; clear hW
 refine (mxClone_any _ (mxF r c f) W HU.out).mono ?_; rintro e w1 ⟨v1, rfl, ⟨s1, rfl, hO, i1, i2⟩, hb1⟩
 obtain ⟨A1, c1, rfl⟩ := hO.form
 have z5 : (mxF r c f).a.length = N := by rw [← HN.out]; exact flat_length _ _ _
 have z1 : (mxF r c f).r = (r : Int) := rfl
 have z2 : (mxF r c f).c = (c : Int) := rfl
 rw [z5] at hO ⊢
 rw [z1, z2]
 rw [z1] at i1
 rw [z2] at i2
 clear z5 z1 z2
 obtain ⟨W4, hW4⟩ : ∃ W4, W4 = w1.alloc (.cells #[.int .i64 r, .int .i64 c, .slice A1 N c1] 44) := ⟨_, rfl⟩
 have b4 : Below w1.heap.size w1 W4 := by rw [hW4]; exact below_alloc _ _
 have k4 : Blk W4 w1.heap.size 44 #[.int .i64 r, .int .i64 c, .slice A1 N c1] := by rw [hW4]; exact Blk.new _ _ _
 have s1 := hb1.size
 have gW := bthen hb1 b4
 have k2' := (k2.call hb1).call b4
 have k3' := (k3.call hb1).call b4
 have hO4 := hO.below b4
 have l4 := k4.lt
 have HV4 := Lib.hid (SlI.below gW HV.out)
 have y2 := k2'.cell' (i := 2) rfl
 rw [hW4] at y2
 have HO4 := Lib.hid hO4
 clear hO hb1 b4 k2 k3 k2' hO4
 have hvc : vc ≤ 9223372036854775807 := by
  obtain ⟨VA, vca, ev, _, hvc, _⟩ := HV4.out
  injection ev with _ _ ev3
  omega
 rcases Nat.eq_zero_or_pos N with h0 | h0
 ·subst h0
  go_wp2_with fail
  rw [← hW4]
  rw [← hW4] at y2
  clear hW4
  refine (addMultiple_zero p k _ V vc _ ⟨_, _, _, rfl⟩ hvc).mono ?_; rintro e w5 ⟨rfl, rfl⟩
  have hE : (mxF r c f).a = flat r c (plF p k f g) := by
   have h1 : (mxF r c f).a.length = 0 := by rw [← HN.out]; exact flat_length _ _ _
   have h2 : (flat r c (plF p k f g)).length = 0 := by rw [← HN.out]; exact flat_length _ _ _
   rw [List.eq_nil_of_length_eq_zero h1, List.eq_nil_of_length_eq_zero h2]
  have oA := HO4.out
  rw [hE] at oA
  clear hE
  have z0 := k4.cell' (i := 0) rfl
  have z1 := k4.cell' (i := 1) rfl
  have z2 := k4.cell' (i := 2) rfl
  have p0 := k3'.cell' (i := 0) rfl
  have p1 := k3'.cell' (i := 1) rfl
  have p2 := k3'.cell' (i := 2) rfl
  have f2 := k3'.frozen
  have h2 := chg3 w5 (w0.heap.size + 1 + 1) (.int .i64 (r : Int)) (.int .i64 c) (.slice A1 0 c1)
  have gw : Below w0.heap.size w0 w5 := (G0.out).trans (gW.mono (G0.out).size)
  have gs := gw.size
  have oA2 := (oA.chg h2 (.inr (by have := SZ.out; omega))).wider (lo' := w0.heap.size) (hi' := w5.heap.size) (by have := SZ.out; omega) (by omega)
  have fg := gw.trans (h2.below (by omega) gs)
  have OA2 := Lib.hid oA2
  have FG := Lib.hid fg
  clear oA oA2 fg gw h2 k3' k4 gW
  go_wp2
  exact bodyPost_ret (v := .agg #[.int .i64 (r : Int), .int .i64 c, .slice A1 0 c1]) (by simp [results, go_sem, p0, p1, p2]) rfl ⟨_, rfl, ⟨_, rfl, (OA2.out).wider (Nat.le_refl _) (by simp), i1, i2⟩, FG.out⟩
 ·obtain ⟨gA, cA, eA, a1, a2, a3⟩ := (HO4.out).at_ (by rw [show (mxF r c f).a.length = N by rw [← HN.out]; exact flat_length _ _ _]; exact h0)
  rw [show (mxF r c f).a.length = N by rw [← HN.out]; exact flat_length _ _ _] at eA
  injection eA with eA1 eA2 eA3
  subst eA1 eA3
  obtain ⟨_, c2, e2, q1, q2⟩ := (HO4.out).1.form
  injection e2 with e21 e22 e23
  subst e23
  clear e21 e22
  have q1' : N ≤ c1 := by rw [show (mxF r c f).a.length = N by rw [← HN.out]; exact flat_length _ _ _] at q1; exact q1
  have hrow : rowF N (fun j => f (j / c) (j % c)) = (mxF r c f).a := by rw [← HN.out]; rfl
  have hrow2 : rowF N (fun j => g (j / c) (j % c)) = (mxF r c g).a := by rw [← HN.out]; rfl
  have hx : ∀ (h : Nat → Nat → Int), (∀ i j, i < r → j < c → 0 ≤ h i j ∧ h i j ≤ 4) → ∀ i, i < N → 0 ≤ h (i / c) (i % c) ∧ h (i / c) (i % c) ≤ 4 := fun h hh i hi => by
   rw [← HN.out] at hi
   obtain ⟨i1, j1, h1, h2, rfl⟩ := ix_of hi
   rw [ix_div h2, ix_mod h2]
   exact hh i1 j1 h1 h2
  have HX1 := Lib.hid (hx f HFF.out)
  have HX2 := Lib.hid (hx g HGG.out)
  have HR1 := Lib.hid hrow
  have HR2 := Lib.hid hrow2
  clear q1 hrow hrow2 hx
  go_wp2_with fail
  rw [← hW4]
  rw [← hW4] at y2
  clear hW4
  refine (addMultiple_own p k gA 0 N N c1 c1 W.heap.size w1.heap.size (fun j => f (j / c) (j % c)) (fun j => g (j / c) (j % c)) _ W4 hp hk (by rw [HR1.out]; exact HO4.out) ⟨a1, a2⟩ (by omega) hN6 ⟨q1', q2⟩ (by omega) (by rw [HR2.out]; exact HV4.out) HX1.out HX2.out).mono ?_; rintro e w5 ⟨rfl, hO5, hc5, hs5⟩
  have hE : rowF N (amF p k 0 N (fun j => f (j / c) (j % c)) (fun j => g (j / c) (j % c))) = flat r c (plF p k f g) := by rw [← HN.out]; exact plF_flat p k r c f g
  rw [hE] at hO5
  have oA := hO5
  replace k4 := k4.chg hc5 (.inr (Nat.le_refl _))
  replace k3' := k3'.chg hc5 (.inl (by have := SZ.out; omega))
  replace gW := gW.trans (hc5.below (Nat.le_refl _) (by omega))
  have l4' := k4.lt
  clear hE hO5 hc5 hs5 y2
  obtain ⟨A1, hA1⟩ : ∃ A1, A1 = some (⟨gA, 0, none⟩ : Addr) := ⟨_, rfl⟩
  rw [← hA1] at oA k4
  clear hA1
  have z0 := k4.cell' (i := 0) rfl
  have z1 := k4.cell' (i := 1) rfl
  have z2 := k4.cell' (i := 2) rfl
  have p0 := k3'.cell' (i := 0) rfl
  have p1 := k3'.cell' (i := 1) rfl
  have p2 := k3'.cell' (i := 2) rfl
  have f2 := k3'.frozen
  have h2 := chg3 w5 (w0.heap.size + 1 + 1) (.int .i64 (r : Int)) (.int .i64 c) (.slice A1 N c1)
  have gw : Below w0.heap.size w0 w5 := (G0.out).trans (gW.mono (G0.out).size)
  have gs := gw.size
  have oA2 := (oA.chg h2 (.inr (by have := SZ.out; omega))).wider (lo' := w0.heap.size) (hi' := w5.heap.size) (by have := SZ.out; omega) (by omega)
  have fg := gw.trans (h2.below (by omega) gs)
  have OA2 := Lib.hid oA2
  have FG := Lib.hid fg
  clear oA oA2 fg gw h2 k3' k4 gW
  go_wp2
  exact bodyPost_ret (v := .agg #[.int .i64 (r : Int), .int .i64 c, .slice A1 N c1]) (by simp [results, go_sem, p0, p1, p2]) rfl ⟨_, rfl, ⟨_, rfl, (OA2.out).wider (Nat.le_refl _) (by simp), i1, i2⟩, FG.out⟩
def nzGo (f : Nat → Nat → Int) (k : Nat) : Nat → Nat → Nat
 | a, 0 => a
 | a, m + 1 => if f a k = 0 then nzGo f k (a + 1) m else a
def nzF (f : Nat → Nat → Int) (k n r : Nat) : Nat := nzGo f k n (r - n)
theorem nzGo_le (f : Nat → Nat → Int) (k : Nat) : ∀ m a, a ≤ nzGo f k a m ∧ nzGo f k a m ≤ a + m
 | 0, a => by simp [nzGo]
 | m + 1, a => by
  have h := nzGo_le f k m (a + 1)
  simp only [nzGo]
  split <;> omega
theorem nzF_le {f : Nat → Nat → Int} {k n r : Nat} (h : n ≤ r) : n ≤ nzF f k n r ∧ nzF f k n r ≤ r := by
 have := nzGo_le f k (r - n) n
 unfold nzF; omega
theorem nzGo_eq {f : Nat → Nat → Int} {k : Nat} : ∀ {m a b}, a ≤ b → b ≤ a + m → (∀ i, a ≤ i → i < b → f i k = 0) → (b < a + m → f b k ≠ 0) → nzGo f k a m = b
 | 0, a, b, h1, h2, _, _ => by simp only [nzGo]; omega
 | m + 1, a, b, h1, h2, h3, h4 => by
  simp only [nzGo]
  by_cases e : a = b
  ·subst e
   rw [if_neg (h4 (by omega))]
  ·rw [if_pos (h3 a (Nat.le_refl _) (by omega))]
   exact nzGo_eq (by omega) (by omega) (fun i hi hb => h3 i (by omega) hb) (fun h => h4 (by omega))
theorem nzF_eq {f : Nat → Nat → Int} {k n r b : Nat} (h1 : n ≤ b) (h2 : b ≤ r) (h3 : ∀ i, n ≤ i → i < b → f i k = 0) (h4 : b < r → f b k ≠ 0) : nzF f k n r = b :=
 nzGo_eq h1 (by omega) h3 (fun h => h4 (by omega))
theorem nzGo_ne {f : Nat → Nat → Int} {k : Nat} : ∀ {m a}, nzGo f k a m < a + m → f (nzGo f k a m) k ≠ 0
 | 0, a, h => by simp only [nzGo] at h; omega
 | m + 1, a, h => by
  simp only [nzGo] at h ⊢
  split
  ·rename_i h0
   rw [if_pos h0] at h
   exact nzGo_ne (by omega)
  ·rename_i h0; exact h0
theorem nzF_ne {f : Nat → Nat → Int} {k n r : Nat} (hn : n ≤ r) (h : nzF f k n r < r) : f (nzF f k n r) k ≠ 0 := nzGo_ne (by unfold nzF at h; omega)
def invP (p x : Int) : Int := if p = 5 then (x % p * (x % p) % p) * (x % p) % p else x % p
def swJ (n t j : Nat) (f : Nat → Nat → Int) (a b : Nat) : Int := if b < j then (if a = n then f t b else if a = t then f n b else f a b) else f a b
def swA (n t : Nat) (f : Nat → Nat → Int) (a b : Nat) : Int := if a = n then f t b else if a = t then f n b else f a b
def scJ (p : Int) (n : Nat) (s : Int) (j : Nat) (f : Nat → Nat → Int) (a b : Nat) : Int := if a = n ∧ b < j then f a b * s % p else f a b
def scA (p : Int) (n : Nat) (s : Int) (f : Nat → Nat → Int) (a b : Nat) : Int := if a = n then f a b * s % p else f a b
def elI (p : Int) (n k i : Nat) (f : Nat → Nat → Int) (a b : Nat) : Int := if a < i ∧ a ≠ n then (f a b + (p - f a k) * f n b) % p else f a b
def elA (p : Int) (n k : Nat) (f : Nat → Nat → Int) (a b : Nat) : Int := if a ≠ n then (f a b + (p - f a k) * f n b) % p else f a b
def rdF (p : Int) (r : Nat) (f : Nat → Nat → Int) (n k : Nat) : Nat → Nat → Int :=
 elA p n k (scA p n (invP p (swA n (nzF f k n r) f n k)) (swA n (nzF f k n r) f))
def rdTo (p : Int) (r : Nat) (f : Nat → Nat → Int) : Nat → (Nat → Nat → Int) × List Int
 | 0 => (f, [])
 | k + 1 => if nzF (rdTo p r f k).1 k (rdTo p r f k).2.length r < r then (rdF p r (rdTo p r f k).1 (rdTo p r f k).2.length k, (rdTo p r f k).2 ++ [(k : Int)]) else rdTo p r f k
theorem rdTo_succ (p : Int) (r : Nat) (f : Nat → Nat → Int) (k : Nat) : rdTo p r f (k + 1) =
  if nzF (rdTo p r f k).1 k (rdTo p r f k).2.length r < r then (rdF p r (rdTo p r f k).1 (rdTo p r f k).2.length k, (rdTo p r f k).2 ++ [(k : Int)]) else ((rdTo p r f k).1, (rdTo p r f k).2) := rfl
theorem rdTo_len (p : Int) (r : Nat) (f : Nat → Nat → Int) : ∀ k, (rdTo p r f k).2.length ≤ r ∧ (rdTo p r f k).2.length ≤ k
 | 0 => by simp [rdTo]
 | k + 1 => by
  have h := rdTo_len p r f k
  simp only [rdTo]
  split
  ·rename_i h1
   have := (nzF_le (f := (rdTo p r f k).1) (k := k) h.1).1
   simp
   omega
  ·omega
theorem rdTo_mem (p : Int) (r : Nat) (f : Nat → Nat → Int) : ∀ k, ∀ x ∈ (rdTo p r f k).2, 0 ≤ x ∧ x < k
 | 0, x, h => by simp [rdTo] at h
 | k + 1, x, h => by
  have ih := rdTo_mem p r f k
  simp only [rdTo] at h
  split at h
  ·simp only [List.mem_append, List.mem_singleton] at h
   rcases h with h | rfl
   ·have := ih x h; omega
   ·omega
  ·have := ih x h; omega
def InF (p : Int) (r c : Nat) (f : Nat → Nat → Int) : Prop := ∀ a b, a < r → b < c → 0 ≤ f a b ∧ f a b ≤ p - 1
theorem inF_sw {p : Int} {r c n t : Nat} {f : Nat → Nat → Int} (h : InF p r c f) (hn : n < r) (ht : t < r) : InF p r c (swA n t f) := fun a b ha hb => by
 unfold swA
 split
 ·exact h _ _ ht hb
 ·split
  ·exact h _ _ hn hb
  ·exact h _ _ ha hb
theorem emod_rng {p x : Int} (hp : 2 ≤ p) : 0 ≤ x % p ∧ x % p ≤ p - 1 := by
 have h1 := Int.emod_nonneg x (show p ≠ 0 by omega)
 have h2 := Int.emod_lt_of_pos x (show 0 < p by omega)
 omega
theorem inF_sc {p s : Int} {r c n : Nat} {f : Nat → Nat → Int} (hp : 2 ≤ p) (h : InF p r c f) : InF p r c (scA p n s f) := fun a b ha hb => by
 unfold scA
 split
 ·exact emod_rng hp
 ·exact h _ _ ha hb
theorem inF_el {p : Int} {r c n k : Nat} {f : Nat → Nat → Int} (hp : 2 ≤ p) (h : InF p r c f) : InF p r c (elA p n k f) := fun a b ha hb => by
 unfold elA
 split
 ·exact emod_rng hp
 ·exact h _ _ ha hb
theorem inF_rd {p : Int} {r c n k : Nat} {f : Nat → Nat → Int} (hp : 2 ≤ p) (h : InF p r c f) (hn : n < r) (ht : nzF f k n r < r) : InF p r c (rdF p r f n k) := inF_el hp (inF_sc hp (inF_sw h hn ht))
theorem inF_to {p : Int} {r c : Nat} {f : Nat → Nat → Int} (hp : 2 ≤ p) (h : InF p r c f) : ∀ k, InF p r c (rdTo p r f k).1
 | 0 => h
 | k + 1 => by
  have ih := inF_to hp h k
  simp only [rdTo]
  split
  ·rename_i h1
   have hl := (rdTo_len p r f k).1
   exact inF_rd hp ih (by have := (nzF_le (f := (rdTo p r f k).1) (k := k) hl).1; omega) h1
  ·exact ih
theorem rdTo_full {p : Int} {r : Nat} {f : Nat → Nat → Int} {k : Nat} (h : (rdTo p r f k).2.length = r) : rdTo p r f (k + 1) = rdTo p r f k := by
 simp only [rdTo]
 rw [if_neg]
 rw [h]
 have := (nzF_le (f := (rdTo p r f k).1) (k := k) (Nat.le_refl r)).1
 omega
theorem rdTo_rest {p : Int} {r : Nat} {f : Nat → Nat → Int} {k : Nat} (h : (rdTo p r f k).2.length = r) : ∀ m, rdTo p r f (k + m) = rdTo p r f k
 | 0 => rfl
 | m + 1 => by
  have ih := rdTo_rest h m
  rw [show k + (m + 1) = (k + m) + 1 by omega, rdTo_full (by rw [ih]; exact h), ih]
theorem sw_0 (n t : Nat) (f : Nat → Nat → Int) : swJ n t 0 f = f := by funext a b; simp [swJ]
theorem sw_end (n t r c : Nat) (f : Nat → Nat → Int) : flat r c (swJ n t c f) = flat r c (swA n t f) := flat_congr fun a b _ hb => by rw [swJ, if_pos hb]; rfl
theorem sw_step {n t r c j : Nat} (f : Nat → Nat → Int) (hn : n < r) (ht : t < r) (hj : j < c) :
  ((flat r c (swJ n t j f)).set (n * c + j) (f t j)).set (t * c + j) (f n j) = flat r c (swJ n t (j + 1) f) := by
 rw [flat_set _ _ hn hj, flat_set _ _ ht hj]
 refine flat_congr fun a b _ _ => ?_
 simp only [swJ]
 by_cases e1 : a = t ∧ b = j
 ·obtain ⟨rfl, rfl⟩ := e1
  rw [if_pos ⟨rfl, rfl⟩, if_pos (by omega)]
  by_cases e2 : a = n
  ·subst e2; rw [if_pos rfl]
  ·rw [if_neg e2, if_pos rfl]
 ·rw [if_neg e1]
  by_cases e2 : a = n ∧ b = j
  ·obtain ⟨rfl, rfl⟩ := e2
   rw [if_pos ⟨rfl, rfl⟩, if_pos (by omega), if_pos rfl]
  ·rw [if_neg e2]
   by_cases e3 : b < j
   ·rw [if_pos e3, if_pos (show b < j + 1 by omega)]
   ·rw [if_neg e3]
    by_cases e4 : b < j + 1
    ·rw [if_pos e4, if_neg (by omega), if_neg (by omega)]
    ·rw [if_neg e4]
theorem sw_rest {n t j a : Nat} (f : Nat → Nat → Int) : swJ n t j f a j = f a j := by rw [swJ, if_neg (by omega)]
theorem sc_0 (p : Int) (n : Nat) (s : Int) (f : Nat → Nat → Int) : scJ p n s 0 f = f := by funext a b; simp [scJ]
theorem sc_end (p : Int) (n r c : Nat) (s : Int) (f : Nat → Nat → Int) : flat r c (scJ p n s c f) = flat r c (scA p n s f) := flat_congr fun a b _ hb => by simp only [scJ, scA, hb, and_true]
theorem sc_step {p s : Int} {n r c j : Nat} (f : Nat → Nat → Int) (hn : n < r) (hj : j < c) :
  (flat r c (scJ p n s j f)).set (n * c + j) (f n j * s % p) = flat r c (scJ p n s (j + 1) f) := by
 rw [flat_set _ _ hn hj]
 refine flat_congr fun a b _ _ => ?_
 simp only [scJ]
 by_cases e1 : a = n ∧ b = j
 ·obtain ⟨rfl, rfl⟩ := e1
  rw [if_pos ⟨rfl, rfl⟩, if_pos (by omega)]
 ·rw [if_neg e1]
  by_cases e2 : a = n ∧ b < j
  ·rw [if_pos e2, if_pos (by omega)]
  ·rw [if_neg e2, if_neg (by omega)]
theorem sc_rest {p s : Int} {n j a : Nat} (f : Nat → Nat → Int) : scJ p n s j f a j = f a j := by rw [scJ, if_neg (by omega)]
theorem el_0 (p : Int) (n k : Nat) (f : Nat → Nat → Int) : elI p n k 0 f = f := by funext a b; simp [elI]
theorem el_end (p : Int) (n k r c : Nat) (f : Nat → Nat → Int) : flat r c (elI p n k r f) = flat r c (elA p n k f) := flat_congr fun a b ha _ => by simp only [elI, elA, ha, true_and]
theorem el_skip (p : Int) (n k : Nat) (f : Nat → Nat → Int) : elI p n k n f = elI p n k (n + 1) f := by
 funext a b
 simp only [elI]
 by_cases e : a < n ∧ a ≠ n
 ·rw [if_pos e, if_pos (by omega)]
 ·rw [if_neg e, if_neg (by omega)]
theorem el_rest {p : Int} {n k i b : Nat} (f : Nat → Nat → Int) : elI p n k i f i b = f i b := by rw [elI, if_neg (by omega)]
theorem el_n {p : Int} {n k i b : Nat} (f : Nat → Nat → Int) : elI p n k i f n b = f n b := by rw [elI, if_neg (by omega)]
def elJ (p : Int) (n k i j : Nat) (f : Nat → Nat → Int) (a b : Nat) : Int := if a = i ∧ b < j then (f a b + (p - f a k) * f n b) % p else elI p n k i f a b
theorem elJ_0 (p : Int) (n k i : Nat) (f : Nat → Nat → Int) : elJ p n k i 0 f = elI p n k i f := by funext a b; simp [elJ]
theorem elJ_end {p : Int} {n k i r c : Nat} (f : Nat → Nat → Int) (hi : i ≠ n) : flat r c (elJ p n k i c f) = flat r c (elI p n k (i + 1) f) := flat_congr fun a b _ hb => by
 simp only [elJ, elI]
 by_cases e : a = i
 ·subst e
  rw [if_pos ⟨rfl, hb⟩, if_pos (by omega)]
 ·rw [if_neg (by omega)]
  by_cases e2 : a < i ∧ a ≠ n
  ·rw [if_pos e2, if_pos (by omega)]
  ·rw [if_neg e2, if_neg (by omega)]
theorem elJ_step {p : Int} {n k i j r c : Nat} (f : Nat → Nat → Int) (hi : i < r) (hj : j < c) :
  (flat r c (elJ p n k i j f)).set (i * c + j) ((f i j + (p - f i k) * f n j) % p) = flat r c (elJ p n k i (j + 1) f) := by
 rw [flat_set _ _ hi hj]
 refine flat_congr fun a b _ _ => ?_
 simp only [elJ]
 by_cases e1 : a = i ∧ b = j
 ·obtain ⟨rfl, rfl⟩ := e1
  rw [if_pos ⟨rfl, rfl⟩, if_pos (by omega)]
 ·rw [if_neg e1]
  by_cases e2 : a = i ∧ b < j
  ·rw [if_pos e2, if_pos (by omega)]
  ·rw [if_neg e2, if_neg (by omega)]
theorem elJ_rest {p : Int} {n k i j : Nat} (f : Nat → Nat → Int) : elJ p n k i j f i j = f i j := by rw [elJ, if_neg (by omega), el_rest]
theorem elJ_n {p : Int} {n k i j b : Nat} (f : Nat → Nat → Int) (hi : i ≠ n) : elJ p n k i j f n b = f n b := by rw [elJ, if_neg (by omega), el_n]
theorem el_sub {p a x y : Int} : (a - x * y) % p = (a + (p - x) * y) % p := by
 rw [show a + (p - x) * y = (a - x * y) + p * y by rw [Int.sub_mul]; omega]
 rw [Int.add_mul_emod_self_left]
def sgF (h : Nat → Int) : Nat → Int
 | 0 => 0
 | n + 1 => sgF h n + h n
def muP (p : Int) (k : Nat) (f g : Nat → Nat → Int) (a b : Nat) : Int := sgF (fun t => f a t * g t b) k % p
def muS (p : Int) (c i k : Nat) (f g : Nat → Nat → Int) (a b : Nat) : Int := if a < i then muP p c f g a b else if a = i then muP p k f g a b else 0
theorem muP_0 (p : Int) (f g : Nat → Nat → Int) (a b : Nat) : muP p 0 f g a b = 0 := by simp [muP, sgF]
theorem muS_0 (p : Int) (c r d : Nat) (f g : Nat → Nat → Int) : flat r d (fun _ _ => 0) = flat r d (muS p c 0 0 f g) := flat_congr fun a b _ _ => by
 simp only [muS, muP_0]
 rw [if_neg (by omega)]
 split <;> rfl
theorem muS_next (p : Int) (c i : Nat) (f g : Nat → Nat → Int) : muS p c i c f g = muS p c (i + 1) 0 f g := by
 funext a b
 simp only [muS, muP_0]
 by_cases h1 : a < i
 ·rw [if_pos h1, if_pos (by omega)]
 ·rw [if_neg h1]
  by_cases h2 : a = i
  ·rw [if_pos h2, if_pos (by omega)]
  ·rw [if_neg h2, if_neg (by omega)]
   split <;> rfl
theorem muS_end (p : Int) (c r d : Nat) (f g : Nat → Nat → Int) : flat r d (muS p c r 0 f g) = flat r d (muP p c f g) := flat_congr fun a b ha _ => by
 simp only [muS]
 rw [if_pos ha]
theorem muP_succ {p : Int} (k : Nat) (f g : Nat → Nat → Int) (a b : Nat) : (muP p k f g a b + f a k * g k b) % p = muP p (k + 1) f g a b := by
 simp only [muP, sgF]
 rw [Int.emod_add_emod]
theorem muP_rng {p : Int} (hp : 2 ≤ p) (k : Nat) (f g : Nat → Nat → Int) (a b : Nat) : 0 ≤ muP p k f g a b ∧ muP p k f g a b ≤ p - 1 := emod_rng hp
theorem muS_rng {p : Int} (hp : 2 ≤ p) (c i k : Nat) (f g : Nat → Nat → Int) (a b : Nat) : 0 ≤ muS p c i k f g a b ∧ muS p c i k f g a b ≤ p - 1 := by
 unfold muS
 split
 ·exact muP_rng hp _ _ _ _ _
 ·split
  ·exact muP_rng hp _ _ _ _ _
  ·omega
theorem mu_step {p : Int} {c i k r d : Nat} (f g : Nat → Nat → Int) :
  rowF (r * d) (amF p (f i k) (i * d) d (fun j => muS p c i k f g (j / d) (j % d)) (g k)) = flat r d (muS p c i (k + 1) f g) := by
 refine rowF_congr fun x hx => ?_
 obtain ⟨a, b, ha, hb, rfl⟩ := ix_of hx
 simp only [amF, ix_div hb, ix_mod hb]
 by_cases e : a = i
 ·subst e
  rw [if_pos (by omega), show a * d + b - a * d = b by omega]
  simp only [muS]
  rw [if_neg (by omega), if_pos trivial, if_neg (by omega), if_pos trivial]
  exact muP_succ k f g a b
 ·have h1 : ¬ (i * d ≤ a * d + b ∧ a * d + b < i * d + d) := by
   rintro ⟨h1, h2⟩
   rcases Nat.lt_or_gt_of_ne e with h | h
   ·have : (a + 1) * d ≤ i * d := Nat.mul_le_mul_right _ h
    rw [Nat.add_mul, Nat.one_mul] at this
    omega
   ·have : (i + 1) * d ≤ a * d := Nat.mul_le_mul_right _ h
    rw [Nat.add_mul, Nat.one_mul] at this
    omega
  rw [if_neg h1]
  simp only [muS]
  by_cases e2 : a < i
  ·rw [if_pos e2, if_pos e2]
  ·rw [if_neg e2, if_neg e2, if_neg e, if_neg e]
theorem SlI.up {w : World} {B B' : Nat} {v : Value} {xs : List Int} (hB : B ≤ B') (h : SlI w B v xs) : SlI w B' v xs := by
 obtain ⟨A, c, e, h1, h2, h3, h4⟩ := h
 exact ⟨A, c, e, h1, h2, h3, fun hl => by obtain ⟨b, o, e2, hb, hx⟩ := h4 hl; exact ⟨b, o, e2, Nat.lt_of_lt_of_le hb hB, hx⟩⟩
theorem row_rd (u : Value) (r c i B : Nat) (f : Nat → Nat → Int) (w : World) (hu : MxR w B u (mxF r c f)) (hB : B ≤ w.heap.size) (hr : r ≤ 1000) (hc : c ≤ 1000) (hi : i < r) :
  Calls Tryz.prog 33 #[u, .int .i64 i] w fun e w' => ∃ v, e = .returned v ∧ SlI w' B v (rowF c (f i)) ∧ Below w.heap.size w w' := by
 have hi1 : i ≤ 1000 := by omega
 obtain ⟨A, cap, rfl, hs, _, _, hl⟩ := hu.open_
 simp only [mxF] at hs hl ⊢
 rcases Nat.eq_zero_or_pos c with rfl | h0
 ·obtain ⟨_, _, e, h1, h2, _⟩ := hs
  injection e with e1 e2 e3
  subst e1 e3
  have e : (flat r 0 f).length = 0 := by rw [flat_length]; rfl
  rw [e]
  refine (row_zero r i cap A w h2 hi1).mono fun e w' ⟨A', h3, h4⟩ => ⟨_, h3, ?_, h4⟩
  exact ⟨A', cap, by simp [rowF], by simp [rowF], h2, by simp [rowF], fun h => by simp [rowF] at h⟩
 ·obtain ⟨P, J, hP, _, _, _, _⟩ := ix_walk hi h0 hr hc
  obtain ⟨hPi, hP2, hPL, _⟩ := ix_next hi hr hc hP
  have hlt := ix_lt hi h0
  have hs' := hs
  obtain ⟨_, _, e, h1, h2, h3, h4⟩ := hs
  injection e with e1 e2 e3
  subst e1 e3
  obtain ⟨b, o, rfl, hb, hx⟩ := h4 (by rw [flat_length]; exact Nat.lt_of_le_of_lt (Nat.zero_le _) hlt)
  refine (row_atO r c i P _ cap b o w hP hP2 (by rw [flat_length]; exact hPL) h1 h2 h0 hi1).mono fun e w' ⟨h5, h6⟩ => ⟨_, h5, ?_, h6⟩
  have := SlI.part (P := P) (l' := rowF c (f i)) (SlI.below (h6.mono hB) hs') rfl (by rw [rowF_length, flat_length]; exact hPL) (fun j x hj => ?_) rfl
  ·rwa [rowF_length] at this
  ·have hjc := lt_of_some hj
   rw [rowF_length] at hjc
   rw [rowF_get _ hjc] at hj
   rw [hPi, flat_get f hi hjc]
   exact hj
end Go.Proofs.YthhjoamgcfiecaaGreat
namespace Go.Proofs
open Go.Shelf
end Go.Proofs
namespace Go.Proofs.YthhjoamgcfiecaaGreat
open Go.RowKit
end Go.Proofs.YthhjoamgcfiecaaGreat
