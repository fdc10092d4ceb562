/- The reference's transposed matrix. -/
import Derived.Test.YtbgjhnolnccnnaaFromC
import Derived.Test.YtbgjhnolnccnnaaNet2
namespace Go.Proofs.Ytbgjhnolnccnnaa
set_option linter.unusedVariables false
set_option linter.unusedSimpArgs false
open Go.RowKit

/-- cells of the transposed matrix, filled row by row of the given one -/
def trK (f : Nat → Nat → Int) (i k a b : Nat) : Int := if b < i ∨ (b = i ∧ a < k) then f b a else 0
theorem trK_0 (r c : Nat) (f : Nat → Nat → Int) : flat c r (fun _ _ => 0) = flat c r (trK f 0 0) := flat_congr fun a b _ _ => by simp [trK]
theorem trK_put {r c i k : Nat} (f : Nat → Nat → Int) (hi : i < r) (hk : k < c) : (flat c r (trK f i k)).set (k * r + i) (f i k) = flat c r (trK f i (k + 1)) := by
  rw [flat_set _ _ hk hi]
  refine flat_congr fun a b _ _ => ?_
  simp only [trK]
  (repeat' split) <;> first | rfl | omega | (rename_i h _; rw [h.1, h.2])
theorem trK_next (r c i : Nat) (f : Nat → Nat → Int) : flat c r (trK f i c) = flat c r (trK f (i + 1) 0) := by
  refine flat_congr fun a b ha _ => ?_
  simp only [trK]
  (repeat' split) <;> first | rfl | omega
theorem trK_r (r c : Nat) (f : Nat → Nat → Int) : flat c r (trK f r 0) = flat c r (fun a b => f b a) := flat_congr fun a b _ hb => by simp [trK, hb]

set_option maxHeartbeats 3200000 in
theorem l3Transpose_any (u : Value) (r c : Nat) (f : Nat → Nat → Int) (w0 : World) (hu : MxR w0 w0.heap.size u (mxF r c f)) (hr : r ≤ 1000) (hc : c ≤ 1000) :
    Calls Try.prog 95 #[u] w0 fun e w' => ∃ v, e = .returned v ∧ MxO w' w0.heap.size w'.heap.size v (mxF c r (fun a b => f b a)) ∧ Below w0.heap.size w0 w' := by
  obtain ⟨U, uc, rfl, hs, i1, i2, hl⟩ := hu.open_
  clear hu
  simp only [mxF] at hs hl i1 i2 ⊢
  have HS := Lib.hid hs
  obtain ⟨L, hL⟩ : ∃ L, (flat r c f).length = L := ⟨_, rfl⟩
  have HL := Lib.hid hL
  rw [hL] at hl ⊢
  obtain ⟨W, hW⟩ : ∃ W, W = (w0.alloc (.cells #[.int .i64 r, .int .i64 c, .slice U L uc] 60)).alloc (.cells #[.int .i64 0, .int .i64 0, .slice none 0 0] 60) := ⟨_, rfl⟩
  have g0 : Below w0.heap.size w0 W := by rw [hW]; exact ((Below.refl _ _).alloc (Nat.le_refl _) _).alloc (by simp) _
  have k1 : Blk W w0.heap.size 60 #[.int .i64 r, .int .i64 c, .slice U L uc] := by rw [hW]; exact (Blk.new _ _ _).alloc _
  have k2 : Blk W (w0.heap.size + 1) 60 #[.int .i64 0, .int .i64 0, .slice none 0 0] := by
    rw [hW]
    have := Blk.new (w0.alloc (.cells #[.int .i64 r, .int .i64 c, .slice U L uc] 60)) 60 #[.int .i64 0, .int .i64 0, .slice none 0 0]
    simpa only [World.size_alloc] using this
  have sz : W.heap.size = w0.heap.size + 1 + 1 := by rw [hW]; simp
  have K1 := Lib.hid k1
  have K2 := Lib.hid k2
  have SZ := Lib.hid sz
  have q0 := k1.cell' (i := 0) rfl
  have q1 := k1.cell' (i := 1) rfl
  clear k1 k2 sz hs hL
  go_enter Try.func95, Try.ntmps95
  go_wp2_with fail
  rw [← hW]; clear hW
  refine (l3Zero_any (c : Int) r W (by omega) (by omega) (by omega) (by omega)).mono ?_; rintro e w1 ⟨v1, rfl, ⟨sA, rfl, oA, hr2, hc2⟩, hb1⟩
  rw [zmx_flat] at oA hr2 hc2 ⊢
  simp only [mxF] at oA hr2 hc2 ⊢
  rw [trK_0 r c f] at oA
  obtain ⟨A1, c1, e1⟩ := oA.form
  obtain ⟨N, hN⟩ : ∃ N, c * r = N := ⟨_, rfl⟩
  rw [flat_length, hN] at e1
  subst e1
  have HN := Lib.hid hN
  clear hN q0 q1
  have s1 := hb1.size
  obtain ⟨W4, hW4⟩ : ∃ W4, W4 = w1.alloc (.cells #[.int .i64 c, .int .i64 r, .slice A1 N c1] 60) := ⟨_, rfl⟩
  have b4 : Below w1.heap.size w1 W4 := by rw [hW4]; exact below_alloc _ _
  have k4 : Blk W4 w1.heap.size 60 #[.int .i64 c, .int .i64 r, .slice A1 N c1] := by rw [hW4]; exact Blk.new _ _ _
  have oA := oA.below b4
  have gW := bthen hb1 b4
  clear b4 hb1
  go_wp2
  rw [← hW4]; clear hW4
  go_loopw [4] (fun i wr => ∃ j : Nat, j ≤ r ∧ i = .int .i64 j ∧ Blk wr w1.heap.size 60 #[.int .i64 c, .int .i64 r, .slice A1 N c1] ∧ IntsO wr W.heap.size w1.heap.size (.slice A1 N c1) (flat c r (trK f j 0)) ∧ Below W.heap.size W wr) (fun i _ => r - (intOf i).toNat)
  case atStart => exact ⟨0, Nat.zero_le _, rfl, k4, oA, gW⟩
  case round =>
    clear k4 oA gW
    obtain ⟨j, hj, rfl, k4, oA, gW⟩ := hrel
    have s6 := gW.size
    have k1 := (K1.out).below gW (by have := SZ.out; omega)
    have q0 := k1.cell' (i := 0) rfl
    by_cases hlt : j < r
    · go_wp2
      clear k1 q0
      go_loopw [5] (fun i wr => ∃ k : Nat, k ≤ c ∧ i = .int .i64 k ∧ Blk wr w1.heap.size 60 #[.int .i64 c, .int .i64 r, .slice A1 N c1] ∧ IntsO wr W.heap.size w1.heap.size (.slice A1 N c1) (flat c r (trK f j k)) ∧ Below W.heap.size W wr) (fun i _ => c - (intOf i).toNat)
      case atStart => exact ⟨0, Nat.zero_le _, rfl, k4, oA, gW⟩
      case round =>
        clear k4 oA gW s6
        obtain ⟨k, hk, rfl, k4, oA, gW⟩ := hrel
        have s6 := gW.size
        have k1 := (K1.out).below gW (by have := SZ.out; omega)
        have q1 := k1.cell' (i := 1) rfl
        by_cases hlk : k < c
        · obtain ⟨P, J, hP, hPJ, hJ, hJN, hJb⟩ := ix_walk hlk hlt hc hr
          rw [HN.out] at hJN
          have hst := trK_put f hlt hlk
          rw [← hJ] at hst
          subst hPJ
          obtain ⟨P2, J2, hP2, hPJ2, hJ2, hJN2, hJb2⟩ := ix_walk hlt hlk hr hc
          have hs := HS.out
          obtain ⟨b, o, x, rfl, hb, HX, x1, xr⟩ := SlI.at_ (k := P2 + k) hs (by rw [flat_length]; omega)
          have hx := HX.out
          rw [hPJ2, hJ2, flat_get f hlt hlk] at hx
          injection hx with hx
          subst hx
          have hJL : P2 + k < L := by rw [← HL.out, flat_length]; omega
          have gww : Below w0.heap.size w0 wr := g0.trans (gW.mono g0.size)
          have gwws := gww.size
          have x2 := bcell gww hb x1
          obtain ⟨gA, cA, eA, a1, a2, a3⟩ := oA.at_ (by rw [flat_length, HN.out]; omega)
          rw [flat_length, HN.out] at eA
          injection eA with eA1 eA2 eA3
          subst eA1 eA3
          have hP' := Lib.hid hP
          have hP2' := Lib.hid hP2
          clear hs HX x1 hJ hJ2 hPJ2 hJN2
          go_wp2
          refine wp_region_net (by kernel_rfl) [.eq (.pointer (some ⟨w1.heap.size, 2, none⟩)), .eq (.slice (some ⟨gA, 0, none⟩) N c1), .eq (.int .i64 k), .eq (.pointer (some ⟨w0.heap.size, 0, none⟩)), .eq (.int .i64 r), .eq (.int .i64 P), .eq (.int .i64 j), .eq (.int .i64 ((P : Int) + j)), .eq (.pointer (some ⟨w0.heap.size, 2, none⟩)), .eq (.slice (some ⟨b, o, none⟩) L uc), .eq (.int .i64 j), .eq (.pointer (some ⟨w0.heap.size, 1, none⟩)), .eq (.int .i64 c), .eq (.int .i64 P2), .eq (.int .i64 k), .eq (.int .i64 ((P2 : Int) + k)), .eq (.pointer (some ⟨b, o + (P2 + k), none⟩)), .eq (.int .i64 (f j k)), .eq (.pointer (some ⟨gA, P + j, none⟩))] [[], [0], [], [], [3], [2, 3, 4], [], [2, 3, 4, 5, 6], [], [8], [], [], [11], [10, 11, 12], [], [10, 11, 12, 13, 14], [8, 9, 10, 11, 12, 13, 14, 15], [8, 9, 10, 11, 12, 13, 14, 15, 16], [0, 1, 2, 3, 4, 5, 6, 7, 8, 9, 10, 11, 12, 13, 14, 15, 16, 17], [0, 1, 2, 3, 4, 5, 6, 7, 8, 9, 10, 11, 12, 13, 14, 15, 16, 17, 18]] 19 (by kernel_rfl) ⟨trivial, trivial, trivial, trivial, trivial, trivial, trivial, trivial, trivial, trivial, trivial, trivial, trivial, trivial, trivial, trivial, trivial, trivial, trivial, trivial⟩ ⟨?_, ?_, ?_, ?_, ?_, ?_, ?_, ?_, ?_, ?_, ?_, ?_, ?_, ?_, ?_, ?_, ?_, ?_, ?_, trivial⟩ ?_
          · intro x w hb hk Q' hQ
            clear hk
            simp only [netAct, dstAt, List.getElem?_toArray, List.getElem?_cons_zero, List.getElem?_cons_succ, Option.bind_some, Act.put, List.setIfInBounds_toArray, List.set_cons_zero, List.set_cons_succ] at hQ ⊢
            go_wp2
            exact hQ (.pointer (some ⟨w1.heap.size, 2, none⟩)) _ (Below.refl _ _) rfl
          · intro x w hb hk Q' hQ
            have h0 : x.v 0 = .pointer (some ⟨w1.heap.size, 2, none⟩) := (hk 0 (by decide)).1
            clear hk
            simp only [netAct, dstAt, List.getElem?_toArray, List.getElem?_cons_zero, List.getElem?_cons_succ, Option.bind_some, Act.put, List.setIfInBounds_toArray, List.set_cons_zero, List.set_cons_succ] at hQ ⊢
            simp only [h0] at hQ ⊢
            clear h0
            have z2 := (k4.call hb).cell' (i := 2) rfl
            go_wp2
            exact hQ (.slice (some ⟨gA, 0, none⟩) N c1) _ (Below.refl _ _) rfl
          · intro x w hb hk Q' hQ
            clear hk
            simp only [netAct, dstAt, List.getElem?_toArray, List.getElem?_cons_zero, List.getElem?_cons_succ, Option.bind_some, Act.put, List.setIfInBounds_toArray, List.set_cons_zero, List.set_cons_succ] at hQ ⊢
            go_wp2
            exact hQ (.int .i64 k) _ (Below.refl _ _) rfl
          · intro x w hb hk Q' hQ
            clear hk
            simp only [netAct, dstAt, List.getElem?_toArray, List.getElem?_cons_zero, List.getElem?_cons_succ, Option.bind_some, Act.put, List.setIfInBounds_toArray, List.set_cons_zero, List.set_cons_succ] at hQ ⊢
            go_wp2
            exact hQ (.pointer (some ⟨w0.heap.size, 0, none⟩)) _ (Below.refl _ _) rfl
          · intro x w hb hk Q' hQ
            have h3 : x.v 3 = .pointer (some ⟨w0.heap.size, 0, none⟩) := (hk 3 (by decide)).1
            clear hk
            simp only [netAct, dstAt, List.getElem?_toArray, List.getElem?_cons_zero, List.getElem?_cons_succ, Option.bind_some, Act.put, List.setIfInBounds_toArray, List.set_cons_zero, List.set_cons_succ] at hQ ⊢
            simp only [h3] at hQ ⊢
            clear h3
            have z2 := (k1.call hb).cell' (i := 0) rfl
            go_wp2
            exact hQ (.int .i64 r) _ (Below.refl _ _) rfl
          · intro x w hb hk Q' hQ
            have h2 : x.v 2 = .int .i64 k := (hk 2 (by decide)).1
            have h4 : x.v 4 = .int .i64 r := (hk 4 (by decide)).1
            clear hk
            simp only [netAct, dstAt, List.getElem?_toArray, List.getElem?_cons_zero, List.getElem?_cons_succ, Option.bind_some, Act.put, List.setIfInBounds_toArray, List.set_cons_zero, List.set_cons_succ] at hQ ⊢
            simp only [h2, h4] at hQ ⊢
            clear h2 h4
            go_wp2
            rw [hP'.out]
            exact hQ (.int .i64 P) _ (Below.refl _ _) rfl
          · intro x w hb hk Q' hQ
            clear hk
            simp only [netAct, dstAt, List.getElem?_toArray, List.getElem?_cons_zero, List.getElem?_cons_succ, Option.bind_some, Act.put, List.setIfInBounds_toArray, List.set_cons_zero, List.set_cons_succ] at hQ ⊢
            go_wp2
            exact hQ (.int .i64 j) _ (Below.refl _ _) rfl
          · intro x w hb hk Q' hQ
            have h5 : x.v 5 = .int .i64 P := (hk 5 (by decide)).1
            have h6 : x.v 6 = .int .i64 j := (hk 6 (by decide)).1
            clear hk
            simp only [netAct, dstAt, List.getElem?_toArray, List.getElem?_cons_zero, List.getElem?_cons_succ, Option.bind_some, Act.put, List.setIfInBounds_toArray, List.set_cons_zero, List.set_cons_succ] at hQ ⊢
            simp only [h5, h6] at hQ ⊢
            clear h5 h6
            go_wp2
            exact hQ (.int .i64 ((P : Int) + j)) _ (Below.refl _ _) rfl
          · intro x w hb hk Q' hQ
            clear hk
            simp only [netAct, dstAt, List.getElem?_toArray, List.getElem?_cons_zero, List.getElem?_cons_succ, Option.bind_some, Act.put, List.setIfInBounds_toArray, List.set_cons_zero, List.set_cons_succ] at hQ ⊢
            go_wp2
            exact hQ (.pointer (some ⟨w0.heap.size, 2, none⟩)) _ (Below.refl _ _) rfl
          · intro x w hb hk Q' hQ
            have h8 : x.v 8 = .pointer (some ⟨w0.heap.size, 2, none⟩) := (hk 8 (by decide)).1
            clear hk
            simp only [netAct, dstAt, List.getElem?_toArray, List.getElem?_cons_zero, List.getElem?_cons_succ, Option.bind_some, Act.put, List.setIfInBounds_toArray, List.set_cons_zero, List.set_cons_succ] at hQ ⊢
            simp only [h8] at hQ ⊢
            clear h8
            have z2 := (k1.call hb).cell' (i := 2) rfl
            go_wp2
            exact hQ (.slice (some ⟨b, o, none⟩) L uc) _ (Below.refl _ _) rfl
          · intro x w hb hk Q' hQ
            clear hk
            simp only [netAct, dstAt, List.getElem?_toArray, List.getElem?_cons_zero, List.getElem?_cons_succ, Option.bind_some, Act.put, List.setIfInBounds_toArray, List.set_cons_zero, List.set_cons_succ] at hQ ⊢
            go_wp2
            exact hQ (.int .i64 j) _ (Below.refl _ _) rfl
          · intro x w hb hk Q' hQ
            clear hk
            simp only [netAct, dstAt, List.getElem?_toArray, List.getElem?_cons_zero, List.getElem?_cons_succ, Option.bind_some, Act.put, List.setIfInBounds_toArray, List.set_cons_zero, List.set_cons_succ] at hQ ⊢
            go_wp2
            exact hQ (.pointer (some ⟨w0.heap.size, 1, none⟩)) _ (Below.refl _ _) rfl
          · intro x w hb hk Q' hQ
            have h11 : x.v 11 = .pointer (some ⟨w0.heap.size, 1, none⟩) := (hk 11 (by decide)).1
            clear hk
            simp only [netAct, dstAt, List.getElem?_toArray, List.getElem?_cons_zero, List.getElem?_cons_succ, Option.bind_some, Act.put, List.setIfInBounds_toArray, List.set_cons_zero, List.set_cons_succ] at hQ ⊢
            simp only [h11] at hQ ⊢
            clear h11
            have z2 := (k1.call hb).cell' (i := 1) rfl
            go_wp2
            exact hQ (.int .i64 c) _ (Below.refl _ _) rfl
          · intro x w hb hk Q' hQ
            have h10 : x.v 10 = .int .i64 j := (hk 10 (by decide)).1
            have h12 : x.v 12 = .int .i64 c := (hk 12 (by decide)).1
            clear hk
            simp only [netAct, dstAt, List.getElem?_toArray, List.getElem?_cons_zero, List.getElem?_cons_succ, Option.bind_some, Act.put, List.setIfInBounds_toArray, List.set_cons_zero, List.set_cons_succ] at hQ ⊢
            simp only [h10, h12] at hQ ⊢
            clear h10 h12
            go_wp2
            rw [hP2'.out]
            exact hQ (.int .i64 P2) _ (Below.refl _ _) rfl
          · intro x w hb hk Q' hQ
            clear hk
            simp only [netAct, dstAt, List.getElem?_toArray, List.getElem?_cons_zero, List.getElem?_cons_succ, Option.bind_some, Act.put, List.setIfInBounds_toArray, List.set_cons_zero, List.set_cons_succ] at hQ ⊢
            go_wp2
            exact hQ (.int .i64 k) _ (Below.refl _ _) rfl
          · intro x w hb hk Q' hQ
            have h13 : x.v 13 = .int .i64 P2 := (hk 13 (by decide)).1
            have h14 : x.v 14 = .int .i64 k := (hk 14 (by decide)).1
            clear hk
            simp only [netAct, dstAt, List.getElem?_toArray, List.getElem?_cons_zero, List.getElem?_cons_succ, Option.bind_some, Act.put, List.setIfInBounds_toArray, List.set_cons_zero, List.set_cons_succ] at hQ ⊢
            simp only [h13, h14] at hQ ⊢
            clear h13 h14
            go_wp2
            exact hQ (.int .i64 ((P2 : Int) + k)) _ (Below.refl _ _) rfl
          · intro x w hb hk Q' hQ
            have h9 : x.v 9 = .slice (some ⟨b, o, none⟩) L uc := (hk 9 (by decide)).1
            have h15 : x.v 15 = .int .i64 ((P2 : Int) + k) := (hk 15 (by decide)).1
            clear hk
            simp only [netAct, dstAt, List.getElem?_toArray, List.getElem?_cons_zero, List.getElem?_cons_succ, Option.bind_some, Act.put, List.setIfInBounds_toArray, List.set_cons_zero, List.set_cons_succ] at hQ ⊢
            simp only [h9, h15] at hQ ⊢
            clear h9 h15
            go_wp2
            exact hQ (.pointer (some ⟨b, o + (P2 + k), none⟩)) _ (Below.refl _ _) rfl
          · intro x w hb hk Q' hQ
            have h16 : x.v 16 = .pointer (some ⟨b, o + (P2 + k), none⟩) := (hk 16 (by decide)).1
            clear hk
            simp only [netAct, dstAt, List.getElem?_toArray, List.getElem?_cons_zero, List.getElem?_cons_succ, Option.bind_some, Act.put, List.setIfInBounds_toArray, List.set_cons_zero, List.set_cons_succ] at hQ ⊢
            simp only [h16] at hQ ⊢
            clear h16
            have z2 := bcell hb (by omega) x2
            go_wp2
            exact hQ (.int .i64 (f j k)) _ (Below.refl _ _) rfl
          · intro x w hb hk Q' hQ
            have h1 : x.v 1 = .slice (some ⟨gA, 0, none⟩) N c1 := (hk 1 (by decide)).1
            have h7 : x.v 7 = .int .i64 ((P : Int) + j) := (hk 7 (by decide)).1
            clear hk
            simp only [netAct, dstAt, List.getElem?_toArray, List.getElem?_cons_zero, List.getElem?_cons_succ, Option.bind_some, Act.put, List.setIfInBounds_toArray, List.set_cons_zero, List.set_cons_succ] at hQ ⊢
            simp only [h1, h7] at hQ ⊢
            clear h1 h7
            go_wp2
            exact hQ (.pointer (some ⟨gA, P + j, none⟩)) _ (Below.refl _ _) rfl
          · intro x w hb hk hiv hdj
            have h0 : x.v 0 = .pointer (some ⟨w1.heap.size, 2, none⟩) := hk 0 (by decide)
            have h1 : x.v 1 = .slice (some ⟨gA, 0, none⟩) N c1 := hk 1 (by decide)
            have h2 : x.v 2 = .int .i64 k := hk 2 (by decide)
            have h3 : x.v 3 = .pointer (some ⟨w0.heap.size, 0, none⟩) := hk 3 (by decide)
            have h4 : x.v 4 = .int .i64 r := hk 4 (by decide)
            have h5 : x.v 5 = .int .i64 P := hk 5 (by decide)
            have h6 : x.v 6 = .int .i64 j := hk 6 (by decide)
            have h7 : x.v 7 = .int .i64 ((P : Int) + j) := hk 7 (by decide)
            have h8 : x.v 8 = .pointer (some ⟨w0.heap.size, 2, none⟩) := hk 8 (by decide)
            have h9 : x.v 9 = .slice (some ⟨b, o, none⟩) L uc := hk 9 (by decide)
            have h10 : x.v 10 = .int .i64 j := hk 10 (by decide)
            have h11 : x.v 11 = .pointer (some ⟨w0.heap.size, 1, none⟩) := hk 11 (by decide)
            have h12 : x.v 12 = .int .i64 c := hk 12 (by decide)
            have h13 : x.v 13 = .int .i64 P2 := hk 13 (by decide)
            have h14 : x.v 14 = .int .i64 k := hk 14 (by decide)
            have h15 : x.v 15 = .int .i64 ((P2 : Int) + k) := hk 15 (by decide)
            have h16 : x.v 16 = .pointer (some ⟨b, o + (P2 + k), none⟩) := hk 16 (by decide)
            have h17 : x.v 17 = .int .i64 (f j k) := hk 17 (by decide)
            have h18 : x.v 18 = .pointer (some ⟨gA, P + j, none⟩) := hk 18 (by decide)
            clear hk
            simp only [netAct, dstAt, List.getElem?_toArray, List.getElem?_cons_zero, List.getElem?_cons_succ, Option.bind_some, Act.put, List.setIfInBounds_toArray, List.set_cons_zero, List.set_cons_succ]
            simp only [List.drop_succ_cons, List.drop_zero, h0, h1, h2, h3, h4, h5, h6, h7, h8, h9, h10, h11, h12, h13, h14, h15, h16, h17, h18]
            clear h0 h1 h2 h3 h4 h5 h6 h7 h8 h9 h10 h11 h12 h13 h14 h15 h16 h17 h18
            have oB := oA.below hb
            have k4b := k4.call hb
            have fA := oB.1.frozenG (P + j)
            have cA := (oB.1.cellG (j := P + j) (by rw [flat_length, HN.out]; omega)).1
            have hws := hb.size
            have hc1 : Chg W.heap.size w1.heap.size w (w.setCell ⟨gA, P + j, none⟩ (.int .i64 (f j k))) := chg_set a1 a2
            have oA2 := oB.put (j := P + j) (x := f j k) xr
            rw [hst] at oA2
            have OA2 := Lib.hid oA2
            have K4 := Lib.hid (k4b.chg hc1 (by omega))
            have GW := Lib.hid ((gW.trans (hb.mono s6)).trans (hc1.below (Nat.le_refl _) (by omega)))
            clear oA2 k4 oA gW hc1 hst oB k4b hiv hdj hb k1 q1
            go_wp2
            go_roundw
            case rel => exact ⟨k + 1, by omega, by go_num, K4.out, OA2.out, GW.out⟩
            case measure => simp [intOf]; omega
        · obtain rfl : k = c := by omega
          rw [trK_next] at oA
          have OA := Lib.hid oA
          have K4 := Lib.hid k4
          have GW := Lib.hid gW
          clear oA k4 gW k1
          go_wp2
          go_roundw
          case rel => exact ⟨j + 1, by omega, by go_num, K4.out, OA.out, GW.out⟩
          case measure => simp [intOf]; omega
    · obtain rfl : j = r := by omega
      rw [trK_r] at oA
      have k2 := K2.out.below gW (by have := SZ.out; omega)
      have z0 := k4.cell' (i := 0) rfl
      have z1 := k4.cell' (i := 1) rfl
      have z2 := k4.cell' (i := 2) rfl
      have p0 := k2.cell' (i := 0) rfl
      have p1 := k2.cell' (i := 1) rfl
      have p2 := k2.cell' (i := 2) rfl
      have f2 := k2.frozen
      have h2 := chg3 wr (w0.heap.size + 1) (.int .i64 (c : Int)) (.int .i64 j) (.slice A1 N c1)
      have gw : Below w0.heap.size w0 wr := g0.trans (gW.mono g0.size)
      have gs := gw.size
      have oA2 := (oA.chg h2 (.inr (by have := SZ.out; omega))).wider (lo' := w0.heap.size) (hi' := wr.heap.size) (by have := SZ.out; omega) (by have := k4.lt; omega)
      have fg := gw.trans (h2.below (by omega) gs)
      have OA2 := Lib.hid oA2
      have FG := Lib.hid fg
      clear oA oA2 fg gw h2 k2 k4 gW k1
      go_wp2
      exact bodyPost_ret (v := .agg #[.int .i64 (c : Int), .int .i64 j, .slice A1 N c1]) (by simp [results, go_sem, p0, p1, p2]) rfl ⟨_, rfl, ⟨_, rfl, by simpa using OA2.out, hr2, hc2⟩, FG.out⟩
end Go.Proofs.Ytbgjhnolnccnnaa
