/- Identity matrices: the program's and the reference's. -/
import Derived.Test.YtbgjhnolnccnnaaFlat
namespace Go.Proofs.Ytbgjhnolnccnnaa
set_option linter.unusedVariables false
set_option linter.unusedSimpArgs false
open Go.RowKit

theorem IntsO.at_ {w : World} {lo hi : Nat} {v : Value} {l : List Int} (h : IntsO w lo hi v l) (h0 : 0 < l.length) : ∃ g c, v = .slice (some ⟨g, 0, none⟩) l.length c ∧ lo ≤ g ∧ g < hi ∧ g < w.heap.size := by
  rcases h.1.1.2 with ⟨rfl, h1⟩ | ⟨g, cap, cur, rfl, hg, hh, _⟩
  · omega
  · exact ⟨g, cap, rfl, hg, h.2 g rfl, (Array.getElem?_eq_some_iff.1 hh).1⟩
theorem IntsO.put {w : World} {lo hi g n cap j : Nat} {l : List Int} {x : Int} (h : IntsO w lo hi (.slice (some ⟨g, 0, none⟩) n cap) l) (hx : I64 x) : IntsO (w.setCell ⟨g, j, none⟩ (.int .i64 x)) lo hi (.slice (some ⟨g, 0, none⟩) n cap) (l.set j x) := ⟨(h.1.put hx).1, h.2⟩
theorem chg3 (w : World) (g : Nat) (u0 u1 u2 : Value) : Chg g (g + 1) w (((w.setCell ⟨g, 0, none⟩ u0).setCell ⟨g, 1, none⟩ u1).setCell ⟨g, 2, none⟩ u2) := by
  have s : ∀ (w : World) (i : Nat) (u : Value), Chg g (g + 1) w (w.setCell ⟨g, i, none⟩ u) := fun w i u => chg_set (Nat.le_refl _) (Nat.lt_succ_self _)
  exact ((s _ _ _).trans (s _ _ _)).trans (s _ _ _)

def idF (a b : Nat) : Int := if a = b then 1 else 0
def idK (k a b : Nat) : Int := if a = b ∧ a < k then 1 else 0
theorem idK_0 (n : Nat) : flat n n (fun _ _ => 0) = flat n n (idK 0) := flat_congr fun a b _ _ => by simp [idK]
theorem idK_succ {n k : Nat} (h : k < n) : (flat n n (idK k)).set (k * n + k) 1 = flat n n (idK (k + 1)) := by
  rw [flat_set _ _ h h]
  refine flat_congr fun a b _ _ => ?_
  simp only [idK]
  by_cases e : a = b
  · subst e
    by_cases e2 : a = k
    · simp [e2]
    · simp only [e2, true_and, if_false, false_and]
      congr 1
      simp; omega
  · rw [if_neg (by omega), if_neg (by omega), if_neg (by omega)]
theorem idK_n (n : Nat) : flat n n (idK n) = flat n n idF := flat_congr fun a b ha _ => by simp [idK, idF, ha]

set_option maxHeartbeats 800000 in
theorem identity_any (n : Nat) (w : World) (hn : n ≤ 100) :
    Calls Try.prog 85 #[.int .i64 n] w fun e w' => ∃ v, e = .returned v ∧ MxO w' w.heap.size w'.heap.size v (mxF n n idF) ∧ Below w.heap.size w w' := by
  obtain ⟨W, hW⟩ : ∃ W, W = w.alloc (.cells #[.int .i64 0, .int .i64 0, .slice none 0 0] 60) := ⟨_, rfl⟩
  have g0 : Below w.heap.size w W := by rw [hW]; exact below_alloc _ _
  have k2 : Blk W w.heap.size 60 #[.int .i64 0, .int .i64 0, .slice none 0 0] := by rw [hW]; exact Blk.new _ _ _
  have sz : W.heap.size = w.heap.size + 1 := by rw [hW]; simp
  have K2 := Lib.hid k2
  have SZ := Lib.hid sz
  clear k2 sz
  go_enter Try.func85, Try.ntmps85
  go_wp2_with fail
  rw [← hW]; clear hW
  refine (zero_any (n : Int) n W (by omega) (by omega) (by omega) (by omega)).mono ?_; rintro e w1 ⟨v1, rfl, ⟨sA, rfl, oA, hr, hc⟩, hb1⟩
  rw [zmx_flat] at oA hr hc ⊢
  simp only [mxF] at oA hr hc ⊢
  rw [idK_0] at oA
  obtain ⟨A1, c1, e1⟩ := oA.form
  obtain ⟨N, hN⟩ : ∃ N, n * n = N := ⟨_, rfl⟩
  rw [flat_length, hN] at e1
  subst e1
  have HN := Lib.hid hN
  clear hN
  have s1 := hb1.size
  obtain ⟨W4, hW4⟩ : ∃ W4, W4 = w1.alloc (.cells #[.int .i64 n, .int .i64 n, .slice A1 N c1] 60) := ⟨_, rfl⟩
  have b4 : Below w1.heap.size w1 W4 := by rw [hW4]; exact below_alloc _ _
  have k4 : Blk W4 w1.heap.size 60 #[.int .i64 n, .int .i64 n, .slice A1 N c1] := by rw [hW4]; exact Blk.new _ _ _
  have oA := oA.below b4
  have gW := bthen hb1 b4
  clear b4 hb1
  go_wp2
  rw [← hW4]; clear hW4
  go_loopw [9] (fun i wr => ∃ k : Nat, k ≤ n ∧ i = .int .i64 k ∧ Blk wr w1.heap.size 60 #[.int .i64 n, .int .i64 n, .slice A1 N c1] ∧ IntsO wr W.heap.size w1.heap.size (.slice A1 N c1) (flat n n (idK k)) ∧ Below W.heap.size W wr) (fun i _ => n - (intOf i).toNat)
  case atStart => exact ⟨0, Nat.zero_le _, rfl, k4, oA, gW⟩
  case round =>
    clear k4 oA gW
    obtain ⟨k, hk, rfl, k4, oA, gW⟩ := hrel
    have s6 := gW.size
    by_cases hlt : k < n
    · obtain ⟨P, J, hP, hPJ, hJ, hJN, hJb⟩ := ix_walk hlt hlt (show n ≤ 1000 by omega) (by omega)
      rw [HN.out] at hJN
      have hst := idK_succ hlt
      rw [← hJ] at hst
      subst hPJ
      obtain ⟨gA, cA, eA, a1, a2, a3⟩ := oA.at_ (by rw [flat_length, HN.out]; omega)
      rw [flat_length, HN.out] at eA
      injection eA with eA1 eA2 eA3
      subst eA1 eA3
      have r2 := k4.cell' (i := 2) rfl
      have fA := oA.1.frozenG (P + k)
      have cA := (oA.1.cellG (j := P + k) (by rw [flat_length, HN.out]; omega)).1
      have hc1 : Chg W.heap.size w1.heap.size wr (wr.setCell ⟨gA, P + k, none⟩ (.int .i64 1)) := chg_set a1 a2
      have oA2 := oA.put (j := P + k) (x := 1) (by simp [I64])
      rw [hst] at oA2
      have OA2 := Lib.hid oA2
      have K4 := Lib.hid (k4.chg hc1 (by omega))
      have GW := Lib.hid (gW.trans (hc1.below (Nat.le_refl _) s6))
      clear oA2 k4 oA gW hc1 hst hJ
      go_wp2
      go_roundw
      case rel => exact ⟨k + 1, by omega, by go_num, K4.out, OA2.out, GW.out⟩
      case measure => simp [intOf]; omega
    · obtain rfl : k = n := by omega
      have k2 := K2.out.below gW (by have := SZ.out; omega)
      have z0 := k4.cell' (i := 0) rfl
      have z1 := k4.cell' (i := 1) rfl
      have z2 := k4.cell' (i := 2) rfl
      have p0 := k2.cell' (i := 0) rfl
      have p1 := k2.cell' (i := 1) rfl
      have p2 := k2.cell' (i := 2) rfl
      have f2 := k2.frozen
      have h2 := chg3 wr w.heap.size (.int .i64 (k : Int)) (.int .i64 k) (.slice A1 N c1)
      rw [idK_n] at oA
      have gw : Below w.heap.size w wr := g0.trans (gW.mono g0.size)
      have gs := gw.size
      have oA2 := (oA.chg h2 (.inr (by have := SZ.out; omega))).wider (lo' := w.heap.size) (hi' := wr.heap.size) (by have := SZ.out; omega) (by have := k4.lt; omega)
      have fg := gw.trans (h2.below (Nat.le_refl _) gs)
      have OA2 := Lib.hid oA2
      have FG := Lib.hid fg
      clear oA oA2 fg gw h2 k2 k4 gW
      go_wp2
      exact bodyPost_ret (v := .agg #[.int .i64 (k : Int), .int .i64 k, .slice A1 N c1]) (by simp [results, go_sem, p0, p1, p2]) rfl ⟨_, rfl, ⟨_, rfl, by simpa [mxF] using OA2.out, by simp only [mxF, I64]; omega, by simp only [mxF, I64]; omega⟩, FG.out⟩
set_option maxHeartbeats 800000 in
theorem l3Identity_any (n : Nat) (w : World) (hn : n ≤ 100) :
    Calls Try.prog 81 #[.int .i64 n] w fun e w' => ∃ v, e = .returned v ∧ MxO w' w.heap.size w'.heap.size v (mxF n n idF) ∧ Below w.heap.size w w' := by
  obtain ⟨W, hW⟩ : ∃ W, W = w.alloc (.cells #[.int .i64 0, .int .i64 0, .slice none 0 0] 60) := ⟨_, rfl⟩
  have g0 : Below w.heap.size w W := by rw [hW]; exact below_alloc _ _
  have k2 : Blk W w.heap.size 60 #[.int .i64 0, .int .i64 0, .slice none 0 0] := by rw [hW]; exact Blk.new _ _ _
  have sz : W.heap.size = w.heap.size + 1 := by rw [hW]; simp
  have K2 := Lib.hid k2
  have SZ := Lib.hid sz
  clear k2 sz
  go_enter Try.func81, Try.ntmps81
  go_wp2_with fail
  rw [← hW]; clear hW
  refine (l3Zero_any (n : Int) n W (by omega) (by omega) (by omega) (by omega)).mono ?_; rintro e w1 ⟨v1, rfl, ⟨sA, rfl, oA, hr, hc⟩, hb1⟩
  rw [zmx_flat] at oA hr hc ⊢
  simp only [mxF] at oA hr hc ⊢
  rw [idK_0] at oA
  obtain ⟨A1, c1, e1⟩ := oA.form
  obtain ⟨N, hN⟩ : ∃ N, n * n = N := ⟨_, rfl⟩
  rw [flat_length, hN] at e1
  subst e1
  have HN := Lib.hid hN
  clear hN
  have s1 := hb1.size
  obtain ⟨W4, hW4⟩ : ∃ W4, W4 = w1.alloc (.cells #[.int .i64 n, .int .i64 n, .slice A1 N c1] 60) := ⟨_, rfl⟩
  have b4 : Below w1.heap.size w1 W4 := by rw [hW4]; exact below_alloc _ _
  have k4 : Blk W4 w1.heap.size 60 #[.int .i64 n, .int .i64 n, .slice A1 N c1] := by rw [hW4]; exact Blk.new _ _ _
  have oA := oA.below b4
  have gW := bthen hb1 b4
  clear b4 hb1
  go_wp2
  rw [← hW4]; clear hW4
  go_loopw [4] (fun i wr => ∃ k : Nat, k ≤ n ∧ i = .int .i64 k ∧ Blk wr w1.heap.size 60 #[.int .i64 n, .int .i64 n, .slice A1 N c1] ∧ IntsO wr W.heap.size w1.heap.size (.slice A1 N c1) (flat n n (idK k)) ∧ Below W.heap.size W wr) (fun i _ => n - (intOf i).toNat)
  case atStart => exact ⟨0, Nat.zero_le _, rfl, k4, oA, gW⟩
  case round =>
    clear k4 oA gW
    obtain ⟨k, hk, rfl, k4, oA, gW⟩ := hrel
    have s6 := gW.size
    by_cases hlt : k < n
    · obtain ⟨P, J, hP, hPJ, hJ, hJN, hJb⟩ := ix_walk hlt hlt (show n ≤ 1000 by omega) (by omega)
      rw [HN.out] at hJN
      have hst := idK_succ hlt
      rw [← hJ] at hst
      subst hPJ
      obtain ⟨gA, cA, eA, a1, a2, a3⟩ := oA.at_ (by rw [flat_length, HN.out]; omega)
      rw [flat_length, HN.out] at eA
      injection eA with eA1 eA2 eA3
      subst eA1 eA3
      have r2 := k4.cell' (i := 2) rfl
      have fA := oA.1.frozenG (P + k)
      have cA := (oA.1.cellG (j := P + k) (by rw [flat_length, HN.out]; omega)).1
      have hc1 : Chg W.heap.size w1.heap.size wr (wr.setCell ⟨gA, P + k, none⟩ (.int .i64 1)) := chg_set a1 a2
      have oA2 := oA.put (j := P + k) (x := 1) (by simp [I64])
      rw [hst] at oA2
      have OA2 := Lib.hid oA2
      have K4 := Lib.hid (k4.chg hc1 (by omega))
      have GW := Lib.hid (gW.trans (hc1.below (Nat.le_refl _) s6))
      clear oA2 k4 oA gW hc1 hst hJ
      go_wp2
      go_roundw
      case rel => exact ⟨k + 1, by omega, by go_num, K4.out, OA2.out, GW.out⟩
      case measure => simp [intOf]; omega
    · obtain rfl : k = n := by omega
      have k2 := K2.out.below gW (by have := SZ.out; omega)
      have z0 := k4.cell' (i := 0) rfl
      have z1 := k4.cell' (i := 1) rfl
      have z2 := k4.cell' (i := 2) rfl
      have p0 := k2.cell' (i := 0) rfl
      have p1 := k2.cell' (i := 1) rfl
      have p2 := k2.cell' (i := 2) rfl
      have f2 := k2.frozen
      have h2 := chg3 wr w.heap.size (.int .i64 (k : Int)) (.int .i64 k) (.slice A1 N c1)
      rw [idK_n] at oA
      have gw : Below w.heap.size w wr := g0.trans (gW.mono g0.size)
      have gs := gw.size
      have oA2 := (oA.chg h2 (.inr (by have := SZ.out; omega))).wider (lo' := w.heap.size) (hi' := wr.heap.size) (by have := SZ.out; omega) (by have := k4.lt; omega)
      have fg := gw.trans (h2.below (Nat.le_refl _) gs)
      have OA2 := Lib.hid oA2
      have FG := Lib.hid fg
      clear oA oA2 fg gw h2 k2 k4 gW
      go_wp2
      exact bodyPost_ret (v := .agg #[.int .i64 (k : Int), .int .i64 k, .slice A1 N c1]) (by simp [results, go_sem, p0, p1, p2]) rfl ⟨_, rfl, ⟨_, rfl, by simpa [mxF] using OA2.out, by simp only [mxF, I64]; omega, by simp only [mxF, I64]; omega⟩, FG.out⟩
end Go.Proofs.Ytbgjhnolnccnnaa
