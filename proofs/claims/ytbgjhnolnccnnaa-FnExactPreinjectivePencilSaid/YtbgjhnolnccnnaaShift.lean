/- The shift matrices of a pencil. -/
import Derived.Test.YtbgjhnolnccnnaaIdent
import Derived.Test.YtbgjhnolnccnnaaPenOf2
import Derived.LoopN
namespace Go.Proofs.Ytbgjhnolnccnnaa
set_option linter.unusedVariables false
set_option linter.unusedSimpArgs false
open Go.RowKit

def stA (n : Nat) : Nat → List Int
  | 0 => List.replicate ((n + 1) * n) 0
  | k + 1 => (stA n k).set (k * n + k) 1
def stB (n : Nat) : Nat → List Int
  | 0 => List.replicate ((n + 1) * n) 0
  | k + 1 => (stB n k).set ((k + 1) * n + k) 1
def shA (n : Nat) : Mx := ⟨n + 1, n, stA n n⟩
def shB (n : Nat) : Mx := ⟨n + 1, n, stB n n⟩
theorem stA_length (n : Nat) : ∀ k, (stA n k).length = (n + 1) * n
  | 0 => by simp [stA]
  | k + 1 => by simp [stA, stA_length n k]
theorem stB_length (n : Nat) : ∀ k, (stB n k).length = (n + 1) * n
  | 0 => by simp [stB]
  | k + 1 => by simp [stB, stB_length n k]
theorem zmx_shift (n : Nat) : zmx ((n : Int) + 1) n = ⟨n + 1, n, stA n 0⟩ := by
  rw [zmx, stA]
  congr 2


set_option maxHeartbeats 800000 in
theorem l26Shift_any (n : Nat) (w : World) (hn : n ≤ 3) :
    Calls Try.prog 94 #[.int .i64 n] w fun e w' => ∃ a b, e = .returned (.tuple #[a, b]) ∧ MxR w' w'.heap.size a (shA n) ∧ MxR w' w'.heap.size b (shB n) ∧ Below w.heap.size w w' := by
  obtain ⟨W, hW⟩ : ∃ W, W = (w.alloc (.cells #[.int .i64 0, .int .i64 0, .slice none 0 0] 60)).alloc (.cells #[.int .i64 0, .int .i64 0, .slice none 0 0] 60) := ⟨_, rfl⟩
  have g0 : Below w.heap.size w W := by rw [hW]; exact ((Below.refl _ _).alloc (Nat.le_refl _) _).alloc (by simp) _
  have k2 : Blk W w.heap.size 60 #[.int .i64 0, .int .i64 0, .slice none 0 0] := by rw [hW]; exact (Blk.new _ _ _).alloc _
  have k3 : Blk W (w.heap.size + 1) 60 #[.int .i64 0, .int .i64 0, .slice none 0 0] := by
    rw [hW]
    have := Blk.new (w.alloc (.cells #[.int .i64 0, .int .i64 0, .slice none 0 0] 60)) 60 #[.int .i64 0, .int .i64 0, .slice none 0 0]
    simpa only [World.size_alloc] using this
  have sz : W.heap.size = w.heap.size + 1 + 1 := by rw [hW]; simp
  have K2 := Lib.hid k2
  have K3 := Lib.hid k3
  have SZ := Lib.hid sz
  clear k2 k3 sz
  go_enter Try.func94, Try.ntmps94
  go_wp2_with fail
  rw [← hW]; clear hW
  refine (l3Zero_any ((n : Int) + 1) n W (by omega) (by omega) (by omega) (by omega)).mono ?_; rintro e w1 ⟨v1, rfl, ⟨sA, rfl, oA, hr, hc⟩, hb1⟩
  rw [zmx_shift] at oA hr hc ⊢
  simp only at oA hr hc ⊢
  obtain ⟨A1, c1, e1⟩ := oA.form
  rw [stA_length] at e1
  obtain ⟨N, hN⟩ : ∃ N, (n + 1) * n = N := ⟨_, rfl⟩
  rw [hN] at e1
  subst e1
  go_wp2_with fail
  obtain ⟨W4, hW4⟩ : ∃ W4, W4 = w1.alloc (.cells #[.int .i64 ((n : Int) + 1), .int .i64 n, .slice A1 N c1] 60) := ⟨_, rfl⟩
  rw [← hW4]
  have b4 : Below w1.heap.size w1 W4 := by rw [hW4]; exact below_alloc _ _
  have k4 : Blk W4 w1.heap.size 60 #[.int .i64 ((n : Int) + 1), .int .i64 n, .slice A1 N c1] := by rw [hW4]; exact Blk.new _ _ _
  have hl4 : w1.heap.size < W4.heap.size := by rw [hW4]; simp
  clear hW4
  refine (l3Zero_any ((n : Int) + 1) n W4 (by omega) (by omega) (by omega) (by omega)).mono ?_; rintro e w2 ⟨v2, rfl, ⟨sB, rfl, oB, _, _⟩, hb2⟩
  rw [zmx_shift] at oB ⊢
  simp only at oB ⊢
  obtain ⟨B1, d1, e1⟩ := oB.form
  rw [stA_length, hN] at e1
  subst e1
  go_wp2
  obtain ⟨W5, hW5⟩ : ∃ W5, W5 = w2.alloc (.cells #[.int .i64 ((n : Int) + 1), .int .i64 n, .slice B1 N d1] 60) := ⟨_, rfl⟩
  rw [← hW5]
  have b5 : Below w2.heap.size w2 W5 := by rw [hW5]; exact below_alloc _ _
  have k5 : Blk W5 w2.heap.size 60 #[.int .i64 ((n : Int) + 1), .int .i64 n, .slice B1 N d1] := by rw [hW5]; exact Blk.new _ _ _
  clear hW5
  have k4 := (k4.call hb2).call b5
  have oA := (((oA.below b4).below hb2).below b5)
  have oB := oB.below b5
  have s1 := hb1.size
  have s4 := b4.size
  have s2 := hb2.size
  have s5 := b5.size
  have gW : Below W.heap.size W W5 := bthen (bthen (bthen hb1 b4) hb2) b5
  clear b4 b5 hb1 hb2
  go_loopw [6] (fun i wr => ∃ k : Nat, k ≤ n ∧ i = .int .i64 k ∧ Blk wr w1.heap.size 60 #[.int .i64 ((n : Int) + 1), .int .i64 n, .slice A1 N c1] ∧ Blk wr w2.heap.size 60 #[.int .i64 ((n : Int) + 1), .int .i64 n, .slice B1 N d1] ∧ IntsO wr W.heap.size w1.heap.size (.slice A1 N c1) (stA n k) ∧ IntsO wr W4.heap.size w2.heap.size (.slice B1 N d1) (stB n k) ∧ Below W.heap.size W wr) (fun i _ => n - (intOf i).toNat)
  case atStart => exact ⟨0, Nat.zero_le _, rfl, k4, k5, oA, oB, gW⟩
  case round =>
    clear k4 k5 oA oB gW
    obtain ⟨k, hk, rfl, k4, k5, oA, oB, gW⟩ := hrel
    have s6 := gW.size
    by_cases hlt : k < n
    · have hcase : (n = 1 ∧ k = 0) ∨ (n = 2 ∧ k = 0) ∨ (n = 2 ∧ k = 1) ∨ (n = 3 ∧ k = 0) ∨ (n = 3 ∧ k = 1) ∨ (n = 3 ∧ k = 2) := by omega
      rcases hcase with ⟨rfl, rfl⟩ | ⟨rfl, rfl⟩ | ⟨rfl, rfl⟩ | ⟨rfl, rfl⟩ | ⟨rfl, rfl⟩ | ⟨rfl, rfl⟩
      · subst hN
        obtain ⟨gA, cA, eA, a1, a2, a3⟩ := oA.at_ (by simp [stA_length])
        obtain ⟨gB, cB, eB, b1, b2, b3⟩ := oB.at_ (by simp [stB_length])
        simp only [stA_length] at eA
        simp only [stB_length] at eB
        injection eA with eA1 eA2 eA3
        injection eB with eB1 eB2 eB3
        subst eA1 eA3 eB1 eB3
        have r2 := k4.cell' (i := 2) rfl
        have fA := oA.1.frozenG 0
        have cA := (oA.1.cellG (j := 0) (by simp [stA_length])).1
        have hc1 : Chg W.heap.size w1.heap.size wr (wr.setCell ⟨gA, 0, none⟩ (.int .i64 1)) := chg_set a1 a2
        have oA2 := oA.put (j := 0) (x := 1) (by simp [I64])
        have oB2 := oB.chg hc1 (.inr (by omega))
        have k4' := k4.chg hc1 (by omega)
        have k5' := k5.chg hc1 (by omega)
        have q2 := k5'.cell' (i := 2) rfl
        have fB := oB2.1.frozenG 1
        have cB := (oB2.1.cellG (j := 1) (by simp [stB_length])).1
        have OA2 := Lib.hid oA2
        have OB2 := Lib.hid oB2
        have K4 := Lib.hid k4'
        have K5 := Lib.hid k5'
        have HC1 := Lib.hid hc1
        clear oA2 oB2 k4' k5' hc1
        have hx := OA2.out
        go_wp2
        have hc2 : Chg W4.heap.size w2.heap.size (wr.setCell ⟨gA, 0, none⟩ (.int .i64 1)) ((wr.setCell ⟨gA, 0, none⟩ (.int .i64 1)).setCell ⟨gB, 1, none⟩ (.int .i64 1)) := chg_set b1 b2
        exact ⟨⟨1, by omega, rfl, K4.out.chg hc2 (by omega), K5.out.chg hc2 (by omega), OA2.out.chg hc2 (.inl (by omega)), OB2.out.put (j := 1) (x := 1) (by simp [I64]), (gW.trans (HC1.out.below (Nat.le_refl _) s6)).trans (hc2.below (by omega) (by simp; omega))⟩, by simp [intOf]⟩
      · subst hN
        obtain ⟨gA, cA, eA, a1, a2, a3⟩ := oA.at_ (by simp [stA_length])
        obtain ⟨gB, cB, eB, b1, b2, b3⟩ := oB.at_ (by simp [stB_length])
        simp only [stA_length] at eA
        simp only [stB_length] at eB
        injection eA with eA1 eA2 eA3
        injection eB with eB1 eB2 eB3
        subst eA1 eA3 eB1 eB3
        have r2 := k4.cell' (i := 2) rfl
        have fA := oA.1.frozenG 0
        have cA := (oA.1.cellG (j := 0) (by simp [stA_length])).1
        have hc1 : Chg W.heap.size w1.heap.size wr (wr.setCell ⟨gA, 0, none⟩ (.int .i64 1)) := chg_set a1 a2
        have oA2 := oA.put (j := 0) (x := 1) (by simp [I64])
        have oB2 := oB.chg hc1 (.inr (by omega))
        have k4' := k4.chg hc1 (by omega)
        have k5' := k5.chg hc1 (by omega)
        have q2 := k5'.cell' (i := 2) rfl
        have fB := oB2.1.frozenG 2
        have cB := (oB2.1.cellG (j := 2) (by simp [stB_length])).1
        have OA2 := Lib.hid oA2
        have OB2 := Lib.hid oB2
        have K4 := Lib.hid k4'
        have K5 := Lib.hid k5'
        have HC1 := Lib.hid hc1
        clear oA2 oB2 k4' k5' hc1
        have hx := OA2.out
        go_wp2
        have hc2 : Chg W4.heap.size w2.heap.size (wr.setCell ⟨gA, 0, none⟩ (.int .i64 1)) ((wr.setCell ⟨gA, 0, none⟩ (.int .i64 1)).setCell ⟨gB, 2, none⟩ (.int .i64 1)) := chg_set b1 b2
        exact ⟨⟨1, by omega, rfl, K4.out.chg hc2 (by omega), K5.out.chg hc2 (by omega), OA2.out.chg hc2 (.inl (by omega)), OB2.out.put (j := 2) (x := 1) (by simp [I64]), (gW.trans (HC1.out.below (Nat.le_refl _) s6)).trans (hc2.below (by omega) (by simp; omega))⟩, by simp [intOf]⟩
      · subst hN
        obtain ⟨gA, cA, eA, a1, a2, a3⟩ := oA.at_ (by simp [stA_length])
        obtain ⟨gB, cB, eB, b1, b2, b3⟩ := oB.at_ (by simp [stB_length])
        simp only [stA_length] at eA
        simp only [stB_length] at eB
        injection eA with eA1 eA2 eA3
        injection eB with eB1 eB2 eB3
        subst eA1 eA3 eB1 eB3
        have r2 := k4.cell' (i := 2) rfl
        have fA := oA.1.frozenG 3
        have cA := (oA.1.cellG (j := 3) (by simp [stA_length])).1
        have hc1 : Chg W.heap.size w1.heap.size wr (wr.setCell ⟨gA, 3, none⟩ (.int .i64 1)) := chg_set a1 a2
        have oA2 := oA.put (j := 3) (x := 1) (by simp [I64])
        have oB2 := oB.chg hc1 (.inr (by omega))
        have k4' := k4.chg hc1 (by omega)
        have k5' := k5.chg hc1 (by omega)
        have q2 := k5'.cell' (i := 2) rfl
        have fB := oB2.1.frozenG 5
        have cB := (oB2.1.cellG (j := 5) (by simp [stB_length])).1
        have OA2 := Lib.hid oA2
        have OB2 := Lib.hid oB2
        have K4 := Lib.hid k4'
        have K5 := Lib.hid k5'
        have HC1 := Lib.hid hc1
        clear oA2 oB2 k4' k5' hc1
        have hx := OA2.out
        go_wp2
        have hc2 : Chg W4.heap.size w2.heap.size (wr.setCell ⟨gA, 3, none⟩ (.int .i64 1)) ((wr.setCell ⟨gA, 3, none⟩ (.int .i64 1)).setCell ⟨gB, 5, none⟩ (.int .i64 1)) := chg_set b1 b2
        exact ⟨⟨2, by omega, rfl, K4.out.chg hc2 (by omega), K5.out.chg hc2 (by omega), OA2.out.chg hc2 (.inl (by omega)), OB2.out.put (j := 5) (x := 1) (by simp [I64]), (gW.trans (HC1.out.below (Nat.le_refl _) s6)).trans (hc2.below (by omega) (by simp; omega))⟩, by simp [intOf]⟩
      · subst hN
        obtain ⟨gA, cA, eA, a1, a2, a3⟩ := oA.at_ (by simp [stA_length])
        obtain ⟨gB, cB, eB, b1, b2, b3⟩ := oB.at_ (by simp [stB_length])
        simp only [stA_length] at eA
        simp only [stB_length] at eB
        injection eA with eA1 eA2 eA3
        injection eB with eB1 eB2 eB3
        subst eA1 eA3 eB1 eB3
        have r2 := k4.cell' (i := 2) rfl
        have fA := oA.1.frozenG 0
        have cA := (oA.1.cellG (j := 0) (by simp [stA_length])).1
        have hc1 : Chg W.heap.size w1.heap.size wr (wr.setCell ⟨gA, 0, none⟩ (.int .i64 1)) := chg_set a1 a2
        have oA2 := oA.put (j := 0) (x := 1) (by simp [I64])
        have oB2 := oB.chg hc1 (.inr (by omega))
        have k4' := k4.chg hc1 (by omega)
        have k5' := k5.chg hc1 (by omega)
        have q2 := k5'.cell' (i := 2) rfl
        have fB := oB2.1.frozenG 3
        have cB := (oB2.1.cellG (j := 3) (by simp [stB_length])).1
        have OA2 := Lib.hid oA2
        have OB2 := Lib.hid oB2
        have K4 := Lib.hid k4'
        have K5 := Lib.hid k5'
        have HC1 := Lib.hid hc1
        clear oA2 oB2 k4' k5' hc1
        have hx := OA2.out
        go_wp2
        have hc2 : Chg W4.heap.size w2.heap.size (wr.setCell ⟨gA, 0, none⟩ (.int .i64 1)) ((wr.setCell ⟨gA, 0, none⟩ (.int .i64 1)).setCell ⟨gB, 3, none⟩ (.int .i64 1)) := chg_set b1 b2
        exact ⟨⟨1, by omega, rfl, K4.out.chg hc2 (by omega), K5.out.chg hc2 (by omega), OA2.out.chg hc2 (.inl (by omega)), OB2.out.put (j := 3) (x := 1) (by simp [I64]), (gW.trans (HC1.out.below (Nat.le_refl _) s6)).trans (hc2.below (by omega) (by simp; omega))⟩, by simp [intOf]⟩
      · subst hN
        obtain ⟨gA, cA, eA, a1, a2, a3⟩ := oA.at_ (by simp [stA_length])
        obtain ⟨gB, cB, eB, b1, b2, b3⟩ := oB.at_ (by simp [stB_length])
        simp only [stA_length] at eA
        simp only [stB_length] at eB
        injection eA with eA1 eA2 eA3
        injection eB with eB1 eB2 eB3
        subst eA1 eA3 eB1 eB3
        have r2 := k4.cell' (i := 2) rfl
        have fA := oA.1.frozenG 4
        have cA := (oA.1.cellG (j := 4) (by simp [stA_length])).1
        have hc1 : Chg W.heap.size w1.heap.size wr (wr.setCell ⟨gA, 4, none⟩ (.int .i64 1)) := chg_set a1 a2
        have oA2 := oA.put (j := 4) (x := 1) (by simp [I64])
        have oB2 := oB.chg hc1 (.inr (by omega))
        have k4' := k4.chg hc1 (by omega)
        have k5' := k5.chg hc1 (by omega)
        have q2 := k5'.cell' (i := 2) rfl
        have fB := oB2.1.frozenG 7
        have cB := (oB2.1.cellG (j := 7) (by simp [stB_length])).1
        have OA2 := Lib.hid oA2
        have OB2 := Lib.hid oB2
        have K4 := Lib.hid k4'
        have K5 := Lib.hid k5'
        have HC1 := Lib.hid hc1
        clear oA2 oB2 k4' k5' hc1
        have hx := OA2.out
        go_wp2
        have hc2 : Chg W4.heap.size w2.heap.size (wr.setCell ⟨gA, 4, none⟩ (.int .i64 1)) ((wr.setCell ⟨gA, 4, none⟩ (.int .i64 1)).setCell ⟨gB, 7, none⟩ (.int .i64 1)) := chg_set b1 b2
        exact ⟨⟨2, by omega, rfl, K4.out.chg hc2 (by omega), K5.out.chg hc2 (by omega), OA2.out.chg hc2 (.inl (by omega)), OB2.out.put (j := 7) (x := 1) (by simp [I64]), (gW.trans (HC1.out.below (Nat.le_refl _) s6)).trans (hc2.below (by omega) (by simp; omega))⟩, by simp [intOf]⟩
      · subst hN
        obtain ⟨gA, cA, eA, a1, a2, a3⟩ := oA.at_ (by simp [stA_length])
        obtain ⟨gB, cB, eB, b1, b2, b3⟩ := oB.at_ (by simp [stB_length])
        simp only [stA_length] at eA
        simp only [stB_length] at eB
        injection eA with eA1 eA2 eA3
        injection eB with eB1 eB2 eB3
        subst eA1 eA3 eB1 eB3
        have r2 := k4.cell' (i := 2) rfl
        have fA := oA.1.frozenG 8
        have cA := (oA.1.cellG (j := 8) (by simp [stA_length])).1
        have hc1 : Chg W.heap.size w1.heap.size wr (wr.setCell ⟨gA, 8, none⟩ (.int .i64 1)) := chg_set a1 a2
        have oA2 := oA.put (j := 8) (x := 1) (by simp [I64])
        have oB2 := oB.chg hc1 (.inr (by omega))
        have k4' := k4.chg hc1 (by omega)
        have k5' := k5.chg hc1 (by omega)
        have q2 := k5'.cell' (i := 2) rfl
        have fB := oB2.1.frozenG 11
        have cB := (oB2.1.cellG (j := 11) (by simp [stB_length])).1
        have OA2 := Lib.hid oA2
        have OB2 := Lib.hid oB2
        have K4 := Lib.hid k4'
        have K5 := Lib.hid k5'
        have HC1 := Lib.hid hc1
        clear oA2 oB2 k4' k5' hc1
        have hx := OA2.out
        go_wp2
        have hc2 : Chg W4.heap.size w2.heap.size (wr.setCell ⟨gA, 8, none⟩ (.int .i64 1)) ((wr.setCell ⟨gA, 8, none⟩ (.int .i64 1)).setCell ⟨gB, 11, none⟩ (.int .i64 1)) := chg_set b1 b2
        exact ⟨⟨3, by omega, rfl, K4.out.chg hc2 (by omega), K5.out.chg hc2 (by omega), OA2.out.chg hc2 (.inl (by omega)), OB2.out.put (j := 11) (x := 1) (by simp [I64]), (gW.trans (HC1.out.below (Nat.le_refl _) s6)).trans (hc2.below (by omega) (by simp; omega))⟩, by simp [intOf]⟩
    · obtain rfl : k = n := by omega
      have sz := SZ.out
      have k2 := K2.out.below gW (by omega)
      have k3 := K3.out.below gW (by omega)
      have z0 := k4.cell' (i := 0) rfl
      have z1 := k4.cell' (i := 1) rfl
      have z2 := k4.cell' (i := 2) rfl
      have y0 := k5.cell' (i := 0) rfl
      have y1 := k5.cell' (i := 1) rfl
      have y2 := k5.cell' (i := 2) rfl
      have p0 := k2.cell' (i := 0) rfl
      have p1 := k2.cell' (i := 1) rfl
      have p2 := k2.cell' (i := 2) rfl
      have q0 := k3.cell' (i := 0) rfl
      have q1 := k3.cell' (i := 1) rfl
      have q2 := k3.cell' (i := 2) rfl
      have f2 := k2.frozen
      have f3 := k3.frozen
      have h2 := chg3 wr w.heap.size (.int .i64 ((k : Int) + 1)) (.int .i64 k) (.slice A1 N c1)
      have h3 := chg3 wr (w.heap.size + 1) (.int .i64 ((k : Int) + 1)) (.int .i64 k) (.slice B1 N d1)
      have k52 := k5.chg h2 (by omega)
      have k32 := k3.chg h2 (by omega)
      have k43 := k4.chg h3 (by omega)
      have k23 := k2.chg h3 (by omega)
      have y02 := k52.cell' (i := 0) rfl
      have y12 := k52.cell' (i := 1) rfl
      have y22 := k52.cell' (i := 2) rfl
      have f32 := k32.frozen
      have z03 := k43.cell' (i := 0) rfl
      have z13 := k43.cell' (i := 1) rfl
      have z23 := k43.cell' (i := 2) rfl
      have f23 := k23.frozen
      have hmo : Try.prog.follows .mixedOrders = true := by kernel_rfl
      have OA := Lib.hid oA
      have OB := Lib.hid oB
      have GW := Lib.hid gW
      have HN := Lib.hid hN
      clear oA oB gW hN k2 k3 k4 k5 k52 k32 k43 k23
      go_wp2
      go_region_o
      go_wp2
      have h3 := chg3 (((wr.setCell ⟨w.heap.size, 0, none⟩ (.int .i64 ((k : Int) + 1))).setCell ⟨w.heap.size, 1, none⟩ (.int .i64 k)).setCell ⟨w.heap.size, 2, none⟩ (.slice A1 N c1)) (w.heap.size + 1) (.int .i64 ((k : Int) + 1)) (.int .i64 k) (.slice B1 N d1)
      have gw : Below w.heap.size w wr := g0.trans (GW.out.mono g0.size)
      have gs := gw.size
      have fa := ((OA.out.chg h2 (.inr (by omega))).chg h3 (.inr (by omega))).rd
      have fb := ((OB.out.chg h2 (.inr (by omega))).chg h3 (.inr (by omega))).rd
      have fg := (gw.trans (h2.below (Nat.le_refl _) gs)).trans (h3.below (by omega) (by simp; omega))
      exact bodyPost_ret (v := .tuple #[.agg #[.int .i64 ((k : Int) + 1), .int .i64 k, .slice A1 N c1], .agg #[.int .i64 ((k : Int) + 1), .int .i64 k, .slice B1 N d1]]) (by simp [results, go_sem, p0, p1, p2, q0, q1, q2]) rfl ⟨_, _, rfl, ⟨_, rfl, SlI.next (drew_below _) fa, hr, hc⟩, ⟨_, rfl, SlI.next (drew_below _) fb, hr, hc⟩, fg.drew⟩
end Go.Proofs.Ytbgjhnolnccnnaa
