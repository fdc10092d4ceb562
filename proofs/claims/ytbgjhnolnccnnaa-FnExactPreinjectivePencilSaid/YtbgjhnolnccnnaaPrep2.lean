/- The program's PreprojectivePencil. -/
import Derived.Test.YtbgjhnolnccnnaaPrep
import Derived.Test.YtbgjhnolnccnnaaPenSz
namespace Go.Proofs.Ytbgjhnolnccnnaa
set_option linter.unusedVariables false
set_option linter.unusedSimpArgs false
open Go.RowKit

theorem row_10 (r : Int) (g c : Nat) (w : World) (hc : 2 ≤ c) (hc2 : c ≤ 9223372036854775807) :
    Calls Try.prog 83 #[.agg #[.int .i64 r, .int .i64 1, .slice (some ⟨g, 0, none⟩) 2 c], .int .i64 0] w fun e w' => e = .returned (.slice (some ⟨g, 0, none⟩) 1 (c - 0)) ∧ Below w.heap.size w w' := by
  go_enter Try.func83, Try.ntmps83
  go_wp2
  exact bodyPost_ret (v := .slice (some ⟨g, 0, none⟩) 1 (c - 0)) (by simp [results, go_sem]) rfl ⟨rfl, below_alloc _ _⟩
theorem row_11 (r : Int) (g c : Nat) (w : World) (hc : 2 ≤ c) (hc2 : c ≤ 9223372036854775807) :
    Calls Try.prog 83 #[.agg #[.int .i64 r, .int .i64 1, .slice (some ⟨g, 0, none⟩) 2 c], .int .i64 1] w fun e w' => e = .returned (.slice (some ⟨g, 1, none⟩) 1 (c - 1)) ∧ Below w.heap.size w w' := by
  go_enter Try.func83, Try.ntmps83
  go_wp2
  exact bodyPost_ret (v := .slice (some ⟨g, 1, none⟩) 1 (c - 1)) (by simp [results, go_sem]) rfl ⟨rfl, below_alloc _ _⟩
theorem row_20 (r : Int) (g c : Nat) (w : World) (hc : 6 ≤ c) (hc2 : c ≤ 9223372036854775807) :
    Calls Try.prog 83 #[.agg #[.int .i64 r, .int .i64 2, .slice (some ⟨g, 0, none⟩) 6 c], .int .i64 0] w fun e w' => e = .returned (.slice (some ⟨g, 0, none⟩) 2 (c - 0)) ∧ Below w.heap.size w w' := by
  go_enter Try.func83, Try.ntmps83
  go_wp2
  exact bodyPost_ret (v := .slice (some ⟨g, 0, none⟩) 2 (c - 0)) (by simp [results, go_sem]) rfl ⟨rfl, below_alloc _ _⟩
theorem row_21 (r : Int) (g c : Nat) (w : World) (hc : 6 ≤ c) (hc2 : c ≤ 9223372036854775807) :
    Calls Try.prog 83 #[.agg #[.int .i64 r, .int .i64 2, .slice (some ⟨g, 0, none⟩) 6 c], .int .i64 1] w fun e w' => e = .returned (.slice (some ⟨g, 2, none⟩) 2 (c - 2)) ∧ Below w.heap.size w w' := by
  go_enter Try.func83, Try.ntmps83
  go_wp2
  exact bodyPost_ret (v := .slice (some ⟨g, 2, none⟩) 2 (c - 2)) (by simp [results, go_sem]) rfl ⟨rfl, below_alloc _ _⟩
theorem row_22 (r : Int) (g c : Nat) (w : World) (hc : 6 ≤ c) (hc2 : c ≤ 9223372036854775807) :
    Calls Try.prog 83 #[.agg #[.int .i64 r, .int .i64 2, .slice (some ⟨g, 0, none⟩) 6 c], .int .i64 2] w fun e w' => e = .returned (.slice (some ⟨g, 4, none⟩) 2 (c - 4)) ∧ Below w.heap.size w w' := by
  go_enter Try.func83, Try.ntmps83
  go_wp2
  exact bodyPost_ret (v := .slice (some ⟨g, 4, none⟩) 2 (c - 4)) (by simp [results, go_sem]) rfl ⟨rfl, below_alloc _ _⟩
theorem row_30 (r : Int) (g c : Nat) (w : World) (hc : 12 ≤ c) (hc2 : c ≤ 9223372036854775807) :
    Calls Try.prog 83 #[.agg #[.int .i64 r, .int .i64 3, .slice (some ⟨g, 0, none⟩) 12 c], .int .i64 0] w fun e w' => e = .returned (.slice (some ⟨g, 0, none⟩) 3 (c - 0)) ∧ Below w.heap.size w w' := by
  go_enter Try.func83, Try.ntmps83
  go_wp2
  exact bodyPost_ret (v := .slice (some ⟨g, 0, none⟩) 3 (c - 0)) (by simp [results, go_sem]) rfl ⟨rfl, below_alloc _ _⟩
theorem row_31 (r : Int) (g c : Nat) (w : World) (hc : 12 ≤ c) (hc2 : c ≤ 9223372036854775807) :
    Calls Try.prog 83 #[.agg #[.int .i64 r, .int .i64 3, .slice (some ⟨g, 0, none⟩) 12 c], .int .i64 1] w fun e w' => e = .returned (.slice (some ⟨g, 3, none⟩) 3 (c - 3)) ∧ Below w.heap.size w w' := by
  go_enter Try.func83, Try.ntmps83
  go_wp2
  exact bodyPost_ret (v := .slice (some ⟨g, 3, none⟩) 3 (c - 3)) (by simp [results, go_sem]) rfl ⟨rfl, below_alloc _ _⟩
theorem row_32 (r : Int) (g c : Nat) (w : World) (hc : 12 ≤ c) (hc2 : c ≤ 9223372036854775807) :
    Calls Try.prog 83 #[.agg #[.int .i64 r, .int .i64 3, .slice (some ⟨g, 0, none⟩) 12 c], .int .i64 2] w fun e w' => e = .returned (.slice (some ⟨g, 6, none⟩) 3 (c - 6)) ∧ Below w.heap.size w w' := by
  go_enter Try.func83, Try.ntmps83
  go_wp2
  exact bodyPost_ret (v := .slice (some ⟨g, 6, none⟩) 3 (c - 6)) (by simp [results, go_sem]) rfl ⟨rfl, below_alloc _ _⟩
theorem row_33 (r : Int) (g c : Nat) (w : World) (hc : 12 ≤ c) (hc2 : c ≤ 9223372036854775807) :
    Calls Try.prog 83 #[.agg #[.int .i64 r, .int .i64 3, .slice (some ⟨g, 0, none⟩) 12 c], .int .i64 3] w fun e w' => e = .returned (.slice (some ⟨g, 9, none⟩) 3 (c - 9)) ∧ Below w.heap.size w w' := by
  go_enter Try.func83, Try.ntmps83
  go_wp2
  exact bodyPost_ret (v := .slice (some ⟨g, 9, none⟩) 3 (c - 9)) (by simp [results, go_sem]) rfl ⟨rfl, below_alloc _ _⟩

theorem prepP_noField {p n : Int} (h : isFld p = false) : prepP p n = (rp0, false) := by
  unfold prepP penOf
  split
  · rw [if_neg]
    simp [isRep, penRep, h]
  · rfl


set_option maxHeartbeats 6400000 in
set_option maxRecDepth 100000 in
theorem implPreprojectivePencil_any (p n : Int) (w : World) (hp : I64 p) (hn : I64 n) :
    Calls Try.prog 96 #[.int .i64 p, .int .i64 n] w fun e w' => ∃ r, e = .returned (.tuple #[r, .bool (prepP p n).2]) ∧ RepO w' w.heap.size w'.heap.size r (prepP p n).1 ∧ Below w.heap.size w w' := by
  obtain ⟨W, hW⟩ : ∃ W, W = w.alloc (.cells #[.int .i64 0, .int .i64 0, .slice none 0 0, .slice none 0 0, .slice none 0 0, .slice none 0 0] 40) := ⟨_, rfl⟩
  have g0 : Below w.heap.size w W := by rw [hW]; exact below_alloc _ _
  have kR : Blk W w.heap.size 40 #[.int .i64 0, .int .i64 0, .slice none 0 0, .slice none 0 0, .slice none 0 0, .slice none 0 0] := by rw [hW]; exact Blk.new _ _ _
  have sz : W.heap.size = w.heap.size + 1 := by rw [hW]; simp
  have SZ := Lib.hid sz
  rcases hQ : isFld p with _ | _
  · have hF : Hid (prepP p n = (rp0, false)) := prepP_noField hQ
    have fr := kR.frozen
    have s0 := kR.cell' (i := 0) rfl
    have s1 := kR.cell' (i := 1) rfl
    have s2 := kR.cell' (i := 2) rfl
    have s3 := kR.cell' (i := 3) rfl
    have s4 := kR.cell' (i := 4) rfl
    have s5 := kR.cell' (i := 5) rfl
    have HQ := Lib.hid hQ
    clear hQ sz
    go_enter Try.func96, Try.ntmps96
    go_wp2_with fail
    rw [← hW]; clear hW
    refine (implIsField_any _ _).mono ?_; rintro e w1 ⟨rfl, rfl⟩
    rw [HQ.out]
    go_wp2
    have sz := SZ.out
    refine bodyPost_ret (v := .tuple #[.agg #[.int .i64 0, .int .i64 0, .slice none 0 0, .slice none 0 0, .slice none 0 0, .slice none 0 0], .bool false]) (by simp [results, go_sem, s0, s1, s2, s3, s4, s5]) rfl ⟨_, by rw [hF.out], by rw [hF.out]; exact RepO.zero _ _ _, (((((g0.setCell (by simp) _).setCell (by simp) _).setCell (by simp) _).setCell (by simp) _).setCell (by simp) _).setCell (by simp) _⟩
  rcases hB : inR n 0 3 with _ | _
  · have hF : Hid (prepP p n = (rp0, false)) := by show _ = _; simp [prepP, hB]
    have fr := kR.frozen
    have s0 := kR.cell' (i := 0) rfl
    have s1 := kR.cell' (i := 1) rfl
    have s2 := kR.cell' (i := 2) rfl
    have s3 := kR.cell' (i := 3) rfl
    have s4 := kR.cell' (i := 4) rfl
    have s5 := kR.cell' (i := 5) rfl
    have HB := Lib.hid hB
    have HQ := Lib.hid hQ
    clear hB hQ sz
    go_enter Try.func96, Try.ntmps96
    go_wp2_with fail
    rw [← hW]; clear hW
    refine (implIsField_any _ _).mono ?_; rintro e w1 ⟨rfl, rfl⟩
    rw [HQ.out]
    go_wp2_with fail
    refine (within_any _ _ _ _).mono ?_; rintro e w2 ⟨rfl, rfl⟩
    rw [HB.out]
    go_wp2
    have sz := SZ.out
    refine bodyPost_ret (v := .tuple #[.agg #[.int .i64 0, .int .i64 0, .slice none 0 0, .slice none 0 0, .slice none 0 0, .slice none 0 0], .bool false]) (by simp [results, go_sem, s0, s1, s2, s3, s4, s5]) rfl ⟨_, by rw [hF.out], by rw [hF.out]; exact RepO.zero _ _ _, (((((g0.setCell (by simp) _).setCell (by simp) _).setCell (by simp) _).setCell (by simp) _).setCell (by simp) _).setCell (by simp) _⟩
  · obtain ⟨n1, n2⟩ := inR_t.1 hB
    obtain ⟨N, rfl⟩ := Int.eq_ofNat_of_zero_le n1
    have hF : Hid (prepP p N = penOf p (shA N) (shB N)) := by show _ = _; rw [prepP, hB]; rfl
    have HB := Lib.hid hB
    have HQ := Lib.hid hQ
    clear hB hQ
    have hn1 : wrap64 ((N : Int) + 1) = (N : Int) + 1 := IntWalk.wrap64_in _ ⟨by omega, by omega⟩
    go_enter Try.func96, Try.ntmps96
    go_wp2_with fail
    rw [← hW]; clear hW
    refine (implIsField_any _ _).mono ?_; rintro e w1' ⟨rfl, rfl⟩
    rw [HQ.out]
    go_wp2_with fail
    refine (within_any _ _ _ _).mono ?_; rintro e wq ⟨rfl, rfl⟩
    rw [HB.out]
    go_wp2_with fail
    refine (zero_any ((N : Int) + 1) N wq (by omega) (by omega) (by omega) (by omega)).mono ?_; rintro e wh ⟨v1, rfl, ⟨sA, rfl, oA, hr, hc⟩, hb1⟩
    rw [zmx_shift] at oA hr hc ⊢
    simp only at oA hr hc ⊢
    obtain ⟨A1, c1, e1⟩ := oA.form
    rw [stA_length] at e1
    obtain ⟨L, hL⟩ : ∃ L, (N + 1) * N = L := ⟨_, rfl⟩
    rw [hL] at e1
    subst e1
    go_wp2_with fail
    refine (zero_any ((N : Int) + 1) N wh (by omega) (by omega) (by omega) (by omega)).mono ?_; rintro e wi ⟨v2, rfl, ⟨sB, rfl, oB, _, _⟩, hb2⟩
    rw [zmx_shift] at oB ⊢
    simp only at oB ⊢
    obtain ⟨B1, d1, e1⟩ := oB.form
    rw [stA_length, hL] at e1
    subst e1
    go_wp2
    obtain ⟨W5, hW5⟩ : ∃ u, u = (wi.alloc (.cells #[.int .i64 ((N : Int) + 1), .int .i64 N, .slice A1 L c1] 60)).alloc (.cells #[.int .i64 ((N : Int) + 1), .int .i64 N, .slice B1 L d1] 60) := ⟨_, rfl⟩
    rw [← hW5]
    have b5 : Below wi.heap.size wi W5 := by rw [hW5]; exact ((Below.refl _ _).alloc (Nat.le_refl _) _).alloc (by simp) _
    have k6 : Blk W5 wi.heap.size 60 #[.int .i64 ((N : Int) + 1), .int .i64 N, .slice A1 L c1] := by rw [hW5]; exact (Blk.new _ _ _).alloc _
    have k7 : Blk W5 (wi.heap.size + 1) 60 #[.int .i64 ((N : Int) + 1), .int .i64 N, .slice B1 L d1] := by
      rw [hW5]
      have := Blk.new (wi.alloc (.cells #[.int .i64 ((N : Int) + 1), .int .i64 N, .slice A1 L c1] 60)) 60 #[.int .i64 ((N : Int) + 1), .int .i64 N, .slice B1 L d1]
      simpa only [World.size_alloc] using this
    clear hW5
    have oA := (oA.below hb2).below b5
    have oB := oB.below b5
    have s1 := hb1.size
    have s2 := hb2.size
    have s5 := b5.size
    have gW : Below wq.heap.size wq W5 := bthen (bthen hb1 hb2) b5
    clear b5 hb1 hb2
    have HF := Lib.hid hF
    go_loopw [8, 27] (fun q i wr => ∃ k : Nat, k ≤ N ∧ i = .int .i64 k ∧ Blk wr wi.heap.size 60 #[.int .i64 ((N : Int) + 1), .int .i64 N, .slice A1 L c1] ∧ Blk wr (wi.heap.size + 1) 60 #[.int .i64 ((N : Int) + 1), .int .i64 N, .slice B1 L d1] ∧ IntsO wr wq.heap.size wh.heap.size (.slice A1 L c1) (stA N k) ∧ IntsO wr wh.heap.size wi.heap.size (.slice B1 L d1) (stB N k) ∧ Below wq.heap.size wq wr) (fun _ i _ => N - (intOf i).toNat)
    case atStart => exact ⟨0, Nat.zero_le _, rfl, k6, k7, oA, oB, gW⟩
    case round =>
      clear k6 k7 oA oB gW
      obtain ⟨k, hk, rfl, k6, k7, oA, oB, gW⟩ := hrel
      have s6 := gW.size
      by_cases hlt : k < N
      · have hcase : (N = 1 ∧ k = 0) ∨ (N = 2 ∧ k = 0) ∨ (N = 2 ∧ k = 1) ∨ (N = 3 ∧ k = 0) ∨ (N = 3 ∧ k = 1) ∨ (N = 3 ∧ k = 2) := by omega
        rcases hcase with ⟨rfl, rfl⟩ | ⟨rfl, rfl⟩ | ⟨rfl, rfl⟩ | ⟨rfl, rfl⟩ | ⟨rfl, rfl⟩ | ⟨rfl, rfl⟩
        · subst hL
          obtain ⟨gA, cA, eA, a1, a2, a3⟩ := oA.at_ (by simp [stA_length])
          obtain ⟨gB, cB, eB, b1, b2, b3⟩ := oB.at_ (by simp [stB_length])
          simp only [stA_length] at eA
          simp only [stB_length] at eB
          injection eA with eA1 eA2 eA3
          injection eB with eB1 eB2 eB3
          subst eA1 eA3 eB1 eB3
          have z0 := k6.cell' (i := 0) rfl
          have z1 := k6.cell' (i := 1) rfl
          have z2 := k6.cell' (i := 2) rfl
          obtain ⟨_, cLA, eLA, lA1, lA2⟩ := oA.1.form
          injection eLA with eLx eLy eLA3
          rw [← eLA3] at lA1 lA2
          clear eLx eLy eLA3
          simp only [stA_length] at lA1
          obtain ⟨_, cLB, eLB, lB1, lB2⟩ := oB.1.form
          injection eLB with eLx eLy eLB3
          rw [← eLB3] at lB1 lB2
          clear eLx eLy eLB3
          simp only [stB_length] at lB1
          go_wp2_with fail
          refine (row_10 _ _ _ _ lA1 lA2).mono ?_; rintro e w7 ⟨rfl, hb7⟩
          have k6' := k6.call hb7
          have k7' := k7.call hb7
          have oA' := oA.below hb7
          have oB' := oB.below hb7
          have gW' := bthen gW hb7
          have s7 := hb7.size
          clear k6 k7 oA oB gW hb7 z0 z1 z2
          have fA := oA'.1.frozenG 0
          have hc1 : Chg wq.heap.size wh.heap.size w7 (w7.setCell ⟨gA, 0, none⟩ (.int .i64 1)) := chg_set a1 a2
          have oA2 := oA'.put (j := 0) (x := 1) (by simp [I64])
          have oB2 := oB'.chg hc1 (.inr (by omega))
          have k62 := k6'.chg hc1 (by omega)
          have k72 := k7'.chg hc1 (by omega)
          have gW2 := gW'.trans (hc1.below (by omega) (by omega))
          have cAA := (oA'.1.cellG (j := 0) (by simp [stA_length])).1
          obtain ⟨X1, hX1⟩ : ∃ u, u = w7.setCell ⟨gA, 0, none⟩ (.int .i64 1) := ⟨_, rfl⟩
          have y0 := k72.cell' (i := 0) rfl
          have y1 := k72.cell' (i := 1) rfl
          have y2 := k72.cell' (i := 2) rfl
          rw [← hX1] at oA2 oB2 k62 k72 gW2
          have sX1 : X1.heap.size = w7.heap.size := by rw [hX1]; simp
          clear oA' oB' k6' k7' gW' hc1
          go_wp2_with fail
          rw [← hX1]
          clear hX1 fA cAA y0 y1 y2
          refine (row_11 _ _ _ _ lB1 lB2).mono ?_; rintro e w8 ⟨rfl, hb8⟩
          have k6' := k62.call hb8
          have k7' := k72.call hb8
          have oA' := oA2.below hb8
          have oB' := oB2.below hb8
          have gW' := bthen gW2 hb8
          have s8 := hb8.size
          clear k62 k72 oA2 oB2 gW2 hb8
          have fB := oB'.1.frozenG 1
          have cBB := (oB'.1.cellG (j := 1) (by simp [stB_length])).1
          have hc2 : Chg wh.heap.size wi.heap.size w8 (w8.setCell ⟨gB, 1, none⟩ (.int .i64 1)) := chg_set b1 b2
          go_wp2
          exact ⟨⟨_, _, _, _, _, _, _, _, _, _, _, _, _, _, _, _, ⟨1, by omega, rfl, k6'.chg hc2 (by omega), k7'.chg hc2 (by omega), oA'.chg hc2 (.inl (by omega)), oB'.put (j := 1) (x := 1) (by simp [I64]), gW'.trans (hc2.below (by omega) (by omega))⟩, rfl⟩, by simp [intOf]⟩
        · subst hL
          obtain ⟨gA, cA, eA, a1, a2, a3⟩ := oA.at_ (by simp [stA_length])
          obtain ⟨gB, cB, eB, b1, b2, b3⟩ := oB.at_ (by simp [stB_length])
          simp only [stA_length] at eA
          simp only [stB_length] at eB
          injection eA with eA1 eA2 eA3
          injection eB with eB1 eB2 eB3
          subst eA1 eA3 eB1 eB3
          have z0 := k6.cell' (i := 0) rfl
          have z1 := k6.cell' (i := 1) rfl
          have z2 := k6.cell' (i := 2) rfl
          obtain ⟨_, cLA, eLA, lA1, lA2⟩ := oA.1.form
          injection eLA with eLx eLy eLA3
          rw [← eLA3] at lA1 lA2
          clear eLx eLy eLA3
          simp only [stA_length] at lA1
          obtain ⟨_, cLB, eLB, lB1, lB2⟩ := oB.1.form
          injection eLB with eLx eLy eLB3
          rw [← eLB3] at lB1 lB2
          clear eLx eLy eLB3
          simp only [stB_length] at lB1
          go_wp2_with fail
          refine (row_20 _ _ _ _ lA1 lA2).mono ?_; rintro e w7 ⟨rfl, hb7⟩
          have k6' := k6.call hb7
          have k7' := k7.call hb7
          have oA' := oA.below hb7
          have oB' := oB.below hb7
          have gW' := bthen gW hb7
          have s7 := hb7.size
          clear k6 k7 oA oB gW hb7 z0 z1 z2
          have fA := oA'.1.frozenG 0
          have hc1 : Chg wq.heap.size wh.heap.size w7 (w7.setCell ⟨gA, 0, none⟩ (.int .i64 1)) := chg_set a1 a2
          have oA2 := oA'.put (j := 0) (x := 1) (by simp [I64])
          have oB2 := oB'.chg hc1 (.inr (by omega))
          have k62 := k6'.chg hc1 (by omega)
          have k72 := k7'.chg hc1 (by omega)
          have gW2 := gW'.trans (hc1.below (by omega) (by omega))
          have cAA := (oA'.1.cellG (j := 0) (by simp [stA_length])).1
          obtain ⟨X1, hX1⟩ : ∃ u, u = w7.setCell ⟨gA, 0, none⟩ (.int .i64 1) := ⟨_, rfl⟩
          have y0 := k72.cell' (i := 0) rfl
          have y1 := k72.cell' (i := 1) rfl
          have y2 := k72.cell' (i := 2) rfl
          rw [← hX1] at oA2 oB2 k62 k72 gW2
          have sX1 : X1.heap.size = w7.heap.size := by rw [hX1]; simp
          clear oA' oB' k6' k7' gW' hc1
          go_wp2_with fail
          rw [← hX1]
          clear hX1 fA cAA y0 y1 y2
          refine (row_21 _ _ _ _ lB1 lB2).mono ?_; rintro e w8 ⟨rfl, hb8⟩
          have k6' := k62.call hb8
          have k7' := k72.call hb8
          have oA' := oA2.below hb8
          have oB' := oB2.below hb8
          have gW' := bthen gW2 hb8
          have s8 := hb8.size
          clear k62 k72 oA2 oB2 gW2 hb8
          have fB := oB'.1.frozenG 2
          have cBB := (oB'.1.cellG (j := 2) (by simp [stB_length])).1
          have hc2 : Chg wh.heap.size wi.heap.size w8 (w8.setCell ⟨gB, 2, none⟩ (.int .i64 1)) := chg_set b1 b2
          go_wp2
          exact ⟨⟨_, _, _, _, _, _, _, _, _, _, _, _, _, _, _, _, ⟨1, by omega, rfl, k6'.chg hc2 (by omega), k7'.chg hc2 (by omega), oA'.chg hc2 (.inl (by omega)), oB'.put (j := 2) (x := 1) (by simp [I64]), gW'.trans (hc2.below (by omega) (by omega))⟩, rfl⟩, by simp [intOf]⟩
        · subst hL
          obtain ⟨gA, cA, eA, a1, a2, a3⟩ := oA.at_ (by simp [stA_length])
          obtain ⟨gB, cB, eB, b1, b2, b3⟩ := oB.at_ (by simp [stB_length])
          simp only [stA_length] at eA
          simp only [stB_length] at eB
          injection eA with eA1 eA2 eA3
          injection eB with eB1 eB2 eB3
          subst eA1 eA3 eB1 eB3
          have z0 := k6.cell' (i := 0) rfl
          have z1 := k6.cell' (i := 1) rfl
          have z2 := k6.cell' (i := 2) rfl
          obtain ⟨_, cLA, eLA, lA1, lA2⟩ := oA.1.form
          injection eLA with eLx eLy eLA3
          rw [← eLA3] at lA1 lA2
          clear eLx eLy eLA3
          simp only [stA_length] at lA1
          obtain ⟨_, cLB, eLB, lB1, lB2⟩ := oB.1.form
          injection eLB with eLx eLy eLB3
          rw [← eLB3] at lB1 lB2
          clear eLx eLy eLB3
          simp only [stB_length] at lB1
          go_wp2_with fail
          refine (row_21 _ _ _ _ lA1 lA2).mono ?_; rintro e w7 ⟨rfl, hb7⟩
          have k6' := k6.call hb7
          have k7' := k7.call hb7
          have oA' := oA.below hb7
          have oB' := oB.below hb7
          have gW' := bthen gW hb7
          have s7 := hb7.size
          clear k6 k7 oA oB gW hb7 z0 z1 z2
          have fA := oA'.1.frozenG 3
          have hc1 : Chg wq.heap.size wh.heap.size w7 (w7.setCell ⟨gA, 3, none⟩ (.int .i64 1)) := chg_set a1 a2
          have oA2 := oA'.put (j := 3) (x := 1) (by simp [I64])
          have oB2 := oB'.chg hc1 (.inr (by omega))
          have k62 := k6'.chg hc1 (by omega)
          have k72 := k7'.chg hc1 (by omega)
          have gW2 := gW'.trans (hc1.below (by omega) (by omega))
          have cAA := (oA'.1.cellG (j := 3) (by simp [stA_length])).1
          obtain ⟨X1, hX1⟩ : ∃ u, u = w7.setCell ⟨gA, 3, none⟩ (.int .i64 1) := ⟨_, rfl⟩
          have y0 := k72.cell' (i := 0) rfl
          have y1 := k72.cell' (i := 1) rfl
          have y2 := k72.cell' (i := 2) rfl
          rw [← hX1] at oA2 oB2 k62 k72 gW2
          have sX1 : X1.heap.size = w7.heap.size := by rw [hX1]; simp
          clear oA' oB' k6' k7' gW' hc1
          go_wp2_with fail
          rw [← hX1]
          clear hX1 fA cAA y0 y1 y2
          refine (row_22 _ _ _ _ lB1 lB2).mono ?_; rintro e w8 ⟨rfl, hb8⟩
          have k6' := k62.call hb8
          have k7' := k72.call hb8
          have oA' := oA2.below hb8
          have oB' := oB2.below hb8
          have gW' := bthen gW2 hb8
          have s8 := hb8.size
          clear k62 k72 oA2 oB2 gW2 hb8
          have fB := oB'.1.frozenG 5
          have cBB := (oB'.1.cellG (j := 5) (by simp [stB_length])).1
          have hc2 : Chg wh.heap.size wi.heap.size w8 (w8.setCell ⟨gB, 5, none⟩ (.int .i64 1)) := chg_set b1 b2
          go_wp2
          exact ⟨⟨_, _, _, _, _, _, _, _, _, _, _, _, _, _, _, _, ⟨2, by omega, rfl, k6'.chg hc2 (by omega), k7'.chg hc2 (by omega), oA'.chg hc2 (.inl (by omega)), oB'.put (j := 5) (x := 1) (by simp [I64]), gW'.trans (hc2.below (by omega) (by omega))⟩, rfl⟩, by simp [intOf]⟩
        · subst hL
          obtain ⟨gA, cA, eA, a1, a2, a3⟩ := oA.at_ (by simp [stA_length])
          obtain ⟨gB, cB, eB, b1, b2, b3⟩ := oB.at_ (by simp [stB_length])
          simp only [stA_length] at eA
          simp only [stB_length] at eB
          injection eA with eA1 eA2 eA3
          injection eB with eB1 eB2 eB3
          subst eA1 eA3 eB1 eB3
          have z0 := k6.cell' (i := 0) rfl
          have z1 := k6.cell' (i := 1) rfl
          have z2 := k6.cell' (i := 2) rfl
          obtain ⟨_, cLA, eLA, lA1, lA2⟩ := oA.1.form
          injection eLA with eLx eLy eLA3
          rw [← eLA3] at lA1 lA2
          clear eLx eLy eLA3
          simp only [stA_length] at lA1
          obtain ⟨_, cLB, eLB, lB1, lB2⟩ := oB.1.form
          injection eLB with eLx eLy eLB3
          rw [← eLB3] at lB1 lB2
          clear eLx eLy eLB3
          simp only [stB_length] at lB1
          go_wp2_with fail
          refine (row_30 _ _ _ _ lA1 lA2).mono ?_; rintro e w7 ⟨rfl, hb7⟩
          have k6' := k6.call hb7
          have k7' := k7.call hb7
          have oA' := oA.below hb7
          have oB' := oB.below hb7
          have gW' := bthen gW hb7
          have s7 := hb7.size
          clear k6 k7 oA oB gW hb7 z0 z1 z2
          have fA := oA'.1.frozenG 0
          have hc1 : Chg wq.heap.size wh.heap.size w7 (w7.setCell ⟨gA, 0, none⟩ (.int .i64 1)) := chg_set a1 a2
          have oA2 := oA'.put (j := 0) (x := 1) (by simp [I64])
          have oB2 := oB'.chg hc1 (.inr (by omega))
          have k62 := k6'.chg hc1 (by omega)
          have k72 := k7'.chg hc1 (by omega)
          have gW2 := gW'.trans (hc1.below (by omega) (by omega))
          have cAA := (oA'.1.cellG (j := 0) (by simp [stA_length])).1
          obtain ⟨X1, hX1⟩ : ∃ u, u = w7.setCell ⟨gA, 0, none⟩ (.int .i64 1) := ⟨_, rfl⟩
          have y0 := k72.cell' (i := 0) rfl
          have y1 := k72.cell' (i := 1) rfl
          have y2 := k72.cell' (i := 2) rfl
          rw [← hX1] at oA2 oB2 k62 k72 gW2
          have sX1 : X1.heap.size = w7.heap.size := by rw [hX1]; simp
          clear oA' oB' k6' k7' gW' hc1
          go_wp2_with fail
          rw [← hX1]
          clear hX1 fA cAA y0 y1 y2
          refine (row_31 _ _ _ _ lB1 lB2).mono ?_; rintro e w8 ⟨rfl, hb8⟩
          have k6' := k62.call hb8
          have k7' := k72.call hb8
          have oA' := oA2.below hb8
          have oB' := oB2.below hb8
          have gW' := bthen gW2 hb8
          have s8 := hb8.size
          clear k62 k72 oA2 oB2 gW2 hb8
          have fB := oB'.1.frozenG 3
          have cBB := (oB'.1.cellG (j := 3) (by simp [stB_length])).1
          have hc2 : Chg wh.heap.size wi.heap.size w8 (w8.setCell ⟨gB, 3, none⟩ (.int .i64 1)) := chg_set b1 b2
          go_wp2
          exact ⟨⟨_, _, _, _, _, _, _, _, _, _, _, _, _, _, _, _, ⟨1, by omega, rfl, k6'.chg hc2 (by omega), k7'.chg hc2 (by omega), oA'.chg hc2 (.inl (by omega)), oB'.put (j := 3) (x := 1) (by simp [I64]), gW'.trans (hc2.below (by omega) (by omega))⟩, rfl⟩, by simp [intOf]⟩
        · subst hL
          obtain ⟨gA, cA, eA, a1, a2, a3⟩ := oA.at_ (by simp [stA_length])
          obtain ⟨gB, cB, eB, b1, b2, b3⟩ := oB.at_ (by simp [stB_length])
          simp only [stA_length] at eA
          simp only [stB_length] at eB
          injection eA with eA1 eA2 eA3
          injection eB with eB1 eB2 eB3
          subst eA1 eA3 eB1 eB3
          have z0 := k6.cell' (i := 0) rfl
          have z1 := k6.cell' (i := 1) rfl
          have z2 := k6.cell' (i := 2) rfl
          obtain ⟨_, cLA, eLA, lA1, lA2⟩ := oA.1.form
          injection eLA with eLx eLy eLA3
          rw [← eLA3] at lA1 lA2
          clear eLx eLy eLA3
          simp only [stA_length] at lA1
          obtain ⟨_, cLB, eLB, lB1, lB2⟩ := oB.1.form
          injection eLB with eLx eLy eLB3
          rw [← eLB3] at lB1 lB2
          clear eLx eLy eLB3
          simp only [stB_length] at lB1
          go_wp2_with fail
          refine (row_31 _ _ _ _ lA1 lA2).mono ?_; rintro e w7 ⟨rfl, hb7⟩
          have k6' := k6.call hb7
          have k7' := k7.call hb7
          have oA' := oA.below hb7
          have oB' := oB.below hb7
          have gW' := bthen gW hb7
          have s7 := hb7.size
          clear k6 k7 oA oB gW hb7 z0 z1 z2
          have fA := oA'.1.frozenG 4
          have hc1 : Chg wq.heap.size wh.heap.size w7 (w7.setCell ⟨gA, 4, none⟩ (.int .i64 1)) := chg_set a1 a2
          have oA2 := oA'.put (j := 4) (x := 1) (by simp [I64])
          have oB2 := oB'.chg hc1 (.inr (by omega))
          have k62 := k6'.chg hc1 (by omega)
          have k72 := k7'.chg hc1 (by omega)
          have gW2 := gW'.trans (hc1.below (by omega) (by omega))
          have cAA := (oA'.1.cellG (j := 4) (by simp [stA_length])).1
          obtain ⟨X1, hX1⟩ : ∃ u, u = w7.setCell ⟨gA, 4, none⟩ (.int .i64 1) := ⟨_, rfl⟩
          have y0 := k72.cell' (i := 0) rfl
          have y1 := k72.cell' (i := 1) rfl
          have y2 := k72.cell' (i := 2) rfl
          rw [← hX1] at oA2 oB2 k62 k72 gW2
          have sX1 : X1.heap.size = w7.heap.size := by rw [hX1]; simp
          clear oA' oB' k6' k7' gW' hc1
          go_wp2_with fail
          rw [← hX1]
          clear hX1 fA cAA y0 y1 y2
          refine (row_32 _ _ _ _ lB1 lB2).mono ?_; rintro e w8 ⟨rfl, hb8⟩
          have k6' := k62.call hb8
          have k7' := k72.call hb8
          have oA' := oA2.below hb8
          have oB' := oB2.below hb8
          have gW' := bthen gW2 hb8
          have s8 := hb8.size
          clear k62 k72 oA2 oB2 gW2 hb8
          have fB := oB'.1.frozenG 7
          have cBB := (oB'.1.cellG (j := 7) (by simp [stB_length])).1
          have hc2 : Chg wh.heap.size wi.heap.size w8 (w8.setCell ⟨gB, 7, none⟩ (.int .i64 1)) := chg_set b1 b2
          go_wp2
          exact ⟨⟨_, _, _, _, _, _, _, _, _, _, _, _, _, _, _, _, ⟨2, by omega, rfl, k6'.chg hc2 (by omega), k7'.chg hc2 (by omega), oA'.chg hc2 (.inl (by omega)), oB'.put (j := 7) (x := 1) (by simp [I64]), gW'.trans (hc2.below (by omega) (by omega))⟩, rfl⟩, by simp [intOf]⟩
        · subst hL
          obtain ⟨gA, cA, eA, a1, a2, a3⟩ := oA.at_ (by simp [stA_length])
          obtain ⟨gB, cB, eB, b1, b2, b3⟩ := oB.at_ (by simp [stB_length])
          simp only [stA_length] at eA
          simp only [stB_length] at eB
          injection eA with eA1 eA2 eA3
          injection eB with eB1 eB2 eB3
          subst eA1 eA3 eB1 eB3
          have z0 := k6.cell' (i := 0) rfl
          have z1 := k6.cell' (i := 1) rfl
          have z2 := k6.cell' (i := 2) rfl
          obtain ⟨_, cLA, eLA, lA1, lA2⟩ := oA.1.form
          injection eLA with eLx eLy eLA3
          rw [← eLA3] at lA1 lA2
          clear eLx eLy eLA3
          simp only [stA_length] at lA1
          obtain ⟨_, cLB, eLB, lB1, lB2⟩ := oB.1.form
          injection eLB with eLx eLy eLB3
          rw [← eLB3] at lB1 lB2
          clear eLx eLy eLB3
          simp only [stB_length] at lB1
          go_wp2_with fail
          refine (row_32 _ _ _ _ lA1 lA2).mono ?_; rintro e w7 ⟨rfl, hb7⟩
          have k6' := k6.call hb7
          have k7' := k7.call hb7
          have oA' := oA.below hb7
          have oB' := oB.below hb7
          have gW' := bthen gW hb7
          have s7 := hb7.size
          clear k6 k7 oA oB gW hb7 z0 z1 z2
          have fA := oA'.1.frozenG 8
          have hc1 : Chg wq.heap.size wh.heap.size w7 (w7.setCell ⟨gA, 8, none⟩ (.int .i64 1)) := chg_set a1 a2
          have oA2 := oA'.put (j := 8) (x := 1) (by simp [I64])
          have oB2 := oB'.chg hc1 (.inr (by omega))
          have k62 := k6'.chg hc1 (by omega)
          have k72 := k7'.chg hc1 (by omega)
          have gW2 := gW'.trans (hc1.below (by omega) (by omega))
          have cAA := (oA'.1.cellG (j := 8) (by simp [stA_length])).1
          obtain ⟨X1, hX1⟩ : ∃ u, u = w7.setCell ⟨gA, 8, none⟩ (.int .i64 1) := ⟨_, rfl⟩
          have y0 := k72.cell' (i := 0) rfl
          have y1 := k72.cell' (i := 1) rfl
          have y2 := k72.cell' (i := 2) rfl
          rw [← hX1] at oA2 oB2 k62 k72 gW2
          have sX1 : X1.heap.size = w7.heap.size := by rw [hX1]; simp
          clear oA' oB' k6' k7' gW' hc1
          go_wp2_with fail
          rw [← hX1]
          clear hX1 fA cAA y0 y1 y2
          refine (row_33 _ _ _ _ lB1 lB2).mono ?_; rintro e w8 ⟨rfl, hb8⟩
          have k6' := k62.call hb8
          have k7' := k72.call hb8
          have oA' := oA2.below hb8
          have oB' := oB2.below hb8
          have gW' := bthen gW2 hb8
          have s8 := hb8.size
          clear k62 k72 oA2 oB2 gW2 hb8
          have fB := oB'.1.frozenG 11
          have cBB := (oB'.1.cellG (j := 11) (by simp [stB_length])).1
          have hc2 : Chg wh.heap.size wi.heap.size w8 (w8.setCell ⟨gB, 11, none⟩ (.int .i64 1)) := chg_set b1 b2
          go_wp2
          exact ⟨⟨_, _, _, _, _, _, _, _, _, _, _, _, _, _, _, _, ⟨3, by omega, rfl, k6'.chg hc2 (by omega), k7'.chg hc2 (by omega), oA'.chg hc2 (.inl (by omega)), oB'.put (j := 11) (x := 1) (by simp [I64]), gW'.trans (hc2.below (by omega) (by omega))⟩, rfl⟩, by simp [intOf]⟩
      · obtain rfl : k = N := by omega
        have z0 := k6.cell' (i := 0) rfl
        have z1 := k6.cell' (i := 1) rfl
        have z2 := k6.cell' (i := 2) rfl
        have y0 := k7.cell' (i := 0) rfl
        have y1 := k7.cell' (i := 1) rfl
        have y2 := k7.cell' (i := 2) rfl
        have ha : MxR wr wr.heap.size (.agg #[.int .i64 ((k : Int) + 1), .int .i64 k, .slice A1 L c1]) (shA k) := ⟨_, rfl, oA.rd, hr, hc⟩
        have hb : MxR wr wr.heap.size (.agg #[.int .i64 ((k : Int) + 1), .int .i64 k, .slice B1 L d1]) (shB k) := ⟨_, rfl, oB.rd, hr, hc⟩
        go_wp2_with fail
        refine (implPencilOf_any p _ (shA k) _ (shB k) wr hp ha hb).mono ?_; rintro e w2 ⟨r, rfl, ho, hb3⟩
        have g2 := bthen gW hb3
        have gX := g0.trans (g2.mono g0.size)
        have sz := SZ.out
        have s3 := hb3.size
        have kX := kR.call g2
        generalize penOf p (shA k) (shB k) = R at *
        obtain ⟨RA, ra, RC, rc, RE, re, RH, rh, er⟩ := ho.form
        subst er
        have fr := kX.frozen
        have p0 := kX.cell' (i := 0) rfl
        have p1 := kX.cell' (i := 1) rfl
        have p2 := kX.cell' (i := 2) rfl
        have p3 := kX.cell' (i := 3) rfl
        have p4 := kX.cell' (i := 4) rfl
        have p5 := kX.cell' (i := 5) rfl
        have hc6 := chg6 w2 w.heap.size (.int .i64 R.1.p) (.int .i64 R.1.q.v) (.slice RA R.1.q.f.length ra) (.slice RC R.1.q.t.length rc) (.slice RE R.1.d.length re) (.slice RH R.1.m.length rh)
        have OF := Lib.hid (RepO.wider (ho.chg hc6 (.inr (by omega))) (lo' := w.heap.size) (by omega) (hi' := w2.heap.size) (by omega))
        have GF := Lib.hid (gX.trans (hc6.below (Nat.le_refl _) gX.size))
        clear ho hc6 gX g2 hb3 kX kR ha hb k6 k7 oA oB gW z0 z1 z2 y0 y1 y2 s3 hF
        go_wp2
        exact bodyPost_ret (v := .tuple #[.agg #[.int .i64 R.1.p, .int .i64 R.1.q.v, .slice RA R.1.q.f.length ra, .slice RC R.1.q.t.length rc, .slice RE R.1.d.length re, .slice RH R.1.m.length rh], .bool R.2]) (by simp [results, go_sem, p0, p1, p2, p3, p4, p5]) rfl ⟨_, by rw [HF.out.out], by rw [HF.out.out]; exact RepO.wider OF.out (Nat.le_refl _) (by simp), GF.out⟩
theorem prepP_size (p n : Int) : (prepP p n).1.size ≤ 1000 := by
  unfold prepP
  split
  · exact penOf_size _ _ _
  · decide
end Go.Proofs.Ytbgjhnolnccnnaa
