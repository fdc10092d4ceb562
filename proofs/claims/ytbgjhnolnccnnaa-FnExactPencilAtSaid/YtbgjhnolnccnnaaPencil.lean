/- Equal quivers, the quiver of pencils, the two IsPencil. -/
import Derived.Test.YtbgjhnolnccnnaaMat3
namespace Go.Proofs.Ytbgjhnolnccnnaa
set_option linter.unusedVariables false
set_option linter.unusedSimpArgs false
open Go.RowKit

set_option maxHeartbeats 400000 in
theorem slEqual_any (u v : Value) (xs ys : List Int) (w : World) (hu : SlI w w.heap.size u xs) (hv : SlI w w.heap.size v ys) :
    Calls Try.prog 90 #[u, v] w fun e w' => e = .returned (.bool (decide (xs = ys))) ∧ Below w.heap.size w w' := by
  obtain ⟨A, c, rfl, _, _, hn, hx⟩ := hu.open_
  obtain ⟨C, d, rfl, _, _, hm, hy⟩ := hv.open_
  clear hu hv
  by_cases hnm : xs.length = ys.length
  · have heq : ((xs.length : Int) != ys.length) = false := by rw [bne_eq_false_iff_eq]; omega
    have HN := Lib.hid hnm
    clear hnm
    go_enter Try.func90, Try.ntmps90
    go_wp2
    go_loopw [5, 13] (fun _ i wr => ∃ k q : Nat, k ≤ xs.length ∧ i = .int .i64 k ∧ wr = w.drewN q ∧ Hid (xs.take k = ys.take k)) (fun _ i _ => xs.length - (intOf i).toNat)
    case atStart => exact ⟨0, 0, Nat.zero_le _, rfl, rfl, rfl⟩
    case round =>
      obtain ⟨k, q, hk, rfl, rfl, hxy⟩ := hrel
      by_cases hlt : k < xs.length
      · have hlt' : k < ys.length := by have := HN.out; omega
        obtain ⟨b, o, x, rfl, hb, HX, c1, _⟩ := SlI.at_ hx hlt
        obtain ⟨b', o', x', rfl, hb', HX', c1', _⟩ := SlI.at_ hy hlt'
        clear hx hy
        by_cases hE : x = x'
        · subst hE
          go_wp2
          go_quiet (fail)
          go_wp2
          go_roundw
          case rel =>
            refine ⟨k + 1, q + nq, by omega, by go_num, rfl, ?_⟩
            show _ = _
            rw [take_snoc HX.out, take_snoc HX'.out, hxy.out]
          case measure => simp [intOf]; omega
        · have hne : (x != x') = true := by simpa using hE
          have hxy' : Hid (xs ≠ ys) := by
            rintro rfl
            have h2 := HX.out
            rw [HX'.out] at h2
            exact hE (by injection h2 with h2; exact h2.symm)
          clear hE
          go_wp2
          go_quiet (fail)
          go_wp2
          go_ret
          exact ⟨by rw [decide_eq_false hxy'.out]; rfl, below_drewN (drewN_below _ _ _) _⟩
      · go_wp2
        go_ret
        refine ⟨?_, drewN_below _ _ _⟩
        have h1 := hxy.out
        rw [List.take_of_length_le (by omega), List.take_of_length_le (by have := HN.out; omega)] at h1
        simp [h1]
  · have hne : ((xs.length : Int) != ys.length) = true := by rw [bne_iff_ne]; omega
    go_enter Try.func90, Try.ntmps90
    go_wp2
    go_ret
    refine ⟨?_, Below.refl _ _⟩
    rw [decide_eq_false (by rintro rfl; omega)]; rfl
set_option maxHeartbeats 400000 in
theorem l6Same_any (u v : Value) (xs ys : List Int) (w : World) (hu : SlI w w.heap.size u xs) (hv : SlI w w.heap.size v ys) :
    Calls Try.prog 87 #[u, v] w fun e w' => e = .returned (.bool (decide (xs = ys))) ∧ Below w.heap.size w w' := by
  obtain ⟨A, c, rfl, _, _, hn, hx⟩ := hu.open_
  obtain ⟨C, d, rfl, _, _, hm, hy⟩ := hv.open_
  clear hu hv
  by_cases hnm : xs.length = ys.length
  · have heq : ((xs.length : Int) != ys.length) = false := by rw [bne_eq_false_iff_eq]; omega
    have HN := Lib.hid hnm
    clear hnm
    go_enter Try.func87, Try.ntmps87
    go_wp2
    go_loopw [5] (fun i wr => ∃ k q : Nat, k ≤ xs.length ∧ i = .int .i64 k ∧ wr = w.drewN q ∧ Hid (xs.take k = ys.take k)) (fun i _ => xs.length - (intOf i).toNat)
    case atStart => exact ⟨0, 0, Nat.zero_le _, rfl, rfl, rfl⟩
    case round =>
      obtain ⟨k, q, hk, rfl, rfl, hxy⟩ := hrel
      by_cases hlt : k < xs.length
      · have hlt' : k < ys.length := by have := HN.out; omega
        obtain ⟨b, o, x, rfl, hb, HX, c1, _⟩ := SlI.at_ hx hlt
        obtain ⟨b', o', x', rfl, hb', HX', c1', _⟩ := SlI.at_ hy hlt'
        clear hx hy
        by_cases hE : x = x'
        · subst hE
          go_wp2
          go_quiet (fail)
          go_wp2
          go_roundw
          case rel =>
            refine ⟨k + 1, q + nq, by omega, by go_num, rfl, ?_⟩
            show _ = _
            rw [take_snoc HX.out, take_snoc HX'.out, hxy.out]
          case measure => simp [intOf]; omega
        · have hne : (x != x') = true := by simpa using hE
          have hxy' : Hid (xs ≠ ys) := by
            rintro rfl
            have h2 := HX.out
            rw [HX'.out] at h2
            exact hE (by injection h2 with h2; exact h2.symm)
          clear hE
          go_wp2
          go_quiet (fail)
          go_wp2
          go_ret
          exact ⟨by rw [decide_eq_false hxy'.out]; rfl, below_drewN (drewN_below _ _ _) _⟩
      · go_wp2
        go_ret
        refine ⟨?_, drewN_below _ _ _⟩
        have h1 := hxy.out
        rw [List.take_of_length_le (by omega), List.take_of_length_le (by have := HN.out; omega)] at h1
        simp [h1]
  · have hne : ((xs.length : Int) != ys.length) = true := by rw [bne_iff_ne]; omega
    go_enter Try.func87, Try.ntmps87
    go_wp2
    go_ret
    refine ⟨?_, Below.refl _ _⟩
    rw [decide_eq_false (by rintro rfl; omega)]; rfl

set_option maxHeartbeats 800000 in
theorem implEqualQuivers_any (u v : Value) (p q : Qv) (w : World) (hu : QvR w w.heap.size u p) (hv : QvR w w.heap.size v q) :
    Calls Try.prog 159 #[u, v] w fun e w' => e = .returned (.bool (decide (p = q))) ∧ Below w.heap.size w w' := by
  obtain ⟨A, c, C, d, rfl, hf, ht, _, _, _⟩ := hu.open_
  obtain ⟨A', c', C', d', rfl, hf', ht', _, _, _⟩ := hv.open_
  clear hu hv
  obtain ⟨W, hW⟩ : ∃ W, W = (w.alloc (.cells #[.int .i64 p.v, .slice A p.f.length c, .slice C p.t.length d] 34)).alloc (.cells #[.int .i64 q.v, .slice A' q.f.length c', .slice C' q.t.length d'] 34) := ⟨_, rfl⟩
  have g0 : Below w.heap.size w W := by rw [hW]; exact ((Below.refl _ _).alloc (Nat.le_refl _) _).alloc (by simp) _
  have k1 : Blk W w.heap.size 34 #[.int .i64 p.v, .slice A p.f.length c, .slice C p.t.length d] := by rw [hW]; exact (Blk.new _ _ _).alloc _
  have k2 : Blk W (w.heap.size + 1) 34 #[.int .i64 q.v, .slice A' q.f.length c', .slice C' q.t.length d'] := by
    rw [hW]
    have := Blk.new (w.alloc (.cells #[.int .i64 p.v, .slice A p.f.length c, .slice C p.t.length d] 34)) 34 #[.int .i64 q.v, .slice A' q.f.length c', .slice C' q.t.length d']
    simpa only [World.size_alloc] using this
  replace hf := SlI.next g0 hf
  replace hf' := SlI.next g0 hf'
  replace ht := SlI.next g0 ht
  replace ht' := SlI.next g0 ht'
  by_cases h1 : p.v = q.v
  · have e1 : (p.v == q.v) = true := by rw [h1]; simp
    have H1 := Lib.hid h1
    clear h1
    by_cases h2 : p.f = q.f
    · have e2 : decide (p.f = q.f) = true := by simpa using h2
      have H2 := Lib.hid h2
      clear h2
      obtain ⟨B, hB⟩ : ∃ B, decide (p.t = q.t) = B := ⟨_, rfl⟩
      have HB := Lib.hid hB
      have hfin : decide (p = q) = B := by
        rw [← hB, decide_eq_decide, qv_ext]
        exact ⟨fun h => h.2.2, fun h => ⟨H1.out, H2.out, h⟩⟩
      rw [hfin]
      clear hfin hB
      go_enter Try.func159, Try.ntmps159
      go_wp2_with fail
      rw [← hW]; clear hW
      refine (slEqual_any _ _ _ _ _ hf hf').mono ?_; rintro e w1 ⟨rfl, hb1⟩
      clear hf hf'
      replace g0 := bthen g0 hb1
      replace ht := SlI.next hb1 ht
      replace ht' := SlI.next hb1 ht'
      replace k1 := k1.call hb1
      replace c0 := k1.cell' (i := 0) rfl
      replace c1 := k1.cell' (i := 1) rfl
      replace c2 := k1.cell' (i := 2) rfl
      replace k2 := k2.call hb1
      replace d0 := k2.cell' (i := 0) rfl
      replace d1 := k2.cell' (i := 1) rfl
      replace d2 := k2.cell' (i := 2) rfl
      clear hb1
      go_wp2_with fail
      refine (slEqual_any _ _ _ _ _ ht ht').mono ?_; rintro e w_1 ⟨rfl, hb_1⟩
      replace g0 := bthen g0 hb_1
      replace ht := SlI.next hb_1 ht
      replace ht' := SlI.next hb_1 ht'
      replace k1 := k1.call hb_1
      replace c0 := k1.cell' (i := 0) rfl
      replace c1 := k1.cell' (i := 1) rfl
      replace c2 := k1.cell' (i := 2) rfl
      replace k2 := k2.call hb_1
      replace d0 := k2.cell' (i := 0) rfl
      replace d1 := k2.cell' (i := 1) rfl
      replace d2 := k2.cell' (i := 2) rfl
      rw [HB.out]
      clear ht ht' k1 k2
      go_wp2
      go_ret
      exact ⟨rfl, g0⟩
    · have e2 : decide (p.f = q.f) = false := by simpa using h2
      have hfin : decide (p = q) = false := by
        simp only [decide_eq_false_iff_not, qv_ext]
        exact fun h => h2 h.2.1
      rw [hfin]
      clear hfin h2
      go_enter Try.func159, Try.ntmps159
      go_wp2_with fail
      rw [← hW]; clear hW
      refine (slEqual_any _ _ _ _ _ hf hf').mono ?_; rintro e w1 ⟨rfl, hb1⟩
      go_wp2
      go_ret
      exact ⟨rfl, bthen g0 hb1⟩
  · have e1 : (p.v == q.v) = false := by simpa using h1
    have hfin : decide (p = q) = false := by
      simp only [decide_eq_false_iff_not, qv_ext]
      exact fun h => h1 h.1
    rw [hfin]
    clear hfin h1
    go_enter Try.func159, Try.ntmps159
    go_wp2
    rw [← hW]
    go_ret
    exact ⟨rfl, g0⟩
set_option maxHeartbeats 800000 in
theorem specEqualQuivers_any (u v : Value) (p q : Qv) (w : World) (hu : QvR w w.heap.size u p) (hv : QvR w w.heap.size v q) :
    Calls Try.prog 156 #[u, v] w fun e w' => e = .returned (.bool (decide (p = q))) ∧ Below w.heap.size w w' := by
  obtain ⟨A, c, C, d, rfl, hf, ht, _, _, _⟩ := hu.open_
  obtain ⟨A', c', C', d', rfl, hf', ht', _, _, _⟩ := hv.open_
  clear hu hv
  obtain ⟨W, hW⟩ : ∃ W, W = (w.alloc (.cells #[.int .i64 p.v, .slice A p.f.length c, .slice C p.t.length d] 34)).alloc (.cells #[.int .i64 q.v, .slice A' q.f.length c', .slice C' q.t.length d'] 34) := ⟨_, rfl⟩
  have g0 : Below w.heap.size w W := by rw [hW]; exact ((Below.refl _ _).alloc (Nat.le_refl _) _).alloc (by simp) _
  have k1 : Blk W w.heap.size 34 #[.int .i64 p.v, .slice A p.f.length c, .slice C p.t.length d] := by rw [hW]; exact (Blk.new _ _ _).alloc _
  have k2 : Blk W (w.heap.size + 1) 34 #[.int .i64 q.v, .slice A' q.f.length c', .slice C' q.t.length d'] := by
    rw [hW]
    have := Blk.new (w.alloc (.cells #[.int .i64 p.v, .slice A p.f.length c, .slice C p.t.length d] 34)) 34 #[.int .i64 q.v, .slice A' q.f.length c', .slice C' q.t.length d']
    simpa only [World.size_alloc] using this
  replace hf := SlI.next g0 hf
  replace hf' := SlI.next g0 hf'
  replace ht := SlI.next g0 ht
  replace ht' := SlI.next g0 ht'
  by_cases h1 : p.v = q.v
  · have e1 : (p.v == q.v) = true := by rw [h1]; simp
    have H1 := Lib.hid h1
    clear h1
    by_cases h2 : p.f = q.f
    · have e2 : decide (p.f = q.f) = true := by simpa using h2
      have H2 := Lib.hid h2
      clear h2
      obtain ⟨B, hB⟩ : ∃ B, decide (p.t = q.t) = B := ⟨_, rfl⟩
      have HB := Lib.hid hB
      have hfin : decide (p = q) = B := by
        rw [← hB, decide_eq_decide, qv_ext]
        exact ⟨fun h => h.2.2, fun h => ⟨H1.out, H2.out, h⟩⟩
      rw [hfin]
      clear hfin hB
      go_enter Try.func156, Try.ntmps156
      go_wp2_with fail
      rw [← hW]; clear hW
      refine (l6Same_any _ _ _ _ _ hf hf').mono ?_; rintro e w1 ⟨rfl, hb1⟩
      clear hf hf'
      replace g0 := bthen g0 hb1
      replace ht := SlI.next hb1 ht
      replace ht' := SlI.next hb1 ht'
      replace k1 := k1.call hb1
      replace c0 := k1.cell' (i := 0) rfl
      replace c1 := k1.cell' (i := 1) rfl
      replace c2 := k1.cell' (i := 2) rfl
      replace k2 := k2.call hb1
      replace d0 := k2.cell' (i := 0) rfl
      replace d1 := k2.cell' (i := 1) rfl
      replace d2 := k2.cell' (i := 2) rfl
      clear hb1
      go_wp2_with fail
      refine (l6Same_any _ _ _ _ _ ht ht').mono ?_; rintro e w_2 ⟨rfl, hb_2⟩
      replace g0 := bthen g0 hb_2
      replace ht := SlI.next hb_2 ht
      replace ht' := SlI.next hb_2 ht'
      replace k1 := k1.call hb_2
      replace c0 := k1.cell' (i := 0) rfl
      replace c1 := k1.cell' (i := 1) rfl
      replace c2 := k1.cell' (i := 2) rfl
      replace k2 := k2.call hb_2
      replace d0 := k2.cell' (i := 0) rfl
      replace d1 := k2.cell' (i := 1) rfl
      replace d2 := k2.cell' (i := 2) rfl
      rw [HB.out]
      clear ht ht' k1 k2
      go_wp2
      go_ret
      exact ⟨rfl, g0⟩
    · have e2 : decide (p.f = q.f) = false := by simpa using h2
      have hfin : decide (p = q) = false := by
        simp only [decide_eq_false_iff_not, qv_ext]
        exact fun h => h2 h.2.1
      rw [hfin]
      clear hfin h2
      go_enter Try.func156, Try.ntmps156
      go_wp2_with fail
      rw [← hW]; clear hW
      refine (l6Same_any _ _ _ _ _ hf hf').mono ?_; rintro e w1 ⟨rfl, hb1⟩
      go_wp2
      go_ret
      exact ⟨rfl, bthen g0 hb1⟩
  · have e1 : (p.v == q.v) = false := by simpa using h1
    have hfin : decide (p = q) = false := by
      simp only [decide_eq_false_iff_not, qv_ext]
      exact fun h => h1 h.1
    rw [hfin]
    clear hfin h1
    go_enter Try.func156, Try.ntmps156
    go_wp2
    rw [← hW]
    go_ret
    exact ⟨rfl, g0⟩

/-- the quiver of pencils -/
def pQ : Qv := ⟨2, [0, 0], [1, 1]⟩
theorem pencilQuiver_any (w : World) : Calls Try.prog 137 #[] w fun e w' => ∃ v, e = .returned v ∧ QuivO w' w.heap.size w'.heap.size v pQ ∧ Below w.heap.size w w' := by
  obtain ⟨W, hW⟩ : ∃ W, W = ((w.alloc (.cells #[.int .i64 2, .slice (some ⟨w.heap.size + 1, 0, none⟩) 2 2, .slice (some ⟨w.heap.size + 1 + 1, 0, none⟩) 2 2] 34)).alloc (.cells #[.int .i64 0, .int .i64 0] 3)).alloc (.cells #[.int .i64 1, .int .i64 1] 3) := ⟨_, rfl⟩
  have g0 : Below w.heap.size w W := by rw [hW]; exact (((Below.refl _ _).alloc (Nat.le_refl _) _).alloc (by simp) _).alloc (by simp; omega) _
  have k0 : Blk W w.heap.size 34 #[.int .i64 2, .slice (some ⟨w.heap.size + 1, 0, none⟩) 2 2, .slice (some ⟨w.heap.size + 1 + 1, 0, none⟩) 2 2] := by rw [hW]; exact ((Blk.new _ _ _).alloc _).alloc _
  have k1 : Blk W (w.heap.size + 1) 3 #[.int .i64 0, .int .i64 0] := by
    rw [hW]
    have := (Blk.new (w.alloc (.cells #[.int .i64 2, .slice (some ⟨w.heap.size + 1, 0, none⟩) 2 2, .slice (some ⟨w.heap.size + 1 + 1, 0, none⟩) 2 2] 34)) 3 #[.int .i64 0, .int .i64 0]).alloc (.cells #[.int .i64 1, .int .i64 1] 3)
    simpa only [World.size_alloc] using this
  have k2 : Blk W (w.heap.size + 1 + 1) 3 #[.int .i64 1, .int .i64 1] := by
    rw [hW]
    have := Blk.new ((w.alloc (.cells #[.int .i64 2, .slice (some ⟨w.heap.size + 1, 0, none⟩) 2 2, .slice (some ⟨w.heap.size + 1 + 1, 0, none⟩) 2 2] 34)).alloc (.cells #[.int .i64 0, .int .i64 0] 3)) 3 #[.int .i64 1, .int .i64 1]
    simpa only [World.size_alloc] using this
  have zW : W.heap.size = w.heap.size + 1 + 1 + 1 := by rw [hW]; simp
  have c0 := k0.cell' (i := 0) rfl
  have c1 := k0.cell' (i := 1) rfl
  have c2 := k0.cell' (i := 2) rfl
  have o1 : OwnI W (w.heap.size + 1) (.slice (some ⟨w.heap.size + 1, 0, none⟩) 2 2) [0, 0] := OwnI.of_blk (xs := [0, 0]) k1 (Nat.le_refl _) ⟨rfl, fun j x hj hx => by
    match j, hx with
    | 0, hx => simp at hx; subst hx; rfl
    | 1, hx => simp at hx; subst hx; rfl
    | j + 2, hx => simp at hx⟩ (by simp) (by simp [I64])
  have o2 : OwnI W (w.heap.size + 1 + 1) (.slice (some ⟨w.heap.size + 1 + 1, 0, none⟩) 2 2) [1, 1] := OwnI.of_blk (xs := [1, 1]) k2 (Nat.le_refl _) ⟨rfl, fun j x hj hx => by
    match j, hx with
    | 0, hx => simp at hx; subst hx; rfl
    | 1, hx => simp at hx; subst hx; rfl
    | j + 2, hx => simp at hx⟩ (by simp) (by simp [I64])
  have hF : QuivO W w.heap.size W.heap.size (.agg #[.int .i64 2, .slice (some ⟨w.heap.size + 1, 0, none⟩) 2 2, .slice (some ⟨w.heap.size + 1 + 1, 0, none⟩) 2 2]) pQ :=
    ⟨_, _, rfl, Fam.mono (fam_two (lo := w.heap.size + 1) (mi := w.heap.size + 1 + 1) (hi := W.heap.size) ⟨o1, by simp [Value.ownBlock]⟩ (IntsO.of_own o2) (by omega) (by omega)) (by omega) (Nat.le_refl _), by simp [pQ, I64]⟩
  have HF := Lib.hid hF
  clear hF k0 k1 k2 o1 o2 zW
  go_enter Try.func137, Try.ntmps137
  go_wp2
  rw [← hW]
  exact bodyPost_ret (v := .agg #[.int .i64 2, .slice (some ⟨w.heap.size + 1, 0, none⟩) 2 2, .slice (some ⟨w.heap.size + 1 + 1, 0, none⟩) 2 2]) (by simp [results, go_sem, c0, c1, c2]) rfl ⟨_, rfl, HF.out, g0⟩
theorem l26Quiver_any (w : World) : Calls Try.prog 135 #[] w fun e w' => ∃ v, e = .returned v ∧ QuivO w' w.heap.size w'.heap.size v pQ ∧ Below w.heap.size w w' := by
  obtain ⟨W, hW⟩ : ∃ W, W = ((w.alloc (.cells #[.int .i64 2, .slice (some ⟨w.heap.size + 1, 0, none⟩) 2 2, .slice (some ⟨w.heap.size + 1 + 1, 0, none⟩) 2 2] 34)).alloc (.cells #[.int .i64 0, .int .i64 0] 3)).alloc (.cells #[.int .i64 1, .int .i64 1] 3) := ⟨_, rfl⟩
  have g0 : Below w.heap.size w W := by rw [hW]; exact (((Below.refl _ _).alloc (Nat.le_refl _) _).alloc (by simp) _).alloc (by simp; omega) _
  have k0 : Blk W w.heap.size 34 #[.int .i64 2, .slice (some ⟨w.heap.size + 1, 0, none⟩) 2 2, .slice (some ⟨w.heap.size + 1 + 1, 0, none⟩) 2 2] := by rw [hW]; exact ((Blk.new _ _ _).alloc _).alloc _
  have k1 : Blk W (w.heap.size + 1) 3 #[.int .i64 0, .int .i64 0] := by
    rw [hW]
    have := (Blk.new (w.alloc (.cells #[.int .i64 2, .slice (some ⟨w.heap.size + 1, 0, none⟩) 2 2, .slice (some ⟨w.heap.size + 1 + 1, 0, none⟩) 2 2] 34)) 3 #[.int .i64 0, .int .i64 0]).alloc (.cells #[.int .i64 1, .int .i64 1] 3)
    simpa only [World.size_alloc] using this
  have k2 : Blk W (w.heap.size + 1 + 1) 3 #[.int .i64 1, .int .i64 1] := by
    rw [hW]
    have := Blk.new ((w.alloc (.cells #[.int .i64 2, .slice (some ⟨w.heap.size + 1, 0, none⟩) 2 2, .slice (some ⟨w.heap.size + 1 + 1, 0, none⟩) 2 2] 34)).alloc (.cells #[.int .i64 0, .int .i64 0] 3)) 3 #[.int .i64 1, .int .i64 1]
    simpa only [World.size_alloc] using this
  have zW : W.heap.size = w.heap.size + 1 + 1 + 1 := by rw [hW]; simp
  have c0 := k0.cell' (i := 0) rfl
  have c1 := k0.cell' (i := 1) rfl
  have c2 := k0.cell' (i := 2) rfl
  have o1 : OwnI W (w.heap.size + 1) (.slice (some ⟨w.heap.size + 1, 0, none⟩) 2 2) [0, 0] := OwnI.of_blk (xs := [0, 0]) k1 (Nat.le_refl _) ⟨rfl, fun j x hj hx => by
    match j, hx with
    | 0, hx => simp at hx; subst hx; rfl
    | 1, hx => simp at hx; subst hx; rfl
    | j + 2, hx => simp at hx⟩ (by simp) (by simp [I64])
  have o2 : OwnI W (w.heap.size + 1 + 1) (.slice (some ⟨w.heap.size + 1 + 1, 0, none⟩) 2 2) [1, 1] := OwnI.of_blk (xs := [1, 1]) k2 (Nat.le_refl _) ⟨rfl, fun j x hj hx => by
    match j, hx with
    | 0, hx => simp at hx; subst hx; rfl
    | 1, hx => simp at hx; subst hx; rfl
    | j + 2, hx => simp at hx⟩ (by simp) (by simp [I64])
  have hF : QuivO W w.heap.size W.heap.size (.agg #[.int .i64 2, .slice (some ⟨w.heap.size + 1, 0, none⟩) 2 2, .slice (some ⟨w.heap.size + 1 + 1, 0, none⟩) 2 2]) pQ :=
    ⟨_, _, rfl, Fam.mono (fam_two (lo := w.heap.size + 1) (mi := w.heap.size + 1 + 1) (hi := W.heap.size) ⟨o1, by simp [Value.ownBlock]⟩ (IntsO.of_own o2) (by omega) (by omega)) (by omega) (Nat.le_refl _), by simp [pQ, I64]⟩
  have HF := Lib.hid hF
  clear hF k0 k1 k2 o1 o2 zW
  go_enter Try.func135, Try.ntmps135
  go_wp2
  rw [← hW]
  exact bodyPost_ret (v := .agg #[.int .i64 2, .slice (some ⟨w.heap.size + 1, 0, none⟩) 2 2, .slice (some ⟨w.heap.size + 1 + 1, 0, none⟩) 2 2]) (by simp [results, go_sem, c0, c1, c2]) rfl ⟨_, rfl, HF.out, g0⟩

def isPen (x : Rp) : Bool := isRep x && decide (x.q = pQ)
set_option maxHeartbeats 1600000 in
set_option maxRecDepth 100000 in
theorem implIsPencil_any (u : Value) (x : Rp) (w : World) (hu : RpR w w.heap.size u x) :
    Calls Try.prog 114 #[u] w fun e w' => e = .returned (.bool (isPen x)) ∧ Below w.heap.size w w' := by
  have hx := hu
  obtain ⟨A, a, C, c, E, e, H, h, rfl, hq, hd, hm, hp, ld, lm⟩ := hu.open_
  clear hu
  obtain ⟨W, hW⟩ : ∃ W, W = w.alloc (.cells #[.int .i64 x.p, .int .i64 x.q.v, .slice A x.q.f.length a, .slice C x.q.t.length c, .slice E x.d.length e, .slice H x.m.length h] 40) := ⟨_, rfl⟩
  have g0 : Below w.heap.size w W := by rw [hW]; exact below_alloc _ _
  have kB : Blk W w.heap.size 40 #[.int .i64 x.p, .int .i64 x.q.v, .slice A x.q.f.length a, .slice C x.q.t.length c, .slice E x.d.length e, .slice H x.m.length h] := by rw [hW]; exact Blk.new _ _ _
  have c0 := kB.cell' (i := 0) rfl
  have c1 := kB.cell' (i := 1) rfl
  have c2 := kB.cell' (i := 2) rfl
  have c3 := kB.cell' (i := 3) rfl
  have c4 := kB.cell' (i := 4) rfl
  have c5 := kB.cell' (i := 5) rfl
  replace hq := QvR.next g0 hq
  replace hd := SlI.next g0 hd
  replace hm := SlM.next g0 hm
  replace hx := RpR.next g0 hx
  clear hd hm
  unfold isPen
  rcases h1 : isRep x with _ | _
  · have HX : Hid (∀ s : InB W, RpR s.val s.val.heap.size (.agg #[.int .i64 x.p, .int .i64 x.q.v, .slice A x.q.f.length a, .slice C x.q.t.length c, .slice E x.d.length e, .slice H x.m.length h]) x) := fun s => RpR.next s.below hx
    have r0 := fun s : InB W => (kB.call s.below).cell' (i := 0) rfl
    have r1 := fun s : InB W => (kB.call s.below).cell' (i := 1) rfl
    have r2 := fun s : InB W => (kB.call s.below).cell' (i := 2) rfl
    have r3 := fun s : InB W => (kB.call s.below).cell' (i := 3) rfl
    have r4 := fun s : InB W => (kB.call s.below).cell' (i := 4) rfl
    have r5 := fun s : InB W => (kB.call s.below).cell' (i := 5) rfl
    have HC : Hid (∀ s : InB W, Calls Try.prog 105 #[.agg #[.int .i64 x.p, .int .i64 x.q.v, .slice A x.q.f.length a, .slice C x.q.t.length c, .slice E x.d.length e, .slice H x.m.length h]] s.val fun e w' => e = .returned (.bool false) ∧ Below s.val.heap.size s.val w') := fun s => by
      have := implIsRep_any _ x _ (HX.out s)
      rwa [h1] at this
    clear kB c0 c1 c2 c3 c4 c5 hq hx HX h1
    go_enter Try.func114, Try.ntmps114
    go_wp2
    rw [← hW]; clear hW
    (refine wp_region_inB (by kernel_rfl) (by kernel_rfl) ?_; (repeat (go_big_quiet_step ((go_at_call 105; exact InB.call (HC.out _))))); refine wpQuiet_nil ?_; intro w1 hw'; obtain ⟨s1, hw1⟩ := hw'; have hb1 := s1.below; rw [← hw1] at hb1; clear hw1 s1)
    go_wp2
    go_ret
    exact ⟨rfl, bthen g0 hb1⟩
  have hdr := drew_below W
  replace g0 := bthen g0 hdr
  replace hx := RpR.next hdr hx
  replace hq := QvR.next hdr hq
  replace kB := kB.call hdr
  replace c0 := kB.cell' (i := 0) rfl
  replace c1 := kB.cell' (i := 1) rfl
  replace c2 := kB.cell' (i := 2) rfl
  replace c3 := kB.cell' (i := 3) rfl
  replace c4 := kB.cell' (i := 4) rfl
  replace c5 := kB.cell' (i := 5) rfl
  clear hdr
  obtain ⟨B, hB⟩ : ∃ B, decide (x.q = pQ) = B := ⟨_, rfl⟩
  rw [hB]
  have HB := Lib.hid hB
  clear hB
  go_enter Try.func114, Try.ntmps114
  go_wp2
  rw [← hW]; clear hW
  go_region_held3 (fun W' => W'.cell? ⟨w.heap.size, 0, none⟩ = some (.int .i64 x.p) ∧ W'.cell? ⟨w.heap.size, 1, none⟩ = some (.int .i64 x.q.v) ∧ W'.cell? ⟨w.heap.size, 2, none⟩ = some (.slice A x.q.f.length a) ∧ W'.cell? ⟨w.heap.size, 3, none⟩ = some (.slice C x.q.t.length c) ∧ W'.cell? ⟨w.heap.size, 4, none⟩ = some (.slice E x.d.length e) ∧ W'.cell? ⟨w.heap.size, 5, none⟩ = some (.slice H x.m.length h))
    (first | exact ⟨c0, c1, c2, c3, c4, c5⟩)
    (first | (go_at_call 105; refine (implIsRep_any _ x _ hx).mono ?_; rintro e w1 ⟨rfl, hb1⟩; replace g0 := bthen g0 hb1; replace hx := RpR.next hb1 hx; replace hq := QvR.next hb1 hq; replace kB := kB.call hb1; replace c0 := kB.cell' (i := 0) rfl; replace c1 := kB.cell' (i := 1) rfl; replace c2 := kB.cell' (i := 2) rfl; replace c3 := kB.cell' (i := 3) rfl; replace c4 := kB.cell' (i := 4) rfl; replace c5 := kB.cell' (i := 5) rfl; rw [h1]) | (go_at_call 137; refine (pencilQuiver_any _).mono ?_; rintro e w1 ⟨vq, rfl, hQ, hb1⟩; replace g0 := bthen g0 hb1; replace hx := RpR.next hb1 hx; replace hq := QvR.next hb1 hq; replace kB := kB.call hb1; replace c0 := kB.cell' (i := 0) rfl; replace c1 := kB.cell' (i := 1) rfl; replace c2 := kB.cell' (i := 2) rfl; replace c3 := kB.cell' (i := 3) rfl; replace c4 := kB.cell' (i := 4) rfl; replace c5 := kB.cell' (i := 5) rfl) | (go_at_call 159; refine (implEqualQuivers_any _ _ x.q pQ _ hq hQ.rd).mono ?_; rintro e w1 ⟨rfl, hb1⟩; replace g0 := bthen g0 hb1; replace hx := RpR.next hb1 hx; replace hq := QvR.next hb1 hq; replace kB := kB.call hb1; replace c0 := kB.cell' (i := 0) rfl; replace c1 := kB.cell' (i := 1) rfl; replace c2 := kB.cell' (i := 2) rfl; replace c3 := kB.cell' (i := 3) rfl; replace c4 := kB.cell' (i := 4) rfl; replace c5 := kB.cell' (i := 5) rfl; rw [HB.out]))
  go_wp2
  go_ret
  exact ⟨rfl, g0⟩
set_option maxHeartbeats 1600000 in
set_option maxRecDepth 100000 in
theorem specIsPencil_any (u : Value) (x : Rp) (w : World) (hu : RpR w w.heap.size u x) :
    Calls Try.prog 111 #[u] w fun e w' => e = .returned (.bool (isPen x)) ∧ Below w.heap.size w w' := by
  have hx := hu
  obtain ⟨A, a, C, c, E, e, H, h, rfl, hq, hd, hm, hp, ld, lm⟩ := hu.open_
  clear hu
  obtain ⟨W, hW⟩ : ∃ W, W = w.alloc (.cells #[.int .i64 x.p, .int .i64 x.q.v, .slice A x.q.f.length a, .slice C x.q.t.length c, .slice E x.d.length e, .slice H x.m.length h] 40) := ⟨_, rfl⟩
  have g0 : Below w.heap.size w W := by rw [hW]; exact below_alloc _ _
  have kB : Blk W w.heap.size 40 #[.int .i64 x.p, .int .i64 x.q.v, .slice A x.q.f.length a, .slice C x.q.t.length c, .slice E x.d.length e, .slice H x.m.length h] := by rw [hW]; exact Blk.new _ _ _
  have c0 := kB.cell' (i := 0) rfl
  have c1 := kB.cell' (i := 1) rfl
  have c2 := kB.cell' (i := 2) rfl
  have c3 := kB.cell' (i := 3) rfl
  have c4 := kB.cell' (i := 4) rfl
  have c5 := kB.cell' (i := 5) rfl
  replace hq := QvR.next g0 hq
  replace hd := SlI.next g0 hd
  replace hm := SlM.next g0 hm
  replace hx := RpR.next g0 hx
  clear hd hm
  unfold isPen
  rcases h1 : isRep x with _ | _
  · have HX : Hid (∀ s : InB W, RpR s.val s.val.heap.size (.agg #[.int .i64 x.p, .int .i64 x.q.v, .slice A x.q.f.length a, .slice C x.q.t.length c, .slice E x.d.length e, .slice H x.m.length h]) x) := fun s => RpR.next s.below hx
    have r0 := fun s : InB W => (kB.call s.below).cell' (i := 0) rfl
    have r1 := fun s : InB W => (kB.call s.below).cell' (i := 1) rfl
    have r2 := fun s : InB W => (kB.call s.below).cell' (i := 2) rfl
    have r3 := fun s : InB W => (kB.call s.below).cell' (i := 3) rfl
    have r4 := fun s : InB W => (kB.call s.below).cell' (i := 4) rfl
    have r5 := fun s : InB W => (kB.call s.below).cell' (i := 5) rfl
    have HC : Hid (∀ s : InB W, Calls Try.prog 100 #[.agg #[.int .i64 x.p, .int .i64 x.q.v, .slice A x.q.f.length a, .slice C x.q.t.length c, .slice E x.d.length e, .slice H x.m.length h]] s.val fun e w' => e = .returned (.bool false) ∧ Below s.val.heap.size s.val w') := fun s => by
      have := specIsRep_any _ x _ (HX.out s)
      rwa [h1] at this
    clear kB c0 c1 c2 c3 c4 c5 hq hx HX h1
    go_enter Try.func111, Try.ntmps111
    go_wp2
    rw [← hW]; clear hW
    (refine wp_region_inB (by kernel_rfl) (by kernel_rfl) ?_; (repeat (go_big_quiet_step ((go_at_call 100; exact InB.call (HC.out _))))); refine wpQuiet_nil ?_; intro w1 hw'; obtain ⟨s1, hw1⟩ := hw'; have hb1 := s1.below; rw [← hw1] at hb1; clear hw1 s1)
    go_wp2
    go_ret
    exact ⟨rfl, bthen g0 hb1⟩
  have hdr := drew_below W
  replace g0 := bthen g0 hdr
  replace hx := RpR.next hdr hx
  replace hq := QvR.next hdr hq
  replace kB := kB.call hdr
  replace c0 := kB.cell' (i := 0) rfl
  replace c1 := kB.cell' (i := 1) rfl
  replace c2 := kB.cell' (i := 2) rfl
  replace c3 := kB.cell' (i := 3) rfl
  replace c4 := kB.cell' (i := 4) rfl
  replace c5 := kB.cell' (i := 5) rfl
  clear hdr
  obtain ⟨B, hB⟩ : ∃ B, decide (x.q = pQ) = B := ⟨_, rfl⟩
  rw [hB]
  have HB := Lib.hid hB
  clear hB
  go_enter Try.func111, Try.ntmps111
  go_wp2
  rw [← hW]; clear hW
  go_region_held3 (fun W' => W'.cell? ⟨w.heap.size, 0, none⟩ = some (.int .i64 x.p) ∧ W'.cell? ⟨w.heap.size, 1, none⟩ = some (.int .i64 x.q.v) ∧ W'.cell? ⟨w.heap.size, 2, none⟩ = some (.slice A x.q.f.length a) ∧ W'.cell? ⟨w.heap.size, 3, none⟩ = some (.slice C x.q.t.length c) ∧ W'.cell? ⟨w.heap.size, 4, none⟩ = some (.slice E x.d.length e) ∧ W'.cell? ⟨w.heap.size, 5, none⟩ = some (.slice H x.m.length h))
    (first | exact ⟨c0, c1, c2, c3, c4, c5⟩)
    (first | (go_at_call 100; refine (specIsRep_any _ x _ hx).mono ?_; rintro e w1 ⟨rfl, hb1⟩; replace g0 := bthen g0 hb1; replace hx := RpR.next hb1 hx; replace hq := QvR.next hb1 hq; replace kB := kB.call hb1; replace c0 := kB.cell' (i := 0) rfl; replace c1 := kB.cell' (i := 1) rfl; replace c2 := kB.cell' (i := 2) rfl; replace c3 := kB.cell' (i := 3) rfl; replace c4 := kB.cell' (i := 4) rfl; replace c5 := kB.cell' (i := 5) rfl; rw [h1]) | (go_at_call 135; refine (l26Quiver_any _).mono ?_; rintro e w1 ⟨vq, rfl, hQ, hb1⟩; replace g0 := bthen g0 hb1; replace hx := RpR.next hb1 hx; replace hq := QvR.next hb1 hq; replace kB := kB.call hb1; replace c0 := kB.cell' (i := 0) rfl; replace c1 := kB.cell' (i := 1) rfl; replace c2 := kB.cell' (i := 2) rfl; replace c3 := kB.cell' (i := 3) rfl; replace c4 := kB.cell' (i := 4) rfl; replace c5 := kB.cell' (i := 5) rfl) | (go_at_call 156; refine (specEqualQuivers_any _ _ x.q pQ _ hq hQ.rd).mono ?_; rintro e w1 ⟨rfl, hb1⟩; replace g0 := bthen g0 hb1; replace hx := RpR.next hb1 hx; replace hq := QvR.next hb1 hq; replace kB := kB.call hb1; replace c0 := kB.cell' (i := 0) rfl; replace c1 := kB.cell' (i := 1) rfl; replace c2 := kB.cell' (i := 2) rfl; replace c3 := kB.cell' (i := 3) rfl; replace c4 := kB.cell' (i := 4) rfl; replace c5 := kB.cell' (i := 5) rfl; rw [HB.out]))
  go_wp2
  go_ret
  exact ⟨rfl, g0⟩
end Go.Proofs.Ytbgjhnolnccnnaa
