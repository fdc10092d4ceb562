/- Lists of bars: the law's copies and comparisons, the two EqualBars. -/
import Derived.Test.YtjhllgldllbaaaaSmall
namespace Go.Proofs.Ytjhllgldllbaaaa
set_option linter.unusedVariables false
set_option linter.unusedSimpArgs false
open Go.RowKit

theorem szBarS_any (A : Option Addr) (n c : Nat) (left : Int) (w : World) (hn : n ≤ 17592186044416) (h0 : 0 ≤ left) (h1 : left ≤ 1048576) :
    Calls Try.prog 26 #[.slice A n c, .int .i64 left] w fun e w' => e = .returned (.int .i64 (szLeft left n)) ∧ w' = w := by
  by_cases h : left < n
  · have h' : left - n < 0 := by omega
    go_enter Try.func26, Try.ntmps26
    go_wp2
    go_ret
    exact ⟨by rw [szLeft, if_pos h]; rfl, rfl⟩
  · have h' : ¬ left - n < 0 := by omega
    go_enter Try.func26, Try.ntmps26
    go_wp2
    go_ret
    exact ⟨by rw [szLeft, if_neg (by omega)]; rfl, rfl⟩

theorem eqBar_any (a b c a' b' c' : Int) (w : World) : Calls Try.prog 77 #[.agg #[.int .i64 a, .int .i64 b, .int .i64 c], .agg #[.int .i64 a', .int .i64 b', .int .i64 c']] w fun e w' => e = .returned (.bool (decide ((a, b, c) = (a', b', c')))) ∧ Below w.heap.size w w' := by
  go_enter Try.func77, Try.ntmps77
  go_wp2
  all_goals (go_ret; refine ⟨by simp_all, ?_⟩; exact ((Below.refl _ _).alloc (Nat.le_refl _) _).alloc (by simp) _)

theorem toBar_any (a b c : Int) (w : World) : Calls Try.prog 74 #[.agg #[.int .i64 a, .int .i64 b, .int .i64 c]] w fun e w' => e = .returned (.agg #[.int .i64 a, .int .i64 b, .int .i64 c]) ∧ Below w.heap.size w w' := by
  go_enter Try.func74, Try.ntmps74
  go_wp2
  exact bodyPost_ret (v := .agg #[.int .i64 a, .int .i64 b, .int .i64 c]) (by simp [results, go_sem]) rfl ⟨rfl, (((Below.refl _ _).alloc (Nat.le_refl _) _).alloc (by simp) _).alloc (by simp; omega) _⟩

@[go_sem] theorem stoodBar : Try.prog.stoodInHeld 80 = false := by kernel_rfl
@[go_sem] theorem guardBar : Try.prog.eqGuardType Try.prog.depth 80 = false := by kernel_rfl
theorem bar_neq (x y z x' y' z' : Int) (b : Bool) (hb : decide ((x, y, z) = (x', y', z')) = b) (w : World) : (binOp .neq 80 (.agg #[.int .i64 x, .int .i64 y, .int .i64 z]) (.agg #[.int .i64 x', .int .i64 y', .int .i64 z'])).run Try.prog w = .ok (.bool !b) w := by
  subst hb
  go_simp
  by_cases h1 : x = x' <;> by_cases h2 : y = y' <;> by_cases h3 : z = z' <;> simp [h1, h2, h3]

set_option maxHeartbeats 400000 in
theorem eqBarS_any (u v : Value) (xs ys : List Bar) (w : World) (hu : SlB w w.heap.size u xs) (hv : SlB w w.heap.size v ys) :
    Calls Try.prog 30 #[u, v] w fun e w' => e = .returned (.bool (decide (xs = ys))) ∧ Below w.heap.size w w' := by
  obtain ⟨A, c, rfl, _, _, hn, hx⟩ := hu.open_
  obtain ⟨C, d, rfl, _, _, hm, hy⟩ := hv.open_
  clear hu hv
  by_cases hnm : xs.length = ys.length
  · have heq : ((xs.length : Int) != ys.length) = false := by rw [bne_eq_false_iff_eq]; omega
    have HN := Lib.hid hnm
    clear hnm
    go_enter Try.func30, Try.ntmps30
    go_wp2
    go_loopw [5] (fun i wr => ∃ k : Nat, k ≤ xs.length ∧ i = .int .i64 k ∧ Below w.heap.size w wr ∧ Hid (xs.take k = ys.take k)) (fun i _ => xs.length - (intOf i).toNat)
    case atStart => exact ⟨0, Nat.zero_le _, rfl, Below.refl _ _, rfl⟩
    case round =>
      obtain ⟨k, hk, rfl, hbel, hxy⟩ := hrel
      by_cases hlt : k < xs.length
      · have hlt' : k < ys.length := by have := HN.out; omega
        obtain ⟨b, o, x, y, z, rfl, hb, HX, c1, c2, c3, _⟩ := SlB.at_ hx hlt
        obtain ⟨b', o', x', y', z', rfl, hb', HX', c1', c2', c3', _⟩ := SlB.at_ hy hlt'
        clear hx hy
        obtain ⟨B, hB⟩ : ∃ B, (decide ((x, y, z) = (x', y', z'))) = B := ⟨_, rfl⟩
        have HC : ∀ W, Calls Try.prog 77 #[.agg #[.int .i64 x, .int .i64 y, .int .i64 z], .agg #[.int .i64 x', .int .i64 y', .int .i64 z']] W fun e w' => e = .returned (.bool B) ∧ Below W.heap.size W w' := by
          subst hB
          exact eqBar_any x y z x' y' z'
        have HB := Lib.hid hB
        have HC := Lib.hid HC
        clear hB
        have d1 := InB.cell (w := wr) (by have := hbel.size; omega) (bcell hbel hb c1)
        have d2 := InB.cell (w := wr) (by have := hbel.size; omega) (bcell hbel hb c2)
        have d3 := InB.cell (w := wr) (by have := hbel.size; omega) (bcell hbel hb c3)
        have d1' := InB.cell (w := wr) (by have := hbel.size; omega) (bcell hbel hb' c1')
        have d2' := InB.cell (w := wr) (by have := hbel.size; omega) (bcell hbel hb' c2')
        have d3' := InB.cell (w := wr) (by have := hbel.size; omega) (bcell hbel hb' c3')
        clear c1 c2 c3 c1' c2' c3'
        cases B
        · go_wp2
          (refine wp_region_inB (by kernel_rfl) (by kernel_rfl) ?_; (repeat (go_big_quiet_step ((go_at_call 77; exact InB.call (HC.out _))))); refine wpQuiet_nil ?_; intro w1 hw'; obtain ⟨s1, hw1⟩ := hw'; have hb1 := s1.below; rw [← hw1] at hb1; clear hw1 s1)
          go_wp2
          go_ret
          have hxy' : xs ≠ ys := by
            rintro rfl
            have h1 := HB.out
            have h2 := HX.out
            rw [HX'.out] at h2
            exact of_decide_eq_false h1 (by injection h2 with h2; exact h2.symm)
          exact ⟨by rw [decide_eq_false hxy']; rfl, hbel.trans (hb1.mono hbel.size)⟩
        · go_wp2
          (refine wp_region_inB (by kernel_rfl) (by kernel_rfl) ?_; (repeat (go_big_quiet_step ((go_at_call 77; exact InB.call (HC.out _))))); refine wpQuiet_nil ?_; intro w1 hw'; obtain ⟨s1, hw1⟩ := hw'; have hb1 := s1.below; rw [← hw1] at hb1; clear hw1 s1)
          go_wp2
          go_roundw
          case rel =>
            refine ⟨k + 1, by omega, by go_num, hbel.trans (hb1.mono hbel.size), ?_⟩
            show _ = _
            rw [take_snoc HX.out, take_snoc HX'.out, hxy.out, of_decide_eq_true HB.out]
          case measure => simp [intOf]; omega
      · go_wp2
        go_ret
        refine ⟨?_, hbel⟩
        have h1 := hxy.out
        rw [List.take_of_length_le (by omega), List.take_of_length_le (by have := HN.out; omega)] at h1
        simp [h1]
  · have hne : ((xs.length : Int) != ys.length) = true := by rw [bne_iff_ne]; omega
    go_enter Try.func30, Try.ntmps30
    go_wp2
    go_ret
    refine ⟨?_, Below.refl _ _⟩
    rw [decide_eq_false (by rintro rfl; omega)]; rfl

theorem infoBar : (Try.prog.info? 80).map (fun i => (i.zero, i.size, i.bytes)) = some (some (.agg #[.int .i64 0, .int .i64 0, .int .i64 0]), 3, 24) := by kernel_rfl

/-- The first k elements of a row of bars are laid. -/
def BarCs (cs : Array Value) (xs : List Bar) (k : Nat) : Prop :=
  cs.size = xs.length * 3 ∧ ∀ j x, j < k → xs[j]? = some x → cs[j * 3]? = some (.int .i64 x.1) ∧ cs[j * 3 + 1]? = some (.int .i64 x.2.1) ∧ cs[j * 3 + 2]? = some (.int .i64 x.2.2)

theorem BarCs.step {cs : Array Value} {xs : List Bar} {k : Nat} {x y z : Int} (h : BarCs cs xs k) (hx : xs[k]? = some (x, y, z)) :
    BarCs (((cs.setIfInBounds (k * 3) (.int .i64 x)).setIfInBounds (k * 3 + 1) (.int .i64 y)).setIfInBounds (k * 3 + 2) (.int .i64 z)) xs (k + 1) := by
  obtain ⟨hs, h⟩ := h
  have hk := lt_of_some hx
  refine ⟨by simpa using hs, fun j u hj hu => ?_⟩
  by_cases e : j = k
  · subst e
    rw [hx] at hu
    injection hu with hu
    subst hu
    refine ⟨?_, ?_, ?_⟩ <;> simp [Array.getElem?_setIfInBounds] <;> omega
  · obtain ⟨a, b, c⟩ := h j u (by omega) hu
    refine ⟨?_, ?_, ?_⟩ <;> simp only [Array.getElem?_setIfInBounds] <;> (repeat rw [if_neg (by omega)]) <;> assumption
theorem BarCs.sl {cs : Array Value} {xs : List Bar} {w w' : World} {g B : Nat} {u : Value} (h : BarCs cs xs xs.length) (hb : Blk w' g 80 cs) (hx : SlB w B u xs) (hn : xs.length ≤ 9223372036854775807) :
    SlB w' w'.heap.size (.slice (some ⟨g, 0, none⟩) xs.length xs.length) xs := by
  obtain ⟨_, _, _, _, _, hn', h4⟩ := hx
  refine ⟨_, _, rfl, Nat.le_refl _, hn, hn', fun hp => ⟨g, 0, rfl, hb.lt, fun j x hj => ?_⟩⟩
  obtain ⟨_, _, _, _, hr⟩ := h4 hp
  obtain ⟨a, b, c⟩ := h.2 j x (lt_of_some hj) hj
  exact ⟨⟨by rw [hb.cell]; simpa using a, by rw [hb.cell]; simpa using b, by rw [hb.cell]; simpa using c⟩, (hr j x hj).2⟩

set_option maxHeartbeats 400000 in
theorem toBarS_any (u : Value) (xs : List Bar) (w : World) (hu : SlB w w.heap.size u xs) (hn : xs.length ≤ 1048576) :
    Calls Try.prog 28 #[u] w fun e w' => ∃ v, e = .returned v ∧ SlB w' w'.heap.size v xs ∧ Below w.heap.size w w' := by
  obtain ⟨A, c, rfl, _, _, _, hx⟩ := hu.open_
  clear hu
  obtain ⟨i0, hi, hz0, hz1, hz2⟩ := info_parts infoBar
  have hmk := run_mk (P := Try.prog) Try.underlying41 hi hz0 (n := xs.length) (by rw [hz2]; omega) (by omega)
  rw [hz1] at hmk
  clear hi hz0 hz1 hz2
  go_enter Try.func28, Try.ntmps28
  go_wp2
  go_loopw [4] (fun i wr => ∃ (k : Nat) (cs : Array Value), k ≤ xs.length ∧ i = .int .i64 k ∧ Below w.heap.size w wr ∧ Blk wr w.heap.size 80 cs ∧ BarCs cs xs k) (fun i _ => xs.length - (intOf i).toNat)
  case atStart => exact ⟨0, _, Nat.zero_le _, rfl, (Below.refl _ _).alloc (Nat.le_refl _) _, Blk.new _ _ _, by rw [mkCells_size], fun j x h => absurd h (by omega)⟩
  case round =>
    obtain ⟨k, cs, hk, rfl, hbel, hblk, hcs⟩ := hrel
    by_cases hlt : k < xs.length
    · obtain ⟨b, o, x, y, z, rfl, hb, HX, c1, c2, c3, _⟩ := SlB.at_ hx hlt
      have d1 := bcell hbel hb c1
      have d2 := bcell hbel hb c2
      have d3 := bcell hbel hb c3
      clear c1 c2 c3 hx
      go_wp2_with (go_at_call 74; refine (toBar_any _ _ _ _).mono ?_; rintro e w1 ⟨rfl, hb1⟩; have hB1 := hblk.below hb1 hblk.lt; have f0 := hB1.frozen; have e0 : ∃ v0 v1 v2, w1.cell? ⟨w.heap.size, k * 3, none⟩ = some v0 ∧ w1.cell? ⟨w.heap.size, k * 3 + 1, none⟩ = some v1 ∧ w1.cell? ⟨w.heap.size, k * 3 + 2, none⟩ = some v2 := (by rw [hB1.cell, hB1.cell, hB1.cell]; have := hcs.1; exact ⟨_, _, _, Array.getElem?_eq_getElem (by omega), Array.getElem?_eq_getElem (by omega), Array.getElem?_eq_getElem (by omega)⟩); obtain ⟨v0, v1, v2, e0, e1, e2⟩ := e0)
      go_roundw
      case rel => exact ⟨k + 1, _, by omega, by go_num, (((hbel.trans (hb1.mono hbel.size)).setCell (by simp) _).setCell (by simp) _).setCell (by simp) _, ((hB1.set_ _ _).set_ _ _).set_ _ _, hcs.step HX.out⟩
      case measure => simp [intOf]; omega
    · go_wp2
      go_ret
      obtain rfl : k = xs.length := by omega
      exact ⟨_, rfl, hcs.sl hblk hx (by omega), hbel⟩

end Go.Proofs.Ytjhllgldllbaaaa
