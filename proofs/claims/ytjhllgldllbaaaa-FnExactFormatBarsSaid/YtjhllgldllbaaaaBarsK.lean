/- Lists of bars of the call's own. -/
import Derived.Test.YtjhllgldllbaaaaBars
import Derived.Test.YtjhllgldllbaaaaKitM
namespace Go.Proofs.Ytjhllgldllbaaaa
set_option linter.unusedVariables false
set_option linter.unusedSimpArgs false
open Go.RowKit

def barCs : List Bar → List Value
  | x :: xs => .int .i64 x.1 :: .int .i64 x.2.1 :: .int .i64 x.2.2 :: barCs xs
  | [] => []
theorem barCs_length : ∀ xs : List Bar, (barCs xs).length = xs.length * 3
  | [] => rfl
  | x :: xs => by simp only [barCs, List.length_cons, barCs_length xs]; omega
theorem barCs_get : ∀ {xs : List Bar} {j : Nat} {x : Bar}, xs[j]? = some x → (barCs xs)[j * 3]? = some (.int .i64 x.1) ∧ (barCs xs)[j * 3 + 1]? = some (.int .i64 x.2.1) ∧ (barCs xs)[j * 3 + 2]? = some (.int .i64 x.2.2)
  | [], _, _, h => by simp at h
  | x :: xs, 0, _, h => by
    simp at h
    subst h
    simp [barCs]
  | x :: xs, j + 1, y, h => by
    simp only [List.getElem?_cons_succ] at h
    obtain ⟨a, b, c⟩ := barCs_get h
    simp only [barCs, show (j + 1) * 3 = j * 3 + 1 + 1 + 1 by omega, show j * 3 + 1 + 1 + 1 + 1 = (j * 3 + 1) + 1 + 1 + 1 by omega, show j * 3 + 1 + 1 + 1 + 2 = (j * 3 + 2) + 1 + 1 + 1 by omega, List.getElem?_cons_succ]
    exact ⟨a, b, c⟩
theorem barCs_append : ∀ xs ys : List Bar, barCs (xs ++ ys) = barCs xs ++ barCs ys
  | [], _ => rfl
  | x :: xs, ys => by simp only [List.cons_append, barCs, barCs_append xs ys]
theorem barCs_oneCell : ∀ xs : List Bar, ∀ u ∈ barCs xs, u.oneCell' = true
  | [], u, hu => by simp [barCs] at hu
  | x :: xs, u, hu => by
    simp only [barCs, List.mem_cons] at hu
    rcases hu with rfl | rfl | rfl | hu
    · rfl
    · rfl
    · rfl
    · exact barCs_oneCell xs u hu
theorem barCs_set : ∀ {xs : List Bar} {j : Nat}, j < xs.length → ∀ x : Bar, (((barCs xs).set (j * 3) (.int .i64 x.1)).set (j * 3 + 1) (.int .i64 x.2.1)).set (j * 3 + 2) (.int .i64 x.2.2) = barCs (xs.set j x)
  | [], _, h, _ => by simp at h
  | y :: ys, 0, _, x => by simp [barCs]
  | y :: ys, j + 1, h, x => by
    have := barCs_set (xs := ys) (j := j) (by simpa using h) x
    simp only [barCs, show (j + 1) * 3 = j * 3 + 1 + 1 + 1 by omega, show j * 3 + 1 + 1 + 1 + 1 = (j * 3 + 1) + 1 + 1 + 1 by omega, show j * 3 + 1 + 1 + 1 + 2 = (j * 3 + 2) + 1 + 1 + 1 by omega, List.set_cons_succ, this]

def IBar (x : Bar) : Prop := I64 x.1 ∧ I64 x.2.1 ∧ I64 x.2.2
def BarsO (w : World) (lo hi : Nat) (v : Value) (xs : List Bar) : Prop := RowO 80 3 w lo hi v xs.length (barCs xs) ∧ ∀ x ∈ xs, IBar x
theorem BarsO.rd {w : World} {lo hi : Nat} {v : Value} {xs : List Bar} (h : BarsO w lo hi v xs) : SlB w w.heap.size v xs := by
  obtain ⟨⟨h1, h2, h3⟩, hi⟩ := h
  rcases h1.2 with ⟨rfl, h0⟩ | ⟨g, cap, cur, rfl, _, hg, hnc, hcm, hcs, htake⟩
  · obtain rfl : xs = [] := List.eq_nil_of_length_eq_zero (by omega)
    exact SlG.nil
  · refine ⟨_, _, rfl, hnc, by simp only [maxLen] at hcm; omega, h3, fun hp => ⟨g, 0, rfl, (Array.getElem?_eq_some_iff.1 hg).1, fun j x hj => ?_⟩⟩
    have hjl := lt_of_some hj
    have hl := barCs_length xs
    obtain ⟨a, b, c⟩ := barCs_get hj
    have c0 := h1.cellAt (j * 3) (by omega)
    have c1 := h1.cellAt (j * 3 + 1) (by omega)
    have c2 := h1.cellAt (j * 3 + 2) (by omega)
    obtain ⟨i1, i2, i3⟩ := hi x (List.mem_of_getElem? hj)
    exact ⟨⟨by rw [Nat.zero_add, c0]; exact a, by rw [Nat.zero_add, c1]; exact b, by rw [Nat.zero_add, c2]; exact c⟩, i1, i2, i3⟩
theorem BarsO.chg {w w' : World} {lo hi lo' hi' : Nat} {v : Value} {xs : List Bar} (h : BarsO w lo hi v xs) (hc : Chg lo' hi' w w') (hd : hi ≤ lo' ∨ hi' ≤ lo) : BarsO w' lo hi v xs := ⟨h.1.chg hc hd, h.2⟩
theorem BarsO.below {w w' : World} {lo hi : Nat} {v : Value} {xs : List Bar} (h : BarsO w lo hi v xs) (hb : Below w.heap.size w w') : BarsO w' lo hi v xs := ⟨h.1.below hb, h.2⟩
theorem BarsO.wider {w : World} {lo hi lo' hi' : Nat} {v : Value} {xs : List Bar} (h : BarsO w lo hi v xs) (h1 : lo' ≤ lo) (h2 : hi ≤ hi') : BarsO w lo' hi' v xs := ⟨h.1.mono h1 h2, h.2⟩
theorem BarsO.form {w : World} {lo hi : Nat} {v : Value} {xs : List Bar} (h : BarsO w lo hi v xs) : ∃ A c, v = .slice A xs.length c ∧ xs.length ≤ c ∧ c ≤ 9223372036854775807 := h.1.form
theorem BarsO.nil (w : World) (lo hi : Nat) : BarsO w lo hi (.slice none 0 0) [] := ⟨RowO.nil _ w lo hi, by simp⟩
theorem SlB.ib {w : World} {B : Nat} {v : Value} {xs : List Bar} (h : SlB w B v xs) : ∀ x ∈ xs, IBar x := by
  obtain ⟨A, c, _, _, _, _, h4⟩ := h
  intro x hx
  obtain ⟨j, hj⟩ := List.getElem?_of_mem hx
  obtain ⟨_, _, _, _, hr⟩ := h4 (by have := lt_of_some hj; omega)
  exact (hr j x hj).2
theorem SlB.chg {w w' : World} {B lo hi : Nat} {v : Value} {xs : List Bar} (h : SlB w B v xs) (hc : Chg lo hi w w') (hB : B ≤ lo) (hs : B ≤ w.heap.size) : SlB w' B v xs := SlB.below (hc.below hB hs) h

theorem BarCs.list {cs : Array Value} {xs : List Bar} (h : BarCs cs xs xs.length) : cs.toList = barCs xs := by
  have hl := barCs_length xs
  apply List.ext_getElem?
  intro i
  by_cases hi : i < xs.length * 3
  · obtain ⟨j, r, hr, rfl⟩ : ∃ j r, r < 3 ∧ i = j * 3 + r := ⟨i / 3, i % 3, Nat.mod_lt _ (by omega), by omega⟩
    have hj : j < xs.length := by omega
    obtain ⟨a, b, c⟩ := h.2 j _ hj (List.getElem?_eq_getElem hj)
    obtain ⟨a', b', c'⟩ := barCs_get (List.getElem?_eq_getElem hj)
    rw [Array.getElem?_toList]
    match r, hr with
    | 0, _ => rw [Nat.add_zero, a, a']
    | 1, _ => rw [b, b']
    | 2, _ => rw [c, c']
  · rw [List.getElem?_eq_none (by have := h.1; simp; omega), List.getElem?_eq_none (by omega)]

set_option maxHeartbeats 400000 in
theorem bars_to (u : Value) (xs : List Bar) (w : World) (hu : SlB w w.heap.size u xs) (hn : xs.length ≤ 1048576) :
    Calls Try.prog 28 #[u] w fun e w' => ∃ v, e = .returned v ∧ BarsO w' w.heap.size w'.heap.size v xs ∧ Below w.heap.size w w' := by
  have hib := SlB.ib hu
  have HIB := Lib.hid hib
  clear hib
  obtain ⟨A, c, rfl, _, _, _, hx⟩ := hu.open_
  clear hu
  obtain ⟨i0, hi, hz0, hz1, hz2⟩ := info_parts infoBar
  have hmk := run_mk (P := Try.prog) Try.underlying41 hi hz0 (n := xs.length) (by rw [hz2]; omega) (by omega)
  rw [hz1] at hmk
  clear hi hz0 hz1 hz2
  go_enter Try.func28, Try.ntmps28
  go_wp2
  go_loopw [4] (fun i wr => ∃ (k : Nat) (cs : Array Value), k ≤ xs.length ∧ i = .int .i64 k ∧ Below w.heap.size w wr ∧ Blk wr w.heap.size 80 cs ∧ BarCs cs xs k) (fun i _ => xs.length - (intOf i).toNat)
  case atStart => exact ⟨0, _, Nat.zero_le _, rfl, (Below.refl _ _).alloc (Nat.le_refl _) _, Blk.new _ _ _, by rw [mkCells_size], fun j x h => absurd h (by omega)⟩
  case round =>
    obtain ⟨k, cs, hk, rfl, hbel, hblk, hcs⟩ := hrel
    by_cases hlt : k < xs.length
    · obtain ⟨b, o, x, y, z, rfl, hb, HX, c1, c2, c3, _⟩ := SlB.at_ hx hlt
      have d1 := bcell hbel hb c1
      have d2 := bcell hbel hb c2
      have d3 := bcell hbel hb c3
      clear c1 c2 c3 hx
      go_wp2_with (go_at_call 74; refine (toBar_any _ _ _ _).mono ?_; rintro e w1 ⟨rfl, hb1⟩; have hB1 := hblk.below hb1 hblk.lt; have f0 := hB1.frozen; have e0 : ∃ v0 v1 v2, w1.cell? ⟨w.heap.size, k * 3, none⟩ = some v0 ∧ w1.cell? ⟨w.heap.size, k * 3 + 1, none⟩ = some v1 ∧ w1.cell? ⟨w.heap.size, k * 3 + 2, none⟩ = some v2 := (by rw [hB1.cell, hB1.cell, hB1.cell]; have := hcs.1; exact ⟨_, _, _, Array.getElem?_eq_getElem (by omega), Array.getElem?_eq_getElem (by omega), Array.getElem?_eq_getElem (by omega)⟩); obtain ⟨v0, v1, v2, e0, e1, e2⟩ := e0)
      go_roundw
      case rel => exact ⟨k + 1, _, by omega, by go_num, (((hbel.trans (hb1.mono hbel.size)).setCell (by simp) _).setCell (by simp) _).setCell (by simp) _, ((hB1.set_ _ _).set_ _ _).set_ _ _, hcs.step HX.out⟩
      case measure => simp [intOf]; omega
    · go_wp2
      go_ret
      obtain rfl : k = xs.length := by omega
      have hown := hblk.own (base := w.heap.size) (n := xs.length) (cap := xs.length) (size := 3) (Nat.le_refl _) (Nat.le_refl _) (by simp only [maxLen]; omega) hcs.1
      rw [hcs.list, List.take_of_length_le (by rw [barCs_length]; omega)] at hown
      exact ⟨_, rfl, ⟨⟨hown, fun k hk => (hown.lt k hk).2, by omega⟩, HIB.out⟩, hbel⟩
end Go.Proofs.Ytjhllgldllbaaaa
