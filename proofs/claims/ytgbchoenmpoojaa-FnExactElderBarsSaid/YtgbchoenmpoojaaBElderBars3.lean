/- FnExactElderBars: for every argument the program's function returns what the reference's returns. Part 3 of 10 of the proof: BarsK, CmpB, Kit3, Interval, FiltC, BarsM, Seat. No condition. -/
import Derived.Test.YtgbchoenmpoojaaBElderBars2
/- Lists of bars of the call's own. -/
namespace Go.Proofs.Ytgbchoenmpoojaa
set_option linter.unusedVariables false
set_option linter.unusedSimpArgs false
open Go.RowKit

def barCs : List Bar → List Value
  | x :: xs => .int .i64 x.1 :: .int .i64 x.2.1 :: .int .i64 x.2.2 :: barCs xs
  | [] => []
theorem barCs_length : ∀ xs : List Bar, (barCs xs).length = xs.length * 3
  | [] => rfl
  | x :: xs => by simp only [barCs, List.length_cons, barCs_length xs]; omega
theorem barCs_get : ∀ {xs : List Bar} {j : Nat} {x : Bar}, xs[j]? = some x → (barCs xs)[j * 3]? = some (.int .i64 x.1) ∧ (barCs xs)[j * 3 + 1]? = some (.int .i64 x.2.1) ∧ (barCs xs)[j * 3 + 2]? = some (.int .i64 x.2.2)
  | [], _, _, h => by simp at h
  | x :: xs, 0, _, h => by
    simp at h
    subst h
    simp [barCs]
  | x :: xs, j + 1, y, h => by
    simp only [List.getElem?_cons_succ] at h
    obtain ⟨a, b, c⟩ := barCs_get h
    simp only [barCs, show (j + 1) * 3 = j * 3 + 1 + 1 + 1 by omega, show j * 3 + 1 + 1 + 1 + 1 = (j * 3 + 1) + 1 + 1 + 1 by omega, show j * 3 + 1 + 1 + 1 + 2 = (j * 3 + 2) + 1 + 1 + 1 by omega, List.getElem?_cons_succ]
    exact ⟨a, b, c⟩
theorem barCs_append : ∀ xs ys : List Bar, barCs (xs ++ ys) = barCs xs ++ barCs ys
  | [], _ => rfl
  | x :: xs, ys => by simp only [List.cons_append, barCs, barCs_append xs ys]
theorem barCs_oneCell : ∀ xs : List Bar, ∀ u ∈ barCs xs, u.oneCell' = true
  | [], u, hu => by simp [barCs] at hu
  | x :: xs, u, hu => by
    simp only [barCs, List.mem_cons] at hu
    rcases hu with rfl | rfl | rfl | hu
    · rfl
    · rfl
    · rfl
    · exact barCs_oneCell xs u hu
theorem barCs_set : ∀ {xs : List Bar} {j : Nat}, j < xs.length → ∀ x : Bar, (((barCs xs).set (j * 3) (.int .i64 x.1)).set (j * 3 + 1) (.int .i64 x.2.1)).set (j * 3 + 2) (.int .i64 x.2.2) = barCs (xs.set j x)
  | [], _, h, _ => by simp at h
  | y :: ys, 0, _, x => by simp [barCs]
  | y :: ys, j + 1, h, x => by
    have := barCs_set (xs := ys) (j := j) (by simpa using h) x
    simp only [barCs, show (j + 1) * 3 = j * 3 + 1 + 1 + 1 by omega, show j * 3 + 1 + 1 + 1 + 1 = (j * 3 + 1) + 1 + 1 + 1 by omega, show j * 3 + 1 + 1 + 1 + 2 = (j * 3 + 2) + 1 + 1 + 1 by omega, List.set_cons_succ, this]

def IBar (x : Bar) : Prop := I64 x.1 ∧ I64 x.2.1 ∧ I64 x.2.2
def BarsO (w : World) (lo hi : Nat) (v : Value) (xs : List Bar) : Prop := RowO 70 3 w lo hi v xs.length (barCs xs) ∧ ∀ x ∈ xs, IBar x
theorem BarsO.rd {w : World} {lo hi : Nat} {v : Value} {xs : List Bar} (h : BarsO w lo hi v xs) : SlB w w.heap.size v xs := by
  obtain ⟨⟨h1, h2, h3⟩, hi⟩ := h
  rcases h1.2 with ⟨rfl, h0⟩ | ⟨g, cap, cur, rfl, _, hg, hnc, hcm, hcs, htake⟩
  · obtain rfl : xs = [] := List.eq_nil_of_length_eq_zero (by omega)
    exact SlG.nil
  · refine ⟨_, _, rfl, hnc, by simp only [maxLen] at hcm; omega, h3, fun hp => ⟨g, 0, rfl, (Array.getElem?_eq_some_iff.1 hg).1, fun j x hj => ?_⟩⟩
    have hjl := lt_of_some hj
    have hl := barCs_length xs
    obtain ⟨a, b, c⟩ := barCs_get hj
    have c0 := h1.cellAt (j * 3) (by omega)
    have c1 := h1.cellAt (j * 3 + 1) (by omega)
    have c2 := h1.cellAt (j * 3 + 2) (by omega)
    obtain ⟨i1, i2, i3⟩ := hi x (List.mem_of_getElem? hj)
    exact ⟨⟨by rw [Nat.zero_add, c0]; exact a, by rw [Nat.zero_add, c1]; exact b, by rw [Nat.zero_add, c2]; exact c⟩, i1, i2, i3⟩
theorem BarsO.chg {w w' : World} {lo hi lo' hi' : Nat} {v : Value} {xs : List Bar} (h : BarsO w lo hi v xs) (hc : Chg lo' hi' w w') (hd : hi ≤ lo' ∨ hi' ≤ lo) : BarsO w' lo hi v xs := ⟨h.1.chg hc hd, h.2⟩
theorem BarsO.below {w w' : World} {lo hi : Nat} {v : Value} {xs : List Bar} (h : BarsO w lo hi v xs) (hb : Below w.heap.size w w') : BarsO w' lo hi v xs := ⟨h.1.below hb, h.2⟩
theorem BarsO.wider {w : World} {lo hi lo' hi' : Nat} {v : Value} {xs : List Bar} (h : BarsO w lo hi v xs) (h1 : lo' ≤ lo) (h2 : hi ≤ hi') : BarsO w lo' hi' v xs := ⟨h.1.mono h1 h2, h.2⟩
theorem BarsO.form {w : World} {lo hi : Nat} {v : Value} {xs : List Bar} (h : BarsO w lo hi v xs) : ∃ A c, v = .slice A xs.length c ∧ xs.length ≤ c ∧ c ≤ 9223372036854775807 := h.1.form
theorem BarsO.nil (w : World) (lo hi : Nat) : BarsO w lo hi (.slice none 0 0) [] := ⟨RowO.nil _ w lo hi, by simp⟩
theorem SlB.ib {w : World} {B : Nat} {v : Value} {xs : List Bar} (h : SlB w B v xs) : ∀ x ∈ xs, IBar x := by
  obtain ⟨A, c, _, _, _, _, h4⟩ := h
  intro x hx
  obtain ⟨j, hj⟩ := List.getElem?_of_mem hx
  obtain ⟨_, _, _, _, hr⟩ := h4 (by have := lt_of_some hj; omega)
  exact (hr j x hj).2
theorem SlB.chg {w w' : World} {B lo hi : Nat} {v : Value} {xs : List Bar} (h : SlB w B v xs) (hc : Chg lo hi w w') (hB : B ≤ lo) (hs : B ≤ w.heap.size) : SlB w' B v xs := SlB.below (hc.below hB hs) h

theorem BarCs.list {cs : Array Value} {xs : List Bar} (h : BarCs cs xs xs.length) : cs.toList = barCs xs := by
  have hl := barCs_length xs
  apply List.ext_getElem?
  intro i
  by_cases hi : i < xs.length * 3
  · obtain ⟨j, r, hr, rfl⟩ : ∃ j r, r < 3 ∧ i = j * 3 + r := ⟨i / 3, i % 3, Nat.mod_lt _ (by omega), by omega⟩
    have hj : j < xs.length := by omega
    obtain ⟨a, b, c⟩ := h.2 j _ hj (List.getElem?_eq_getElem hj)
    obtain ⟨a', b', c'⟩ := barCs_get (List.getElem?_eq_getElem hj)
    rw [Array.getElem?_toList]
    match r, hr with
    | 0, _ => rw [Nat.add_zero, a, a']
    | 1, _ => rw [b, b']
    | 2, _ => rw [c, c']
  · rw [List.getElem?_eq_none (by have := h.1; simp; omega), List.getElem?_eq_none (by omega)]

end Go.Proofs.Ytgbchoenmpoojaa

/- cmp.Compare, cmp.Or, compareBars. -/
namespace Go.Proofs.Ytgbchoenmpoojaa
set_option linter.unusedVariables false
set_option linter.unusedSimpArgs false
open Go.RowKit

def cmpI (a b : Int) : Int := if a < b then -1 else if b < a then 1 else 0
def cmpB (x y : Bar) : Int := if cmpI x.1 y.1 = 0 then cmpI x.2.1 y.2.1 else cmpI x.1 y.1
theorem cmpI_0 {a b : Int} : cmpI a b = 0 ↔ a = b := by
  unfold cmpI
  constructor
  · intro h; split at h
    · omega
    · split at h <;> omega
  · rintro rfl; rw [if_neg (by omega), if_neg (by omega)]
theorem cmpI_neg {a b : Int} : cmpI a b < 0 ↔ a < b := by
  unfold cmpI
  split
  · constructor <;> omega
  · split <;> constructor <;> omega
theorem cmpI_r (a b : Int) : -1 ≤ cmpI a b ∧ cmpI a b ≤ 1 := by
  unfold cmpI; split
  · omega
  · split <;> omega
theorem cmpB_neg {x y : Bar} : cmpB x y < 0 ↔ x.1 < y.1 ∨ x.1 = y.1 ∧ x.2.1 < y.2.1 := by
  unfold cmpB
  split
  · rename_i h
    rw [cmpI_0] at h
    rw [cmpI_neg]
    omega
  · rename_i h
    rw [cmpI_0] at h
    rw [cmpI_neg]
    omega
theorem cmpB_r (x y : Bar) : -1 ≤ cmpB x y ∧ cmpB x y ≤ 1 := by unfold cmpB; split <;> exact cmpI_r _ _
theorem cmpB_0 {x y : Bar} : cmpB x y = 0 ↔ x.1 = y.1 ∧ x.2.1 = y.2.1 := by
  unfold cmpB
  split
  · rename_i h
    rw [cmpI_0] at h
    rw [cmpI_0]
    omega
  · rename_i h
    rw [cmpI_0] at h
    rw [cmpI_0]
    omega

theorem isNaN_any (a : Int) (w : World) : Calls Try.prog 138 #[.int .i64 a] w fun e w' => e = .returned (.bool false) ∧ w = w' := by
  have h : (a != a) = false := by simp
  go_enter Try.func138, Try.ntmps138
  go_wp2
  go_ret
  exact ⟨rfl, rfl⟩
set_option maxHeartbeats 400000 in
theorem compare_any (a b : Int) (w : World) : Calls Try.prog 122 #[.int .i64 a, .int .i64 b] w fun e w' => e = .returned (.int .i64 (cmpI a b)) ∧ w = w' := by
  go_enter Try.func122, Try.ntmps122
  go_wp2_with (go_at_call 138; refine (isNaN_any _ _).mono ?_; rintro e w' ⟨rfl, rfl⟩)
  all_goals go_ret
  all_goals (unfold cmpI; refine ⟨?_, rfl⟩)
  all_goals (repeat (first | rw [if_pos (by omega)] | rw [if_neg (by omega)]))
  all_goals rfl
/-- the first number that is not 0 -/
def orI : List Int → Int
  | [] => 0
  | x :: xs => if x = 0 then orI xs else x
theorem orI_take {l : List Int} {k : Nat} (h : ∀ j, j < k → l.getD j 0 = 0) : orI l = orI (l.drop k) := by
  induction k generalizing l with
  | zero => rfl
  | succ k ih =>
    match l with
    | [] => rfl
    | x :: xs =>
      have h0 := h 0 (by omega)
      simp at h0
      subst h0
      simp only [orI, if_true, List.drop_succ_cons]
      exact ih fun j hj => by have := h (j + 1) (by omega); simpa using this
set_option maxHeartbeats 400000 in
theorem or_any (v : Value) (l : List Int) (w : World) (hv : SlI w w.heap.size v l) : Calls Try.prog 121 #[v] w fun e w' => e = .returned (.int .i64 (orI l)) ∧ w = w' := by
  obtain ⟨A, c, rfl, _, _, hn, hx⟩ := hv.open_
  clear hv
  go_enter Try.func121, Try.ntmps121
  go_wp2
  go_loop [8] (fun i => ∃ k : Nat, k ≤ l.length ∧ i = .int .i64 k ∧ Hid (∀ j, j < k → l.getD j 0 = 0)) (fun i => l.length - (intOf i).toNat)
  case atStart => exact ⟨0, Nat.zero_le _, rfl, fun j h => absurd h (by omega)⟩
  case round =>
    obtain ⟨k, hk, rfl, hz⟩ := hrel
    by_cases hlt : k < l.length
    · obtain ⟨b, o, x, rfl, hb, HX, c1, _⟩ := SlI.at_ hx hlt
      clear hx
      by_cases hE : x = 0
      · subst hE
        go_wp2
        go_round
        case rel =>
          refine ⟨k + 1, by omega, by go_num, fun j hj => ?_⟩
          by_cases e : j = k
          · subst e
            rw [List.getD_eq_getElem?_getD, HX.out]; rfl
          · exact hz.out j (by omega)
        case measure => simp [intOf]; omega
      · have hne : (x != 0) = true := by simpa using hE
        have HO := Lib.hid (show orI l = x by
          rw [orI_take hz.out, List.drop_eq_getElem_cons hlt]
          have := HX.out
          rw [List.getElem?_eq_getElem hlt] at this
          injection this with this
          rw [this]
          simp [orI, hE])
        clear hE
        go_wp2
        go_ret
        exact ⟨by rw [HO.out]; rfl, rfl⟩
    · have HO := Lib.hid (show orI l = 0 by rw [orI_take hz.out, List.drop_of_length_le (by omega)]; rfl)
      go_wp2
      go_ret
      exact ⟨by rw [HO.out]; rfl, rfl⟩
theorem orI_two (x y : Bar) : orI [cmpI x.1 y.1, cmpI x.2.1 y.2.1] = cmpB x y := by
  unfold cmpB
  simp only [orI]
  split
  · split
    · rename_i h; exact h.symm
    · rfl
  · rfl

set_option maxHeartbeats 1600000 in
set_option maxRecDepth 100000 in
theorem compareBars_any (p q r s1 s2 s3 : Int) (w0 : World) :
    Calls Try.prog 101 #[.agg #[.int .i64 p, .int .i64 q, .int .i64 r], .agg #[.int .i64 s1, .int .i64 s2, .int .i64 s3]] w0 fun e w' => e = .returned (.int .i64 (cmpB (p, q, r) (s1, s2, s3))) ∧ Below w0.heap.size w0 w' := by
  obtain ⟨W, hW⟩ : ∃ W, W = (w0.alloc (.cells #[.int .i64 p, .int .i64 q, .int .i64 r] 70)).alloc (.cells #[.int .i64 s1, .int .i64 s2, .int .i64 s3] 70) := ⟨_, rfl⟩
  have g0 : Below w0.heap.size w0 W := by rw [hW]; exact ((Below.refl _ _).alloc (Nat.le_refl _) _).alloc (by simp) _
  have k1 : Blk W w0.heap.size 70 #[.int .i64 p, .int .i64 q, .int .i64 r] := by rw [hW]; exact (Blk.new _ _ _).alloc _
  have k2 : Blk W (w0.heap.size + 1) 70 #[.int .i64 s1, .int .i64 s2, .int .i64 s3] := by
    rw [hW]
    have := Blk.new (w0.alloc (.cells #[.int .i64 p, .int .i64 q, .int .i64 r] 70)) 70 #[.int .i64 s1, .int .i64 s2, .int .i64 s3]
    simpa only [World.size_alloc] using this
  have hor := orI_two (p, q, r) (s1, s2, s3)
  simp only at hor
  rw [← hor]
  clear hor
  obtain ⟨a, ha⟩ : ∃ a, cmpI p s1 = a := ⟨_, rfl⟩
  obtain ⟨b, hb0⟩ : ∃ b, cmpI q s2 = b := ⟨_, rfl⟩
  have hra := cmpI_r p s1
  have hrb := cmpI_r q s2
  rw [ha] at hra
  rw [hb0] at hrb
  rw [ha, hb0]
  have HA := Lib.hid ha
  have HB := Lib.hid hb0
  clear ha hb0
  go_enter Try.func101, Try.ntmps101
  go_wp2
  rw [← hW]; clear hW
  refine wp_region_net (by kernel_rfl) [.eq (.pointer (some ⟨w0.heap.size, 0, none⟩)), .eq (.int .i64 p), .eq (.pointer (some ⟨w0.heap.size + 1, 0, none⟩)), .eq (.int .i64 s1), .eq (.int .i64 a), .eq (.pointer (some ⟨w0.heap.size, 1, none⟩)), .eq (.int .i64 q), .eq (.pointer (some ⟨w0.heap.size + 1, 1, none⟩)), .eq (.int .i64 s2), .eq (.int .i64 b), rel 10 (fun u lo hi w => ∃ g, u = .slice (some ⟨g, 0, none⟩) 2 2 ∧ Blk w g 3 #[.int .i64 a, .int .i64 b]), .eq (.int .i64 (orI [a, b]))] [[], [0], [], [2], [0, 1, 2, 3], [], [5], [], [7], [0, 1, 2, 3, 4, 5, 6, 7, 8], [0, 1, 2, 3, 4, 5, 6, 7, 8, 9], [0, 1, 2, 3, 4, 5, 6, 7, 8, 9, 10], [0, 1, 2, 3, 4, 5, 6, 7, 8, 9, 10, 11]] 12 (by kernel_rfl) ⟨trivial, trivial, trivial, trivial, trivial, trivial, trivial, trivial, trivial, trivial, rel_stable (fun u lo hi w w' ⟨g, e, h⟩ hb => ⟨g, e, h.call hb⟩), trivial, trivial⟩ ⟨?_, ?_, ?_, ?_, ?_, ?_, ?_, ?_, ?_, ?_, ?_, ?_, trivial⟩ ?_
  · intro x w hb hk Q' hQ
    clear hk
    simp only [netAct, dstAt, List.getElem?_toArray, List.getElem?_cons_zero, List.getElem?_cons_succ, Option.bind_some, Act.put, List.setIfInBounds_toArray, List.set_cons_zero, List.set_cons_succ] at hQ ⊢
    go_wp2
    exact hQ (.pointer (some ⟨w0.heap.size, 0, none⟩)) _ (Below.refl _ _) rfl
  · intro x w hb hk Q' hQ
    have h0 : x.v 0 = .pointer (some ⟨w0.heap.size, 0, none⟩) := (hk 0 (by decide)).1
    clear hk
    simp only [netAct, dstAt, List.getElem?_toArray, List.getElem?_cons_zero, List.getElem?_cons_succ, Option.bind_some, Act.put, List.setIfInBounds_toArray, List.set_cons_zero, List.set_cons_succ] at hQ ⊢
    simp only [h0] at hQ ⊢
    clear h0
    have q0 := (k1.call hb).cell' (i := 0) rfl
    go_wp2
    exact hQ (.int .i64 p) _ (Below.refl _ _) rfl
  · intro x w hb hk Q' hQ
    clear hk
    simp only [netAct, dstAt, List.getElem?_toArray, List.getElem?_cons_zero, List.getElem?_cons_succ, Option.bind_some, Act.put, List.setIfInBounds_toArray, List.set_cons_zero, List.set_cons_succ] at hQ ⊢
    go_wp2
    exact hQ (.pointer (some ⟨w0.heap.size + 1, 0, none⟩)) _ (Below.refl _ _) rfl
  · intro x w hb hk Q' hQ
    have h2 : x.v 2 = .pointer (some ⟨w0.heap.size + 1, 0, none⟩) := (hk 2 (by decide)).1
    clear hk
    simp only [netAct, dstAt, List.getElem?_toArray, List.getElem?_cons_zero, List.getElem?_cons_succ, Option.bind_some, Act.put, List.setIfInBounds_toArray, List.set_cons_zero, List.set_cons_succ] at hQ ⊢
    simp only [h2] at hQ ⊢
    clear h2
    have q0 := (k2.call hb).cell' (i := 0) rfl
    go_wp2
    exact hQ (.int .i64 s1) _ (Below.refl _ _) rfl
  · intro x w hb hk Q' hQ
    have h1 : x.v 1 = .int .i64 p := (hk 1 (by decide)).1
    have h3 : x.v 3 = .int .i64 s1 := (hk 3 (by decide)).1
    clear hk
    simp only [netAct, dstAt, List.getElem?_toArray, List.getElem?_cons_zero, List.getElem?_cons_succ, Option.bind_some, Act.put, List.setIfInBounds_toArray, List.set_cons_zero, List.set_cons_succ] at hQ ⊢
    simp only [h1, h3] at hQ ⊢
    clear h1 h3
    go_wp2_with fail
    refine (compare_any _ _ _).mono ?_; rintro e w1 ⟨rfl, rfl⟩
    rw [HA.out]
    go_wp2
    exact hQ (.int .i64 a) _ (Below.refl _ _) rfl
  · intro x w hb hk Q' hQ
    clear hk
    simp only [netAct, dstAt, List.getElem?_toArray, List.getElem?_cons_zero, List.getElem?_cons_succ, Option.bind_some, Act.put, List.setIfInBounds_toArray, List.set_cons_zero, List.set_cons_succ] at hQ ⊢
    go_wp2
    exact hQ (.pointer (some ⟨w0.heap.size, 1, none⟩)) _ (Below.refl _ _) rfl
  · intro x w hb hk Q' hQ
    have h5 : x.v 5 = .pointer (some ⟨w0.heap.size, 1, none⟩) := (hk 5 (by decide)).1
    clear hk
    simp only [netAct, dstAt, List.getElem?_toArray, List.getElem?_cons_zero, List.getElem?_cons_succ, Option.bind_some, Act.put, List.setIfInBounds_toArray, List.set_cons_zero, List.set_cons_succ] at hQ ⊢
    simp only [h5] at hQ ⊢
    clear h5
    have q0 := (k1.call hb).cell' (i := 1) rfl
    go_wp2
    exact hQ (.int .i64 q) _ (Below.refl _ _) rfl
  · intro x w hb hk Q' hQ
    clear hk
    simp only [netAct, dstAt, List.getElem?_toArray, List.getElem?_cons_zero, List.getElem?_cons_succ, Option.bind_some, Act.put, List.setIfInBounds_toArray, List.set_cons_zero, List.set_cons_succ] at hQ ⊢
    go_wp2
    exact hQ (.pointer (some ⟨w0.heap.size + 1, 1, none⟩)) _ (Below.refl _ _) rfl
  · intro x w hb hk Q' hQ
    have h7 : x.v 7 = .pointer (some ⟨w0.heap.size + 1, 1, none⟩) := (hk 7 (by decide)).1
    clear hk
    simp only [netAct, dstAt, List.getElem?_toArray, List.getElem?_cons_zero, List.getElem?_cons_succ, Option.bind_some, Act.put, List.setIfInBounds_toArray, List.set_cons_zero, List.set_cons_succ] at hQ ⊢
    simp only [h7] at hQ ⊢
    clear h7
    have q0 := (k2.call hb).cell' (i := 1) rfl
    go_wp2
    exact hQ (.int .i64 s2) _ (Below.refl _ _) rfl
  · intro x w hb hk Q' hQ
    have h6 : x.v 6 = .int .i64 q := (hk 6 (by decide)).1
    have h8 : x.v 8 = .int .i64 s2 := (hk 8 (by decide)).1
    clear hk
    simp only [netAct, dstAt, List.getElem?_toArray, List.getElem?_cons_zero, List.getElem?_cons_succ, Option.bind_some, Act.put, List.setIfInBounds_toArray, List.set_cons_zero, List.set_cons_succ] at hQ ⊢
    simp only [h6, h8] at hQ ⊢
    clear h6 h8
    go_wp2_with fail
    refine (compare_any _ _ _).mono ?_; rintro e w1 ⟨rfl, rfl⟩
    rw [HB.out]
    go_wp2
    exact hQ (.int .i64 b) _ (Below.refl _ _) rfl
  · intro x w hb hk Q' hQ
    have h0 : x.v 0 = .pointer (some ⟨w0.heap.size, 0, none⟩) := (hk 0 (by decide)).1
    have h1 : x.v 1 = .int .i64 p := (hk 1 (by decide)).1
    have h2 : x.v 2 = .pointer (some ⟨w0.heap.size + 1, 0, none⟩) := (hk 2 (by decide)).1
    have h3 : x.v 3 = .int .i64 s1 := (hk 3 (by decide)).1
    have h4 : x.v 4 = .int .i64 a := (hk 4 (by decide)).1
    have h5 : x.v 5 = .pointer (some ⟨w0.heap.size, 1, none⟩) := (hk 5 (by decide)).1
    have h6 : x.v 6 = .int .i64 q := (hk 6 (by decide)).1
    have h7 : x.v 7 = .pointer (some ⟨w0.heap.size + 1, 1, none⟩) := (hk 7 (by decide)).1
    have h8 : x.v 8 = .int .i64 s2 := (hk 8 (by decide)).1
    have h9 : x.v 9 = .int .i64 b := (hk 9 (by decide)).1
    clear hk
    simp only [netAct, dstAt, List.getElem?_toArray, List.getElem?_cons_zero, List.getElem?_cons_succ, Option.bind_some, Act.put, List.setIfInBounds_toArray, List.set_cons_zero, List.set_cons_succ] at hQ ⊢
    simp only [h0, h1, h2, h3, h4, h5, h6, h7, h8, h9] at hQ ⊢
    clear h0 h1 h2 h3 h4 h5 h6 h7 h8 h9
    go_wp2
    exact hQ _ _ (below_alloc _ _) ⟨_, rfl, Blk.new _ _ _⟩
  · intro x w hb hk Q' hQ
    have h10 : ∃ g, (x.v 10) = .slice (some ⟨g, 0, none⟩) 2 2 ∧ Blk w g 3 #[.int .i64 a, .int .i64 b] := (hk 10 (by decide)).1
    clear hk
    simp only [netAct, dstAt, List.getElem?_toArray, List.getElem?_cons_zero, List.getElem?_cons_succ, Option.bind_some, Act.put, List.setIfInBounds_toArray, List.set_cons_zero, List.set_cons_succ] at hQ ⊢
    obtain ⟨g, e1, hk⟩ := h10
    rw [e1] at hQ ⊢
    have hsl : SlI w w.heap.size (.slice (some ⟨g, 0, none⟩) 2 2) [a, b] := by
      refine ⟨_, 2, rfl, by simp, by omega, by simp, fun _ => ⟨g, 0, rfl, hk.lt, fun j y hj => ?_⟩⟩
      match j, hj with
      | 0, hj =>
        simp at hj; subst hj
        exact ⟨by rw [hk.cell]; rfl, by unfold I64; omega⟩
      | 1, hj =>
        simp at hj; subst hj
        exact ⟨by rw [hk.cell]; rfl, by unfold I64; omega⟩
      | j + 2, hj => simp at hj
    have HS := Lib.hid hsl
    clear hsl
    go_wp2_with fail
    refine (or_any _ _ _ HS.out).mono ?_; rintro e w1 ⟨rfl, rfl⟩
    go_wp2
    exact hQ (.int .i64 (orI [a, b])) _ (Below.refl _ _) rfl
  · intro x w hb hk hiv hdj
    have h0 : x.v 0 = .pointer (some ⟨w0.heap.size, 0, none⟩) := hk 0 (by decide)
    have h1 : x.v 1 = .int .i64 p := hk 1 (by decide)
    have h2 : x.v 2 = .pointer (some ⟨w0.heap.size + 1, 0, none⟩) := hk 2 (by decide)
    have h3 : x.v 3 = .int .i64 s1 := hk 3 (by decide)
    have h4 : x.v 4 = .int .i64 a := hk 4 (by decide)
    have h5 : x.v 5 = .pointer (some ⟨w0.heap.size, 1, none⟩) := hk 5 (by decide)
    have h6 : x.v 6 = .int .i64 q := hk 6 (by decide)
    have h7 : x.v 7 = .pointer (some ⟨w0.heap.size + 1, 1, none⟩) := hk 7 (by decide)
    have h8 : x.v 8 = .int .i64 s2 := hk 8 (by decide)
    have h9 : x.v 9 = .int .i64 b := hk 9 (by decide)
    have h10 : ∃ g, (x.v 10) = .slice (some ⟨g, 0, none⟩) 2 2 ∧ Blk w g 3 #[.int .i64 a, .int .i64 b] := hk 10 (by decide)
    have h11 : x.v 11 = .int .i64 (orI [a, b]) := hk 11 (by decide)
    clear hk
    simp only [netAct, dstAt, List.getElem?_toArray, List.getElem?_cons_zero, List.getElem?_cons_succ, Option.bind_some, Act.put, List.setIfInBounds_toArray, List.set_cons_zero, List.set_cons_succ]
    simp only [List.drop_succ_cons, List.drop_zero, h0, h1, h2, h3, h4, h5, h6, h7, h8, h9, h11]
    clear h0 h1 h2 h3 h4 h5 h6 h7 h8 h9 h11
    go_wp2
    go_ret
    exact ⟨rfl, g0.trans (hb.mono g0.size)⟩
end Go.Proofs.Ytgbchoenmpoojaa

/- What every law goes through: filtrations. -/
namespace Go.Proofs.Ytgbchoenmpoojaa
set_option linter.unusedVariables false
set_option linter.unusedSimpArgs false
open Go.RowKit

/-- A filtration as data. -/
structure Filt where
  stages : Int
  birth : List Int
  ends : List (List Int)
deriving DecidableEq
def Filt.size (f : Filt) : Nat := f.birth.length + szSS f.ends
theorem filt_ext (p q : Filt) : (p = q) ↔ (p.stages = q.stages ∧ p.birth = q.birth ∧ p.ends = q.ends) := by
  cases p; cases q; simp

def FiR (w : World) (B : Nat) (val : Value) (f : Filt) : Prop := ∃ a b, val = .agg #[.int .i64 f.stages, a, b] ∧ SlI w B a f.birth ∧ SlII w B b f.ends ∧ I64 f.stages
theorem FiR.next {w w' : World} {v : Value} {q : Filt} (hb : Below w.heap.size w w') (h : FiR w w.heap.size v q) : FiR w' w'.heap.size v q := by
  obtain ⟨a, b, e, h1, h2, h3⟩ := h
  exact ⟨a, b, e, SlI.next hb h1, SlII.next hb h2, h3⟩
theorem FiR.below {w w' : World} {B : Nat} {v : Value} {q : Filt} (hb : Below B w w') (h : FiR w B v q) : FiR w' B v q := by
  obtain ⟨a, b, e, h1, h2, h3⟩ := h
  exact ⟨a, b, e, SlI.below hb h1, SlII.below hb h2, h3⟩
theorem FiR.more {w : World} {B B' : Nat} {v : Value} {q : Filt} (hB : B ≤ B') (h : FiR w B v q) : FiR w B' v q := by
  obtain ⟨a, b, e, h1, h2, h3⟩ := h
  exact ⟨a, b, e, SlI.more hB h1, SlII.more hB h2, h3⟩
theorem FiR.chg {w w' : World} {B lo hi : Nat} {v : Value} {q : Filt} (h : FiR w B v q) (hc : Chg lo hi w w') (hB : B ≤ lo) (hs : B ≤ w.heap.size) : FiR w' B v q := FiR.below (hc.below hB hs) h
theorem FiR.open_ {w : World} {B : Nat} {v : Value} {q : Filt} (h : FiR w B v q) : ∃ A c C d, v = .agg #[.int .i64 q.stages, .slice A q.birth.length c, .slice C q.ends.length d] ∧ SlI w B (.slice A q.birth.length c) q.birth ∧ SlII w B (.slice C q.ends.length d) q.ends ∧ I64 q.stages ∧ q.birth.length ≤ 17592186044416 ∧ q.ends.length ≤ 17592186044416 := by
  obtain ⟨a, b, rfl, h1, h2, h3⟩ := h
  obtain ⟨A, c, rfl, _, _, h4, h1⟩ := h1.open_
  obtain ⟨C, d, rfl, _, _, h5, h2⟩ := h2.open_
  exact ⟨A, c, C, d, rfl, h1, h2, h3, h4, h5⟩
theorem FiR.form {w : World} {B : Nat} {v : Value} {q : Filt} (h : FiR w B v q) : ∃ A c C d, v = .agg #[.int .i64 q.stages, .slice A q.birth.length c, .slice C q.ends.length d] := by
  obtain ⟨A, c, C, d, e, _⟩ := h.open_
  exact ⟨A, c, C, d, e⟩
theorem FiR.lens {w : World} {B : Nat} {v : Value} {q : Filt} (h : FiR w B v q) : q.birth.length ≤ 17592186044416 ∧ q.ends.length ≤ 17592186044416 := by
  obtain ⟨A, c, C, d, e, _, _, _, h1, h2⟩ := h.open_
  exact ⟨h1, h2⟩
def FiO (w : World) (lo hi : Nat) (val : Value) (f : Filt) : Prop := ∃ a b vs, val = .agg #[.int .i64 f.stages, a, b] ∧ OutO w lo hi b vs ∧ vs.length = f.ends.length ∧ Fam w lo hi ([(a, f.birth)] ++ vs.zip f.ends) ∧ I64 f.stages
theorem FiO.rd {w : World} {lo hi : Nat} {v : Value} {q : Filt} (h : FiO w lo hi v q) : FiR w w.heap.size v q := by
  obtain ⟨a, b, vs, e, h1, h2, h3, h4⟩ := h
  exact ⟨a, b, e, (h3.1 (a, q.birth) (by simp)).rd, h1.rd h2 fun p hp => (h3.1 p (by simp [hp])).rd, h4⟩
theorem FiO.form {w : World} {lo hi : Nat} {v : Value} {q : Filt} (h : FiO w lo hi v q) : ∃ A c C d, v = .agg #[.int .i64 q.stages, .slice A q.birth.length c, .slice C q.ends.length d] := h.rd.form
theorem FiO.chg {w w' : World} {lo hi lo' hi' : Nat} {v : Value} {q : Filt} (h : FiO w lo hi v q) (hc : Chg lo' hi' w w') (hd : hi ≤ lo' ∨ hi' ≤ lo) : FiO w' lo hi v q := by
  obtain ⟨a, b, vs, e, h1, h2, h3, h4⟩ := h
  exact ⟨a, b, vs, e, h1.chg hc hd, h2, h3.chg hc hd, h4⟩
theorem FiO.below {w w' : World} {lo hi : Nat} {v : Value} {q : Filt} (h : FiO w lo hi v q) (hb : Below w.heap.size w w') : FiO w' lo hi v q := by
  obtain ⟨a, b, vs, e, h1, h2, h3, h4⟩ := h
  exact ⟨a, b, vs, e, h1.below hb, h2, h3.below hb, h4⟩
def FiO.mk (k : Int) (q : Filt) : Filt := ⟨q.stages, mkI k q.birth.length, mkSS (k + q.birth.length) q.ends⟩

set_option maxHeartbeats 400000 in
theorem eqFiltration_any (u v : Value) (p q : Filt) (w : World) (hu : FiR w w.heap.size u p) (hv : FiR w w.heap.size v q) :
    Calls Try.prog 33 #[u, v] w fun e w' => e = .returned (.bool (decide (p = q))) ∧ Below w.heap.size w w' := by
  obtain ⟨A, c, C, d, rfl, hf, ht, _, _, _⟩ := hu.open_
  obtain ⟨A', c', C', d', rfl, hf', ht', _, _, _⟩ := hv.open_
  clear hu hv
  have g0 : Below w.heap.size w ((w.alloc (.cells #[.int .i64 p.stages, .slice A p.birth.length c, .slice C p.ends.length d] 49)).alloc (.cells #[.int .i64 q.stages, .slice A' q.birth.length c', .slice C' q.ends.length d'] 49)) := ((Below.refl _ _).alloc (Nat.le_refl _) _).alloc (by simp) _
  by_cases h1 : p.stages = q.stages
  · have e1 : (p.stages != q.stages) = false := by rw [h1]; simp
    have H1 := Lib.hid h1
    clear h1
    by_cases h2 : p.birth = q.birth
    · have e2 : decide (p.birth = q.birth) = true := by simpa using h2
      have H2 := Lib.hid h2
      clear h2
      obtain ⟨B, hB⟩ : ∃ B, decide (p.ends = q.ends) = B := ⟨_, rfl⟩
      have HB := Lib.hid hB
      have hfin : decide (p = q) = B := by
        rw [← hB, decide_eq_decide, filt_ext]
        exact ⟨fun h => h.2.2, fun h => ⟨H1.out, H2.out, h⟩⟩
      rw [hfin]
      clear hfin
      go_enter Try.func33, Try.ntmps33
      go_wp2_with fail
      refine (eqIntS_any _ _ _ _ _ (SlI.next g0 hf) (SlI.next g0 hf')).mono ?_; rintro e w1 ⟨rfl, hb1⟩
      have g1 := bthen g0 hb1
      have bc := (((Blk.new w 49 #[.int .i64 p.stages, .slice A p.birth.length c, .slice C p.ends.length d]).alloc _).call hb1).cell' (i := 2) rfl
      have bd := ((Blk.new (w.alloc _) 49 #[.int .i64 q.stages, .slice A' q.birth.length c', .slice C' q.ends.length d']).call hb1).cell' (i := 2) rfl
      simp only [World.size_alloc] at bd
      go_wp2_with fail
      refine (eqIntSS_any _ _ _ _ _ (SlII.next g1 ht) (SlII.next g1 ht')).mono ?_; rintro e w2 ⟨rfl, hb2⟩
      rw [hB]
      clear hB
      go_wp2
      all_goals (go_ret; simp_all; exact bthen g1 hb2)
    · have e2 : decide (p.birth = q.birth) = false := by simpa using h2
      have hfin : decide (p = q) = false := by
        simp only [decide_eq_false_iff_not, filt_ext]
        exact fun h => h2 h.2.1
      rw [hfin]
      clear hfin h2
      go_enter Try.func33, Try.ntmps33
      go_wp2_with fail
      refine (eqIntS_any _ _ _ _ _ (SlI.next g0 hf) (SlI.next g0 hf')).mono ?_; rintro e w1 ⟨rfl, hb1⟩
      go_wp2
      go_ret
      exact ⟨rfl, bthen g0 hb1⟩
  · have e1 : (p.stages != q.stages) = true := by simpa using h1
    have hfin : decide (p = q) = false := by
      simp only [decide_eq_false_iff_not, filt_ext]
      exact fun h => h1 h.1
    rw [hfin]
    clear hfin h1
    go_enter Try.func33, Try.ntmps33
    go_wp2
    go_ret
    exact ⟨rfl, g0⟩

theorem szFiltration_any (u : Value) (q : Filt) (left : Int) (w : World) (hu : FiR w w.heap.size u q) (h0 : 0 ≤ left) (h1 : left ≤ 1048576) :
    Calls Try.prog 28 #[u, .int .i64 left] w fun e w' => e = .returned (.int .i64 (szLeft left q.size)) ∧ Below w.heap.size w w' := by
  obtain ⟨A, c, C, d, rfl, hf, ht, hr, lf, lt⟩ := hu.open_
  clear hu hr
  have cB := (Blk.new w 44 #[.int .i64 q.stages, .slice A q.birth.length c, .slice C q.ends.length d]).cell' (i := 2) rfl
  have g0 := below_alloc w (.cells #[.int .i64 q.stages, .slice A q.birth.length c, .slice C q.ends.length d] 44)
  by_cases h2 : left < q.birth.length
  · have s1 : szLeft left q.birth.length = -1 := by rw [szLeft, if_pos h2]
    have e : szLeft left q.size = -1 := by rw [szLeft, if_pos (by simp only [Filt.size]; omega)]
    rw [e]
    clear e
    go_enter Try.func28, Try.ntmps28
    go_wp2_with fail
    refine (szIntS_any _ _ _ _ _ lf h0 h1).mono ?_; rintro e w' ⟨rfl, rfl⟩
    go_wp2
    go_ret
    exact ⟨rfl, g0⟩
  · have s1 : szLeft left q.birth.length = left - q.birth.length := by rw [szLeft, if_neg h2]
    have n1 : ¬ left - (q.birth.length : Int) < 0 := by omega
    obtain ⟨z, hz⟩ : ∃ z, szSS q.ends = z := ⟨_, rfl⟩
    by_cases h3 : left - q.birth.length < z
    · have s2 : szLeft (left - q.birth.length) z = -1 := by rw [szLeft, if_pos h3]
      have e : szLeft left q.size = -1 := by rw [szLeft, if_pos (by simp only [Filt.size]; omega)]
      rw [e]
      clear e
      go_enter Try.func28, Try.ntmps28
      go_wp2_with fail
      refine (szIntS_any _ _ _ _ _ lf h0 h1).mono ?_; rintro e w' ⟨rfl, rfl⟩
      go_wp2_with fail
      refine (szIntSS_any _ _ (left - q.birth.length) _ (SlII.next g0 ht) (by omega) (by omega)).mono ?_; rintro e w2 ⟨rfl, hb2⟩
      rw [hz]
      go_wp2
      go_ret
      exact ⟨rfl, bthen g0 hb2⟩
    · have s2 : szLeft (left - q.birth.length) z = left - q.birth.length - z := by rw [szLeft, if_neg h3]
      have n2 : ¬ left - (q.birth.length : Int) - z < 0 := by omega
      have e : szLeft left q.size = left - q.birth.length - z := by rw [szLeft, if_neg (by simp only [Filt.size]; omega)]; simp only [Filt.size]; omega
      rw [e]
      clear e
      go_enter Try.func28, Try.ntmps28
      go_wp2_with fail
      refine (szIntS_any _ _ _ _ _ lf h0 h1).mono ?_; rintro e w' ⟨rfl, rfl⟩
      go_wp2_with fail
      refine (szIntSS_any _ _ (left - q.birth.length) _ (SlII.next g0 ht) (by omega) (by omega)).mono ?_; rintro e w2 ⟨rfl, hb2⟩
      rw [hz]
      go_wp2
      go_ret
      exact ⟨rfl, bthen g0 hb2⟩

set_option maxHeartbeats 400000 in
theorem filt_mark (v : Value) (q : Filt) (k : Int) (lo hi : Nat) (w : World) (hv : FiO w lo hi v q) (hh : hi ≤ w.heap.size) (h0 : 0 ≤ k) (h1 : k ≤ 1099511627776) (hsz : q.size ≤ 1048576) :
    Calls Try.prog 34 #[v, .int .i64 k] w fun e w' => e = .returned (.int .i64 (k + q.birth.length + tot q.ends)) ∧ FiO w' lo hi v (FiO.mk k q) ∧ Chg lo hi w w' := by
  obtain ⟨a, b, vs, rfl, ho, hl, hF, hr⟩ := hv
  have HL := Lib.hid hl
  clear hl
  have fa : OwnI w lo a q.birth := (hF.1 (a, q.birth) (by simp)).1
  obtain ⟨A, c, rfl, _, _⟩ := fa.form
  obtain ⟨C, d, rfl, _, _⟩ := ho.form
  have la := fa.2.1
  simp only [Filt.size, szSS] at hsz
  have g0 := below_alloc w (.cells #[.int .i64 q.stages, .slice A q.birth.length c, .slice C vs.length d] 49)
  have hF0 := hF.below g0
  have ho0 := ho.below g0
  go_enter Try.func34, Try.ntmps34
  go_wp2_with fail
  refine (markIntS_any _ _ _ lo _ (hF0.1 (_, q.birth) (by simp)).1 h0 (by omega)).mono ?_; rintro e w1 ⟨rfl, ho1, hg1⟩
  have hF1 := hF0.turn (L1 := []) ho1 hg1
  have hoo := ho0.grown (hF0.1 (_, q.birth) (by simp)).1 hg1
  have hc1 := chg_of_grown (hF0.1 (_, q.birth) (by simp)) hg1
  have cB := ((Blk.new w 49 #[.int .i64 q.stages, .slice A q.birth.length c, .slice C vs.length d]).chg hc1 (.inr hh)).cell' (i := 2) rfl
  clear hF hF0 ho1 hg1 fa ho0
  go_wp2_with fail
  refine (markIntSS_fam _ vs q.ends [(_, mkI k q.birth.length)] _ lo hi _ hoo HL.out hF1 (by omega) (by omega) (by omega)).mono ?_; rintro e w2 ⟨rfl, ho2, hF2, hc2⟩
  go_wp2
  go_ret
  exact ⟨rfl, ⟨_, _, vs, rfl, ho2, by simp [FiO.mk, mkSS_length, HL.out], hF2, hr⟩, (Chg.of_below g0).trans (hc1.trans hc2)⟩

set_option maxHeartbeats 800000 in
theorem filt_to (u : Value) (q : Filt) (w : World) (hu : FiR w w.heap.size u q) (hn : q.size ≤ 1048576) :
    Calls Try.prog 30 #[u] w fun e w' => ∃ v, e = .returned v ∧ FiO w' w.heap.size w'.heap.size v q ∧ Below w.heap.size w w' := by
  obtain ⟨A, c, C, d, rfl, hf, ht, hr, _, _⟩ := hu.open_
  clear hu
  unfold Filt.size szSS at hn
  obtain ⟨Wa, hWa⟩ : ∃ W, W = (w.alloc (.cells #[.int .i64 q.stages, .slice A q.birth.length c, .slice C q.ends.length d] 44)).alloc (.cells #[.int .i64 0, .slice none 0 0, .slice none 0 0] 49) := ⟨_, rfl⟩
  obtain ⟨Wb, hWb⟩ : ∃ W, W = Wa.alloc (.cells #[.int .i64 q.stages, .slice none 0 0, .slice none 0 0] 49) := ⟨_, rfl⟩
  have za : Wa.heap.size = w.heap.size + 1 + 1 := by rw [hWa]; simp
  have zb : Wb.heap.size = w.heap.size + 1 + 1 + 1 := by rw [hWb]; simp [za]
  have kp : Blk Wb w.heap.size 44 #[.int .i64 q.stages, .slice A q.birth.length c, .slice C q.ends.length d] := by rw [hWb, hWa]; exact ((Blk.new _ _ _).alloc _).alloc _
  have kr : Blk Wb (w.heap.size + 1) 49 #[.int .i64 0, .slice none 0 0, .slice none 0 0] := by
    rw [hWb, hWa]
    have := (Blk.new (w.alloc (.cells #[.int .i64 q.stages, .slice A q.birth.length c, .slice C q.ends.length d] 44)) 49 #[.int .i64 0, .slice none 0 0, .slice none 0 0]).alloc (.cells #[.int .i64 q.stages, .slice none 0 0, .slice none 0 0] 49)
    simpa only [World.size_alloc] using this
  have ko : Blk Wb (w.heap.size + 1 + 1) 49 #[.int .i64 q.stages, .slice none 0 0, .slice none 0 0] := by
    rw [hWb, ← za]; exact Blk.new _ _ _
  have gb : Below w.heap.size w Wb := by rw [hWb, hWa]; exact (((Below.refl _ _).alloc (Nat.le_refl _) _).alloc (by simp) _).alloc (by simp; omega) _
  have ZB := Lib.hid zb
  clear za zb
  go_enter Try.func30, Try.ntmps30
  go_wp2_with fail
  rw [← hWa, ← hWb]
  clear hWa hWb
  refine (ints_to _ _ _ (SlI.next gb hf) (by omega)).mono ?_; rintro e w1 ⟨a, rfl, ha, hb1⟩
  obtain ⟨A1, c1, rfl, _, _⟩ := ha.1.form
  have kp1 := kp.call hb1
  have ko1 := ko.call hb1
  have kr1 := kr.call hb1
  have p2 := kp1.cell' (i := 2) rfl
  have o1 := ko1.cell' (i := 1) rfl
  have fo := ko1.frozen
  have g1 := bthen gb hb1
  have sz1 := ZB.out
  have s1 := hb1.size
  have gs : Below w.heap.size w (w1.setCell ⟨w.heap.size + 1 + 1, 1, none⟩ (.slice A1 q.birth.length c1)) := g1.setCell (by simp; omega) _
  have ha' : IntsO (w1.setCell ⟨w.heap.size + 1 + 1, 1, none⟩ (.slice A1 q.birth.length c1)) Wb.heap.size w1.heap.size (.slice A1 q.birth.length c1) q.birth := ha.set (by simp; omega) _
  clear sz1 s1
  go_wp2_with fail
  clear p2 o1 fo
  obtain ⟨Wc, hWc⟩ : ∃ W, W = w1.setCell ⟨w.heap.size + 1 + 1, 1, none⟩ (.slice A1 q.birth.length c1) := ⟨_, rfl⟩
  have zc : Wc.heap.size = w1.heap.size := by rw [hWc]; simp
  have kr' : Blk Wc (w.heap.size + 1) 49 #[.int .i64 0, .slice none 0 0, .slice none 0 0] := by rw [hWc]; exact kr1.far (by simp) _
  have ko' : Blk Wc (w.heap.size + 1 + 1) 49 #[.int .i64 q.stages, .slice A1 q.birth.length c1, .slice none 0 0] := by rw [hWc]; exact ko1.set_ 1 _
  rw [← hWc] at gs ha' ⊢
  clear hWc kr1 ko1 kp1 kp kr ko
  refine (intss_to _ _ _ (SlII.next gs ht) (by omega) (fun l hl => by have := tot_mem hl; omega)).mono ?_; rintro e w2 ⟨b, rfl, hb, hb2⟩
  obtain ⟨vs, ho, hvl, hFv⟩ := hb
  have HL := Lib.hid hvl
  clear hvl
  obtain ⟨C1, d1, rfl, _, _⟩ := ho.form
  have ko2 := ko'.call hb2
  have kr2 := kr'.call hb2
  have o0 := ko2.cell' (i := 0) rfl
  have o1 := ko2.cell' (i := 1) rfl
  have o2 := ko2.cell' (i := 2) rfl
  have fo := ko2.frozen
  have r0 := kr2.cell' (i := 0) rfl
  have r1 := kr2.cell' (i := 1) rfl
  have r2 := kr2.cell' (i := 2) rfl
  have fr := kr2.frozen
  have ZC := Lib.hid zc
  clear zc
  go_wp2
  have zb := ZB.out
  have zc := ZC.out
  have s1 := hb1.size
  have s2 := hb2.size
  have g2 := bthen gs hb2
  have h3 : IntsO w2 Wb.heap.size w1.heap.size (.slice A1 q.birth.length c1) q.birth := ha'.below hb2
  have hF : Fam w2 w.heap.size w2.heap.size ([(.slice A1 q.birth.length c1, q.birth)] ++ vs.zip q.ends) := fam_cons (mi := Wc.heap.size) (h3.wider (by omega) (by omega)) hFv (by omega) hb2.size
  have hO := ho.mono (lo' := w.heap.size) (by omega) (Nat.le_refl _)
  refine bodyPost_ret (v := .agg #[.int .i64 q.stages, .slice A1 q.birth.length c1, .slice C1 vs.length d1]) (by simp [results, go_sem, r0, r1, r2]) rfl ⟨_, rfl, ⟨_, _, vs, rfl, ?_, HL.out, ?_, hr⟩, (((g2.setCell (by simp; omega) _).setCell (by simp) _).setCell (by simp) _).setCell (by simp) _⟩
  · have e1 := hO.set ko2 (by decide) 2 (.slice C1 vs.length d1)
    have e2 := e1.set (kr2.far (p := ⟨w.heap.size + 1 + 1, 2, none⟩) (by simp) (.slice C1 vs.length d1)) (by decide) 0 (.int .i64 q.stages)
    have e3 := e2.set ((kr2.far (p := ⟨w.heap.size + 1 + 1, 2, none⟩) (by simp) (.slice C1 vs.length d1)).set_ 0 _) (by decide) 1 (.slice A1 q.birth.length c1)
    have e4 := e3.set (((kr2.far (p := ⟨w.heap.size + 1 + 1, 2, none⟩) (by simp) (.slice C1 vs.length d1)).set_ 0 _).set_ 1 _) (by decide) 2 (.slice C1 vs.length d1)
    simpa using e4
  · have e1 := hF.setBlk (i := 2) ko2 (by decide) (.slice C1 vs.length d1)
    have e2 := e1.setBlk (i := 0) (kr2.far (p := ⟨w.heap.size + 1 + 1, 2, none⟩) (by simp) (.slice C1 vs.length d1)) (by decide) (.int .i64 q.stages)
    have e3 := e2.setBlk (i := 1) ((kr2.far (p := ⟨w.heap.size + 1 + 1, 2, none⟩) (by simp) (.slice C1 vs.length d1)).set_ 0 _) (by decide) (.slice A1 q.birth.length c1)
    have e4 := e3.setBlk (i := 2) (((kr2.far (p := ⟨w.heap.size + 1 + 1, 2, none⟩) (by simp) (.slice C1 vs.length d1)).set_ 0 _).set_ 1 _) (by decide) (.slice C1 vs.length d1)
    simpa using e4
end Go.Proofs.Ytgbchoenmpoojaa

/- IntervalOf, both. -/
namespace Go.Proofs.Ytgbchoenmpoojaa
set_option linter.unusedVariables false
set_option linter.unusedSimpArgs false
open Go.RowKit

/-! ### plain: zeros, then ones, then zeros -/
def ivForm (f s r : Nat) : List Int := List.replicate f 0 ++ (List.replicate s 1 ++ List.replicate r 0)
def ivF (l : List Int) : Nat := l.findIdx (fun x => (1 : Int) == x)
def ivS (l : List Int) : Nat := l.sum.toNat
def ivOk (l : List Int) : Bool := decide (0 < ivS l ∧ l = ivForm (ivF l) (ivS l) (l.length - ivF l - ivS l))
theorem ivForm_get {f s r j : Nat} {x : Int} (h : (ivForm f s r)[j]? = some x) : x = if f ≤ j ∧ j < f + s then 1 else 0 := by
  have hj := lt_of_some h
  simp only [ivForm, List.length_append, List.length_replicate] at hj
  unfold ivForm at h
  rw [List.getElem?_append] at h
  split at h
  · rename_i h1
    simp only [List.length_replicate] at h1
    rw [List.getElem?_replicate, if_pos h1] at h
    injection h with h
    rw [if_neg (by omega)]
    exact h.symm
  · rename_i h1
    simp only [List.length_replicate] at h1 h
    rw [List.getElem?_append] at h
    split at h
    · rename_i h2
      simp only [List.length_replicate] at h2
      rw [List.getElem?_replicate, if_pos h2] at h
      injection h with h
      rw [if_pos (by omega)]
      exact h.symm
    · rename_i h2
      simp only [List.length_replicate] at h2 h
      rw [List.getElem?_replicate, if_pos (by omega)] at h
      injection h with h
      rw [if_neg (by omega)]
      exact h.symm
theorem sum_rep (n : Nat) (x : Int) : (List.replicate n x).sum = n * x := by
  induction n with
  | zero => simp
  | succ n ih => rw [List.replicate_succ, List.sum_cons, ih, Int.natCast_add, Int.add_mul]; simp; omega
theorem ivForm_sum (f s r : Nat) : (ivForm f s r).sum = s := by simp [ivForm, List.sum_append, sum_rep]
theorem ivForm_length (f s r : Nat) : (ivForm f s r).length = f + s + r := by simp [ivForm]; omega
theorem ivForm_F (f s r : Nat) : ivF (ivForm f (s + 1) r) = f := by
  unfold ivF
  have hl : f < (ivForm f (s + 1) r).length := by rw [ivForm_length]; omega
  rw [List.findIdx_eq hl]
  refine ⟨?_, fun j hj => ?_⟩
  · have := ivForm_get (List.getElem?_eq_getElem hl)
    rw [if_pos (by omega)] at this
    rw [this]; rfl
  · have hj' : j < (ivForm f (s + 1) r).length := by omega
    have := ivForm_get (List.getElem?_eq_getElem hj')
    rw [if_neg (by omega)] at this
    rw [this]; rfl
theorem ivOk_form (f s r : Nat) : ivOk (ivForm f (s + 1) r) = true ∧ ivF (ivForm f (s + 1) r) = f ∧ ivS (ivForm f (s + 1) r) = s + 1 := by
  have h1 := ivForm_F f s r
  have h2 : ivS (ivForm f (s + 1) r) = s + 1 := by unfold ivS; rw [ivForm_sum]; omega
  refine ⟨?_, h1, h2⟩
  unfold ivOk
  rw [h1, h2, ivForm_length, decide_eq_true_eq]
  exact ⟨by omega, by congr 1; omega⟩
theorem ivOk_get {l : List Int} (h : ivOk l = true) {j : Nat} {x : Int} (hx : l[j]? = some x) : x = if ivF l ≤ j ∧ j < ivF l + ivS l then 1 else 0 := by
  simp only [ivOk, decide_eq_true_eq] at h
  rw [h.2] at hx
  exact ivForm_get hx
theorem ivOk_01 {l : List Int} (h : ivOk l = true) : ∀ x ∈ l, 0 ≤ x ∧ x ≤ 1 := by
  intro x hx
  obtain ⟨j, hj⟩ := List.getElem?_of_mem hx
  have := ivOk_get h hj
  split at this <;> omega
/-- a one, a zero behind it, a one behind that -/
theorem ivOk_gap {l : List Int} {i j k : Nat} (hij : i < j) (hjk : j < k) (hi : l[i]? = some 1) (hj : l[j]? = some 0) (hk : l[k]? = some 1) : ivOk l = false := by
  rcases h : ivOk l with _ | _
  · rfl
  · have a := ivOk_get h hi
    have b := ivOk_get h hj
    have c := ivOk_get h hk
    split at a <;> split at b <;> split at c <;> omega
theorem ivOk_zero (n : Nat) : ivOk (List.replicate n 0) = false := by
  simp [ivOk, ivS, sum_rep]
/-- sums of zeros and ones -/
theorem sum01 : ∀ (l : List Int), (∀ x ∈ l, 0 ≤ x ∧ x ≤ 1) → 0 ≤ l.sum ∧ l.sum ≤ l.length ∧ (l.sum = l.length → l = List.replicate l.length 1) ∧ (l.sum = 0 → l = List.replicate l.length 0)
  | [], _ => by simp
  | x :: l, h => by
    obtain ⟨a, b, c, d⟩ := sum01 l fun y hy => h y (by simp [hy])
    have hx := h x (by simp)
    refine ⟨by simp; omega, by simp; omega, fun e => ?_, fun e => ?_⟩
    · simp only [List.sum_cons, List.length_cons, Int.natCast_add] at e
      have e1 : x = 1 := by omega
      have e2 := c (by omega)
      rw [List.length_cons, List.replicate_succ, ← e2, e1]
    · simp only [List.sum_cons] at e
      have e1 : x = 0 := by omega
      have e2 := d (by omega)
      rw [List.length_cons, List.replicate_succ, ← e2, e1]
/-- what the program asks -/
theorem ivOk_of_seg {l : List Int} (h01 : ∀ x ∈ l, 0 ≤ x ∧ x ≤ 1) {f : Nat} (hf : f < l.length) (h1 : l[f]? = some 1) (hb : ∀ y ∈ l.take f, ((1 : Int) == y) = false)
    (hs : ((l.drop f).take l.sum.toNat).sum = l.sum) : ivOk l = true := by
  have e0 : l.take f = List.replicate f 0 := by
    have := (sum01 (l.take f) (fun x hx => h01 x (List.mem_of_mem_take hx))).2.2.2
    have hz : ∀ y ∈ l.take f, y = 0 := fun y hy => by
      have := h01 y (List.mem_of_mem_take hy)
      have := hb y hy
      simp at this
      omega
    apply List.ext_getElem?
    intro i
    by_cases hi : i < f
    · rw [List.getElem?_replicate, if_pos hi, List.getElem?_eq_getElem (by simp; omega)]
      exact congrArg some (hz _ (List.getElem_mem _))
    · rw [List.getElem?_replicate, if_neg hi, List.getElem?_eq_none (by simp; omega)]
  have hsp : l = l.take f ++ ((l.drop f).take l.sum.toNat ++ (l.drop f).drop l.sum.toNat) := by rw [List.take_append_drop, List.take_append_drop]
  have hm : ∀ x ∈ l.drop f, 0 ≤ x ∧ x ≤ 1 := fun x hx => h01 x (List.mem_of_mem_drop hx)
  have hp : 0 < l.sum := by
    have hd : l.drop f = 1 :: l.drop (f + 1) := by
      rw [List.drop_eq_getElem_cons hf]
      have : l[f] = 1 := by rw [List.getElem?_eq_getElem hf] at h1; injection h1
      rw [this]
    have e : l.sum = (l.take f).sum + (l.drop f).sum := by rw [← List.sum_append, List.take_append_drop]
    have a := (sum01 (l.take f) (fun x hx => h01 x (List.mem_of_mem_take hx))).1
    have b := (sum01 (l.drop (f + 1)) (fun x hx => h01 x (List.mem_of_mem_drop hx))).1
    rw [hd, List.sum_cons] at e
    omega
  have htot : l.sum = 0 + (l.sum + ((l.drop f).drop l.sum.toNat).sum) := by
    have := congrArg List.sum hsp
    rw [List.sum_append, List.sum_append, hs, e0, sum_rep] at this
    simpa using this
  have t1 := sum01 ((l.drop f).take l.sum.toNat) (fun x hx => hm x (List.mem_of_mem_take hx))
  have t2 := sum01 ((l.drop f).drop l.sum.toNat) (fun x hx => hm x (List.mem_of_mem_drop hx))
  have hlen : ((l.drop f).take l.sum.toNat).length ≤ l.sum.toNat := by simp; omega
  have e1 := t1.2.2.1 (by omega)
  have e2 := t2.2.2.2 (by omega)
  have hln : ((l.drop f).take l.sum.toNat).length = l.sum.toNat := by omega
  rw [hln] at e1
  obtain ⟨s, hse⟩ : ∃ s, l.sum.toNat = s + 1 := ⟨l.sum.toNat - 1, by omega⟩
  have hfin : l = ivForm f (s + 1) ((l.drop f).drop l.sum.toNat).length := by
    rw [e0, e1, e2] at hsp
    rw [hse] at hsp
    rw [hse]
    simpa [ivForm] using hsp
  rw [hfin]
  exact (ivOk_form _ _ _).1

def ivA (l : List Int) : Int := if ivOk l then (ivF l : Int) else 0
def ivB (l : List Int) : Int := if ivOk l then (ivF l : Int) + ivS l - 1 else 0
theorem iv_no {l : List Int} (h : ivOk l = false) : ivA l = 0 ∧ ivB l = 0 := by simp [ivA, ivB, h]
theorem iv_form {l : List Int} {f s r : Nat} (h : l = ivForm f (s + 1) r) : ivOk l = true ∧ ivA l = f ∧ ivB l = (f : Int) + s := by
  subst h
  obtain ⟨h1, h2, h3⟩ := ivOk_form f s r
  refine ⟨h1, by simp [ivA, h1, h2], ?_⟩
  simp only [ivB, h1, h2, h3, if_true]
  omega

theorem ret3 {a b : Int} {c : Bool} {a' b' : Int} {c' : Bool} (h1 : a = a') (h2 : b = b') (h3 : c = c') : Ending.returned (.tuple #[.int .i64 a, .int .i64 b, .bool c]) = .returned (.tuple #[.int .i64 a', .int .i64 b', .bool c']) := by rw [h1, h2, h3]

/-- a part of a slice of ints -/
theorem SlI.cut {w : World} {B c : Nat} {A : Option Addr} {xs : List Int} {i k : Nat} (h : SlI w B (.slice A xs.length c) xs) (hik : i ≤ k) (hk : k ≤ xs.length) :
    ∃ A', (if c = i then A else A.map (·.add (i * 1))) = A' ∧ SlI w B (.slice A' (k - i) (c - i)) ((xs.drop i).take (k - i)) := by
  obtain ⟨A2, c2, e, h1, h2, h3, h4⟩ := h
  injection e with e1 e2 e3
  subst e1 e3
  refine ⟨_, rfl, ?_⟩
  have hl : ((xs.drop i).take (k - i)).length = k - i := by simp; omega
  refine ⟨_, c - i, by rw [hl], by rw [hl]; omega, by omega, by rw [hl]; omega, fun hp => ?_⟩
  rw [hl] at hp
  obtain ⟨b, o, rfl, hb, hc⟩ := h4 (by omega)
  rw [if_neg (by omega)]
  refine ⟨b, o + i, ?_, hb, fun j x hx => ?_⟩
  · have e : (⟨b, o, none⟩ : Addr).add i = ⟨b, o + i, none⟩ := by unfold Addr.add; split <;> simp_all
    simp [e]
  · rw [List.getElem?_take] at hx
    split at hx
    · rw [List.getElem?_drop] at hx
      have := hc (i + j) x hx
      rwa [show o + (i + j) * 1 = o + i + j * 1 by omega] at this
    · cases hx

theorem SlI.cutNe {w : World} {B c : Nat} {A : Option Addr} {xs : List Int} {i k : Nat} (h : SlI w B (.slice A xs.length c) xs) (hik : i ≤ k) (hk : k ≤ xs.length) (hc : i < c) :
    SlI w B (.slice (A.map fun x => x.add i) (k - i) (c - i)) ((xs.drop i).take (k - i)) := by
  obtain ⟨A', e, h'⟩ := h.cut hik hk
  rw [if_neg (by omega), Nat.mul_one] at e
  rw [e]
  exact h'

/-- The reference's state behind k elements. -/
def StI (xs : List Int) (k : Nat) (a b : Int) : Prop := (a = -1 ∧ b = -1 ∧ xs.take k = List.replicate k 0) ∨ ∃ f s r : Nat, a = f ∧ b = (f : Int) + s ∧ k = f + s + 1 + r ∧ xs.take k = ivForm f (s + 1) r
theorem StI.rng {xs : List Int} {k : Nat} {a b : Int} (h : StI xs k a b) : -1 ≤ a ∧ a ≤ k ∧ -1 ≤ b ∧ b ≤ (k : Int) - 1 ∧ (a < 0 ↔ b < 0) := by
  rcases h with ⟨rfl, rfl, _⟩ | ⟨f, s, r, rfl, rfl, rfl, _⟩ <;> omega
theorem ivForm_snoc0 (f s r : Nat) : ivForm f s r ++ [0] = ivForm f s (r + 1) := by simp [ivForm, List.replicate_succ']
theorem ivForm_snoc1 (f s : Nat) : ivForm f s 0 ++ [1] = ivForm f (s + 1) 0 := by simp [ivForm, List.replicate_succ']
theorem StI.zero {xs : List Int} {k : Nat} {a b : Int} (h : StI xs k a b) (hx : xs[k]? = some 0) : StI xs (k + 1) a b := by
  rcases h with ⟨rfl, rfl, h⟩ | ⟨f, s, r, rfl, rfl, hk, h⟩
  · exact .inl ⟨rfl, rfl, by rw [take_snoc hx, h, List.replicate_succ']⟩
  · exact .inr ⟨f, s, r + 1, rfl, rfl, by omega, by rw [take_snoc hx, h, ivForm_snoc0]⟩
theorem StI.first {xs : List Int} {k : Nat} {a b : Int} (h : StI xs k a b) (hx : xs[k]? = some 1) (hb : b < 0) : StI xs (k + 1) k k := by
  rcases h with ⟨rfl, rfl, h⟩ | ⟨f, s, r, rfl, rfl, hk, h⟩
  · exact .inr ⟨k, 0, 0, rfl, by omega, by omega, by rw [take_snoc hx, h]; simp [ivForm]⟩
  · omega
theorem StI.more {xs : List Int} {k : Nat} {a b : Int} (h : StI xs k a b) (hx : xs[k]? = some 1) (hb : 0 ≤ b) (hb' : b = (k : Int) - 1) : StI xs (k + 1) a k := by
  rcases h with ⟨rfl, rfl, h⟩ | ⟨f, s, r, rfl, rfl, hk, h⟩
  · omega
  · obtain rfl : r = 0 := by omega
    exact .inr ⟨f, s + 1, 0, rfl, by omega, by omega, by rw [take_snoc hx, h, ivForm_snoc1]⟩
theorem StI.gap {xs : List Int} {k : Nat} {a b : Int} (h : StI xs k a b) (hx : xs[k]? = some 1) (hb : 0 ≤ b) (hb' : b ≠ (k : Int) - 1) : ivOk xs = false := by
  rcases h with ⟨rfl, rfl, h⟩ | ⟨f, s, r, rfl, rfl, hk, h⟩
  · omega
  · have hkl := lt_of_some hx
    have hg : ∀ j, j < k → xs[j]? = some (if f ≤ j ∧ j < f + (s + 1) then 1 else 0) := by
      intro j hj
      have e : xs[j]? = (xs.take k)[j]? := by rw [List.getElem?_take, if_pos hj]
      have hjl : j < (ivForm f (s + 1) r).length := by rw [ivForm_length]; omega
      rw [e, h, List.getElem?_eq_getElem hjl]
      exact congrArg some (ivForm_get (List.getElem?_eq_getElem hjl))
    have h1 := hg f (by omega)
    have h2 := hg (f + s + 1) (by omega)
    rw [if_pos (by omega)] at h1
    rw [if_neg (by omega)] at h2
    exact ivOk_gap (by omega) (by omega) h1 h2 hx
theorem StI.fin {xs : List Int} {a b : Int} (h : StI xs xs.length a b) : (a < 0 ∧ ivOk xs = false) ∨ (0 ≤ a ∧ ivOk xs = true ∧ ivA xs = a ∧ ivB xs = b) := by
  unfold StI at h
  rw [List.take_of_length_le (Nat.le_refl _)] at h
  rcases h with ⟨rfl, rfl, h⟩ | ⟨f, s, r, rfl, rfl, hk, h⟩
  · left
    refine ⟨by omega, ?_⟩
    rw [h]
    exact ivOk_zero _
  · right
    obtain ⟨h1, h2, h3⟩ := iv_form h
    exact ⟨by omega, h1, h2, h3⟩

end Go.Proofs.Ytgbchoenmpoojaa

/- The two IsFiltration. -/
namespace Go.Proofs.Ytgbchoenmpoojaa
set_option linter.unusedVariables false
set_option linter.unusedSimpArgs false
open Go.RowKit

/-- An edge of a filtration: two points and a stage. -/
def okEnd (s : Int) (bi : List Int) (e : List Int) : Bool :=
  match e with
  | [a, b, t] => inR a 0 ((bi.length : Int) - 1) && inR b 0 ((bi.length : Int) - 1) && (a != b) && inR t (max (bi.getD a.toNat 0) (bi.getD b.toNat 0)) (s - 1)
  | _ => false
def isF (f : Filt) : Bool := inR f.stages 1 5 && inR f.birth.length 1 4 && allR f.birth 0 (f.stages - 1) && decide (f.ends.length ≤ 8) && f.ends.all (okEnd f.stages f.birth)

theorem endC (l : List Int) : l.length ≠ 3 ∨ ∃ a b t, l = [a, b, t] := by
  match l with
  | [a, b, t] => exact .inr ⟨a, b, t, rfl⟩
  | [] | [_] | [_, _] | _ :: _ :: _ :: _ :: _ => exact .inl (by simp)
theorem okEnd_len {s : Int} {bi l : List Int} (h : l.length ≠ 3) : okEnd s bi l = false := by
  match l, h with
  | [_, _, _], h => simp at h
  | [], _ | [_], _ | [_, _], _ | _ :: _ :: _ :: _ :: _, _ => rfl
theorem isF_bad {q : Filt} {k : Nat} {l : List Int} (hl : q.ends[k]? = some l) (h : okEnd q.stages q.birth l = false) : isF q = false := by
  have : q.ends.all (okEnd q.stages q.birth) = false := by
    rw [List.all_eq_false]
    exact ⟨l, List.mem_of_getElem? hl, by simp [h]⟩
  simp [isF, this]
theorem isF_good {q : Filt} (h1 : inR q.stages 1 5 = true) (h2 : inR q.birth.length 1 4 = true) (h3 : allR q.birth 0 (q.stages - 1) = true) (h4 : q.ends.length ≤ 8) (h : ∀ e ∈ q.ends, okEnd q.stages q.birth e = true) : isF q = true := by
  have e : q.ends.all (okEnd q.stages q.birth) = true := List.all_eq_true.2 h
  simp [isF, h1, h2, h3, h4, e]

theorem okEnd_ab {s : Int} {bi : List Int} {a b t : Int} (h : allR [a, b] 0 ((bi.length : Int) - 1) = false) : okEnd s bi [a, b, t] = false := by
  simp only [allR, List.all_cons, List.all_nil, Bool.and_true, Bool.and_eq_false_iff] at h
  simp only [okEnd]
  rcases h with h | h <;> simp [h]
theorem SlI.caps {w : World} {B n c : Nat} {A : Option Addr} {l : List Int} (h : SlI w B (.slice A n c) l) : l.length ≤ c ∧ c ≤ 9223372036854775807 := by
  obtain ⟨A', c', e, h1, h2, _⟩ := h
  injection e with _ _ e
  subst e
  exact ⟨h1, h2⟩
/-- s[:k] -/
theorem SlI.front {w : World} {B n c k : Nat} {A : Option Addr} {l m : List Int} (h : SlI w B (.slice A n c) (l ++ m)) (hk : l.length = k := by rfl) : SlI w B (.slice A k c) l := by
  subst hk
  obtain ⟨A', c', e, h1, h2, h3, h4⟩ := h
  injection e with e1 _ e
  subst e1 e
  simp only [List.length_append] at h1 h3 h4
  refine ⟨A, c, rfl, by omega, h2, by omega, fun hp => ?_⟩
  obtain ⟨b, o, rfl, hb, hc⟩ := h4 (by omega)
  exact ⟨b, o, rfl, hb, fun j x hx => hc j x (by rw [List.getElem?_append_left (lt_of_some hx)]; exact hx)⟩

theorem okEnd_eq {s : Int} {bi : List Int} {a b t : Int} (h : a = b) : okEnd s bi [a, b, t] = false := by
  subst h
  simp [okEnd]

theorem max_if (x y : Int) : max x y = if y > x then y else x := by split <;> omega
theorem okEnd_go {s : Int} {bi : List Int} {i j : Nat} {t x y : Int} (h : allR [(i : Int), (j : Int)] 0 ((bi.length : Int) - 1) = true) (hij : (i : Int) ≠ j) (hx : bi[i]? = some x) (hy : bi[j]? = some y) : okEnd s bi [(i : Int), (j : Int), t] = inR t (max x y) (s - 1) := by
  simp only [allR, List.all_cons, List.all_nil, Bool.and_true, Bool.and_eq_true] at h
  have e : ((i : Int) != (j : Int)) = true := by rw [bne_iff_ne]; exact hij
  simp only [okEnd, h.1, h.2, e, Bool.and_true, Bool.true_and, Int.toNat_natCast, List.getD_eq_getElem?_getD, hx, hy, Option.getD_some]

set_option maxHeartbeats 800000 in
theorem implIsFiltration_any (u : Value) (q : Filt) (w : World) (hu : FiR w w.heap.size u q) :
    Calls Try.prog 63 #[u] w fun e w' => e = .returned (.bool (isF q)) ∧ Below w.heap.size w w' := by
  obtain ⟨A, c, C, d, rfl, hf, ht, hr, lf, lt⟩ := hu.open_
  clear hu
  obtain ⟨W, hW⟩ : ∃ W, W = w.alloc (.cells #[.int .i64 q.stages, .slice A q.birth.length c, .slice C q.ends.length d] 49) := ⟨_, rfl⟩
  have g0 : Below w.heap.size w W := by rw [hW]; exact below_alloc _ _
  have kB : Blk W w.heap.size 49 #[.int .i64 q.stages, .slice A q.birth.length c, .slice C q.ends.length d] := by rw [hW]; exact Blk.new _ _ _
  have c0 := kB.cell' (i := 0) rfl
  have c1 := kB.cell' (i := 1) rfl
  have c2 := kB.cell' (i := 2) rfl
  rcases h1 : inR q.stages 1 5 with _ | _
  · have hfin : Hid (isF q = false) := by show _ = _; simp [isF, h1]
    go_enter Try.func63, Try.ntmps63
    go_wp2_with fail
    rw [← hW]; clear hW
    refine (within_any _ _ _ _).mono ?_; rintro e w' ⟨rfl, rfl⟩
    rw [h1]
    go_wp2
    go_ret
    exact ⟨by rw [hfin.out]; rfl, g0⟩
  rcases h2 : inR q.birth.length 1 4 with _ | _
  · have hfin : Hid (isF q = false) := by show _ = _; simp [isF, h2]
    go_enter Try.func63, Try.ntmps63
    go_wp2_with fail
    rw [← hW]; clear hW
    refine (within_any _ _ _ _).mono ?_; rintro e w' ⟨rfl, rfl⟩
    rw [h1]
    go_wp2_with fail
    refine (within_any _ _ _ _).mono ?_; rintro e w' ⟨rfl, rfl⟩
    rw [h2]
    go_wp2
    go_ret
    exact ⟨by rw [hfin.out]; rfl, g0⟩
  have hs := inR_t.1 h1
  obtain ⟨hs1, hs2⟩ := hs
  have hn := inR_t.1 h2
  obtain ⟨hn1, hn2⟩ := hn
  obtain ⟨B3, hB3⟩ : ∃ B, allR q.birth 0 (q.stages - 1) = B := ⟨_, rfl⟩
  have HB3 := Lib.hid hB3
  clear hB3
  cases B3
  · have hfin : Hid (isF q = false) := by show _ = _; simp [isF, HB3.out]
    go_enter Try.func63, Try.ntmps63
    go_wp2_with fail
    rw [← hW]; clear hW
    refine (within_any _ _ _ _).mono ?_; rintro e w' ⟨rfl, rfl⟩
    rw [h1]
    go_wp2_with fail
    refine (within_any _ _ _ _).mono ?_; rintro e w' ⟨rfl, rfl⟩
    rw [h2]
    go_wp2_with fail
    refine (allWithin_any _ q.birth _ _ _ (SlI.next g0 hf)).mono ?_; rintro e w1 ⟨rfl, hb1⟩
    rw [HB3.out]
    go_wp2
    go_ret
    exact ⟨by rw [hfin.out]; rfl, bthen g0 hb1⟩
  by_cases h4 : (q.ends.length : Int) ≤ 8
  · go_enter Try.func63, Try.ntmps63
    go_wp2_with fail
    rw [← hW]; clear hW
    refine (within_any _ _ _ _).mono ?_; rintro e w' ⟨rfl, rfl⟩
    rw [h1]
    go_wp2_with fail
    refine (within_any _ _ _ _).mono ?_; rintro e w' ⟨rfl, rfl⟩
    rw [h2]
    go_wp2_with fail
    refine (allWithin_any _ q.birth _ _ _ (SlI.next g0 hf)).mono ?_; rintro e w1 ⟨rfl, hb1⟩
    rw [HB3.out]
    have d0 := (kB.call hb1).cell' (i := 0) rfl
    have d1 := (kB.call hb1).cell' (i := 1) rfl
    have d2 := (kB.call hb1).cell' (i := 2) rfl
    have k1 := kB.call hb1
    have g1 := bthen g0 hb1
    clear c0 c1 c2
    go_wp2
    go_loopw [34] (fun i wr => ∃ k : Nat, k ≤ q.ends.length ∧ i = .int .i64 k ∧ Below w.heap.size w wr ∧ Blk wr w.heap.size 49 #[.int .i64 q.stages, .slice A q.birth.length c, .slice C q.ends.length d] ∧ Hid (∀ e ∈ q.ends.take k, okEnd q.stages q.birth e = true)) (fun i _ => q.ends.length - (intOf i).toNat)
    case atStart => exact ⟨0, Nat.zero_le _, rfl, g1, k1, by intro y hy; simp at hy⟩
    case round =>
      clear g1 k1 d0 d1 d2 hb1 kB g0
      obtain ⟨k, hk, rfl, hbel, hkB, hok⟩ := hrel
      have e0 := hkB.cell' (i := 0) rfl
      have e1 := hkB.cell' (i := 1) rfl
      have e2 := hkB.cell' (i := 2) rfl
      by_cases hlt : k < q.ends.length
      · obtain ⟨b, o, l, A', c', rfl, hb, HL, x1, hl⟩ := SlII.at_ ht hlt
        have s := hbel.size
        have f0 := InB.cell hkB.lt e0
        have f1 := InB.cell hkB.lt e1
        have x2 := bcell hbel hb x1
        clear e0 e1 x1
        rcases endC l with hl3 | ⟨ea, eb, et, rfl⟩
        · have hne : ((l.length : Int) != 3) = true := by rw [bne_iff_ne]; omega
          have hfin : Hid (isF q = false) := isF_bad HL.out (okEnd_len hl3)
          clear hl3
          go_wp2
          (refine wp_region_inB (by kernel_rfl) (by kernel_rfl) ?_; (repeat (go_big_quiet_step (fail))); refine wpQuiet_nil ?_; intro w1 hw'; obtain ⟨s1, hw1⟩ := hw'; have hb1 := s1.below; rw [← hw1] at hb1; clear hw1 s1)
          go_wp2
          go_ret
          exact ⟨by rw [hfin.out]; rfl, hbel.trans (hb1.mono s)⟩
        · have hne : (((3 : Nat) : Int) != 3) = false := by decide
          obtain ⟨b', o', y0, rfl, hb', HY0, j0, _⟩ := SlI.at_ (k := 0) hl (by simp)
          obtain ⟨b2, o2, y1, E1, _, HY1, j1, _⟩ := SlI.at_ (k := 1) hl (by simp)
          obtain ⟨b3, o3, y2, E2, _, HY2, j2, _⟩ := SlI.at_ (k := 2) hl (by simp)
          have F1 := HY0.out
          have F2 := HY1.out
          have F3 := HY2.out
          simp only [List.getElem?_cons_zero, List.getElem?_cons_succ, Option.some.injEq] at F1 F2 F3 E1 E2
          injection E1 with E1a E1b
          injection E2 with E2a E2b
          subst F1 F2 F3 E1a E1b E2a E2b
          have j0' := InB.cell (w := wr) (by omega) (bcell hbel hb' j0)
          have j1' := InB.cell (w := wr) (by omega) (bcell hbel hb' j1)
          have j2' := InB.cell (w := wr) (by omega) (bcell hbel hb' j2)
          clear j0 j1 j2 HY0 HY1 HY2
          have hcut : SlI w w.heap.size (.slice (some ⟨b', o', none⟩) 2 c') [ea, eb] := SlI.front (l := [ea, eb]) (m := [et]) hl
          have hcap := SlI.caps hl
          have hcap1 : 3 ≤ c' := hcap.1
          have hcap2 := hcap.2
          simp only [List.length_cons, List.length_nil, Nat.zero_add, Nat.reduceAdd] at x2
          simp only [Nat.add_zero] at j0'
          have HC : Hid (∀ s : InB wr, SlI s.val s.val.heap.size (.slice (some ⟨b', o', none⟩) 2 c') [ea, eb]) := fun t => SlI.next t.below (SlI.more s (SlI.below hbel hcut))
          clear hl hcut hcap
          rcases hB1 : allR [ea, eb] 0 ((q.birth.length : Int) - 1) with _ | _
          · have hfin : Hid (isF q = false) := isF_bad HL.out (okEnd_ab hB1)
            have hB1' : (!allR [ea, eb] 0 ((q.birth.length : Int) - 1)) = true := by rw [hB1]; rfl
            go_wp2
            (refine wp_region_inB (by kernel_rfl) (by kernel_rfl) ?_; (repeat (go_big_quiet_step ((go_at_call 98; exact InB.call (allWithin_any _ [ea, eb] _ _ _ (HC.out _)))))); refine wpQuiet_nil ?_; intro w1 hw'; obtain ⟨s1, hw1⟩ := hw'; have hb1 := s1.below; rw [← hw1] at hb1; clear hw1 s1)
            go_wp2
            go_ret
            exact ⟨by rw [hfin.out]; rfl, hbel.trans (hb1.mono s)⟩
          · have hB1' : (!allR [ea, eb] 0 ((q.birth.length : Int) - 1)) = false := by rw [hB1]; rfl
            have hab := allR_t.1 hB1
            have ha := hab ea (by simp)
            have hb2 := hab eb (by simp)
            clear hab
            obtain ⟨i, rfl⟩ : ∃ i : Nat, ea = i := ⟨ea.toNat, by omega⟩
            obtain ⟨j, rfl⟩ : ∃ j : Nat, eb = j := ⟨eb.toNat, by omega⟩
            obtain ⟨bb, ob, x, rfl, hbb, HX, p1, _⟩ := SlI.at_ (k := i) hf (by omega)
            obtain ⟨bb2, ob2, y, E, _, HY, p2, _⟩ := SlI.at_ (k := j) hf (by omega)
            injection E with E
            injection E with E1 E2
            subst E1 E2
            have hi : i < q.birth.length := by omega
            have hj : j < q.birth.length := by omega
            have p1' := InB.cell (w := wr) (by omega) (bcell hbel hbb p1)
            have p2' := InB.cell (w := wr) (by omega) (bcell hbel hbb p2)
            clear p1 p2 ha hb2
            by_cases hij : i = j
            · have hij' : ((i : Int) == (j : Int)) = true := by rw [beq_iff_eq]; omega
              have hfin : Hid (isF q = false) := isF_bad HL.out (okEnd_eq (by omega))
              clear hij
              go_wp2
              (refine wp_region_inB (by kernel_rfl) (by kernel_rfl) ?_; (repeat (go_big_quiet_step ((go_at_call 98; exact InB.call (allWithin_any _ [(i : Int), (j : Int)] _ _ _ (HC.out _)))))); refine wpQuiet_nil ?_; intro w1 hw'; obtain ⟨s1, hw1⟩ := hw'; have hb1 := s1.below; rw [← hw1] at hb1; clear hw1 s1)
              go_wp2
              go_ret
              exact ⟨by rw [hfin.out]; rfl, hbel.trans (hb1.mono s)⟩
            · have hij' : ((i : Int) == (j : Int)) = false := by rw [beq_eq_false_iff_ne]; omega
              obtain ⟨M, hM⟩ : ∃ M, (if y > x then y else x) = M := ⟨_, rfl⟩
              obtain ⟨B2, hB2⟩ : ∃ B, inR et M (q.stages - 1) = B := ⟨_, rfl⟩
              have HF := Lib.hid (show okEnd q.stages q.birth [(i : Int), (j : Int), et] = B2 by rw [okEnd_go hB1 (by omega) HX.out HY.out, max_if, hM, hB2])
              clear hij
              cases B2
              · have hB2' : (!inR et M (q.stages - 1)) = true := by rw [hB2]; rfl
                have hfin : Hid (isF q = false) := isF_bad HL.out HF.out
                go_wp2
                (refine wp_region_inB (by kernel_rfl) (by kernel_rfl) ?_; (repeat (go_big_quiet_step (first | (go_at_call 98; exact InB.call (allWithin_any _ [(i : Int), (j : Int)] _ _ _ (HC.out _))) | (go_at_call 93; first | rw [hM] | skip; exact InB.call_same (within_any _ _ _ _))))); refine wpQuiet_nil ?_; intro w1 hw'; obtain ⟨s1, hw1⟩ := hw'; have hb1 := s1.below; rw [← hw1] at hb1; clear hw1 s1)
                go_wp2
                go_ret
                exact ⟨by rw [hfin.out]; rfl, hbel.trans (hb1.mono s)⟩
              · have hB2' : (!inR et M (q.stages - 1)) = false := by rw [hB2]; rfl
                have hst : Hid (∀ e ∈ q.ends.take (k + 1), okEnd q.stages q.birth e = true) := by
                  intro e he
                  rw [take_snoc HL.out, List.mem_append, List.mem_singleton] at he
                  rcases he with he | rfl
                  · exact hok.out e he
                  · exact HF.out
                go_wp2
                (refine wp_region_inB (by kernel_rfl) (by kernel_rfl) ?_; (repeat (go_big_quiet_step (first | (go_at_call 98; exact InB.call (allWithin_any _ [(i : Int), (j : Int)] _ _ _ (HC.out _))) | (go_at_call 93; first | rw [hM] | skip; exact InB.call_same (within_any _ _ _ _))))); refine wpQuiet_nil ?_; intro w1 hw'; obtain ⟨s1, hw1⟩ := hw'; have hb1 := s1.below; rw [← hw1] at hb1; clear hw1 s1)
                go_wp2
                go_roundw
                case rel => exact ⟨k + 1, by omega, by go_num, hbel.trans (hb1.mono s), hkB.call hb1, hst.out⟩
                case measure => simp [intOf]; omega
      · have hfin : Hid (isF q = true) := isF_good h1 h2 HB3.out (by omega) (by have := hok.out; rwa [List.take_of_length_le (by omega)] at this)
        go_wp2
        go_ret
        exact ⟨by rw [hfin.out]; rfl, hbel⟩
  · have h4' : (8 : Int) < q.ends.length := by omega
    have hfin : Hid (isF q = false) := by
      show _ = _
      have : decide (q.ends.length ≤ 8) = false := by simp; omega
      simp [isF, this]
    clear h4
    go_enter Try.func63, Try.ntmps63
    go_wp2_with fail
    rw [← hW]; clear hW
    refine (within_any _ _ _ _).mono ?_; rintro e w' ⟨rfl, rfl⟩
    rw [h1]
    go_wp2_with fail
    refine (within_any _ _ _ _).mono ?_; rintro e w' ⟨rfl, rfl⟩
    rw [h2]
    go_wp2_with fail
    refine (allWithin_any _ q.birth _ _ _ (SlI.next g0 hf)).mono ?_; rintro e w1 ⟨rfl, hb1⟩
    rw [HB3.out]
    have d2 := (kB.call hb1).cell' (i := 2) rfl
    clear c0 c1 c2
    go_wp2
    go_ret
    exact ⟨by rw [hfin.out]; rfl, bthen g0 hb1⟩

def InB.on {w W : World} (hb : Below w.heap.size w W) (t : InB W) : InB w := ⟨t.val, bthen hb t.2⟩
theorem InB.on_val {w W : World} (hb : Below w.heap.size w W) (t : InB W) : (InB.on hb t).val = t.val := rfl
theorem okEnd_a {s : Int} {bi : List Int} {a b t : Int} (h : inR a 0 ((bi.length : Int) - 1) = false) : okEnd s bi [a, b, t] = false := by simp [okEnd, h]
theorem okEnd_b {s : Int} {bi : List Int} {a b t : Int} (h : inR b 0 ((bi.length : Int) - 1) = false) : okEnd s bi [a, b, t] = false := by simp [okEnd, h]
theorem isF_birth {q : Filt} {k : Nat} {x : Int} (hx : q.birth[k]? = some x) (h : inR x 0 (q.stages - 1) = false) : isF q = false := by
  have : allR q.birth 0 (q.stages - 1) = false := by
    unfold allR
    rw [List.all_eq_false]
    exact ⟨x, List.mem_of_getElem? hx, by simp [h]⟩
  simp [isF, this]
set_option maxHeartbeats 3200000 in
set_option maxRecDepth 20000 in
theorem specIsFiltration_any (u : Value) (q : Filt) (w : World) (hu : FiR w w.heap.size u q) :
    Calls Try.prog 61 #[u] w fun e w' => e = .returned (.bool (isF q)) ∧ Below w.heap.size w w' := by
  obtain ⟨A, c, C, d, rfl, hf, ht, hr, lf, lt⟩ := hu.open_
  clear hu
  obtain ⟨W, hW⟩ : ∃ W, W = w.alloc (.cells #[.int .i64 q.stages, .slice A q.birth.length c, .slice C q.ends.length d] 49) := ⟨_, rfl⟩
  have g0 : Below w.heap.size w W := by rw [hW]; exact below_alloc _ _
  have kB : Blk W w.heap.size 49 #[.int .i64 q.stages, .slice A q.birth.length c, .slice C q.ends.length d] := by rw [hW]; exact Blk.new _ _ _
  have c0 := kB.cell' (i := 0) rfl
  have c1 := kB.cell' (i := 1) rfl
  have c2 := kB.cell' (i := 2) rfl
  rcases h1 : inR q.stages 1 5 with _ | _
  · have hfin : Hid (isF q = false) := by show _ = _; simp [isF, h1]
    go_enter Try.func61, Try.ntmps61
    go_wp2_with fail
    rw [← hW]; clear hW
    refine (l1In_any _ _ _ _).mono ?_; rintro e w' ⟨rfl, rfl⟩
    rw [h1]
    go_wp2
    go_ret
    exact ⟨by rw [hfin.out]; rfl, g0⟩
  rcases h2 : inR q.birth.length 1 4 with _ | _
  · have hfin : Hid (isF q = false) := by show _ = _; simp [isF, h2]
    go_enter Try.func61, Try.ntmps61
    go_wp2_with fail
    rw [← hW]; clear hW
    refine (l1In_any _ _ _ _).mono ?_; rintro e w' ⟨rfl, rfl⟩
    rw [h1]
    go_wp2_with fail
    refine (l1In_any _ _ _ _).mono ?_; rintro e w' ⟨rfl, rfl⟩
    rw [h2]
    go_wp2
    go_ret
    exact ⟨by rw [hfin.out]; rfl, g0⟩
  have hs := inR_t.1 h1
  obtain ⟨hs1, hs2⟩ := hs
  have hn := inR_t.1 h2
  obtain ⟨hn1, hn2⟩ := hn
  by_cases h4 : (q.ends.length : Int) ≤ 8
  · have h4' : ¬ (8 : Int) < q.ends.length := by omega
    go_enter Try.func61, Try.ntmps61
    go_wp2_with fail
    rw [← hW]; clear hW
    refine (l1In_any _ _ _ _).mono ?_; rintro e w' ⟨rfl, rfl⟩
    rw [h1]
    go_wp2_with fail
    refine (l1In_any _ _ _ _).mono ?_; rintro e w' ⟨rfl, rfl⟩
    rw [h2]
    go_wp2
    go_loopw [3] (fun i wr => ∃ k : Nat, k ≤ q.birth.length ∧ i = .int .i64 k ∧ Below w.heap.size w wr ∧ Blk wr w.heap.size 49 #[.int .i64 q.stages, .slice A q.birth.length c, .slice C q.ends.length d] ∧ Hid (∀ x ∈ q.birth.take k, inR x 0 (q.stages - 1) = true)) (fun i _ => q.birth.length - (intOf i).toNat)
    case atStart => exact ⟨0, Nat.zero_le _, rfl, g0, kB, by intro y hy; simp at hy⟩
    case round =>
      clear g0 kB c0 c1 c2
      obtain ⟨k, hk, rfl, hbel, hkB, hok⟩ := hrel
      have e0 := hkB.cell' (i := 0) rfl
      have e1 := hkB.cell' (i := 1) rfl
      have e2 := hkB.cell' (i := 2) rfl
      have s := hbel.size
      by_cases hlt : k < q.birth.length
      · obtain ⟨b, o, x, rfl, hb, HX, x1, _⟩ := SlI.at_ hf hlt
        have f0 := InB.cell hkB.lt e0
        have f1 := InB.cell hkB.lt e1
        have f2 := InB.cell (w := wr) (by omega) (bcell hbel hb x1)
        clear e0 x1
        rcases hB1 : inR x 0 (q.stages - 1) with _ | _
        · have hfin : Hid (isF q = false) := isF_birth HX.out hB1
          go_wp2
          (refine wp_region_inB (by kernel_rfl) (by kernel_rfl) ?_; (repeat (go_big_quiet_step ((go_at_call 51; exact InB.call_same (l1In_any _ _ _ _))))); refine wpQuiet_nil ?_; intro w1 hw'; obtain ⟨s1, hw1⟩ := hw'; have hb1 := s1.below; rw [← hw1] at hb1; clear hw1 s1)
          go_wp2
          go_ret
          exact ⟨by rw [hfin.out]; rfl, hbel.trans (hb1.mono s)⟩
        · go_wp2
          (refine wp_region_inB (by kernel_rfl) (by kernel_rfl) ?_; (repeat (go_big_quiet_step ((go_at_call 51; exact InB.call_same (l1In_any _ _ _ _))))); refine wpQuiet_nil ?_; intro w1 hw'; obtain ⟨s1, hw1⟩ := hw'; have hb1 := s1.below; rw [← hw1] at hb1; clear hw1 s1)
          go_wp2
          go_roundw
          case rel =>
            refine ⟨k + 1, by omega, by go_num, hbel.trans (hb1.mono s), hkB.call hb1, fun y hy => ?_⟩
            rw [take_snoc HX.out, List.mem_append, List.mem_singleton] at hy
            rcases hy with hy | rfl
            · exact hok.out y hy
            · exact hB1
          case measure => simp [intOf]; omega
      · have HB3 : Hid (allR q.birth 0 (q.stages - 1) = true) := by
          have h := hok.out
          rw [List.take_of_length_le (by omega)] at h
          exact List.all_eq_true.2 h
        clear hok
        go_wp2
        have hbel0 := hbel
        have hkB0 := hkB
        clear hbel hkB e0 e1 e2 hlt hk

        go_loopw [4] (fun i wr => ∃ k : Nat, k ≤ q.ends.length ∧ i = .int .i64 k ∧ Below w.heap.size w wr ∧ Blk wr w.heap.size 49 #[.int .i64 q.stages, .slice A q.birth.length c, .slice C q.ends.length d] ∧ Hid (∀ e ∈ q.ends.take k, okEnd q.stages q.birth e = true)) (fun i _ => q.ends.length - (intOf i).toNat)
        case atStart => exact ⟨0, Nat.zero_le _, rfl, hbel0, hkB0, by intro y hy; simp at hy⟩
        case round =>
          clear hbel0 hkB0
          obtain ⟨k, hk, rfl, hbel, hkB, hok⟩ := hrel
          have e0 := hkB.cell' (i := 0) rfl
          have e1 := hkB.cell' (i := 1) rfl
          have e2 := hkB.cell' (i := 2) rfl
          by_cases hlt : k < q.ends.length
          · obtain ⟨b, o, l, A', c', rfl, hb, HL, x1, hl⟩ := SlII.at_ ht hlt
            have s := hbel.size
            have f0 := InB.cell hkB.lt e0
            have f1 := InB.cell hkB.lt e1
            have f2 := InB.cell hkB.lt e2
            have x2 := InB.cell (w := wr) (by omega) (bcell hbel hb x1)
            clear e0 e1 x1
            rcases endC l with hl3 | ⟨ea, eb, et, rfl⟩
            · have hne : ((l.length : Int) != 3) = true := by rw [bne_iff_ne]; omega
              have hfin : Hid (isF q = false) := isF_bad HL.out (okEnd_len hl3)
              clear hl3
              go_wp2
              (refine wp_region_inB (by kernel_rfl) (by kernel_rfl) ?_; (repeat (go_big_quiet_step (fail))); refine wpQuiet_nil ?_; intro w1 hw'; obtain ⟨s1, hw1⟩ := hw'; have hb1 := s1.below; rw [← hw1] at hb1; clear hw1 s1)
              go_wp2
              go_ret
              exact ⟨by rw [hfin.out]; rfl, hbel.trans (hb1.mono s)⟩
            · have hne : (((3 : Nat) : Int) != 3) = false := by decide
              obtain ⟨b', o', y0, rfl, hb', HY0, j0, _⟩ := SlI.at_ (k := 0) hl (by simp)
              obtain ⟨b2, o2, y1, E1, _, HY1, j1, _⟩ := SlI.at_ (k := 1) hl (by simp)
              obtain ⟨b3, o3, y2, E2, _, HY2, j2, _⟩ := SlI.at_ (k := 2) hl (by simp)
              have F1 := HY0.out
              have F2 := HY1.out
              have F3 := HY2.out
              simp only [List.getElem?_cons_zero, List.getElem?_cons_succ, Option.some.injEq] at F1 F2 F3 E1 E2
              injection E1 with E1a E1b
              injection E2 with E2a E2b
              subst F1 F2 F3 E1a E1b E2a E2b
              have j0' := InB.cell (w := wr) (by omega) (bcell hbel hb' j0)
              have j1' := InB.cell (w := wr) (by omega) (bcell hbel hb' j1)
              have j2' := InB.cell (w := wr) (by omega) (bcell hbel hb' j2)
              clear j0 j1 j2 HY0 HY1 HY2 hl
              simp only [List.length_cons, List.length_nil, Nat.zero_add, Nat.reduceAdd] at x2
              simp only [Nat.add_zero] at j0'
              rcases hBa : inR ea 0 ((q.birth.length : Int) - 1) with _ | _
              · have hfin : Hid (isF q = false) := isF_bad HL.out (okEnd_a hBa)
                go_wp2
                (refine wp_region_inB (by kernel_rfl) (by kernel_rfl) ?_; (repeat (go_big_quiet_step ((go_at_call 51; exact InB.call_same (l1In_any _ _ _ _))))); refine wpQuiet_nil ?_; intro w1 hw'; obtain ⟨s1, hw1⟩ := hw'; have hb1 := s1.below; rw [← hw1] at hb1; clear hw1 s1)
                go_wp2
                go_ret
                exact ⟨by rw [hfin.out]; rfl, hbel.trans (hb1.mono s)⟩
              rcases hBb : inR eb 0 ((q.birth.length : Int) - 1) with _ | _
              · have hfin : Hid (isF q = false) := isF_bad HL.out (okEnd_b hBb)
                go_wp2
                (refine wp_region_inB (by kernel_rfl) (by kernel_rfl) ?_; (repeat (go_big_quiet_step ((go_at_call 51; exact InB.call_same (l1In_any _ _ _ _))))); refine wpQuiet_nil ?_; intro w1 hw'; obtain ⟨s1, hw1⟩ := hw'; have hb1 := s1.below; rw [← hw1] at hb1; clear hw1 s1)
                go_wp2
                go_ret
                exact ⟨by rw [hfin.out]; rfl, hbel.trans (hb1.mono s)⟩
              have ha := inR_t.1 hBa
              have hb2 := inR_t.1 hBb
              obtain ⟨i, rfl⟩ : ∃ i : Nat, ea = i := ⟨ea.toNat, by omega⟩
              obtain ⟨j, rfl⟩ : ∃ j : Nat, eb = j := ⟨eb.toNat, by omega⟩
              have hBab : Hid (allR [(i : Int), (j : Int)] 0 ((q.birth.length : Int) - 1) = true) := by show _ = _; simp [allR, hBa, hBb]
              obtain ⟨bb, ob, x, rfl, hbb, HX, p1, _⟩ := SlI.at_ (k := i) hf (by omega)
              obtain ⟨bb2, ob2, y, E, _, HY, p2, _⟩ := SlI.at_ (k := j) hf (by omega)
              injection E with E
              injection E with E1 E2
              subst E1 E2
              have hi : i < q.birth.length := by omega
              have hj : j < q.birth.length := by omega
              have p1' := InB.cell (w := wr) (by omega) (bcell hbel hbb p1)
              have p2' := InB.cell (w := wr) (by omega) (bcell hbel hbb p2)
              clear p1 p2 ha hb2
              by_cases hij : i = j
              · have hij' : ((i : Int) == (j : Int)) = true := by rw [beq_iff_eq]; omega
                have hfin : Hid (isF q = false) := isF_bad HL.out (okEnd_eq (by omega))
                clear hij
                go_wp2
                (refine wp_region_inB (by kernel_rfl) (by kernel_rfl) ?_; (repeat (go_big_quiet_step ((go_at_call 51; exact InB.call_same (l1In_any _ _ _ _))))); refine wpQuiet_nil ?_; intro w1 hw'; obtain ⟨s1, hw1⟩ := hw'; have hb1 := s1.below; rw [← hw1] at hb1; clear hw1 s1)
                go_wp2
                go_ret
                exact ⟨by rw [hfin.out]; rfl, hbel.trans (hb1.mono s)⟩
              · have hij' : ((i : Int) == (j : Int)) = false := by rw [beq_eq_false_iff_ne]; omega
                obtain ⟨M, hM⟩ : ∃ M, (if y > x then y else x) = M := ⟨_, rfl⟩
                obtain ⟨B2, hB2⟩ : ∃ B, inR et M (q.stages - 1) = B := ⟨_, rfl⟩
                have HF := Lib.hid (show okEnd q.stages q.birth [(i : Int), (j : Int), et] = B2 by rw [okEnd_go hBab.out (by omega) HX.out HY.out, max_if, hM, hB2])
                clear hij
                cases B2
                · have hfin : Hid (isF q = false) := isF_bad HL.out HF.out
                  go_wp2
                  (refine wp_region_inB (by kernel_rfl) (by kernel_rfl) ?_; (repeat (go_big_quiet_step ((go_at_call 51; exact InB.call_same (l1In_any _ _ _ _))))); refine wpQuiet_nil ?_; intro w1 hw'; obtain ⟨s1, hw1⟩ := hw'; have hb1 := s1.below; rw [← hw1] at hb1; clear hw1 s1)
                  go_wp2
                  have hbA := hb1
                  have r0 := fun t => f0 (InB.on hbA t)
                  have r1 := fun t => f1 (InB.on hbA t)
                  have r2 := fun t => f2 (InB.on hbA t)
                  have r3 := fun t => x2 (InB.on hbA t)
                  have r4 := fun t => j0' (InB.on hbA t)
                  have r5 := fun t => j1' (InB.on hbA t)
                  have r6 := fun t => j2' (InB.on hbA t)
                  have r7 := fun t => p1' (InB.on hbA t)
                  have r8 := fun t => p2' (InB.on hbA t)
                  simp only [InB.on_val] at r0 r1 r2 r3 r4 r5 r6 r7 r8
                  have gA := hbel.trans (hbA.mono s)
                  have kA := hkB.call hbA
                  clear f0 f1 f2 x2 j0' j1' j2' p1' p2' hb1 e2 hbel hkB
                  (refine wp_region_inB (by kernel_rfl) (by kernel_rfl) ?_; (repeat (go_big_quiet_step ((go_at_call 51; first | rw [hM] | skip; exact InB.call_same (l1In_any _ _ _ _))))); refine wpQuiet_nil ?_; intro w1 hw'; obtain ⟨s1, hw1⟩ := hw'; have hb1 := s1.below; rw [← hw1] at hb1; clear hw1 s1)
                  go_wp2
                  go_ret
                  exact ⟨by rw [hfin.out]; rfl, gA.trans (hb1.mono gA.size)⟩
                · have hst : Hid (∀ e ∈ q.ends.take (k + 1), okEnd q.stages q.birth e = true) := by
                    intro e he
                    rw [take_snoc HL.out, List.mem_append, List.mem_singleton] at he
                    rcases he with he | rfl
                    · exact hok.out e he
                    · exact HF.out
                  go_wp2
                  (refine wp_region_inB (by kernel_rfl) (by kernel_rfl) ?_; (repeat (go_big_quiet_step ((go_at_call 51; exact InB.call_same (l1In_any _ _ _ _))))); refine wpQuiet_nil ?_; intro w1 hw'; obtain ⟨s1, hw1⟩ := hw'; have hb1 := s1.below; rw [← hw1] at hb1; clear hw1 s1)
                  go_wp2
                  have hbA := hb1
                  have r0 := fun t => f0 (InB.on hbA t)
                  have r1 := fun t => f1 (InB.on hbA t)
                  have r2 := fun t => f2 (InB.on hbA t)
                  have r3 := fun t => x2 (InB.on hbA t)
                  have r4 := fun t => j0' (InB.on hbA t)
                  have r5 := fun t => j1' (InB.on hbA t)
                  have r6 := fun t => j2' (InB.on hbA t)
                  have r7 := fun t => p1' (InB.on hbA t)
                  have r8 := fun t => p2' (InB.on hbA t)
                  simp only [InB.on_val] at r0 r1 r2 r3 r4 r5 r6 r7 r8
                  have gA := hbel.trans (hbA.mono s)
                  have kA := hkB.call hbA
                  clear f0 f1 f2 x2 j0' j1' j2' p1' p2' hb1 e2 hbel hkB
                  (refine wp_region_inB (by kernel_rfl) (by kernel_rfl) ?_; (repeat (go_big_quiet_step ((go_at_call 51; first | rw [hM] | skip; exact InB.call_same (l1In_any _ _ _ _))))); refine wpQuiet_nil ?_; intro w1 hw'; obtain ⟨s1, hw1⟩ := hw'; have hb1 := s1.below; rw [← hw1] at hb1; clear hw1 s1)
                  go_wp2
                  go_roundw
                  case rel => exact ⟨k + 1, by omega, by go_num, gA.trans (hb1.mono gA.size), kA.call hb1, hst.out⟩
                  case measure => simp [intOf]; omega
          · have hfin : Hid (isF q = true) := isF_good h1 h2 HB3.out (by omega) (by have := hok.out; rwa [List.take_of_length_le (by omega)] at this)
            go_wp2
            go_ret
            exact ⟨by rw [hfin.out]; rfl, hbel⟩
  · have h4' : (8 : Int) < q.ends.length := by omega
    have hfin : Hid (isF q = false) := by
      show _ = _
      have : decide (q.ends.length ≤ 8) = false := by simp; omega
      simp [isF, this]
    clear h4
    go_enter Try.func61, Try.ntmps61
    go_wp2_with fail
    rw [← hW]; clear hW
    refine (l1In_any _ _ _ _).mono ?_; rintro e w' ⟨rfl, rfl⟩
    rw [h1]
    go_wp2_with fail
    refine (l1In_any _ _ _ _).mono ?_; rintro e w' ⟨rfl, rfl⟩
    rw [h2]
    go_wp2
    go_ret
    exact ⟨by rw [hfin.out]; rfl, g0⟩
end Go.Proofs.Ytgbchoenmpoojaa

/- Bars in memory of the call's own: marks, the look at marks, append of one bar. -/
namespace Go.Proofs.Ytgbchoenmpoojaa
set_option linter.unusedVariables false
set_option linter.unusedSimpArgs false
open Go.RowKit

theorem chg_setB {w : World} {lo hi : Nat} {p : Addr} {u : Value} (h1 : lo ≤ p.block) (h2 : p.block < hi) : Chg lo hi w (w.setCell p u) :=
  ⟨rfl, rfl, rfl, by simp [World.setCell], fun k _ hne => Below.heap_setCell _ _ _ _ (by omega)⟩
def BarsO.mk (k : Int) (l : List Bar) : List Bar := (List.range l.length).map fun i : Nat => (k + 3 * i, k + 3 * i + 1, k + 3 * i + 1 + 1)
theorem bmk_length (k : Int) (l : List Bar) : (BarsO.mk k l).length = l.length := by simp [BarsO.mk]
theorem bmk_get {k : Int} {l : List Bar} {j : Nat} (h : j < l.length) : (BarsO.mk k l)[j]? = some (k + 3 * j, k + 3 * j + 1, k + 3 * j + 1 + 1) := by simp [BarsO.mk, h]
/-- the first j marked -/
def bmTo (k : Int) (l : List Bar) (j : Nat) : List Bar := (BarsO.mk k l).take j ++ l.drop j
theorem bmTo_length (k : Int) (l : List Bar) (j : Nat) : (bmTo k l j).length = l.length := by
  simp [bmTo, bmk_length]; omega
theorem bmTo_get {k : Int} {l : List Bar} {j : Nat} {x : Bar} (h : l[j]? = some x) : (bmTo k l j)[j]? = some x := by
  have hj := lt_of_some h
  rw [bmTo, List.getElem?_append_right (by simp [bmk_length]; omega), List.getElem?_drop, ← h]
  congr 1
  simp [bmk_length]; omega
theorem bmTo_set {k : Int} {l : List Bar} {j : Nat} (h : j < l.length) : (bmTo k l j).set j (k + 3 * j, k + 3 * j + 1, k + 3 * j + 1 + 1) = bmTo k l (j + 1) := by
  apply List.ext_getElem?
  intro i
  rw [List.getElem?_set, bmTo_length]
  by_cases e : j = i
  · subst e
    rw [if_pos rfl, if_pos h, bmTo, List.getElem?_append_left (by simp [bmk_length]; omega), List.getElem?_take, if_pos (by omega), bmk_get h]
  · rw [if_neg e]
    by_cases hi : i < j
    · rw [bmTo, bmTo, List.getElem?_append_left (by simp [bmk_length]; omega), List.getElem?_append_left (by simp [bmk_length]; omega), List.getElem?_take, List.getElem?_take, if_pos hi, if_pos (by omega)]
    · rw [bmTo, bmTo, List.getElem?_append_right (by simp [bmk_length]; omega), List.getElem?_append_right (by simp [bmk_length]; omega), List.getElem?_drop, List.getElem?_drop]
      congr 1
      simp [bmk_length]; omega
set_option maxHeartbeats 1600000 in
theorem bars_mark (v : Value) (l : List Bar) (k : Int) (lo hi : Nat) (w : World) (hv : BarsO w lo hi v l) (h0 : 0 ≤ k) (h1 : k ≤ 1125899906842624) (hn : l.length ≤ 1048576) :
    Calls Try.prog 35 #[v, .int .i64 k] w fun e w' => e = .returned (.int .i64 (k + (l.length * 3 : Nat))) ∧ BarsO w' lo hi v (BarsO.mk k l) ∧ Chg lo hi w w' := by
  obtain ⟨⟨ho, hh, hl⟩, hb⟩ := hv
  rcases ho.2 with ⟨rfl, hl0⟩ | ⟨g, cap, cur, rfl, hbg, hgg, hnc, hcm, _⟩
  · obtain rfl : l = [] := List.eq_nil_of_length_eq_zero hl0
    clear ho
    go_enter Try.func35, Try.ntmps35
    go_wp2
    refine wp_loop_rounds 1 ?_
    rw [rounds_succ]
    go_wp2
    go_ret
    exact ⟨by simp, BarsO.nil _ _ _, Chg.refl _ _ _⟩
  · have hgh := hh g (by simp [Value.ownBlock])
    obtain ⟨L, hL⟩ : ∃ n, l.length = n := ⟨_, rfl⟩
    have HL := Lib.hid hL
    have HH := Lib.hid hh
    rw [hL] at ho hl hn hnc ⊢
    clear hgg hL hh
    go_enter Try.func35, Try.ntmps35
    go_wp2
    go_loopw [1, 5] (fun q i wr => ∃ j : Nat, j ≤ L ∧ i = .int .i64 j ∧ q = .int .i64 (k + (3 * j : Nat)) ∧ wr.ownsRow lo 70 3 (.slice (some ⟨g, 0, none⟩) L cap) L (barCs (bmTo k l j)) ∧ Chg lo hi w wr) (fun _ i _ => L - (intOf i).toNat)
    case atStart => exact ⟨0, Nat.zero_le _, rfl, by simp, by simpa [bmTo] using ho, Chg.refl _ _ _⟩
    case round =>
      clear ho
      obtain ⟨j, hj, rfl, rfl, hown, hch⟩ := hrel
      by_cases hlt : j < L
      · have hjl : j < l.length := by rw [HL.out]; exact hlt
        have hcl := barCs_length (bmTo k l j)
        rw [bmTo_length, HL.out] at hcl
        have c0 := hown.cellAt (j * 3) (by omega)
        have c1 := hown.cellAt (j * 3 + 1) (by omega)
        have c2 := hown.cellAt (j * 3 + 2) (by omega)
        rw [List.getElem?_eq_getElem (by omega)] at c0 c1 c2
        obtain ⟨v0, c0'⟩ : ∃ v0, wr.cell? ⟨g, j * 3, none⟩ = some v0 := ⟨_, c0⟩
        obtain ⟨v1, c1'⟩ : ∃ v0, wr.cell? ⟨g, j * 3 + 1, none⟩ = some v0 := ⟨_, c1⟩
        obtain ⟨v2, c2'⟩ : ∃ v0, wr.cell? ⟨g, j * 3 + 2, none⟩ = some v0 := ⟨_, c2⟩
        have f0 := hown.frozenAt
        have st0 := hown.stored (j * 3) (.int .i64 (k + (3 * j : Nat)))
        have st1 := st0.1.stored (j * 3 + 1) (.int .i64 (k + (3 * j : Nat) + 1))
        have st2 := st1.1.stored (j * 3 + 2) (.int .i64 (k + (3 * j : Nat) + 1 + 1))
        have e := barCs_set (xs := bmTo k l j) (j := j) (by rw [bmTo_length]; exact hjl) (k + (3 * j : Nat), k + (3 * j : Nat) + 1, k + (3 * j : Nat) + 1 + 1)
        simp only at e
        rw [e, show ((3 * j : Nat) : Int) = 3 * (j : Int) by omega, bmTo_set hjl] at st2
        have hc2 : Chg lo hi w (((wr.setCell ⟨g, j * 3, none⟩ (.int .i64 (k + 3 * (j : Int)))).setCell ⟨g, j * 3 + 1, none⟩ (.int .i64 (k + 3 * (j : Int) + 1))).setCell ⟨g, j * 3 + 2, none⟩ (.int .i64 (k + 3 * (j : Int) + 1 + 1))) :=
          ((hch.trans (chg_setB hbg hgh)).trans (chg_setB hbg hgh)).trans (chg_setB hbg hgh)
        have ST := Lib.hid st2.1
        have HC := Lib.hid hc2
        have E3 := Lib.hid (show ((3 * j : Nat) : Int) = 3 * (j : Int) by omega)
        rw [E3.out]
        clear c0 c1 c2 hown hcl st0 st1 st2 e hch hc2
        go_wp2
        go_roundw
        case rel => exact ⟨j + 1, by omega, by go_num, by congr 1; omega, ST.out, HC.out⟩
        case measure => simp [intOf]; omega
      · have hjL : j = L := by omega
        have ST := Lib.hid (show wr.ownsRow lo 70 3 (.slice (some ⟨g, 0, none⟩) L cap) L (barCs (BarsO.mk k l)) by
          have : bmTo k l j = BarsO.mk k l := by rw [bmTo, hjL, ← HL.out, List.drop_length, List.append_nil, List.take_of_length_le (by rw [bmk_length]; omega)]
          rw [← this]; exact hown)
        clear hown
        go_wp2
        go_ret
        refine ⟨congrArg (fun z => Ending.returned (Value.int .i64 z)) (by omega), ⟨⟨by rw [bmk_length, HL.out]; exact ST.out, HH.out, by rw [bmk_length, HL.out]; exact hl⟩, fun x hx => ?_⟩, hch⟩
        simp only [BarsO.mk, List.mem_map, List.mem_range, HL.out] at hx
        obtain ⟨i, hi, rfl⟩ := hx
        refine ⟨⟨?_, ?_⟩, ⟨?_, ?_⟩, ⟨?_, ?_⟩⟩ <;> simp only <;> omega
set_option maxHeartbeats 1600000 in
theorem bars_held (v : Value) (l : List Bar) (k : Int) (w : World) (hv : SlB w w.heap.size v (BarsO.mk k l)) (h0 : 0 ≤ k) (h1 : k ≤ 1125899906842624) (hn : l.length ≤ 1048576) :
    Calls Try.prog 36 #[v, .int .i64 k] w fun e w' => e = .returned (.int .i64 (k + (l.length * 3 : Nat))) ∧ Below w.heap.size w w' := by
  obtain ⟨A, c, rfl, _, _, _, hx⟩ := hv.open_
  have HL := Lib.hid (bmk_length k l)
  obtain ⟨L, hL⟩ : ∃ n, (BarsO.mk k l).length = n := ⟨_, rfl⟩
  have HLL := Lib.hid hL
  have hn2 : L ≤ 1048576 := by rw [← hL, bmk_length]; exact hn
  have HX := Lib.hid hx
  rw [hL]
  clear hv hL hx
  go_enter Try.func36, Try.ntmps36
  go_wp2
  go_loopw [1, 5] (fun q i wr => ∃ j : Nat, j ≤ L ∧ i = .int .i64 j ∧ q = .int .i64 (k + 3 * (j : Int)) ∧ Below w.heap.size w wr) (fun _ i _ => L - (intOf i).toNat)
  case atStart => exact ⟨0, Nat.zero_le _, rfl, by simp, Below.refl _ _⟩
  case round =>
    obtain ⟨j, hj, rfl, rfl, hbel⟩ := hrel
    by_cases hlt : j < L
    · have hjl : j < l.length := by rw [← HL.out, HLL.out]; exact hlt
      obtain ⟨b, o, x, y, z, rfl, hb, HH, c0, c1, c2, _⟩ := SlB.at_ HX.out (k := j) (by rw [HLL.out]; exact hlt)
      have hx2 := HH.out
      rw [bmk_get hjl] at hx2
      injection hx2 with hx2
      simp only [Prod.mk.injEq] at hx2
      obtain ⟨e1, e2, e3⟩ := hx2
      subst e1 e2 e3
      have d0 := bcell hbel hb c0
      have d1 := bcell hbel hb c1
      have d2 := bcell hbel hb c2
      have n1 : (k + 3 * (j : Int) != k + 3 * (j : Int)) = false := by simp
      have n2 : (k + 3 * (j : Int) + 1 != k + 3 * (j : Int) + 1) = false := by simp
      have n3 : (k + 3 * (j : Int) + 1 + 1 != k + 3 * (j : Int) + 1 + 1) = false := by simp
      clear c0 c1 c2
      go_wp2
      go_roundw
      case rel => exact ⟨j + 1, by omega, by go_num, by congr 1; omega, hbel⟩
      case measure => simp [intOf]; omega
    · have hjL : j = l.length := by rw [← HL.out, HLL.out]; omega
      have HJ := Lib.hid hjL
      clear hjL
      go_wp2
      go_ret
      exact ⟨congrArg (fun z => Ending.returned (Value.int .i64 z)) (by have := HJ.out; omega), hbel⟩
/-- append of one bar -/
theorem wpList_appB {w : World} {ops : Array Oper} {rest : List Oper} {o : Oper} {a : Act} {Q : Exit → Act → World → Prop} (hgd : o.guard = none) (s x : Operand)
    (ho : o.op = .call { callee := .builtin .append, args := #[s, x], argTypes := #[46, 46] })
    (lo hi : Nat) (v : Value) (l : List Bar) (hs : a.eval s = v) (hown : BarsO w lo hi v l) (g c : Nat) (b : Bar) (hx : a.eval x = .slice (some ⟨g, 0, none⟩) 1 c) (hg : Blk w g 70 #[.int .i64 b.1, .int .i64 b.2.1, .int .i64 b.2.2]) (hb : IBar b)
    (hn : l.length ≤ 1000000) (hlo : lo ≤ w.heap.size)
    (h : ∀ v' w', BarsO w' lo w'.heap.size v' (l ++ [b]) → Below lo w w' → w.grownBy w' v.ownBlock → wpList Try.prog ops Q rest (a.put o.dst v') w') : wpList Try.prog ops Q (o :: rest) a w := by
  obtain ⟨i0, hi', hz0, hz1, hz2⟩ := info_parts infoBar
  refine wpList_append_G w hgd s x _ ho lo 70 i0 _ 3 24 Try.underlying46 hi' hz0 hz1 hz2 rfl (by decide) v l.length _ hs hown.1.1 _ 1 c [.int .i64 b.1, .int .i64 b.2.1, .int .i64 b.2.2] hx ⟨rfl, .inr ⟨g, 0, rfl, fun j y hj => ?_⟩⟩ ?_ (by simp only [maxLen]; omega) (by omega) hlo fun v' w' h1 h2 h3 => ?_
  · have hj3 := lt_of_some hj
    simp only [List.length_cons, List.length_nil] at hj3
    rw [Nat.zero_add]
    match j, hj with
    | 0, hj => rw [hg.cell]; exact hj
    | 1, hj => rw [hg.cell]; exact hj
    | 2, hj => rw [hg.cell]; exact hj
    | j + 3, hj => omega
  · intro y hy
    simp only [List.mem_cons, List.not_mem_nil, or_false] at hy
    rcases hy with rfl | rfl | rfl <;> rfl
  · refine h v' w' ⟨⟨?_, fun k hk => (h1.lt k hk).2, by simp; omega⟩, fun y hy => ?_⟩ (below_grown h2 (fun k hk => (hown.1.1.lt k hk).1) hlo) h2
    · rw [barCs_append, List.length_append]
      exact h1
    · rcases List.mem_append.1 hy with hy | hy
      · exact hown.2 y hy
      · rw [List.mem_singleton] at hy
        subst hy
        exact hb

theorem BarsO.made0 (w : World) {lo : Nat} (h : lo ≤ w.heap.size) : BarsO (w.alloc (.cells #[] 70)) lo (w.alloc (.cells #[] 70)).heap.size (.slice (some ⟨w.heap.size, 0, none⟩) 0 0) [] :=
  ⟨⟨World.ownsRow_made w #[] 0 h (by simp [maxLen]) (by simp), by simp [Value.ownBlock], by simp⟩, by simp⟩
end Go.Proofs.Ytgbchoenmpoojaa

/- Facts of the whole program that every row asks for, each met once for the seat. -/
namespace Go.Proofs.Ytgbchoenmpoojaa
set_option linter.unusedVariables false
set_option linter.unusedSimpArgs false
open Go.RowKit

theorem seatEnter : Try.prog.mayEnter = true := by kernel_rfl
theorem seatLifts : (false == Try.prog.liftsFinal) = true := by kernel_rfl
theorem seatMake : (Try.prog.make == some .cut) = true := by kernel_rfl
theorem band {a b : Bool} (h : a = true) (k : b = true) : (a && b) = true := by rw [h, k]; rfl
end Go.Proofs.Ytgbchoenmpoojaa
