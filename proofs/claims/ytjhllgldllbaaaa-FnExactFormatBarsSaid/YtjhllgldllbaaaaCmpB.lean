/- cmp.Compare, cmp.Or, compareBars. -/
import Derived.Test.YtjhllgldllbaaaaBarsK
import Derived.Test.YtjhllgldllbaaaaNet
import Derived.Test.YtjhllgldllbaaaaSmall
namespace Go.Proofs.Ytjhllgldllbaaaa
set_option linter.unusedVariables false
set_option linter.unusedSimpArgs false
open Go.RowKit

def cmpI (a b : Int) : Int := if a < b then -1 else if b < a then 1 else 0
def cmpB (x y : Bar) : Int := if cmpI x.1 y.1 = 0 then cmpI x.2.1 y.2.1 else cmpI x.1 y.1
theorem cmpI_0 {a b : Int} : cmpI a b = 0 ↔ a = b := by
  unfold cmpI
  constructor
  · intro h; split at h
    · omega
    · split at h <;> omega
  · rintro rfl; rw [if_neg (by omega), if_neg (by omega)]
theorem cmpI_neg {a b : Int} : cmpI a b < 0 ↔ a < b := by
  unfold cmpI
  split
  · constructor <;> omega
  · split <;> constructor <;> omega
theorem cmpI_r (a b : Int) : -1 ≤ cmpI a b ∧ cmpI a b ≤ 1 := by
  unfold cmpI; split
  · omega
  · split <;> omega
theorem cmpB_neg {x y : Bar} : cmpB x y < 0 ↔ x.1 < y.1 ∨ x.1 = y.1 ∧ x.2.1 < y.2.1 := by
  unfold cmpB
  split
  · rename_i h
    rw [cmpI_0] at h
    rw [cmpI_neg]
    omega
  · rename_i h
    rw [cmpI_0] at h
    rw [cmpI_neg]
    omega
theorem cmpB_r (x y : Bar) : -1 ≤ cmpB x y ∧ cmpB x y ≤ 1 := by unfold cmpB; split <;> exact cmpI_r _ _
theorem cmpB_0 {x y : Bar} : cmpB x y = 0 ↔ x.1 = y.1 ∧ x.2.1 = y.2.1 := by
  unfold cmpB
  split
  · rename_i h
    rw [cmpI_0] at h
    rw [cmpI_0]
    omega
  · rename_i h
    rw [cmpI_0] at h
    rw [cmpI_0]
    omega

theorem isNaN_any (a : Int) (w : World) : Calls Try.prog 186 #[.int .i64 a] w fun e w' => e = .returned (.bool false) ∧ w = w' := by
  have h : (a != a) = false := by simp
  go_enter Try.func186, Try.ntmps186
  go_wp2
  go_ret
  exact ⟨rfl, rfl⟩
set_option maxHeartbeats 400000 in
theorem compare_any (a b : Int) (w : World) : Calls Try.prog 131 #[.int .i64 a, .int .i64 b] w fun e w' => e = .returned (.int .i64 (cmpI a b)) ∧ w = w' := by
  go_enter Try.func131, Try.ntmps131
  go_wp2_with (go_at_call 186; refine (isNaN_any _ _).mono ?_; rintro e w' ⟨rfl, rfl⟩)
  all_goals go_ret
  all_goals (unfold cmpI; refine ⟨?_, rfl⟩)
  all_goals (repeat (first | rw [if_pos (by omega)] | rw [if_neg (by omega)]))
  all_goals rfl
/-- the first number that is not 0 -/
def orI : List Int → Int
  | [] => 0
  | x :: xs => if x = 0 then orI xs else x
theorem orI_take {l : List Int} {k : Nat} (h : ∀ j, j < k → l.getD j 0 = 0) : orI l = orI (l.drop k) := by
  induction k generalizing l with
  | zero => rfl
  | succ k ih =>
    match l with
    | [] => rfl
    | x :: xs =>
      have h0 := h 0 (by omega)
      simp at h0
      subst h0
      simp only [orI, if_true, List.drop_succ_cons]
      exact ih fun j hj => by have := h (j + 1) (by omega); simpa using this
set_option maxHeartbeats 400000 in
theorem or_any (v : Value) (l : List Int) (w : World) (hv : SlI w w.heap.size v l) : Calls Try.prog 130 #[v] w fun e w' => e = .returned (.int .i64 (orI l)) ∧ w = w' := by
  obtain ⟨A, c, rfl, _, _, hn, hx⟩ := hv.open_
  clear hv
  go_enter Try.func130, Try.ntmps130
  go_wp2
  go_loop [8] (fun i => ∃ k : Nat, k ≤ l.length ∧ i = .int .i64 k ∧ Hid (∀ j, j < k → l.getD j 0 = 0)) (fun i => l.length - (intOf i).toNat)
  case atStart => exact ⟨0, Nat.zero_le _, rfl, fun j h => absurd h (by omega)⟩
  case round =>
    obtain ⟨k, hk, rfl, hz⟩ := hrel
    by_cases hlt : k < l.length
    · obtain ⟨b, o, x, rfl, hb, HX, c1, _⟩ := SlI.at_ hx hlt
      clear hx
      by_cases hE : x = 0
      · subst hE
        go_wp2
        go_round
        case rel =>
          refine ⟨k + 1, by omega, by go_num, fun j hj => ?_⟩
          by_cases e : j = k
          · subst e
            rw [List.getD_eq_getElem?_getD, HX.out]; rfl
          · exact hz.out j (by omega)
        case measure => simp [intOf]; omega
      · have hne : (x != 0) = true := by simpa using hE
        have HO := Lib.hid (show orI l = x by
          rw [orI_take hz.out, List.drop_eq_getElem_cons hlt]
          have := HX.out
          rw [List.getElem?_eq_getElem hlt] at this
          injection this with this
          rw [this]
          simp [orI, hE])
        clear hE
        go_wp2
        go_ret
        exact ⟨by rw [HO.out]; rfl, rfl⟩
    · have HO := Lib.hid (show orI l = 0 by rw [orI_take hz.out, List.drop_of_length_le (by omega)]; rfl)
      go_wp2
      go_ret
      exact ⟨by rw [HO.out]; rfl, rfl⟩
theorem orI_two (x y : Bar) : orI [cmpI x.1 y.1, cmpI x.2.1 y.2.1] = cmpB x y := by
  unfold cmpB
  simp only [orI]
  split
  · split
    · rename_i h; exact h.symm
    · rfl
  · rfl

set_option maxHeartbeats 1600000 in
set_option maxRecDepth 100000 in
theorem compareBars_any (p q r s1 s2 s3 : Int) (w0 : World) :
    Calls Try.prog 78 #[.agg #[.int .i64 p, .int .i64 q, .int .i64 r], .agg #[.int .i64 s1, .int .i64 s2, .int .i64 s3]] w0 fun e w' => e = .returned (.int .i64 (cmpB (p, q, r) (s1, s2, s3))) ∧ Below w0.heap.size w0 w' := by
  obtain ⟨W, hW⟩ : ∃ W, W = (w0.alloc (.cells #[.int .i64 p, .int .i64 q, .int .i64 r] 80)).alloc (.cells #[.int .i64 s1, .int .i64 s2, .int .i64 s3] 80) := ⟨_, rfl⟩
  have g0 : Below w0.heap.size w0 W := by rw [hW]; exact ((Below.refl _ _).alloc (Nat.le_refl _) _).alloc (by simp) _
  have k1 : Blk W w0.heap.size 80 #[.int .i64 p, .int .i64 q, .int .i64 r] := by rw [hW]; exact (Blk.new _ _ _).alloc _
  have k2 : Blk W (w0.heap.size + 1) 80 #[.int .i64 s1, .int .i64 s2, .int .i64 s3] := by
    rw [hW]
    have := Blk.new (w0.alloc (.cells #[.int .i64 p, .int .i64 q, .int .i64 r] 80)) 80 #[.int .i64 s1, .int .i64 s2, .int .i64 s3]
    simpa only [World.size_alloc] using this
  have hor := orI_two (p, q, r) (s1, s2, s3)
  simp only at hor
  rw [← hor]
  clear hor
  obtain ⟨a, ha⟩ : ∃ a, cmpI p s1 = a := ⟨_, rfl⟩
  obtain ⟨b, hb0⟩ : ∃ b, cmpI q s2 = b := ⟨_, rfl⟩
  have hra := cmpI_r p s1
  have hrb := cmpI_r q s2
  rw [ha] at hra
  rw [hb0] at hrb
  rw [ha, hb0]
  have HA := Lib.hid ha
  have HB := Lib.hid hb0
  clear ha hb0
  go_enter Try.func78, Try.ntmps78
  go_wp2
  rw [← hW]; clear hW
  refine wp_region_net (by kernel_rfl) [.eq (.pointer (some ⟨w0.heap.size, 0, none⟩)), .eq (.int .i64 p), .eq (.pointer (some ⟨w0.heap.size + 1, 0, none⟩)), .eq (.int .i64 s1), .eq (.int .i64 a), .eq (.pointer (some ⟨w0.heap.size, 1, none⟩)), .eq (.int .i64 q), .eq (.pointer (some ⟨w0.heap.size + 1, 1, none⟩)), .eq (.int .i64 s2), .eq (.int .i64 b), rel 10 (fun u lo hi w => ∃ g, u = .slice (some ⟨g, 0, none⟩) 2 2 ∧ Blk w g 3 #[.int .i64 a, .int .i64 b]), .eq (.int .i64 (orI [a, b]))] [[], [0], [], [2], [0, 1, 2, 3], [], [5], [], [7], [0, 1, 2, 3, 4, 5, 6, 7, 8], [0, 1, 2, 3, 4, 5, 6, 7, 8, 9], [0, 1, 2, 3, 4, 5, 6, 7, 8, 9, 10], [0, 1, 2, 3, 4, 5, 6, 7, 8, 9, 10, 11]] 12 (by kernel_rfl) ⟨trivial, trivial, trivial, trivial, trivial, trivial, trivial, trivial, trivial, trivial, rel_stable (fun u lo hi w w' ⟨g, e, h⟩ hb => ⟨g, e, h.call hb⟩), trivial, trivial⟩ ⟨?_, ?_, ?_, ?_, ?_, ?_, ?_, ?_, ?_, ?_, ?_, ?_, trivial⟩ ?_
  · intro x w hb hk Q' hQ
    clear hk
    simp only [netAct, dstAt, List.getElem?_toArray, List.getElem?_cons_zero, List.getElem?_cons_succ, Option.bind_some, Act.put, List.setIfInBounds_toArray, List.set_cons_zero, List.set_cons_succ] at hQ ⊢
    go_wp2
    exact hQ (.pointer (some ⟨w0.heap.size, 0, none⟩)) _ (Below.refl _ _) rfl
  · intro x w hb hk Q' hQ
    have h0 : x.v 0 = .pointer (some ⟨w0.heap.size, 0, none⟩) := (hk 0 (by decide)).1
    clear hk
    simp only [netAct, dstAt, List.getElem?_toArray, List.getElem?_cons_zero, List.getElem?_cons_succ, Option.bind_some, Act.put, List.setIfInBounds_toArray, List.set_cons_zero, List.set_cons_succ] at hQ ⊢
    simp only [h0] at hQ ⊢
    clear h0
    have q0 := (k1.call hb).cell' (i := 0) rfl
    go_wp2
    exact hQ (.int .i64 p) _ (Below.refl _ _) rfl
  · intro x w hb hk Q' hQ
    clear hk
    simp only [netAct, dstAt, List.getElem?_toArray, List.getElem?_cons_zero, List.getElem?_cons_succ, Option.bind_some, Act.put, List.setIfInBounds_toArray, List.set_cons_zero, List.set_cons_succ] at hQ ⊢
    go_wp2
    exact hQ (.pointer (some ⟨w0.heap.size + 1, 0, none⟩)) _ (Below.refl _ _) rfl
  · intro x w hb hk Q' hQ
    have h2 : x.v 2 = .pointer (some ⟨w0.heap.size + 1, 0, none⟩) := (hk 2 (by decide)).1
    clear hk
    simp only [netAct, dstAt, List.getElem?_toArray, List.getElem?_cons_zero, List.getElem?_cons_succ, Option.bind_some, Act.put, List.setIfInBounds_toArray, List.set_cons_zero, List.set_cons_succ] at hQ ⊢
    simp only [h2] at hQ ⊢
    clear h2
    have q0 := (k2.call hb).cell' (i := 0) rfl
    go_wp2
    exact hQ (.int .i64 s1) _ (Below.refl _ _) rfl
  · intro x w hb hk Q' hQ
    have h1 : x.v 1 = .int .i64 p := (hk 1 (by decide)).1
    have h3 : x.v 3 = .int .i64 s1 := (hk 3 (by decide)).1
    clear hk
    simp only [netAct, dstAt, List.getElem?_toArray, List.getElem?_cons_zero, List.getElem?_cons_succ, Option.bind_some, Act.put, List.setIfInBounds_toArray, List.set_cons_zero, List.set_cons_succ] at hQ ⊢
    simp only [h1, h3] at hQ ⊢
    clear h1 h3
    go_wp2_with fail
    refine (compare_any _ _ _).mono ?_; rintro e w1 ⟨rfl, rfl⟩
    rw [HA.out]
    go_wp2
    exact hQ (.int .i64 a) _ (Below.refl _ _) rfl
  · intro x w hb hk Q' hQ
    clear hk
    simp only [netAct, dstAt, List.getElem?_toArray, List.getElem?_cons_zero, List.getElem?_cons_succ, Option.bind_some, Act.put, List.setIfInBounds_toArray, List.set_cons_zero, List.set_cons_succ] at hQ ⊢
    go_wp2
    exact hQ (.pointer (some ⟨w0.heap.size, 1, none⟩)) _ (Below.refl _ _) rfl
  · intro x w hb hk Q' hQ
    have h5 : x.v 5 = .pointer (some ⟨w0.heap.size, 1, none⟩) := (hk 5 (by decide)).1
    clear hk
    simp only [netAct, dstAt, List.getElem?_toArray, List.getElem?_cons_zero, List.getElem?_cons_succ, Option.bind_some, Act.put, List.setIfInBounds_toArray, List.set_cons_zero, List.set_cons_succ] at hQ ⊢
    simp only [h5] at hQ ⊢
    clear h5
    have q0 := (k1.call hb).cell' (i := 1) rfl
    go_wp2
    exact hQ (.int .i64 q) _ (Below.refl _ _) rfl
  · intro x w hb hk Q' hQ
    clear hk
    simp only [netAct, dstAt, List.getElem?_toArray, List.getElem?_cons_zero, List.getElem?_cons_succ, Option.bind_some, Act.put, List.setIfInBounds_toArray, List.set_cons_zero, List.set_cons_succ] at hQ ⊢
    go_wp2
    exact hQ (.pointer (some ⟨w0.heap.size + 1, 1, none⟩)) _ (Below.refl _ _) rfl
  · intro x w hb hk Q' hQ
    have h7 : x.v 7 = .pointer (some ⟨w0.heap.size + 1, 1, none⟩) := (hk 7 (by decide)).1
    clear hk
    simp only [netAct, dstAt, List.getElem?_toArray, List.getElem?_cons_zero, List.getElem?_cons_succ, Option.bind_some, Act.put, List.setIfInBounds_toArray, List.set_cons_zero, List.set_cons_succ] at hQ ⊢
    simp only [h7] at hQ ⊢
    clear h7
    have q0 := (k2.call hb).cell' (i := 1) rfl
    go_wp2
    exact hQ (.int .i64 s2) _ (Below.refl _ _) rfl
  · intro x w hb hk Q' hQ
    have h6 : x.v 6 = .int .i64 q := (hk 6 (by decide)).1
    have h8 : x.v 8 = .int .i64 s2 := (hk 8 (by decide)).1
    clear hk
    simp only [netAct, dstAt, List.getElem?_toArray, List.getElem?_cons_zero, List.getElem?_cons_succ, Option.bind_some, Act.put, List.setIfInBounds_toArray, List.set_cons_zero, List.set_cons_succ] at hQ ⊢
    simp only [h6, h8] at hQ ⊢
    clear h6 h8
    go_wp2_with fail
    refine (compare_any _ _ _).mono ?_; rintro e w1 ⟨rfl, rfl⟩
    rw [HB.out]
    go_wp2
    exact hQ (.int .i64 b) _ (Below.refl _ _) rfl
  · intro x w hb hk Q' hQ
    have h0 : x.v 0 = .pointer (some ⟨w0.heap.size, 0, none⟩) := (hk 0 (by decide)).1
    have h1 : x.v 1 = .int .i64 p := (hk 1 (by decide)).1
    have h2 : x.v 2 = .pointer (some ⟨w0.heap.size + 1, 0, none⟩) := (hk 2 (by decide)).1
    have h3 : x.v 3 = .int .i64 s1 := (hk 3 (by decide)).1
    have h4 : x.v 4 = .int .i64 a := (hk 4 (by decide)).1
    have h5 : x.v 5 = .pointer (some ⟨w0.heap.size, 1, none⟩) := (hk 5 (by decide)).1
    have h6 : x.v 6 = .int .i64 q := (hk 6 (by decide)).1
    have h7 : x.v 7 = .pointer (some ⟨w0.heap.size + 1, 1, none⟩) := (hk 7 (by decide)).1
    have h8 : x.v 8 = .int .i64 s2 := (hk 8 (by decide)).1
    have h9 : x.v 9 = .int .i64 b := (hk 9 (by decide)).1
    clear hk
    simp only [netAct, dstAt, List.getElem?_toArray, List.getElem?_cons_zero, List.getElem?_cons_succ, Option.bind_some, Act.put, List.setIfInBounds_toArray, List.set_cons_zero, List.set_cons_succ] at hQ ⊢
    simp only [h0, h1, h2, h3, h4, h5, h6, h7, h8, h9] at hQ ⊢
    clear h0 h1 h2 h3 h4 h5 h6 h7 h8 h9
    go_wp2
    exact hQ _ _ (below_alloc _ _) ⟨_, rfl, Blk.new _ _ _⟩
  · intro x w hb hk Q' hQ
    have h10 : ∃ g, (x.v 10) = .slice (some ⟨g, 0, none⟩) 2 2 ∧ Blk w g 3 #[.int .i64 a, .int .i64 b] := (hk 10 (by decide)).1
    clear hk
    simp only [netAct, dstAt, List.getElem?_toArray, List.getElem?_cons_zero, List.getElem?_cons_succ, Option.bind_some, Act.put, List.setIfInBounds_toArray, List.set_cons_zero, List.set_cons_succ] at hQ ⊢
    obtain ⟨g, e1, hk⟩ := h10
    rw [e1] at hQ ⊢
    have hsl : SlI w w.heap.size (.slice (some ⟨g, 0, none⟩) 2 2) [a, b] := by
      refine ⟨_, 2, rfl, by simp, by omega, by simp, fun _ => ⟨g, 0, rfl, hk.lt, fun j y hj => ?_⟩⟩
      match j, hj with
      | 0, hj =>
        simp at hj; subst hj
        exact ⟨by rw [hk.cell]; rfl, by unfold I64; omega⟩
      | 1, hj =>
        simp at hj; subst hj
        exact ⟨by rw [hk.cell]; rfl, by unfold I64; omega⟩
      | j + 2, hj => simp at hj
    have HS := Lib.hid hsl
    clear hsl
    go_wp2_with fail
    refine (or_any _ _ _ HS.out).mono ?_; rintro e w1 ⟨rfl, rfl⟩
    go_wp2
    exact hQ (.int .i64 (orI [a, b])) _ (Below.refl _ _) rfl
  · intro x w hb hk hiv hdj
    have h0 : x.v 0 = .pointer (some ⟨w0.heap.size, 0, none⟩) := hk 0 (by decide)
    have h1 : x.v 1 = .int .i64 p := hk 1 (by decide)
    have h2 : x.v 2 = .pointer (some ⟨w0.heap.size + 1, 0, none⟩) := hk 2 (by decide)
    have h3 : x.v 3 = .int .i64 s1 := hk 3 (by decide)
    have h4 : x.v 4 = .int .i64 a := hk 4 (by decide)
    have h5 : x.v 5 = .pointer (some ⟨w0.heap.size, 1, none⟩) := hk 5 (by decide)
    have h6 : x.v 6 = .int .i64 q := hk 6 (by decide)
    have h7 : x.v 7 = .pointer (some ⟨w0.heap.size + 1, 1, none⟩) := hk 7 (by decide)
    have h8 : x.v 8 = .int .i64 s2 := hk 8 (by decide)
    have h9 : x.v 9 = .int .i64 b := hk 9 (by decide)
    have h10 : ∃ g, (x.v 10) = .slice (some ⟨g, 0, none⟩) 2 2 ∧ Blk w g 3 #[.int .i64 a, .int .i64 b] := hk 10 (by decide)
    have h11 : x.v 11 = .int .i64 (orI [a, b]) := hk 11 (by decide)
    clear hk
    simp only [netAct, dstAt, List.getElem?_toArray, List.getElem?_cons_zero, List.getElem?_cons_succ, Option.bind_some, Act.put, List.setIfInBounds_toArray, List.set_cons_zero, List.set_cons_succ]
    simp only [List.drop_succ_cons, List.drop_zero, h0, h1, h2, h3, h4, h5, h6, h7, h8, h9, h11]
    clear h0 h1 h2 h3 h4 h5 h6 h7 h8 h9 h11
    go_wp2
    go_ret
    exact ⟨rfl, g0.trans (hb.mono g0.size)⟩
end Go.Proofs.Ytjhllgldllbaaaa
