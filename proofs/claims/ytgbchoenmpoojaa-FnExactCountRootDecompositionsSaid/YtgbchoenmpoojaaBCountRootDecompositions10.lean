/- FnExactCountRootDecompositions: for every argument the program's function returns what the reference's returns. Part 10 of 10 of the proof: DecP, DecS, DecI, RdX, LawCountRootDecompositions, LawCountRootDecompositionsRow. No condition. -/
import Derived.Test.YtgbchoenmpoojaaBCountRootDecompositions9
/- Sums of roots: plain; slices.Min. -/
namespace Go.Proofs.Ytgbchoenmpoojaa
set_option linter.unusedVariables false
set_option linter.unusedSimpArgs false
open Go.RowKit

def subL (x r : List Int) : List Int := List.zipWith (· - ·) x r
def nnL (y : List Int) : Bool := y.all fun a => decide (0 ≤ a)
def zrL (x : List Int) : Bool := x.all fun a => a == 0
def decC (l : List (List Int)) (D : List Int → Nat → List (List Int)) (x : List Int) (j : Nat) : List (List Int) :=
  if nnL (subL x (l.getD j [])) = true then (D (subL x (l.getD j [])) j).map fun r => (j : Int) :: r else []
/-- the ways to write x as a sum of vectors of l from place i on; n bounds the depth -/
def decD (l : List (List Int)) : Nat → List Int → Nat → List (List Int)
  | 0, _, _ => []
  | n + 1, x, i => if zrL x = true then [[]] else (List.range (l.length - i)).flatMap fun t => decC l (decD l n) x (i + t)
def decR (l : List (List Int)) (n : Nat) (x : List Int) (i k : Nat) : List (List Int) := (List.range k).flatMap fun t => decC l (decD l n) x (i + t)
theorem decR_0 (l : List (List Int)) (n : Nat) (x : List Int) (i : Nat) : decR l n x i 0 = [] := rfl
theorem decR_succ (l : List (List Int)) (n : Nat) (x : List Int) (i k : Nat) : decR l n x i (k + 1) = decR l n x i k ++ decC l (decD l n) x (i + k) := by
  simp [decR, List.range_succ, List.flatMap_append]
theorem decR_app (l : List (List Int)) (n : Nat) (x : List Int) (i k m : Nat) : ∃ t, decR l n x i (k + m) = decR l n x i k ++ t := by
  induction m with
  | zero => exact ⟨[], by simp⟩
  | succ m ih =>
    obtain ⟨t, ht⟩ := ih
    exact ⟨t ++ decC l (decD l n) x (i + (k + m)), by rw [← Nat.add_assoc, decR_succ, ht, List.append_assoc]⟩
theorem decD_zero {l : List (List Int)} {n : Nat} {x : List Int} {i : Nat} (h : zrL x = true) : decD l (n + 1) x i = [[]] := by rw [decD, if_pos h]
theorem decD_rest {l : List (List Int)} {n : Nat} {x : List Int} {i : Nat} (h : zrL x = false) : decD l (n + 1) x i = decR l n x i (l.length - i) := by rw [decD, if_neg (by rw [h]; simp)]; rfl
theorem tk500 {α : Type} (A B : List α) : (A.take 500 ++ B).take 500 = (A ++ B).take 500 := by
  rw [List.take_append, List.take_append, List.take_take, Nat.min_self, List.length_take]
  by_cases h : A.length ≤ 500
  · rw [Nat.min_eq_right h]
  · rw [Nat.min_eq_left (by omega), show 500 - A.length = 0 by omega, Nat.sub_self]
theorem tk500b {α : Type} (A B : List α) : (A ++ B.take 500).take 500 = (A ++ B).take 500 := by
  rw [List.take_append, List.take_append, List.take_take]
  congr 1
  rw [Nat.min_eq_left (by omega)]
theorem tk500_full {α : Type} {A B : List α} (h : 500 ≤ (A.take 500).length) : (A ++ B).take 500 = A.take 500 := by
  rw [List.length_take] at h
  rw [List.take_append, show 500 - A.length = 0 by omega]; simp
theorem subL_length {x r : List Int} {n : Nat} (hx : x.length = n) (hr : r.length = n) : (subL x r).length = n := by simp [subL, hx, hr]
theorem subL_snoc {x r : List Int} {j : Nat} {a b : Int} (hx : x[j]? = some a) (hr : r[j]? = some b) : subL (x.take (j + 1)) (r.take (j + 1)) = subL (x.take j) (r.take j) ++ [a - b] := by
  rw [take_snoc hx, take_snoc hr, subL, subL, List.zipWith_append (by have := lt_of_some hx; have := lt_of_some hr; simp; omega)]
  rfl
theorem subL_sum : ∀ (x r : List Int), x.length = r.length → (subL x r).sum = x.sum - r.sum
  | [], [], _ => by simp [subL]
  | a :: x, b :: r, h => by
    have := subL_sum x r (by simpa using h)
    simp only [subL, List.zipWith_cons_cons, List.sum_cons] at this ⊢
    omega
  | [], _ :: _, h => by simp at h
  | _ :: _, [], h => by simp at h
/-- a vector that is told of: numbers from 0 to 100 -/
def nnV (V : Nat) (x : List Int) : Prop := x.length = V ∧ ∀ a ∈ x, 0 ≤ a ∧ a ≤ 100
def rtV (V : Nat) (l : List (List Int)) : Prop := l.length ≤ 20 ∧ ∀ r ∈ l, r.length = V ∧ (∀ a ∈ r, 0 ≤ a ∧ a ≤ 2) ∧ 1 ≤ r.sum
theorem nnL_t {y : List Int} : nnL y = true ↔ ∀ a ∈ y, 0 ≤ a := by simp [nnL]
theorem nnV_sub {V : Nat} {x r : List Int} (hx : nnV V x) (hr : r.length = V) (hr2 : ∀ a ∈ r, 0 ≤ a ∧ a ≤ 2) (h : nnL (subL x r) = true) : nnV V (subL x r) := by
  refine ⟨subL_length hx.1 hr, fun a ha => ⟨nnL_t.1 h a ha, ?_⟩⟩
  rw [subL, List.mem_iff_getElem] at ha
  obtain ⟨i, hi, rfl⟩ := ha
  have h1 : i < x.length := by simp at hi; omega
  have h2 : i < r.length := by simp at hi; omega
  have := hx.2 _ (List.getElem_mem h1)
  have := hr2 _ (List.getElem_mem h2)
  simp only [List.getElem_zipWith]
  omega
theorem sum_nn {x : List Int} (h : ∀ a ∈ x, 0 ≤ a) : 0 ≤ x.sum := by
  induction x with
  | nil => simp
  | cons a r ih => have := h a (by simp); have := ih fun b hb => h b (by simp [hb]); simp; omega
theorem zrL_sum {x : List Int} (h : ∀ a ∈ x, 0 ≤ a) : zrL x = decide (x.sum = 0) := by
  induction x with
  | nil => simp [zrL]
  | cons a r ih =>
    have h1 := h a (by simp)
    have h2 := ih fun b hb => h b (by simp [hb])
    have h4 := sum_nn (x := r) fun b hb => h b (by simp [hb])
    rw [Bool.eq_iff_iff] at h2 ⊢
    have h5 : zrL (a :: r) = (a == 0 && zrL r) := rfl
    rw [h5, Bool.and_eq_true, beq_iff_eq, decide_eq_true_eq, List.sum_cons]
    rw [decide_eq_true_eq] at h2
    constructor
    · rintro ⟨rfl, h6⟩; have := h2.1 h6; omega
    · intro h6; exact ⟨by omega, h2.2 (by omega)⟩
theorem sum_le_nn {V : Nat} {x : List Int} (hx : nnV V x) : 0 ≤ x.sum ∧ x.sum ≤ 1000 * (V : Int) := by
  refine ⟨sum_nn fun a ha => (hx.2 a ha).1, ?_⟩
  obtain ⟨rfl, h⟩ := hx
  induction x with
  | nil => simp
  | cons a r ih => have := (h a (by simp)).2; have := ih fun b hb => h b (by simp [hb]); simp only [List.sum_cons, List.length_cons]; omega
/-- the ways are short, and name places -/
theorem decD_sm {l : List (List Int)} : ∀ (n : Nat) (x : List Int) (i : Nat), ∀ r ∈ decD l n x i, r.length < n ∧ ∀ a ∈ r, 0 ≤ a ∧ a < (l.length : Int)
  | 0, _, _ => fun r h => by simp [decD] at h
  | n + 1, x, i => fun r h => by
    rw [decD] at h
    split at h
    · simp at h; subst h; exact ⟨by simp, fun a ha => by simp at ha⟩
    · rw [List.mem_flatMap] at h
      obtain ⟨t, ht, hr⟩ := h
      rw [List.mem_range] at ht
      rw [decC] at hr
      split at hr
      · obtain ⟨r', hr', rfl⟩ := List.mem_map.1 hr
        have := decD_sm n _ _ r' hr'
        refine ⟨by simp; omega, fun a ha => ?_⟩
        rcases List.mem_cons.1 ha with rfl | ha
        · omega
        · exact this.2 a ha
      · simp at hr
def minL (x : List Int) : Int := x.tail.foldl min (x.headD 0)
theorem minL_nn {x : List Int} (h : x ≠ []) : decide (0 ≤ minL x) = nnL x := by
  obtain ⟨a, r, rfl⟩ : ∃ a r, x = a :: r := by cases x with | nil => exact absurd rfl h | cons a r => exact ⟨a, r, rfl⟩
  have : ∀ (r : List Int) (a : Int), decide (0 ≤ r.foldl min a) = nnL (a :: r) := by
    intro r
    induction r with
    | nil => intro a; rw [Bool.eq_iff_iff, decide_eq_true_eq, nnL_t]; simp
    | cons b r ih =>
      intro a
      rw [List.foldl_cons, ih]
      simp only [nnL, List.all_cons]
      rw [Bool.eq_iff_iff]
      simp only [Bool.and_eq_true, decide_eq_true_eq]
      constructor
      · rintro ⟨h1, h2⟩; exact ⟨by omega, by omega, h2⟩
      · rintro ⟨h1, h2, h3⟩; exact ⟨by omega, h3⟩
  exact this r a
theorem minL_succ {x : List Int} {k : Nat} {a : Int} (hk : 1 ≤ k) (h : x[k]? = some a) : minL (x.take (k + 1)) = min (minL (x.take k)) a := by
  obtain ⟨b, r, rfl⟩ : ∃ b r, x = b :: r := by cases x with | nil => simp at h | cons b r => exact ⟨b, r, rfl⟩
  obtain ⟨k, rfl⟩ : ∃ k', k = k' + 1 := ⟨k - 1, by omega⟩
  simp only [List.getElem?_cons_succ] at h
  simp only [List.take_succ_cons, minL, List.tail_cons, List.headD_cons]
  rw [take_snoc h, List.foldl_append]
  rfl
theorem minL_one {x : List Int} {a : Int} (h : x[0]? = some a) : minL (x.take 1) = a := by
  obtain ⟨b, r, rfl⟩ : ∃ b r, x = b :: r := by cases x with | nil => simp at h | cons b r => exact ⟨b, r, rfl⟩
  simp at h
  subst h
  simp [minL]
set_option maxHeartbeats 800000 in
theorem sliceMin_any (u : Value) (xs : List Int) (w : World) (hu : SlI w w.heap.size u xs) (h0 : 0 < xs.length) (hr : ∀ a ∈ xs, -100000 ≤ a ∧ a ≤ 100000) :
    Calls Try.prog 56 #[u] w fun e w' => e = .returned (.int .i64 (minL xs)) ∧ w' = w := by
  obtain ⟨A, c, rfl, _, _, hn, hx⟩ := hu.open_
  clear hu
  obtain ⟨b, o, x0, rfl, hb, HX0, c0, _⟩ := SlI.at_ (k := 0) hx h0
  rw [Nat.add_zero] at c0
  have H1 := Lib.hid (minL_one HX0.out)
  have hnl : ¬ (xs.length : Int) < 1 := by omega
  go_enter Try.func56, Try.ntmps56
  go_wp2
  go_loop [3, 4] (fun m i => ∃ k : Nat, 1 ≤ k ∧ k ≤ xs.length ∧ i = .int .i64 k ∧ m = .int .i64 (minL (xs.take k))) (fun _ i => xs.length - (intOf i).toNat)
  case atStart => exact ⟨1, Nat.le_refl _, by omega, rfl, by rw [H1.out]⟩
  case round =>
    obtain ⟨k, hk1, hk, rfl, rfl⟩ := hrel
    by_cases hlt : k < xs.length
    · obtain ⟨b', o', x, hAe, hb', HX, c1, hx1, hx2⟩ := SlI.at_ hx hlt
      injection hAe with hAe
      injection hAe with e1 e2
      subst e1 e2
      have hst := Lib.hid (minL_succ hk1 HX.out)
      obtain ⟨M, hM⟩ : ∃ M, minL (xs.take k) = M := ⟨_, rfl⟩
      rw [hM] at hst ⊢
      clear hM hx c0
      by_cases hlm : x < M
      · have hmin := Lib.hid (show min M x = x by omega)
        go_wp2
        go_round
        case rel => exact ⟨k + 1, by omega, by omega, by go_num, by rw [hst.out, hmin.out]⟩
        case measure => simp [intOf]; omega
      · have hmin := Lib.hid (show min M x = M by omega)
        go_wp2
        go_round
        case rel => exact ⟨k + 1, by omega, by omega, by go_num, by rw [hst.out, hmin.out]⟩
        case measure => simp [intOf]; omega
    · obtain rfl : k = xs.length := by omega
      go_wp2
      go_ret
      exact ⟨rfl, rfl⟩
end Go.Proofs.Ytgbchoenmpoojaa

/- Sums of roots: the reference's l20Sums. -/
namespace Go.Proofs.Ytgbchoenmpoojaa
set_option linter.unusedVariables false
set_option linter.unusedSimpArgs false
open Go.RowKit

theorem IntssO.one {w : World} {lo mi hi g : Nat} {u : Value} {l : List Int} (hu : IntsO w lo mi u l) (hb : Blk w g 22 #[u]) (h1 : lo ≤ mi) (h2 : mi ≤ g) (h3 : g < hi) (h4 : mi ≤ hi) : IntssO w lo hi (.slice (some ⟨g, 0, none⟩) 1 1) [l] := by
  have h := hb.own (base := lo) (n := 1) (cap := 1) (size := 1) (by omega) (Nat.le_refl _) (by simp [maxLen]) (by simp)
  refine ⟨[u], ⟨by simpa using h, fun k hk => by simp [Value.ownBlock] at hk; omega, by simp⟩, rfl, ⟨fun p hp => ?_, by simp⟩⟩
  simp at hp
  subst hp
  exact hu.wider (Nat.le_refl _) h4

/-- append of a row, with the block of the new value -/
theorem wpList_appR2 {w : World} {ops : Array Oper} {rest : List Oper} {o : Oper} {a : Act} {Q : Exit → Act → World → Prop} (hgd : o.guard = none) (s x : Operand)
    (ho : o.op = .call { callee := .builtin .append, args := #[s, x], argTypes := #[36, 36] })
    (lo hi mi hi' : Nat) (v : Value) (ll : List (List Int)) (l : List Int) (hs : a.eval s = v) (hown : IntssO w lo hi v ll) (A : Option Addr) (c : Nat) (u : Value) (hx : a.eval x = .slice A 1 c) (hA : ∃ b o, A = some ⟨b, o, none⟩ ∧ w.cell? ⟨b, o, none⟩ = some u) (hu : IntsO w mi hi' u l)
    (h1 : hi ≤ mi) (h2 : mi ≤ hi') (h3 : lo ≤ mi) (hn : ll.length + 1 ≤ 1048576) (hlo : lo ≤ w.heap.size) (hhi : hi' ≤ w.heap.size)
    (h : ∀ v' w', IntssO w' lo w'.heap.size v' (ll ++ [l]) → Below lo w w' → w.grownBy w' v.ownBlock → (v'.ownBlock = v.ownBlock ∨ v'.ownBlock = some w.heap.size) → wpList Try.prog ops Q rest (a.put o.dst v') w') : wpList Try.prog ops Q (o :: rest) a w := by
  obtain ⟨vs, h4, h5, h6⟩ := hown
  refine wpList_appS hgd s x ho lo v vs hs h4.1 A c u hx hA (by obtain ⟨A', c', rfl, _⟩ := hu.1.form; rfl) (by omega) hlo fun v' w' k1 k2 k3 => ?_
  have hbg : Below lo w w' := below_grown k2 (fun k hk => (h4.1.lt k hk).1) hlo
  have F2 := ((h6.mono (Nat.le_refl _) h1).snoc hu h3 h2).mono (Nat.le_refl _) (Nat.le_trans hhi hbg.size)
  have F3 := Fam.grownO (by simpa using F2) h4.1 k2
  refine h v' w' ⟨vs ++ [u], ⟨k1, fun k hk => (k1.lt k hk).2, by simp; omega⟩, by simp [h5], ?_⟩ hbg k2 k3
  rw [List.zip_append h5]
  exact F3
theorem IntssO.grownFar {w w' : World} {lo hi : Nat} {v : Value} {ll : List (List Int)} {row : Option Nat} (h : IntssO w lo hi v ll) (hg : w.grownBy w' row) (hr : ∀ g, row = some g → g < lo ∨ hi ≤ g) : IntssO w' lo hi v ll := by
  cases row with
  | none => exact h.below ⟨hg.os, hg.tape, hg.output, hg.size, fun k hk => hg.block k hk (by simp)⟩
  | some g =>
    have := hr g rfl
    exact h.chg (lo' := g) (hi' := g + 1) ⟨hg.os, hg.tape, hg.output, hg.size, fun k hk hne => hg.block k hk (fun e => by injection e with e; omega)⟩ (by omega)
theorem IntssO.ownHi {w : World} {lo hi : Nat} {v : Value} {ll : List (List Int)} (h : IntssO w lo hi v ll) : ∀ g, v.ownBlock = some g → lo ≤ g ∧ g < hi := by
  obtain ⟨vs, h4, _, _⟩ := h
  exact fun g hg => ⟨(h4.1.lt g hg).1, h4.2.1 g hg⟩
theorem sums_stop {A D : List (List Int)} {f : List Int → List Int} {m : Nat} (hm : m ≤ (D.take 500).length) (hl : (A.take 500).length + m ≤ 500) (hs : m = (D.take 500).length ∨ (A.take 500).length + m = 500) : A.take 500 ++ ((D.take 500).take m).map f = (A ++ D.map f).take 500 := by
  rw [← tk500 A, ← tk500b, ← List.map_take]
  obtain ⟨A', hA⟩ : ∃ A', A.take 500 = A' := ⟨_, rfl⟩
  obtain ⟨R, hR⟩ : ∃ R, D.take 500 = R := ⟨_, rfl⟩
  rw [hA] at hl hs ⊢
  rw [hR] at hm hs ⊢
  have e1 : A'.take 500 = A' := List.take_of_length_le (by omega)
  have e2 : R.take m = R.take (500 - A'.length) := by
    rcases hs with h | h
    · rw [List.take_of_length_le (by omega), List.take_of_length_le (by omega)]
    · rw [show 500 - A'.length = m by omega]
  rw [List.take_append, e1, ← List.map_take, e2]
set_option maxRecDepth 100000 in
set_option maxHeartbeats 6400000 in
theorem l20Sums_any (V : Nat) (hV : V ≤ 5) (ll : List (List Int)) (hll : rtV V ll) : ∀ (n : Nat) (u xv : Value) (x0 : List Int) (i0 : Nat) (w0 : World), n ≤ 1000000 → SlII w0 w0.heap.size u ll → SlI w0 w0.heap.size xv x0 → nnV V x0 → x0.sum < n → i0 ≤ 20 →
    Calls Try.prog 71 #[u, xv, .int .i64 i0] w0 fun e w' => ∃ o, e = .returned o ∧ IntssO w' w0.heap.size w'.heap.size o ((decD ll n x0 i0).take 500) ∧ Below w0.heap.size w0 w' := by
  intro n
  induction n with
  | zero => intro u xv x0 i0 w0 _ _ _ hx hs; have := sum_nn fun a ha => (hx.2 a ha).1; omega
  | succ n ih =>
    intro u xv x0 i0 w0 hn6 hu hxr hxv hsum hi0
    obtain ⟨UA, uc, rfl, _, _, _, hu⟩ := hu.open_
    obtain ⟨XA, xc, rfl, _, _, _, hxr⟩ := hxr.open_
    have IH := Lib.hid ih
    clear ih
    have hz := decD_zero (l := ll) (n := n) (x := x0) (i := i0)
    have hz2 := decD_rest (l := ll) (n := n) (x := x0) (i := i0)
    have HXL := Lib.hid hxv.1
    have hll20 := hll.1
    go_enter Try.func71, Try.ntmps71
    go_wp2
    go_loop [7, 8] (fun d i => ∃ k : Nat, k ≤ x0.length ∧ i = .int .i64 k ∧ d = .bool (zrL (x0.take k))) (fun _ i => x0.length - (intOf i).toNat)
    case atStart => exact ⟨0, Nat.zero_le _, rfl, rfl⟩
    case round =>
      obtain ⟨k, hk, rfl, rfl⟩ := hrel
      by_cases hlt : k < x0.length
      · obtain ⟨b, o, a, rfl, hb, HX, c1, _⟩ := SlI.at_ hxr hlt
        have hst := Lib.hid (show zrL (x0.take (k + 1)) = (zrL (x0.take k) && (a == 0)) by rw [take_snoc HX.out, zrL, List.all_append]; simp [zrL])
        rcases hB : zrL (x0.take k) with _ | _
        · have HB := Lib.hid hB
          clear hB hxr hz hz2
          go_wp2
          go_round
          case rel => exact ⟨k + 1, by omega, by go_num, by rw [hst.out, HB.out]; rfl⟩
          case measure => simp [intOf]; omega
        · have HB := Lib.hid hB
          clear hB hxr hz hz2
          by_cases ha : a = 0
          · subst ha
            go_wp2
            go_round
            case rel => exact ⟨k + 1, by omega, by go_num, by rw [hst.out, HB.out]; rfl⟩
            case measure => simp [intOf]; omega
          · have ha2 : (a == 0) = false := by simpa using ha
            clear ha
            go_wp2
            go_round
            case rel => exact ⟨k + 1, by omega, by go_num, by rw [hst.out, HB.out, ha2]; rfl⟩
            case measure => simp [intOf]; omega
      · have hkl : k = x0.length := by omega
        have htk : x0.take k = x0 := List.take_of_length_le (by omega)
        rw [htk]
        clear htk
        rcases hZ : zrL x0 with _ | _
        · have HE := Lib.hid (hz2 hZ)
          have hxs := hxv.2
          clear hZ hz hz2 hkl
          have hO0 : IntssO (w0.alloc (.cells #[] 22)) w0.heap.size (w0.alloc (.cells #[] 22)).heap.size (.slice (some ⟨w0.heap.size, 0, none⟩) 0 0) ((decR ll n x0 i0 0).take 500) := IntssO.made0 w0 (Nat.le_refl _)
          have hB0 := below_alloc w0 (.cells #[] 22)
          go_wp2
          go_loopw [9, 10] (fun vo vi wr => ∃ k : Nat, (k = 0 ∨ i0 + k ≤ ll.length) ∧ vi = .int .i64 ((i0 + k : Nat) : Int) ∧ IntssO wr w0.heap.size wr.heap.size vo ((decR ll n x0 i0 k).take 500) ∧ Below w0.heap.size w0 wr) (fun _ vi _ => ll.length - (intOf vi).toNat)
          case atStart => exact ⟨0, .inl rfl, by rw [Nat.add_zero], hO0, hB0⟩
          case round =>
            clear hO0 hB0
            obtain ⟨k, hk, rfl, hO, hB⟩ := hrel
            obtain ⟨wa, hwa⟩ : ∃ z, z = wr := ⟨_, rfl⟩
            subst hwa
            have hsB := hB.size
            have hdR := decR_succ ll n x0 i0 k
            have happ : i0 + k ≤ ll.length → 500 ≤ ((decR ll n x0 i0 k).take 500).length → (decD ll (n + 1) x0 i0).take 500 = (decR ll n x0 i0 k).take 500 := fun h1 h2 => by
              obtain ⟨t, ht⟩ := decR_app ll n x0 i0 k (ll.length - i0 - k)
              rw [show k + (ll.length - i0 - k) = ll.length - i0 by omega] at ht
              rw [HE.out, ht, tk500_full h2]
            have hlen5 : ((decR ll n x0 i0 k).take 500).length ≤ 500 := by rw [List.length_take]; omega
            obtain ⟨I, hI⟩ : ∃ I, i0 + k = I := ⟨_, rfl⟩
            rw [hI] at hdR ⊢
            have HII := Lib.hid hI
            obtain ⟨OA, oc, hoe, _⟩ := hO.form2
            subst hoe
            obtain ⟨N, hN⟩ : ∃ N, ((decR ll n x0 i0 k).take 500).length = N := ⟨_, rfl⟩
            rw [hN] at hlen5 happ hO ⊢
            have HN := Lib.hid hN
            clear hI hN
            by_cases hlt2 : I < ll.length
            · by_cases hN5 : N < 500
              · have hN5d : decide ((N : Int) < 500) = true := decide_eq_true (by omega)
                obtain ⟨br, orr, r, RA, rc, hue, hbr, HR, cr, hr⟩ := SlII.at_ hu hlt2
                subst hue
                have hrv := hll.2 r (List.mem_of_getElem? HR.out)
                have hgr : ll.getD I [] = r := by rw [List.getD_eq_getElem?_getD, HR.out]; rfl
                have hdC : decC ll (decD ll n) x0 I = if nnL (subL x0 r) = true then (decD ll n (subL x0 r) I).map (fun l => (I : Int) :: l) else [] := by rw [decC, hgr]
                have hsu := subL_sum x0 r (by rw [hxv.1, hrv.1])
                have hnv := nnV_sub hxv hrv.1 hrv.2.1
                have HRL := Lib.hid hrv.1
                have hr2 := hrv.2.1
                have hyl := subL_length hxv.1 hrv.1
                have hrs := hrv.2.2
                clear hgr hrv
                have hy0 : OwnI (wa.alloc (.cells #[] 3)) wa.heap.size (.slice (some ⟨wa.heap.size, 0, none⟩) 0 0) (subL (x0.take 0) (r.take 0)) := OwnI.made 3 rfl (Nat.le_refl _)
                have hb0 := below_alloc wa (.cells #[] 3)
                go_wp2
                go_loopw [11, 12, 13] (fun vy vf vv w' => ∃ j : Nat, j ≤ x0.length ∧ vv = .int .i64 j ∧ vf = .bool (nnL (subL (x0.take j) (r.take j))) ∧ OwnI w' wa.heap.size vy (subL (x0.take j) (r.take j)) ∧ Below wa.heap.size wa w') (fun _ _ vv _ => x0.length - (intOf vv).toNat)
                case atStart => exact ⟨0, Nat.zero_le _, rfl, rfl, hy0, hb0⟩
                case round =>
                  clear hy0 hb0
                  obtain ⟨j, hj, rfl, rfl, hy, hbj⟩ := hrel
                  obtain ⟨wb, hwb⟩ : ∃ z, z = wr := ⟨_, rfl⟩
                  subst hwb
                  have hsj := hbj.size
                  have hbx := hB.trans (hbj.mono hsB)
                  by_cases hlt3 : j < x0.length
                  · obtain ⟨bx, ox, a, rfl, hbx1, HX, cx, hxa⟩ := SlI.at_ hxr hlt3
                    have hjr : j < r.length := by have := HXL.out; have := HRL.out; omega
                    obtain ⟨bq, oq, b, rfl, hbq1, HB, cb, hba⟩ := SlI.at_ hr hjr
                    have ra := hxs a (List.mem_of_getElem? HX.out)
                    have rb := hr2 b (List.mem_of_getElem? HB.out)
                    have hsn := subL_snoc HX.out HB.out
                    have hnn : nnL (subL (x0.take (j + 1)) (r.take (j + 1))) = (nnL (subL (x0.take j) (r.take j)) && decide (0 ≤ a - b)) := by rw [hsn, nnL, nnL, List.all_append]; simp
                    have hsl : (subL (x0.take j) (r.take j)).length = j := subL_length (by rw [List.length_take]; omega) (by rw [List.length_take]; omega)
                    obtain ⟨D, hD⟩ : ∃ D, a - b = D := ⟨_, rfl⟩
                    have hDr : -100000 ≤ D ∧ D ≤ 100000 := by omega
                    rw [hD] at hsn hnn
                    have cx2 := bcell hbx hbx1 cx
                    have cb2 := bcell hbx hbq1 cb
                    have cr2 := bcell hbx hbr cr
                    obtain ⟨S, hS⟩ : ∃ S, subL (x0.take j) (r.take j) = S := ⟨_, rfl⟩
                    rw [hS] at hy hsn hnn hsl ⊢
                    have HSN := Lib.hid hsn
                    obtain ⟨YA, yc, hye, _, _⟩ := hy.form
                    subst hye
                    rw [hsl] at hy ⊢
                    have HSL := Lib.hid hsl
                    obtain ⟨S2, hS2⟩ : ∃ S2, subL (x0.take (j + 1)) (r.take (j + 1)) = S2 := ⟨_, rfl⟩
                    rw [hS2] at HSN hnn
                    have HS2 := Lib.hid hS2
                    have HNN := Lib.hid hnn
                    obtain ⟨F, hF⟩ : ∃ F, nnL S = F := ⟨_, rfl⟩
                    rw [hF] at HNN ⊢
                    clear hS hsn hsl hS2 hnn hF cx cb hr hxr
                    go_wp2_with fail
                    refine wp_region_net (by kernel_rfl) [.eq (.slice YA j yc), .eq (.slice (some ⟨bx, ox, none⟩) x0.length xc), .eq (.int .i64 j), .eq (.pointer (some ⟨bx, ox + j, none⟩)), .eq (.int .i64 a), .eq (.slice (some ⟨br, orr, none⟩) ll.length uc), .eq (.int .i64 I), .eq (.pointer (some ⟨br, orr + I, none⟩)), .eq (.slice (some ⟨bq, oq, none⟩) r.length rc), .eq (.int .i64 j), .eq (.pointer (some ⟨bq, oq + j, none⟩)), .eq (.int .i64 b), .eq (.int .i64 D), rel 13 (fun u lo hi w => ∃ g, u = .slice (some ⟨g, 0, none⟩) 1 1 ∧ SlI w w.heap.size u [D])] [[], [], [], [1, 2], [1, 2, 3], [], [], [5, 6], [5, 6, 7], [], [5, 6, 7, 8, 9], [5, 6, 7, 8, 9, 10], [1, 2, 3, 4, 5, 6, 7, 8, 9, 10, 11], [1, 2, 3, 4, 5, 6, 7, 8, 9, 10, 11, 12], [0, 1, 2, 3, 4, 5, 6, 7, 8, 9, 10, 11, 12, 13], [0, 1, 2, 3, 4, 5, 6, 7, 8, 9, 10, 11, 12, 13, 14]] 14 (by kernel_rfl) ⟨trivial, trivial, trivial, trivial, trivial, trivial, trivial, trivial, trivial, trivial, trivial, trivial, trivial, rel_stable (fun u lo hi w w' ⟨g, e, h⟩ hb => ⟨g, e, SlI.next hb h⟩), trivial⟩ ⟨?_, ?_, ?_, ?_, ?_, ?_, ?_, ?_, ?_, ?_, ?_, ?_, ?_, ?_, trivial⟩ ?_
                    · intro x w hb hk Q' hQ
                      clear hk
                      simp only [netAct, dstAt, List.getElem?_toArray, List.getElem?_cons_zero, List.getElem?_cons_succ, Option.bind_some, Act.put, List.setIfInBounds_toArray, List.set_cons_zero, List.set_cons_succ] at hQ ⊢
                      go_wp2
                      exact hQ (.slice YA j yc) _ (Below.refl _ _) rfl
                    · intro x w hb hk Q' hQ
                      clear hk
                      simp only [netAct, dstAt, List.getElem?_toArray, List.getElem?_cons_zero, List.getElem?_cons_succ, Option.bind_some, Act.put, List.setIfInBounds_toArray, List.set_cons_zero, List.set_cons_succ] at hQ ⊢
                      go_wp2
                      exact hQ (.slice (some ⟨bx, ox, none⟩) x0.length xc) _ (Below.refl _ _) rfl
                    · intro x w hb hk Q' hQ
                      clear hk
                      simp only [netAct, dstAt, List.getElem?_toArray, List.getElem?_cons_zero, List.getElem?_cons_succ, Option.bind_some, Act.put, List.setIfInBounds_toArray, List.set_cons_zero, List.set_cons_succ] at hQ ⊢
                      go_wp2
                      exact hQ (.int .i64 j) _ (Below.refl _ _) rfl
                    · intro x w hb hk Q' hQ
                      have h1 : x.v 1 = .slice (some ⟨bx, ox, none⟩) x0.length xc := (hk 1 (by decide)).1
                      have h2 : x.v 2 = .int .i64 j := (hk 2 (by decide)).1
                      clear hk
                      simp only [netAct, dstAt, List.getElem?_toArray, List.getElem?_cons_zero, List.getElem?_cons_succ, Option.bind_some, Act.put, List.setIfInBounds_toArray, List.set_cons_zero, List.set_cons_succ] at hQ ⊢
                      simp only [h1, h2] at hQ ⊢
                      clear h1 h2
                      go_wp2
                      exact hQ (.pointer (some ⟨bx, ox + j, none⟩)) _ (Below.refl _ _) rfl
                    · intro x w hb hk Q' hQ
                      have h3 : x.v 3 = .pointer (some ⟨bx, ox + j, none⟩) := (hk 3 (by decide)).1
                      clear hk
                      simp only [netAct, dstAt, List.getElem?_toArray, List.getElem?_cons_zero, List.getElem?_cons_succ, Option.bind_some, Act.put, List.setIfInBounds_toArray, List.set_cons_zero, List.set_cons_succ] at hQ ⊢
                      simp only [h3] at hQ ⊢
                      clear h3
                      have q0 := bcell hb (show bx < wb.heap.size by omega) cx2
                      go_wp2
                      exact hQ (.int .i64 a) _ (Below.refl _ _) rfl
                    · intro x w hb hk Q' hQ
                      clear hk
                      simp only [netAct, dstAt, List.getElem?_toArray, List.getElem?_cons_zero, List.getElem?_cons_succ, Option.bind_some, Act.put, List.setIfInBounds_toArray, List.set_cons_zero, List.set_cons_succ] at hQ ⊢
                      go_wp2
                      exact hQ (.slice (some ⟨br, orr, none⟩) ll.length uc) _ (Below.refl _ _) rfl
                    · intro x w hb hk Q' hQ
                      clear hk
                      simp only [netAct, dstAt, List.getElem?_toArray, List.getElem?_cons_zero, List.getElem?_cons_succ, Option.bind_some, Act.put, List.setIfInBounds_toArray, List.set_cons_zero, List.set_cons_succ] at hQ ⊢
                      go_wp2
                      exact hQ (.int .i64 I) _ (Below.refl _ _) rfl
                    · intro x w hb hk Q' hQ
                      have h5 : x.v 5 = .slice (some ⟨br, orr, none⟩) ll.length uc := (hk 5 (by decide)).1
                      have h6 : x.v 6 = .int .i64 I := (hk 6 (by decide)).1
                      clear hk
                      simp only [netAct, dstAt, List.getElem?_toArray, List.getElem?_cons_zero, List.getElem?_cons_succ, Option.bind_some, Act.put, List.setIfInBounds_toArray, List.set_cons_zero, List.set_cons_succ] at hQ ⊢
                      simp only [h5, h6] at hQ ⊢
                      clear h5 h6
                      go_wp2
                      exact hQ (.pointer (some ⟨br, orr + I, none⟩)) _ (Below.refl _ _) rfl
                    · intro x w hb hk Q' hQ
                      have h7 : x.v 7 = .pointer (some ⟨br, orr + I, none⟩) := (hk 7 (by decide)).1
                      clear hk
                      simp only [netAct, dstAt, List.getElem?_toArray, List.getElem?_cons_zero, List.getElem?_cons_succ, Option.bind_some, Act.put, List.setIfInBounds_toArray, List.set_cons_zero, List.set_cons_succ] at hQ ⊢
                      simp only [h7] at hQ ⊢
                      clear h7
                      have q0 := bcell hb (show br < wb.heap.size by omega) cr2
                      go_wp2
                      exact hQ (.slice (some ⟨bq, oq, none⟩) r.length rc) _ (Below.refl _ _) rfl
                    · intro x w hb hk Q' hQ
                      clear hk
                      simp only [netAct, dstAt, List.getElem?_toArray, List.getElem?_cons_zero, List.getElem?_cons_succ, Option.bind_some, Act.put, List.setIfInBounds_toArray, List.set_cons_zero, List.set_cons_succ] at hQ ⊢
                      go_wp2
                      exact hQ (.int .i64 j) _ (Below.refl _ _) rfl
                    · intro x w hb hk Q' hQ
                      have h8 : x.v 8 = .slice (some ⟨bq, oq, none⟩) r.length rc := (hk 8 (by decide)).1
                      have h9 : x.v 9 = .int .i64 j := (hk 9 (by decide)).1
                      clear hk
                      simp only [netAct, dstAt, List.getElem?_toArray, List.getElem?_cons_zero, List.getElem?_cons_succ, Option.bind_some, Act.put, List.setIfInBounds_toArray, List.set_cons_zero, List.set_cons_succ] at hQ ⊢
                      simp only [h8, h9] at hQ ⊢
                      clear h8 h9
                      go_wp2
                      exact hQ (.pointer (some ⟨bq, oq + j, none⟩)) _ (Below.refl _ _) rfl
                    · intro x w hb hk Q' hQ
                      have h10 : x.v 10 = .pointer (some ⟨bq, oq + j, none⟩) := (hk 10 (by decide)).1
                      clear hk
                      simp only [netAct, dstAt, List.getElem?_toArray, List.getElem?_cons_zero, List.getElem?_cons_succ, Option.bind_some, Act.put, List.setIfInBounds_toArray, List.set_cons_zero, List.set_cons_succ] at hQ ⊢
                      simp only [h10] at hQ ⊢
                      clear h10
                      have q0 := bcell hb (show bq < wb.heap.size by omega) cb2
                      go_wp2
                      exact hQ (.int .i64 b) _ (Below.refl _ _) rfl
                    · intro x w hb hk Q' hQ
                      have h4 : x.v 4 = .int .i64 a := (hk 4 (by decide)).1
                      have h11 : x.v 11 = .int .i64 b := (hk 11 (by decide)).1
                      clear hk
                      simp only [netAct, dstAt, List.getElem?_toArray, List.getElem?_cons_zero, List.getElem?_cons_succ, Option.bind_some, Act.put, List.setIfInBounds_toArray, List.set_cons_zero, List.set_cons_succ] at hQ ⊢
                      simp only [h4, h11] at hQ ⊢
                      clear h4 h11
                      go_wp2
                      exact hQ (.int .i64 D) _ (Below.refl _ _) rfl
                    · intro x w hb hk Q' hQ
                      have h1 : x.v 1 = .slice (some ⟨bx, ox, none⟩) x0.length xc := (hk 1 (by decide)).1
                      have h2 : x.v 2 = .int .i64 j := (hk 2 (by decide)).1
                      have h3 : x.v 3 = .pointer (some ⟨bx, ox + j, none⟩) := (hk 3 (by decide)).1
                      have h4 : x.v 4 = .int .i64 a := (hk 4 (by decide)).1
                      have h5 : x.v 5 = .slice (some ⟨br, orr, none⟩) ll.length uc := (hk 5 (by decide)).1
                      have h6 : x.v 6 = .int .i64 I := (hk 6 (by decide)).1
                      have h7 : x.v 7 = .pointer (some ⟨br, orr + I, none⟩) := (hk 7 (by decide)).1
                      have h8 : x.v 8 = .slice (some ⟨bq, oq, none⟩) r.length rc := (hk 8 (by decide)).1
                      have h9 : x.v 9 = .int .i64 j := (hk 9 (by decide)).1
                      have h10 : x.v 10 = .pointer (some ⟨bq, oq + j, none⟩) := (hk 10 (by decide)).1
                      have h11 : x.v 11 = .int .i64 b := (hk 11 (by decide)).1
                      have h12 : x.v 12 = .int .i64 D := (hk 12 (by decide)).1
                      clear hk
                      simp only [netAct, dstAt, List.getElem?_toArray, List.getElem?_cons_zero, List.getElem?_cons_succ, Option.bind_some, Act.put, List.setIfInBounds_toArray, List.set_cons_zero, List.set_cons_succ] at hQ ⊢
                      simp only [h1, h2, h3, h4, h5, h6, h7, h8, h9, h10, h11, h12] at hQ ⊢
                      clear h1 h2 h3 h4 h5 h6 h7 h8 h9 h10 h11 h12
                      go_wp2
                      exact hQ _ _ (below_alloc _ _) ⟨_, rfl, SlI.one w _ D ⟨by omega, by omega⟩⟩
                    · intro x w hb hk hiv hdj
                      have h0 : x.v 0 = .slice YA j yc := hk 0 (by decide)
                      have h1 : x.v 1 = .slice (some ⟨bx, ox, none⟩) x0.length xc := hk 1 (by decide)
                      have h2 : x.v 2 = .int .i64 j := hk 2 (by decide)
                      have h3 : x.v 3 = .pointer (some ⟨bx, ox + j, none⟩) := hk 3 (by decide)
                      have h4 : x.v 4 = .int .i64 a := hk 4 (by decide)
                      have h5 : x.v 5 = .slice (some ⟨br, orr, none⟩) ll.length uc := hk 5 (by decide)
                      have h6 : x.v 6 = .int .i64 I := hk 6 (by decide)
                      have h7 : x.v 7 = .pointer (some ⟨br, orr + I, none⟩) := hk 7 (by decide)
                      have h8 : x.v 8 = .slice (some ⟨bq, oq, none⟩) r.length rc := hk 8 (by decide)
                      have h9 : x.v 9 = .int .i64 j := hk 9 (by decide)
                      have h10 : x.v 10 = .pointer (some ⟨bq, oq + j, none⟩) := hk 10 (by decide)
                      have h11 : x.v 11 = .int .i64 b := hk 11 (by decide)
                      have h12 : x.v 12 = .int .i64 D := hk 12 (by decide)
                      have h13 : ∃ g, (x.v 13) = .slice (some ⟨g, 0, none⟩) 1 1 ∧ SlI w w.heap.size (x.v 13) [D] := hk 13 (by decide)
                      clear hk
                      simp only [netAct, dstAt, List.getElem?_toArray, List.getElem?_cons_zero, List.getElem?_cons_succ, Option.bind_some, Act.put, List.setIfInBounds_toArray, List.set_cons_zero, List.set_cons_succ]
                      simp only [List.drop_succ_cons, List.drop_zero, h0, h1, h2, h3, h4, h5, h6, h7, h8, h9, h10, h11, h12]
                      clear h0 h1 h2 h3 h4 h5 h6 h7 h8 h9 h10 h11 h12
                      obtain ⟨g13, e13, h1X⟩ := h13
                      rw [e13] at h1X ⊢
                      have hyw := hy.below hb
                      have hbw := hbj.trans (hb.mono hsj)
                      have hsw := hbw.size
                      clear hiv hdj hy hb hD e13
                      refine wpList_appI rfl (.tmp 53) (.tmp 66) rfl wa.heap.size w.heap.size (.slice YA j yc) S rfl hyw _ _ _ [D] rfl rfl h1X (by rw [HSL.out]; simp; omega) hsw ?_
                      intro vn w9 on hg1 hv1
                      have bn := hbw.grown hg1 hsw (fun k hk => (hyw.lt k hk).1)
                      rw [← HSN.out] at on
                      clear h1X hg1 hv1 hyw hbw
                      obtain ⟨ZA, zc, hze, _, _⟩ := on.form
                      have hzl : S2.length = j + 1 := by rw [HSN.out]; simp [HSL.out]
                      rw [hzl] at hze
                      subst hze
                      have onr := on.rd
                      have hzc : ∃ g o, ZA = some ⟨g, o, none⟩ ∧ w9.cell? ⟨g, o + j, none⟩ = some (.int .i64 D) := by
                        rw [← hzl] at onr
                        obtain ⟨g, o, z, h1, _, h3, h4, _⟩ := SlI.at_ (k := j) onr (by omega)
                        have h5 := h3.out
                        rw [HSN.out, List.getElem?_append_right (by rw [HSL.out]; omega), HSL.out, Nat.sub_self] at h5
                        simp at h5
                        subst h5
                        exact ⟨g, o, h1, h4⟩
                      obtain ⟨gz, oz, hza, cz⟩ := hzc
                      subst hza
                      clear onr hzl
                      cases F
                      · go_wp2
                        go_roundw
                        case rel => exact ⟨j + 1, by omega, by go_num, by rw [HS2.out, HNN.out]; rfl, by rw [HS2.out]; exact on, bn⟩
                        case measure => simp [intOf]; omega
                      · by_cases hab : 0 ≤ D
                        · have hd : decide (0 ≤ D) = true := decide_eq_true hab
                          go_wp2
                          go_roundw
                          case rel => exact ⟨j + 1, by omega, by go_num, by rw [HS2.out, HNN.out, hd]; rfl, by rw [HS2.out]; exact on, bn⟩
                          case measure => simp [intOf]; omega
                        · have hd : decide (0 ≤ D) = false := decide_eq_false hab
                          go_wp2
                          go_roundw
                          case rel => exact ⟨j + 1, by omega, by go_num, by rw [HS2.out, HNN.out, hd]; rfl, by rw [HS2.out]; exact on, bn⟩
                          case measure => simp [intOf]; omega
                  · have hjx : j = x0.length := by omega
                    have hjt : subL (x0.take j) (r.take j) = subL x0 r := by
                      rw [List.take_of_length_le (by omega), List.take_of_length_le (by have := HXL.out; have := HRL.out; omega)]
                    rw [hjt] at hy ⊢
                    obtain ⟨Y, hYe⟩ : ∃ Y, subL x0 r = Y := ⟨_, rfl⟩
                    rw [hYe] at hy hdC hsu hnv hyl ⊢
                    obtain ⟨YA, yc, hye, _, _⟩ := hy.form
                    subst hye
                    clear hjx hjt hYe hr
                    rcases hYn : nnL Y with _ | _
                    · have hst : Hid (decR ll n x0 i0 (k + 1) = decR ll n x0 i0 k) := by show _ = _; rw [hdR, hdC, if_neg (by rw [hYn]; simp), List.append_nil]
                      have hO2 := (hO.below hbj).wider (lo' := w0.heap.size) (hi' := wb.heap.size) (Nat.le_refl _) hsj
                      have hII := HII.out
                      clear hYn hdC hdR happ hy hbj
                      go_wp2
                      go_roundw
                      case rel => exact ⟨k + 1, .inr (by omega), by (have := HII.out; first | go_num | (congr 1; omega)), by rw [hst.out]; exact hO2, hbx⟩
                      case measure => simp [intOf]; omega
                    · have hst : Hid (decR ll n x0 i0 (k + 1) = decR ll n x0 i0 k ++ (decD ll n Y I).map (fun l => (I : Int) :: l)) := by show _ = _; rw [hdR, hdC, if_pos hYn]
                      have hYv := hnv hYn
                      have hsm := decD_sm (l := ll) n Y I
                      clear hYn hdC hdR happ hnv
                      have hI20 : I ≤ 20 := by omega
                      have hsz := IH.out (.slice (some ⟨br, orr, none⟩) ll.length uc) (.slice YA Y.length yc) Y I wb (by omega) (SlII.more hbx.size (SlII.below hbx hu)) hy.rd hYv (by omega) hI20
                      clear hyl hsu
                      go_wp2_with fail
                      refine hsz.mono ?_; rintro e w4 ⟨rv, rfl, hR, hb4⟩
                      have hO4 := (hO.below hbj).below hb4
                      have hbx4 := hbx.trans (hb4.mono hbx.size)
                      have hs4 := hb4.size
                      obtain ⟨A', hA'⟩ : ∃ A', (decR ll n x0 i0 k).take 500 = A' := ⟨_, rfl⟩
                      have hstop := fun m => sums_stop (A := decR ll n x0 i0 k) (D := decD ll n Y I) (f := fun l => (I : Int) :: l) (m := m)
                      obtain ⟨R, hRe⟩ : ∃ R, (decD ll n Y I).take 500 = R := ⟨_, rfl⟩
                      rw [hA', hRe] at hstop
                      have hRsm : ∀ l ∈ R, l.length < n ∧ ∀ a ∈ l, 0 ≤ a ∧ a < (ll.length : Int) := fun l hl => hsm l (by rw [← hRe] at hl; exact List.mem_of_mem_take hl)
                      rw [hA'] at hO4
                      rw [hRe] at hR
                      have hAN : A'.length = N := by rw [← hA']; exact HN.out
                      rw [hAN] at hstop
                      have HAN := Lib.hid hAN
                      have HRSM := Lib.hid hRsm
                      clear hRsm
                      have HST := Lib.hid hst
                      have HSTOP := Lib.hid hstop
                      obtain ⟨RB, rc2, hrve, _⟩ := hR.form2
                      subst hrve
                      have hO4' : IntssO w4 w0.heap.size w4.heap.size (.slice OA N oc) (A' ++ (R.take 0).map fun l => (I : Int) :: l) := by
                        simp only [List.take_zero, List.map_nil, List.append_nil]
                        exact hO4.wider (Nat.le_refl _) (by omega)
                      have hOb := hO4.ownHi
                      have hOb' : ∀ g, (Value.slice OA N oc).ownBlock = some g → g < wb.heap.size ∨ w4.heap.size ≤ g := fun g hg => .inl (by have := (hOb g hg).2; omega)
                      have HOB := Lib.hid hOb'
                      clear hOb'
                      clear hsm hA' hRe hAN hst hstop hO4 hO hOb hy hsz hb4 hbj
                      go_wp2
                      go_loopw [9, 15] (fun vo vi w' => ∃ m : Nat, m ≤ R.length ∧ N + m ≤ 500 ∧ vi = .int .i64 m ∧ IntssO w' w0.heap.size w'.heap.size vo (A' ++ (R.take m).map fun l => (I : Int) :: l) ∧ IntssO w' wb.heap.size w4.heap.size (.slice RB R.length rc2) R ∧ Below w0.heap.size w0 w' ∧ w4.heap.size ≤ w'.heap.size ∧ (∀ g, vo.ownBlock = some g → g < wb.heap.size ∨ w4.heap.size ≤ g)) (fun _ vi _ => R.length - (intOf vi).toNat)
                      case atStart => exact ⟨0, Nat.zero_le _, by omega, rfl, hO4', hR, hbx4, Nat.le_refl _, HOB.out⟩
                      case round =>
                        clear hO4' hR hbx4 HOB
                        obtain ⟨m, hm, hNm, rfl, hOm, hRm, hbm, hsm4, hown⟩ := hrel
                        obtain ⟨wc, hwc⟩ : ∃ z, z = wr := ⟨_, rfl⟩
                        subst hwc
                        obtain ⟨CA, cc, hce, _⟩ := hOm.form2
                        have hcl : (A' ++ (R.take m).map fun l => (I : Int) :: l).length = N + m := by rw [List.length_append, HAN.out, List.length_map, List.length_take]; omega
                        obtain ⟨T, hT⟩ : ∃ T, N + m = T := ⟨_, rfl⟩
                        rw [hT] at hcl hNm
                        rw [hcl] at hce
                        have HCL := Lib.hid hcl
                        have HT := Lib.hid hT
                        subst hce
                        clear hcl hT
                        by_cases hmR : m < R.length
                        · by_cases hNm5 : T < 500
                          · have hd5 : decide ((T : Int) < 500) = true := decide_eq_true (by omega)
                            have hsn : (R.take (m + 1)).map (fun l => (I : Int) :: l) = (R.take m).map (fun l => (I : Int) :: l) ++ [(I : Int) :: R[m]] := by rw [take_snoc (List.getElem?_eq_getElem hmR), List.map_append]; rfl
                            obtain ⟨l, hle⟩ : ∃ l, R[m] = l := ⟨_, rfl⟩
                            have hRg : R[m]? = some l := by rw [List.getElem?_eq_getElem hmR, hle]
                            rw [hle] at hsn
                            have hls := HRSM.out l (List.mem_of_getElem? hRg)
                            obtain ⟨gr, cr3, hrbe, hgr1, hgr2, hgr3, _, _⟩ := hRm.at_ (by omega)
                            injection hrbe with hrb1 _ hrb3
                            subst hrb1
                            subst hrb3
                            obtain ⟨ul, cul, oul, _⟩ := hRm.row hRg
                            obtain ⟨LA, lc, hule, _, _⟩ := oul.1.form
                            subst hule
                            have HSN2 := Lib.hid hsn
                            clear hle hRg hsn
                            have hws := hbm.size
                            obtain ⟨X1, hX1⟩ : ∃ z, wc.alloc (.cells #[.int .i64 (I : Int)] 3) = z := ⟨_, rfl⟩
                            have hI1 : OwnI X1 wc.heap.size (.slice (some ⟨wc.heap.size, 0, none⟩) 1 1) [(I : Int)] := by
                              rw [← hX1]
                              exact OwnI.newBlk (N := 1) (cs := #[.int .i64 (I : Int)]) (l := [(I : Int)]) (Nat.le_refl _) (by omega) rfl rfl (fun x hx => by simp at hx; subst hx; exact ⟨by omega, by omega⟩)
                            have b1 : Below wc.heap.size wc X1 := by rw [← hX1]; exact below_alloc _ _
                            have hl1 := SlI.next b1 oul.rd
                            have cul1 := bcell b1 hgr3 cul
                            (go_wp2_with (at_builtin; refine Hold.stop ?_)); unfold Hold
                            clear hX1
                            refine wpList_appI rfl (.tmp 95) (.tmp 99) rfl wc.heap.size X1.heap.size _ [(I : Int)] rfl hI1 _ _ _ l rfl rfl hl1 (by simp; omega) b1.size ?_
                            intro v9 w9 ho9 hg9 _
                            have b9 := b1.grown hg9 b1.size (fun j hj => (hI1.lt j hj).1)
                            obtain ⟨VA, vc, hv9, _, _⟩ := ho9.form
                            have hvl : ([(I : Int)] ++ l).length = l.length + 1 := by simp
                            rw [hvl] at hv9
                            subst hv9
                            obtain ⟨X2, hX2⟩ : ∃ z, w9.alloc (.cells #[.slice VA (l.length + 1) vc] 22) = z := ⟨_, rfl⟩
                            have b2 : Below w9.heap.size w9 X2 := by rw [← hX2]; exact below_alloc _ _
                            have cX : X2.cell? ⟨w9.heap.size, 0, none⟩ = some (.slice VA (l.length + 1) vc) := by rw [← hX2]; exact (Blk.new _ _ _).cell' (i := 0) rfl
                            have hrow := (IntsO.of_own ho9).below b2
                            have hOX := (hOm.below b9).below b2
                            have hRX := (hRm.below b9).below b2
                            have s9 := b9.size
                            have s2 := b2.size
                            have hbX := hbm.trans ((b9.mono hws).trans (b2.mono (by omega)))
                            clear ho9 hg9 hI1 hl1 cul1 b1 b2 b9 cul oul hOm hRm hbm
                            (go_wp2_with (at_builtin; refine Hold.stop ?_)); unfold Hold
                            clear hX2
                            refine wpList_appR2 rfl (.tmp 93) (.tmp 101) rfl w0.heap.size wc.heap.size wc.heap.size w9.heap.size (.slice CA T cc) _ ([(I : Int)] ++ l) rfl hOX (some ⟨w9.heap.size, 0, none⟩) 1 _ rfl ⟨_, _, rfl, cX⟩ hrow (Nat.le_refl _) s9 hws (by rw [HCL.out]; omega) (by omega) s2 ?_
                            intro v' w' hA' hb' hg' hv'
                            have hR' := hRX.grownFar hg' hown
                            have hB' := hbX.trans hb'
                            have hs' := hb'.size
                            have hown' : Hid (∀ g, v'.ownBlock = some g → g < wb.heap.size ∨ w4.heap.size ≤ g) := by
                              intro g hg
                              rcases hv' with e | e
                              · exact hown g (e ▸ hg)
                              · rw [e] at hg; injection hg with hg; right; omega
                            have hsz2 : w4.heap.size ≤ w'.heap.size := by have := hg'.size; omega
                            have hA2 : Hid (IntssO w' w0.heap.size w'.heap.size v' (A' ++ (R.take (m + 1)).map fun l => (I : Int) :: l)) := by
                              show IntssO _ _ _ _ _
                              rw [HSN2.out, ← List.append_assoc]; exact hA'
                            obtain ⟨DA, dc, hde, _⟩ := hA'.form2
                            have hlen' : (A' ++ (R.take m).map (fun l => (I : Int) :: l) ++ [[(I : Int)] ++ l]).length = T + 1 := by rw [List.length_append, HCL.out]; rfl
                            rw [hlen'] at hde
                            subst hde
                            clear hOX hRX hrow cX hbX hA' hb' hg' hv' hlen'
                            go_wp2
                            go_roundw
                            case rel => exact ⟨m + 1, by omega, by have := HT.out; omega, by go_num, hA2.out, hR', hB', hsz2, hown'.out⟩
                            case measure => simp [intOf]; omega
                          · have hd5 : decide ((T : Int) < 500) = false := decide_eq_false (by omega)
                            have hfin := Lib.hid (HSTOP.out m hm (by have := HT.out; omega) (.inr (by have := HT.out; omega)))
                            go_wp2
                            go_roundw
                            case rel => exact ⟨k + 1, .inr (by have := HII.out; omega), by (have := HII.out; first | go_num | (congr 1; omega)), by rw [HST.out, ← hfin.out]; exact hOm, hbm⟩
                            case measure => simp [intOf]; omega
                        · have hfin := Lib.hid (HSTOP.out m hm (by have := HT.out; omega) (.inl (by omega)))
                          go_wp2
                          go_roundw
                          case rel => exact ⟨k + 1, .inr (by have := HII.out; omega), by (have := HII.out; first | go_num | (congr 1; omega)), by rw [HST.out, ← hfin.out]; exact hOm, hbm⟩
                          case measure => simp [intOf]; omega
              · have hd5 : decide ((N : Int) < 500) = false := decide_eq_false (by omega)
                have hfin := Lib.hid (happ (by have := HII.out; omega) (by omega))
                clear happ hdR
                go_wp2
                go_ret
                exact ⟨_, rfl, by rw [hfin.out]; exact hO, hB⟩
            · have hfin : Hid ((decD ll (n + 1) x0 i0).take 500 = (decR ll n x0 i0 k).take 500) := by
                show _ = _
                rw [HE.out, show ll.length - i0 = k by have := HII.out; omega]
              clear happ hdR
              go_wp2
              go_ret
              exact ⟨_, rfl, by rw [hfin.out]; exact hO, hB⟩
        · have HE := Lib.hid (hz hZ)
          clear hZ hz hz2 hkl
          have hW : Hid (IntssO ((w0.alloc (.cells #[] 3)).alloc (.cells #[.slice (some ⟨w0.heap.size, 0, none⟩) 0 0] 22)) w0.heap.size ((w0.alloc (.cells #[] 3)).alloc (.cells #[.slice (some ⟨w0.heap.size, 0, none⟩) 0 0] 22)).heap.size (.slice (some ⟨w0.heap.size + 1, 0, none⟩) 1 1) [[]] ∧ Below w0.heap.size w0 ((w0.alloc (.cells #[] 3)).alloc (.cells #[.slice (some ⟨w0.heap.size, 0, none⟩) 0 0] 22))) := by
            have h1 : OwnI (w0.alloc (.cells #[] 3)) w0.heap.size (.slice (some ⟨w0.heap.size, 0, none⟩) 0 0) [] := OwnI.made 3 rfl (Nat.le_refl _)
            have h2 := (IntsO.of_own h1).below (below_alloc _ (.cells #[.slice (some ⟨w0.heap.size, 0, none⟩) 0 0] 22))
            have h3 : Blk ((w0.alloc (.cells #[] 3)).alloc (.cells #[.slice (some ⟨w0.heap.size, 0, none⟩) 0 0] 22)) (w0.heap.size + 1) 22 #[.slice (some ⟨w0.heap.size, 0, none⟩) 0 0] := by
              have := Blk.new (w0.alloc (.cells #[] 3)) 22 #[.slice (some ⟨w0.heap.size, 0, none⟩) 0 0]
              simpa only [World.size_alloc] using this
            exact ⟨IntssO.one h2 h3 (by simp) (by simp) (by simp) (by simp), ((Below.refl _ _).alloc (Nat.le_refl _) _).alloc (by simp) _⟩
          go_wp2
          go_ret
          exact ⟨_, rfl, by rw [HE.out]; exact hW.out.1, hW.out.2⟩
end Go.Proofs.Ytgbchoenmpoojaa

/- Sums of roots: the program's decompose. -/
namespace Go.Proofs.Ytgbchoenmpoojaa
set_option linter.unusedVariables false
set_option linter.unusedSimpArgs false
open Go.RowKit

/-- what stays: all blocks but Bo and r -/
structure Frm (Bo : Nat) (r : Option Nat) (w w' : World) : Prop where
  os : w'.os = w.os
  tape : w'.tape = w.tape
  output : w'.output = w.output
  size : w.heap.size ≤ w'.heap.size
  blk : ∀ k, k < w.heap.size → k ≠ Bo → some k ≠ r → w'.heap[k]? = w.heap[k]?
theorem Frm.refl (Bo : Nat) (r : Option Nat) (w : World) : Frm Bo r w w := ⟨rfl, rfl, rfl, Nat.le_refl _, fun _ _ _ _ => rfl⟩
theorem Frm.of_below {Bo : Nat} {r : Option Nat} {w w' : World} (h : Below w.heap.size w w') : Frm Bo r w w' := ⟨h.os, h.tape, h.output, h.size, fun k hk _ _ => h.block k hk⟩
theorem Frm.trans {Bo : Nat} {r r1 : Option Nat} {w w1 w2 : World} (h : Frm Bo r w w1) (k : Frm Bo r1 w1 w2) (hr : r1 = r ∨ ∀ g, r1 = some g → w.heap.size ≤ g) : Frm Bo r w w2 :=
  ⟨k.os.trans h.os, k.tape.trans h.tape, k.output.trans h.output, Nat.le_trans h.size k.size, fun j hj h1 h2 => (k.blk j (Nat.lt_of_lt_of_le hj h.size) h1 (fun e => by
    rcases hr with hr | hr
    · exact h2 (e.trans hr)
    · have := hr j e.symm; omega)).trans (h.blk j hj h1 h2)⟩
theorem Frm.below {Bo B : Nat} {r : Option Nat} {w w' : World} (h : Frm Bo r w w') (h1 : B ≤ Bo) (h2 : ∀ g, r = some g → B ≤ g) (hs : B ≤ w.heap.size) : Below B w w' :=
  ⟨h.os, h.tape, h.output, h.size, fun k hk => h.blk k (by omega) (by omega) (fun e => by have := h2 k e.symm; omega)⟩
theorem OwnI.frm {Bo base : Nat} {r : Option Nat} {w w' : World} {v : Value} {l : List Int} (h : OwnI w base v l) (hf : Frm Bo r w w') (h1 : v.ownBlock ≠ some Bo) (h2 : v.ownBlock = none ∨ v.ownBlock ≠ r) : OwnI w' base v l := by
  refine ⟨⟨h.1.1, ?_⟩, h.2⟩
  rcases h.1.2 with h3 | ⟨g, cap, cur, rfl, hg, hh, rest⟩
  · exact .inl h3
  · refine .inr ⟨g, cap, cur, rfl, hg, (hf.blk g (Array.getElem?_eq_some_iff.1 hh).1 (fun e => h1 (by rw [← e]; rfl)) ?_).trans hh, rest⟩
    rcases h2 with h2 | h2
    · simp [Value.ownBlock] at h2
    · exact h2
theorem IntssO.ne_own {w : World} {lo hi base : Nat} {v u : Value} {ll : List (List Int)} {l : List Int} (h : IntssO w lo hi v ll) (hu : OwnI w base u l) : u.ownBlock = none ∨ u.ownBlock ≠ v.ownBlock := by
  obtain ⟨vs, h4, _, _⟩ := h
  rcases h4.1.2 with ⟨rfl, _⟩ | ⟨g, cap, cur, rfl, _, hh, _⟩
  · rcases hA : u.ownBlock with _ | x
    · exact .inl rfl
    · exact .inr (by simp [Value.ownBlock])
  · exact .inr (fun e => hu.blkne (g := g) (t := 22) (cs := cur) hh (by decide) (by rw [e]; rfl))
theorem IntssO.ne_blk {w : World} {lo hi g : Nat} {v : Value} {ll : List (List Int)} {t : TypeId} {cs : Array Value} (h : IntssO w lo hi v ll) (hb : Blk w g t cs) (ht : 22 ≠ t) : some g ≠ v.ownBlock := by
  obtain ⟨vs, h4, _, _⟩ := h
  exact h4.blkne hb ht
theorem IntssO.setBlk {w : World} {lo hi g i : Nat} {v u : Value} {ll : List (List Int)} {t : TypeId} {cs : Array Value} (h : IntssO w lo hi v ll) (hb : Blk w g t cs) (h1 : 22 ≠ t) (h2 : 3 ≠ t) : IntssO (w.setCell ⟨g, i, none⟩ u) lo hi v ll := by
  obtain ⟨vs, h4, h5, h6⟩ := h
  exact ⟨vs, h4.set hb h1 i u, h5, h6.setBlk hb h2 u⟩
theorem Frm.set {Bo i : Nat} {r : Option Nat} (w : World) (u : Value) : Frm Bo r w (w.setCell ⟨Bo, i, none⟩ u) := ⟨rfl, rfl, rfl, by simp [World.setCell], fun k _ h _ => Below.heap_setCell w ⟨Bo, i, none⟩ u k (by show k ≠ Bo; exact h)⟩
theorem Frm.grown {Bo : Nat} {r : Option Nat} {w w' : World} (h : w.grownBy w' r) : Frm Bo r w w' := ⟨h.os, h.tape, h.output, h.size, fun k hk _ h2 => h.block k hk h2⟩
/-- the first j numbers taken away -/
def subP (x r : List Int) (j : Nat) : List Int := subL (x.take j) (r.take j) ++ x.drop j
theorem subP_0 (x r : List Int) : subP x r 0 = x := by simp [subP, subL]
theorem subP_len {x r : List Int} {j : Nat} (h : x.length = r.length) (hj : j ≤ x.length) : (subP x r j).length = x.length := by
  rw [subP, List.length_append, subL_length (n := j) (by rw [List.length_take]; omega) (by rw [List.length_take]; omega), List.length_drop]; omega
theorem subP_at {x r : List Int} {j : Nat} {a : Int} (h : x.length = r.length) (ha : x[j]? = some a) : (subP x r j)[j]? = some a := by
  have hj := lt_of_some ha
  have e := subL_length (x := x.take j) (r := r.take j) (n := j) (by rw [List.length_take]; omega) (by rw [List.length_take]; omega)
  rw [subP, List.getElem?_append_right (by omega), e, Nat.sub_self, List.getElem?_drop, Nat.add_zero]; exact ha
theorem subP_step {x r : List Int} {j : Nat} {a b : Int} (h : x.length = r.length) (ha : x[j]? = some a) (hb : r[j]? = some b) : (subP x r j).set j (a - b) = subP x r (j + 1) := by
  have hj := lt_of_some ha
  have e := subL_length (x := x.take j) (r := r.take j) (n := j) (by rw [List.length_take]; omega) (by rw [List.length_take]; omega)
  have ed : x.drop j = a :: x.drop (j + 1) := by
    rw [List.drop_eq_getElem_cons hj]; congr 1
    rw [List.getElem?_eq_getElem hj] at ha; injection ha
  rw [subP, subP, subL_snoc ha hb, ed, List.append_assoc, List.set_append_right _ _ (by omega), e, Nat.sub_self]
  rfl
theorem subP_full {x r : List Int} (h : x.length = r.length) : subP x r x.length = subL x r := by
  rw [subP, List.take_of_length_le (Nat.le_refl _), List.take_of_length_le (by omega), List.drop_of_length_le (Nat.le_refl _), List.append_nil]

set_option maxRecDepth 100000 in
set_option maxHeartbeats 6400000 in
theorem decompose_any (V : Nat) (hV1 : 1 ≤ V) (hV : V ≤ 5) (ll : List (List Int)) (hll : rtV V ll) (B0 Bo : Nat) (hBo : B0 ≤ Bo) : ∀ (n : Nat) (u xv tv v : Value) (x0 tk : List Int) (out : List (List Int)) (i0 : Nat) (w0 : World), n + tk.length ≤ 1000000 →
    SlII w0 B0 u ll → OwnI w0 B0 xv x0 → OwnI w0 B0 tv tk → nnV V x0 → x0.sum < n → i0 ≤ 20 → Blk w0 Bo 36 #[v] → IntssO w0 B0 w0.heap.size v out → out.length ≤ 500 → B0 ≤ w0.heap.size →
    Calls Try.prog 74 #[u, .int .i64 i0, xv, tv, .pointer (some ⟨Bo, 0, none⟩)] w0 fun e w' => e = .returned (.tuple #[]) ∧ ∃ v', Blk w' Bo 36 #[v'] ∧
      IntssO w' B0 w'.heap.size v' ((out ++ (decD ll n x0 i0).map fun r => tk ++ r).take 500) ∧ Frm Bo v.ownBlock w0 w' ∧ (v'.ownBlock = v.ownBlock ∨ ∀ g, v'.ownBlock = some g → w0.heap.size ≤ g) := by
  intro n
  induction n with
  | zero => intro u xv tv v x0 tk out i0 w0 _ _ _ _ hx hs; have := sum_nn fun a ha => (hx.2 a ha).1; omega
  | succ n ih =>
    intro u xv tv v x0 tk out i0 w0 hn6 hu hxo hto hxv hsum hi0 hO hv hout hB0
    have IH := Lib.hid ih
    clear ih
    have hz := decD_zero (l := ll) (n := n) (x := x0) (i := i0)
    have hz2 := decD_rest (l := ll) (n := n) (x := x0) (i := i0)
    have hzs := zrL_sum fun a ha => (hxv.2 a ha).1
    have hsr := sum_le_nn hxv
    obtain ⟨XA, xc, rfl, _, _⟩ := hxo.form
    obtain ⟨TA, tc, rfl, _, _⟩ := hto.form
    obtain ⟨OA, oc, rfl, _⟩ := hv.form2
    obtain ⟨N, hN⟩ : ∃ N, out.length = N := ⟨_, rfl⟩
    rw [hN] at hv hO hout ⊢
    have HN := Lib.hid hN
    clear hN
    have hOl := hO.lt
    have hSum := sumOf_any _ x0 w0 hxo.rd
    rw [sumW_of (x := x0) (fun a ha => by have := hxv.2 a ha; omega) (by have := hxv.1; omega)] at hSum
    obtain ⟨S, hS⟩ : ∃ S, x0.sum = S := ⟨_, rfl⟩
    rw [hS] at hsum hzs hsr hSum
    have HS := Lib.hid hS
    clear hS
    by_cases hS0 : S = 0
    · subst hS0
      clear HS
      have HE := Lib.hid (hz (by rw [hzs]; rfl))
      clear hz hz2 hzs
      have d0 := hO.cell' (i := 0) rfl
      by_cases hN5 : N < 500
      · have hN5d : decide ((N : Int) < 500) = true := decide_eq_true (by omega)
        have htr := hto.rd
        go_enter Try.func74, Try.ntmps74
        go_wp2_with fail
        refine hSum.mono ?_; rintro e w1 ⟨rfl, hw1⟩
        replace hw1 := hw1.symm
        subst hw1
        clear hSum
        go_wp2_with fail
        clear d0
        refine wp_region_net2 (by kernel_rfl) [.eq (.pointer (some ⟨Bo, 0, none⟩)), .eq (.pointer (some ⟨Bo, 0, none⟩)), .eq (.pointer (some ⟨Bo, 0, none⟩)), .eq (.slice OA N oc), .eq (.slice TA tk.length tc), rel 5 (fun u lo hi w => IntsO w lo hi u tk), .rel (fun x w => ∃ g, x.v 6 = .slice (some ⟨g, 0, none⟩) 1 1 ∧ w.cell? ⟨g, 0, none⟩ = some (x.v 5) ∧ g < w.heap.size)] [[], [], [1], [1, 2], [], [4], [4, 5], [1, 2, 3, 4, 5, 6], [0, 1, 2, 3, 4, 5, 6, 7], [0, 1, 2, 3, 4, 5, 6, 7, 8]] 7 0 [1, 2, 3, 4, 5, 6] (by kernel_rfl) rfl ⟨trivial, trivial, trivial, trivial, trivial, rel_stable (fun u lo hi w w' h hb => h.below hb), fun x w w' ⟨g, e, h, hl⟩ hb => ⟨g, e, bcell hb hl h, Nat.lt_of_lt_of_le hl hb.size⟩, trivial⟩ ⟨?_, ?_, ?_, ?_, ?_, ?_, ?_, trivial⟩ ?_ ?_
        · intro x w hb hk Q' hQ
          clear hk
          simp only [netAct, dstAt, List.getElem?_toArray, List.getElem?_cons_zero, List.getElem?_cons_succ, Option.bind_some, Act.put, List.setIfInBounds_toArray, List.set_cons_zero, List.set_cons_succ] at hQ ⊢
          go_wp2
          exact hQ (.pointer (some ⟨Bo, 0, none⟩)) _ (Below.refl _ _) rfl
        · intro x w hb hk Q' hQ
          clear hk
          simp only [netAct, dstAt, List.getElem?_toArray, List.getElem?_cons_zero, List.getElem?_cons_succ, Option.bind_some, Act.put, List.setIfInBounds_toArray, List.set_cons_zero, List.set_cons_succ] at hQ ⊢
          go_wp2
          exact hQ (.pointer (some ⟨Bo, 0, none⟩)) _ (Below.refl _ _) rfl
        · intro x w hb hk Q' hQ
          have h1 : x.v 1 = .pointer (some ⟨Bo, 0, none⟩) := (hk 1 (by decide)).1
          clear hk
          simp only [netAct, dstAt, List.getElem?_toArray, List.getElem?_cons_zero, List.getElem?_cons_succ, Option.bind_some, Act.put, List.setIfInBounds_toArray, List.set_cons_zero, List.set_cons_succ] at hQ ⊢
          simp only [h1] at hQ ⊢
          clear h1
          go_wp2
          exact hQ (.pointer (some ⟨Bo, 0, none⟩)) _ (Below.refl _ _) rfl
        · intro x w hb hk Q' hQ
          have h2 : x.v 2 = .pointer (some ⟨Bo, 0, none⟩) := (hk 2 (by decide)).1
          clear hk
          simp only [netAct, dstAt, List.getElem?_toArray, List.getElem?_cons_zero, List.getElem?_cons_succ, Option.bind_some, Act.put, List.setIfInBounds_toArray, List.set_cons_zero, List.set_cons_succ] at hQ ⊢
          simp only [h2] at hQ ⊢
          clear h2
          have q0 := (hO.call hb).cell' (i := 0) rfl
          go_wp2
          exact hQ (.slice OA N oc) _ (Below.refl _ _) rfl
        · intro x w hb hk Q' hQ
          clear hk
          simp only [netAct, dstAt, List.getElem?_toArray, List.getElem?_cons_zero, List.getElem?_cons_succ, Option.bind_some, Act.put, List.setIfInBounds_toArray, List.set_cons_zero, List.set_cons_succ] at hQ ⊢
          go_wp2
          exact hQ (.slice TA tk.length tc) _ (Below.refl _ _) rfl
        · intro x w hb hk Q' hQ
          have h4 : x.v 4 = .slice TA tk.length tc := (hk 4 (by decide)).1
          clear hk
          simp only [netAct, dstAt, List.getElem?_toArray, List.getElem?_cons_zero, List.getElem?_cons_succ, Option.bind_some, Act.put, List.setIfInBounds_toArray, List.set_cons_zero, List.set_cons_succ] at hQ ⊢
          simp only [h4] at hQ ⊢
          clear h4
          go_wp2_with fail
          refine (clone_own _ tk _ (SlI.more hb.size (SlI.below hb htr))).mono ?_; rintro e w8 ⟨v8, rfl, ho8, hb8⟩
          go_wp2
          exact hQ _ _ hb8 ho8
        · intro x w hb hk Q' hQ
          have h4 : x.v 4 = .slice TA tk.length tc := (hk 4 (by decide)).1
          have h5 : IntsO w (x.lo 5) (x.hi 5) (x.v 5) tk := (hk 5 (by decide)).1
          have s5 := (hk 5 (by decide)).2
          clear hk
          simp only [netAct, dstAt, List.getElem?_toArray, List.getElem?_cons_zero, List.getElem?_cons_succ, Option.bind_some, Act.put, List.setIfInBounds_toArray, List.set_cons_zero, List.set_cons_succ] at hQ ⊢
          simp only [h4] at hQ ⊢
          clear h4
          obtain ⟨Aq, cq, e2, _, _⟩ := h5.1.form
          rw [e2] at h5 hQ ⊢
          go_wp2
          exact hQ _ _ (below_alloc _ _) ⟨_, rfl, by simp [restr, Gh.set, e2], by simp⟩
        · intro x w hb hk hiv hdj
          have h0 : x.v 0 = .pointer (some ⟨Bo, 0, none⟩) := hk 0 (by decide)
          have h1 : x.v 1 = .pointer (some ⟨Bo, 0, none⟩) := hk 1 (by decide)
          have h2 : x.v 2 = .pointer (some ⟨Bo, 0, none⟩) := hk 2 (by decide)
          have h3 : x.v 3 = .slice OA N oc := hk 3 (by decide)
          have h4 : x.v 4 = .slice TA tk.length tc := hk 4 (by decide)
          have h5 : IntsO w (x.lo 5) (x.hi 5) (x.v 5) tk := hk 5 (by decide)
          have h6 : ∃ g, x.v 6 = .slice (some ⟨g, 0, none⟩) 1 1 ∧ w.cell? ⟨g, 0, none⟩ = some (x.v 5) ∧ g < w.heap.size := hk 6 (by decide)
          clear hk
          simp only [netAct, dstAt, List.getElem?_toArray, List.getElem?_cons_zero, List.getElem?_cons_succ, Option.bind_some, Act.put, List.setIfInBounds_toArray, List.set_cons_zero, List.set_cons_succ]
          simp only [List.drop_succ_cons, List.drop_zero, h0, h1, h2, h3, h4]
          clear h0 h1 h2 h3 h4
          obtain ⟨g6, e6, c6, l6⟩ := h6
          have i5 := hiv 5 (by decide)
          obtain ⟨A5, c5, e5, _, _⟩ := h5.1.form
          rw [e6]
          rw [e5] at c6 h5
          have hOw := hO.call hb
          have hvw := hv.below hb
          have hbz := hb.size
          have hF0 : Frm Bo (Value.slice OA N oc).ownBlock w0 w := Frm.of_below hb
          clear hiv hdj e6 e5 hb
          refine wpList_appR2 rfl (.tmp 25) (.tmp 28) rfl B0 w0.heap.size (x.lo 5) (x.hi 5) _ out tk rfl hvw (some ⟨g6, 0, none⟩) 1 _ rfl ⟨_, _, rfl, c6⟩ h5 (by omega) i5.2.1 (by omega) (by rw [HN.out]; omega) (by omega) i5.2.2 ?_
          intro v9 w9 ho9 hb9 hg9 hv9
          have hO9 := hOw.grown hg9 (hvw.ne_blk hOw (by decide))
          have d9 := hO9.cell' (i := 0) rfl
          have f9 := hO9.frozen 0
          obtain ⟨A9, c9, hve9, _⟩ := ho9.form2
          have hl9 : (out ++ [tk]).length = N + 1 := by rw [List.length_append, HN.out]; rfl
          rw [hl9] at hve9
          subst hve9
          have hfin : Hid (∃ v', Blk (w9.setCell ⟨Bo, 0, none⟩ (.slice A9 (N + 1) c9)) Bo 36 #[v'] ∧ IntssO (w9.setCell ⟨Bo, 0, none⟩ (.slice A9 (N + 1) c9)) B0 (w9.setCell ⟨Bo, 0, none⟩ (.slice A9 (N + 1) c9)).heap.size v' ((out ++ (decD ll (n + 1) x0 i0).map fun r => tk ++ r).take 500) ∧ Frm Bo (Value.slice OA N oc).ownBlock w0 (w9.setCell ⟨Bo, 0, none⟩ (.slice A9 (N + 1) c9)) ∧ (v'.ownBlock = (Value.slice OA N oc).ownBlock ∨ ∀ g, v'.ownBlock = some g → w0.heap.size ≤ g)) := by
            refine ⟨_, hO9.set_ 0 _, ?_, (hF0.trans (Frm.grown hg9) (.inl rfl)).trans (Frm.set w9 _) (.inl rfl), ?_⟩
            · rw [HE.out]
              have e : (out ++ List.map (fun r => tk ++ r) [[]]).take 500 = out ++ [tk] := by rw [List.take_of_length_le (by rw [List.length_append, HN.out]; simp; omega)]; simp
              rw [e]
              exact (ho9.setBlk hO9 (by decide) (by decide)).wider (Nat.le_refl _) (by simp [World.setCell])
            · rcases hv9 with e | e
              · exact .inl e
              · refine .inr fun g hg => ?_
                rw [e] at hg; injection hg with hg; omega
          clear hOw hvw hF0 ho9 hb9 hg9 hv9 hO9 hl9 c6 h5
          go_wp2
          (try simp only [Exit.inBlock, Exit.then])
          refine bodyPost_ret (results_none rfl _ _ _) rfl ?_
          exact ⟨rfl, hfin.out⟩
        · intro x w hb hk hiv hdj om os hom hos
          simp only [List.getElem?_cons_zero, List.getElem?_cons_succ, Option.some.injEq] at hom hos
          subst hom hos
          have h1 : x.v 1 = .pointer (some ⟨Bo, 0, none⟩) := hk 1 (by decide)
          have h2 : x.v 2 = .pointer (some ⟨Bo, 0, none⟩) := hk 2 (by decide)
          have h3 : x.v 3 = .slice OA N oc := hk 3 (by decide)
          have h4 : x.v 4 = .slice TA tk.length tc := hk 4 (by decide)
          have h5 : IntsO w (x.lo 5) (x.hi 5) (x.v 5) tk := hk 5 (by decide)
          have h6 : ∃ g, x.v 6 = .slice (some ⟨g, 0, none⟩) 1 1 ∧ w.cell? ⟨g, 0, none⟩ = some (x.v 5) ∧ g < w.heap.size := hk 6 (by decide)
          clear hk
          simp only [List.foldl_cons, List.foldl_nil, netAct, dstAt, List.getElem?_toArray, List.getElem?_cons_zero, List.getElem?_cons_succ, Option.bind_some, Act.put, List.setIfInBounds_toArray, List.set_cons_zero, List.set_cons_succ]
          simp only [List.drop_succ_cons, List.drop_zero, h1, h2, h3, h4]
          clear h1 h2 h3 h4
          obtain ⟨g6, e6, c6, l6⟩ := h6
          have i5 := hiv 5 (by decide)
          obtain ⟨A5, c5, e5, _, _⟩ := h5.1.form
          rw [e6]
          rw [e5] at c6 h5
          have hOw := hO.call hb
          have hvw := hv.below hb
          have hbz := hb.size
          have hF0 : Frm Bo (Value.slice OA N oc).ownBlock w0 w := Frm.of_below hb
          clear hiv hdj e6 e5 hb
          refine wpList_appR2 rfl (.tmp 25) (.tmp 28) rfl B0 w0.heap.size (x.lo 5) (x.hi 5) _ out tk rfl hvw (some ⟨g6, 0, none⟩) 1 _ rfl ⟨_, _, rfl, c6⟩ h5 (by omega) i5.2.1 (by omega) (by rw [HN.out]; omega) (by omega) i5.2.2 ?_
          intro v9 w9 ho9 hb9 hg9 hv9
          have hO9 := hOw.grown hg9 (hvw.ne_blk hOw (by decide))
          have d9 := hO9.cell' (i := 0) rfl
          have f9 := hO9.frozen 0
          obtain ⟨A9, c9, hve9, _⟩ := ho9.form2
          have hl9 : (out ++ [tk]).length = N + 1 := by rw [List.length_append, HN.out]; rfl
          rw [hl9] at hve9
          subst hve9
          have hfin : Hid (∃ v', Blk (w9.setCell ⟨Bo, 0, none⟩ (.slice A9 (N + 1) c9)) Bo 36 #[v'] ∧ IntssO (w9.setCell ⟨Bo, 0, none⟩ (.slice A9 (N + 1) c9)) B0 (w9.setCell ⟨Bo, 0, none⟩ (.slice A9 (N + 1) c9)).heap.size v' ((out ++ (decD ll (n + 1) x0 i0).map fun r => tk ++ r).take 500) ∧ Frm Bo (Value.slice OA N oc).ownBlock w0 (w9.setCell ⟨Bo, 0, none⟩ (.slice A9 (N + 1) c9)) ∧ (v'.ownBlock = (Value.slice OA N oc).ownBlock ∨ ∀ g, v'.ownBlock = some g → w0.heap.size ≤ g)) := by
            refine ⟨_, hO9.set_ 0 _, ?_, (hF0.trans (Frm.grown hg9) (.inl rfl)).trans (Frm.set w9 _) (.inl rfl), ?_⟩
            · rw [HE.out]
              have e : (out ++ List.map (fun r => tk ++ r) [[]]).take 500 = out ++ [tk] := by rw [List.take_of_length_le (by rw [List.length_append, HN.out]; simp; omega)]; simp
              rw [e]
              exact (ho9.setBlk hO9 (by decide) (by decide)).wider (Nat.le_refl _) (by simp [World.setCell])
            · rcases hv9 with e | e
              · exact .inl e
              · refine .inr fun g hg => ?_
                rw [e] at hg; injection hg with hg; omega
          clear hOw hvw hF0 ho9 hb9 hg9 hv9 hO9 hl9 c6 h5
          go_wp2
          (try simp only [Exit.inBlock, Exit.then])
          refine bodyPost_ret (results_none rfl _ _ _) rfl ?_
          exact ⟨rfl, hfin.out⟩
      · have hN5d : decide ((N : Int) < 500) = false := decide_eq_false (by omega)
        have hfin : Hid (∃ v', Blk w0 Bo 36 #[v'] ∧ IntssO w0 B0 w0.heap.size v' ((out ++ (decD ll (n + 1) x0 i0).map fun r => tk ++ r).take 500) ∧ Frm Bo (Value.slice OA N oc).ownBlock w0 w0 ∧ (v'.ownBlock = (Value.slice OA N oc).ownBlock ∨ ∀ g, v'.ownBlock = some g → w0.heap.size ≤ g)) := by
          refine ⟨_, hO, ?_, Frm.refl _ _ _, .inl rfl⟩
          rw [List.take_append, show 500 - out.length = 0 by rw [HN.out]; omega, List.take_zero, List.append_nil, List.take_of_length_le (by rw [HN.out]; omega)]
          exact hv
        go_enter Try.func74, Try.ntmps74
        go_wp2_with fail
        refine hSum.mono ?_; rintro e w1 ⟨rfl, hw1⟩
        replace hw1 := hw1.symm
        subst hw1
        clear hSum
        go_wp2
        (try simp only [Exit.inBlock, Exit.then])
        refine bodyPost_ret (results_none rfl _ _ _) rfl ?_
        exact ⟨rfl, hfin.out⟩
    · have hSn : ¬ S = 0 := hS0
      have hSd : (S == 0) = false := by simpa using hS0
      have HE := Lib.hid (hz2 (by rw [hzs]; exact decide_eq_false hS0))
      have hll20 := hll.1
      have HXL := Lib.hid hxv.1
      have hxs := hxv.2
      have hI0 : Hid (IntssO w0 B0 w0.heap.size (.slice OA N oc) ((out ++ (decR ll n x0 i0 0).map fun r => tk ++ r).take 500)) := by
        show IntssO _ _ _ _ _
        rw [decR_0, List.map_nil, List.append_nil, List.take_of_length_le (by rw [HN.out]; omega)]
        exact hv
      have hUf := hu.open_
      obtain ⟨UA, uc, hue, _, _, _, hu⟩ := hUf
      subst hue
      have hob := hv.ownHi
      have HOB := Lib.hid hob
      clear hz hz2 hzs hS0 hob
      go_enter Try.func74, Try.ntmps74
      go_wp2_with fail
      refine hSum.mono ?_; rintro e w1 ⟨rfl, hw1⟩
      replace hw1 := hw1.symm
      subst hw1
      clear hSum
      go_wp2
      go_loopw [10] (fun vi wr => ∃ (k : Nat) (v1 : Value), (k = 0 ∨ i0 + k ≤ ll.length) ∧ vi = .int .i64 ((i0 + k : Nat) : Int) ∧ Blk wr Bo 36 #[v1] ∧ Hid (IntssO wr B0 wr.heap.size v1 ((out ++ (decR ll n x0 i0 k).map fun r => tk ++ r).take 500) ∧ Frm Bo (Value.slice OA N oc).ownBlock w0 wr ∧ (v1.ownBlock = (Value.slice OA N oc).ownBlock ∨ ∀ g, v1.ownBlock = some g → w0.heap.size ≤ g))) (fun vi _ => ll.length - (intOf vi).toNat)
      case atStart => exact ⟨0, _, .inl rfl, by rw [Nat.add_zero], hO, ⟨hI0.out, Frm.refl _ _ _, .inl rfl⟩⟩
      case round =>
        clear hI0
        obtain ⟨k, v1, hk, rfl, hO1, HK⟩ := hrel
        obtain ⟨wa, hwa⟩ : ∃ z, z = wr := ⟨_, rfl⟩
        subst hwa
        obtain ⟨hv1, hF1, hown1⟩ := HK.out
        have hdR := decR_succ ll n x0 i0 k
        have happ : i0 + k ≤ ll.length → 500 ≤ ((out ++ (decR ll n x0 i0 k).map fun r => tk ++ r).take 500).length → (out ++ (decD ll (n + 1) x0 i0).map fun r => tk ++ r).take 500 = (out ++ (decR ll n x0 i0 k).map fun r => tk ++ r).take 500 := fun h1 h2 => by
          obtain ⟨t, ht⟩ := decR_app ll n x0 i0 k (ll.length - i0 - k)
          rw [show k + (ll.length - i0 - k) = ll.length - i0 by omega] at ht
          rw [HE.out, ht, List.map_append, ← List.append_assoc, tk500_full h2]
        have hend : ¬ i0 + k < ll.length → (out ++ (decD ll (n + 1) x0 i0).map fun r => tk ++ r).take 500 = (out ++ (decR ll n x0 i0 k).map fun r => tk ++ r).take 500 := fun h1 => by
          rw [HE.out, show ll.length - i0 = k by omega]
        obtain ⟨I, hI⟩ : ∃ I, i0 + k = I := ⟨_, rfl⟩
        rw [hI] at hdR happ hend hk ⊢
        have HII := Lib.hid hI
        obtain ⟨CA, cc, hce, _⟩ := hv1.form2
        subst hce
        have hlen5 : ((out ++ (decR ll n x0 i0 k).map fun r => tk ++ r).take 500).length ≤ 500 := by rw [List.length_take]; omega
        obtain ⟨A1, hA1⟩ : ∃ A1, (out ++ (decR ll n x0 i0 k).map fun r => tk ++ r).take 500 = A1 := ⟨_, rfl⟩
        rw [hA1] at hlen5 happ hend hv1
        obtain ⟨T, hT⟩ : ∃ T, A1.length = T := ⟨_, rfl⟩
        rw [hA1] at hO1 hown1
        rw [hT] at hlen5 happ hv1 hO1 hown1
        have HT := Lib.hid hT
        have HA1 := Lib.hid hA1
        have HK1 := Lib.hid hown1
        have d0 := hO1.cell' (i := 0) rfl
        clear hI hA1 hT HK hown1
        by_cases hlt : I < ll.length
        · by_cases hT5 : T < 500
          · have hT5d : decide ((T : Int) < 500) = true := decide_eq_true (by omega)
            obtain ⟨br, orr, r, RA, rc, hue, hbr, HR, cr, hr⟩ := SlII.at_ hu hlt
            subst hue
            have hrv := hll.2 r (List.mem_of_getElem? HR.out)
            have hgr : ll.getD I [] = r := by rw [List.getD_eq_getElem?_getD, HR.out]; rfl
            have hdC : decC ll (decD ll n) x0 I = if nnL (subL x0 r) = true then (decD ll n (subL x0 r) I).map (fun l => (I : Int) :: l) else [] := by rw [decC, hgr]
            have HSU := Lib.hid (subL_sum x0 r (by rw [hxv.1, hrv.1]))
            have hnv := nnV_sub hxv hrv.1 hrv.2.1
            have hxr : x0.length = r.length := by rw [hxv.1, hrv.1]
            have HXR := Lib.hid hxr
            have HXS := Lib.hid (show ∀ a ∈ r, 0 ≤ a ∧ a ≤ 2 from hrv.2.1)
            have hrs := hrv.2.2
            have HYL := Lib.hid (subL_length hxv.1 hrv.1)
            have hlR : 0 < r.length := by have := hrv.1; omega
            have hBa := hF1.below hBo (fun g hg => (HOB.out g hg).1) hB0
            have hsa := hF1.size
            have hxa := hxo.frm hF1 (fun e => hxo.blkne hO (by decide) e.symm) (hv.ne_own hxo)
            have hta := hto.frm hF1 (fun e => hto.blkne hO (by decide) e.symm) (hv.ne_own hto)
            have hxw := hxv.2
            clear hgr hrv hxr
            go_wp2_with fail
            refine (clone_own _ x0 _ hxa.rd).mono ?_; rintro e w1 ⟨rv, rfl, hR, hb1⟩
            obtain ⟨gr, cap, hrve, hgr1⟩ : ∃ gr cap, rv = .slice (some ⟨gr, 0, none⟩) x0.length cap ∧ wa.heap.size ≤ gr := by
              rcases hR.1.1.2 with ⟨_, h⟩ | ⟨g, cap, cur, e, hg, _⟩
              · have := HXR.out; omega
              · exact ⟨g, cap, e, hg⟩
            subst hrve
            have hR0 : OwnI w1 wa.heap.size (.slice (some ⟨gr, 0, none⟩) x0.length cap) (subP x0 r 0) := by rw [subP_0]; exact hR.1
            have cr1 := bcell (hBa.trans (hb1.mono (Nat.le_trans hB0 hsa))) hbr cr
            clear hR d0
            go_wp2
            clear cr1
            go_loopw [52] (fun vj w' => ∃ j : Nat, j ≤ r.length ∧ vj = .int .i64 j ∧ OwnI w' wa.heap.size (.slice (some ⟨gr, 0, none⟩) x0.length cap) (subP x0 r j) ∧ Below wa.heap.size wa w') (fun vj _ => r.length - (intOf vj).toNat)
            case atStart => exact ⟨0, Nat.zero_le _, rfl, hR0, hb1⟩
            case round =>
              clear hR0 hb1
              obtain ⟨j, hj, rfl, hox, hbj⟩ := hrel
              obtain ⟨wb, hwb⟩ : ∃ z, z = wr := ⟨_, rfl⟩
              subst hwb
              have hsj := hbj.size
              have hBb := hBa.trans (hbj.mono (Nat.le_trans hB0 hsa))
              by_cases hlt3 : j < r.length
              · obtain ⟨bq, oq, b, hRe, hbq1, HB, cb, hba⟩ := SlI.at_ hr hlt3
                subst hRe
                have hjx : j < x0.length := by have := HXR.out; omega
                obtain ⟨a, ha⟩ : ∃ a, x0[j] = a := ⟨_, rfl⟩
                have haj : x0[j]? = some a := by rw [List.getElem?_eq_getElem hjx, ha]
                have ra := hxw a (List.mem_of_getElem? haj)
                have rb := HXS.out b (List.mem_of_getElem? HB.out)
                have hst := subP_step HXR.out haj HB.out
                have hat := subP_at HXR.out haj
                have hpl := subP_len HXR.out (Nat.le_of_lt hjx)
                obtain ⟨D, hD⟩ : ∃ D, a - b = D := ⟨_, rfl⟩
                have hDr : -100000 ≤ D ∧ D ≤ 100000 := by omega
                rw [hD] at hst
                have cb2 := bcell hBb hbq1 cb
                have x0c := (hox.cellG (j := j) (by rw [hpl]; exact hjx)).1
                rw [List.getD_eq_getElem?_getD, hat, Option.getD_some] at x0c
                have xf := hox.frozenG j
                have hp := (hox.put (j := j) (x := D) ⟨by omega, by omega⟩).1
                rw [hst] at hp
                have HP := Lib.hid hp
                have HB2 := Lib.hid (hbj.setCell (p := ⟨gr, j, none⟩) hgr1 (.int .i64 D))
                clear ha haj hst hat hpl hox hp cb hr hbj
                go_wp2
                go_roundw
                case rel => exact ⟨j + 1, by omega, by go_num, HP.out, HB2.out⟩
                case measure => simp [intOf]; omega
              · have hjx : j = r.length := by omega
                have hfull : subP x0 r j = subL x0 r := by rw [hjx, ← HXR.out]; exact subP_full HXR.out
                rw [hfull] at hox
                obtain ⟨Y, hYe⟩ : ∃ Y, subL x0 r = Y := ⟨_, rfl⟩
                have hyl := HYL.out
                have hsu := HSU.out
                have hSx := HS.out
                rw [hYe] at hox hdC hsu hnv hyl
                have hY0 : Y ≠ [] := by rintro rfl; simp at hyl; omega
                have hMn := minL_nn hY0
                have hMin := sliceMin_any (.slice (some ⟨gr, 0, none⟩) x0.length cap) Y wb hox.rd (List.length_pos_iff.2 hY0) (fun a ha => by
                  rw [← hYe, subL, List.mem_iff_getElem] at ha
                  obtain ⟨i, hi, rfl⟩ := ha
                  have h1 : i < x0.length := by simp at hi; omega
                  have h2 : i < r.length := by simp at hi; omega
                  have := hxw _ (List.getElem_mem h1)
                  have := HXS.out _ (List.getElem_mem h2)
                  simp only [List.getElem_zipWith]
                  omega)
                obtain ⟨M, hM⟩ : ∃ M, minL Y = M := ⟨_, rfl⟩
                rw [hM] at hMn hMin
                have hYs : Y.sum < n := by omega
                have hvb := (hv1.below hbj).wider (lo' := B0) (hi' := wb.heap.size) (Nat.le_refl _) hsj
                have hOb := hO1.call hbj
                have hFb : Frm Bo (Value.slice OA N oc).ownBlock w0 wb := hF1.trans (Frm.of_below (r := (Value.slice OA N oc).ownBlock) hbj) (.inl rfl)
                clear hjx hfull hYe hM hY0 hr hyl hsu hSx
                rcases hYn : nnL Y with _ | _
                · have hst : Hid (decR ll n x0 i0 (k + 1) = decR ll n x0 i0 k) := by show _ = _; rw [hdR, hdC, if_neg (by rw [hYn]; simp), List.append_nil]
                  rw [hYn] at hMn
                  have hM0 : ¬ 0 ≤ M := of_decide_eq_false hMn
                  clear hYn hdC hdR happ hend hnv
                  go_wp2_with fail
                  refine hMin.mono ?_; rintro e w2 ⟨rfl, hw2⟩
                  replace hw2 := hw2.symm
                  subst hw2
                  clear hMin
                  go_wp2
                  go_roundw
                  case rel => exact ⟨k + 1, _, .inr (by have := HII.out; omega), by (have := HII.out; first | go_num | (congr 1; omega)), hOb, ⟨by rw [hst.out, HA1.out]; exact hvb, hFb, HK1.out⟩⟩
                  case measure => simp [intOf]; omega
                · have hst : Hid (decR ll n x0 i0 (k + 1) = decR ll n x0 i0 k ++ (decD ll n Y I).map (fun l => (I : Int) :: l)) := by show _ = _; rw [hdR, hdC, if_pos hYn]
                  have hYv := hnv hYn
                  rw [hYn] at hMn
                  have hM0 : 0 ≤ M := of_decide_eq_true hMn
                  have hM1 : decide (0 ≤ M) = true := hMn
                  have hI20 : I ≤ 20 := by omega
                  have hRL : OwnI wb B0 (.slice (some ⟨gr, 0, none⟩) x0.length cap) Y := hox.lower (Nat.le_trans hB0 hsa)
                  have htb := hta.below hbj
                  clear hYn hdC hdR happ hend hnv hMn hox hta hxa
                  go_wp2_with fail
                  refine hMin.mono ?_; rintro e w2 ⟨rfl, hw2⟩
                  replace hw2 := hw2.symm
                  subst hw2
                  clear hMin
                  go_wp2_with fail
                  refine (clone_own _ tk _ htb.rd).mono ?_; rintro e w3 ⟨tv2, rfl, hT2, hb3⟩
                  obtain ⟨X, hX⟩ : ∃ z, w3.alloc (.cells #[.int .i64 (I : Int)] 3) = z := ⟨_, rfl⟩
                  have hTX : OwnI X wb.heap.size tv2 tk := by rw [← hX]; exact hT2.1.alloc _
                  have h1X : SlI X X.heap.size (.slice (some ⟨w3.heap.size, 0, none⟩) 1 1) [(I : Int)] := by rw [← hX]; exact SlI.one w3 _ _ ⟨by omega, by omega⟩
                  have bX : Below wb.heap.size wb X := by rw [← hX]; exact hb3.alloc hb3.size _
                  obtain ⟨T2, t2c, ht2e, _, _⟩ := hTX.form
                  subst ht2e
                  clear hT2 hb3
                  (go_wp2_with (at_builtin; refine Hold.stop ?_)); unfold Hold
                  clear hX
                  refine wpList_appI rfl (.tmp 72) (.tmp 74) rfl wb.heap.size X.heap.size _ tk rfl hTX _ _ _ [(I : Int)] rfl rfl h1X (by simp; omega) bX.size ?_
                  intro v4 w4 ho4 hg4 _
                  have b4 := bX.grown hg4 bX.size (fun j hj => (hTX.lt j hj).1)
                  have s4 := b4.size
                  have hB4 := hBb.trans (b4.mono (Nat.le_trans (Nat.le_trans hB0 hsa) hsj))
                  have hcall := IH.out (.slice (some ⟨br, orr, none⟩) ll.length uc) (.slice (some ⟨gr, 0, none⟩) x0.length cap) v4 (.slice CA T cc) Y (tk ++ [(I : Int)]) A1 I w4 (by simp; omega) (SlII.below hB4 hu) (hRL.below b4) (ho4.lower (by omega)) hYv (by omega) hI20 (hOb.call b4) ((hvb.below b4).wider (Nat.le_refl _) s4) (by rw [HT.out]; omega) (by omega)
                  obtain ⟨T4, t4c, ht4e, _, _⟩ := ho4.form
                  rw [show (tk ++ [(I : Int)]).length = tk.length + 1 by simp] at ht4e
                  have hF4 : Frm Bo (Value.slice OA N oc).ownBlock w0 w4 := hFb.trans (Frm.of_below (r := (Value.slice OA N oc).ownBlock) b4) (.inl rfl)
                  have hlist : Hid ((A1 ++ (decD ll n Y I).map fun r => tk ++ [(I : Int)] ++ r).take 500 = (out ++ (decR ll n x0 i0 (k + 1)).map fun r => tk ++ r).take 500) := by
                    show _ = _
                    rw [hst.out, List.map_append, ← List.append_assoc, ← tk500 (out ++ _), HA1.out, List.map_map]
                    congr 2
                    apply List.map_congr_left
                    intro l _
                    simp
                  have hs0 := hF4.size
                  clear ho4 hg4 hTX h1X bX hRL htb hvb hOb hFb hB4 hBb hbj b4
                  subst ht4e
                  go_wp2_with fail
                  refine hcall.mono ?_; rintro e w5 ⟨rfl, v5, hO5, hv5, hF5, hown5⟩
                  have hF6 := hF4.trans hF5 HK1.out
                  have hown6 : v5.ownBlock = (Value.slice OA N oc).ownBlock ∨ ∀ g, v5.ownBlock = some g → w0.heap.size ≤ g := by
                    rcases hown5 with e | e
                    · rw [e]; exact HK1.out
                    · exact .inr fun g hg => Nat.le_trans hs0 (e g hg)
                  rw [hlist.out] at hv5
                  have HV5 := Lib.hid hv5
                  have HO6 := Lib.hid hown6
                  clear hcall hF5 hown5 hv5 hown6
                  go_wp2
                  go_roundw
                  case rel => exact ⟨k + 1, v5, .inr (by have := HII.out; omega), by (have := HII.out; first | go_num | (congr 1; omega)), hO5, ⟨HV5.out, hF6, HO6.out⟩⟩
                  case measure => simp [intOf]; omega
          · have hT5d : decide ((T : Int) < 500) = false := decide_eq_false (by omega)
            have hfin := Lib.hid (happ (by omega) (by omega))
            clear happ hend hdR
            go_wp2
            go_end0
            exact ⟨rfl, _, hO1, by rw [hfin.out]; exact hv1, hF1, HK1.out⟩
        · have hfin := Lib.hid (hend hlt)
          clear happ hend hdR
          go_wp2
          go_end0
          exact ⟨rfl, _, hO1, by rw [hfin.out]; exact hv1, hF1, HK1.out⟩
end Go.Proofs.Ytgbchoenmpoojaa

/- RootDecompositions, CountRootDecompositions: both sides. -/
namespace Go.Proofs.Ytgbchoenmpoojaa
set_option linter.unusedVariables false
set_option linter.unusedSimpArgs false
open Go.RowKit

def rdQ (q : Qv) (x : List Int) : List (List Int) × Bool := if (rtsA q).2 = true ∧ areDims q x = true then ((decD (rtsA q).1 (x.sum.toNat + 1) x 0).take 500, true) else ([], false)
def crdQ (q : Qv) (x : List Int) : Int := if (rdQ q x).2 = true then ((rdQ q x).1.length : Int) else -1
theorem sum_zero {x : List Int} (h : ∀ a ∈ x, 0 ≤ a) (hs : x.sum = 0) : ∀ a ∈ x, a = 0 := by
  have := zrL_sum h
  rw [decide_eq_true hs] at this
  simpa [zrL] using this
theorem isRt.sum1 {q : Qv} (hk : kindQ q = 1) {x : List Int} (h : isRt q x) : 1 ≤ x.sum := by
  have hnn : ∀ a ∈ x, 0 ≤ a := fun a ha => (h.le hk a ha).1
  have h0 := sum_nn hnn
  rcases Int.lt_or_eq_of_le h0 with h1 | h1
  · omega
  · exfalso
    have hz := sum_zero hnn h1.symm
    have hvz : ∀ i, vx x i = 0 := fun i => by
      rw [vx, List.getD_eq_getElem?_getD]
      rcases hi : x[i]? with _ | y
      · rfl
      · exact hz y (List.mem_of_getElem? hi)
    have h2 := h.one
    have e1 : eulV x x q.v.toNat = 0 := by
      rw [eulV, sm_congr (g := fun _ => 0) _ (fun i _ => by rw [hvz i]; rfl), sm_zero]
    have e2 : eulA q x x q.f.length = 0 := by
      rw [eulA, sm_congr (g := fun _ => 0) _ (fun i _ => by rw [hvz]; simp), sm_zero]
    rw [eul, e1, e2] at h2
    omega
theorem rtsA_kind {q : Qv} (h : (rtsA q).2 = true) : kindQ q = 1 ∧ (rtsA q).1 = rtsQ q := by
  rw [rtsA] at h ⊢
  split at h
  · rename_i hk; exact ⟨hk, by rw [if_pos hk]⟩
  · cases h
theorem rtsA_V {q : Qv} (h : (rtsA q).2 = true) : rtV q.v.toNat (rtsA q).1 := by
  obtain ⟨hk, e⟩ := rtsA_kind h
  rw [e]
  exact ⟨rtsQ_len hk, fun r hr => by have := (rtsQ_mem hk).1 hr; exact ⟨this.len, this.le hk, this.sum1 hk⟩⟩
theorem areDims_nnV {q : Qv} {x : List Int} (h : areDims q x = true) : nnV q.v.toNat x ∧ 0 ≤ x.sum ∧ x.sum ≤ 8 ∧ 1 ≤ q.v ∧ q.v ≤ 5 := by
  obtain ⟨hq, hl, hr, hs⟩ := areDims_t.1 h
  have hv := (isQ_t.1 hq).1
  exact ⟨⟨by omega, fun a ha => by have := hr a ha; omega⟩, sum_nn fun a ha => (hr a ha).1, hs, hv.1, hv.2⟩
theorem rdQ_tot (q : Qv) (x : List Int) : tot (rdQ q x).1 ≤ 10000 ∧ (rdQ q x).1.length ≤ 500 := by
  rw [rdQ]
  split
  · rename_i h
    have hs := (areDims_nnV h.2).2.2.1
    have hl : ((decD (rtsA q).1 (x.sum.toNat + 1) x 0).take 500).length ≤ 500 := by rw [List.length_take]; omega
    have := tot_le (ll := (decD (rtsA q).1 (x.sum.toNat + 1) x 0).take 500) (n := 9) fun r hr => by
      have := (decD_sm _ _ _ r (List.mem_of_mem_take hr)).1; omega
    exact ⟨by show tot ((decD (rtsA q).1 (x.sum.toNat + 1) x 0).take 500) ≤ 10000; omega, hl⟩
  · simp [tot]
set_option maxRecDepth 100000 in
set_option maxHeartbeats 3200000 in
theorem specRootDecompositions_any (u xv : Value) (q : Qv) (x : List Int) (w0 : World) (hu : QvR w0 w0.heap.size u q) (hx : SlI w0 w0.heap.size xv x) :
    Calls Try.prog 38 #[u, xv] w0 fun e w' => ∃ v, e = .returned (.tuple #[v, .bool (rdQ q x).2]) ∧ IntssO w' w0.heap.size w'.heap.size v (rdQ q x).1 ∧ Below w0.heap.size w0 w' := by
  have hx' := hx
  obtain ⟨XA, xc, rfl, _⟩ := hx.open_
  clear hx
  have hdf : rdQ q x = if (rtsA q).2 = true ∧ areDims q x = true then ((decD (rtsA q).1 (x.sum.toNat + 1) x 0).take 500, true) else ([], false) := rfl
  have hu' := hu
  obtain ⟨A, c, C, d, rfl, hf, ht, hr, _⟩ := hu.open_
  clear hu hf ht
  obtain ⟨W, hW⟩ : ∃ W, W = w0.alloc (.cells #[.int .i64 q.v, .slice A q.f.length c, .slice C q.t.length d] 27) := ⟨_, rfl⟩
  have kB : Blk W w0.heap.size 27 #[.int .i64 q.v, .slice A q.f.length c, .slice C q.t.length d] := by rw [hW]; exact Blk.new _ _ _
  have g0 : Below w0.heap.size w0 W := by rw [hW]; exact below_alloc _ _
  have hq1 := QvR.next g0 hu'
  have c0 := kB.cell' (i := 0) rfl
  have c1 := kB.cell' (i := 1) rfl
  have c2 := kB.cell' (i := 2) rfl
  clear hu'
  have hx1 := SlI.next g0 hx'
  clear hx'
  rcases hB : (rtsA q).2 with _ | _
  · have HF : Hid (rdQ q x = ([], false)) := by show _ = _; rw [hdf, if_neg (by rw [hB]; simp)]
    have HB := Lib.hid hB
    clear hB hdf
    go_enter Try.func38, Try.ntmps38
    go_wp2_with fail
    rw [← hW]; clear hW
    refine (specPositiveRoots_any _ q _ hq1).mono ?_; rintro e w1 ⟨v, rfl, hL, hb1⟩
    have hLr : SlII w1 w1.heap.size v (rtsA q).1 := by first | exact hL.rd | exact hL
    obtain ⟨LA, lc, hve, _, _, _, hLr⟩ := hLr.open_
    subst hve
    rw [HB.out]
    have kB1 := kB.call hb1
    have hq2 := QvR.next hb1 hq1
    have hx2 := SlI.next hb1 hx1
    have g1 := bthen g0 hb1
    clear c0 c1 c2 kB hq1 g0 hb1 hL hx1
    go_wp2
    go_ret2
    rw [HF.out]
    exact ⟨_, rfl, (IntssO.made0 w1 (lo := w0.heap.size) g1.size), g1.alloc g1.size _⟩
  · rcases hD : areDims q x with _ | _
    · have HF : Hid (rdQ q x = ([], false)) := by show _ = _; rw [hdf, if_neg (by rw [hD]; simp)]
      have HB := Lib.hid hB
      have HD := Lib.hid hD
      clear hB hD hdf
      go_enter Try.func38, Try.ntmps38
      go_wp2_with fail
      rw [← hW]; clear hW
      refine (specPositiveRoots_any _ q _ hq1).mono ?_; rintro e w1 ⟨v, rfl, hL, hb1⟩
      have hLr : SlII w1 w1.heap.size v (rtsA q).1 := by first | exact hL.rd | exact hL
      obtain ⟨LA, lc, hve, _, _, _, hLr⟩ := hLr.open_
      subst hve
      rw [HB.out]
      have kB1 := kB.call hb1
      have hq2 := QvR.next hb1 hq1
      have hx2 := SlI.next hb1 hx1
      have g1 := bthen g0 hb1
      clear c0 c1 c2 kB hq1 g0 hb1 hL hx1
      have c0 := kB1.cell' (i := 0) rfl
      have c1 := kB1.cell' (i := 1) rfl
      have c2 := kB1.cell' (i := 2) rfl
      go_wp2_with fail
      refine (specAreDims_any _ _ q x _ hq2 hx2).mono ?_; rintro e w2 ⟨rfl, hb2⟩
      rw [HD.out]
      have g2 := bthen g1 hb2
      clear c0 c1 c2 kB1 hq2 g1
      go_wp2
      go_ret2
      rw [HF.out]
      exact ⟨_, rfl, (IntssO.made0 w2 (lo := w0.heap.size) g2.size), g2.alloc g2.size _⟩
    · have HF : Hid (rdQ q x = ((decD (rtsA q).1 (x.sum.toNat + 1) x 0).take 500, true)) := by show _ = _; rw [hdf, if_pos ⟨hB, hD⟩]
      have hVV := rtsA_V hB
      obtain ⟨hnv, hs0, hs8, hv1, hv5⟩ := areDims_nnV hD
      have HB := Lib.hid hB
      have HD := Lib.hid hD
      have HVV := Lib.hid hVV
      have HNV := Lib.hid hnv
      clear hB hD hdf hVV hnv
      go_enter Try.func38, Try.ntmps38
      go_wp2_with fail
      rw [← hW]; clear hW
      refine (specPositiveRoots_any _ q _ hq1).mono ?_; rintro e w1 ⟨v, rfl, hL, hb1⟩
      have hLr : SlII w1 w1.heap.size v (rtsA q).1 := by first | exact hL.rd | exact hL
      obtain ⟨LA, lc, hve, _, _, _, hLr⟩ := hLr.open_
      subst hve
      rw [HB.out]
      have kB1 := kB.call hb1
      have hq2 := QvR.next hb1 hq1
      have hx2 := SlI.next hb1 hx1
      have g1 := bthen g0 hb1
      clear c0 c1 c2 kB hq1 g0 hb1 hL hx1
      have c0 := kB1.cell' (i := 0) rfl
      have c1 := kB1.cell' (i := 1) rfl
      have c2 := kB1.cell' (i := 2) rfl
      go_wp2_with fail
      refine (specAreDims_any _ _ q x _ hq2 hx2).mono ?_; rintro e w2 ⟨rfl, hb2⟩
      rw [HD.out]
      have g2 := bthen g1 hb2
      clear c0 c1 c2 kB1 hq2 g1
      have hc := l20Sums_any q.v.toNat (by omega) (rtsA q).1 HVV.out (x.sum.toNat + 1) (.slice LA (rtsA q).1.length lc) (.slice XA x.length xc) x 0 w2 (by omega) (SlII.next hb2 hLr) (SlI.next hb2 hx2) HNV.out (by omega) (by omega)
      rw [show ((0 : Nat) : Int) = 0 from rfl] at hc
      have s2 := g2.size
      clear hb2 hLr hx2
      go_wp2_with fail
      refine hc.mono ?_; rintro e w3 ⟨o, rfl, hO, hb3⟩
      clear hc
      obtain ⟨OA, oc, hoe, _⟩ := hO.form2
      obtain ⟨N, hN⟩ : ∃ N, ((decD (rtsA q).1 (x.sum.toNat + 1) x 0).take 500).length = N := ⟨_, rfl⟩
      rw [hN] at hoe
      subst hoe
      clear hN
      have hO2 := hO.wider (lo' := w0.heap.size) s2 (Nat.le_refl _)
      have g3 := bthen g2 hb3
      clear hO hb3 g2
      go_wp2
      go_ret2
      rw [HF.out]
      exact ⟨_, rfl, hO2, g3⟩
set_option maxRecDepth 100000 in
set_option maxHeartbeats 3200000 in
theorem implRootDecompositions_any (u xv : Value) (q : Qv) (x : List Int) (w0 : World) (hu : QvR w0 w0.heap.size u q) (hx : SlI w0 w0.heap.size xv x) :
    Calls Try.prog 39 #[u, xv] w0 fun e w' => ∃ v, e = .returned (.tuple #[v, .bool (rdQ q x).2]) ∧ IntssO w' w0.heap.size w'.heap.size v (rdQ q x).1 ∧ Below w0.heap.size w0 w' := by
  have hx' := hx
  obtain ⟨XA, xc, rfl, _⟩ := hx.open_
  clear hx
  have hdf : rdQ q x = if (rtsA q).2 = true ∧ areDims q x = true then ((decD (rtsA q).1 (x.sum.toNat + 1) x 0).take 500, true) else ([], false) := rfl
  have hu' := hu
  obtain ⟨A, c, C, d, rfl, hf, ht, hr, _⟩ := hu.open_
  clear hu hf ht
  obtain ⟨W, hW⟩ : ∃ W, W = w0.alloc (.cells #[.int .i64 q.v, .slice A q.f.length c, .slice C q.t.length d] 27) := ⟨_, rfl⟩
  have kB : Blk W w0.heap.size 27 #[.int .i64 q.v, .slice A q.f.length c, .slice C q.t.length d] := by rw [hW]; exact Blk.new _ _ _
  have g0 : Below w0.heap.size w0 W := by rw [hW]; exact below_alloc _ _
  have hq1 := QvR.next g0 hu'
  have c0 := kB.cell' (i := 0) rfl
  have c1 := kB.cell' (i := 1) rfl
  have c2 := kB.cell' (i := 2) rfl
  clear hu'
  have hx1 := SlI.next g0 hx'
  clear hx'
  rcases hB : (rtsA q).2 with _ | _
  · have HF : Hid (rdQ q x = ([], false)) := by show _ = _; rw [hdf, if_neg (by rw [hB]; simp)]
    have HB := Lib.hid hB
    clear hB hdf
    go_enter Try.func39, Try.ntmps39
    go_wp2_with fail
    rw [← hW]; clear hW
    refine (implPositiveRoots_any _ q _ hq1).mono ?_; rintro e w1 ⟨v, rfl, hL, hb1⟩
    have hLr : SlII w1 w1.heap.size v (rtsA q).1 := by first | exact hL.rd | exact hL
    obtain ⟨LA, lc, hve, _, _, _, hLr⟩ := hLr.open_
    subst hve
    rw [HB.out]
    have kB1 := kB.call hb1
    have hq2 := QvR.next hb1 hq1
    have hx2 := SlI.next hb1 hx1
    have g1 := bthen g0 hb1
    clear c0 c1 c2 kB hq1 g0 hb1 hL hx1
    go_wp2
    go_ret2
    rw [HF.out]
    exact ⟨_, rfl, IntssO.nil _ _ _, g1⟩
  · rcases hD : areDims q x with _ | _
    · have HF : Hid (rdQ q x = ([], false)) := by show _ = _; rw [hdf, if_neg (by rw [hD]; simp)]
      have HB := Lib.hid hB
      have HD := Lib.hid hD
      clear hB hD hdf
      go_enter Try.func39, Try.ntmps39
      go_wp2_with fail
      rw [← hW]; clear hW
      refine (implPositiveRoots_any _ q _ hq1).mono ?_; rintro e w1 ⟨v, rfl, hL, hb1⟩
      have hLr : SlII w1 w1.heap.size v (rtsA q).1 := by first | exact hL.rd | exact hL
      obtain ⟨LA, lc, hve, _, _, _, hLr⟩ := hLr.open_
      subst hve
      rw [HB.out]
      have kB1 := kB.call hb1
      have hq2 := QvR.next hb1 hq1
      have hx2 := SlI.next hb1 hx1
      have g1 := bthen g0 hb1
      clear c0 c1 c2 kB hq1 g0 hb1 hL hx1
      have c0 := kB1.cell' (i := 0) rfl
      have c1 := kB1.cell' (i := 1) rfl
      have c2 := kB1.cell' (i := 2) rfl
      go_wp2_with fail
      refine (implAreDims_any _ _ q x _ hq2 hx2).mono ?_; rintro e w2 ⟨rfl, hb2⟩
      rw [HD.out]
      have g2 := bthen g1 hb2
      clear c0 c1 c2 kB1 hq2 g1
      go_wp2
      go_ret2
      rw [HF.out]
      exact ⟨_, rfl, IntssO.nil _ _ _, g2⟩
    · have HF : Hid (rdQ q x = ((decD (rtsA q).1 (x.sum.toNat + 1) x 0).take 500, true)) := by show _ = _; rw [hdf, if_pos ⟨hB, hD⟩]
      have hVV := rtsA_V hB
      obtain ⟨hnv, hs0, hs8, hv1, hv5⟩ := areDims_nnV hD
      have HB := Lib.hid hB
      have HD := Lib.hid hD
      have HVV := Lib.hid hVV
      have HNV := Lib.hid hnv
      clear hB hD hdf hVV hnv
      go_enter Try.func39, Try.ntmps39
      go_wp2_with fail
      rw [← hW]; clear hW
      refine (implPositiveRoots_any _ q _ hq1).mono ?_; rintro e w1 ⟨v, rfl, hL, hb1⟩
      have hLr : SlII w1 w1.heap.size v (rtsA q).1 := by first | exact hL.rd | exact hL
      obtain ⟨LA, lc, hve, _, _, _, hLr⟩ := hLr.open_
      subst hve
      rw [HB.out]
      have kB1 := kB.call hb1
      have hq2 := QvR.next hb1 hq1
      have hx2 := SlI.next hb1 hx1
      have g1 := bthen g0 hb1
      clear c0 c1 c2 kB hq1 g0 hb1 hL hx1
      have c0 := kB1.cell' (i := 0) rfl
      have c1 := kB1.cell' (i := 1) rfl
      have c2 := kB1.cell' (i := 2) rfl
      go_wp2_with fail
      refine (implAreDims_any _ _ q x _ hq2 hx2).mono ?_; rintro e w2 ⟨rfl, hb2⟩
      rw [HD.out]
      have g2 := bthen g1 hb2
      clear c0 c1 c2 kB1 hq2 g1
      have hx3 := SlI.next hb2 hx2
      have hL3 := SlII.next hb2 hLr
      have s2 := g2.size
      obtain ⟨w3, hw3⟩ : ∃ z, w2.alloc (.cells #[.slice none 0 0] 36) = z := ⟨_, rfl⟩
      have b3 : Below w2.heap.size w2 w3 := by rw [← hw3]; exact below_alloc _ _
      have kO3 : Blk w3 w2.heap.size 36 #[.slice none 0 0] := by rw [← hw3]; exact Blk.new _ _ _
      have hx4 := SlI.next b3 hx3
      have hL4 := SlII.below b3 hL3
      clear hb2 hLr hx2 hx3 hL3
      go_wp2_with fail
      clear hw3
      refine (clone_own _ x _ hx4).mono ?_; rintro e w4 ⟨cv, rfl, hC, hb4⟩
      obtain ⟨CA, cc, hce, _, _⟩ := hC.1.form
      subst hce
      have kO4 := kO3.call hb4
      have s3 := b3.size
      have s4 := hb4.size
      have b34 := b3.trans (hb4.mono s3)
      have hc := decompose_any q.v.toNat (by omega) (by omega) (rtsA q).1 HVV.out w2.heap.size w2.heap.size (Nat.le_refl _) (x.sum.toNat + 1) (.slice LA (rtsA q).1.length lc) (.slice CA x.length cc) (.slice none 0 0) (.slice none 0 0) x [] [] 0 w4 (by simp; omega) (SlII.below (hb4.mono s3) hL4) (hC.1.lower s3) (OwnI.nil _ _) HNV.out (by omega) (by omega) kO4 (IntssO.nil _ _ _) (by simp) (by omega)
      have e0 : (([] : List (List Int)) ++ (decD (rtsA q).1 (x.sum.toNat + 1) x 0).map fun r => [] ++ r).take 500 = (decD (rtsA q).1 (x.sum.toNat + 1) x 0).take 500 := by simp
      rw [e0] at hc
      simp only [Int.natCast_zero, Int.ofNat_zero, Int.cast_ofNat_Int] at hc
      clear e0 hC hL4 hx4 kO3 kO4 hb4
      go_wp2_with fail
      refine hc.mono ?_; rintro e w5 ⟨rfl, v', hO5, hv5, hF5, _⟩
      clear hc
      obtain ⟨OA, oc, hoe, _⟩ := hv5.form2
      obtain ⟨N, hN⟩ : ∃ N, ((decD (rtsA q).1 (x.sum.toNat + 1) x 0).take 500).length = N := ⟨_, rfl⟩
      rw [hN] at hoe
      subst hoe
      clear hN
      have hb5 := hF5.below (B := w2.heap.size) (Nat.le_refl _) (fun g hg => by simp [Value.ownBlock] at hg) (by omega)
      have hb25 := b34.trans hb5
      have hO6 := hv5.wider (lo' := w0.heap.size) (hi' := w5.heap.size) s2 (Nat.le_refl _)
      have g5 := bthen g2 hb25
      have d5 := hO5.cell' (i := 0) rfl
      clear hO5 hv5 hF5 hb5 hb25 b34 g2
      go_wp2
      go_ret2
      rw [HF.out]
      exact ⟨_, rfl, hO6, g5⟩
set_option maxRecDepth 100000 in
set_option maxHeartbeats 1600000 in
theorem specCountRootDecompositions_any (u xv : Value) (q : Qv) (x : List Int) (w0 : World) (hu : QvR w0 w0.heap.size u q) (hx : SlI w0 w0.heap.size xv x) :
    Calls Try.prog 10 #[u, xv] w0 fun e w' => e = .returned (.int .i64 (crdQ q x)) ∧ Below w0.heap.size w0 w' := by
  have hx' := hx
  obtain ⟨XA, xc, rfl, _⟩ := hx.open_
  clear hx
  have hdf : crdQ q x = if (rdQ q x).2 = true then ((rdQ q x).1.length : Int) else -1 := rfl
  have hn := (rdQ_tot q x).2
  have hu' := hu
  obtain ⟨A, c, C, d, rfl, hf, ht, hr, _⟩ := hu.open_
  clear hu hf ht
  obtain ⟨W, hW⟩ : ∃ W, W = w0.alloc (.cells #[.int .i64 q.v, .slice A q.f.length c, .slice C q.t.length d] 27) := ⟨_, rfl⟩
  have kB : Blk W w0.heap.size 27 #[.int .i64 q.v, .slice A q.f.length c, .slice C q.t.length d] := by rw [hW]; exact Blk.new _ _ _
  have g0 : Below w0.heap.size w0 W := by rw [hW]; exact below_alloc _ _
  have hq1 := QvR.next g0 hu'
  have c0 := kB.cell' (i := 0) rfl
  have c1 := kB.cell' (i := 1) rfl
  have c2 := kB.cell' (i := 2) rfl
  clear hu'
  have hx1 := SlI.next g0 hx'
  clear hx'
  rcases hB : (rdQ q x).2 with _ | _
  · have HF : Hid (crdQ q x = -1) := by show _ = _; rw [hdf, if_neg (by rw [hB]; simp)]
    have HB := Lib.hid hB
    clear hB hdf
    go_enter Try.func10, Try.ntmps10
    go_wp2_with fail
    rw [← hW]; clear hW
    refine (specRootDecompositions_any _ _ q x _ hq1 hx1).mono ?_; rintro e w1 ⟨v, rfl, hO, hb1⟩
    rw [HB.out]
    obtain ⟨OA, oc, hoe, _⟩ := hO.form2
    subst hoe
    go_wp2
    go_ret
    exact ⟨by rw [HF.out]; rfl, bthen g0 hb1⟩
  · have HF : Hid (crdQ q x = ((rdQ q x).1.length : Int)) := by show _ = _; rw [hdf, if_pos hB]
    have HB := Lib.hid hB
    clear hB hdf
    go_enter Try.func10, Try.ntmps10
    go_wp2_with fail
    rw [← hW]; clear hW
    refine (specRootDecompositions_any _ _ q x _ hq1 hx1).mono ?_; rintro e w1 ⟨v, rfl, hO, hb1⟩
    rw [HB.out]
    obtain ⟨OA, oc, hoe, _⟩ := hO.form2
    subst hoe
    go_wp2
    go_ret
    exact ⟨by rw [HF.out]; rfl, bthen g0 hb1⟩
set_option maxRecDepth 100000 in
set_option maxHeartbeats 1600000 in
theorem implCountRootDecompositions_any (u xv : Value) (q : Qv) (x : List Int) (w0 : World) (hu : QvR w0 w0.heap.size u q) (hx : SlI w0 w0.heap.size xv x) :
    Calls Try.prog 13 #[u, xv] w0 fun e w' => e = .returned (.int .i64 (crdQ q x)) ∧ Below w0.heap.size w0 w' := by
  have hx' := hx
  obtain ⟨XA, xc, rfl, _⟩ := hx.open_
  clear hx
  have hdf : crdQ q x = if (rdQ q x).2 = true then ((rdQ q x).1.length : Int) else -1 := rfl
  have hn := (rdQ_tot q x).2
  have hu' := hu
  obtain ⟨A, c, C, d, rfl, hf, ht, hr, _⟩ := hu.open_
  clear hu hf ht
  obtain ⟨W, hW⟩ : ∃ W, W = w0.alloc (.cells #[.int .i64 q.v, .slice A q.f.length c, .slice C q.t.length d] 27) := ⟨_, rfl⟩
  have kB : Blk W w0.heap.size 27 #[.int .i64 q.v, .slice A q.f.length c, .slice C q.t.length d] := by rw [hW]; exact Blk.new _ _ _
  have g0 : Below w0.heap.size w0 W := by rw [hW]; exact below_alloc _ _
  have hq1 := QvR.next g0 hu'
  have c0 := kB.cell' (i := 0) rfl
  have c1 := kB.cell' (i := 1) rfl
  have c2 := kB.cell' (i := 2) rfl
  clear hu'
  have hx1 := SlI.next g0 hx'
  clear hx'
  rcases hB : (rdQ q x).2 with _ | _
  · have HF : Hid (crdQ q x = -1) := by show _ = _; rw [hdf, if_neg (by rw [hB]; simp)]
    have HB := Lib.hid hB
    clear hB hdf
    go_enter Try.func13, Try.ntmps13
    go_wp2_with fail
    rw [← hW]; clear hW
    refine (implRootDecompositions_any _ _ q x _ hq1 hx1).mono ?_; rintro e w1 ⟨v, rfl, hO, hb1⟩
    rw [HB.out]
    obtain ⟨OA, oc, hoe, _⟩ := hO.form2
    subst hoe
    go_wp2
    go_ret
    exact ⟨by rw [HF.out]; rfl, bthen g0 hb1⟩
  · have HF : Hid (crdQ q x = ((rdQ q x).1.length : Int)) := by show _ = _; rw [hdf, if_pos hB]
    have HB := Lib.hid hB
    clear hB hdf
    go_enter Try.func13, Try.ntmps13
    go_wp2_with fail
    rw [← hW]; clear hW
    refine (implRootDecompositions_any _ _ q x _ hq1 hx1).mono ?_; rintro e w1 ⟨v, rfl, hO, hb1⟩
    rw [HB.out]
    obtain ⟨OA, oc, hoe, _⟩ := hO.form2
    subst hoe
    go_wp2
    go_ret
    exact ⟨by rw [HF.out]; rfl, bthen g0 hb1⟩
end Go.Proofs.Ytgbchoenmpoojaa

/- The walk of FnExactCountRootDecompositions, printed by program (wip/law.py) out of the contracts of what it calls. -/
namespace Go.Proofs.Ytgbchoenmpoojaa
set_option linter.unusedVariables false
set_option linter.unusedSimpArgs false
open Go.RowKit

set_option maxHeartbeats 1600000 in
set_option maxRecDepth 100000 in
theorem lawCountRootDecompositions_any (uq : Value) (q : Qv) (ux : Value) (x : List Int) (w : World) (hq : QvR w w.heap.size uq q) (hx : SlI w w.heap.size ux x) :
    Calls Try.prog 3 #[uq, ux] w fun e w' => e = .returned (.bool true) ∧ Below w.heap.size w w' := by
  obtain ⟨Auq, cuq, Cuq, duq, eq⟩ := QvR.form hq
  subst eq
  have lq := QvR.lens hq
  obtain ⟨Ax, cx, rfl, _, _, lx, _⟩ := hx.open_
  have g0 := Below.refl w.heap.size w
  by_cases z0 : (1048576 : Int) < x.length
  · go_enter Try.func3, Try.ntmps3
    go_wp2
    go_ret
    exact ⟨rfl, (g0).alloc (by simp) _⟩
  by_cases z1 : (1048576 : Int) < (q.size : Nat)
  · have y1 : szLeft (1048576 : Int) (q.size) = -1 := by rw [szLeft, if_pos z1]
    go_enter Try.func3, Try.ntmps3
    go_wp2_with fail
    obtain ⟨W2, e3⟩ : ∃ W, W = w.alloc (.cells #[.int .i64 (q).v, .slice Auq (q).f.length cuq, .slice Cuq (q).t.length duq] 24) := ⟨_, rfl⟩
    rw [← e3]
    have b4 : Below w.heap.size w W2 := by rw [e3]; exact below_alloc _ _
    have k5 : Blk W2 w.heap.size 24 #[.int .i64 (q).v, .slice Auq (q).f.length cuq, .slice Cuq (q).t.length duq] := by rw [e3]; exact Blk.new _ _ _
    have s6 : w.heap.size < W2.heap.size := by rw [e3]; simp
    clear e3
    have h7 := QvR.below (b4.mono (by omega)) hq
    have h8 := SlI.below (b4.mono (by omega)) hx
    have s9 : w.heap.size ≤ W2.heap.size := b4.size
    have g10 := bthen g0 b4
    clear hq hx g0 b4
    have c11 := k5.cell' (i := 0) rfl
    have c12 := k5.cell' (i := 1) rfl
    have c13 := k5.cell' (i := 2) rfl
    refine (szQuiver_any _ _ (1048576 : Int) _ (QvR.more (by omega) h7) (by omega) (by omega)).mono ?_; rintro e W14 ⟨rfl, b1⟩
    have h15 := QvR.below (b1.mono (by omega)) h7
    have h16 := SlI.below (b1.mono (by omega)) h8
    have k17 := k5.call b1
    have s18 : W2.heap.size ≤ W14.heap.size := b1.size
    have g19 := bthen g10 b1
    clear h7 h8 k5 g10 b1 c11 c12 c13
    have c20 := k17.cell' (i := 0) rfl
    have c21 := k17.cell' (i := 1) rfl
    have c22 := k17.cell' (i := 2) rfl
    go_wp2
    go_ret
    exact ⟨rfl, g19⟩
  have y1 : szLeft (1048576 : Int) (q.size) = (1048576 : Int) - (q.size : Nat) := by rw [szLeft, if_neg z1]
  have x1 : ¬ ((1048576 : Int) - ((q.size : Nat) : Int) < 0) := by omega
  go_enter Try.func3, Try.ntmps3
  go_wp2_with fail
  obtain ⟨W24, e25⟩ : ∃ W, W = w.alloc (.cells #[.int .i64 (q).v, .slice Auq (q).f.length cuq, .slice Cuq (q).t.length duq] 24) := ⟨_, rfl⟩
  rw [← e25]
  have b26 : Below w.heap.size w W24 := by rw [e25]; exact below_alloc _ _
  have k27 : Blk W24 w.heap.size 24 #[.int .i64 (q).v, .slice Auq (q).f.length cuq, .slice Cuq (q).t.length duq] := by rw [e25]; exact Blk.new _ _ _
  have s28 : w.heap.size < W24.heap.size := by rw [e25]; simp
  clear e25
  have h29 := QvR.below (b26.mono (by omega)) hq
  have h30 := SlI.below (b26.mono (by omega)) hx
  have s31 : w.heap.size ≤ W24.heap.size := b26.size
  have g32 := bthen g0 b26
  clear hq hx g0 b26
  have c33 := k27.cell' (i := 0) rfl
  have c34 := k27.cell' (i := 1) rfl
  have c35 := k27.cell' (i := 2) rfl
  refine (szQuiver_any _ _ (1048576 : Int) _ (QvR.more (by omega) h29) (by omega) (by omega)).mono ?_; rintro e W36 ⟨rfl, b23⟩
  have h37 := QvR.below (b23.mono (by omega)) h29
  have h38 := SlI.below (b23.mono (by omega)) h30
  have k39 := k27.call b23
  have s40 : W24.heap.size ≤ W36.heap.size := b23.size
  have g41 := bthen g32 b23
  clear h29 h30 k27 g32 b23 c33 c34 c35
  have c42 := k39.cell' (i := 0) rfl
  have c43 := k39.cell' (i := 1) rfl
  have c44 := k39.cell' (i := 2) rfl
  go_wp2_with fail
  refine (quiv_to _ _ _ (QvR.more (by omega) h37) (by omega)).mono ?_; rintro e W48 ⟨v45, rfl, h46, b47⟩
  have h49 := QvR.below (b47.mono (by omega)) h37
  have h50 := SlI.below (b47.mono (by omega)) h38
  have k51 := k39.call b47
  have s52 : W36.heap.size ≤ W48.heap.size := b47.size
  have g53 := bthen g41 b47
  clear h37 h38 k39 g41 b47 c42 c43 c44
  have c54 := k51.cell' (i := 0) rfl
  have c55 := k51.cell' (i := 1) rfl
  have c56 := k51.cell' (i := 2) rfl
  go_wp2_with fail
  refine (ints_to _ _ _ (SlI.more (by omega) h50) (by omega)).mono ?_; rintro e W60 ⟨v57, rfl, h58, b59⟩
  have h61 := QvR.below (b59.mono (by omega)) h49
  have h62 := SlI.below (b59.mono (by omega)) h50
  have h63 := h46.below b59
  have k64 := k51.call b59
  have s65 : W48.heap.size ≤ W60.heap.size := b59.size
  have g66 := bthen g53 b59
  clear h49 h50 h46 k51 g53 b59 c54 c55 c56
  have c67 := k64.cell' (i := 0) rfl
  have c68 := k64.cell' (i := 1) rfl
  have c69 := k64.cell' (i := 2) rfl
  go_wp2_with fail
  refine (specCountRootDecompositions_any _ _ _ _ _ h63.rd h58.rd).mono ?_; rintro e W71 ⟨rfl, b70⟩
  have h72 := QvR.below (b70.mono (by omega)) h61
  have h73 := SlI.below (b70.mono (by omega)) h62
  have h74 := h63.below b70
  have h75 := h58.below b70
  have k76 := k64.call b70
  have s77 : W60.heap.size ≤ W71.heap.size := b70.size
  have g78 := bthen g66 b70
  clear h61 h62 h63 h58 k64 g66 b70 c67 c68 c69
  have c79 := k76.cell' (i := 0) rfl
  have c80 := k76.cell' (i := 1) rfl
  have c81 := k76.cell' (i := 2) rfl
  clear h74
  clear h75
  go_wp2_with fail
  refine (quiv_to _ _ _ (QvR.more (by omega) h72) (by omega)).mono ?_; rintro e W85 ⟨v82, rfl, h83, b84⟩
  have h86 := QvR.below (b84.mono (by omega)) h72
  have h87 := SlI.below (b84.mono (by omega)) h73
  have k88 := k76.call b84
  have s89 : W71.heap.size ≤ W85.heap.size := b84.size
  have g90 := bthen g78 b84
  clear h72 h73 k76 g78 b84 c79 c80 c81
  have c91 := k88.cell' (i := 0) rfl
  have c92 := k88.cell' (i := 1) rfl
  have c93 := k88.cell' (i := 2) rfl
  obtain ⟨Ax94, cx94, Cx94, dx94, e95⟩ := h83.form
  subst e95
  have c99 := fun o => (k88.alloc o).cell' (i := 0) rfl
  have c100 := fun o => (k88.alloc o).cell' (i := 1) rfl
  have c101 := fun o => (k88.alloc o).cell' (i := 2) rfl
  go_wp2_with fail
  obtain ⟨W102, e103⟩ : ∃ W, W = W85.alloc (.cells #[.int .i64 (q).v, .slice Ax94 (q).f.length cx94, .slice Cx94 (q).t.length dx94] 27) := ⟨_, rfl⟩
  rw [← e103]
  have b104 : Below W85.heap.size W85 W102 := by rw [e103]; exact below_alloc _ _
  have k105 : Blk W102 W85.heap.size 27 #[.int .i64 (q).v, .slice Ax94 (q).f.length cx94, .slice Cx94 (q).t.length dx94] := by rw [e103]; exact Blk.new _ _ _
  have s106 : W85.heap.size < W102.heap.size := by rw [e103]; simp
  clear e103
  have h107 := QvR.below (b104.mono (by omega)) h86
  have h108 := SlI.below (b104.mono (by omega)) h87
  have h109 := h83.below b104
  have k110 := k88.call b104
  have s111 : W85.heap.size ≤ W102.heap.size := b104.size
  have g112 := bthen g90 b104
  clear h86 h87 h83 k88 g90 b104 c91 c92 c93 c99 c100 c101
  have c113 := k110.cell' (i := 0) rfl
  have c114 := k110.cell' (i := 1) rfl
  have c115 := k110.cell' (i := 2) rfl
  have c116 := k105.cell' (i := 0) rfl
  have c117 := k105.cell' (i := 1) rfl
  have c118 := k105.cell' (i := 2) rfl
  refine (ints_to _ _ _ (SlI.more (by omega) h108) (by omega)).mono ?_; rintro e W119 ⟨v96, rfl, h97, b98⟩
  have h120 := QvR.below (b98.mono (by omega)) h107
  have h121 := SlI.below (b98.mono (by omega)) h108
  have h122 := h109.below b98
  have k123 := k110.call b98
  have k124 := k105.call b98
  have s125 : W102.heap.size ≤ W119.heap.size := b98.size
  have g126 := bthen g112 b98
  clear h107 h108 h109 k110 k105 g112 b98 c113 c114 c115 c116 c117 c118
  have c127 := k123.cell' (i := 0) rfl
  have c128 := k123.cell' (i := 1) rfl
  have c129 := k123.cell' (i := 2) rfl
  have c130 := k124.cell' (i := 0) rfl
  have c131 := k124.cell' (i := 1) rfl
  have c132 := k124.cell' (i := 2) rfl
  go_wp2_with fail
  refine (implCountRootDecompositions_any _ _ _ _ _ h122.rd h97.rd).mono ?_; rintro e W134 ⟨rfl, b133⟩
  have h135 := QvR.below (b133.mono (by omega)) h120
  have h136 := SlI.below (b133.mono (by omega)) h121
  have h137 := h122.below b133
  have h138 := h97.below b133
  have k139 := k123.call b133
  have k140 := k124.call b133
  have s141 : W119.heap.size ≤ W134.heap.size := b133.size
  have g142 := bthen g126 b133
  clear h120 h121 h122 h97 k123 k124 g126 b133 c127 c128 c129 c130 c131 c132
  have c143 := k139.cell' (i := 0) rfl
  have c144 := k139.cell' (i := 1) rfl
  have c145 := k139.cell' (i := 2) rfl
  have c146 := k140.cell' (i := 0) rfl
  have c147 := k140.cell' (i := 1) rfl
  have c148 := k140.cell' (i := 2) rfl
  go_wp2_with fail
  have b149 := drew_below W134
  have h150 := QvR.below (b149.mono (by omega)) h135
  have h151 := SlI.below (b149.mono (by omega)) h136
  have h152 := h137.below b149
  have h153 := h138.below b149
  have k154 := k139.call b149
  have k155 := k140.call b149
  have s156 : W134.heap.size ≤ W134.drew.heap.size := b149.size
  have g157 := bthen g142 b149
  clear h135 h136 h137 h138 k139 k140 g142 b149 c143 c144 c145 c146 c147 c148
  have c158 := k154.cell' (i := 0) rfl
  have c159 := k154.cell' (i := 1) rfl
  have c160 := k154.cell' (i := 2) rfl
  have c161 := k155.cell' (i := 0) rfl
  have c162 := k155.cell' (i := 1) rfl
  have c163 := k155.cell' (i := 2) rfl
  go_region_held3 (fun W' => W'.cell? ⟨w.heap.size, 0, none⟩ = some (.int .i64 (q).v) ∧ W'.cell? ⟨w.heap.size, 1, none⟩ = some (.slice Auq (q).f.length cuq) ∧ W'.cell? ⟨w.heap.size, 2, none⟩ = some (.slice Cuq (q).t.length duq) ∧ W'.cell? ⟨W85.heap.size, 0, none⟩ = some (.int .i64 (q).v) ∧ W'.cell? ⟨W85.heap.size, 1, none⟩ = some (.slice Ax94 (q).f.length cx94) ∧ W'.cell? ⟨W85.heap.size, 2, none⟩ = some (.slice Cx94 (q).t.length dx94))
    (first | exact ⟨c158, c159, c160, c161, c162, c163⟩ | exact ⟨c176, c177, c178, c179, c180, c181⟩ | exact ⟨c193, c194, c195, c196, c197, c198⟩)
    (first | (go_at_call 11; refine (quiv_to _ _ _ (QvR.more (by omega) h150) (by omega)).mono ?_; rintro e W167 ⟨v164, rfl, h165, b166⟩; have h168 := QvR.below (b166.mono (by omega)) h150; have h169 := SlI.below (b166.mono (by omega)) h151; have h170 := h152.below b166; have h171 := h153.below b166; have k172 := k154.call b166; have k173 := k155.call b166; have s174 : W134.drew.heap.size ≤ W167.heap.size := b166.size; have g175 := bthen g157 b166; clear h150 h151 h152 h153 k154 k155 g157 b166 c158 c159 c160 c161 c162 c163; have c176 := k172.cell' (i := 0) rfl; have c177 := k172.cell' (i := 1) rfl; have c178 := k172.cell' (i := 2) rfl; have c179 := k173.cell' (i := 0) rfl; have c180 := k173.cell' (i := 1) rfl; have c181 := k173.cell' (i := 2) rfl) | (go_at_call 14; refine (eqQuiver_any _ _ _ _ _ h170.rd h165.rd).mono ?_; rintro e W183 ⟨rfl, b182⟩; have h184 := QvR.below (b182.mono (by omega)) h168; have h185 := SlI.below (b182.mono (by omega)) h169; have h186 := h170.below b182; have h187 := h171.below b182; have h188 := h165.below b182; have k189 := k172.call b182; have k190 := k173.call b182; have s191 : W167.heap.size ≤ W183.heap.size := b182.size; have g192 := bthen g175 b182; clear h168 h169 h170 h171 h165 k172 k173 g175 b182 c176 c177 c178 c179 c180 c181; have c193 := k189.cell' (i := 0) rfl; have c194 := k189.cell' (i := 1) rfl; have c195 := k189.cell' (i := 2) rfl; have c196 := k190.cell' (i := 0) rfl; have c197 := k190.cell' (i := 1) rfl; have c198 := k190.cell' (i := 2) rfl))
  clear h188
  go_wp2_with fail
  refine (ints_to _ _ _ (SlI.more (by omega) h185) (by omega)).mono ?_; rintro e W202 ⟨v199, rfl, h200, b201⟩
  have h203 := QvR.below (b201.mono (by omega)) h184
  have h204 := SlI.below (b201.mono (by omega)) h185
  have h205 := h186.below b201
  have h206 := h187.below b201
  have k207 := k189.call b201
  have k208 := k190.call b201
  have s209 : W183.heap.size ≤ W202.heap.size := b201.size
  have g210 := bthen g192 b201
  clear h184 h185 h186 h187 k189 k190 g192 b201 c193 c194 c195 c196 c197 c198
  have c211 := k207.cell' (i := 0) rfl
  have c212 := k207.cell' (i := 1) rfl
  have c213 := k207.cell' (i := 2) rfl
  have c214 := k208.cell' (i := 0) rfl
  have c215 := k208.cell' (i := 1) rfl
  have c216 := k208.cell' (i := 2) rfl
  go_wp2_with fail
  refine (eqIntS_any _ _ _ _ _ h206.rd h200.rd).mono ?_; rintro e W218 ⟨rfl, b217⟩
  have h219 := QvR.below (b217.mono (by omega)) h203
  have h220 := SlI.below (b217.mono (by omega)) h204
  have h221 := h205.below b217
  have h222 := h206.below b217
  have h223 := h200.below b217
  have k224 := k207.call b217
  have k225 := k208.call b217
  have s226 : W202.heap.size ≤ W218.heap.size := b217.size
  have g227 := bthen g210 b217
  clear h203 h204 h205 h206 h200 k207 k208 g210 b217 c211 c212 c213 c214 c215 c216
  have c228 := k224.cell' (i := 0) rfl
  have c229 := k224.cell' (i := 1) rfl
  have c230 := k224.cell' (i := 2) rfl
  have c231 := k225.cell' (i := 0) rfl
  have c232 := k225.cell' (i := 1) rfl
  have c233 := k225.cell' (i := 2) rfl
  clear h223
  go_wp2
  go_ret
  exact ⟨rfl, g227⟩
end Go.Proofs.Ytgbchoenmpoojaa

/- FnExactCountRootDecompositions is proved: for every argument the program's CountRootDecompositions returns what the reference's returns, leaves its arguments as they were, and returns memory of its own. No condition. -/
namespace Go.Proofs.Ytgbchoenmpoojaa
set_option linter.unusedVariables false
set_option linter.unusedSimpArgs false
open Go.RowKit Go.ChangeShapes Go.WideShapes Go.ChangeAt Go.Deep

set_option maxRecDepth 100000 in
theorem countRootDecompositions_lifted (os : Os) (started : os.Started) (H : Type) (enc : TypeId × Value → H) :
    ReturnsInHanded {} Try.checked os 3 .any (Rows.fnExactCountRootDecompositionsSpec.pre6 enc Try.prog Try.f3 Rows.fnExactCountRootDecompositionsRow.domain false) (Rows.fnExactCountRootDecompositionsSpec.post enc Try.prog Try.f3 false true false false) := by
  refine lift_law started (by kernel_rfl) Try.func3 (ChangeSpec.witness6 (enc := enc) (C := Try.checked) false ⟨#[], #[.agg #[.int .i64 0, .slice none 0 0, .slice none 0 0], .slice none 0 0], []⟩ 8 (by kernel_rfl) (by kernel_rfl) (by kernel_rfl) (by kernel_rfl))
    rfl rfl (by rw [Try.params3]; intro t ht; simp only [List.mem_cons, List.not_mem_nil, or_false] at ht; rcases ht with rfl | rfl <;> exact ⟨by kernel_rfl, of_decide_eq_true (by kernel_rfl)⟩) (fun ds hl => by rw [Try.params3] at hl; match ds, hl with | [_, _], _ => rfl) ?_
  intro W args ds ps base hval hA hwt
  rw [Try.params3] at hA hval hwt
  obtain ⟨v0, v1, d0, d1, p0, p1, hargs, rfl, rfl, h0, h1⟩ := trodAll_two hA
  obtain rfl : args = #[v0, v1] := by cases args; simp_all
  obtain ⟨x0, r0⟩ := argQuiver (hval 0 _ _ rfl rfl) h0 (hwt 0 _ _ rfl rfl)
  obtain ⟨x1, r1⟩ := argInts (hval 1 _ _ rfl rfl) h1 (hwt 1 _ _ rfl rfl)
  exact lawCountRootDecompositions_any _ _ _ _ W r0 r1

theorem countRootDecompositions_closed : joinedFacts Try.prog 3 Try.f3 Rows.fnExactCountRootDecompositionsSpec Rows.fnExactCountRootDecompositionsRow = true := by
  unfold joinedFacts
  refine band (band (band (band (band (band (band ?_ seatEnter) seatLifts) seatMake) ?_) ?_) ?_) ?_ <;> kernel_rfl

theorem countRootDecompositions_holds : Rows.FnExactCountRootDecompositionsSaid :=
  OpenClaim.holds_of_wide 3 Try.f3 rfl rfl rfl rfl rfl rfl rfl ⟨rfl, rfl, rfl, rfl, rfl⟩ rfl rfl rfl rfl rfl (by kernel_rfl) Try.func3 countRootDecompositions_closed
    (of_decide_eq_true (by kernel_rfl)) (by unfold Func.isWrapper; first | (rw [if_pos (by decide +kernel)]; kernel_rfl) | (rw [if_neg (by decide +kernel)]; exact ⟨rfl, rfl⟩))
    (fun os started H enc _ => countRootDecompositions_lifted os started H enc)
#print axioms countRootDecompositions_holds
end Go.Proofs.Ytgbchoenmpoojaa
