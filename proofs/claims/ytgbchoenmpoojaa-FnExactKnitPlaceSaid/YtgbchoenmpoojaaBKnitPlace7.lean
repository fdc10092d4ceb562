/- FnExactKnitPlace: for every argument the program's function returns what the reference's returns. Part 7 of 9 of the proof: FinB, KnP, PthY, DimI, PthS, PthZ, DimS. No condition. -/
import Derived.Test.YtgbchoenmpoojaaBKnitPlace6
/- Quivers of finite kind: the roots: all come from the unit vectors by reflections; their numbers are at most 2, they are at most twenty. Plain. -/
namespace Go.Proofs.Ytgbchoenmpoojaa
set_option linter.unusedVariables false
set_option linter.unusedSimpArgs false
open Go.RowKit

theorem allBL_ok (f : List Bool → Bool) : ∀ (m : Nat) (acc : List Bool), allBL m acc f = true → ∀ l : List Bool, l.length = m → f (l.reverse ++ acc) = true
  | 0, acc, h, l, hl => by
    obtain rfl := List.eq_nil_of_length_eq_zero hl
    exact h
  | m + 1, acc, h, l, hl => by
    simp only [allBL, Bool.and_eq_true] at h
    match l, hl with
    | b :: r, hl =>
      rw [List.reverse_cons, List.append_assoc]
      cases b
      · exact allBL_ok f m _ h.2 r (by simpa using hl)
      · exact allBL_ok f m _ h.1 r (by simpa using hl)
theorem allBL_all {f : List Bool → Bool} {m : Nat} (h : allBL m [] f = true) (l : List Bool) (hl : l.length = m) : f l = true := by
  have := allBL_ok f m [] h l.reverse (by simpa using hl)
  simpa using this
/-! ### minors of one and of two vertices -/
theorem dtS_congr {s n : Nat} {g h : Nat → Nat → Int} (e : ∀ a b, a < n → b < n → g a b = h a b) : dtS s n g = dtS s n h := by
  have hm : ∀ v, v ∈ bitL s n → v < n := fun v hv => List.mem_range.1 (List.mem_filter.1 hv).1
  have : mnL s n g = mnL s n h := by
    unfold mnL mnTo mnRow
    apply List.map_congr_left
    intro v hv
    apply List.map_congr_left
    intro w hw
    exact e v w (hm v hv) (hm w hw)
  rw [dtS, dtS, this]
theorem bitL_1 : ∀ n, n ≤ 5 → ∀ a, a < n → bitL (2 ^ a) n = [a] := by decide
theorem bitL_2 : ∀ n, n ≤ 5 → ∀ b, b < n → ∀ a, a < b → bitL (2 ^ a + 2 ^ b) n = [a, b] := by decide
theorem dtS_1 {n a : Nat} (hn : n ≤ 5) (ha : a < n) (g : Nat → Nat → Int) : dtS (2 ^ a) n g = g a a := by
  simp [dtS, mnL, mnTo, mnRow, bitL_1 n hn a ha, detL, dsF, sgK, fst0]
theorem dtS_2 {n a b : Nat} (hn : n ≤ 5) (hb : b < n) (ha : a < b) (g : Nat → Nat → Int) : dtS (2 ^ a + 2 ^ b) n g = g a a * g b b - g a b * g b a := by
  simp [dtS, mnL, mnTo, mnRow, bitL_2 n hn b hb a ha, detL, dsF, sgK, fst0, mnr, cutR]
  grind
theorem kdGo_1 (n : Nat) (g : Nat → Nat → Int) : ∀ m s k, kdGo n g m s k = 1 → k = 1 ∧ ∀ t, s ≤ t → t < s + m → 0 < dtS t n g
  | 0, s, k, h => ⟨h, fun t h1 h2 => by omega⟩
  | m + 1, s, k, h => by
    simp only [kdGo] at h
    split at h
    · omega
    · rename_i hd
      obtain ⟨h1, h2⟩ := kdGo_1 n g m (s + 1) _ h
      split at h1
      · omega
      · rename_i hz
        refine ⟨h1, fun t ht1 ht2 => ?_⟩
        by_cases e : t = s
        · subst e; omega
        · exact h2 t (by omega) (by omega)
/-! ### the pattern of a quiver of finite kind -/
def prsF : List (Nat × Nat) := [(0, 1), (0, 2), (1, 2), (0, 3), (1, 3), (2, 3), (0, 4), (1, 4), (2, 4), (3, 4)]
theorem prsF_at : ∀ n, n ≤ 5 → ∀ b, b < n → ∀ a, a < b → (prsF.take (n * (n - 1) / 2))[pIdx a b]? = some (a, b) := by decide
def patG (n : Nat) (g : Nat → Nat → Int) : List Bool := (prsF.take (n * (n - 1) / 2)).map fun p => decide (g p.1 p.2 = -1)
theorem patG_length (n : Nat) (hn : n ≤ 5) (g : Nat → Nat → Int) : (patG n g).length = n * (n - 1) / 2 := by
  have : ∀ n, n ≤ 5 → (prsF.take (n * (n - 1) / 2)).length = n * (n - 1) / 2 := by decide
  rw [patG, List.length_map, this n hn]
theorem patG_at {n a b : Nat} (hn : n ≤ 5) (hb : b < n) (ha : a < b) (g : Nat → Nat → Int) : (patG n g).getD (pIdx a b) false = decide (g a b = -1) := by
  rw [patG, List.getD_eq_getElem?_getD, List.getElem?_map, prsF_at n hn b hb a ha]; rfl
theorem two_pow_lt {a n : Nat} (h : a < n) : 2 ^ a < 2 ^ n := Nat.pow_lt_pow_right (by omega) h
theorem fin_pat {q : Qv} (hk : kindQ q = 1) : isQ q = true ∧ ∃ l : List Bool, l.length = q.v.toNat * (q.v.toNat - 1) / 2 ∧ (∀ a b, a < q.v.toNat → b < q.v.toNat → ent q q.f.length a b = gL l a b) ∧ ∀ s, 1 ≤ s → s < 2 ^ q.v.toNat → 0 < dtS s q.v.toNat (gL l) := by
  by_cases hq : isQ q = true
  case neg => simp [kindQ, hq] at hk
  refine ⟨hq, ?_⟩
  rw [kindQ, if_pos hq] at hk
  have hn : q.v.toNat ≤ 5 := by have := (isQ_t.1 hq).1; omega
  generalize q.v.toNat = n at hk hn ⊢
  obtain ⟨_, hd⟩ := kdGo_1 _ _ _ _ _ hk
  have hpos : 0 < 2 ^ n := Nat.two_pow_pos n
  have hd' : ∀ s, 1 ≤ s → s < 2 ^ n → 0 < dtS s n (ent q q.f.length) := fun s h1 h2 => hd s h1 (by omega)
  have hdiag : ∀ a, a < n → ent q q.f.length a a = 2 := by
    intro a ha
    have h1 := hd' (2 ^ a) (Nat.one_le_two_pow) (two_pow_lt ha)
    rw [dtS_1 hn ha] at h1
    unfold ent at h1 ⊢
    simp at h1 ⊢
    omega
  have hsym : ∀ a b, ent q q.f.length a b = ent q q.f.length b a := fun a b => by
    unfold ent; simp only [eq_comm (a := a) (b := b)]; omega
  have hoff : ∀ a b, a < b → b < n → ent q q.f.length a b = 0 ∨ ent q q.f.length a b = -1 := by
    intro a b ha hb
    have hlt : 2 ^ a + 2 ^ b < 2 ^ n := by
      have h1 : 2 ^ a < 2 ^ b := two_pow_lt ha
      have h2 : 2 ^ (b + 1) ≤ 2 ^ n := Nat.pow_le_pow_right (by omega) hb
      rw [Nat.pow_succ] at h2; omega
    have h1 := hd' (2 ^ a + 2 ^ b) (Nat.le_trans Nat.one_le_two_pow (Nat.le_add_right (2 ^ a) (2 ^ b))) hlt
    rw [dtS_2 hn hb ha, hdiag a (by omega), hdiag b hb, hsym b a] at h1
    have h2 : ent q q.f.length a b ≤ 0 := by unfold ent; rw [if_neg (by omega)]; omega
    generalize ent q q.f.length a b = m at h1 h2
    rcases Int.lt_or_le m (-1) with h3 | h3
    · have : 0 ≤ (-m - 2) * (-m + 2) := Int.mul_nonneg (by omega) (by omega)
      have e : (-m - 2) * (-m + 2) = m * m - 4 := by grind
      omega
    · omega
  have hg : ∀ a b, a < n → b < n → ent q q.f.length a b = gL (patG n (ent q q.f.length)) a b := by
    intro a b ha hb
    unfold gL
    by_cases e : a = b
    · subst e; rw [if_pos rfl, hdiag a ha]
    · rw [if_neg e]
      by_cases hab : a < b
      · rw [if_pos hab, patG_at hn hb hab]
        rcases hoff a b hab hb with h | h <;> rw [h] <;> simp
      · rw [if_neg hab, patG_at hn ha (by omega), hsym a b]
        rcases hoff b a (by omega) ha with h | h <;> rw [h] <;> simp
  refine ⟨patG n (ent q q.f.length), patG_length n hn _, hg, fun s h1 h2 => ?_⟩
  rw [← dtS_congr hg]
  exact hd' s h1 h2
theorem wit_lt : ∀ n, n ≤ 5 → ∀ (l : List Bool), l.length = n * (n - 1) / 2 → witAt l wits < 2 ^ n := by
  intro n hn l hl
  have key : ∀ n, n ≤ 5 → allBL (n * (n - 1) / 2) [] (fun l => decide (witAt l wits < 2 ^ n)) = true := by decide +kernel
  simpa using allBL_all (key n hn) l hl
theorem gL_symm (l : List Bool) (a b : Nat) : gL l a b = gL l b a := by
  unfold gL
  by_cases e : a = b
  · subst e; rfl
  · rw [if_neg e, if_neg (fun h : b = a => e h.symm)]
    by_cases h : a < b
    · simp only [if_pos h, if_neg (show ¬ b < a by omega)]
    · simp only [if_neg h, if_pos (show b < a by omega)]
theorem gL_diag (l : List Bool) (a : Nat) : gL l a a = 2 := by simp [gL]
theorem gL_off (l : List Bool) {a b : Nat} (h : a ≠ b) : gL l a b ≤ 0 := by
  unfold gL
  rw [if_neg h]
  split <;> omega
theorem bil_congr {n : Nat} {g h : Nat → Nat → Int} {x x' y y' : Nat → Int} (e : ∀ a b, a < n → b < n → g a b = h a b) (ex : ∀ a, a < n → x a = x' a) (ey : ∀ a, a < n → y a = y' a) : bil n g x y = bil n h x' y' := by
  unfold bil
  apply sm_congr; intro a ha; apply sm_congr; intro b hb
  rw [e a b ha hb, ex a ha, ey b hb]
theorem bil_ind {n u v : Nat} (hu : u < n) (hv : v < n) (c : Int) (x y : Nat → Int) : bil n (fun a b => if a = u ∧ b = v then c else 0) x y = c * x u * y v := by
  unfold bil
  rw [sm_one (k := u) n hu, sm_one (k := v) n hv]
  · simp
  · intro i _ hi; simp [hi]
  · intro i _ hi
    rw [sm_congr (g := fun _ => 0) n fun b _ => by simp [hi], sm_zero]
theorem bil_gsub (n : Nat) (g h : Nat → Nat → Int) (x y : Nat → Int) : bil n (fun a b => g a b - h a b) x y = bil n g x y - bil n h x y := by
  unfold bil
  rw [← sm_sub]
  apply sm_congr; intro a _; rw [← sm_sub]; apply sm_congr; intro b _; grind
theorem bil_gmul (n : Nat) (c : Int) (g : Nat → Nat → Int) (x y : Nat → Int) : bil n (fun a b => c * g a b) x y = c * bil n g x y := by
  unfold bil
  rw [← sm_mul]
  apply sm_congr; intro a _; rw [← sm_mul]; apply sm_congr; intro b _; grind
theorem bil_succ {g : Nat → Nat → Int} (hs : ∀ a b, g a b = g b a) (n : Nat) (x : Nat → Int) : bil (n + 1) g x x = bil n g x x + 2 * (x n * sm n fun b => g b n * x b) + g n n * x n * x n := by
  unfold bil
  rw [sm]
  have : (sm n fun a => sm (n + 1) fun b => g a b * x a * x b) = (sm n fun a => sm n fun b => g a b * x a * x b) + x n * sm n fun b => g b n * x b := by
    rw [← sm_mul, ← sm_add]
    apply sm_congr; intro a _
    rw [sm]; grind
  rw [this, sm]
  have e : (sm n fun b => g n b * x n * x b) = x n * sm n fun b => g b n * x b := by
    rw [← sm_mul]; apply sm_congr; intro b _; rw [hs n b]; grind
  rw [e]; grind
theorem bil_even {g : Nat → Nat → Int} (hs : ∀ a b, g a b = g b a) (hd : ∀ a, g a a = 2) (x : Nat → Int) : ∀ n, ∃ t, bil n g x x = 2 * t
  | 0 => ⟨0, rfl⟩
  | n + 1 => by
    obtain ⟨t, ht⟩ := bil_even hs hd x n
    exact ⟨t + (x n * sm n fun b => g b n * x b) + x n * x n, by rw [bil_succ hs, ht, hd]; grind⟩
/-- What a pattern that has been looked at gives. -/
structure FinG (n : Nat) (g : Nat → Nat → Int) : Prop where
  symm : ∀ a b, g a b = g b a
  diag : ∀ a, g a a = 2
  off : ∀ a b, a ≠ b → g a b ≤ 0
  pos : ∀ x : Nat → Int, (∃ i, i < n ∧ x i ≠ 0) → ∀ v, v < n → x v * x v < 4 * bil n g x x
theorem finG_of {n : Nat} {l : List Bool} (h : finOK n l = true) : FinG n (gL l) := by
  simp only [finOK, Bool.and_eq_true, List.all_eq_true, List.mem_range] at h
  refine ⟨gL_symm l, gL_diag l, fun a b => gL_off l, fun x hx v hv => ?_⟩
  have h1 := pvF_pos n _ (fun a b => by rw [gL_symm l a b]; simp only [and_comm]) (h.1 v hv) x hx
  rw [bil_gsub n (fun a b => 4 * gL l a b) (fun a b => if a = v ∧ b = v then 1 else 0), bil_gmul, bil_ind hv hv, Int.one_mul] at h1
  omega
namespace FinG
variable {n : Nat} {g : Nat → Nat → Int} (G : FinG n g)
include G
theorem pos1 {x : Nat → Int} (hx : ∃ i, i < n ∧ x i ≠ 0) : 2 ≤ bil n g x x := by
  obtain ⟨i, hi, hn⟩ := hx
  have h1 := G.pos x ⟨i, hi, hn⟩ i hi
  have h2 := sq_nonneg (x i)
  obtain ⟨t, ht⟩ := bil_even G.symm G.diag x n
  omega
theorem le2 {x : Nat → Int} (hx : bil n g x x = 2) {v : Nat} (hv : v < n) : -2 ≤ x v ∧ x v ≤ 2 := by
  by_cases h0 : x v = 0
  · omega
  · have h1 := G.pos x ⟨v, hv, h0⟩ v hv
    rw [hx] at h1
    generalize x v = a at h1
    constructor
    · rcases Int.lt_or_le a (-2) with h | h
      · have : (3 : Int) * 3 ≤ -a * -a := Int.mul_le_mul (by omega) (by omega) (by omega) (by omega)
        have e : (3 : Int) * 3 ≤ a * a := by rw [← Int.neg_mul_neg a a]; exact this
        omega
      · exact h
    · rcases Int.lt_or_le 2 a with h | h
      · have : (3 : Int) * 3 ≤ a * a := Int.mul_le_mul (by omega) (by omega) (by omega) (by omega)
        omega
      · exact h
/-- a root has one sign -/
theorem sign {x : Nat → Int} (hx : bil n g x x = 2) : (∀ i, i < n → 0 ≤ x i) ∨ (∀ i, i < n → x i ≤ 0) := by
  apply Decidable.byContradiction
  intro hcon
  have h1 : ∃ i, i < n ∧ x i < 0 := Decidable.byContradiction fun h => hcon (.inl fun i hi => by
    rcases Int.lt_or_le (x i) 0 with h' | h'
    · exact absurd ⟨i, hi, h'⟩ h
    · exact h')
  have h2 : ∃ i, i < n ∧ 0 < x i := Decidable.byContradiction fun h => hcon (.inr fun i hi => by
    rcases Int.lt_or_le 0 (x i) with h' | h'
    · exact absurd ⟨i, hi, h'⟩ h
    · exact h')
  obtain ⟨i, hi, hxi⟩ := h1
  obtain ⟨j, hj, hxj⟩ := h2
  let p : Nat → Int := fun a => max (x a) 0
  let m : Nat → Int := fun a => max (-x a) 0
  have e : bil n g x x = bil n g p p - 2 * bil n g p m + bil n g m m := by
    have e1 : bil n g x x = bil n g (fun a => p a - m a) (fun a => p a - m a) := bil_congr (fun _ _ _ _ => rfl) (fun a _ => by simp only [p, m]; omega) (fun a _ => by simp only [p, m]; omega)
    rw [e1, bil_subl, bil_symm G.symm p, bil_symm G.symm m, bil_subl, bil_subl, bil_symm G.symm m p]
    omega
  have hpm : bil n g p m ≤ 0 := by
    have : 0 ≤ sm n fun a => sm n fun b => -(g a b * p a * m b) := sm_nonneg n fun a _ => sm_nonneg n fun b _ => by
      by_cases hab : a = b
      · subst hab
        have : p a * m a = 0 := by
          simp only [p, m]
          rcases Int.le_total 0 (x a) with h | h
          · rw [Int.max_eq_right (a := -x a) (by omega)]; simp
          · rw [Int.max_eq_right (a := x a) (by omega)]; simp
        rw [Int.mul_assoc, this]; simp
      · have := Int.mul_nonneg (Int.mul_nonneg (a := -(g a b)) (b := p a) (by have := G.off a b hab; omega) (by simp only [p]; omega)) (show 0 ≤ m b by simp only [m]; omega)
        rw [Int.neg_mul, Int.neg_mul] at this
        exact this
    have e2 : (sm n fun a => sm n fun b => -(g a b * p a * m b)) = -1 * bil n g p m := by
      unfold bil
      rw [← sm_mul]; apply sm_congr; intro a _; rw [← sm_mul]; apply sm_congr; intro b _; omega
    rw [e2] at this; omega
  have hp := G.pos1 (x := p) ⟨j, hj, by simp only [p]; omega⟩
  have hm := G.pos1 (x := m) ⟨i, hi, by simp only [m]; omega⟩
  omega
end FinG
/-- the vector x moved along v -/
def mvF (x : Nat → Int) (v : Nat) (c : Int) (i : Nat) : Int := if i = v then x i - c else x i
theorem bil_mv {n : Nat} {g : Nat → Nat → Int} (hs : ∀ a b, g a b = g b a) (hd : ∀ a, g a a = 2) {v : Nat} (hv : v < n) (x : Nat → Int) (c : Int) : bil n g (mvF x v c) (mvF x v c) = bil n g x x - 2 * c * (sm n fun b => g v b * x b) + 2 * c * c := by
  let d : Nat → Int := fun i => if i = v then 1 else 0
  have hdx : ∀ y : Nat → Int, bil n g d y = sm n fun b => g v b * y b := by
    intro y
    rw [bil_row, sm_one (k := v) n hv]
    · simp [d]
    · intro i _ hi; simp [d, hi]
  have hdd : bil n g d d = 2 := by
    rw [hdx, sm_one (k := v) n hv]
    · simp [d, hd]
    · intro i _ hi; simp [d, hi]
  have e1 : bil n g (mvF x v c) (mvF x v c) = bil n g (fun a => x a - c * d a) (fun a => x a - c * d a) := by
    apply bil_congr (fun _ _ _ _ => rfl) <;> intro a _ <;> simp only [mvF, d] <;> split <;> simp
  rw [e1, bil_subl n g x (fun a => c * d a), bil_mull, bil_symm hs x, bil_symm hs d, bil_subl, bil_subl, bil_mull, bil_mull, hdd, bil_symm hs x d, hdx]
  grind
theorem sm_mv {n : Nat} {h : Nat → Int} {v : Nat} (hv : v < n) (x : Nat → Int) (c : Int) : (sm n fun b => h b * mvF x v c b) = (sm n fun b => h b * x b) - c * h v := by
  have : (sm n fun b => h b * mvF x v c b) = (sm n fun b => h b * x b) - sm n fun b => if b = v then c * h v else 0 := by
    rw [← sm_sub]; apply sm_congr; intro b _; simp only [mvF]; split
    · subst_vars; grind
    · omega
  rw [this, sm_one (f := fun b => if b = v then c * h v else 0) (k := v) n hv fun i _ hi => by simp [hi]]
  simp
theorem FinG.down {n : Nat} {g : Nat → Nat → Int} (G : FinG n g) {x : Nat → Int} (hx : bil n g x x = 2) (h0 : ∀ i, i < n → 0 ≤ x i) (hne : ∀ v, v < n → ¬ ∀ i, i < n → x i = if i = v then 1 else 0) :
    ∃ v, v < n ∧ 0 < (sm n fun b => g v b * x b) ∧ bil n g (mvF x v (sm n fun b => g v b * x b)) (mvF x v (sm n fun b => g v b * x b)) = 2 ∧ 0 ≤ x v - sm n fun b => g v b * x b := by
  have h1 : 0 < sm n fun a => x a * sm n fun b => g a b * x b := by rw [← bil_row, hx]; omega
  obtain ⟨v, hv, hp⟩ := sm_pos_ex n h1
  have hxv := h0 v hv
  obtain ⟨c, hc⟩ : ∃ c, (sm n fun b => g v b * x b) = c := ⟨_, rfl⟩
  rw [hc] at hp
  have hcp : 0 < c := by
    rcases Int.lt_or_le 0 c with h | h
    · exact h
    · have := Int.mul_nonneg hxv (show 0 ≤ -c by omega)
      rw [Int.mul_neg] at this; omega
  have hb : bil n g (mvF x v c) (mvF x v c) = 2 := by rw [bil_mv G.symm G.diag hv, hc, hx]; grind
  refine ⟨v, hv, by rw [hc]; exact hcp, by rw [hc]; exact hb, ?_⟩
  rw [hc]
  rcases G.sign hb with h | h
  · have := h v hv
    simpa [mvF] using this
  · exfalso
    have hz : ∀ i, i < n → i ≠ v → x i = 0 := fun i hi hn => by
      have h2 := h i hi
      simp only [mvF, if_neg hn] at h2
      have := h0 i hi
      omega
    have e : bil n g x x = 2 * (x v * x v) := by
      rw [bil_row, sm_one (k := v) n hv fun i hi hn => by rw [hz i hi hn]; simp]
      rw [sm_one (k := v) n hv fun i hi hn => by rw [hz i hi hn]; simp, G.diag]
      grind
    rw [hx] at e
    have e1 : x v = 1 := by
      have h3 := (G.le2 hx hv)
      have : x v = 0 ∨ x v = 1 ∨ x v = 2 := by omega
      rcases this with h | h | h <;> rw [h] at e <;> omega
    exact hne v hv fun i hi => by
      split
      · subst_vars; exact e1
      · exact hz i hi ‹_›
theorem fin_ok {q : Qv} (hk : kindQ q = 1) : ∃ l : List Bool, (∀ a b, a < q.v.toNat → b < q.v.toNat → ent q q.f.length a b = gL l a b) ∧ finOK q.v.toNat l = true := by
  obtain ⟨hq, l, hl, he, hd⟩ := fin_pat hk
  have hv := (isQ_t.1 hq).1
  refine ⟨l, he, ?_⟩
  have h := allBL_all (pat_all (n := q.v.toNat) (by omega) (by omega)) l hl
  have hw := wit_lt q.v.toNat (by omega) l hl
  unfold patOK at h
  split at h
  · exact h
  · rename_i s hs
    have := hd (s + 1) (by omega) (by omega)
    simp only [decide_eq_true_eq] at h
    omega
theorem ent_symm (q : Qv) (a b : Nat) : ent q q.f.length a b = ent q q.f.length b a := by
  unfold ent; simp only [eq_comm (a := a) (b := b)]; omega
theorem fin_G {q : Qv} (hk : kindQ q = 1) : FinG q.v.toNat (ent q q.f.length) := by
  obtain ⟨l, he, ho⟩ := fin_ok hk
  obtain ⟨hq, _⟩ := fin_pat hk
  have G := finG_of ho
  refine ⟨ent_symm q, fun a => ?_, fun a b hab => by unfold ent; rw [if_neg hab]; omega, fun x hx v hv => ?_⟩
  · by_cases ha : a < q.v.toNat
    · rw [he a a ha ha, G.diag]
    · have h0 : arr q a a q.f.length = 0 := by
        rw [arr, List.countP_eq_zero]
        intro p hp
        have h1 := (isQ_t.1 hq).2.2.2.1 p.1 (List.of_mem_zip (List.mem_of_mem_take hp)).1
        simp only [Bool.and_eq_true, beq_iff_eq]
        omega
      rw [ent, h0, if_pos rfl]; rfl
  · rw [bil_congr he (fun _ _ => rfl) (fun _ _ => rfl)]
    exact G.pos x hx v hv
/-! ### vectors as lists -/
def vx (x : List Int) (i : Nat) : Int := x.getD i 0
/-- the form of Euler -/
def eulV (x y : List Int) (n : Nat) : Int := sm n fun v => vx x v * vx y v
def eulA (q : Qv) (x y : List Int) (k : Nat) : Int := sm k fun i => vx x (vx q.f i).toNat * vx y (vx q.t i).toNat
def eul (q : Qv) (x y : List Int) : Int := eulV x y q.v.toNat - eulA q x y q.f.length
theorem bil_idn (n : Nat) (x y : Nat → Int) : bil n (fun a b => if a = b then 2 else 0) x y = 2 * sm n fun v => x v * y v := by
  rw [bil_row, ← sm_mul]
  apply sm_congr; intro a ha
  rw [sm_one (k := a) n ha fun i _ hi => by rw [if_neg (fun h => hi h.symm)]; simp]
  simp; grind
theorem ent_eul {q : Qv} (hq : isQ q = true) (x : List Int) : ∀ k, k ≤ q.f.length → bil q.v.toNat (ent q k) (vx x) (vx x) = 2 * (eulV x x q.v.toNat - eulA q x x k)
  | 0, _ => by
    rw [bil_congr (h := fun a b => if a = b then 2 else 0) (x' := vx x) (y' := vx x) (fun a b _ _ => ent_zero q a b) (fun _ _ => rfl) (fun _ _ => rfl), bil_idn]
    simp [eulV, eulA, sm]
  | k + 1, hk => by
    obtain ⟨_, hl, _, hf, ht⟩ := isQ_t.1 hq
    have h1 : q.f[k]? = some q.f[k] := List.getElem?_eq_getElem (by omega)
    have h2 : q.t[k]? = some q.t[k] := List.getElem?_eq_getElem (by omega)
    have r1 := hf _ (List.mem_of_getElem? h1)
    have r2 := ht _ (List.mem_of_getElem? h2)
    obtain ⟨u, hu⟩ : ∃ u : Nat, q.f[k] = (u : Int) := ⟨q.f[k].toNat, by omega⟩
    obtain ⟨v, hv⟩ : ∃ v : Nat, q.t[k] = (v : Int) := ⟨q.t[k].toNat, by omega⟩
    rw [hu] at h1 r1
    rw [hv] at h2 r2
    have e1 : vx q.f k = u := by rw [vx, List.getD_eq_getElem?_getD, h1]; rfl
    have e2 : vx q.t k = v := by rw [vx, List.getD_eq_getElem?_getD, h2]; rfl
    rw [bil_congr (h := fun a b => (ent q k a b - (if a = u ∧ b = v then 1 else 0)) - (if a = v ∧ b = u then 1 else 0)) (x' := vx x) (y' := vx x) (fun a b _ _ => ent_succ h1 h2 a b) (fun _ _ => rfl) (fun _ _ => rfl)]
    rw [bil_gsub _ (fun a b => ent q k a b - (if a = u ∧ b = v then 1 else 0)), bil_gsub _ (ent q k), ent_eul hq x k (by omega), bil_ind (by omega) (by omega), bil_ind (by omega) (by omega)]
    simp only [eulA, sm, e1, e2, Int.toNat_natCast]
    grind
theorem dotS_sm (g : Nat → Int) (x : List Int) : ∀ k, dotS g x k = sm k fun b => g b * vx x b
  | 0 => rfl
  | k + 1 => by rw [dotS, sm, dotS_sm g x k]; rfl
theorem vx_refl (q : Qv) (x : List Int) (v : Nat) (hv : v < x.length) (i : Nat) : vx (reflL q x v) i = mvF (vx x) v (sm x.length fun b => ent q q.f.length v b * vx x b) i := by
  simp only [vx, reflL, mvF, List.getD_eq_getElem?_getD, List.getElem?_set, dotS_sm]
  by_cases e : v = i
  · subst e; simp [hv]
  · rw [if_neg e, if_neg (fun h => e h.symm)]
theorem reflL_length (q : Qv) (x : List Int) (v : Nat) : (reflL q x v).length = x.length := by simp [reflL]
theorem vx_ext {x y : List Int} (hl : x.length = y.length) (h : ∀ i, i < x.length → vx x i = vx y i) : x = y := by
  apply List.ext_getElem hl
  intro i h1 h2
  have := h i h1
  simp only [vx, List.getD_eq_getElem?_getD, List.getElem?_eq_getElem h1, List.getElem?_eq_getElem h2] at this
  exact this
/-- unit vectors -/
def uniV (n v : Nat) : List Int := (List.range n).map fun i => if i = v then 1 else 0
theorem uniV_length (n v : Nat) : (uniV n v).length = n := by simp [uniV]
theorem vx_uni {n v i : Nat} (hi : i < n) : vx (uniV n v) i = if i = v then 1 else 0 := by simp [vx, uniV, hi]
/-- a positive root of q, as a list -/
structure isRt (q : Qv) (x : List Int) : Prop where
  len : x.length = q.v.toNat
  nn : ∀ i, i < x.length → 0 ≤ vx x i
  one : eul q x x = 1
theorem eul_bil {q : Qv} (hq : isQ q = true) (x : List Int) : bil q.v.toNat (ent q q.f.length) (vx x) (vx x) = 2 * eul q x x := ent_eul hq x _ (Nat.le_refl _)
theorem fin_isQ {q : Qv} (hk : kindQ q = 1) : isQ q = true := (fin_pat hk).1
theorem isRt.two {q : Qv} (hk : kindQ q = 1) {x : List Int} (h : isRt q x) : bil q.v.toNat (ent q q.f.length) (vx x) (vx x) = 2 := by rw [eul_bil (fin_isQ hk), h.one]; rfl
theorem isRt.le2 {q : Qv} (hk : kindQ q = 1) {x : List Int} (h : isRt q x) {v : Nat} (hv : v < x.length) : 0 ≤ vx x v ∧ vx x v ≤ 2 := ⟨h.nn v hv, ((fin_G hk).le2 (h.two hk) (by have := h.len; omega)).2⟩
theorem isRt_uni {q : Qv} (hk : kindQ q = 1) {v : Nat} (hv : v < q.v.toNat) : isRt q (uniV q.v.toNat v) := by
  refine ⟨uniV_length _ _, fun i hi => ?_, ?_⟩
  · rw [uniV_length] at hi; rw [vx_uni hi]; split <;> omega
  · have h := eul_bil (fin_isQ hk) (uniV q.v.toNat v)
    rw [bil_row, sm_one (k := v) _ hv fun i hi hn => by rw [vx_uni hi, if_neg hn]; simp] at h
    rw [sm_one (k := v) _ hv fun i hi hn => by rw [vx_uni hi, if_neg hn]; simp, vx_uni hv, if_pos rfl, (fin_G hk).diag] at h
    omega
/-- a reflected root whose number at v is not negative is a root -/
theorem isRt_refl {q : Qv} {x : List Int} (h : isRt q x) {v : Nat} (hv : v < q.v.toNat) (h0 : 0 ≤ (reflL q x v).getD v 0) (h1 : eul q (reflL q x v) (reflL q x v) = 1) : isRt q (reflL q x v) := by
  refine ⟨(reflL_length _ _ _).trans h.len, fun i hi => ?_, h1⟩
  rw [reflL_length] at hi
  by_cases e : i = v
  · subst e; exact h0
  · rw [vx_refl _ _ _ (by have := h.len; omega), mvF, if_neg e]; exact h.nn i hi
def sumL (x : List Int) : Int := sm x.length (vx x)
/-- **All roots come from the unit vectors by reflections.** -/
theorem rt_all {q : Qv} (hk : kindQ q = 1) (S : List Int → Prop) (hu : ∀ v, v < q.v.toNat → S (uniV q.v.toNat v))
    (hr : ∀ x v, S x → isRt q x → v < q.v.toNat → 0 ≤ (reflL q x v).getD v 0 → eul q (reflL q x v) (reflL q x v) = 1 → S (reflL q x v)) :
    ∀ (m : Nat) (x : List Int), isRt q x → sumL x ≤ m → S x := by
  intro m
  induction m with
  | zero =>
    intro x hx hm
    exfalso
    have h2 := hx.two hk
    have hz : ∀ i, i < x.length → vx x i = 0 := by
      intro i hi
      have h3 := hx.nn i hi
      have h4 : vx x i ≤ sumL x := by
        have : sumL x = vx x i + sm x.length fun j => if j = i then 0 else vx x j := by
          rw [sumL, sm_congr (g := fun j => (if j = i then vx x i else 0) + if j = i then 0 else vx x j) _ (fun j _ => by split <;> simp_all), sm_add, sm_one (f := fun j => if j = i then vx x i else 0) (k := i) _ hi fun j _ hj => by simp [hj]]
          simp
        have h5 := sm_nonneg (f := fun j => if j = i then 0 else vx x j) x.length fun j hj => by
          split
          · omega
          · exact hx.nn j hj
        omega
      omega
    rw [bil_row, sm_congr (g := fun _ => 0) _ (fun i hi => by rw [hz i (by have := hx.len; omega)]; simp), sm_zero] at h2
    omega
  | succ m ih =>
    intro x hx hm
    by_cases hs : ∃ v, v < q.v.toNat ∧ ∀ i, i < q.v.toNat → vx x i = if i = v then 1 else 0
    · obtain ⟨v, hv, he⟩ := hs
      have : x = uniV q.v.toNat v := vx_ext (by rw [uniV_length, hx.len]) fun i hi => by rw [vx_uni (by have := hx.len; omega), he i (by have := hx.len; omega)]
      rw [this]; exact hu v hv
    · obtain ⟨v, hv, hc, hb, h0⟩ := (fin_G hk).down (hx.two hk) (fun i hi => hx.nn i (by have := hx.len; omega)) (fun v hv h => hs ⟨v, hv, h⟩)
      have hvl : v < x.length := by have := hx.len; omega
      have ey : ∀ i, vx (reflL q x v) i = mvF (vx x) v (sm q.v.toNat fun b => ent q q.f.length v b * vx x b) i := fun i => by rw [vx_refl _ _ _ hvl, hx.len]
      have hy : isRt q (reflL q x v) := isRt_refl hx hv (by show 0 ≤ vx _ v; rw [ey, mvF, if_pos rfl]; exact h0) (by
        have h := eul_bil (fin_isQ hk) (reflL q x v)
        rw [bil_congr (fun _ _ _ _ => rfl) (fun a _ => ey a) (fun a _ => ey a), hb] at h
        omega)
      have hback : reflL q (reflL q x v) v = x := by
        refine vx_ext (by simp [reflL_length]) fun i hi => ?_
        rw [vx_refl _ _ _ (by rw [reflL_length]; exact hvl), reflL_length, hx.len]
        have e2 : (sm q.v.toNat fun b => ent q q.f.length v b * vx (reflL q x v) b) = -(sm q.v.toNat fun b => ent q q.f.length v b * vx x b) := by
          rw [sm_congr (g := fun b => ent q q.f.length v b * mvF (vx x) v (sm q.v.toNat fun b => ent q q.f.length v b * vx x b) b) _ (fun b _ => by rw [ey]), sm_mv hv, (fin_G hk).diag]
          omega
        rw [e2]
        simp only [mvF, ey]
        split <;> omega
      have hsum : sumL (reflL q x v) ≤ m := by
        have : sumL (reflL q x v) = sumL x - sm q.v.toNat fun b => ent q q.f.length v b * vx x b := by
          have e3 := sm_mv (h := fun _ => 1) hv (vx x) (sm q.v.toNat fun b => ent q q.f.length v b * vx x b)
          simp only [Int.one_mul, Int.mul_one] at e3
          rw [sumL, reflL_length, hx.len, sm_congr _ (fun i _ => ey i), e3, sumL, hx.len]
        omega
      have hS := ih _ hy hsum
      have := hr _ v hS hy hv (by rw [hback]; exact hx.nn v hvl) (by rw [hback]; exact hx.one)
      rw [hback] at this
      exact this
/-! ### how many roots -/
def lstR : List (List Bool) → List Nat → Nat → Nat → List (List Nat)
  | [], xs, p, m => if p == m + 1 then [xs] else []
  | row :: rs, xs, p, m => lstR rs (0 :: xs) p m ++ lstR rs (1 :: xs) (p + 1) (m + dotB row xs) ++ lstR rs (2 :: xs) (p + 4) (m + 2 * dotB row xs)
theorem lstR_length : ∀ rs xs p m, (lstR rs xs p m).length = cntR rs xs p m
  | [], xs, p, m => by simp only [lstR, cntR]; split <;> rfl
  | row :: rs, xs, p, m => by simp only [lstR, cntR, List.length_append, lstR_length rs]
/-- the squares and the edges behind more numbers -/
def runR : List (List Bool) → List Nat → List Nat → Nat → Nat → Nat × Nat
  | row :: rs, y :: ys, xs, p, m => runR rs ys (y :: xs) (p + y * y) (m + y * dotB row xs)
  | _, _, _, p, m => (p, m)
theorem lstR_mem : ∀ (rs : List (List Bool)) (ys xs : List Nat) (p m : Nat), rs.length = ys.length → (∀ y ∈ ys, y ≤ 2) → (runR rs ys xs p m).1 = (runR rs ys xs p m).2 + 1 → ys.reverse ++ xs ∈ lstR rs xs p m
  | [], [], xs, p, m, _, _, h => by
    simp only [runR] at h
    simp [lstR, h]
  | row :: rs, y :: ys, xs, p, m, hl, hy, h => by
    have ih := lstR_mem rs ys (y :: xs) (p + y * y) (m + y * dotB row xs) (by simpa using hl) (fun z hz => hy z (by simp [hz])) h
    have h2 : y = 0 ∨ y = 1 ∨ y = 2 := by have := hy y (by simp); omega
    simp only [lstR, List.reverse_cons, List.append_assoc, List.singleton_append, List.mem_append]
    rcases h2 with rfl | rfl | rfl
    · exact .inl (by simpa using ih)
    · exact .inr (.inl (by simpa using ih))
    · exact .inr (.inr (by simpa using ih))
theorem runR_snoc : ∀ (rs : List (List Bool)) (row : List Bool) (ys : List Nat) (y : Nat) (xs : List Nat) (p m : Nat), rs.length = ys.length → runR (rs ++ [row]) (ys ++ [y]) xs p m = ((runR rs ys xs p m).1 + y * y, (runR rs ys xs p m).2 + y * dotB row (ys.reverse ++ xs))
  | [], row, [], y, xs, p, m, _ => by simp [runR]
  | r :: rs, row, z :: ys, y, xs, p, m, h => by
    simp only [List.cons_append, runR]
    rw [runR_snoc rs row ys y (z :: xs) _ _ (by simpa using h)]
    simp
def ltN (X : Nat → Nat) (n : Nat) : List Nat := (List.range n).map X
theorem dotB_sm (l : List Bool) (X : Nat → Nat) (n : Nat) : ∀ b, b ≤ n → (dotB (((List.range b).map fun a => l.getD (pIdx a n) false).reverse) (ltN X b).reverse : Int) = - sm b fun a => gL l a n * X a
  | 0, _ => by simp [dotB, sm, ltN]
  | b + 1, hb => by
    have ih := dotB_sm l X n b (by omega)
    simp only [ltN, List.range_succ, List.map_append, List.map_cons, List.map_nil, List.reverse_append, List.reverse_cons, List.reverse_nil, List.nil_append, List.singleton_append]
    simp only [ltN] at ih
    rw [sm]
    have hg : gL l b n = if l.getD (pIdx b n) false = true then -1 else 0 := by simp only [gL, if_neg (show ¬ b = n by omega), if_pos (show b < n by omega)]
    cases hB : l.getD (pIdx b n) false
    · rw [hB] at hg
      simp only [dotB]
      rw [hg, ih]; simp
    · rw [hB] at hg
      simp only [dotB]
      rw [hg, Int.natCast_add, ih]; simp; omega
theorem rowsL_length (l : List Bool) : ∀ n, (rowsL n l).length = n
  | 0 => rfl
  | n + 1 => by simp [rowsL, rowsL_length l n]
theorem runR_bil (l : List Bool) (X : Nat → Nat) : ∀ n, (bil n (gL l) (fun i => X i) (fun i => X i) : Int) = 2 * ((runR (rowsL n l) (ltN X n) [] 0 0).1 : Int) - 2 * ((runR (rowsL n l) (ltN X n) [] 0 0).2 : Int)
  | 0 => by simp [bil, sm, runR, rowsL]
  | n + 1 => by
    rw [bil_succ (gL_symm l), runR_bil l X n, gL_diag]
    have h := dotB_sm l X n n (Nat.le_refl n)
    have e : ltN X (n + 1) = ltN X n ++ [X n] := by simp [ltN, List.range_succ]
    rw [rowsL, e, runR_snoc _ _ _ _ _ _ _ (by simp [rowsL_length, ltN])]
    simp only [List.append_nil]
    generalize runR (rowsL n l) (ltN X n) [] 0 0 = pm
    obtain ⟨D, hD⟩ : ∃ D, dotB (((List.range n).map fun a => l.getD (pIdx a n) false).reverse) (ltN X n).reverse = D := ⟨_, rfl⟩
    rw [hD] at h ⊢
    have h2 : (sm n fun a => gL l a n * (X a : Int)) = -(D : Int) := by omega
    rw [h2]
    simp only [Int.natCast_add, Int.natCast_mul]
    grind
theorem nodup_sub {α : Type} [DecidableEq α] : ∀ (l m : List α), l.Nodup → (∀ x ∈ l, x ∈ m) → l.length ≤ m.length
  | [], _, _, _ => by simp
  | a :: r, m, hd, h => by
    obtain ⟨h1, h2⟩ := List.nodup_cons.1 hd
    have ha := h a (by simp)
    have := nodup_sub r (m.erase a) h2 fun x hx => (List.mem_erase_of_ne (by rintro rfl; exact h1 hx)).2 (h x (by simp [hx]))
    rw [List.length_erase_of_mem ha] at this
    have : 0 < m.length := List.length_pos_of_mem ha
    simp only [List.length_cons]
    omega
theorem nodup_mapF {α β : Type} {f : α → β} : ∀ {l : List α}, l.Nodup → (∀ x ∈ l, ∀ y ∈ l, f x = f y → x = y) → (l.map f).Nodup
  | [], _, _ => by simp
  | a :: r, hd, h => by
    obtain ⟨h1, h2⟩ := List.nodup_cons.1 hd
    rw [List.map_cons, List.nodup_cons]
    refine ⟨fun hm => ?_, nodup_mapF h2 fun x hx y hy => h x (by simp [hx]) y (by simp [hy])⟩
    obtain ⟨x, hx, e⟩ := List.mem_map.1 hm
    have := h x (by simp [hx]) a (by simp) e
    exact h1 (this ▸ hx)
/-- **At most twenty roots.** -/
theorem rt_20 {q : Qv} (hk : kindQ q = 1) (R : List (List Int)) (hn : R.Nodup) (hR : ∀ x ∈ R, isRt q x) : R.length ≤ 20 := by
  obtain ⟨l, he, ho⟩ := fin_ok hk
  simp only [finOK, Bool.and_eq_true] at ho
  have hc : cntR (rowsL q.v.toNat l) [] 0 0 ≤ 20 := by simpa using ho.2
  rw [← lstR_length] at hc
  have h1 := nodup_sub (R.map fun x => ((x.map Int.toNat).reverse)) (lstR (rowsL q.v.toNat l) [] 0 0) (nodup_mapF hn fun x hx y hy e => ?_) ?_
  · rw [List.length_map] at h1; omega
  · have e := List.reverse_inj.1 e
    have hlx := (hR x hx).len
    have hly := (hR y hy).len
    refine vx_ext (by omega) fun i hi => ?_
    have h1 := congrArg (fun z => z[i]?) e
    simp only [List.getElem?_map, List.getElem?_eq_getElem hi, List.getElem?_eq_getElem (show i < y.length by omega), Option.map_some, Option.some.injEq] at h1
    have nx := (hR x hx).nn i hi
    have ny := (hR y hy).nn i (by omega)
    simp only [vx, List.getD_eq_getElem?_getD, List.getElem?_eq_getElem hi, List.getElem?_eq_getElem (show i < y.length by omega), Option.getD_some] at nx ny ⊢
    omega
  · intro z hz
    obtain ⟨x, hx, rfl⟩ := List.mem_map.1 hz
    have hx' := hR x hx
    have e : x.map Int.toNat = ltN (fun i => (vx x i).toNat) q.v.toNat := by
      apply List.ext_getElem (by simp [ltN, hx'.len])
      intro i h1 h2
      simp [ltN, vx, List.getD_eq_getElem?_getD, List.getElem?_eq_getElem (show i < x.length by simpa using h1)]
    have hb := hx'.two hk
    rw [bil_congr he (x' := fun i => (((vx x i).toNat : Nat) : Int)) (y' := fun i => (((vx x i).toNat : Nat) : Int)) (fun a ha => by have := hx'.nn a (by have := hx'.len; omega); omega) (fun a ha => by have := hx'.nn a (by have := hx'.len; omega); omega)] at hb
    rw [runR_bil l (fun i => (vx x i).toNat) q.v.toNat, ← e] at hb
    have h2 := lstR_mem (rowsL q.v.toNat l) (x.map Int.toNat) [] 0 0 (by simp [rowsL_length, hx'.len]) (fun y hy => by
      obtain ⟨w, hw, rfl⟩ := List.mem_map.1 hy
      obtain ⟨i, hi⟩ := List.mem_iff_getElem?.1 hw
      have hil := lt_of_some hi
      have := hx'.le2 hk hil
      rw [vx, List.getD_eq_getElem?_getD, hi] at this
      simp at this
      omega) (by omega)
    simpa using h2
end Go.Proofs.Ytgbchoenmpoojaa

/- Knitting, plain: a quiver of finite kind has an order; the dimensions of its projectives are roots. -/
namespace Go.Proofs.Ytgbchoenmpoojaa
set_option linter.unusedVariables false
set_option linter.unusedSimpArgs false
open Go.RowKit

theorem sm_le {f g : Nat → Int} : ∀ n, (∀ i, i < n → f i ≤ g i) → sm n f ≤ sm n g
  | 0, _ => by simp [sm]
  | n + 1, h => by
    have h1 := sm_le n fun i hi => h i (by omega)
    have h2 := h n (by omega)
    rw [sm, sm]; omega
theorem sm_term {f : Nat → Int} {k : Nat} : ∀ n, (∀ i, i < n → 0 ≤ f i) → k < n → f k ≤ sm n f
  | 0, _, h => by omega
  | n + 1, h0, h => by
    rw [sm]
    by_cases e : k = n
    · subst e
      have := sm_nonneg k fun i hi => h0 i (by omega)
      omega
    · have h1 := sm_term n (fun i hi => h0 i (by omega)) (show k < n by omega)
      have h2 := h0 n (by omega)
      omega
theorem bst_none {q : Qv} {out : List Int} {V : Nat} : ∀ m, m ≤ V → bst q out V m < 0 → ∀ v : Nat, V - m ≤ v → v < V → fre q out v = false
  | 0, _, _, v, h1, h2 => by omega
  | m + 1, hm, h, v, h1, h2 => by
    by_cases hf : fre q out ((V : Int) - 1 - m) = true
    · rw [bst, if_pos hf] at h; omega
    · rw [bst, if_neg hf] at h
      by_cases e : v = V - (m + 1)
      · have e2 : ((v : Nat) : Int) = (V : Int) - 1 - m := by omega
        rw [e2]; simpa using hf
      · exact bst_none m (by omega) h v (by omega) h2
theorem rdy_f {q : Qv} {out : List Int} {v : Int} (h : rdy q out v = false) : ∃ (i : Nat) (a : Int), q.f[i]? = some a ∧ q.t[i]? = some v ∧ a ∉ out := by
  unfold rdy at h
  rw [List.all_eq_false] at h
  obtain ⟨p, hp, hn⟩ := h
  obtain ⟨i, hi⟩ := List.mem_iff_getElem?.1 hp
  rw [List.getElem?_zip_eq_some] at hi
  simp only [Bool.or_eq_true, Bool.not_eq_true', beq_eq_false_iff_ne, decide_eq_true_eq, not_or, ne_eq, Classical.not_not] at hn
  exact ⟨i, p.1, hi.1, by rw [hi.2, hn.1], hn.2⟩
theorem vx_some {l : List Int} {k : Nat} {x : Int} (h : l[k]? = some x) : vx l k = x := by rw [vx, List.getD_eq_getElem?_getD, h]; rfl
theorem vx_mem {l : List Int} {k : Nat} (h : k < l.length) : vx l k ∈ l := by
  rw [vx_some (List.getElem?_eq_getElem h)]; exact List.getElem_mem h
theorem stuck_no {q : Qv} (hk : kindQ q = 1) {out : List Int} (ho : OrdOk q out) (hlt : out.length < q.v.toNat) : 0 ≤ bst q out q.v.toNat q.v.toNat := by
  apply Classical.byContradiction
  intro hn
  have hq := fin_isQ hk
  obtain ⟨hv, hlen, h6, hf, ht⟩ := isQ_t.1 hq
  have hfre := bst_none (q := q) (out := out) q.v.toNat (Nat.le_refl _) (by omega)
  let x : List Int := (List.range q.v.toNat).map fun v : Nat => if (v : Int) ∈ out then 0 else 1
  have hx : ∀ v, v < q.v.toNat → vx x v = if (v : Int) ∈ out then 0 else 1 := fun v hv => by simp [vx, x, hv]
  have hx0 : ∀ v, 0 ≤ vx x v := fun v => by
    by_cases h : v < q.v.toNat
    · rw [hx v h]; split <;> omega
    · have : vx x v = 0 := by
        rw [vx, List.getD_eq_getElem?_getD, List.getElem?_eq_none (by simp [x]; omega)]; rfl
      omega
  have hne : ∃ v, v < q.v.toNat ∧ vx x v ≠ 0 := by
    apply Classical.byContradiction
    intro hcon
    have hall : ∀ v, v < q.v.toNat → (v : Int) ∈ out := fun v hv => by
      apply Classical.byContradiction
      intro hm
      exact hcon ⟨v, hv, by rw [hx v hv, if_neg hm]; omega⟩
    have := nodup_sub ((List.range q.v.toNat).map fun v : Nat => (v : Int)) out (nodup_mapF List.nodup_range fun a _ b _ (e : (a : Int) = (b : Int)) => by omega) (by
      intro y hy
      obtain ⟨v, hv, rfl⟩ := List.mem_map.1 hy
      exact hall v (List.mem_range.1 hv))
    simp at this; omega
  have hpos := (fin_G hk).pos1 (x := vx x) hne
  rw [eul_bil hq, eul] at hpos
  have hle : eulV x x q.v.toNat ≤ eulA q x x q.f.length := by
    have e : eulA q x x q.f.length = sm q.v.toNat fun v => sm q.f.length fun i => if (vx q.t i).toNat = v then vx x (vx q.f i).toNat * vx x v else 0 := by
      rw [← sm_swap]
      unfold eulA
      apply sm_congr; intro i hi
      have hti := ht _ (vx_mem (l := q.t) (k := i) (by omega))
      rw [sm_one (k := (vx q.t i).toNat) _ (by omega) fun j _ hj => by rw [if_neg (fun h => hj h.symm)], if_pos rfl]
    rw [e]
    apply sm_le; intro v hv
    by_cases hm : (v : Int) ∈ out
    · have h0 : vx x v = 0 := by rw [hx v hv, if_pos hm]
      rw [h0]
      refine Int.le_trans (by simp) (sm_nonneg _ fun i _ => ?_)
      split <;> simp
    · have h1 : vx x v = 1 := by rw [hx v hv, if_neg hm]
      have hfr := hfre v (by omega) hv
      rw [fre, Bool.and_eq_false_iff] at hfr
      have hr : rdy q out v = false := by
        rcases hfr with h | h
        · simp [hm] at h
        · exact h
      obtain ⟨i, a, hfa, htv, ha⟩ := rdy_f hr
      have hi := lt_of_some hfa
      have har := hf a (List.mem_iff_getElem?.2 ⟨i, hfa⟩)
      have hxa : vx x a.toNat = 1 := by rw [hx _ (by omega), if_neg (by rw [Int.toNat_of_nonneg har.1]; exact ha)]
      refine Int.le_trans ?_ (sm_term (k := i) _ (fun j _ => ?_) hi)
      · rw [vx_some hfa, vx_some htv, Int.toNat_natCast, if_pos rfl, hxa, h1]; exact Int.le_refl _
      · split
        · exact Int.mul_nonneg (hx0 _) (hx0 _)
        · exact Int.le_refl _
  omega
theorem ordGo_yes {q : Qv} (hk : kindQ q = 1) : ∀ (n : Nat) (out : List Int), OrdOk q out → out.length + n = q.v.toNat → (ordGo q q.v.toNat n out).2 = true
  | 0, _, _, _ => rfl
  | n + 1, out, ho, hl => by
    have hb := stuck_no hk ho (by omega)
    have hq := fin_isQ hk
    have hv := (isQ_t.1 hq).1
    have hr := bst_rng q out q.v.toNat q.v.toNat (Nat.le_refl _)
    rw [ordGo, if_neg (by omega)]
    exact ordGo_yes hk n _ (ho.snoc hb (by omega) (bst_fre _ hb)) (by simp; omega)
theorem kind_acy {q : Qv} (hk : kindQ q = 1) : acyQ q = true := by
  rw [acyQ, ordQ, if_pos (fin_isQ hk)]
  exact ordGo_yes hk _ [] (OrdOk.nil q) (by simp)
/-! ### numbers of paths -/
def cN (q : Qv) : Nat → Int → Int → Int
  | 0, s, w => if s = w then 1 else 0
  | n + 1, s, w => (if s = w then 1 else 0) + sm q.f.length fun i => if vx q.f i = s then cN q n (vx q.t i) w else 0
theorem cnt_R (q : Qv) (n : Nat) (s w : Int) (ih : ∀ t : Int, (((pthF q n t).filter fun r => endP q t r == w).length : Int) = cN q n t w) : ∀ k, (((pthR q n s k).filter fun r => endP q s r == w).length : Int) = (if s = w then 1 else 0) + sm k fun i => if vx q.f i = s then cN q n (vx q.t i) w else 0
  | 0 => by
    rw [pthR_0]
    by_cases h : s = w
    · simp [endP, h, sm]
    · simp [endP, h, sm]
  | k + 1 => by
    have h1 := cnt_R q n s w ih k
    have e : pthR q n s (k + 1) = pthR q n s k ++ (if vx q.f k = s then (pthF q n (vx q.t k)).map fun r => (k : Int) :: r else []) := by
      simp only [pthR, List.range_succ, List.flatMap_append, List.flatMap_cons, List.flatMap_nil, List.append_nil, List.cons_append]
      rfl
    rw [e, List.filter_append, List.length_append, Int.natCast_add, h1, sm, Int.add_assoc]
    congr 2
    by_cases h : vx q.f k = s
    · rw [if_pos h, if_pos h, ← ih, List.filter_map, List.length_map]
      rfl
    · rw [if_neg h, if_neg h]; rfl
theorem cnt_F (q : Qv) (w : Int) : ∀ (n : Nat) (s : Int), (((pthF q n s).filter fun r => endP q s r == w).length : Int) = cN q n s w
  | 0, s => by
    by_cases h : s = w
    · simp [pthF, endP, cN, h]
    · simp [pthF, endP, cN, h]
  | n + 1, s => by rw [pthF_R, cnt_R q n s w (cnt_F q w n), cN]
theorem cN_nonneg (q : Qv) (w : Int) : ∀ (n : Nat) (s : Int), 0 ≤ cN q n s w
  | 0, s => by rw [cN]; split <;> omega
  | n + 1, s => by
    have h1 := sm_nonneg (f := fun i => if vx q.f i = s then cN q n (vx q.t i) w else 0) q.f.length fun i _ => by
      show 0 ≤ if vx q.f i = s then cN q n (vx q.t i) w else 0
      split
      · exact cN_nonneg q w n _
      · omega
    rw [cN]; split <;> omega
/-- .. by the last arrow -/
theorem cN_last (q : Qv) : ∀ (n : Nat) (s w : Int), cN q (n + 1) s w = (if s = w then 1 else 0) + sm q.f.length fun i => if vx q.t i = w then cN q n s (vx q.f i) else 0
  | 0, s, w => by
    rw [cN]
    congr 1
    apply sm_congr; intro i _
    simp only [cN]
    by_cases h1 : vx q.f i = s
    · by_cases h2 : vx q.t i = w
      · simp [h1, h2]
      · simp [h1, h2]
    · by_cases h2 : vx q.t i = w
      · simp [h1, h2, Ne.symm h1]
      · simp [h1, h2]
  | n + 1, s, w => by
    have e1 : (sm q.f.length fun i => if vx q.f i = s then cN q (n + 1) (vx q.t i) w else 0) = (sm q.f.length fun i => if vx q.f i = s then (if vx q.t i = w then 1 else 0) else 0) + sm q.f.length fun i => sm q.f.length fun j => if vx q.f i = s then (if vx q.t j = w then cN q n (vx q.t i) (vx q.f j) else 0) else 0 := by
      rw [← sm_add]
      apply sm_congr; intro i _
      by_cases h : vx q.f i = s
      · simp only [if_pos h]; rw [cN_last q n]
      · simp only [if_neg h, sm_zero]; rfl
    have e2 : (sm q.f.length fun j => if vx q.t j = w then cN q (n + 1) s (vx q.f j) else 0) = (sm q.f.length fun j => if vx q.t j = w then (if s = vx q.f j then 1 else 0) else 0) + sm q.f.length fun j => sm q.f.length fun i => if vx q.f i = s then (if vx q.t j = w then cN q n (vx q.t i) (vx q.f j) else 0) else 0 := by
      rw [← sm_add]
      apply sm_congr; intro j _
      by_cases h : vx q.t j = w
      · simp only [if_pos h]; rw [cN]
      · simp only [if_neg h, ite_self, sm_zero]; rfl
    rw [cN, e1, e2, sm_swap]
    congr 2
    apply sm_congr; intro i _
    by_cases h1 : vx q.f i = s
    · simp [h1]
    · simp [h1, Ne.symm h1]
/-- enough arrows -/
theorem cN_stab {q : Qv} {h : Int → Nat} (hh : Hgt q h) (hl : q.f.length = q.t.length) (w : Int) : ∀ (n : Nat) (s : Int), h s ≤ n → cN q (n + 1) s w = cN q n s w
  | 0, s, hs => by
    rw [cN, cN, sm_congr (g := fun _ => 0) _ fun i hi => ?_, sm_zero, Int.add_zero]
    have hf : q.f[i]? = some (q.f[i]'hi) := List.getElem?_eq_getElem hi
    rw [vx_some hf, if_neg (hgt_0 hh hl (by omega) hf)]
  | n + 1, s, hs => by
    rw [cN, cN]
    congr 1
    apply sm_congr; intro i hi
    have hf : q.f[i]? = some (q.f[i]'hi) := List.getElem?_eq_getElem hi
    have ht : q.t[i]? = some (q.t[i]'(by omega)) := List.getElem?_eq_getElem (by omega)
    rw [vx_some hf, vx_some ht]
    split
    · rename_i e
      have := hh i _ _ hf ht
      rw [e] at this
      exact cN_stab hh hl w n _ (by omega)
    · rfl
theorem cN_far {q : Qv} {h : Int → Nat} (hh : Hgt q h) (hl : q.f.length = q.t.length) (w : Int) : ∀ (n : Nat) (s : Int), h s ≤ h w → s ≠ w → cN q n s w = 0
  | 0, s, _, hn => by rw [cN, if_neg hn]
  | n + 1, s, hs, hn => by
    rw [cN, if_neg hn, sm_congr (g := fun _ => 0) _ fun i hi => ?_, sm_zero]; rfl
    have hf : q.f[i]? = some (q.f[i]'hi) := List.getElem?_eq_getElem hi
    have ht : q.t[i]? = some (q.t[i]'(by omega)) := List.getElem?_eq_getElem (by omega)
    rw [vx_some hf, vx_some ht]
    split
    · rename_i e
      have h2 := hh i _ _ hf ht
      rw [e] at h2
      exact cN_far hh hl w n _ (by omega) (fun e2 => by rw [e2] at h2; omega)
    · rfl
theorem cN_self {q : Qv} {h : Int → Nat} (hh : Hgt q h) (hl : q.f.length = q.t.length) (v : Int) : ∀ n, cN q n v v = 1
  | 0 => by rw [cN, if_pos rfl]
  | n + 1 => by
    rw [cN, if_pos rfl, sm_congr (g := fun _ => 0) _ fun i hi => ?_, sm_zero]; rfl
    have hf : q.f[i]? = some (q.f[i]'hi) := List.getElem?_eq_getElem hi
    have ht : q.t[i]? = some (q.t[i]'(by omega)) := List.getElem?_eq_getElem (by omega)
    rw [vx_some hf, vx_some ht]
    split
    · rename_i e
      have h2 := hh i _ _ hf ht
      rw [e] at h2
      exact cN_far hh hl v n _ (by omega) (fun e2 => by rw [e2] at h2; omega)
    · rfl
def dmP (q : Qv) (v : Int) : List Int := (List.range q.v.toNat).map fun w : Nat => cN q 4 v w
def dmI (q : Qv) (v : Int) : List Int := (List.range q.v.toNat).map fun w : Nat => cN q 4 w v
theorem dmP_at (q : Qv) (v : Int) {w : Nat} (hw : w < q.v.toNat) : vx (dmP q v) w = cN q 4 v w := by simp [vx, dmP, hw]
theorem dmP_rt {q : Qv} (ha : acyQ q = true) {v : Int} (h0 : 0 ≤ v) (h1 : v ≤ q.v - 1) : isRt q (dmP q v) := by
  have hq := acy_isQ ha
  obtain ⟨hv, hlen, h6, hf, ht⟩ := isQ_t.1 hq
  have hh := acy_hgt ha
  have hs := fun w => cN_stab hh hlen w 4 v (by have := hgtQ_le q v; omega)
  refine ⟨by simp [dmP], fun i hi => ?_, ?_⟩
  · rw [dmP_at q v (by simpa [dmP] using hi)]; exact cN_nonneg _ _ _ _
  · have e : eulA q (dmP q v) (dmP q v) q.f.length = sm q.v.toNat fun w => vx (dmP q v) w * sm q.f.length fun i => if vx q.t i = w then cN q 4 v (vx q.f i) else 0 := by
      have : (fun w : Nat => vx (dmP q v) w * sm q.f.length fun i => if vx q.t i = w then cN q 4 v (vx q.f i) else 0) = fun w : Nat => sm q.f.length fun i => vx (dmP q v) w * if vx q.t i = w then cN q 4 v (vx q.f i) else 0 := by
        funext w; rw [sm_mul]
      rw [this, ← sm_swap]
      unfold eulA
      apply sm_congr; intro i hi
      have hti := ht _ (vx_mem (l := q.t) (k := i) (by omega))
      have hfi := hf _ (vx_mem (l := q.f) (k := i) hi)
      rw [sm_one (k := (vx q.t i).toNat) _ (by omega) fun j _ hj => by rw [if_neg (by omega)]; simp, if_pos (by omega), dmP_at q v (w := (vx q.f i).toNat) (by omega), show (((vx q.f i).toNat : Nat) : Int) = vx q.f i by omega]
      exact Int.mul_comm _ _
    have e2 : eulV (dmP q v) (dmP q v) q.v.toNat = (sm q.v.toNat fun w => if w = v.toNat then 1 else 0) + eulA q (dmP q v) (dmP q v) q.f.length := by
      rw [e, ← sm_add]
      unfold eulV
      apply sm_congr; intro w hw
      have hl := cN_last q 4 v w
      rw [hs] at hl
      by_cases hwv : w = v.toNat
      · have hvw : v = (w : Int) := by omega
        have h1 : vx (dmP q v) w = 1 := by rw [dmP_at q v hw, ← hvw]; exact cN_self hh hlen v 4
        rw [if_pos hvw, ← dmP_at q v hw, h1] at hl
        rw [if_pos hwv, h1]
        omega
      · rw [if_neg (by omega), ← dmP_at q v hw] at hl
        rw [if_neg hwv, Int.zero_add, ← Int.zero_add (sm _ _), ← hl]
    rw [eul, e2, sm_one (k := v.toNat) _ (by omega) fun i _ hi => by rw [if_neg hi], if_pos rfl]
    omega
end Go.Proofs.Ytgbchoenmpoojaa

/- The program's PathsBetween and CountPaths. -/
namespace Go.Proofs.Ytgbchoenmpoojaa
set_option linter.unusedVariables false
set_option linter.unusedSimpArgs false
open Go.RowKit

set_option maxRecDepth 100000 in
set_option maxHeartbeats 1600000 in
theorem pathsBetween_any (u : Value) (q : Qv) (s t : Int) (w0 : World) (hu : QvR w0 w0.heap.size u q) (ha : acyQ q = true) :
    Calls Try.prog 133 #[u, .int .i64 s, .int .i64 t] w0 fun e w' => (∃ A c, e = .returned (.slice A ((pthF q 4 s).filter fun r => endP q s r == t).length c)) ∧ Below w0.heap.size w0 w' := by
  have hu' := hu
  obtain ⟨A, c, C, d, rfl, hf, hT, hr, lf, lt⟩ := hu.open_
  clear hu hf hT
  obtain ⟨L, hL⟩ : ∃ L, ((pthF q 4 s).filter fun r => endP q s r == t).length = L := ⟨_, rfl⟩
  have HL : Hid (((pthF q 4 s).filter fun l => !(endP q s l != t)).length = L) := by
    show _ = _
    rw [← hL]
    congr 1
    apply List.filter_congr
    intro x _
    simp [bne]
  rw [hL]
  clear hL
  obtain ⟨W, hW⟩ : ∃ W, (w0.alloc (.cells #[.int .i64 q.v, .slice A q.f.length c, .slice C q.t.length d] 27)).alloc (.cells #[.int .i64 t] 3) = W := ⟨_, rfl⟩
  have g0 : Below w0.heap.size w0 W := by rw [← hW]; exact ((Below.refl _ _).alloc (Nat.le_refl _) _).alloc (by simp) _
  have kB : Blk W w0.heap.size 27 #[.int .i64 q.v, .slice A q.f.length c, .slice C q.t.length d] := by rw [← hW]; exact (Blk.new _ _ _).alloc _
  have kT : Blk W (w0.heap.size + 1) 3 #[.int .i64 t] := by
    rw [← hW]
    have := Blk.new (w0.alloc (.cells #[.int .i64 q.v, .slice A q.f.length c, .slice C q.t.length d] 27)) 3 #[.int .i64 t]
    simpa only [World.size_alloc] using this
  have HQ := Lib.hid (QvR.next g0 hu')
  have c0 := kB.cell' (i := 0) rfl
  have c1 := kB.cell' (i := 1) rfl
  have c2 := kB.cell' (i := 2) rfl
  have hcall := Lib.hid (pathsFrom_any q ha _ s W HQ.out)
  have KB := Lib.hid kB
  have KT := Lib.hid kT
  have HLN := Lib.hid (isQ_t.1 (acy_isQ ha)).2.1
  clear kB kT hu'
  go_enter Try.func133, Try.ntmps133
  go_wp2_with fail
  clear hW
  refine hcall.out.mono ?_; rintro e w1 ⟨v, rfl, hP, hb1⟩
  have hD := deleteFuncP_any s W.heap.size (.pointer (some ⟨w0.heap.size, 0, none⟩)) (.pointer (some ⟨w0.heap.size + 1, 0, none⟩)) (fun r => endP q s r != t) v (pthF q 4 s) w1 hP hb1.size fun W2 A2 c2 l hb2 hl hm =>
    endEq_any w0.heap.size (w0.heap.size + 1) q s t l A C A2 c d c2 W2 (KB.out.below (hb1.trans hb2) KB.out.lt) (KT.out.below (hb1.trans hb2) KT.out.lt) (QvR.next (hb1.trans hb2) HQ.out) hl HLN.out (pthF_vld HLN.out 4 s l hm).1
  rw [HL.out] at hD
  have G1 := Lib.hid g0
  have HB1 := Lib.hid hb1
  clear hcall hP hb1 c0 c1 c2 KB KT HQ HLN HL g0
  go_wp2_with fail
  refine hD.mono ?_; rintro e w2 ⟨⟨A3, c3, rfl⟩, hb2⟩
  clear hD
  go_wp2
  go_ret
  exact ⟨⟨_, _, rfl⟩, G1.out.trans ((HB1.out.trans hb2).mono G1.out.size)⟩
def pbOk (q : Qv) (s t : Int) : Bool := acyQ q && inR s 0 (q.v - 1) && inR t 0 (q.v - 1)
def pbN (q : Qv) (s t : Int) : Nat := if pbOk q s t then ((pthF q 4 s).filter fun r => endP q s r == t).length else 0
def cpQ (q : Qv) (s t : Int) : Int := if pbOk q s t then cN q 4 s t else -1
theorem cp_no {q : Qv} {s t : Int} (h : pbOk q s t = false) : cpQ q s t = -1 ∧ pbN q s t = 0 := by simp [cpQ, pbN, h]
theorem cp_yes {q : Qv} {s t : Int} (h : pbOk q s t = true) : cpQ q s t = pbN q s t := by rw [cpQ, pbN, if_pos h, if_pos h, cnt_F]
theorem pbOk_acy {q : Qv} {s t : Int} (h : acyQ q = false) : pbOk q s t = false := by simp [pbOk, h]
theorem pbOk_s {q : Qv} {s t : Int} (h : inR s 0 (q.v - 1) = false) : pbOk q s t = false := by simp [pbOk, h]
theorem pbOk_t {q : Qv} {s t : Int} (h : inR t 0 (q.v - 1) = false) : pbOk q s t = false := by simp [pbOk, h]
set_option maxRecDepth 100000 in
set_option maxHeartbeats 1600000 in
theorem implPathsBetween_any (u : Value) (q : Qv) (s t : Int) (w0 : World) (hu : QvR w0 w0.heap.size u q) :
    Calls Try.prog 113 #[u, .int .i64 s, .int .i64 t] w0 fun e w' => (∃ A c, e = .returned (.tuple #[.slice A (pbN q s t) c, .bool (pbOk q s t)])) ∧ Below w0.heap.size w0 w' := by
  have hu' := hu
  obtain ⟨A, c, C, d, rfl, hf, hT, hr, lf, lt⟩ := hu.open_
  clear hu hf hT
  obtain ⟨W, hW⟩ : ∃ W, w0.alloc (.cells #[.int .i64 q.v, .slice A q.f.length c, .slice C q.t.length d] 27) = W := ⟨_, rfl⟩
  have g0 : Below w0.heap.size w0 W := by rw [← hW]; exact below_alloc _ _
  have kB : Blk W w0.heap.size 27 #[.int .i64 q.v, .slice A q.f.length c, .slice C q.t.length d] := by rw [← hW]; exact Blk.new _ _ _
  have HQ := Lib.hid (QvR.next g0 hu')
  clear hu'
  have c0 := kB.cell' (i := 0) rfl
  have c1 := kB.cell' (i := 1) rfl
  have c2 := kB.cell' (i := 2) rfl
  by_cases ha : acyQ q = true
  case neg =>
    rw [Bool.not_eq_true] at ha
    have hok : pbOk q s t = false := pbOk_acy ha
    rw [hok, (cp_no hok).2]
    have HA := Lib.hid ha
    clear ha hok
    go_enter Try.func113, Try.ntmps113
    go_wp2_with fail
    clear hW
    refine (implIsAcyclic_any _ q _ HQ.out).mono ?_; rintro e w1 ⟨rfl, hb1⟩
    rw [HA.out]
    go_wp2
    go_ret2
    exact ⟨⟨none, 0, rfl⟩, bthen g0 hb1⟩
  case pos =>
  have hv5 := (isQ_t.1 (acy_isQ ha)).1
  have HA := Lib.hid ha
  by_cases hs : inR s 0 (q.v - 1) = true
  case neg =>
    rw [Bool.not_eq_true] at hs
    have hok : pbOk q s t = false := pbOk_s hs
    rw [hok, (cp_no hok).2]
    have HS := Lib.hid hs
    clear ha hok hs
    go_enter Try.func113, Try.ntmps113
    go_wp2_with fail
    clear hW
    refine (implIsAcyclic_any _ q _ HQ.out).mono ?_; rintro e w1 ⟨rfl, hb1⟩
    rw [HA.out]
    have k1 := kB.call hb1
    clear c0 c1 c2
    have c0 := k1.cell' (i := 0) rfl
    have c1 := k1.cell' (i := 1) rfl
    have c2 := k1.cell' (i := 2) rfl
    go_wp2_with fail
    refine (hasVertex_any _ q s _ (QvR.next hb1 HQ.out) hv5).mono ?_; rintro e w2 ⟨rfl, hb2⟩
    rw [HS.out]
    go_wp2
    go_ret2
    exact ⟨⟨none, 0, rfl⟩, bthen (bthen g0 hb1) hb2⟩
  case pos =>
  have HS := Lib.hid hs
  by_cases ht : inR t 0 (q.v - 1) = true
  case neg =>
    rw [Bool.not_eq_true] at ht
    have hok : pbOk q s t = false := pbOk_t ht
    rw [hok, (cp_no hok).2]
    have HT := Lib.hid ht
    clear ha hok hs ht
    go_enter Try.func113, Try.ntmps113
    go_wp2_with fail
    clear hW
    refine (implIsAcyclic_any _ q _ HQ.out).mono ?_; rintro e w1 ⟨rfl, hb1⟩
    rw [HA.out]
    have k1 := kB.call hb1
    clear c0 c1 c2
    have c0 := k1.cell' (i := 0) rfl
    have c1 := k1.cell' (i := 1) rfl
    have c2 := k1.cell' (i := 2) rfl
    go_wp2_with fail
    refine (hasVertex_any _ q s _ (QvR.next hb1 HQ.out) hv5).mono ?_; rintro e w2 ⟨rfl, hb2⟩
    rw [HS.out]
    have k2 := k1.call hb2
    clear c0 c1 c2
    have c0 := k2.cell' (i := 0) rfl
    have c1 := k2.cell' (i := 1) rfl
    have c2 := k2.cell' (i := 2) rfl
    go_wp2_with fail
    refine (hasVertex_any _ q t _ (QvR.next hb2 (QvR.next hb1 HQ.out)) hv5).mono ?_; rintro e w3 ⟨rfl, hb3⟩
    rw [HT.out]
    go_wp2
    go_ret2
    exact ⟨⟨none, 0, rfl⟩, bthen (bthen (bthen g0 hb1) hb2) hb3⟩
  case pos =>
  have HT := Lib.hid ht
  have hok : pbOk q s t = true := by simp [pbOk, ha, hs, ht]
  obtain ⟨L, hL⟩ : ∃ L, pbN q s t = L := ⟨_, rfl⟩
  have HL : Hid (((pthF q 4 s).filter fun r => endP q s r == t).length = L) := by
    show _ = _
    rw [← hL, pbN, if_pos hok]
  rw [hok, hL]
  clear hok hs ht ha hL
  go_enter Try.func113, Try.ntmps113
  go_wp2_with fail
  clear hW
  refine (implIsAcyclic_any _ q _ HQ.out).mono ?_; rintro e w1 ⟨rfl, hb1⟩
  rw [HA.out]
  have k1 := kB.call hb1
  clear c0 c1 c2
  have c0 := k1.cell' (i := 0) rfl
  have c1 := k1.cell' (i := 1) rfl
  have c2 := k1.cell' (i := 2) rfl
  go_wp2_with fail
  refine (hasVertex_any _ q s _ (QvR.next hb1 HQ.out) hv5).mono ?_; rintro e w2 ⟨rfl, hb2⟩
  rw [HS.out]
  have k2 := k1.call hb2
  clear c0 c1 c2
  have c0 := k2.cell' (i := 0) rfl
  have c1 := k2.cell' (i := 1) rfl
  have c2 := k2.cell' (i := 2) rfl
  go_wp2_with fail
  refine (hasVertex_any _ q t _ (QvR.next hb2 (QvR.next hb1 HQ.out)) hv5).mono ?_; rintro e w3 ⟨rfl, hb3⟩
  rw [HT.out]
  have k3 := k2.call hb3
  clear c0 c1 c2
  have c0 := k3.cell' (i := 0) rfl
  have c1 := k3.cell' (i := 1) rfl
  have c2 := k3.cell' (i := 2) rfl
  have g3 := bthen (bthen (bthen g0 hb1) hb2) hb3
  have HP := pathsBetween_any _ q s t w3 (QvR.next hb3 (QvR.next hb2 (QvR.next hb1 HQ.out))) HA.out
  rw [HL.out] at HP
  have HP := Lib.hid HP
  clear k1 k2 k3 kB hb1 hb2 hb3 g0 HQ HL
  go_wp2_with fail
  refine HP.out.mono ?_; rintro e w4 ⟨⟨A4, c4, rfl⟩, hb4⟩
  go_wp2
  go_ret2
  exact ⟨⟨_, _, rfl⟩, bthen g3 hb4⟩
set_option maxHeartbeats 800000 in
theorem implCountPaths_any (u : Value) (q : Qv) (s t : Int) (w0 : World) (hu : QvR w0 w0.heap.size u q) (hs : I64 s) (ht : I64 t) :
    Calls Try.prog 81 #[u, .int .i64 s, .int .i64 t] w0 fun e w' => e = .returned (.int .i64 (cpQ q s t)) ∧ Below w0.heap.size w0 w' := by
  have hu' := hu
  obtain ⟨A, c, C, d, rfl, hf, hT, hr, lf, lt⟩ := hu.open_
  clear hu hf hT
  obtain ⟨W, hW⟩ : ∃ W, w0.alloc (.cells #[.int .i64 q.v, .slice A q.f.length c, .slice C q.t.length d] 27) = W := ⟨_, rfl⟩
  have g0 : Below w0.heap.size w0 W := by rw [← hW]; exact below_alloc _ _
  have kB : Blk W w0.heap.size 27 #[.int .i64 q.v, .slice A q.f.length c, .slice C q.t.length d] := by rw [← hW]; exact Blk.new _ _ _
  have HQ := Lib.hid (QvR.next g0 hu')
  clear hu'
  have c0 := kB.cell' (i := 0) rfl
  have c1 := kB.cell' (i := 1) rfl
  have c2 := kB.cell' (i := 2) rfl
  rcases hok : pbOk q s t with _ | _
  · have HC := Lib.hid (cp_no hok).1
    have HP := implPathsBetween_any _ q s t W HQ.out
    rw [hok] at HP
    have HP := Lib.hid HP
    clear hok kB
    go_enter Try.func81, Try.ntmps81
    go_wp2_with fail
    clear hW
    refine HP.out.mono ?_; rintro e w1 ⟨⟨A1, c1', rfl⟩, hb1⟩
    go_wp2
    go_ret
    exact ⟨by rw [HC.out]; rfl, bthen g0 hb1⟩
  · have HC := Lib.hid (cp_yes hok)
    have HP := implPathsBetween_any _ q s t W HQ.out
    rw [hok] at HP
    obtain ⟨L, hL⟩ : ∃ L, pbN q s t = L := ⟨_, rfl⟩
    rw [hL] at HP HC
    have HP := Lib.hid HP
    clear hok kB hL
    go_enter Try.func81, Try.ntmps81
    go_wp2_with fail
    clear hW
    refine HP.out.mono ?_; rintro e w1 ⟨⟨A1, c1', rfl⟩, hb1⟩
    go_wp2
    go_ret
    exact ⟨by rw [HC.out]; rfl, bthen g0 hb1⟩
end Go.Proofs.Ytgbchoenmpoojaa

/- ProjectiveDims and InjectiveDims: the program's. -/
namespace Go.Proofs.Ytgbchoenmpoojaa
set_option linter.unusedVariables false
set_option linter.unusedSimpArgs false
open Go.RowKit

def dimOk (q : Qv) (v : Int) : Bool := acyQ q && inR v 0 (q.v - 1)
def dmQ (q : Qv) (v : Int) : List Int := if dimOk q v then dmP q v else []
def dmJ (q : Qv) (v : Int) : List Int := if dimOk q v then dmI q v else []
theorem cN_rng {q : Qv} (h6 : q.f.length ≤ 6) (s w : Int) : 0 ≤ cN q 4 s w ∧ cN q 4 s w ≤ 10000 := by
  refine ⟨cN_nonneg q w 4 s, ?_⟩
  rw [← cnt_F]
  have h1 := List.length_filter_le (fun r => endP q s r == w) (pthF q 4 s)
  have h2 := pthF_le h6 4 s
  omega
theorem rowFs (n : Nat) (f : Nat → Int) : rowF (n + 1) f = rowF n f ++ [f n] := by simp [rowF, List.range_succ]
theorem cp_in {q : Qv} {v : Int} (h : dimOk q v = true) {w : Nat} (hw : w < q.v.toNat) : cpQ q v w = cN q 4 v w ∧ cpQ q w v = cN q 4 w v := by
  rw [dimOk, Bool.and_eq_true] at h
  have hw2 : inR (w : Int) 0 (q.v - 1) = true := inR_t.2 ⟨by omega, by omega⟩
  constructor
  · rw [cpQ, pbOk, h.1, h.2, hw2]; rfl
  · rw [cpQ, pbOk, h.1, h.2, hw2]; rfl
theorem dmQ_row (q : Qv) (v : Int) : dmQ q v = if dimOk q v then rowF q.v.toNat (fun w => cpQ q v w) else [] := by
  rw [dmQ]
  by_cases h : dimOk q v = true
  · rw [if_pos h, if_pos h, dmP, rowF]
    exact List.map_congr_left fun w hw => (cp_in h (List.mem_range.1 hw)).1.symm
  · rw [if_neg h, if_neg h]
theorem dmJ_row (q : Qv) (v : Int) : dmJ q v = if dimOk q v then rowF q.v.toNat (fun w => cpQ q w v) else [] := by
  rw [dmJ]
  by_cases h : dimOk q v = true
  · rw [if_pos h, if_pos h, dmI, rowF]
    exact List.map_congr_left fun w hw => (cp_in h (List.mem_range.1 hw)).2.symm
  · rw [if_neg h, if_neg h]
theorem cp_rng {q : Qv} (h : acyQ q = true) (s w : Int) : -1 ≤ cpQ q s w ∧ cpQ q s w ≤ 10000 := by
  have := cN_rng (isQ_t.1 (acy_isQ h)).2.2.1 s w
  rw [cpQ]; split <;> omega
set_option maxHeartbeats 400000 in
theorem projCl_any (gq gv : Nat) (q : Qv) (v w : Int) (A C : Option Addr) (c d : Nat) (w0 : World) (hq : Blk w0 gq 27 #[.int .i64 q.v, .slice A q.f.length c, .slice C q.t.length d]) (hv : Blk w0 gv 3 #[.int .i64 v])
    (hu : QvR w0 w0.heap.size (.agg #[.int .i64 q.v, .slice A q.f.length c, .slice C q.t.length d]) q) (hi : I64 v) (hw : I64 w) :
    Calls Try.prog 82 #[.int .i64 w, .pointer (some ⟨gq, 0, none⟩), .pointer (some ⟨gv, 0, none⟩)] w0 fun e w' => e = .returned (.int .i64 (cpQ q v w)) ∧ Below w0.heap.size w0 w' := by
  have c0 := hq.cell' (i := 0) rfl
  have c1 := hq.cell' (i := 1) rfl
  have c2 := hq.cell' (i := 2) rfl
  have d0 := hv.cell' (i := 0) rfl
  have HC := Lib.hid (implCountPaths_any _ q v w w0 hu hi hw)
  clear hq hv hu
  go_enter Try.func82, Try.ntmps82
  go_wp2_with fail
  refine HC.out.mono ?_; rintro e w1 ⟨rfl, hb1⟩
  clear HC
  go_wp2
  go_ret
  exact ⟨rfl, hb1⟩
set_option maxHeartbeats 400000 in
theorem injCl_any (gq gv : Nat) (q : Qv) (v w : Int) (A C : Option Addr) (c d : Nat) (w0 : World) (hq : Blk w0 gq 27 #[.int .i64 q.v, .slice A q.f.length c, .slice C q.t.length d]) (hv : Blk w0 gv 3 #[.int .i64 v])
    (hu : QvR w0 w0.heap.size (.agg #[.int .i64 q.v, .slice A q.f.length c, .slice C q.t.length d]) q) (hi : I64 v) (hw : I64 w) :
    Calls Try.prog 80 #[.int .i64 w, .pointer (some ⟨gq, 0, none⟩), .pointer (some ⟨gv, 0, none⟩)] w0 fun e w' => e = .returned (.int .i64 (cpQ q w v)) ∧ Below w0.heap.size w0 w' := by
  have c0 := hq.cell' (i := 0) rfl
  have c1 := hq.cell' (i := 1) rfl
  have c2 := hq.cell' (i := 2) rfl
  have d0 := hv.cell' (i := 0) rfl
  have HC := Lib.hid (implCountPaths_any _ q w v w0 hu hw hi)
  clear hq hv hu
  go_enter Try.func80, Try.ntmps80
  go_wp2_with fail
  refine HC.out.mono ?_; rintro e w1 ⟨rfl, hb1⟩
  clear HC
  go_wp2
  go_ret
  exact ⟨rfl, hb1⟩
set_option maxRecDepth 100000 in
set_option maxHeartbeats 1600000 in
theorem countAllP_any (p1 p2 u : Value) (q : Qv) (v : Int) (w0 : World) (hu : QvR w0 w0.heap.size u q) (g : Nat → Int) (hg : acyQ q = true → ∀ j, -1 ≤ g j ∧ g j ≤ 10000)
    (hF : ∀ (W : World) (j : Nat), Below w0.heap.size w0 W → j < q.v.toNat → q.v ≤ 5 → Calls Try.prog 82 #[.int .i64 j, p1, p2] W fun e w' => e = .returned (.int .i64 (g j)) ∧ Below W.heap.size W w') :
    Calls Try.prog 79 #[u, .int .i64 v, .func (Fn.func 82) #[] #[p1, p2]] w0 fun e w' => ∃ o, e = .returned o ∧ OwnI w' w0.heap.size o (if dimOk q v then rowF q.v.toNat g else []) ∧ Below w0.heap.size w0 w' := by
  have HF := Lib.hid hF
  clear hF
  have hu' := hu
  obtain ⟨A, c, C, d, rfl, hf, hT, hr, lf, lt⟩ := hu.open_
  clear hu hf hT
  obtain ⟨W, hW⟩ : ∃ W, w0.alloc (.cells #[.int .i64 q.v, .slice A q.f.length c, .slice C q.t.length d] 27) = W := ⟨_, rfl⟩
  have g0 : Below w0.heap.size w0 W := by rw [← hW]; exact below_alloc _ _
  have kB : Blk W w0.heap.size 27 #[.int .i64 q.v, .slice A q.f.length c, .slice C q.t.length d] := by rw [← hW]; exact Blk.new _ _ _
  have HQ := Lib.hid (QvR.next g0 hu')
  clear hu'
  have c0 := kB.cell' (i := 0) rfl
  have c1 := kB.cell' (i := 1) rfl
  have c2 := kB.cell' (i := 2) rfl
  by_cases ha : acyQ q = true
  case neg =>
    rw [Bool.not_eq_true] at ha
    have hok : dimOk q v = false := by rw [dimOk, ha]; rfl
    rw [hok]
    have HA := Lib.hid ha
    clear ha hok hg
    go_enter Try.func79, Try.ntmps79
    go_wp2_with fail
    clear hW
    refine (implIsAcyclic_any _ q _ HQ.out).mono ?_; rintro e w1 ⟨rfl, hb1⟩
    rw [HA.out]
    go_wp2
    go_ret
    exact ⟨_, rfl, OwnI.nil _ _, bthen g0 hb1⟩
  case pos =>
  have hv5 := (isQ_t.1 (acy_isQ ha)).1
  have HA := Lib.hid ha
  replace hg := hg ha
  by_cases hs : inR v 0 (q.v - 1) = true
  case neg =>
    rw [Bool.not_eq_true] at hs
    have hok : dimOk q v = false := by rw [dimOk, hs, Bool.and_false]
    rw [hok]
    have HS := Lib.hid hs
    clear ha hok hs hg
    go_enter Try.func79, Try.ntmps79
    go_wp2_with fail
    clear hW
    refine (implIsAcyclic_any _ q _ HQ.out).mono ?_; rintro e w1 ⟨rfl, hb1⟩
    rw [HA.out]
    have k1 := kB.call hb1
    clear c0 c1 c2
    have c0 := k1.cell' (i := 0) rfl
    have c1 := k1.cell' (i := 1) rfl
    have c2 := k1.cell' (i := 2) rfl
    go_wp2_with fail
    refine (hasVertex_any _ q v _ (QvR.next hb1 HQ.out) hv5).mono ?_; rintro e w2 ⟨rfl, hb2⟩
    rw [HS.out]
    go_wp2
    go_ret
    exact ⟨_, rfl, OwnI.nil _ _, bthen (bthen g0 hb1) hb2⟩
  case pos =>
  have HS := Lib.hid hs
  have hok : dimOk q v = true := by rw [dimOk, ha, hs]; rfl
  rw [hok, if_pos rfl]
  obtain ⟨V, hV⟩ := Int.eq_ofNat_of_zero_le (show 0 ≤ q.v by omega)
  have hVn : q.v.toNat = V := by omega
  rw [hVn] at HF ⊢
  have HVN := Lib.hid hV
  have HG := Lib.hid hg
  clear ha hok hs hVn hg hV
  go_enter Try.func79, Try.ntmps79
  go_wp2_with fail
  clear hW
  refine (implIsAcyclic_any _ q _ HQ.out).mono ?_; rintro e w1 ⟨rfl, hb1⟩
  rw [HA.out]
  have k1 := kB.call hb1
  clear c0 c1 c2
  have c0 := k1.cell' (i := 0) rfl
  have c1 := k1.cell' (i := 1) rfl
  have c2 := k1.cell' (i := 2) rfl
  go_wp2_with fail
  refine (hasVertex_any _ q v _ (QvR.next hb1 HQ.out) hv5).mono ?_; rintro e w2 ⟨rfl, hb2⟩
  rw [HS.out]
  have k2 := k1.call hb2
  clear c0 c1 c2
  have c0 : w2.cell? ⟨w0.heap.size, 0, none⟩ = some (.int .i64 (V : Int)) := by rw [← HVN.out]; exact k2.cell' (i := 0) rfl
  have G2 := Lib.hid (bthen (bthen g0 hb1) hb2)
  have hV5 : V ≤ 5 := by have := HVN.out; omega
  have HV5 : Hid (q.v ≤ 5) := by show _ ≤ _; omega
  have hs2 := G2.out.size
  clear hb1 hb2 k1 k2 kB g0 hv5
  go_wp2
  go_loopw [7, 20] (fun o i wr => ∃ k : Nat, k ≤ V ∧ i = .int .i64 k ∧ OwnI wr w0.heap.size o (rowF k g) ∧ Below w0.heap.size w0 wr) (fun _ i _ => V - (intOf i).toNat)
  case atStart => exact ⟨0, Nat.zero_le _, rfl, OwnI.nil _ _, G2.out⟩
  case round =>
    obtain ⟨k, hk, rfl, hown, hbel⟩ := hrel
    have hol := rowF_length k g
    obtain ⟨ol, hol2⟩ : ∃ ol, rowF k g = ol := ⟨_, rfl⟩
    rw [hol2] at hown hol
    obtain ⟨OA, oc, rfl, _, _⟩ := hown.form
    by_cases hlt : k < V
    · have HCL := Lib.hid (HF.out wr k hbel hlt HV5.out)
      have HX := HG.out k
      obtain ⟨x, hx⟩ : ∃ x, g k = x := ⟨_, rfl⟩
      rw [hx] at HCL HX
      have HST : Hid (ol ++ [x] = rowF (k + 1) g) := by show _ = _; rw [rowFs, hol2, hx]
      have HOW := Lib.hid hown
      have HBE := Lib.hid hbel
      have HOL := Lib.hid hol
      clear hx hol hol2 hown hbel
      go_wp2_with fail
      refine HCL.out.mono ?_; rintro e w3 ⟨rfl, hb3⟩
      have hko := (HOW.out.below hb3).alloc (.cells #[.int .i64 x] 3)
      have hb4 := HBE.out.trans (hb3.mono HBE.out.size)
      have hs4 := hb4.size
      clear HCL HOW HBE hb3
      (go_wp2_with (at_builtin; refine Hold.stop ?_)); unfold Hold
      refine wpList_appI rfl (.tmp 23) (.tmp 27) rfl w0.heap.size _ (.slice OA ol.length oc) ol rfl hko _ _ _ [x] rfl rfl (SlI.one w3 _ x ⟨by omega, by omega⟩) (by have := HOL.out; simp only [List.length_singleton]; omega) (by simp; omega) ?_
      intro v1 w4 ho1 hg1 hv1
      rw [HST.out] at ho1
      have hb5 := (hb4.alloc hb4.size (.cells #[.int .i64 x] 3)).grown hg1 (by simp; omega) (fun j hj => (hko.lt j hj).1)
      clear hko hg1 hv1
      go_wp2
      go_roundw
      case rel => exact ⟨k + 1, by omega, by go_num, ho1, hb5⟩
      case measure => simp [intOf]; omega
    · have hkV : k = V := by omega
      have HE : Hid (ol = rowF V g) := by show _ = _; rw [← hol2, hkV]
      have HO := Lib.hid hown
      clear hol hol2 hown hkV
      go_wp2
      go_ret
      exact ⟨_, rfl, by rw [← HE.out]; exact HO.out, hbel⟩
set_option maxRecDepth 100000 in
set_option maxHeartbeats 1600000 in
theorem countAllI_any (p1 p2 u : Value) (q : Qv) (v : Int) (w0 : World) (hu : QvR w0 w0.heap.size u q) (g : Nat → Int) (hg : acyQ q = true → ∀ j, -1 ≤ g j ∧ g j ≤ 10000)
    (hF : ∀ (W : World) (j : Nat), Below w0.heap.size w0 W → j < q.v.toNat → q.v ≤ 5 → Calls Try.prog 80 #[.int .i64 j, p1, p2] W fun e w' => e = .returned (.int .i64 (g j)) ∧ Below W.heap.size W w') :
    Calls Try.prog 79 #[u, .int .i64 v, .func (Fn.func 80) #[] #[p1, p2]] w0 fun e w' => ∃ o, e = .returned o ∧ OwnI w' w0.heap.size o (if dimOk q v then rowF q.v.toNat g else []) ∧ Below w0.heap.size w0 w' := by
  have HF := Lib.hid hF
  clear hF
  have hu' := hu
  obtain ⟨A, c, C, d, rfl, hf, hT, hr, lf, lt⟩ := hu.open_
  clear hu hf hT
  obtain ⟨W, hW⟩ : ∃ W, w0.alloc (.cells #[.int .i64 q.v, .slice A q.f.length c, .slice C q.t.length d] 27) = W := ⟨_, rfl⟩
  have g0 : Below w0.heap.size w0 W := by rw [← hW]; exact below_alloc _ _
  have kB : Blk W w0.heap.size 27 #[.int .i64 q.v, .slice A q.f.length c, .slice C q.t.length d] := by rw [← hW]; exact Blk.new _ _ _
  have HQ := Lib.hid (QvR.next g0 hu')
  clear hu'
  have c0 := kB.cell' (i := 0) rfl
  have c1 := kB.cell' (i := 1) rfl
  have c2 := kB.cell' (i := 2) rfl
  by_cases ha : acyQ q = true
  case neg =>
    rw [Bool.not_eq_true] at ha
    have hok : dimOk q v = false := by rw [dimOk, ha]; rfl
    rw [hok]
    have HA := Lib.hid ha
    clear ha hok hg
    go_enter Try.func79, Try.ntmps79
    go_wp2_with fail
    clear hW
    refine (implIsAcyclic_any _ q _ HQ.out).mono ?_; rintro e w1 ⟨rfl, hb1⟩
    rw [HA.out]
    go_wp2
    go_ret
    exact ⟨_, rfl, OwnI.nil _ _, bthen g0 hb1⟩
  case pos =>
  have hv5 := (isQ_t.1 (acy_isQ ha)).1
  have HA := Lib.hid ha
  replace hg := hg ha
  by_cases hs : inR v 0 (q.v - 1) = true
  case neg =>
    rw [Bool.not_eq_true] at hs
    have hok : dimOk q v = false := by rw [dimOk, hs, Bool.and_false]
    rw [hok]
    have HS := Lib.hid hs
    clear ha hok hs hg
    go_enter Try.func79, Try.ntmps79
    go_wp2_with fail
    clear hW
    refine (implIsAcyclic_any _ q _ HQ.out).mono ?_; rintro e w1 ⟨rfl, hb1⟩
    rw [HA.out]
    have k1 := kB.call hb1
    clear c0 c1 c2
    have c0 := k1.cell' (i := 0) rfl
    have c1 := k1.cell' (i := 1) rfl
    have c2 := k1.cell' (i := 2) rfl
    go_wp2_with fail
    refine (hasVertex_any _ q v _ (QvR.next hb1 HQ.out) hv5).mono ?_; rintro e w2 ⟨rfl, hb2⟩
    rw [HS.out]
    go_wp2
    go_ret
    exact ⟨_, rfl, OwnI.nil _ _, bthen (bthen g0 hb1) hb2⟩
  case pos =>
  have HS := Lib.hid hs
  have hok : dimOk q v = true := by rw [dimOk, ha, hs]; rfl
  rw [hok, if_pos rfl]
  obtain ⟨V, hV⟩ := Int.eq_ofNat_of_zero_le (show 0 ≤ q.v by omega)
  have hVn : q.v.toNat = V := by omega
  rw [hVn] at HF ⊢
  have HVN := Lib.hid hV
  have HG := Lib.hid hg
  clear ha hok hs hVn hg hV
  go_enter Try.func79, Try.ntmps79
  go_wp2_with fail
  clear hW
  refine (implIsAcyclic_any _ q _ HQ.out).mono ?_; rintro e w1 ⟨rfl, hb1⟩
  rw [HA.out]
  have k1 := kB.call hb1
  clear c0 c1 c2
  have c0 := k1.cell' (i := 0) rfl
  have c1 := k1.cell' (i := 1) rfl
  have c2 := k1.cell' (i := 2) rfl
  go_wp2_with fail
  refine (hasVertex_any _ q v _ (QvR.next hb1 HQ.out) hv5).mono ?_; rintro e w2 ⟨rfl, hb2⟩
  rw [HS.out]
  have k2 := k1.call hb2
  clear c0 c1 c2
  have c0 : w2.cell? ⟨w0.heap.size, 0, none⟩ = some (.int .i64 (V : Int)) := by rw [← HVN.out]; exact k2.cell' (i := 0) rfl
  have G2 := Lib.hid (bthen (bthen g0 hb1) hb2)
  have hV5 : V ≤ 5 := by have := HVN.out; omega
  have HV5 : Hid (q.v ≤ 5) := by show _ ≤ _; omega
  have hs2 := G2.out.size
  clear hb1 hb2 k1 k2 kB g0 hv5
  go_wp2
  go_loopw [7, 20] (fun o i wr => ∃ k : Nat, k ≤ V ∧ i = .int .i64 k ∧ OwnI wr w0.heap.size o (rowF k g) ∧ Below w0.heap.size w0 wr) (fun _ i _ => V - (intOf i).toNat)
  case atStart => exact ⟨0, Nat.zero_le _, rfl, OwnI.nil _ _, G2.out⟩
  case round =>
    obtain ⟨k, hk, rfl, hown, hbel⟩ := hrel
    have hol := rowF_length k g
    obtain ⟨ol, hol2⟩ : ∃ ol, rowF k g = ol := ⟨_, rfl⟩
    rw [hol2] at hown hol
    obtain ⟨OA, oc, rfl, _, _⟩ := hown.form
    by_cases hlt : k < V
    · have HCL := Lib.hid (HF.out wr k hbel hlt HV5.out)
      have HX := HG.out k
      obtain ⟨x, hx⟩ : ∃ x, g k = x := ⟨_, rfl⟩
      rw [hx] at HCL HX
      have HST : Hid (ol ++ [x] = rowF (k + 1) g) := by show _ = _; rw [rowFs, hol2, hx]
      have HOW := Lib.hid hown
      have HBE := Lib.hid hbel
      have HOL := Lib.hid hol
      clear hx hol hol2 hown hbel
      go_wp2_with fail
      refine HCL.out.mono ?_; rintro e w3 ⟨rfl, hb3⟩
      have hko := (HOW.out.below hb3).alloc (.cells #[.int .i64 x] 3)
      have hb4 := HBE.out.trans (hb3.mono HBE.out.size)
      have hs4 := hb4.size
      clear HCL HOW HBE hb3
      (go_wp2_with (at_builtin; refine Hold.stop ?_)); unfold Hold
      refine wpList_appI rfl (.tmp 23) (.tmp 27) rfl w0.heap.size _ (.slice OA ol.length oc) ol rfl hko _ _ _ [x] rfl rfl (SlI.one w3 _ x ⟨by omega, by omega⟩) (by have := HOL.out; simp only [List.length_singleton]; omega) (by simp; omega) ?_
      intro v1 w4 ho1 hg1 hv1
      rw [HST.out] at ho1
      have hb5 := (hb4.alloc hb4.size (.cells #[.int .i64 x] 3)).grown hg1 (by simp; omega) (fun j hj => (hko.lt j hj).1)
      clear hko hg1 hv1
      go_wp2
      go_roundw
      case rel => exact ⟨k + 1, by omega, by go_num, ho1, hb5⟩
      case measure => simp [intOf]; omega
    · have hkV : k = V := by omega
      have HE : Hid (ol = rowF V g) := by show _ = _; rw [← hol2, hkV]
      have HO := Lib.hid hown
      clear hol hol2 hown hkV
      go_wp2
      go_ret
      exact ⟨_, rfl, by rw [← HE.out]; exact HO.out, hbel⟩
set_option maxRecDepth 100000 in
set_option maxHeartbeats 1600000 in
theorem implProjectiveDims_any (u : Value) (q : Qv) (v : Int) (w0 : World) (hu : QvR w0 w0.heap.size u q) (hi : I64 v) :
    Calls Try.prog 47 #[u, .int .i64 v] w0 fun e w' => ∃ o, e = .returned o ∧ OwnI w' w0.heap.size o (dmQ q v) ∧ Below w0.heap.size w0 w' := by
  have hu' := hu
  obtain ⟨A, c, C, d, rfl, hf, hT, hr, lf, lt⟩ := hu.open_
  clear hu hf hT
  obtain ⟨W, hW⟩ : ∃ W, (w0.alloc (.cells #[.int .i64 q.v, .slice A q.f.length c, .slice C q.t.length d] 27)).alloc (.cells #[.int .i64 v] 3) = W := ⟨_, rfl⟩
  have g0 : Below w0.heap.size w0 W := by rw [← hW]; exact ((Below.refl _ _).alloc (Nat.le_refl _) _).alloc (by simp) _
  have kB : Blk W w0.heap.size 27 #[.int .i64 q.v, .slice A q.f.length c, .slice C q.t.length d] := by rw [← hW]; exact (Blk.new _ _ _).alloc _
  have kT : Blk W (w0.heap.size + 1) 3 #[.int .i64 v] := by
    rw [← hW]
    have := Blk.new (w0.alloc (.cells #[.int .i64 q.v, .slice A q.f.length c, .slice C q.t.length d] 27)) 3 #[.int .i64 v]
    simpa only [World.size_alloc] using this
  have HQ := Lib.hid (QvR.next g0 hu')
  have c0 := kB.cell' (i := 0) rfl
  have c1 := kB.cell' (i := 1) rfl
  have c2 := kB.cell' (i := 2) rfl
  have d0 := kT.cell' (i := 0) rfl
  have HC := Lib.hid (countAllP_any (.pointer (some ⟨w0.heap.size, 0, none⟩)) (.pointer (some ⟨w0.heap.size + 1, 0, none⟩)) _ q v W HQ.out (fun w => cpQ q v w) (fun h j => cp_rng h _ _) fun X j hb hj h5 =>
    projCl_any w0.heap.size (w0.heap.size + 1) q v j A C c d X (kB.call hb) (kT.call hb) (QvR.next hb HQ.out) hi ⟨by omega, by omega⟩)
  have HR := Lib.hid (dmQ_row q v)
  clear kB kT hu'
  go_enter Try.func47, Try.ntmps47
  go_wp2_with fail
  clear hW
  refine HC.out.mono ?_; rintro e w1 ⟨o, rfl, ho, hb1⟩
  have HO := Lib.hid ho
  clear HC c0 c1 c2 d0 ho
  go_wp2
  go_ret
  exact ⟨_, rfl, by rw [HR.out]; exact HO.out.lower g0.size, bthen g0 hb1⟩
set_option maxRecDepth 100000 in
set_option maxHeartbeats 1600000 in
theorem implInjectiveDims_any (u : Value) (q : Qv) (v : Int) (w0 : World) (hu : QvR w0 w0.heap.size u q) (hi : I64 v) :
    Calls Try.prog 45 #[u, .int .i64 v] w0 fun e w' => ∃ o, e = .returned o ∧ OwnI w' w0.heap.size o (dmJ q v) ∧ Below w0.heap.size w0 w' := by
  have hu' := hu
  obtain ⟨A, c, C, d, rfl, hf, hT, hr, lf, lt⟩ := hu.open_
  clear hu hf hT
  obtain ⟨W, hW⟩ : ∃ W, (w0.alloc (.cells #[.int .i64 q.v, .slice A q.f.length c, .slice C q.t.length d] 27)).alloc (.cells #[.int .i64 v] 3) = W := ⟨_, rfl⟩
  have g0 : Below w0.heap.size w0 W := by rw [← hW]; exact ((Below.refl _ _).alloc (Nat.le_refl _) _).alloc (by simp) _
  have kB : Blk W w0.heap.size 27 #[.int .i64 q.v, .slice A q.f.length c, .slice C q.t.length d] := by rw [← hW]; exact (Blk.new _ _ _).alloc _
  have kT : Blk W (w0.heap.size + 1) 3 #[.int .i64 v] := by
    rw [← hW]
    have := Blk.new (w0.alloc (.cells #[.int .i64 q.v, .slice A q.f.length c, .slice C q.t.length d] 27)) 3 #[.int .i64 v]
    simpa only [World.size_alloc] using this
  have HQ := Lib.hid (QvR.next g0 hu')
  have c0 := kB.cell' (i := 0) rfl
  have c1 := kB.cell' (i := 1) rfl
  have c2 := kB.cell' (i := 2) rfl
  have d0 := kT.cell' (i := 0) rfl
  have HC := Lib.hid (countAllI_any (.pointer (some ⟨w0.heap.size, 0, none⟩)) (.pointer (some ⟨w0.heap.size + 1, 0, none⟩)) _ q v W HQ.out (fun w => cpQ q w v) (fun h j => cp_rng h _ _) fun X j hb hj h5 =>
    injCl_any w0.heap.size (w0.heap.size + 1) q v j A C c d X (kB.call hb) (kT.call hb) (QvR.next hb HQ.out) hi ⟨by omega, by omega⟩)
  have HR := Lib.hid (dmJ_row q v)
  clear kB kT hu'
  go_enter Try.func45, Try.ntmps45
  go_wp2_with fail
  clear hW
  refine HC.out.mono ?_; rintro e w1 ⟨o, rfl, ho, hb1⟩
  have HO := Lib.hid ho
  clear HC c0 c1 c2 d0 ho
  go_wp2
  go_ret
  exact ⟨_, rfl, by rw [HR.out]; exact HO.out.lower g0.size, bthen g0 hb1⟩
end Go.Proofs.Ytgbchoenmpoojaa

/- l7From -/
namespace Go.Proofs.Ytgbchoenmpoojaa
set_option linter.unusedVariables false
set_option linter.unusedSimpArgs false
open Go.RowKit

set_option maxHeartbeats 3200000 in
set_option maxRecDepth 100000 in
theorem l7From_step (q : Qv) (h : Int → Nat) (hh : Hgt q h) (hq : isQ q = true) (n : Nat) (hn4 : n ≤ 4)
    (IH : ∀ m, m + 1 = n → ∀ (u : Value) (s : Int) (w0 : World), h s ≤ m → QvR w0 w0.heap.size u q → I64 s →
      Calls Try.prog 130 #[u, .int .i64 s] w0 fun e w' => ∃ v, e = .returned v ∧ PtsO s w' w0.heap.size w0.heap.size v (pthF q m s) ∧ Below w0.heap.size w0 w')
    (u : Value) (s : Int) (w0 : World) (hs : h s ≤ n) (hu : QvR w0 w0.heap.size u q) (hsi : I64 s) :
    Calls Try.prog 130 #[u, .int .i64 s] w0 fun e w' => ∃ v, e = .returned v ∧ PtsO s w' w0.heap.size w0.heap.size v (pthF q n s) ∧ Below w0.heap.size w0 w' := by
  have hu' := hu
  obtain ⟨A, c, C, d, rfl, hf, hT, hr, lf, lt⟩ := hu.open_
  clear hu
  obtain ⟨G, hG⟩ : ∃ G, w0.heap.size = G := ⟨_, rfl⟩
  obtain ⟨W, hW⟩ : ∃ W, w0.alloc (.cells #[.int .i64 q.v, .slice A q.f.length c, .slice C q.t.length d] 27) = W := ⟨_, rfl⟩
  have gw : W.heap.size = G + 1 := by rw [← hW, ← hG]; simp
  have g0 : Below w0.heap.size w0 W := by rw [← hW]; exact below_alloc _ _
  have kB : Blk W G 27 #[.int .i64 q.v, .slice A q.f.length c, .slice C q.t.length d] := by rw [← hW, ← hG]; exact Blk.new _ _ _
  obtain ⟨hv5, hlen, h6, _, _⟩ := isQ_t.1 hq
  have HU := Lib.hid (QvR.next g0 hu')
  obtain ⟨W2, hW2⟩ : ∃ W2, (W.alloc (.cells #[] 3)).alloc (.cells #[.int .i64 s, .slice (some ⟨G + 1, 0, none⟩) 0 0] 118) = W2 := ⟨_, rfl⟩
  have g2 : Below W.heap.size W W2 := by rw [← hW2]; exact ((Below.refl _ _).alloc (Nat.le_refl _) _).alloc (by simp) _
  have o0 : OwnI (W.alloc (.cells #[] 3)) W.heap.size (.slice (some ⟨G + 1, 0, none⟩) 0 0) [] := by rw [← gw]; exact OwnI.made _ rfl (Nat.le_refl _)
  have HO := Lib.hid (show PtsO s W2 W.heap.size W.heap.size (.slice (some ⟨G + 2, 0, none⟩) 1 1) (pthK q n s 0) by
    rw [pthK_0, ← hW2]
    refine PtsO.new (by omega) ?_ (o0.alloc _)
    have := Blk.new (W.alloc (.cells #[] 3)) 118 #[.int .i64 s, .slice (some ⟨G + 1, 0, none⟩) 0 0]
    simpa only [World.size_alloc, gw] using this)
  have HL := Lib.hid hlen
  have hG2 : (W.alloc (.cells #[] 3)).heap.size = G + 2 := by simp [gw]
  clear hu' hlen o0
  go_enter Try.func130, Try.ntmps130
  go_wp2
  go_loopw [5, 6, 7, 8] (fun o i l k wr => ∃ (j : Nat), j ≤ q.f.length ∧ i = .int .i64 j ∧ PtsO s wr W.heap.size W.heap.size o (pthK q n s j) ∧ Below W.heap.size W wr) (fun _ i _ _ _ => q.f.length - (intOf i).toNat)
  case atStart => exact ⟨0, Nat.zero_le _, rfl, HO.out, g2⟩
  case round =>
    obtain ⟨j, hj, rfl, hO, hbel⟩ := hrel
    have hGs : w0.heap.size = G := hG
    have kBr := kB.below (hbel.mono (Nat.le_refl _)) (by omega)
    have c0 := kBr.cell' (i := 0) rfl
    have c1 := kBr.cell' (i := 1) rfl
    have c2 := kBr.cell' (i := 2) rfl
    have gr := bthen g0 hbel
    have hws := hbel.size
    by_cases hlt : j < q.f.length
    · obtain ⟨b1, o1, xa, rfl, hbb1, HF, y1, _⟩ := SlI.at_ hf hlt
      obtain ⟨b2, o2, xb, rfl, hbb2, HT, y2, xbr⟩ := SlI.at_ hT (k := j) (by have := HL.out; omega)
      have z1 := bcell gr hbb1 y1
      have z2 := bcell gr hbb2 y2
      clear y1 y2
      by_cases hxs : xa = s
      · subst hxs
        have hhb := hh j xa xb HF.out HT.out
        obtain ⟨m, rfl⟩ : ∃ m, n = m + 1 := ⟨n - 1, by omega⟩
        have HY := Lib.hid (pthK_yes (n := m) HF.out HT.out rfl)
        have HI := Lib.hid (IH m rfl)
        have hle := pthR_le h6 m xa j
        have hpl := pthF_le h6 m xb
        have hvl := pthF_vld HL.out m xb
        have hbel1 := Lib.hid hbel
        have hO1 := Lib.hid hO
        have GR := Lib.hid gr
        have hjt : j < q.t.length := by have := HL.out; omega
        have hbw1 : b1 < wr.heap.size := by have := gr.size; omega
        have hbw2 : b2 < wr.heap.size := by have := gr.size; omega
        obtain ⟨OA, oc, eo, _, _⟩ := hO.form
        subst eo
        clear hO hbel gr hh IH
        have HVL := Lib.hid hvl
        clear hvl
        go_wp2
        refine wp_region_net (by kernel_rfl) [.eq (.agg #[.int .i64 q.v, .slice (some ⟨b1, o1, none⟩) q.f.length c, .slice (some ⟨b2, o2, none⟩) q.t.length d]), .eq (.pointer (some ⟨G, 2, none⟩)), .eq (.slice (some ⟨b2, o2, none⟩) q.t.length d), .eq (.int .i64 j), .eq (.pointer (some ⟨b2, o2 + j, none⟩)), .eq (.int .i64 xb)] [[], [], [1], [], [1, 2, 3], [1, 2, 3, 4], [0, 1, 2, 3, 4, 5], [0, 1, 2, 3, 4, 5, 6]] 6 (by kernel_rfl) ⟨trivial, trivial, trivial, trivial, trivial, trivial, trivial⟩ ⟨?_, ?_, ?_, ?_, ?_, ?_, trivial⟩ ?_
        · intro x w hb hk Q' hQ
          clear hk
          simp only [netAct, dstAt, List.getElem?_toArray, List.getElem?_cons_zero, List.getElem?_cons_succ, Option.bind_some, Act.put, List.setIfInBounds_toArray, List.set_cons_zero, List.set_cons_succ] at hQ ⊢
          have q0 := (kBr.call hb).cell' (i := 0) rfl
          have q1 := (kBr.call hb).cell' (i := 1) rfl
          have q2 := (kBr.call hb).cell' (i := 2) rfl
          go_wp2
          exact hQ (.agg #[.int .i64 q.v, .slice (some ⟨b1, o1, none⟩) q.f.length c, .slice (some ⟨b2, o2, none⟩) q.t.length d]) _ (Below.refl _ _) rfl
        · intro x w hb hk Q' hQ
          clear hk
          simp only [netAct, dstAt, List.getElem?_toArray, List.getElem?_cons_zero, List.getElem?_cons_succ, Option.bind_some, Act.put, List.setIfInBounds_toArray, List.set_cons_zero, List.set_cons_succ] at hQ ⊢
          go_wp2
          exact hQ (.pointer (some ⟨G, 2, none⟩)) _ (Below.refl _ _) rfl
        · intro x w hb hk Q' hQ
          have h1 : x.v 1 = .pointer (some ⟨G, 2, none⟩) := (hk 1 (by decide)).1
          clear hk
          simp only [netAct, dstAt, List.getElem?_toArray, List.getElem?_cons_zero, List.getElem?_cons_succ, Option.bind_some, Act.put, List.setIfInBounds_toArray, List.set_cons_zero, List.set_cons_succ] at hQ ⊢
          simp only [h1] at hQ ⊢
          clear h1
          have q2 := (kBr.call hb).cell' (i := 2) rfl
          go_wp2
          exact hQ (.slice (some ⟨b2, o2, none⟩) q.t.length d) _ (Below.refl _ _) rfl
        · intro x w hb hk Q' hQ
          clear hk
          simp only [netAct, dstAt, List.getElem?_toArray, List.getElem?_cons_zero, List.getElem?_cons_succ, Option.bind_some, Act.put, List.setIfInBounds_toArray, List.set_cons_zero, List.set_cons_succ] at hQ ⊢
          go_wp2
          exact hQ (.int .i64 j) _ (Below.refl _ _) rfl
        · intro x w hb hk Q' hQ
          have h2 : x.v 2 = .slice (some ⟨b2, o2, none⟩) q.t.length d := (hk 2 (by decide)).1
          have h3 : x.v 3 = .int .i64 j := (hk 3 (by decide)).1
          clear hk
          simp only [netAct, dstAt, List.getElem?_toArray, List.getElem?_cons_zero, List.getElem?_cons_succ, Option.bind_some, Act.put, List.setIfInBounds_toArray, List.set_cons_zero, List.set_cons_succ] at hQ ⊢
          simp only [h2, h3] at hQ ⊢
          clear h2 h3
          go_wp2
          exact hQ (.pointer (some ⟨b2, o2 + j, none⟩)) _ (Below.refl _ _) rfl
        · intro x w hb hk Q' hQ
          have h4 : x.v 4 = .pointer (some ⟨b2, o2 + j, none⟩) := (hk 4 (by decide)).1
          clear hk
          simp only [netAct, dstAt, List.getElem?_toArray, List.getElem?_cons_zero, List.getElem?_cons_succ, Option.bind_some, Act.put, List.setIfInBounds_toArray, List.set_cons_zero, List.set_cons_succ] at hQ ⊢
          simp only [h4] at hQ ⊢
          clear h4
          have q2 := bcell hb hbw2 z2
          go_wp2
          exact hQ (.int .i64 xb) _ (Below.refl _ _) rfl
        · intro x w hb hk hiv hdj
          have h0 : x.v 0 = .agg #[.int .i64 q.v, .slice (some ⟨b1, o1, none⟩) q.f.length c, .slice (some ⟨b2, o2, none⟩) q.t.length d] := hk 0 (by decide)
          have h1 : x.v 1 = .pointer (some ⟨G, 2, none⟩) := hk 1 (by decide)
          have h2 : x.v 2 = .slice (some ⟨b2, o2, none⟩) q.t.length d := hk 2 (by decide)
          have h3 : x.v 3 = .int .i64 j := hk 3 (by decide)
          have h4 : x.v 4 = .pointer (some ⟨b2, o2 + j, none⟩) := hk 4 (by decide)
          have h5 : x.v 5 = .int .i64 xb := hk 5 (by decide)
          clear hk
          simp only [netAct, dstAt, List.getElem?_toArray, List.getElem?_cons_zero, List.getElem?_cons_succ, Option.bind_some, Act.put, List.setIfInBounds_toArray, List.set_cons_zero, List.set_cons_succ]
          simp only [List.drop_succ_cons, List.drop_zero, h0, h1, h2, h3, h4, h5]
          clear h0 h1 h2 h3 h4 h5
          have HUw := Lib.hid (QvR.more (Nat.le_trans hws hb.size) (QvR.below (hbel1.out.trans (hb.mono hws)) HU.out))
          have HOw := Lib.hid (hO1.out.below hb)
          have HBw := Lib.hid (hbel1.out.trans (hb.mono hws))
          have kBw := kBr.call hb
          have hhb2 : h xb ≤ m := by omega
          have hbs := hb.size
          clear hiv hdj kBr c0 c1 c2 z1 z2 hbel1 hO1 HU hb
          go_wp2_with fail
          refine (HI.out _ xb _ hhb2 HUw.out xbr).mono ?_; rintro e w5 ⟨v5, rfl, hP5, hb5⟩
          have HP5 := Lib.hid hP5
          have HO5 := Lib.hid (HOw.out.below hb5)
          have HB5 := Lib.hid (HBw.out.trans (hb5.mono (by omega)))
          have hs5 := hb5.size
          obtain ⟨PA, pc, ep, _, _⟩ := hP5.form
          subst ep
          have hne5 : (Value.slice PA (pthF q m xb).length pc).ownBlock = none ∨ (Value.slice PA (pthF q m xb).length pc).ownBlock ≠ (Value.slice OA (pthK q (m + 1) xa j).length oc).ownBlock := by
            rcases e : (Value.slice PA (pthF q m xb).length pc).ownBlock with _ | g
            · exact .inl rfl
            · right
              intro e2
              have k1 := hP5.lt g e
              have k2 := HOw.out.lt g e2.symm
              omega
          obtain ⟨B5, hB5⟩ : ∃ z, w.heap.size = z := ⟨_, rfl⟩
          rw [hB5] at HP5
          have hB52 : B5 ≤ w5.heap.size := by omega
          have hp10 : 10 ^ m ≤ 10000 := (Nat.pow_le_pow_right (show 0 < 10 by omega) (show m ≤ 4 by omega) : 10 ^ m ≤ 10 ^ 4)
          have hj6 : j * 10 ^ m ≤ 60000 := Nat.mul_le_mul (show j ≤ 6 by omega) hp10
          have hle2 : (pthK q (m + 1) xa j).length ≤ 60001 := by have : (pthK q (m + 1) xa j).length ≤ 1 + j * 10 ^ m := hle; omega
          have hpl2 : (pthF q m xb).length ≤ 10000 := by omega
          clear hle hpl hp10 hj6 hP5 hb5 HUw HOw HBw HI
          obtain ⟨OO, hOO⟩ : ∃ z, pthK q (m + 1) xa j = z := ⟨_, rfl⟩
          obtain ⟨LR, hLR⟩ : ∃ z, pthF q m xb = z := ⟨_, rfl⟩
          rw [hOO] at HO5 hle2 HY hne5 ⊢
          obtain ⟨ol, hol⟩ : ∃ z, OO.length = z := ⟨_, rfl⟩
          rw [hol] at HO5 hle2 hne5 ⊢
          have HOL := Lib.hid hol
          clear hol
          rw [hLR] at HP5 hpl2 HVL HY hne5 ⊢
          obtain ⟨pl, hpl3⟩ : ∃ z, LR.length = z := ⟨_, rfl⟩
          rw [hpl3] at HP5 hpl2 hne5 ⊢
          have HPL := Lib.hid hpl3
          have HNE5 := Lib.hid hne5
          clear hOO hLR hpl3 hne5 hB5
          obtain ⟨w8, hw8⟩ : ∃ z, z = wr := ⟨_, rfl⟩
          subst hw8
          go_wp2
          go_loopw [5, 8] (fun o i wr => ∃ (k : Nat), k ≤ pl ∧ i = .int .i64 k ∧ PtsO xa wr W.heap.size W.heap.size o (OO ++ (LR.take k).map fun r => (j : Int) :: r) ∧ PtsO xb wr B5 B5 (.slice PA pl pc) LR ∧ ((Value.slice PA pl pc).ownBlock = none ∨ (Value.slice PA pl pc).ownBlock ≠ o.ownBlock) ∧ Below W.heap.size W wr) (fun _ i _ => pl - (intOf i).toNat)
          case atStart => exact ⟨0, Nat.zero_le _, rfl, by simpa using HO5.out, HP5.out, HNE5.out, HB5.out⟩
          case round =>
            obtain ⟨k, hk, rfl, hO, hP, hne, hBr⟩ := hrel
            have HBr := Lib.hid hBr
            have hwr := hBr.size
            clear hBr
            by_cases hkl : k < pl
            · obtain ⟨pb, po, rr, A', c', rfl, hpb, HR, q0, q1, hsr, hr1, hr2, hr3⟩ := SlP.at_ (c := pc) (A := PA) (by rw [HPL.out]; exact hP.rd) (k := k) (by rw [HPL.out]; exact hkl)
              have HP := Lib.hid hP
              have hrn : rr.length ≤ m := (HVL.out rr (List.mem_of_getElem? HR.out)).2
              have HTK := Lib.hid (show (LR.take (k + 1)).map (fun r => (j : Int) :: r) = (LR.take k).map (fun r => (j : Int) :: r) ++ [(j : Int) :: rr] by
                rw [List.take_add_one, HR.out]; simp)
              obtain ⟨OA2, oc2, eo2, _, _⟩ := hO.form
              subst eo2
              obtain ⟨n2, hn2⟩ : ∃ z, (OO ++ (LR.take k).map fun r => (j : Int) :: r).length = z := ⟨_, rfl⟩
              have hn2b : n2 ≤ 100000 := by rw [← hn2, List.length_append, List.length_map, List.length_take, HOL.out, HPL.out]; omega
              rw [hn2] at hO hne ⊢
              have HNE := Lib.hid hne
              have HN2 := Lib.hid hn2
              have HO := Lib.hid hO
              have oj : OwnI (wr.alloc (.cells #[.int .i64 (j : Int)] 3)) wr.heap.size (.slice (some ⟨wr.heap.size, 0, none⟩) 1 1) [(j : Int)] :=
                OwnI.of_blk (cs := #[.int .i64 (j : Int)]) (xs := [(j : Int)]) (Blk.new _ _ _) (Nat.le_refl _) ⟨rfl, fun i y hi hy => by (match i, hy with | 0, hy => (simp at hy; subst hy; rfl) | i + 1, hy => simp at hy)⟩ (by simp) (by intro y hy; simp at hy; subst hy; constructor <;> omega)
              have bj := below_alloc wr (.cells #[.int .i64 (j : Int)] 3)
              have HSR := Lib.hid (SlI.more bj.size (SlI.below bj hsr))
              have HO2 := Lib.hid (HO.out.below bj)
              have HOJ := Lib.hid oj
              have HBJ := Lib.hid bj
              have hjs := bj.size
              have q1'' := bcell bj hpb q1
              clear hn2 hO hP hne hsr q0 q1 oj bj
              (go_wp2_with (at_builtin; refine Hold.stop ?_)); unfold Hold
              refine wpList_appI rfl (.tmp 43) (.tmp 48) rfl wr.heap.size _ _ [(j : Int)] rfl HOJ.out A' rr.length c' rr rfl rfl HSR.out (by simp; omega) (by omega) ?_
              intro v9 w9 ho9 hg9 _
              have hb9 : Below wr.heap.size wr w9 := HBJ.out.trans (below_grown hg9 (fun k hk => (HOJ.out.lt k hk).1) (by omega))
              obtain ⟨NA, nc, en, _, _⟩ := ho9.form
              subst en
              have HO9 := Lib.hid (HO.out.below hb9)
              have HN9 := Lib.hid ho9
              have HP9 := Lib.hid (HP.out.below hb9)
              have HG9 := Lib.hid (HBr.out.trans (hb9.mono (by omega)))
              have hs9 := hb9.size
              obtain ⟨nn, hnn⟩ : ∃ z, ([(j : Int)] ++ rr).length = z := ⟨_, rfl⟩
              rw [hnn] at HN9 ⊢
              have bp := below_alloc w9 (.cells #[.int .i64 xa, .slice NA nn nc] 118)
              have HPN := Lib.hid (show PtsO xa (w9.alloc (.cells #[.int .i64 xa, .slice NA nn nc] 118)) w9.heap.size W.heap.size (.slice (some ⟨w9.heap.size, 0, none⟩) 1 1) [[(j : Int)] ++ rr] from
                PtsO.new (Nat.le_refl _) (Blk.new _ _ _) ((HN9.out.lower hwr).alloc _))
              have HOp := Lib.hid (HO9.out.below bp)
              have HPp := Lib.hid (HP9.out.below bp)
              have HGp := Lib.hid (HG9.out.trans (bp.mono (by omega)))
              have hsp := bp.size
              clear hnn ho9 hg9 hb9 bp q1'' HSR HO2 HOJ HBJ HO9 HP9
              (go_wp2_with (at_builtin; refine Hold.stop ?_)); unfold Hold
              refine wpList_appP rfl (.tmp 40) (.tmp 51) rfl xa W.heap.size W.heap.size w9.heap.size _ _ rfl HOp.out _ _ _ [[(j : Int)] ++ rr] rfl HPN.out (by rw [HN2.out]; simp; omega) (by omega) ?_
              intro v10 w10 ho10 hb10 hg10 hv10
              have hP10 := HPp.out.grown HOp.out HNE.out hg10
              have hne10 : (Value.slice (some ⟨pb, po, none⟩) pl pc).ownBlock = none ∨ (Value.slice (some ⟨pb, po, none⟩) pl pc).ownBlock ≠ v10.ownBlock := by
                rcases HNE.out with e | e
                · exact .inl e
                · rcases hv10 with e2 | e2
                  · right; rw [e2]; exact e
                  · rcases e3 : (Value.slice (some ⟨pb, po, none⟩) pl pc).ownBlock with _ | g
                    · exact .inl rfl
                    · right
                      rw [e2]
                      intro e4
                      injection e4 with e4
                      have := (HPp.out.lt g e3).2
                      omega
              have HP10 := Lib.hid hP10
              have HNE10 := Lib.hid hne10
              have HO10 := Lib.hid ho10
              have HB10 := Lib.hid (HGp.out.trans hb10)
              clear ho10 hb10 hg10 hv10 hP10 hne10
              go_wp2
              go_roundw
              case rel => exact ⟨k + 1, by omega, by go_num, by rw [HTK.out, ← List.append_assoc]; exact HO10.out, HP10.out, HNE10.out, HB10.out⟩
              case measure => simp [intOf]; omega
            · have hkp : k = pl := by omega
              have HTK := Lib.hid (show OO ++ (LR.take k).map (fun r => (j : Int) :: r) = pthK q (m + 1) xa (j + 1) by rw [hkp, ← HPL.out, List.take_length, HY.out])
              have HO := Lib.hid hO
              clear hO hP hne hkp
              go_wp2
              go_roundw
              case rel => exact ⟨j + 1, by omega, by go_num, by rw [← HTK.out]; exact HO.out, HBr.out⟩
              case measure => simp [intOf]; omega
      · have HN := Lib.hid (pthK_no (n := n) HF.out hxs)
        have hne : ((xa : Int) == s) = false := by rw [beq_eq_false_iff_ne]; exact hxs
        have HO2 := Lib.hid hO
        have HB := Lib.hid hbel
        clear hO hbel hh IH
        go_wp2
        go_roundw
        case rel => exact ⟨j + 1, by omega, by go_num, by rw [HN.out]; exact HO2.out, HB.out⟩
        case measure => simp [intOf]; omega
    · have hje : j = q.f.length := by omega
      have HE := Lib.hid (show pthK q n s j = pthF q n s by rw [hje, pthK_end])
      have HO2 := Lib.hid hO
      have GR := Lib.hid gr
      clear hO hbel hje IH gr
      go_wp2
      go_ret
      exact ⟨_, rfl, by rw [← HE.out]; exact HO2.out.lower (by omega) (by omega), by rw [hG]; rw [hG] at GR; exact GR.out⟩
theorem l7From_any (q : Qv) (h : Int → Nat) (hh : Hgt q h) (hq : isQ q = true) : ∀ (n : Nat), n ≤ 4 → ∀ (u : Value) (s : Int) (w0 : World), h s ≤ n → QvR w0 w0.heap.size u q → I64 s →
    Calls Try.prog 130 #[u, .int .i64 s] w0 fun e w' => ∃ v, e = .returned v ∧ PtsO s w' w0.heap.size w0.heap.size v (pthF q n s) ∧ Below w0.heap.size w0 w'
  | 0, hn => fun u s w0 hs hu hi => l7From_step q h hh hq 0 hn (fun m hm => by omega) u s w0 hs hu hi
  | n + 1, hn => fun u s w0 hs hu hi => l7From_step q h hh hq (n + 1) hn (fun m hm => by
      obtain rfl : m = n := by omega
      exact l7From_any q h hh hq m (by omega)) u s w0 hs hu hi
/-- from a vertex of an acyclic quiver -/
theorem l7From_acy (q : Qv) (ha : acyQ q = true) (u : Value) (s : Int) (w0 : World) (hu : QvR w0 w0.heap.size u q) (hi : I64 s) :
    Calls Try.prog 130 #[u, .int .i64 s] w0 fun e w' => ∃ v, e = .returned v ∧ PtsO s w' w0.heap.size w0.heap.size v (pthF q 4 s) ∧ Below w0.heap.size w0 w' := by
  have hv := (isQ_t.1 (acy_isQ ha)).1
  have := hgtQ_le q s
  exact l7From_any q (hgtQ q) (acy_hgt ha) (acy_isQ ha) 4 (by omega) u s w0 (by omega) hu hi
end Go.Proofs.Ytgbchoenmpoojaa

/- The reference's PathsBetween and CountPaths. -/
namespace Go.Proofs.Ytgbchoenmpoojaa
set_option linter.unusedVariables false
set_option linter.unusedSimpArgs false
open Go.RowKit

theorem PtsO.made {s : Int} {w : World} {lo la g : Nat} (hlo : lo ≤ g) (hb : Blk w g 118 #[]) : PtsO s w lo la (.slice (some ⟨g, 0, none⟩) 0 0) [] :=
  ⟨[], ⟨rfl, by simp⟩, hb.own (base := lo) (n := 0) (cap := 0) (size := 2) hlo (Nat.le_refl _) (by simp only [maxLen]; omega) (by rfl), by simp⟩
theorem PtsO.at_ {s : Int} {w : World} {lo la k : Nat} {v : Value} {ll : List (List Int)} (h : PtsO s w lo la v ll) (hk : k < ll.length) :
    ∃ g c r A' c', v = .slice (some ⟨g, 0, none⟩) ll.length c ∧ g < w.heap.size ∧ Hid (ll[k]? = some r) ∧ w.cell? ⟨g, k * 2, none⟩ = some (.int .i64 s) ∧ w.cell? ⟨g, k * 2 + 1, none⟩ = some (.slice A' r.length c') ∧ OwnI w la (.slice A' r.length c') r := by
  obtain ⟨vs, h1, h2, h3⟩ := h
  have h2' := h2
  rcases h2.2 with ⟨rfl, h0⟩ | ⟨g, cap, cur, rfl, _, hg, hnc, hcm, hcs, htake⟩
  · omega
  · have hx : ll[k]? = some ll[k] := List.getElem?_eq_getElem hk
    have hv : vs[k]? = some (vs[k]'(by have := h1.1; omega)) := List.getElem?_eq_getElem (by have := h1.1; omega)
    obtain ⟨a, b⟩ := pcs_get (s := s) hv
    have e := fun i (hi : i < 2) => h2'.cellAt (k * 2 + i) (by omega)
    have ho := h1.2 k _ _ hv hx
    obtain ⟨A', c', e', _, _⟩ := ho.form
    rw [e'] at b ho
    have e0 := e 0 (by omega)
    rw [Nat.add_zero] at e0
    exact ⟨g, cap, ll[k], A', c', rfl, (Array.getElem?_eq_some_iff.1 hg).1, hx, by rw [e0]; exact a, by rw [e 1 (by omega)]; exact b, ho⟩
set_option maxRecDepth 100000 in
set_option maxHeartbeats 3200000 in
theorem specPathsBetween_any (u : Value) (q : Qv) (s t : Int) (w0 : World) (hu : QvR w0 w0.heap.size u q) (hsi : I64 s) (hti : I64 t) :
    Calls Try.prog 110 #[u, .int .i64 s, .int .i64 t] w0 fun e w' => (∃ A c, e = .returned (.tuple #[.slice A (pbN q s t) c, .bool (pbOk q s t)])) ∧ Below w0.heap.size w0 w' := by
  have hu' := hu
  obtain ⟨A, c, C, d, rfl, hf, hT, hr, lf, lt⟩ := hu.open_
  clear hu hf hT
  obtain ⟨W, hW⟩ : ∃ W, w0.alloc (.cells #[.int .i64 q.v, .slice A q.f.length c, .slice C q.t.length d] 27) = W := ⟨_, rfl⟩
  have g0 : Below w0.heap.size w0 W := by rw [← hW]; exact below_alloc _ _
  have kB : Blk W w0.heap.size 27 #[.int .i64 q.v, .slice A q.f.length c, .slice C q.t.length d] := by rw [← hW]; exact Blk.new _ _ _
  have HQ := Lib.hid (QvR.next g0 hu')
  clear hu'
  have c0 := kB.cell' (i := 0) rfl
  have c1 := kB.cell' (i := 1) rfl
  have c2 := kB.cell' (i := 2) rfl
  obtain ⟨W1, hW1⟩ : ∃ W1, W.alloc (.cells #[] 118) = W1 := ⟨_, rfl⟩
  have b1 : Below W.heap.size W W1 := by rw [← hW1]; exact below_alloc _ _
  have kE : Blk W1 W.heap.size 118 #[] := by rw [← hW1]; exact Blk.new _ _ _
  have kB1 := kB.call b1
  have HQ1 := Lib.hid (QvR.next b1 HQ.out)
  have g1 := bthen g0 b1
  clear c0 c1 c2
  have c0 := kB1.cell' (i := 0) rfl
  have c1 := kB1.cell' (i := 1) rfl
  have c2 := kB1.cell' (i := 2) rfl
  have gw : W.heap.size = w0.heap.size + 1 := by rw [← hW]; simp
  by_cases ha : acyQ q = true
  case neg =>
    rw [Bool.not_eq_true] at ha
    have hok : pbOk q s t = false := pbOk_acy ha
    rw [hok, (cp_no hok).2]
    have HA := Lib.hid ha
    clear ha hok
    go_enter Try.func110, Try.ntmps110
    go_wp2_with fail
    clear hW hW1
    refine (specIsAcyclic_any _ q _ HQ1.out).mono ?_; rintro e w1 ⟨rfl, hb1⟩
    rw [HA.out]
    go_wp2
    go_ret2
    exact ⟨⟨_, _, rfl⟩, bthen g1 hb1⟩
  case pos =>
  have hv5 := (isQ_t.1 (acy_isQ ha)).1
  have HA := Lib.hid ha
  by_cases hs : inR s 0 (q.v - 1) = true
  case neg =>
    rw [Bool.not_eq_true] at hs
    have hok : pbOk q s t = false := pbOk_s hs
    rw [hok, (cp_no hok).2]
    have HS := Lib.hid hs
    clear ha hok hs
    go_enter Try.func110, Try.ntmps110
    go_wp2_with fail
    clear hW hW1
    refine (specIsAcyclic_any _ q _ HQ1.out).mono ?_; rintro e wa ⟨rfl, hba⟩
    rw [HA.out]
    have k1 := kB1.call hba
    clear c0 c1 c2
    have c0 := k1.cell' (i := 0) rfl
    have c1 := k1.cell' (i := 1) rfl
    have c2 := k1.cell' (i := 2) rfl
    go_wp2_with fail
    refine (l1In_any _ _ _ _).mono ?_; rintro e wz ⟨rfl, hwz⟩
    replace hwz := hwz.symm
    subst hwz
    rw [HS.out]
    go_wp2
    go_ret2
    exact ⟨⟨_, _, rfl⟩, bthen g1 hba⟩
  case pos =>
  have HS := Lib.hid hs
  by_cases ht : inR t 0 (q.v - 1) = true
  case neg =>
    rw [Bool.not_eq_true] at ht
    have hok : pbOk q s t = false := pbOk_t ht
    rw [hok, (cp_no hok).2]
    have HT := Lib.hid ht
    clear ha hok hs ht
    go_enter Try.func110, Try.ntmps110
    go_wp2_with fail
    clear hW hW1
    refine (specIsAcyclic_any _ q _ HQ1.out).mono ?_; rintro e wa ⟨rfl, hba⟩
    rw [HA.out]
    have k1 := kB1.call hba
    clear c0 c1 c2
    have c0 := k1.cell' (i := 0) rfl
    have c1 := k1.cell' (i := 1) rfl
    have c2 := k1.cell' (i := 2) rfl
    go_wp2_with fail
    refine (l1In_any _ _ _ _).mono ?_; rintro e wz ⟨rfl, hwz⟩
    replace hwz := hwz.symm
    subst hwz
    rw [HS.out]
    go_wp2_with fail
    refine (l1In_any _ _ _ _).mono ?_; rintro e wz ⟨rfl, hwz⟩
    replace hwz := hwz.symm
    subst hwz
    rw [HT.out]
    go_wp2
    go_ret2
    exact ⟨⟨_, _, rfl⟩, bthen g1 hba⟩
  case pos =>
  have HT := Lib.hid ht
  have hok : pbOk q s t = true := by simp [pbOk, ha, hs, ht]
  obtain ⟨L, hL⟩ : ∃ L, pbN q s t = L := ⟨_, rfl⟩
  have HL : Hid (((pthF q 4 s).filter fun r => endP q s r == t).length = L) := by
    show _ = _
    rw [← hL, pbN, if_pos hok]
  rw [hok, hL]
  have hs1 := inR_t.1 hs
  have h6 := (isQ_t.1 (acy_isQ ha)).2.2.1
  have hpl1 := pthF_le h6 4 s
  have HVL := Lib.hid (pthF_vld (isQ_t.1 (acy_isQ ha)).2.1 4 s)
  have HIQ := Lib.hid (acy_isQ ha)
  clear hok hs ht ha hL
  go_enter Try.func110, Try.ntmps110
  go_wp2_with fail
  clear hW hW1
  refine (specIsAcyclic_any _ q _ HQ1.out).mono ?_; rintro e wa ⟨rfl, hba⟩
  rw [HA.out]
  have k1 := kB1.call hba
  clear c0 c1 c2
  have c0 := k1.cell' (i := 0) rfl
  have c1 := k1.cell' (i := 1) rfl
  have c2 := k1.cell' (i := 2) rfl
  go_wp2_with fail
  refine (l1In_any _ _ _ _).mono ?_; rintro e wz ⟨rfl, hwz⟩
  replace hwz := hwz.symm
  subst hwz
  rw [HS.out]
  go_wp2_with fail
  refine (l1In_any _ _ _ _).mono ?_; rintro e wz ⟨rfl, hwz⟩
  replace hwz := hwz.symm
  subst hwz
  rw [HT.out]
  have HQa := Lib.hid (QvR.next hba HQ1.out)
  go_wp2_with fail
  refine (l7From_acy q HA.out _ s wa HQa.out hsi).mono ?_; rintro e wb ⟨v5, rfl, hP5, hbb⟩
  have k2 := Lib.hid (k1.call hbb)
  have HQb := Lib.hid (QvR.next hbb HQa.out)
  have hEb := Lib.hid ((kE.call hba).call hbb)
  have hGb := Lib.hid (bthen (bthen b1 hba) hbb)
  have hsb := hbb.size
  have hsa := hba.size
  have hs1' := b1.size
  have HOb := Lib.hid (PtsO.made (s := s) (lo := W.heap.size) (la := W.heap.size) (Nat.le_refl _) hEb.out)
  obtain ⟨PA, pc, ep, _, _⟩ := hP5.form
  subst ep
  have hne5 : (Value.slice PA (pthF q 4 s).length pc).ownBlock = none ∨ (Value.slice PA (pthF q 4 s).length pc).ownBlock ≠ (Value.slice (some ⟨W.heap.size, 0, none⟩) 0 0).ownBlock := by
    rcases e : (Value.slice PA (pthF q 4 s).length pc).ownBlock with _ | g
    · exact .inl rfl
    · right
      intro e2
      have k1 := hP5.lt g e
      have k2 := HOb.out.lt g e2.symm
      have k3 := kE.lt
      have k4 : (Value.slice (some ⟨W.heap.size, 0, none⟩) 0 0).ownBlock = some W.heap.size := rfl
      rw [k4] at e2
      injection e2 with e2
      omega
  have HP5 := Lib.hid hP5
  obtain ⟨LR, hLR⟩ : ∃ z, pthF q 4 s = z := ⟨_, rfl⟩
  rw [hLR] at HP5 hpl1 HVL HL hne5 ⊢
  obtain ⟨pl, hpl⟩ : ∃ z, LR.length = z := ⟨_, rfl⟩
  rw [hpl] at HP5 hpl1 hne5 ⊢
  have HPL := Lib.hid hpl
  have HNE5 := Lib.hid hne5
  obtain ⟨B5, hB5⟩ : ∃ z, wa.heap.size = z := ⟨_, rfl⟩
  rw [hB5] at HP5
  have hB52 : W.heap.size ≤ B5 := by omega
  have hB53 : B5 ≤ wb.heap.size := by omega
  have hpl2 : pl ≤ 10000 := hpl1
  have G0 := Lib.hid g0
  have KB := Lib.hid kB
  clear hLR hpl hne5 hP5 hbb hba b1 kE kB kB1 k1 c0 c1 c2 g0 g1 hpl1 HQ1 HQa hB5
  go_wp2
  go_loopw [8, 10] (fun o i wr => ∃ (k : Nat), k ≤ pl ∧ i = .int .i64 k ∧ PtsO s wr W.heap.size W.heap.size o ((LR.take k).filter fun r => endP q s r == t) ∧ PtsO s wr B5 B5 (.slice PA pl pc) LR ∧ ((Value.slice PA pl pc).ownBlock = none ∨ (Value.slice PA pl pc).ownBlock ≠ o.ownBlock) ∧ Below W.heap.size W wr) (fun _ i _ => pl - (intOf i).toNat)
  case atStart =>
    rw [← gw]
    exact ⟨0, Nat.zero_le _, rfl, by simpa using HOb.out, HP5.out, HNE5.out, hGb.out⟩
  case round =>
    obtain ⟨k, hk, rfl, hO, hP, hne, hBr⟩ := hrel
    have HBr := Lib.hid hBr
    have hwr := hBr.size
    have hkr : Blk wr w0.heap.size 27 #[.int .i64 q.v, .slice A q.f.length c, .slice C q.t.length d] := KB.out.below hBr KB.out.lt
    have HQr := Lib.hid (QvR.more hwr (QvR.below hBr HQ.out))
    have HP := Lib.hid hP
    have HO := Lib.hid hO
    have HNE := Lib.hid hne
    by_cases hkl : k < pl
    · obtain ⟨gp, cp, rr, A', c', ep, hgp, HR, q0, q1, hrr⟩ := hP.at_ (k := k) (by rw [HPL.out]; exact hkl)
      rw [HPL.out] at ep
      injection ep with ep1 _ ep2
      subst ep1 ep2
      have hvl := HVL.out rr (List.mem_of_getElem? HR.out)
      have HEND := Lib.hid (fun (T : InB wr) => specEndOf_any (.agg #[.int .i64 q.v, .slice A q.f.length c, .slice C q.t.length d]) (.agg #[.int .i64 s, .slice A' rr.length c']) q s rr T.val (QvR.next T.below HQr.out) ⟨_, rfl, SlI.next T.below hrr.rd⟩ HIQ.out hs1.1 hs1.2 hvl.1 (by omega))
      have d0 := InB.cell hkr.lt (hkr.cell' (i := 0) rfl)
      have d1 := InB.cell hkr.lt (hkr.cell' (i := 1) rfl)
      have d2 := InB.cell hkr.lt (hkr.cell' (i := 2) rfl)
      have d3 := InB.cell hgp q0
      have d4 := InB.cell hgp q1
      have HHP := Lib.hid hgp
      obtain ⟨E, hE⟩ : ∃ E, endP q s rr = E := ⟨_, rfl⟩
      have HTK := Lib.hid (show (LR.take (k + 1)).filter (fun r => endP q s r == t) = (LR.take k).filter (fun r => endP q s r == t) ++ if E == t then [rr] else [] by
        rw [take_snoc HR.out, List.filter_append, ← hE]
        congr 1
        by_cases h : endP q s rr = t
        · simp [h]
        · simp [h])
      have hE2 : ∀ T : InB wr, Calls Try.prog 131 #[.agg #[.int .i64 q.v, .slice A q.f.length c, .slice C q.t.length d], .agg #[.int .i64 s, .slice A' rr.length c']] T.val fun e w' => e = .returned (.int .i64 E) ∧ Below T.val.heap.size T.val w' := by
        intro T; rw [← hE]; exact HEND.out T
      have HE2 := Lib.hid hE2
      obtain ⟨rl, hrl⟩ : ∃ z, rr.length = z := ⟨_, rfl⟩
      rw [hrl] at d4 HE2 q1 hrr
      have HRR := Lib.hid hrr
      clear hP hO hne hBr hvl HEND hE hE2 hrl hkr hgp hrr
      rcases hB : E == t with _ | _
      · rw [hB] at HTK
        go_wp2
        (refine wp_region_inB (by kernel_rfl) (by kernel_rfl) ?_; (repeat (go_big_quiet_step ((go_at_call 131; exact InB.call (HE2.out _))))); refine wpQuiet_nil ?_; intro w1 hw'; obtain ⟨s1, hw1⟩ := hw'; have hb1 := s1.below; rw [← hw1] at hb1; clear hw1 s1)
        have HB1 := Lib.hid hb1
        clear hb1
        go_wp2
        go_roundw
        case rel =>
          refine ⟨k + 1, by omega, by go_num, ?_, HP.out.below HB1.out, HNE.out, HBr.out.trans (HB1.out.mono HBr.out.size)⟩
          rw [HTK.out]
          simpa using HO.out.below HB1.out
        case measure => simp [intOf]; omega
      · rw [hB] at HTK
        go_wp2
        (refine wp_region_inB (by kernel_rfl) (by kernel_rfl) ?_; (repeat (go_big_quiet_step ((go_at_call 131; exact InB.call (HE2.out _))))); refine wpQuiet_nil ?_; intro w1 hw'; obtain ⟨s1, hw1⟩ := hw'; have hb1 := s1.below; rw [← hw1] at hb1; clear hw1 s1)
        have hO1 := HO.out.below hb1
        have hP1 := HP.out.below hb1
        have r0 := bcell hb1 HHP.out q0
        have r1 := bcell hb1 HHP.out q1
        have HB1 := Lib.hid (HBr.out.trans (hb1.mono hwr))
        have hs9 := hb1.size
        have hRR := HRR.out.below hb1
        obtain ⟨OA, oc, eo, _, _⟩ := hO1.form
        subst eo
        obtain ⟨ol, hol⟩ : ∃ z, ((LR.take k).filter fun r => endP q s r == t).length = z := ⟨_, rfl⟩
        have hol2 : ol ≤ 10000 := by
          have h1 := List.length_filter_le (fun r => endP q s r == t) (LR.take k)
          rw [List.length_take] at h1
          omega
        have HNE2 := HNE.out
        rw [hol] at hO1 HNE2 ⊢
        have HOL := Lib.hid hol
        obtain ⟨w9, hw9⟩ : ∃ z, z = w1 := ⟨_, rfl⟩
        subst hw9
        have bp := below_alloc w9 (.cells #[.int .i64 s, .slice A' rl c'] 118)
        have HPN := Lib.hid (show PtsO s (w9.alloc (.cells #[.int .i64 s, .slice A' rl c'] 118)) w9.heap.size W.heap.size (.slice (some ⟨w9.heap.size, 0, none⟩) 1 1) [rr] from
          PtsO.new (Nat.le_refl _) (Blk.new _ _ _) ((hRR.lower hB52).alloc _))
        have HOp := Lib.hid (hO1.below bp)
        have HPp := Lib.hid (hP1.below bp)
        have HGp := Lib.hid (HB1.out.trans (bp.mono (by omega)))
        have HNE3 := Lib.hid HNE2
        have hsp := bp.size
        clear hO1 hP1 hRR hol HNE2 bp hb1 d0 d1 d2 d3 d4 q0 q1
        (go_wp2_with (at_builtin; refine Hold.stop ?_)); unfold Hold
        refine wpList_appP rfl (.tmp 49) (.tmp 54) rfl s W.heap.size W.heap.size w9.heap.size _ _ rfl HOp.out _ _ _ [rr] rfl HPN.out (by rw [HOL.out]; simp; omega) (by omega) ?_
        intro v10 w10 ho10 hb10 hg10 hv10
        have hP10 := HPp.out.grown HOp.out HNE3.out hg10
        have hne10 : (Value.slice (some ⟨gp, 0, none⟩) pl pc).ownBlock = none ∨ (Value.slice (some ⟨gp, 0, none⟩) pl pc).ownBlock ≠ v10.ownBlock := by
          rcases HNE3.out with e | e
          · exact .inl e
          · rcases hv10 with e2 | e2
            · right; rw [e2]; exact e
            · rcases e3 : (Value.slice (some ⟨gp, 0, none⟩) pl pc).ownBlock with _ | g
              · exact .inl rfl
              · right
                rw [e2]
                intro e4
                injection e4 with e4
                have := (HPp.out.lt g e3).2
                omega
        have HP10 := Lib.hid hP10
        have HNE10 := Lib.hid hne10
        have HO10 := Lib.hid ho10
        have HB10 := Lib.hid (HGp.out.trans hb10)
        clear ho10 hb10 hg10 hv10 hP10 hne10
        go_wp2
        go_roundw
        case rel => exact ⟨k + 1, by omega, by go_num, by rw [HTK.out]; exact HO10.out, HP10.out, HNE10.out, HB10.out⟩
        case measure => simp [intOf]; omega
    · have hkp : k = pl := by omega
      have hf : ((LR.take k).filter fun r => endP q s r == t).length = L := by rw [hkp, ← HPL.out, List.take_length, HL.out]
      obtain ⟨OA, oc, eo, _, _⟩ := hO.form
      subst eo
      rw [hf]
      clear hO hP hne hkp hBr hf HP HO HNE
      go_wp2
      go_ret2
      exact ⟨⟨_, _, rfl⟩, G0.out.trans (HBr.out.mono G0.out.size)⟩
set_option maxHeartbeats 800000 in
theorem specCountPaths_any (u : Value) (q : Qv) (s t : Int) (w0 : World) (hu : QvR w0 w0.heap.size u q) (hs : I64 s) (ht : I64 t) :
    Calls Try.prog 77 #[u, .int .i64 s, .int .i64 t] w0 fun e w' => e = .returned (.int .i64 (cpQ q s t)) ∧ Below w0.heap.size w0 w' := by
  have hu' := hu
  obtain ⟨A, c, C, d, rfl, hf, hT, hr, lf, lt⟩ := hu.open_
  clear hu hf hT
  obtain ⟨W, hW⟩ : ∃ W, w0.alloc (.cells #[.int .i64 q.v, .slice A q.f.length c, .slice C q.t.length d] 27) = W := ⟨_, rfl⟩
  have g0 : Below w0.heap.size w0 W := by rw [← hW]; exact below_alloc _ _
  have kB : Blk W w0.heap.size 27 #[.int .i64 q.v, .slice A q.f.length c, .slice C q.t.length d] := by rw [← hW]; exact Blk.new _ _ _
  have HQ := Lib.hid (QvR.next g0 hu')
  clear hu'
  have c0 := kB.cell' (i := 0) rfl
  have c1 := kB.cell' (i := 1) rfl
  have c2 := kB.cell' (i := 2) rfl
  rcases hok : pbOk q s t with _ | _
  · have HC := Lib.hid (cp_no hok).1
    have HP := specPathsBetween_any _ q s t W HQ.out hs ht
    rw [hok] at HP
    have HP := Lib.hid HP
    clear hok kB
    go_enter Try.func77, Try.ntmps77
    go_wp2_with fail
    clear hW
    refine HP.out.mono ?_; rintro e w1 ⟨⟨A1, c1', rfl⟩, hb1⟩
    go_wp2
    go_ret
    exact ⟨by rw [HC.out]; rfl, bthen g0 hb1⟩
  · have HC := Lib.hid (cp_yes hok)
    have HP := specPathsBetween_any _ q s t W HQ.out hs ht
    rw [hok] at HP
    obtain ⟨L, hL⟩ : ∃ L, pbN q s t = L := ⟨_, rfl⟩
    rw [hL] at HP HC
    have HP := Lib.hid HP
    clear hok kB hL
    go_enter Try.func77, Try.ntmps77
    go_wp2_with fail
    clear hW
    refine HP.out.mono ?_; rintro e w1 ⟨⟨A1, c1', rfl⟩, hb1⟩
    go_wp2
    go_ret
    exact ⟨by rw [HC.out]; rfl, bthen g0 hb1⟩
end Go.Proofs.Ytgbchoenmpoojaa

/- ProjectiveDims and InjectiveDims: the reference's. -/
namespace Go.Proofs.Ytgbchoenmpoojaa
set_option linter.unusedVariables false
set_option linter.unusedSimpArgs false
open Go.RowKit

set_option maxRecDepth 100000 in
set_option maxHeartbeats 1600000 in
theorem specProjectiveDims_any (u : Value) (q : Qv) (v : Int) (w0 : World) (hu : QvR w0 w0.heap.size u q) (hi : I64 v) :
    Calls Try.prog 46 #[u, .int .i64 v] w0 fun e w' => ∃ o, e = .returned o ∧ OwnI w' w0.heap.size o (dmQ q v) ∧ Below w0.heap.size w0 w' := by
  have HRW := Lib.hid (dmQ_row q v)
  obtain ⟨g, hg⟩ : ∃ g, g = fun w : Nat => cpQ q v w := ⟨_, rfl⟩
  have hgr : acyQ q = true → ∀ j, -1 ≤ g j ∧ g j ≤ 10000 := fun h j => by rw [hg]; exact cp_rng h _ _
  have HGE := Lib.hid (show ∀ w : Nat, g w = cpQ q v w from fun w => by rw [hg])
  rw [← hg] at HRW
  clear hg
  have hrr : I64 q.v := by
    obtain ⟨A, c, C, d, rfl, hf, hT, hr, lf, lt⟩ := hu.open_
    exact hr
  have hu' := hu
  obtain ⟨A, c, C, d, rfl, hf, hT, hr, lf, lt⟩ := hu.open_
  clear hu hf hT
  obtain ⟨W, hW⟩ : ∃ W, w0.alloc (.cells #[.int .i64 q.v, .slice A q.f.length c, .slice C q.t.length d] 27) = W := ⟨_, rfl⟩
  have g0 : Below w0.heap.size w0 W := by rw [← hW]; exact below_alloc _ _
  have kB : Blk W w0.heap.size 27 #[.int .i64 q.v, .slice A q.f.length c, .slice C q.t.length d] := by rw [← hW]; exact Blk.new _ _ _
  have HQ := Lib.hid (QvR.next g0 hu')
  clear hu'
  have c0 := kB.cell' (i := 0) rfl
  have c1 := kB.cell' (i := 1) rfl
  have c2 := kB.cell' (i := 2) rfl
  obtain ⟨W1, hW1⟩ : ∃ W1, W.alloc (.cells #[] 3) = W1 := ⟨_, rfl⟩
  have b1 : Below W.heap.size W W1 := by rw [← hW1]; exact below_alloc _ _
  have gw : W.heap.size = w0.heap.size + 1 := by rw [← hW]; simp
  have ho0 : OwnI W1 W.heap.size (.slice (some ⟨w0.heap.size + 1, 0, none⟩) 0 0) [] := by
    rw [← hW1, ← gw]; exact OwnI.made 3 rfl (Nat.le_refl _)
  have kB1 := kB.call b1
  have HQ1 := Lib.hid (QvR.next b1 HQ.out)
  have G1 := Lib.hid (bthen g0 b1)
  clear c0 c1 c2
  have c0 := kB1.cell' (i := 0) rfl
  have c1 := kB1.cell' (i := 1) rfl
  have c2 := kB1.cell' (i := 2) rfl
  have KB := Lib.hid kB1
  have KB0 := Lib.hid kB
  have B1 := Lib.hid b1
  have G0 := Lib.hid g0
  have hs0 := b1.size
  have hsg := g0.size
  have HO0 := Lib.hid ho0
  have hs1 := G1.out.size
  by_cases hok : dimOk q v = true
  case neg =>
    rw [Bool.not_eq_true] at hok
    rw [hok, if_neg (by simp)] at HRW
    rw [HRW.out]
    have HK := Lib.hid hok
    clear hok b1 kB kB1 g0 HQ ho0 hgr HGE
    go_enter Try.func46, Try.ntmps46
    go_wp2
    clear hW hW1
    go_loopw [5, 6] (fun o i wr => i = .int .i64 0 ∧ o = .slice (some ⟨w0.heap.size + 1, 0, none⟩) 0 0 ∧ wr = W1) (fun _ _ _ => 0)
    case atStart => exact ⟨rfl, rfl, rfl⟩
    case round =>
      obtain ⟨rfl, rfl, rfl⟩ := hrel
      have hI := HK.out
      rw [dimOk, Bool.and_eq_false_iff] at hI
      by_cases h0 : 0 < q.v
      · have hd : decide (0 < q.v) = true := decide_eq_true h0
        rcases ha : acyQ q with _ | _
        · have HA := Lib.hid ha
          clear hI ha
          go_wp2_with fail
          refine (specIsAcyclic_any _ q _ HQ1.out).mono ?_; rintro e w1 ⟨rfl, hb1⟩
          rw [HA.out]
          go_wp2
          go_ret
          exact ⟨_, rfl, (HO0.out.below hb1).lower hsg, bthen G1.out hb1⟩
        · have hs : inR v 0 (q.v - 1) = false := by
            rcases hI with h | h
            · rw [ha] at h; cases h
            · exact h
          have hv5 := (isQ_t.1 (acy_isQ ha)).1
          have HA := Lib.hid ha
          have HS := Lib.hid hs
          clear hI ha hs
          go_wp2_with fail
          refine (specIsAcyclic_any _ q _ HQ1.out).mono ?_; rintro e w1 ⟨rfl, hb1⟩
          rw [HA.out]
          have k1 := KB.out.call hb1
          clear c0 c1 c2
          have c0 := k1.cell' (i := 0) rfl
          have c1 := k1.cell' (i := 1) rfl
          have c2 := k1.cell' (i := 2) rfl
          go_wp2_with fail
          refine (l1In_any _ _ _ _).mono ?_; rintro e wz ⟨rfl, hwz⟩
          replace hwz := hwz.symm
          subst hwz
          rw [HS.out]
          go_wp2
          go_ret
          exact ⟨_, rfl, (HO0.out.below hb1).lower hsg, bthen G1.out hb1⟩
      · have hd : decide (0 < q.v) = false := decide_eq_false h0
        clear hI
        go_wp2
        go_ret
        exact ⟨_, rfl, HO0.out.lower hsg, G1.out⟩
  case pos =>
  rw [hok, if_pos rfl] at HRW
  rw [HRW.out]
  have ha : acyQ q = true := by rw [dimOk, Bool.and_eq_true] at hok; exact hok.1
  have hs : inR v 0 (q.v - 1) = true := by rw [dimOk, Bool.and_eq_true] at hok; exact hok.2
  have hv5 := (isQ_t.1 (acy_isQ ha)).1
  obtain ⟨V, hV⟩ := Int.eq_ofNat_of_zero_le (show 0 ≤ q.v by omega)
  have hVn : q.v.toNat = V := by omega
  rw [hVn]
  have HA := Lib.hid ha
  have HS := Lib.hid hs
  have HVN := Lib.hid hV
  have HG := Lib.hid (hgr ha)
  clear hok ha hs hVn b1 kB kB1 g0 ho0 hgr hV HRW
  go_enter Try.func46, Try.ntmps46
  go_wp2
  clear hW hW1
  go_loopw [5, 6] (fun o i wr => ∃ k : Nat, k ≤ V ∧ i = .int .i64 k ∧ OwnI wr W.heap.size o (rowF k g) ∧ Below W.heap.size W wr) (fun _ i _ => V - (intOf i).toNat)
  case atStart => exact ⟨0, Nat.zero_le _, rfl, HO0.out, B1.out⟩
  case round =>
    obtain ⟨k, hk, rfl, hown, hbel⟩ := hrel
    clear c0 c1 c2
    have kr := KB0.out.call hbel
    have HQr := Lib.hid (QvR.next hbel HQ.out)
    have c0 := kr.cell' (i := 0) rfl
    have c1 := kr.cell' (i := 1) rfl
    have c2 := kr.cell' (i := 2) rfl
    have hws := hbel.size
    have hol := rowF_length k g
    obtain ⟨ol, hol2⟩ : ∃ ol, rowF k g = ol := ⟨_, rfl⟩
    rw [hol2] at hown hol
    obtain ⟨OA, oc, rfl, _, _⟩ := hown.form
    by_cases hlt : k < V
    · have hd : decide ((k : Int) < q.v) = true := decide_eq_true (by have := HVN.out; omega)
      have hv6 : (V : Int) ≤ 5 := by have := HVN.out; omega
      have HX := HG.out k
      obtain ⟨x, hx⟩ : ∃ x, g k = x := ⟨_, rfl⟩
      rw [hx] at HX
      have HCP : Hid (cpQ q v k = x) := by show _ = _; rw [← hx, HGE.out]
      have HST : Hid (ol ++ [x] = rowF (k + 1) g) := by show _ = _; rw [rowFs, hol2, hx]
      have HOW := Lib.hid hown
      have HBE := Lib.hid hbel
      have HOL := Lib.hid hol
      clear hx hol hol2 hown hbel
      go_wp2_with fail
      refine (specIsAcyclic_any _ q _ HQr.out).mono ?_; rintro e w1 ⟨rfl, hb1⟩
      rw [HA.out]
      have k1 := kr.call hb1
      have HQ2 := Lib.hid (QvR.next hb1 HQr.out)
      clear c0 c1 c2
      have c0 := k1.cell' (i := 0) rfl
      have c1 := k1.cell' (i := 1) rfl
      have c2 := k1.cell' (i := 2) rfl
      go_wp2_with fail
      refine (l1In_any _ _ _ _).mono ?_; rintro e wz ⟨rfl, hwz⟩
      replace hwz := hwz.symm
      subst hwz
      rw [HS.out]
      have hCC := specCountPaths_any _ q v k w1 HQ2.out (by first | exact hi | exact ⟨by omega, by omega⟩) (by first | exact hi | exact ⟨by omega, by omega⟩)
      rw [HCP.out] at hCC
      have HCC := Lib.hid hCC
      clear hCC
      go_wp2_with fail
      refine HCC.out.mono ?_; rintro e w3 ⟨rfl, hb3⟩
      have hko := ((HOW.out.below hb1).below hb3).alloc (.cells #[.int .i64 x] 3)
      have hb4 := HBE.out.trans ((hb1.trans (hb3.mono hb1.size)).mono hws)
      have hs4 := hb4.size
      clear HCC HOW HBE hb3 hb1 HQ2 HQr HCP k1 kr c0 c1 c2
      (go_wp2_with (at_builtin; refine Hold.stop ?_)); unfold Hold
      refine wpList_appI rfl (.tmp 25) (.tmp 30) rfl W.heap.size _ (.slice OA ol.length oc) ol rfl hko _ _ _ [x] rfl rfl (SlI.one w3 _ x ⟨by omega, by omega⟩) (by have := HOL.out; simp only [List.length_singleton]; omega) (by simp; omega) ?_
      intro v1 w4 ho1 hg1 hv1
      rw [HST.out] at ho1
      have hb5 := (hb4.alloc hb4.size (.cells #[.int .i64 x] 3)).grown hg1 (by simp; omega) (fun j hj => (hko.lt j hj).1)
      clear hko hg1 hv1
      go_wp2
      go_roundw
      case rel => exact ⟨k + 1, by omega, by go_num, ho1, hb5⟩
      case measure => simp [intOf]; omega
    · have hkV : k = V := by omega
      have hd : decide ((k : Int) < q.v) = false := decide_eq_false (by have := HVN.out; omega)
      have HE : Hid (ol = rowF V g) := by show _ = _; rw [← hol2, hkV]
      have HO := Lib.hid hown
      clear hol hol2 hown hkV kr
      go_wp2
      go_ret
      exact ⟨_, rfl, by rw [← HE.out]; exact HO.out.lower hsg, bthen G0.out hbel⟩
set_option maxRecDepth 100000 in
set_option maxHeartbeats 1600000 in
theorem specInjectiveDims_any (u : Value) (q : Qv) (v : Int) (w0 : World) (hu : QvR w0 w0.heap.size u q) (hi : I64 v) :
    Calls Try.prog 42 #[u, .int .i64 v] w0 fun e w' => ∃ o, e = .returned o ∧ OwnI w' w0.heap.size o (dmJ q v) ∧ Below w0.heap.size w0 w' := by
  have HRW := Lib.hid (dmJ_row q v)
  obtain ⟨g, hg⟩ : ∃ g, g = fun w : Nat => cpQ q w v := ⟨_, rfl⟩
  have hgr : acyQ q = true → ∀ j, -1 ≤ g j ∧ g j ≤ 10000 := fun h j => by rw [hg]; exact cp_rng h _ _
  have HGE := Lib.hid (show ∀ w : Nat, g w = cpQ q w v from fun w => by rw [hg])
  rw [← hg] at HRW
  clear hg
  have hrr : I64 q.v := by
    obtain ⟨A, c, C, d, rfl, hf, hT, hr, lf, lt⟩ := hu.open_
    exact hr
  have hu' := hu
  obtain ⟨A, c, C, d, rfl, hf, hT, hr, lf, lt⟩ := hu.open_
  clear hu hf hT
  obtain ⟨W, hW⟩ : ∃ W, w0.alloc (.cells #[.int .i64 q.v, .slice A q.f.length c, .slice C q.t.length d] 27) = W := ⟨_, rfl⟩
  have g0 : Below w0.heap.size w0 W := by rw [← hW]; exact below_alloc _ _
  have kB : Blk W w0.heap.size 27 #[.int .i64 q.v, .slice A q.f.length c, .slice C q.t.length d] := by rw [← hW]; exact Blk.new _ _ _
  have HQ := Lib.hid (QvR.next g0 hu')
  clear hu'
  have c0 := kB.cell' (i := 0) rfl
  have c1 := kB.cell' (i := 1) rfl
  have c2 := kB.cell' (i := 2) rfl
  obtain ⟨W1, hW1⟩ : ∃ W1, W.alloc (.cells #[] 3) = W1 := ⟨_, rfl⟩
  have b1 : Below W.heap.size W W1 := by rw [← hW1]; exact below_alloc _ _
  have gw : W.heap.size = w0.heap.size + 1 := by rw [← hW]; simp
  have ho0 : OwnI W1 W.heap.size (.slice (some ⟨w0.heap.size + 1, 0, none⟩) 0 0) [] := by
    rw [← hW1, ← gw]; exact OwnI.made 3 rfl (Nat.le_refl _)
  have kB1 := kB.call b1
  have HQ1 := Lib.hid (QvR.next b1 HQ.out)
  have G1 := Lib.hid (bthen g0 b1)
  clear c0 c1 c2
  have c0 := kB1.cell' (i := 0) rfl
  have c1 := kB1.cell' (i := 1) rfl
  have c2 := kB1.cell' (i := 2) rfl
  have KB := Lib.hid kB1
  have KB0 := Lib.hid kB
  have B1 := Lib.hid b1
  have G0 := Lib.hid g0
  have hs0 := b1.size
  have hsg := g0.size
  have HO0 := Lib.hid ho0
  have hs1 := G1.out.size
  by_cases hok : dimOk q v = true
  case neg =>
    rw [Bool.not_eq_true] at hok
    rw [hok, if_neg (by simp)] at HRW
    rw [HRW.out]
    have HK := Lib.hid hok
    clear hok b1 kB kB1 g0 HQ ho0 hgr HGE
    go_enter Try.func42, Try.ntmps42
    go_wp2
    clear hW hW1
    go_loopw [5, 6] (fun o i wr => i = .int .i64 0 ∧ o = .slice (some ⟨w0.heap.size + 1, 0, none⟩) 0 0 ∧ wr = W1) (fun _ _ _ => 0)
    case atStart => exact ⟨rfl, rfl, rfl⟩
    case round =>
      obtain ⟨rfl, rfl, rfl⟩ := hrel
      have hI := HK.out
      rw [dimOk, Bool.and_eq_false_iff] at hI
      by_cases h0 : 0 < q.v
      · have hd : decide (0 < q.v) = true := decide_eq_true h0
        rcases ha : acyQ q with _ | _
        · have HA := Lib.hid ha
          clear hI ha
          go_wp2_with fail
          refine (specIsAcyclic_any _ q _ HQ1.out).mono ?_; rintro e w1 ⟨rfl, hb1⟩
          rw [HA.out]
          go_wp2
          go_ret
          exact ⟨_, rfl, (HO0.out.below hb1).lower hsg, bthen G1.out hb1⟩
        · have hs : inR v 0 (q.v - 1) = false := by
            rcases hI with h | h
            · rw [ha] at h; cases h
            · exact h
          have hv5 := (isQ_t.1 (acy_isQ ha)).1
          have HA := Lib.hid ha
          have HS := Lib.hid hs
          clear hI ha hs
          go_wp2_with fail
          refine (specIsAcyclic_any _ q _ HQ1.out).mono ?_; rintro e w1 ⟨rfl, hb1⟩
          rw [HA.out]
          have k1 := KB.out.call hb1
          clear c0 c1 c2
          have c0 := k1.cell' (i := 0) rfl
          have c1 := k1.cell' (i := 1) rfl
          have c2 := k1.cell' (i := 2) rfl
          go_wp2_with fail
          refine (l1In_any _ _ _ _).mono ?_; rintro e wz ⟨rfl, hwz⟩
          replace hwz := hwz.symm
          subst hwz
          rw [HS.out]
          go_wp2
          go_ret
          exact ⟨_, rfl, (HO0.out.below hb1).lower hsg, bthen G1.out hb1⟩
      · have hd : decide (0 < q.v) = false := decide_eq_false h0
        clear hI
        go_wp2
        go_ret
        exact ⟨_, rfl, HO0.out.lower hsg, G1.out⟩
  case pos =>
  rw [hok, if_pos rfl] at HRW
  rw [HRW.out]
  have ha : acyQ q = true := by rw [dimOk, Bool.and_eq_true] at hok; exact hok.1
  have hs : inR v 0 (q.v - 1) = true := by rw [dimOk, Bool.and_eq_true] at hok; exact hok.2
  have hv5 := (isQ_t.1 (acy_isQ ha)).1
  obtain ⟨V, hV⟩ := Int.eq_ofNat_of_zero_le (show 0 ≤ q.v by omega)
  have hVn : q.v.toNat = V := by omega
  rw [hVn]
  have HA := Lib.hid ha
  have HS := Lib.hid hs
  have HVN := Lib.hid hV
  have HG := Lib.hid (hgr ha)
  clear hok ha hs hVn b1 kB kB1 g0 ho0 hgr hV HRW
  go_enter Try.func42, Try.ntmps42
  go_wp2
  clear hW hW1
  go_loopw [5, 6] (fun o i wr => ∃ k : Nat, k ≤ V ∧ i = .int .i64 k ∧ OwnI wr W.heap.size o (rowF k g) ∧ Below W.heap.size W wr) (fun _ i _ => V - (intOf i).toNat)
  case atStart => exact ⟨0, Nat.zero_le _, rfl, HO0.out, B1.out⟩
  case round =>
    obtain ⟨k, hk, rfl, hown, hbel⟩ := hrel
    clear c0 c1 c2
    have kr := KB0.out.call hbel
    have HQr := Lib.hid (QvR.next hbel HQ.out)
    have c0 := kr.cell' (i := 0) rfl
    have c1 := kr.cell' (i := 1) rfl
    have c2 := kr.cell' (i := 2) rfl
    have hws := hbel.size
    have hol := rowF_length k g
    obtain ⟨ol, hol2⟩ : ∃ ol, rowF k g = ol := ⟨_, rfl⟩
    rw [hol2] at hown hol
    obtain ⟨OA, oc, rfl, _, _⟩ := hown.form
    by_cases hlt : k < V
    · have hd : decide ((k : Int) < q.v) = true := decide_eq_true (by have := HVN.out; omega)
      have hv6 : (V : Int) ≤ 5 := by have := HVN.out; omega
      have HX := HG.out k
      obtain ⟨x, hx⟩ : ∃ x, g k = x := ⟨_, rfl⟩
      rw [hx] at HX
      have HCP : Hid (cpQ q k v = x) := by show _ = _; rw [← hx, HGE.out]
      have HST : Hid (ol ++ [x] = rowF (k + 1) g) := by show _ = _; rw [rowFs, hol2, hx]
      have HOW := Lib.hid hown
      have HBE := Lib.hid hbel
      have HOL := Lib.hid hol
      clear hx hol hol2 hown hbel
      go_wp2_with fail
      refine (specIsAcyclic_any _ q _ HQr.out).mono ?_; rintro e w1 ⟨rfl, hb1⟩
      rw [HA.out]
      have k1 := kr.call hb1
      have HQ2 := Lib.hid (QvR.next hb1 HQr.out)
      clear c0 c1 c2
      have c0 := k1.cell' (i := 0) rfl
      have c1 := k1.cell' (i := 1) rfl
      have c2 := k1.cell' (i := 2) rfl
      go_wp2_with fail
      refine (l1In_any _ _ _ _).mono ?_; rintro e wz ⟨rfl, hwz⟩
      replace hwz := hwz.symm
      subst hwz
      rw [HS.out]
      have hCC := specCountPaths_any _ q k v w1 HQ2.out (by first | exact hi | exact ⟨by omega, by omega⟩) (by first | exact hi | exact ⟨by omega, by omega⟩)
      rw [HCP.out] at hCC
      have HCC := Lib.hid hCC
      clear hCC
      go_wp2_with fail
      refine HCC.out.mono ?_; rintro e w3 ⟨rfl, hb3⟩
      have hko := ((HOW.out.below hb1).below hb3).alloc (.cells #[.int .i64 x] 3)
      have hb4 := HBE.out.trans ((hb1.trans (hb3.mono hb1.size)).mono hws)
      have hs4 := hb4.size
      clear HCC HOW HBE hb3 hb1 HQ2 HQr HCP k1 kr c0 c1 c2
      (go_wp2_with (at_builtin; refine Hold.stop ?_)); unfold Hold
      refine wpList_appI rfl (.tmp 25) (.tmp 30) rfl W.heap.size _ (.slice OA ol.length oc) ol rfl hko _ _ _ [x] rfl rfl (SlI.one w3 _ x ⟨by omega, by omega⟩) (by have := HOL.out; simp only [List.length_singleton]; omega) (by simp; omega) ?_
      intro v1 w4 ho1 hg1 hv1
      rw [HST.out] at ho1
      have hb5 := (hb4.alloc hb4.size (.cells #[.int .i64 x] 3)).grown hg1 (by simp; omega) (fun j hj => (hko.lt j hj).1)
      clear hko hg1 hv1
      go_wp2
      go_roundw
      case rel => exact ⟨k + 1, by omega, by go_num, ho1, hb5⟩
      case measure => simp [intOf]; omega
    · have hkV : k = V := by omega
      have hd : decide ((k : Int) < q.v) = false := decide_eq_false (by have := HVN.out; omega)
      have HE : Hid (ol = rowF V g) := by show _ = _; rw [← hol2, hkV]
      have HO := Lib.hid hown
      clear hol hol2 hown hkV kr
      go_wp2
      go_ret
      exact ⟨_, rfl, by rw [← HE.out]; exact HO.out.lower hsg, bthen G0.out hbel⟩
end Go.Proofs.Ytgbchoenmpoojaa
