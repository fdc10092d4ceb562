/- FnExactReflectSink: for every argument the program's function returns what the reference's returns. Part 9 of 13 of the proof: AddM, Plus, Elim, Mul, ElimS, Red1, Rank0, RankT. No condition. -/
import Derived.Test.YtcmlflppndfdcaaBReflectSink8
/- Remainders; a multiple of a vector added in place. -/
namespace Go.Proofs.Ytcmlflppndfdcaa
set_option linter.unusedVariables false
set_option linter.unusedSimpArgs false
open Go.RowKit

theorem tmod_fix {p x : Int} (hp : 2 ≤ p) : (if x.tmod p < 0 then x.tmod p + p else x.tmod p) = x % p ∧ -p < x.tmod p ∧ x.tmod p < p := by
  have h1 := Int.tmod_lt_of_pos x (show 0 < p by omega)
  have h2 : -p < x.tmod p := by
    have := Int.tmod_lt_of_pos (-x) (show 0 < p by omega)
    rw [Int.neg_tmod] at this
    omega
  refine ⟨?_, h2, h1⟩
  rw [Int.tmod_eq_emod]
  have h3 := Int.emod_nonneg x (show p ≠ 0 by omega)
  have h4 := Int.emod_lt_of_pos x (show 0 < p by omega)
  have h5 : p.natAbs = p := by omega
  split
  · split <;> omega
  · rename_i h
    split <;> omega
theorem tmod_twice {p x : Int} (hp : 2 ≤ p) : (x.tmod p + p) % p = x % p := by
  rw [Int.add_emod_right, Int.emod_def, Int.emod_def x p]
  have h := (tmod_fix (x := x) hp).1
  have h4 := Int.emod_lt_of_pos x (show 0 < p by omega)
  have h3 := Int.emod_nonneg x (show p ≠ 0 by omega)
  rw [← Int.emod_def, ← Int.emod_def]
  rw [← h]
  split
  · rename_i hn
    rw [← Int.add_emod_right, Int.emod_eq_of_lt]
    · have := (tmod_fix (x := x) hp).2.1; omega
    · omega
  · rename_i hn
    exact Int.emod_eq_of_lt (by omega) (tmod_fix (x := x) hp).2.2

/-- cells off .. off + n of a row get k times another row added -/
def amF (p k : Int) (off n : Nat) (f y : Nat → Int) (i : Nat) : Int := if off ≤ i ∧ i < off + n then (f i + k * y (i - off)) % p else f i
theorem amF_0 (p k : Int) (off N : Nat) (f y : Nat → Int) : rowF N f = rowF N (amF p k off 0 f y) := rowF_congr fun i _ => by rw [amF, if_neg (by omega)]
theorem amF_succ {p k : Int} {off j N : Nat} (f y : Nat → Int) : (rowF N (amF p k off j f y)).set (off + j) ((f (off + j) + k * y j) % p) = rowF N (amF p k off (j + 1) f y) := by
  rw [rowF_set]
  refine rowF_congr fun i _ => ?_
  simp only [amF]
  by_cases h : i = off + j
  · subst h
    rw [if_pos rfl, if_pos (by omega), show off + j - off = j by omega]
  · rw [if_neg h]
    (repeat' split) <;> first | rfl | omega
theorem amF_rest {p k : Int} {off j : Nat} (f y : Nat → Int) : amF p k off j f y (off + j) = f (off + j) := by rw [amF, if_neg (by omega)]

set_option maxHeartbeats 1600000 in
theorem addMultiple_own (p k : Int) (g off n N cap ca : Nat) (lo hi : Nat) (f y : Nat → Int) (vb : Value) (w : World) (hp : 2 ≤ p ∧ p ≤ 5) (hk : 0 ≤ k ∧ k ≤ 5)
    (hown : IntsO w lo hi (.slice (some ⟨g, 0, none⟩) N cap) (rowF N f)) (hg : lo ≤ g ∧ g < hi) (hoff : off + n ≤ N) (hN : N ≤ 1000000) (hca : n ≤ ca ∧ ca ≤ 9223372036854775807)
    (hlo : lo ≤ w.heap.size) (hb : SlI w lo vb (rowF n y)) (hf : ∀ i, i < N → 0 ≤ f i ∧ f i ≤ 4) (hy : ∀ i, i < n → 0 ≤ y i ∧ y i ≤ 4) :
    Calls Try.prog 144 #[.int .i64 p, .slice (some ⟨g, off, none⟩) n ca, .int .i64 k, vb] w fun e w' => e = .returned (.slice (some ⟨g, off, none⟩) n ca) ∧ IntsO w' lo hi (.slice (some ⟨g, 0, none⟩) N cap) (rowF N (amF p k off n f y)) ∧ Chg lo hi w w' ∧ w.heap.size = w'.heap.size := by
  obtain ⟨A, c, rfl, _, _, hln, hx⟩ := hb.open_
  clear hb
  have HX := Lib.hid hx
  have HF := Lib.hid hf
  have HY := Lib.hid hy
  rw [rowF_length] at hln ⊢
  rw [amF_0 p k off N f y] at hown
  clear hx hf hy
  go_enter Try.func144, Try.ntmps144
  go_wp2
  go_loopw [13] (fun i wr => ∃ j : Nat, j ≤ n ∧ i = .int .i64 j ∧ IntsO wr lo hi (.slice (some ⟨g, 0, none⟩) N cap) (rowF N (amF p k off j f y)) ∧ Chg lo hi w wr ∧ Hid (w.heap.size = wr.heap.size)) (fun i _ => n - (intOf i).toNat)
  case atStart => exact ⟨0, Nat.zero_le _, rfl, hown, Chg.refl _ _ _, rfl⟩
  case round =>
    clear hown
    obtain ⟨j, hj, rfl, ho, hc, hsz⟩ := hrel
    by_cases hlt : j < n
    · have hx := HX.out
      rw [← rowF_length n y] at hlt
      obtain ⟨b, o, x, rfl, hbl, HXX, x1, _⟩ := SlI.at_ hx hlt
      rw [rowF_length] at hlt
      have hxx := HXX.out
      rw [rowF_get _ hlt] at hxx
      injection hxx with hxx
      subst hxx
      have x2 := bcell (hc.below (Nat.le_refl _) hlo) hbl x1
      have cA := (ho.1.cellG (j := off + j) (by rw [rowF_length]; omega)).1
      rw [rowF_getD _ (by omega), amF_rest] at cA
      have fA := ho.1.frozenG (off + j)
      have hf1 := HF.out (off + j) (by omega)
      have hy1 := HY.out j hlt
      have hst := amF_succ (p := p) (k := k) (off := off) (j := j) (N := N) f y
      obtain ⟨a, ha⟩ : ∃ a, f (off + j) = a := ⟨_, rfl⟩
      obtain ⟨z, hz⟩ : ∃ z, y j = z := ⟨_, rfl⟩
      rw [ha] at cA hf1 hst
      rw [hz] at x2 hy1 hst
      have hkz0 : 0 ≤ k * z := Int.mul_nonneg hk.1 hy1.1
      have hkz1 : k * z ≤ 5 * 4 := Int.mul_le_mul hk.2 hy1.2 hy1.1 (by omega)
      obtain ⟨K, hK⟩ : ∃ K, k * z = K := ⟨_, rfl⟩
      rw [hK] at hkz0 hkz1 hst
      have hKw : wrap64 (k * z) = K := by rw [hK]; exact IntWalk.wrap64_in _ ⟨by omega, by omega⟩
      have hr0 := Int.emod_nonneg (a + K) (show p ≠ 0 by omega)
      have hr1 := Int.emod_lt_of_pos (a + K) (show 0 < p by omega)
      have hc1 : Chg lo hi wr (wr.setCell ⟨g, off + j, none⟩ (.int .i64 ((a + K) % p))) := chg_set hg.1 hg.2
      have ho2 := ho.put (j := off + j) (x := (a + K) % p) (by simp only [I64]; omega)
      rw [hst] at ho2
      have HO2 := Lib.hid ho2
      have HC2 := Lib.hid (hc.trans hc1)
      have HS2 : Hid (w.heap.size = (wr.setCell ⟨g, off + j, none⟩ (.int .i64 ((a + K) % p))).heap.size) := by show _ = _; rw [hsz.out]; simp
      have htm : (wrap64 (a + K)).tmod p = (a + K) % p := by
        rw [IntWalk.wrap64_in _ ⟨by omega, by omega⟩]
        exact Int.tmod_eq_emod_of_nonneg (by omega)
      have htm2 : (a + K).tmod p = (a + K) % p := Int.tmod_eq_emod_of_nonneg (by omega)
      clear hst ho2 hc1 ho hc hr0 hr1 hx HXX x1 ha hz hK hkz0 hkz1
      go_wp2
      go_roundw
      case rel => exact ⟨j + 1, by omega, by go_num, HO2.out, HC2.out, HS2⟩
      case measure => simp [intOf]; omega
    · go_wp2
      go_ret
      obtain rfl : j = n := by omega
      exact ⟨rfl, ho, hc, hsz⟩
end Go.Proofs.Ytcmlflppndfdcaa

/- ReduceMod, l2Mod; sums of matrices of the program. -/
namespace Go.Proofs.Ytcmlflppndfdcaa
set_option linter.unusedVariables false
set_option linter.unusedSimpArgs false
open Go.RowKit

theorem reduceMod_any (p x : Int) (w : World) (hp : isFld p = true) (hx : I64 x) :
    Calls Try.prog 172 #[.int .i64 p, .int .i64 x] w fun e w' => e = .returned (.int .i64 (x % p)) ∧ w' = w := by
  have hp' := isFld_r hp
  obtain ⟨h1, h2, h3⟩ := tmod_fix (x := x) hp'.1
  have htm : (x.tmod p + p).tmod p = x % p := by rw [Int.tmod_eq_emod_of_nonneg (by omega)]; exact tmod_twice hp'.1
  have H1 := Lib.hid hp
  clear hp h1
  go_enter Try.func172, Try.ntmps172
  go_wp2_with fail
  refine (implIsField_any _ _).mono ?_; rintro e w1 ⟨rfl, rfl⟩
  rw [H1.out]
  go_wp2
  go_ret
  exact ⟨rfl, rfl⟩
theorem l2Mod_any (p x : Int) (w : World) (hp : 2 ≤ p ∧ p ≤ 5) (hx : I64 x) :
    Calls Try.prog 110 #[.int .i64 p, .int .i64 x] w fun e w' => e = .returned (.int .i64 (x % p)) ∧ w' = w := by
  obtain ⟨h1, h2, h3⟩ := tmod_fix (x := x) hp.1
  by_cases hn : x.tmod p < 0
  · rw [if_pos hn] at h1
    have HE := Lib.hid h1
    clear h1
    go_enter Try.func110, Try.ntmps110
    go_wp2
    go_ret
    exact ⟨by rw [← HE.out]; rfl, rfl⟩
  · rw [if_neg hn] at h1
    have HE := Lib.hid h1
    clear h1
    go_enter Try.func110, Try.ntmps110
    go_wp2
    go_ret
    exact ⟨by rw [← HE.out]; rfl, rfl⟩
theorem addMultiple_zero (p k : Int) (va : Value) (B : Option Addr) (c : Nat) (w : World) (hv : ∃ A n m, va = .slice A n m) (hc : c ≤ 9223372036854775807) :
    Calls Try.prog 144 #[.int .i64 p, va, .int .i64 k, .slice B 0 c] w fun e w' => e = .returned va ∧ w' = w := by
  obtain ⟨A, n, m, rfl⟩ := hv
  go_enter Try.func144, Try.ntmps144
  go_wp2
  refine wp_loop_rounds 1 ?_
  rw [rounds_succ]
  go_wp2
  go_ret
  exact ⟨rfl, rfl⟩

def plF (p k : Int) (f g : Nat → Nat → Int) (a b : Nat) : Int := (f a b + k * g a b) % p
theorem plF_flat (p k : Int) (r c : Nat) (f g : Nat → Nat → Int) : rowF (r * c) (amF p k 0 (r * c) (fun j => f (j / c) (j % c)) (fun j => g (j / c) (j % c))) = flat r c (plF p k f g) := by
  refine rowF_congr fun i hi => ?_
  rw [amF, if_pos (by omega)]
  rfl
end Go.Proofs.Ytcmlflppndfdcaa

/- Elimination: plain part. -/
namespace Go.Proofs.Ytcmlflppndfdcaa
set_option linter.unusedVariables false
set_option linter.unusedSimpArgs false
open Go.RowKit

/-- the first row from a on, below a + m, whose number in column k is not 0; a + m if there is none -/
def nzGo (f : Nat → Nat → Int) (k : Nat) : Nat → Nat → Nat
  | a, 0 => a
  | a, m + 1 => if f a k = 0 then nzGo f k (a + 1) m else a
def nzF (f : Nat → Nat → Int) (k n r : Nat) : Nat := nzGo f k n (r - n)
theorem nzGo_le (f : Nat → Nat → Int) (k : Nat) : ∀ m a, a ≤ nzGo f k a m ∧ nzGo f k a m ≤ a + m
  | 0, a => by simp [nzGo]
  | m + 1, a => by
    have h := nzGo_le f k m (a + 1)
    simp only [nzGo]
    split <;> omega
theorem nzF_le {f : Nat → Nat → Int} {k n r : Nat} (h : n ≤ r) : n ≤ nzF f k n r ∧ nzF f k n r ≤ r := by
  have := nzGo_le f k (r - n) n
  unfold nzF; omega
theorem nzGo_eq {f : Nat → Nat → Int} {k : Nat} : ∀ {m a b}, a ≤ b → b ≤ a + m → (∀ i, a ≤ i → i < b → f i k = 0) → (b < a + m → f b k ≠ 0) → nzGo f k a m = b
  | 0, a, b, h1, h2, _, _ => by simp only [nzGo]; omega
  | m + 1, a, b, h1, h2, h3, h4 => by
    simp only [nzGo]
    by_cases e : a = b
    · subst e
      rw [if_neg (h4 (by omega))]
    · rw [if_pos (h3 a (Nat.le_refl _) (by omega))]
      exact nzGo_eq (by omega) (by omega) (fun i hi hb => h3 i (by omega) hb) (fun h => h4 (by omega))
theorem nzF_eq {f : Nat → Nat → Int} {k n r b : Nat} (h1 : n ≤ b) (h2 : b ≤ r) (h3 : ∀ i, n ≤ i → i < b → f i k = 0) (h4 : b < r → f b k ≠ 0) : nzF f k n r = b :=
  nzGo_eq h1 (by omega) h3 (fun h => h4 (by omega))
theorem nzGo_ne {f : Nat → Nat → Int} {k : Nat} : ∀ {m a}, nzGo f k a m < a + m → f (nzGo f k a m) k ≠ 0
  | 0, a, h => by simp only [nzGo] at h; omega
  | m + 1, a, h => by
    simp only [nzGo] at h ⊢
    split
    · rename_i h0
      rw [if_pos h0] at h
      exact nzGo_ne (by omega)
    · rename_i h0; exact h0
theorem nzF_ne {f : Nat → Nat → Int} {k n r : Nat} (hn : n ≤ r) (h : nzF f k n r < r) : f (nzF f k n r) k ≠ 0 := nzGo_ne (by unfold nzF at h; omega)

/-- the inverse in a field of 2, 3 or 5 -/
def invP (p x : Int) : Int := if p = 5 then (x % p * (x % p) % p) * (x % p) % p else x % p
/-- rows n and t swapped, in the columns below j -/
def swJ (n t j : Nat) (f : Nat → Nat → Int) (a b : Nat) : Int := if b < j then (if a = n then f t b else if a = t then f n b else f a b) else f a b
def swA (n t : Nat) (f : Nat → Nat → Int) (a b : Nat) : Int := if a = n then f t b else if a = t then f n b else f a b
/-- row n times s -/
def scJ (p : Int) (n : Nat) (s : Int) (j : Nat) (f : Nat → Nat → Int) (a b : Nat) : Int := if a = n ∧ b < j then f a b * s % p else f a b
def scA (p : Int) (n : Nat) (s : Int) (f : Nat → Nat → Int) (a b : Nat) : Int := if a = n then f a b * s % p else f a b
/-- multiples of row n taken from the others so that column k is 0, in the rows below i -/
def elI (p : Int) (n k i : Nat) (f : Nat → Nat → Int) (a b : Nat) : Int := if a < i ∧ a ≠ n then (f a b + (p - f a k) * f n b) % p else f a b
def elA (p : Int) (n k : Nat) (f : Nat → Nat → Int) (a b : Nat) : Int := if a ≠ n then (f a b + (p - f a k) * f n b) % p else f a b
/-- one column -/
def rdF (p : Int) (r : Nat) (f : Nat → Nat → Int) (n k : Nat) : Nat → Nat → Int :=
  elA p n k (scA p n (invP p (swA n (nzF f k n r) f n k)) (swA n (nzF f k n r) f))
/-- the columns below k: the matrix, the columns of the leading ones -/
def rdTo (p : Int) (r : Nat) (f : Nat → Nat → Int) : Nat → (Nat → Nat → Int) × List Int
  | 0 => (f, [])
  | k + 1 => if nzF (rdTo p r f k).1 k (rdTo p r f k).2.length r < r then (rdF p r (rdTo p r f k).1 (rdTo p r f k).2.length k, (rdTo p r f k).2 ++ [(k : Int)]) else rdTo p r f k
theorem rdTo_succ (p : Int) (r : Nat) (f : Nat → Nat → Int) (k : Nat) : rdTo p r f (k + 1) =
    if nzF (rdTo p r f k).1 k (rdTo p r f k).2.length r < r then (rdF p r (rdTo p r f k).1 (rdTo p r f k).2.length k, (rdTo p r f k).2 ++ [(k : Int)]) else ((rdTo p r f k).1, (rdTo p r f k).2) := rfl
theorem rdTo_len (p : Int) (r : Nat) (f : Nat → Nat → Int) : ∀ k, (rdTo p r f k).2.length ≤ r ∧ (rdTo p r f k).2.length ≤ k
  | 0 => by simp [rdTo]
  | k + 1 => by
    have h := rdTo_len p r f k
    simp only [rdTo]
    split
    · rename_i h1
      have := (nzF_le (f := (rdTo p r f k).1) (k := k) h.1).1
      simp
      omega
    · omega
theorem rdTo_mem (p : Int) (r : Nat) (f : Nat → Nat → Int) : ∀ k, ∀ x ∈ (rdTo p r f k).2, 0 ≤ x ∧ x < k
  | 0, x, h => by simp [rdTo] at h
  | k + 1, x, h => by
    have ih := rdTo_mem p r f k
    simp only [rdTo] at h
    split at h
    · simp only [List.mem_append, List.mem_singleton] at h
      rcases h with h | rfl
      · have := ih x h; omega
      · omega
    · have := ih x h; omega
/-- numbers of the field -/
def InF (p : Int) (r c : Nat) (f : Nat → Nat → Int) : Prop := ∀ a b, a < r → b < c → 0 ≤ f a b ∧ f a b ≤ p - 1
theorem inF_sw {p : Int} {r c n t : Nat} {f : Nat → Nat → Int} (h : InF p r c f) (hn : n < r) (ht : t < r) : InF p r c (swA n t f) := fun a b ha hb => by
  unfold swA
  split
  · exact h _ _ ht hb
  · split
    · exact h _ _ hn hb
    · exact h _ _ ha hb
theorem emod_rng {p x : Int} (hp : 2 ≤ p) : 0 ≤ x % p ∧ x % p ≤ p - 1 := by
  have h1 := Int.emod_nonneg x (show p ≠ 0 by omega)
  have h2 := Int.emod_lt_of_pos x (show 0 < p by omega)
  omega
theorem inF_sc {p s : Int} {r c n : Nat} {f : Nat → Nat → Int} (hp : 2 ≤ p) (h : InF p r c f) : InF p r c (scA p n s f) := fun a b ha hb => by
  unfold scA
  split
  · exact emod_rng hp
  · exact h _ _ ha hb
theorem inF_el {p : Int} {r c n k : Nat} {f : Nat → Nat → Int} (hp : 2 ≤ p) (h : InF p r c f) : InF p r c (elA p n k f) := fun a b ha hb => by
  unfold elA
  split
  · exact emod_rng hp
  · exact h _ _ ha hb
theorem inF_rd {p : Int} {r c n k : Nat} {f : Nat → Nat → Int} (hp : 2 ≤ p) (h : InF p r c f) (hn : n < r) (ht : nzF f k n r < r) : InF p r c (rdF p r f n k) := inF_el hp (inF_sc hp (inF_sw h hn ht))
theorem inF_to {p : Int} {r c : Nat} {f : Nat → Nat → Int} (hp : 2 ≤ p) (h : InF p r c f) : ∀ k, InF p r c (rdTo p r f k).1
  | 0 => h
  | k + 1 => by
    have ih := inF_to hp h k
    simp only [rdTo]
    split
    · rename_i h1
      have hl := (rdTo_len p r f k).1
      exact inF_rd hp ih (by have := (nzF_le (f := (rdTo p r f k).1) (k := k) hl).1; omega) h1
    · exact ih
/-- no row is left: nothing is done any more -/
theorem rdTo_full {p : Int} {r : Nat} {f : Nat → Nat → Int} {k : Nat} (h : (rdTo p r f k).2.length = r) : rdTo p r f (k + 1) = rdTo p r f k := by
  simp only [rdTo]
  rw [if_neg]
  rw [h]
  have := (nzF_le (f := (rdTo p r f k).1) (k := k) (Nat.le_refl r)).1
  omega
theorem rdTo_rest {p : Int} {r : Nat} {f : Nat → Nat → Int} {k : Nat} (h : (rdTo p r f k).2.length = r) : ∀ m, rdTo p r f (k + m) = rdTo p r f k
  | 0 => rfl
  | m + 1 => by
    have ih := rdTo_rest h m
    rw [show k + (m + 1) = (k + m) + 1 by omega, rdTo_full (by rw [ih]; exact h), ih]

/-! ### steps of the loops, as writes into the cells -/
theorem sw_0 (n t : Nat) (f : Nat → Nat → Int) : swJ n t 0 f = f := by funext a b; simp [swJ]
theorem sw_end (n t r c : Nat) (f : Nat → Nat → Int) : flat r c (swJ n t c f) = flat r c (swA n t f) := flat_congr fun a b _ hb => by rw [swJ, if_pos hb]; rfl
theorem sw_step {n t r c j : Nat} (f : Nat → Nat → Int) (hn : n < r) (ht : t < r) (hj : j < c) :
    ((flat r c (swJ n t j f)).set (n * c + j) (f t j)).set (t * c + j) (f n j) = flat r c (swJ n t (j + 1) f) := by
  rw [flat_set _ _ hn hj, flat_set _ _ ht hj]
  refine flat_congr fun a b _ _ => ?_
  simp only [swJ]
  by_cases e1 : a = t ∧ b = j
  · obtain ⟨rfl, rfl⟩ := e1
    rw [if_pos ⟨rfl, rfl⟩, if_pos (by omega)]
    by_cases e2 : a = n
    · subst e2; rw [if_pos rfl]
    · rw [if_neg e2, if_pos rfl]
  · rw [if_neg e1]
    by_cases e2 : a = n ∧ b = j
    · obtain ⟨rfl, rfl⟩ := e2
      rw [if_pos ⟨rfl, rfl⟩, if_pos (by omega), if_pos rfl]
    · rw [if_neg e2]
      by_cases e3 : b < j
      · rw [if_pos e3, if_pos (show b < j + 1 by omega)]
      · rw [if_neg e3]
        by_cases e4 : b < j + 1
        · rw [if_pos e4, if_neg (by omega), if_neg (by omega)]
        · rw [if_neg e4]
theorem sw_rest {n t j a : Nat} (f : Nat → Nat → Int) : swJ n t j f a j = f a j := by rw [swJ, if_neg (by omega)]
theorem sc_0 (p : Int) (n : Nat) (s : Int) (f : Nat → Nat → Int) : scJ p n s 0 f = f := by funext a b; simp [scJ]
theorem sc_end (p : Int) (n r c : Nat) (s : Int) (f : Nat → Nat → Int) : flat r c (scJ p n s c f) = flat r c (scA p n s f) := flat_congr fun a b _ hb => by simp only [scJ, scA, hb, and_true]
theorem sc_step {p s : Int} {n r c j : Nat} (f : Nat → Nat → Int) (hn : n < r) (hj : j < c) :
    (flat r c (scJ p n s j f)).set (n * c + j) (f n j * s % p) = flat r c (scJ p n s (j + 1) f) := by
  rw [flat_set _ _ hn hj]
  refine flat_congr fun a b _ _ => ?_
  simp only [scJ]
  by_cases e1 : a = n ∧ b = j
  · obtain ⟨rfl, rfl⟩ := e1
    rw [if_pos ⟨rfl, rfl⟩, if_pos (by omega)]
  · rw [if_neg e1]
    by_cases e2 : a = n ∧ b < j
    · rw [if_pos e2, if_pos (by omega)]
    · rw [if_neg e2, if_neg (by omega)]
theorem sc_rest {p s : Int} {n j a : Nat} (f : Nat → Nat → Int) : scJ p n s j f a j = f a j := by rw [scJ, if_neg (by omega)]
theorem el_0 (p : Int) (n k : Nat) (f : Nat → Nat → Int) : elI p n k 0 f = f := by funext a b; simp [elI]
theorem el_end (p : Int) (n k r c : Nat) (f : Nat → Nat → Int) : flat r c (elI p n k r f) = flat r c (elA p n k f) := flat_congr fun a b ha _ => by simp only [elI, elA, ha, true_and]
theorem el_skip (p : Int) (n k : Nat) (f : Nat → Nat → Int) : elI p n k n f = elI p n k (n + 1) f := by
  funext a b
  simp only [elI]
  by_cases e : a < n ∧ a ≠ n
  · rw [if_pos e, if_pos (by omega)]
  · rw [if_neg e, if_neg (by omega)]
theorem el_rest {p : Int} {n k i b : Nat} (f : Nat → Nat → Int) : elI p n k i f i b = f i b := by rw [elI, if_neg (by omega)]
theorem el_n {p : Int} {n k i b : Nat} (f : Nat → Nat → Int) : elI p n k i f n b = f n b := by rw [elI, if_neg (by omega)]
/-- row i, the numbers in the columns below j -/
def elJ (p : Int) (n k i j : Nat) (f : Nat → Nat → Int) (a b : Nat) : Int := if a = i ∧ b < j then (f a b + (p - f a k) * f n b) % p else elI p n k i f a b
theorem elJ_0 (p : Int) (n k i : Nat) (f : Nat → Nat → Int) : elJ p n k i 0 f = elI p n k i f := by funext a b; simp [elJ]
theorem elJ_end {p : Int} {n k i r c : Nat} (f : Nat → Nat → Int) (hi : i ≠ n) : flat r c (elJ p n k i c f) = flat r c (elI p n k (i + 1) f) := flat_congr fun a b _ hb => by
  simp only [elJ, elI]
  by_cases e : a = i
  · subst e
    rw [if_pos ⟨rfl, hb⟩, if_pos (by omega)]
  · rw [if_neg (by omega)]
    by_cases e2 : a < i ∧ a ≠ n
    · rw [if_pos e2, if_pos (by omega)]
    · rw [if_neg e2, if_neg (by omega)]
theorem elJ_step {p : Int} {n k i j r c : Nat} (f : Nat → Nat → Int) (hi : i < r) (hj : j < c) :
    (flat r c (elJ p n k i j f)).set (i * c + j) ((f i j + (p - f i k) * f n j) % p) = flat r c (elJ p n k i (j + 1) f) := by
  rw [flat_set _ _ hi hj]
  refine flat_congr fun a b _ _ => ?_
  simp only [elJ]
  by_cases e1 : a = i ∧ b = j
  · obtain ⟨rfl, rfl⟩ := e1
    rw [if_pos ⟨rfl, rfl⟩, if_pos (by omega)]
  · rw [if_neg e1]
    by_cases e2 : a = i ∧ b < j
    · rw [if_pos e2, if_pos (by omega)]
    · rw [if_neg e2, if_neg (by omega)]
theorem elJ_rest {p : Int} {n k i j : Nat} (f : Nat → Nat → Int) : elJ p n k i j f i j = f i j := by rw [elJ, if_neg (by omega), el_rest]
theorem elJ_n {p : Int} {n k i j b : Nat} (f : Nat → Nat → Int) (hi : i ≠ n) : elJ p n k i j f n b = f n b := by rw [elJ, if_neg (by omega), el_n]
/-- the reference takes a multiple away: the same remainder -/
theorem el_sub {p a x y : Int} : (a - x * y) % p = (a + (p - x) * y) % p := by
  rw [show a + (p - x) * y = (a - x * y) + p * y by rw [Int.sub_mul]; omega]
  rw [Int.add_mul_emod_self_left]
end Go.Proofs.Ytcmlflppndfdcaa

/- Products of matrices: the program's times. -/
namespace Go.Proofs.Ytcmlflppndfdcaa
set_option linter.unusedVariables false
set_option linter.unusedSimpArgs false
open Go.RowKit

def sgF (h : Nat → Int) : Nat → Int
  | 0 => 0
  | n + 1 => sgF h n + h n
/-- the product, with the first k numbers of each row of f only -/
def muP (p : Int) (k : Nat) (f g : Nat → Nat → Int) (a b : Nat) : Int := sgF (fun t => f a t * g t b) k % p
/-- rows below i done, row i up to k, the others 0 -/
def muS (p : Int) (c i k : Nat) (f g : Nat → Nat → Int) (a b : Nat) : Int := if a < i then muP p c f g a b else if a = i then muP p k f g a b else 0
theorem muP_0 (p : Int) (f g : Nat → Nat → Int) (a b : Nat) : muP p 0 f g a b = 0 := by simp [muP, sgF]
theorem muS_0 (p : Int) (c r d : Nat) (f g : Nat → Nat → Int) : flat r d (fun _ _ => 0) = flat r d (muS p c 0 0 f g) := flat_congr fun a b _ _ => by
  simp only [muS, muP_0]
  rw [if_neg (by omega)]
  split <;> rfl
theorem muS_next (p : Int) (c i : Nat) (f g : Nat → Nat → Int) : muS p c i c f g = muS p c (i + 1) 0 f g := by
  funext a b
  simp only [muS, muP_0]
  by_cases h1 : a < i
  · rw [if_pos h1, if_pos (by omega)]
  · rw [if_neg h1]
    by_cases h2 : a = i
    · rw [if_pos h2, if_pos (by omega)]
    · rw [if_neg h2, if_neg (by omega)]
      split <;> rfl
theorem muS_end (p : Int) (c r d : Nat) (f g : Nat → Nat → Int) : flat r d (muS p c r 0 f g) = flat r d (muP p c f g) := flat_congr fun a b ha _ => by
  simp only [muS]
  rw [if_pos ha]
theorem muP_succ {p : Int} (k : Nat) (f g : Nat → Nat → Int) (a b : Nat) : (muP p k f g a b + f a k * g k b) % p = muP p (k + 1) f g a b := by
  simp only [muP, sgF]
  rw [Int.emod_add_emod]
theorem muP_rng {p : Int} (hp : 2 ≤ p) (k : Nat) (f g : Nat → Nat → Int) (a b : Nat) : 0 ≤ muP p k f g a b ∧ muP p k f g a b ≤ p - 1 := emod_rng hp
theorem muS_rng {p : Int} (hp : 2 ≤ p) (c i k : Nat) (f g : Nat → Nat → Int) (a b : Nat) : 0 ≤ muS p c i k f g a b ∧ muS p c i k f g a b ≤ p - 1 := by
  unfold muS
  split
  · exact muP_rng hp _ _ _ _ _
  · split
    · exact muP_rng hp _ _ _ _ _
    · omega
/-- a row of the product gets a multiple of a row of g -/
theorem mu_step {p : Int} {c i k r d : Nat} (f g : Nat → Nat → Int) :
    rowF (r * d) (amF p (f i k) (i * d) d (fun j => muS p c i k f g (j / d) (j % d)) (g k)) = flat r d (muS p c i (k + 1) f g) := by
  refine rowF_congr fun x hx => ?_
  obtain ⟨a, b, ha, hb, rfl⟩ := ix_of hx
  simp only [amF, ix_div hb, ix_mod hb]
  by_cases e : a = i
  · subst e
    rw [if_pos (by omega), show a * d + b - a * d = b by omega]
    simp only [muS]
    rw [if_neg (by omega), if_pos trivial, if_neg (by omega), if_pos trivial]
    exact muP_succ k f g a b
  · have h1 : ¬ (i * d ≤ a * d + b ∧ a * d + b < i * d + d) := by
      rintro ⟨h1, h2⟩
      rcases Nat.lt_or_gt_of_ne e with h | h
      · have : (a + 1) * d ≤ i * d := Nat.mul_le_mul_right _ h
        rw [Nat.add_mul, Nat.one_mul] at this
        omega
      · have : (i + 1) * d ≤ a * d := Nat.mul_le_mul_right _ h
        rw [Nat.add_mul, Nat.one_mul] at this
        omega
    rw [if_neg h1]
    simp only [muS]
    by_cases e2 : a < i
    · rw [if_pos e2, if_pos e2]
    · rw [if_neg e2, if_neg e2, if_neg e, if_neg e]

theorem SlI.up {w : World} {B B' : Nat} {v : Value} {xs : List Int} (hB : B ≤ B') (h : SlI w B v xs) : SlI w B' v xs := by
  obtain ⟨A, c, e, h1, h2, h3, h4⟩ := h
  exact ⟨A, c, e, h1, h2, h3, fun hl => by obtain ⟨b, o, e2, hb, hx⟩ := h4 hl; exact ⟨b, o, e2, Nat.lt_of_lt_of_le hb hB, hx⟩⟩
/-- a row of a matrix that lies in earlier memory -/
theorem row_rd (u : Value) (r c i B : Nat) (f : Nat → Nat → Int) (w : World) (hu : MxR w B u (mxF r c f)) (hB : B ≤ w.heap.size) (hr : r ≤ 1000) (hc : c ≤ 1000) (hi : i < r) :
    Calls Try.prog 85 #[u, .int .i64 i] w fun e w' => ∃ v, e = .returned v ∧ SlI w' B v (rowF c (f i)) ∧ Below w.heap.size w w' := by
  have hi1 : i ≤ 1000 := by omega
  obtain ⟨A, cap, rfl, hs, _, _, hl⟩ := hu.open_
  simp only [mxF] at hs hl ⊢
  rcases Nat.eq_zero_or_pos c with rfl | h0
  · obtain ⟨_, _, e, h1, h2, _⟩ := hs
    injection e with e1 e2 e3
    subst e1 e3
    have e : (flat r 0 f).length = 0 := by rw [flat_length]; rfl
    rw [e]
    refine (row_zero r i cap A w h2 hi1).mono fun e w' ⟨A', h3, h4⟩ => ⟨_, h3, ?_, h4⟩
    exact ⟨A', cap, by simp [rowF], by simp [rowF], h2, by simp [rowF], fun h => by simp [rowF] at h⟩
  · obtain ⟨P, J, hP, _, _, _, _⟩ := ix_walk hi h0 hr hc
    obtain ⟨hPi, hP2, hPL, _⟩ := ix_next hi hr hc hP
    have hlt := ix_lt hi h0
    have hs' := hs
    obtain ⟨_, _, e, h1, h2, h3, h4⟩ := hs
    injection e with e1 e2 e3
    subst e1 e3
    obtain ⟨b, o, rfl, hb, hx⟩ := h4 (by rw [flat_length]; exact Nat.lt_of_le_of_lt (Nat.zero_le _) hlt)
    refine (row_atO r c i P _ cap b o w hP hP2 (by rw [flat_length]; exact hPL) h1 h2 h0 hi1).mono fun e w' ⟨h5, h6⟩ => ⟨_, h5, ?_, h6⟩
    have := SlI.part (P := P) (l' := rowF c (f i)) (SlI.below (h6.mono hB) hs') rfl (by rw [rowF_length, flat_length]; exact hPL) (fun j x hj => ?_) rfl
    · rwa [rowF_length] at this
    · have hjc := lt_of_some hj
      rw [rowF_length] at hjc
      rw [rowF_get _ hjc] at hj
      rw [hPi, flat_get f hi hjc]
      exact hj
end Go.Proofs.Ytcmlflppndfdcaa

/- Elimination: the state of the loops; inverses; a multiple of a row of the same block. -/
namespace Go.Proofs.Ytcmlflppndfdcaa
set_option linter.unusedVariables false
set_option linter.unusedSimpArgs false
open Go.RowKit

theorem grown_then {a b c : World} {row : Option Nat} (h : a.grownBy b row) (k : b.grownBy c row) : a.grownBy c row :=
  ⟨k.os.trans h.os, k.tape.trans h.tape, k.output.trans h.output, Nat.le_trans h.size k.size, fun i hi hne => (k.block i (Nat.lt_of_lt_of_le hi h.size) hne).trans (h.block i hi hne)⟩
theorem grown_below {a b : World} {row : Option Nat} (h : Below a.heap.size a b) : a.grownBy b row := ⟨h.os, h.tape, h.output, h.size, fun i hi _ => h.block i hi⟩

/-- The loops' state: a matrix's cells and a list of the call's own, apart; all below B as it was. -/
structure RS (B : Nat) (w1 : World) (A : Option Addr) (r c L cap : Nat) (w : World) (f : Nat → Nat → Int) (pv : Value) (ps : List Int) : Prop where
  bel : Below B w1 w
  fam : Fam w B w.heap.size [(.slice A L cap, flat r c f), (pv, ps)]
section
variable {B : Nat} {w1 w w' : World} {A : Option Addr} {r c L cap : Nat} {f : Nat → Nat → Int} {pv : Value} {ps : List Int}
theorem RS.own (h : RS B w1 A r c L cap w f pv ps) : OwnI w B (.slice A L cap) (flat r c f) := (h.fam.1 (_, flat r c f) (by simp)).1
theorem RS.ownP (h : RS B w1 A r c L cap w f pv ps) : IntsO w B w.heap.size pv ps := h.fam.1 (pv, ps) (by simp)
theorem RS.size (h : RS B w1 A r c L cap w f pv ps) (hB : B ≤ w1.heap.size) : B ≤ w.heap.size := Nat.le_trans hB h.bel.size
theorem RS.call (h : RS B w1 A r c L cap w f pv ps) (hB : B ≤ w1.heap.size) (hb : Below w.heap.size w w') : RS B w1 A r c L cap w' f pv ps :=
  ⟨h.bel.trans (hb.mono (h.size hB)), (h.fam.below hb).mono (Nat.le_refl _) hb.size⟩
/-- where the matrix has cells -/
theorem RS.addr (h : RS B w1 A r c L cap w f pv ps) (hL : 0 < r * c) : ∃ g, A = some ⟨g, 0, none⟩ ∧ L = r * c ∧ L ≤ cap ∧ cap ≤ 9223372036854775807 ∧ B ≤ g ∧ g < w.heap.size := by
  have ho := h.own
  rcases ho.1.2 with ⟨e, h0⟩ | ⟨g, cap', cur, e, hg, hh, hnc, hcm, _⟩
  · rw [flat_length] at h0; omega
  · injection e with e1 e2 e3
    subst e1 e3
    rw [flat_length] at e2 hnc
    subst e2
    exact ⟨g, rfl, rfl, hnc, by simp only [maxLen] at hcm; omega, hg, (Array.getElem?_eq_some_iff.1 hh).1⟩
theorem RS.len (h : RS B w1 A r c L cap w f pv ps) : L = r * c := by
  rcases h.own.form with ⟨A', c', e, _⟩
  injection e with _ e _
  rw [flat_length] at e
  exact e
theorem RS.cell {g i k : Nat} (h : RS B w1 (some ⟨g, 0, none⟩) r c L cap w f pv ps) (hi : i < r) (hk : k < c) : w.cell? ⟨g, i * c + k, none⟩ = some (.int .i64 (f i k)) ∧ I64 (f i k) ∧ w.frozen? ⟨g, i * c + k, none⟩ = false := by
  have h1 := h.own.cellG (j := i * c + k) (by rw [flat_length]; exact ix_lt hi hk)
  rw [flat_getD f hi hk] at h1
  exact ⟨h1.1, h1.2, h.own.frozenG _⟩
/-- one cell written; the new cells are told by the new function -/
theorem RS.put {g J : Nat} {x : Int} {f2 : Nat → Nat → Int} (h : RS B w1 (some ⟨g, 0, none⟩) r c L cap w f pv ps) (hg : B ≤ g) (hs : B ≤ w.heap.size) (hx : I64 x) (e : (flat r c f).set J x = flat r c f2) :
    RS B w1 (some ⟨g, 0, none⟩) r c L cap (w.setCell ⟨g, J, none⟩ (.int .i64 x)) f2 pv ps := by
  have hp := h.own.put (j := J) hx
  rw [e] at hp
  refine ⟨h.bel.setCell hg _, ?_⟩
  have := h.fam.turn (L1 := []) hp.1 hp.2
  simpa using this
/-- the matrix's row is turned by a callee -/
theorem RS.turn {g : Nat} {f2 : Nat → Nat → Int} (h : RS B w1 (some ⟨g, 0, none⟩) r c L cap w f pv ps) (hg : B ≤ g) (hs : B ≤ w.heap.size) (ho : OwnI w' B (.slice (some ⟨g, 0, none⟩) L cap) (flat r c f2)) (hgr : w.grownBy w' (some g)) :
    RS B w1 (some ⟨g, 0, none⟩) r c L cap w' f2 pv ps := by
  refine ⟨h.bel.trans (below_grown hgr (fun k hk => by injection hk with hk; omega) hs), ?_⟩
  have := h.fam.turn (L1 := []) ho hgr
  exact this.mono (Nat.le_refl _) hgr.size
/-- one number appended to the list -/
theorem RS.app {pv' : Value} {ps' : List Int} (h : RS B w1 A r c L cap w f pv ps) (hs : B ≤ w.heap.size) (ho : OwnI w' B pv' ps') (hg : w.grownBy w' pv.ownBlock) (hv : pv'.ownBlock = pv.ownBlock ∨ pv'.ownBlock = some w.heap.size) :
    RS B w1 A r c L cap w' f pv' ps' := by
  refine ⟨h.bel.trans (below_grown hg (fun k hk => (h.ownP.1.lt k hk).1) hs), ?_⟩
  have h1 : Fam w B w.heap.size ([(.slice A L cap, flat r c f)] ++ (pv, ps) :: []) := h.fam
  have hw := hg.size
  exact h1.app hw ho hg hv
end

section
variable {B : Nat} {w1 w w' : World} {A : Option Addr} {r c L cap : Nat} {f : Nat → Nat → Int} {pv : Value} {ps : List Int}
theorem RS.cellP {g i k P : Nat} (h : RS B w1 (some ⟨g, 0, none⟩) r c L cap w f pv ps) (hi : i < r) (hk : k < c) (hP : P = i * c) : w.cell? ⟨g, P + k, none⟩ = some (.int .i64 (f i k)) ∧ I64 (f i k) ∧ w.frozen? ⟨g, P + k, none⟩ = false := by
  subst hP; exact h.cell hi hk
/-- two cells written -/
theorem RS.put2 {g J J' : Nat} {x y : Int} {f2 : Nat → Nat → Int} (h : RS B w1 (some ⟨g, 0, none⟩) r c L cap w f pv ps) (hg : B ≤ g) (hs : B ≤ w.heap.size) (hx : I64 x) (hy : I64 y) (e : ((flat r c f).set J x).set J' y = flat r c f2) :
    RS B w1 (some ⟨g, 0, none⟩) r c L cap ((w.setCell ⟨g, J, none⟩ (.int .i64 x)).setCell ⟨g, J', none⟩ (.int .i64 y)) f2 pv ps := by
  have hp := h.own.put (j := J) hx
  have hp2 := hp.1.put (j := J') hy
  rw [e] at hp2
  exact h.turn hg hs hp2.1 (grown_then hp.2 hp2.2)
end
theorem RS.congr {B : Nat} {w1 w : World} {A : Option Addr} {r c L cap : Nat} {f f2 : Nat → Nat → Int} {pv : Value} {ps : List Int} (h : RS B w1 A r c L cap w f pv ps) (e : flat r c f = flat r c f2) : RS B w1 A r c L cap w f2 pv ps :=
  ⟨h.bel, by rw [← e]; exact h.fam⟩
theorem invP_r {p x : Int} (hp : 2 ≤ p ∧ p ≤ 5) : 0 ≤ invP p x ∧ invP p x ≤ 4 := by
  unfold invP
  split
  · have := emod_rng (x := x % p * (x % p) % p * (x % p)) hp.1
    omega
  · have := emod_rng (x := x) hp.1
    omega
theorem inF_elI {p : Int} {r c n k i : Nat} {f : Nat → Nat → Int} (hp : 2 ≤ p) (h : InF p r c f) : InF p r c (elI p n k i f) := fun a b ha hb => by
  unfold elI
  split
  · exact emod_rng hp
  · exact h _ _ ha hb
theorem rows_apart {i n c P Q : Nat} (h : i ≠ n) (hQ : Q = i * c) (hP : P = n * c) : Q + c ≤ P ∨ P + c ≤ Q := by
  rcases Nat.lt_or_gt_of_ne h with h | h
  · have : (i + 1) * c ≤ n * c := Nat.mul_le_mul_right _ h
    rw [Nat.add_mul, Nat.one_mul] at this
    omega
  · have : (n + 1) * c ≤ i * c := Nat.mul_le_mul_right _ h
    rw [Nat.add_mul, Nat.one_mul] at this
    omega
theorem row_in {r c i P L cap g : Nat} (w : World) (hi : i < r) (h0 : 0 < c) (hr : r ≤ 1000) (hc : c ≤ 1000) (hL : L = r * c) (hcap : L ≤ cap) (hb : cap ≤ 9223372036854775807) (hP : P = i * c) :
    Calls Try.prog 85 #[.agg #[.int .i64 (r : Int), .int .i64 (c : Int), .slice (some ⟨g, 0, none⟩) L cap], .int .i64 (i : Int)] w fun e w' => e = .returned (.slice (some ⟨g, P, none⟩) c (cap - P)) ∧ Below w.heap.size w w' := by
  obtain ⟨P', J, h1, h2, h3, h4, h5⟩ := ix_walk (k := 0) hi h0 hr hc
  obtain ⟨h5', h6, h7, h8⟩ := ix_next hi hr hc h1
  have e : P' = P := h5'.trans hP.symm
  have h9 : P' + c ≤ L := by rw [hL]; exact h7
  have h10 : i ≤ 1000 := Nat.le_trans (Nat.le_of_lt hi) hr
  have := row_at (r : Int) c i P' L cap g w h1 h6 h9 hcap hb h0 h10
  rw [e] at this
  exact this
theorem rowP {r c i k P : Nat} (hi : i < r) (hk : k < c) (hr : r ≤ 1000) (hc : c ≤ 1000) (hP : P = i * c) : P + k < r * c ∧ P + c ≤ r * c ∧ r * c ≤ 1000000 := by
  have h1 : (i + 1) * c ≤ r * c := Nat.mul_le_mul_right _ hi
  have h2 : r * c ≤ 1000 * 1000 := Nat.mul_le_mul hr hc
  rw [Nat.add_mul, Nat.one_mul] at h1
  omega
/-- a row of the matrix gets a multiple of another one: one round of the elimination -/
theorem am_el {p : Int} {n k i r c : Nat} (F : Nat → Nat → Int) (hn : n < r) (hi : i ≠ n) :
    rowF (r * c) (amF p (p - F i k) (i * c) c (fun j => elI p n k i F (j / c) (j % c)) fun j => (fun x => elI p n k i F (x / c) (x % c)) (n * c + j)) = flat r c (elI p n k (i + 1) F) := by
  refine rowF_congr fun x hx => ?_
  obtain ⟨a, b, ha, hb, rfl⟩ := ix_of hx
  simp only [amF, ix_div hb, ix_mod hb]
  by_cases e : a = i
  · subst e
    rw [if_pos (by omega), show a * c + b - a * c = b by omega, ix_div hb, ix_mod hb, el_rest, el_n]
    simp only [elI]
    rw [if_pos (by omega)]
  · have h1 : ¬ (i * c ≤ a * c + b ∧ a * c + b < i * c + c) := by
      rintro ⟨h1, h2⟩
      rcases Nat.lt_or_gt_of_ne e with h | h
      · have : (a + 1) * c ≤ i * c := Nat.mul_le_mul_right _ h
        rw [Nat.add_mul, Nat.one_mul] at this
        omega
      · have : (i + 1) * c ≤ a * c := Nat.mul_le_mul_right _ h
        rw [Nat.add_mul, Nat.one_mul] at this
        omega
    rw [if_neg h1]
    simp only [elI]
    by_cases e2 : a < i ∧ a ≠ n
    · rw [if_pos e2, if_pos (by omega)]
    · rw [if_neg e2, if_neg (by omega)]
theorem rowF_flat (r c : Nat) (f : Nat → Nat → Int) : flat r c f = rowF (r * c) fun j => f (j / c) (j % c) := rfl

/-! ### inverses -/
theorem invP_ok {p x : Int} (hp : isFld p = true) (h1 : 1 ≤ x) (h2 : x ≤ p - 1) : 1 ≤ invP p x ∧ invP p x ≤ p - 1 ∧ x * invP p x % p = 1 ∧ ∀ y, 1 ≤ y → y < invP p x → x * y % p ≠ 1 := by
  rcases isFld_t.1 hp with rfl | rfl | rfl
  · obtain rfl : x = 1 := by omega
    refine ⟨by decide, by decide, by decide, fun y hy hy2 => ?_⟩
    have : invP 2 1 = 1 := by decide
    omega
  · have : x = 1 ∨ x = 2 := by omega
    rcases this with rfl | rfl
    · refine ⟨by decide, by decide, by decide, fun y hy hy2 => ?_⟩
      have : invP 3 1 = 1 := by decide
      omega
    · refine ⟨by decide, by decide, by decide, fun y hy hy2 => ?_⟩
      have : invP 3 2 = 2 := by decide
      obtain rfl : y = 1 := by omega
      decide
  · have : x = 1 ∨ x = 2 ∨ x = 3 ∨ x = 4 := by omega
    rcases this with rfl | rfl | rfl | rfl
    · refine ⟨by decide, by decide, by decide, fun y hy hy2 => ?_⟩
      have : invP 5 1 = 1 := by decide
      omega
    · refine ⟨by decide, by decide, by decide, fun y hy hy2 => ?_⟩
      have : invP 5 2 = 3 := by decide
      have : y = 1 ∨ y = 2 := by omega
      rcases this with rfl | rfl <;> decide
    · refine ⟨by decide, by decide, by decide, fun y hy hy2 => ?_⟩
      have : invP 5 3 = 2 := by decide
      obtain rfl : y = 1 := by omega
      decide
    · refine ⟨by decide, by decide, by decide, fun y hy hy2 => ?_⟩
      have : invP 5 4 = 4 := by decide
      have : y = 1 ∨ y = 2 ∨ y = 3 := by omega
      rcases this with rfl | rfl | rfl <;> decide

def pwF (p x : Int) : Nat → Int
  | 0 => 1
  | n + 1 => pwF p x n * (x % p) % p
theorem pwF_r {p x : Int} (hp : 2 ≤ p ∧ p ≤ 5) : ∀ n, 0 ≤ pwF p x n ∧ pwF p x n ≤ 4
  | 0 => by simp [pwF]
  | n + 1 => by
    have := emod_rng (x := pwF p x n * (x % p)) hp.1
    simp only [pwF]
    omega
theorem pwF_inv {p x : Int} (hp : isFld p = true) : pwF p x (max (p - 2) 1).toNat = invP p x := by
  have e := Int.emod_emod_of_dvd x (Int.dvd_refl p)
  rcases isFld_t.1 hp with rfl | rfl | rfl
  · show 1 * (x % 2) % 2 = _
    rw [Int.one_mul, e]; rfl
  · show 1 * (x % 3) % 3 = _
    rw [Int.one_mul, e]; rfl
  · show 1 * (x % 5) % 5 * (x % 5) % 5 * (x % 5) % 5 = _
    rw [Int.one_mul, e]; rfl

set_option maxHeartbeats 800000 in
theorem powerMod_any (p x : Int) (n : Nat) (w : World) (hp : isFld p = true) (hx : I64 x) (hn : n ≤ 1000) :
    Calls Try.prog 160 #[.int .i64 p, .int .i64 x, .int .i64 n] w fun e w' => e = .returned (.int .i64 (pwF p x n)) ∧ w' = w := by
  have hpr := isFld_r hp
  have h2 : inR (n : Int) 0 1000 = true := inR_t.2 (by omega)
  have H1 := Lib.hid hp
  have H2 := Lib.hid h2
  have HX := Lib.hid hx
  clear hp h2
  go_enter Try.func160, Try.ntmps160
  go_wp2_with fail
  refine (implIsField_any _ _).mono ?_; rintro e w1 ⟨rfl, hww⟩; replace hww := hww.symm; subst hww
  rw [H1.out]
  go_wp2_with fail
  refine (within_any _ _ _ _).mono ?_; rintro e w1 ⟨rfl, hww⟩; replace hww := hww.symm; subst hww
  rw [H2.out]
  go_wp2
  go_loop [7, 17] (fun o i => ∃ k : Nat, k ≤ n ∧ i = .int .i64 k ∧ o = .int .i64 (pwF p x k)) (fun _ i => n - (intOf i).toNat)
  case atStart => exact ⟨0, Nat.zero_le _, rfl, rfl⟩
  case round =>
    obtain ⟨k, hk, rfl, rfl⟩ := hrel
    by_cases hlt : k < n
    · have hr := pwF_r (x := x) hpr k
      have hm := emod_rng (x := x) hpr.1
      have hs : Hid (pwF p x (k + 1) = pwF p x k * (x % p) % p) := rfl
      obtain ⟨a, ha⟩ : ∃ a, pwF p x k = a := ⟨_, rfl⟩
      obtain ⟨m, hmm⟩ : ∃ m, x % p = m := ⟨_, rfl⟩
      rw [ha, hmm] at hs
      rw [ha] at hr ⊢
      rw [hmm] at hm
      have k0 : 0 ≤ a * m := Int.mul_nonneg hr.1 hm.1
      have k1 : a * m ≤ 4 * 4 := Int.mul_le_mul hr.2 (by omega) hm.1 (by omega)
      obtain ⟨K, hK⟩ : ∃ K, a * m = K := ⟨_, rfl⟩
      rw [hK] at k0 k1 hs
      have hKw : wrap64 (a * m) = K := by rw [hK]; exact IntWalk.wrap64_in _ ⟨by omega, by omega⟩
      have ht : K.tmod p = K % p := Int.tmod_eq_emod_of_nonneg k0
      have HMM := Lib.hid hmm
      clear ha hmm hK
      go_wp2_with fail
      refine (reduceMod_any p x _ H1.out HX.out).mono ?_; rintro e w1 ⟨rfl, hww⟩; replace hww := hww.symm; subst hww
      rw [HMM.out]
      go_wp2
      go_round
      case rel => exact ⟨k + 1, by omega, by go_num, by rw [hs.out]⟩
      case measure => simp [intOf]; omega
    · obtain rfl : k = n := by omega
      go_wp2
      go_ret
      exact ⟨rfl, rfl⟩
theorem inverseMod_any (p x : Int) (w : World) (hp : isFld p = true) (hx : I64 x) :
    Calls Try.prog 143 #[.int .i64 p, .int .i64 x] w fun e w' => e = .returned (.int .i64 (invP p x)) ∧ w' = w := by
  have hpr := isFld_r hp
  obtain ⟨n, hn⟩ : ∃ n : Nat, max (p - 2) 1 = n := ⟨(max (p - 2) 1).toNat, by omega⟩
  have hi := pwF_inv (x := x) hp
  rw [hn, Int.toNat_natCast] at hi
  rw [← hi]
  have hnb : n ≤ 1000 := by omega
  have H1 := Lib.hid hp
  have HX := Lib.hid hx
  clear hp hi
  go_enter Try.func143, Try.ntmps143
  go_wp2_with fail
  refine (implIsField_any _ _).mono ?_; rintro e w1 ⟨rfl, hww⟩; replace hww := hww.symm; subst hww
  rw [H1.out]
  go_wp2_with fail
  refine (powerMod_any p x n _ H1.out HX.out hnb).mono ?_; rintro e w1 ⟨rfl, hww⟩; replace hww := hww.symm; subst hww
  go_wp2
  go_ret
  exact ⟨rfl, rfl⟩
set_option maxHeartbeats 800000 in
theorem specInverseMod_any (p x : Int) (w : World) (hp : isFld p = true) (h1 : 1 ≤ x) (h2 : x ≤ p - 1) :
    Calls Try.prog 139 #[.int .i64 p, .int .i64 x] w fun e w' => e = .returned (.int .i64 (invP p x)) ∧ w' = w := by
  have hpr := isFld_r hp
  obtain ⟨i1, i2, i3, i4⟩ := invP_ok hp h1 h2
  obtain ⟨v, hv⟩ : ∃ v, invP p x = v := ⟨_, rfl⟩
  rw [hv] at i1 i2 i3 i4 ⊢
  have H1 := Lib.hid hp
  have I3 := Lib.hid i3
  have I4 := Lib.hid i4
  have hxm : x % p = x := Int.emod_eq_of_lt (by omega) (by omega)
  have HXM := Lib.hid hxm
  clear hp hv i3 i4 hxm
  go_enter Try.func139, Try.ntmps139
  go_wp2
  go_loop [5] (fun i => ∃ y : Int, 1 ≤ y ∧ y ≤ v ∧ i = .int .i64 y) (fun i => (p - intOf i).toNat)
  case atStart => exact ⟨1, by omega, by omega, rfl⟩
  case round =>
    obtain ⟨y, hy1, hy2, rfl⟩ := hrel
    have hyp : y < p := by omega
    have k0 : 0 ≤ x * y := Int.mul_nonneg (by omega) (by omega)
    have k1 : x * y ≤ 4 * 4 := Int.mul_le_mul (by omega) (by omega) (by omega) (by omega)
    obtain ⟨K, hK⟩ : ∃ K, x * y = K := ⟨_, rfl⟩
    have hKw : wrap64 (x * y) = K := by rw [hK]; exact IntWalk.wrap64_in _ ⟨by omega, by omega⟩
    rw [hK] at k0 k1
    have hKI : Hid (I64 K) := by show _ ∧ _; omega
    have hxI : Hid (I64 x) := by show _ ∧ _; omega
    by_cases hlt : y < v
    · have hne := I4.out y hy1 hlt
      rw [hK] at hne
      have hb : (K % p == 1) = false := by simpa using hne
      clear hK hne
      go_wp2_with fail
      refine (specIsField_any _ _).mono ?_; rintro e w1 ⟨rfl, hww⟩; replace hww := hww.symm; subst hww
      rw [H1.out]
      go_wp2_with fail
      refine (l2Mod_any p x _ hpr hxI.out).mono ?_; rintro e w1 ⟨rfl, hww⟩; replace hww := hww.symm; subst hww
      rw [HXM.out]
      go_wp2_with fail
      refine (l2Mod_any p K _ hpr hKI.out).mono ?_; rintro e w1 ⟨rfl, hww⟩; replace hww := hww.symm; subst hww
      go_wp2
      go_round
      case rel => exact ⟨y + 1, by omega, by omega, rfl⟩
      case measure => simp [intOf]; omega
    · obtain rfl : y = v := by omega
      have he := I3.out
      rw [hK] at he
      have HE := Lib.hid he
      clear hK he
      go_wp2_with fail
      refine (specIsField_any _ _).mono ?_; rintro e w1 ⟨rfl, hww⟩; replace hww := hww.symm; subst hww
      rw [H1.out]
      go_wp2_with fail
      refine (l2Mod_any p x _ hpr hxI.out).mono ?_; rintro e w1 ⟨rfl, hww⟩; replace hww := hww.symm; subst hww
      rw [HXM.out]
      go_wp2_with fail
      refine (l2Mod_any p K _ hpr hKI.out).mono ?_; rintro e w1 ⟨rfl, hww⟩; replace hww := hww.symm; subst hww
      rw [HE.out]
      go_wp2
      go_ret
      exact ⟨rfl, rfl⟩

/-! ### a multiple of a row of the same block added in place -/
set_option maxHeartbeats 1600000 in
theorem addMultiple_in (p k : Int) (g off top n N cap ca cb : Nat) (lo : Nat) (f : Nat → Int) (w : World) (hp : 2 ≤ p ∧ p ≤ 5) (hk : 0 ≤ k ∧ k ≤ 5)
    (hown : OwnI w lo (.slice (some ⟨g, 0, none⟩) N cap) (rowF N f)) (hoff : off + n ≤ N) (htop : top + n ≤ N) (hd : off + n ≤ top ∨ top + n ≤ off) (hN : N ≤ 1000000) (hca : n ≤ ca ∧ ca ≤ 9223372036854775807) (hcb : n ≤ cb ∧ cb ≤ 9223372036854775807)
    (hf : ∀ i, i < N → 0 ≤ f i ∧ f i ≤ 4) :
    Calls Try.prog 144 #[.int .i64 p, .slice (some ⟨g, off, none⟩) n ca, .int .i64 k, .slice (some ⟨g, top, none⟩) n cb] w fun e w' => e = .returned (.slice (some ⟨g, off, none⟩) n ca) ∧ OwnI w' lo (.slice (some ⟨g, 0, none⟩) N cap) (rowF N (amF p k off n f fun j => f (top + j))) ∧ w.grownBy w' (some g) := by
  have HF := Lib.hid hf
  obtain ⟨y, hy⟩ : ∃ y : Nat → Int, y = fun j => f (top + j) := ⟨_, rfl⟩
  rw [← hy]
  have HY : Hid (∀ j, y j = f (top + j)) := by subst hy; exact fun _ => rfl
  rw [amF_0 p k off N f y] at hown
  clear hf hy
  go_enter Try.func144, Try.ntmps144
  go_wp2
  go_loopw [13] (fun i wr => ∃ j : Nat, j ≤ n ∧ i = .int .i64 j ∧ OwnI wr lo (.slice (some ⟨g, 0, none⟩) N cap) (rowF N (amF p k off j f y)) ∧ w.grownBy wr (some g)) (fun i _ => n - (intOf i).toNat)
  case atStart => exact ⟨0, Nat.zero_le _, rfl, hown, World.grownBy.refl _ _⟩
  case round =>
    clear hown
    obtain ⟨j, hj, rfl, ho, hgr⟩ := hrel
    by_cases hlt : j < n
    · have cA := (ho.cellG (j := off + j) (by rw [rowF_length]; omega)).1
      rw [rowF_getD _ (by omega), amF_rest] at cA
      have cS := (ho.cellG (j := top + j) (by rw [rowF_length]; omega)).1
      rw [rowF_getD _ (by omega), amF, if_neg (by omega), ← HY.out] at cS
      have fA := ho.frozenG (off + j)
      have hf1 := HF.out (off + j) (by omega)
      have hy1 := HF.out (top + j) (by omega)
      rw [← HY.out] at hy1
      have hst := amF_succ (p := p) (k := k) (off := off) (j := j) (N := N) f y
      obtain ⟨a, ha⟩ : ∃ a, f (off + j) = a := ⟨_, rfl⟩
      obtain ⟨z, hz⟩ : ∃ z, y j = z := ⟨_, rfl⟩
      rw [ha] at cA hf1 hst
      rw [hz] at cS hy1 hst
      have hkz0 : 0 ≤ k * z := Int.mul_nonneg hk.1 hy1.1
      have hkz1 : k * z ≤ 5 * 4 := Int.mul_le_mul hk.2 hy1.2 hy1.1 (by omega)
      obtain ⟨K, hK⟩ : ∃ K, k * z = K := ⟨_, rfl⟩
      rw [hK] at hkz0 hkz1 hst
      have hKw : wrap64 (k * z) = K := by rw [hK]; exact IntWalk.wrap64_in _ ⟨by omega, by omega⟩
      have hr0 := Int.emod_nonneg (a + K) (show p ≠ 0 by omega)
      have hr1 := Int.emod_lt_of_pos (a + K) (show 0 < p by omega)
      have ho2 := ho.put (j := off + j) (x := (a + K) % p) (by simp only [I64]; omega)
      rw [hst] at ho2
      have HO2 := Lib.hid ho2
      have HG2 := Lib.hid (grown_then hgr ho2.2)
      have htm : (wrap64 (a + K)).tmod p = (a + K) % p := by
        rw [IntWalk.wrap64_in _ ⟨by omega, by omega⟩]
        exact Int.tmod_eq_emod_of_nonneg (by omega)
      have htm2 : (a + K).tmod p = (a + K) % p := Int.tmod_eq_emod_of_nonneg (by omega)
      clear hst ho2 ho hgr hr0 hr1 ha hz hK hkz0 hkz1
      go_wp2
      go_roundw
      case rel => exact ⟨j + 1, by omega, by go_num, HO2.out.1, HG2.out⟩
      case measure => simp [intOf]; omega
    · go_wp2
      go_ret
      obtain rfl : j = n := by omega
      exact ⟨rfl, ho, hgr⟩
end Go.Proofs.Ytcmlflppndfdcaa

/- Elimination: the program's reduce. -/
namespace Go.Proofs.Ytcmlflppndfdcaa
set_option linter.unusedVariables false
set_option linter.unusedSimpArgs false
open Go.RowKit

set_option maxHeartbeats 12800000 in
set_option maxRecDepth 100000 in
theorem implReduce_any (p : Int) (u : Value) (r c : Nat) (f : Nat → Nat → Int) (w0 : World) (hp : isFld p = true) (hr : r ≤ 1000) (hc : c ≤ 1000) (hu : MxR w0 w0.heap.size u (mxF r c f)) (hf : InF p r c f) :
    Calls Try.prog 115 #[.int .i64 p, u] w0 fun e w' => ∃ m v, e = .returned (.tuple #[m, v]) ∧ MxO w' w0.heap.size w'.heap.size m (mxF r c (rdTo p r f c).1) ∧ IntsO w' w0.heap.size w'.heap.size v (rdTo p r f c).2 ∧ Below w0.heap.size w0 w' := by
  have hpr := isFld_r hp
  have hu' := hu
  obtain ⟨UA, uc, rfl⟩ := hu.form
  simp only [mxF] at hu hu' ⊢
  rw [flat_length] at hu hu' ⊢
  obtain ⟨UL, hUL⟩ : ∃ n, r * c = n := ⟨_, rfl⟩
  rw [hUL] at hu hu' ⊢
  have HUL := Lib.hid hUL
  clear hUL hu
  obtain ⟨W, hW⟩ : ∃ W, W = (w0.alloc (.cells #[.int .i64 r, .int .i64 c, .slice UA UL uc] 84)).alloc (.cells #[.int .i64 0, .int .i64 0, .slice none 0 0] 84) := ⟨_, rfl⟩
  have g0 : Below w0.heap.size w0 W := by rw [hW]; exact ((Below.refl _ _).alloc (Nat.le_refl _) _).alloc (by simp) _
  have kB : Blk W w0.heap.size 84 #[.int .i64 r, .int .i64 c, .slice UA UL uc] := by rw [hW]; exact (Blk.new _ _ _).alloc _
  have kR : Blk W (w0.heap.size + 1) 84 #[.int .i64 0, .int .i64 0, .slice none 0 0] := by
    rw [hW]
    have := Blk.new (w0.alloc (.cells #[.int .i64 r, .int .i64 c, .slice UA UL uc] 84)) 84 #[.int .i64 0, .int .i64 0, .slice none 0 0]
    simpa only [World.size_alloc] using this
  have sz : W.heap.size = w0.heap.size + 1 + 1 := by rw [hW]; simp
  have SZ := Lib.hid sz
  have HU := Lib.hid (MxR.next g0 hu')
  have HF := Lib.hid hf
  have HP := Lib.hid hp
  have c0 := kB.cell' (i := 0) rfl
  have c1 := kB.cell' (i := 1) rfl
  have c2 := kB.cell' (i := 2) rfl
  clear hu' sz hf hp
  go_enter Try.func115, Try.ntmps115
  go_wp2_with fail
  rw [← hW]; clear hW
  refine (mxClone_any _ _ _ HU.out).mono ?_; rintro e w1 ⟨v1, rfl, hM, hb1⟩
  obtain ⟨A, cap, ev⟩ := hM.form
  subst ev
  simp only [flat_length] at hM ⊢
  obtain ⟨L, hL⟩ : ∃ n, r * c = n := ⟨_, rfl⟩
  rw [hL] at hM ⊢
  have HL := Lib.hid hL
  clear hL
  have kB1 := kB.call hb1
  have kR1 := kR.call hb1
  have g1 := bthen g0 hb1
  clear c0 c1 c2
  have c0 := kB1.cell' (i := 0) rfl
  have c1 := kB1.cell' (i := 1) rfl
  have c2 := kB1.cell' (i := 2) rfl
  have fr := kB1.frozen
  have s1 := hb1.size
  have sz := SZ.out
  obtain ⟨w2, hw2⟩ : ∃ w2, w2 = ((w1.setCell ⟨w0.heap.size, 0, none⟩ (.int .i64 r)).setCell ⟨w0.heap.size, 1, none⟩ (.int .i64 c)).setCell ⟨w0.heap.size, 2, none⟩ (.slice A L cap) := ⟨_, rfl⟩
  have hch : Chg w0.heap.size (w0.heap.size + 1) w1 w2 := by rw [hw2]; exact chg3 w1 _ _ _ _
  have kB2 : Blk w2 w0.heap.size 84 #[.int .i64 r, .int .i64 c, .slice A L cap] := by rw [hw2]; exact ((kB1.set_ 0 _).set_ 1 _).set_ 2 _
  have kR2 := kR1.chg hch (.inr (by omega))
  have g2 : Below w0.heap.size w0 w2 := g1.trans (hch.below (Nat.le_refl _) (by omega))
  have s2 := hch.size
  obtain ⟨sA, esA, hIA, _, _⟩ := hM
  simp only [Value.agg.injEq, Array.mk.injEq, List.cons.injEq, and_true, true_and] at esA
  subst esA
  have hI2 := hIA.chg hch (.inr (by omega))
  have hS0 : RS W.heap.size w2 A r c L cap w2 (rdTo p r f 0).1 (.slice none 0 0) (rdTo p r f 0).2 := by
    refine ⟨Below.refl _ _, ?_⟩
    refine ⟨fun q hq => ?_, List.pairwise_pair.2 (Classical.em _)⟩
    simp only [List.mem_cons, List.not_mem_nil, or_false] at hq
    rcases hq with rfl | rfl
    · exact hI2.wider (Nat.le_refl _) s2
    · exact ⟨OwnI.nil _ _, by simp [Value.ownBlock]⟩
  have KB := Lib.hid kB2
  have KR := Lib.hid kR2
  have G2 := Lib.hid g2
  have hWB : W.heap.size ≤ w2.heap.size := by omega
  have HB0 : Hid (w0.heap.size < W.heap.size) := by show _ < _; omega
  have HWB := Lib.hid hWB
  clear kB kB1 kR kR1 g0 g1 hIA hI2 hch kB2 kR2 g2 s1 s2 sz hb1 hWB
  go_wp2
  rw [← hw2]; clear hw2 c0 c1 c2 fr
  go_loopw [6, 18] (fun pv i wr => ∃ k : Nat, k ≤ c ∧ i = .int .i64 k ∧ RS W.heap.size w2 A r c L cap wr (rdTo p r f k).1 pv (rdTo p r f k).2) (fun _ i _ => c - (intOf i).toNat)
  case atStart => exact ⟨0, Nat.zero_le _, rfl, hS0⟩
  case round =>
    clear hS0
    obtain ⟨k, hk, rfl, S⟩ := hrel
    obtain ⟨PA, pc, ev, _, _⟩ := S.ownP.1.form
    subst ev
    have hln := rdTo_len p r f k
    have hin := inF_to hpr.1 HF.out k
    have hrs := rdTo_succ p r f k
    obtain ⟨F, hFF⟩ : ∃ F, (rdTo p r f k).1 = F := ⟨_, rfl⟩
    obtain ⟨ps, hps⟩ : ∃ ps, (rdTo p r f k).2 = ps := ⟨_, rfl⟩
    have hpm := rdTo_mem p r f k
    rw [hps] at hpm
    rw [hFF, hps] at S hrs
    rw [hps] at hln
    rw [hFF] at hin
    rw [hps]
    obtain ⟨n, hn⟩ : ∃ n, ps.length = n := ⟨_, rfl⟩
    rw [hn] at hln hrs S ⊢
    have HRS := Lib.hid hrs
    clear hrs
    have HPM := Lib.hid hpm
    have HN := Lib.hid hn
    have HIN := Lib.hid hin
    have HFF := Lib.hid hFF
    have HPS := Lib.hid hps
    clear hFF hps hn hin hpm
    by_cases hlt : k < c
    · have kb := KB.out.below (S).bel HB0.out
      have c0 := kb.cell' (i := 0) rfl
      have c1 := kb.cell' (i := 1) rfl
      have c2 := kb.cell' (i := 2) rfl
      have hSS := Lib.hid S
      clear kb
      go_wp2
      go_loopw [8] (fun i wr => ∃ a : Nat, n ≤ a ∧ a ≤ r ∧ i = .int .i64 a ∧ RS W.heap.size w2 A r c L cap wr F (.slice PA n pc) ps ∧ Hid (∀ i, n ≤ i → i < a → F i k = 0)) (fun i _ => r - (intOf i).toNat)
      case atStart => exact ⟨n, Nat.le_refl _, hln.1, rfl, S, fun i h1 h2 => by omega⟩
      case round =>
        clear c0 c1 c2 S
        obtain ⟨a, hna, har, rfl, S, hz⟩ := hrel
        have kb := KB.out.below (S).bel HB0.out
        have c0 := kb.cell' (i := 0) rfl
        have c1 := kb.cell' (i := 1) rfl
        have c2 := kb.cell' (i := 2) rfl
        by_cases hlr : a < r
        · obtain ⟨P1, _, P3⟩ := rowP hlr hlt hr hc rfl
          obtain ⟨g, eA, eL, hLc, hcb, hBg, hgw⟩ := S.addr (by omega)
          subst eA
          obtain ⟨Q, hQ⟩ : ∃ Q, Q = a * c := ⟨_, rfl⟩
          have HQ := Lib.hid hQ
          have EL := Lib.hid eL
          rw [← hQ] at P1
          rw [← eL] at P1 P3
          clear hQ eL
          go_wp2_with fail
          refine (row_in _ hlr (by omega) hr hc EL.out hLc hcb HQ.out).mono ?_; rintro e w3 ⟨rfl, hb3⟩
          have S3 := S.call HWB.out hb3
          obtain ⟨z1, _, _⟩ := S3.cellP hlr hlt HQ.out
          clear kb c0 c1 c2 S hb3
          have kb := KB.out.below (S3).bel HB0.out
          have c0 := kb.cell' (i := 0) rfl
          have c1 := kb.cell' (i := 1) rfl
          have c2 := kb.cell' (i := 2) rfl
          by_cases hz0 : F a k = 0
          · rw [hz0] at z1
            have HZ : Hid (∀ i, n ≤ i → i < a + 1 → F i k = 0) := fun i h1 h2 => by
              by_cases e : i = a
              · subst e; exact hz0
              · exact hz.out i h1 (by omega)
            clear hz0
            go_wp2
            go_roundw
            case rel => exact ⟨a + 1, by omega, by omega, by go_num, S3, HZ.out⟩
            case measure => simp [intOf]; omega
          · have hzb : (F a k == 0) = false := by simpa using hz0
            have hza := nzF_eq (f := F) (k := k) hna har hz.out (fun _ => hz0)
            have hnr : n < r := by omega
            have hane : (a : Int) ≠ r := by omega
            have HRS2 := Lib.hid (HRS.out.trans (if_pos (by rw [hza]; exact hlr)))
            have HZA := Lib.hid hza
            clear hz0 hza hz
            obtain ⟨P, hP⟩ : ∃ P, P = n * c := ⟨_, rfl⟩
            have hrp := rowP hnr hlt hr hc hP
            rw [← EL.out] at hrp
            have HPP := Lib.hid hP
            clear hP
            go_wp2_with fail
            refine (row_in _ hnr (by omega) hr hc EL.out hLc hcb HPP.out).mono ?_; rintro e w4 ⟨rfl, hb4⟩
            have S4 := S3.call HWB.out hb4
            rw [← sw_0 n a F] at S4
            clear kb c0 c1 c2 S3 hb4 hgw z1
            have kb := KB.out.below (S4).bel HB0.out
            have c0 := kb.cell' (i := 0) rfl
            have c1 := kb.cell' (i := 1) rfl
            have c2 := kb.cell' (i := 2) rfl
            go_wp2
            clear kb c0 c1 c2
            go_loopw [48] (fun i wr => ∃ j : Nat, j ≤ c ∧ i = .int .i64 j ∧ RS W.heap.size w2 (some ⟨g, 0, none⟩) r c L cap wr (swJ n a j F) (.slice PA n pc) ps) (fun i _ => c - (intOf i).toNat)
            case atStart => exact ⟨0, Nat.zero_le _, rfl, S4⟩
            case round =>
              clear S4
              obtain ⟨j, hj, rfl, S⟩ := hrel
              by_cases hljc : j < c
              · obtain ⟨a1, a2, a3⟩ := rowP hlr hljc hr hc HQ.out
                obtain ⟨b1, b2, b3⟩ := rowP hnr hljc hr hc HPP.out
                rw [← EL.out] at a1 a2 a3 b1 b2 b3
                have hst := sw_step F hnr hlr hljc
                rw [← HQ.out, ← HPP.out] at hst
                have HST := Lib.hid hst
                have hsr := S.size HWB.out
                have hSS := Lib.hid S
                clear hst S
                go_wp2
                obtain ⟨y, hy⟩ : ∃ y, y = F := ⟨_, rfl⟩
                refine wp_region_net2 (by kernel_rfl) [.eq (.slice (some ⟨g, P, none⟩) c (cap - P)), .eq (.int .i64 j), .eq (.agg #[.int .i64 r, .int .i64 c, .slice (some ⟨g, 0, none⟩) L cap]), .eq (.int .i64 a), .eq (.slice (some ⟨g, Q, none⟩) c (cap - Q)), .eq (.int .i64 j), .eq (.agg #[.int .i64 r, .int .i64 c, .slice (some ⟨g, 0, none⟩) L cap]), .eq (.int .i64 a), .eq (.slice (some ⟨g, Q, none⟩) c (cap - Q)), .eq (.int .i64 j), .eq (.pointer (some ⟨g, Q + j, none⟩)), .eq (.int .i64 (F a j)), .eq (.slice (some ⟨g, P, none⟩) c (cap - P)), .eq (.int .i64 j), .eq (.pointer (some ⟨g, P + j, none⟩)), .eq (.int .i64 (F n j)), .eq (.pointer (some ⟨g, P + j, none⟩))] [[], [], [], [], [2, 3], [], [], [], [2, 3, 4, 6, 7], [], [2, 3, 4, 6, 7, 8, 9], [2, 3, 4, 6, 7, 8, 9, 10], [], [], [12, 13], [12, 13, 14], [0, 1, 2, 3, 4, 6, 7, 8, 9, 10, 11, 12, 13, 14, 15], [0, 1, 2, 3, 4, 6, 7, 8, 9, 10, 11, 12, 13, 14, 15, 16], [0, 1, 2, 3, 4, 5, 6, 7, 8, 9, 10, 11, 12, 13, 14, 15, 16, 17], [0, 1, 2, 3, 4, 5, 6, 7, 8, 9, 10, 11, 12, 13, 14, 15, 16, 17, 18]] 17 5 [0, 1, 2, 3, 4, 6, 7, 8, 9, 10, 11, 12, 13, 14, 15, 16] (by kernel_rfl) rfl ⟨trivial, trivial, trivial, trivial, trivial, trivial, trivial, trivial, trivial, trivial, trivial, trivial, trivial, trivial, trivial, trivial, trivial, trivial⟩ ⟨?_, ?_, ?_, ?_, ?_, ?_, ?_, ?_, ?_, ?_, ?_, ?_, ?_, ?_, ?_, ?_, ?_, trivial⟩ ?_ ?_
                · intro x w hb hk Q' hQ
                  clear hk
                  simp only [netAct, dstAt, List.getElem?_toArray, List.getElem?_cons_zero, List.getElem?_cons_succ, Option.bind_some, Act.put, List.setIfInBounds_toArray, List.set_cons_zero, List.set_cons_succ] at hQ ⊢
                  go_wp2
                  exact hQ (.slice (some ⟨g, P, none⟩) c (cap - P)) _ (Below.refl _ _) rfl
                · intro x w hb hk Q' hQ
                  clear hk
                  simp only [netAct, dstAt, List.getElem?_toArray, List.getElem?_cons_zero, List.getElem?_cons_succ, Option.bind_some, Act.put, List.setIfInBounds_toArray, List.set_cons_zero, List.set_cons_succ] at hQ ⊢
                  go_wp2
                  exact hQ (.int .i64 j) _ (Below.refl _ _) rfl
                · intro x w hb hk Q' hQ
                  clear hk
                  simp only [netAct, dstAt, List.getElem?_toArray, List.getElem?_cons_zero, List.getElem?_cons_succ, Option.bind_some, Act.put, List.setIfInBounds_toArray, List.set_cons_zero, List.set_cons_succ] at hQ ⊢
                  have S := hSS.out.call HWB.out hb
                  have kb := KB.out.below (S).bel HB0.out
                  have c0 := kb.cell' (i := 0) rfl
                  have c1 := kb.cell' (i := 1) rfl
                  have c2 := kb.cell' (i := 2) rfl
                  go_wp2
                  exact hQ (.agg #[.int .i64 r, .int .i64 c, .slice (some ⟨g, 0, none⟩) L cap]) _ (Below.refl _ _) rfl
                · intro x w hb hk Q' hQ
                  clear hk
                  simp only [netAct, dstAt, List.getElem?_toArray, List.getElem?_cons_zero, List.getElem?_cons_succ, Option.bind_some, Act.put, List.setIfInBounds_toArray, List.set_cons_zero, List.set_cons_succ] at hQ ⊢
                  go_wp2
                  exact hQ (.int .i64 a) _ (Below.refl _ _) rfl
                · intro x w hb hk Q' hQ
                  have h2 : x.v 2 = .agg #[.int .i64 r, .int .i64 c, .slice (some ⟨g, 0, none⟩) L cap] := (hk 2 (by decide)).1
                  have h3 : x.v 3 = .int .i64 a := (hk 3 (by decide)).1
                  clear hk
                  simp only [netAct, dstAt, List.getElem?_toArray, List.getElem?_cons_zero, List.getElem?_cons_succ, Option.bind_some, Act.put, List.setIfInBounds_toArray, List.set_cons_zero, List.set_cons_succ] at hQ ⊢
                  simp only [h2, h3] at hQ ⊢
                  clear h2 h3
                  go_wp2_with fail
                  refine (row_in _ hlr (by omega) hr hc EL.out hLc hcb HQ.out).mono ?_; rintro e w5 ⟨rfl, hb5⟩
                  go_wp2
                  exact hQ _ _ hb5 rfl
                · intro x w hb hk Q' hQ
                  clear hk
                  simp only [netAct, dstAt, List.getElem?_toArray, List.getElem?_cons_zero, List.getElem?_cons_succ, Option.bind_some, Act.put, List.setIfInBounds_toArray, List.set_cons_zero, List.set_cons_succ] at hQ ⊢
                  go_wp2
                  exact hQ (.int .i64 j) _ (Below.refl _ _) rfl
                · intro x w hb hk Q' hQ
                  clear hk
                  simp only [netAct, dstAt, List.getElem?_toArray, List.getElem?_cons_zero, List.getElem?_cons_succ, Option.bind_some, Act.put, List.setIfInBounds_toArray, List.set_cons_zero, List.set_cons_succ] at hQ ⊢
                  have S := hSS.out.call HWB.out hb
                  have kb := KB.out.below (S).bel HB0.out
                  have c0 := kb.cell' (i := 0) rfl
                  have c1 := kb.cell' (i := 1) rfl
                  have c2 := kb.cell' (i := 2) rfl
                  go_wp2
                  exact hQ (.agg #[.int .i64 r, .int .i64 c, .slice (some ⟨g, 0, none⟩) L cap]) _ (Below.refl _ _) rfl
                · intro x w hb hk Q' hQ
                  clear hk
                  simp only [netAct, dstAt, List.getElem?_toArray, List.getElem?_cons_zero, List.getElem?_cons_succ, Option.bind_some, Act.put, List.setIfInBounds_toArray, List.set_cons_zero, List.set_cons_succ] at hQ ⊢
                  go_wp2
                  exact hQ (.int .i64 a) _ (Below.refl _ _) rfl
                · intro x w hb hk Q' hQ
                  have h6 : x.v 6 = .agg #[.int .i64 r, .int .i64 c, .slice (some ⟨g, 0, none⟩) L cap] := (hk 6 (by decide)).1
                  have h7 : x.v 7 = .int .i64 a := (hk 7 (by decide)).1
                  clear hk
                  simp only [netAct, dstAt, List.getElem?_toArray, List.getElem?_cons_zero, List.getElem?_cons_succ, Option.bind_some, Act.put, List.setIfInBounds_toArray, List.set_cons_zero, List.set_cons_succ] at hQ ⊢
                  simp only [h6, h7] at hQ ⊢
                  clear h6 h7
                  go_wp2_with fail
                  refine (row_in _ hlr (by omega) hr hc EL.out hLc hcb HQ.out).mono ?_; rintro e w5 ⟨rfl, hb5⟩
                  go_wp2
                  exact hQ _ _ hb5 rfl
                · intro x w hb hk Q' hQ
                  clear hk
                  simp only [netAct, dstAt, List.getElem?_toArray, List.getElem?_cons_zero, List.getElem?_cons_succ, Option.bind_some, Act.put, List.setIfInBounds_toArray, List.set_cons_zero, List.set_cons_succ] at hQ ⊢
                  go_wp2
                  exact hQ (.int .i64 j) _ (Below.refl _ _) rfl
                · intro x w hb hk Q' hQ
                  have h8 : x.v 8 = .slice (some ⟨g, Q, none⟩) c (cap - Q) := (hk 8 (by decide)).1
                  have h9 : x.v 9 = .int .i64 j := (hk 9 (by decide)).1
                  clear hk
                  simp only [netAct, dstAt, List.getElem?_toArray, List.getElem?_cons_zero, List.getElem?_cons_succ, Option.bind_some, Act.put, List.setIfInBounds_toArray, List.set_cons_zero, List.set_cons_succ] at hQ ⊢
                  simp only [h8, h9] at hQ ⊢
                  clear h8 h9
                  go_wp2
                  exact hQ (.pointer (some ⟨g, Q + j, none⟩)) _ (Below.refl _ _) rfl
                · intro x w hb hk Q' hQ
                  have h10 : x.v 10 = .pointer (some ⟨g, Q + j, none⟩) := (hk 10 (by decide)).1
                  clear hk
                  simp only [netAct, dstAt, List.getElem?_toArray, List.getElem?_cons_zero, List.getElem?_cons_succ, Option.bind_some, Act.put, List.setIfInBounds_toArray, List.set_cons_zero, List.set_cons_succ] at hQ ⊢
                  simp only [h10] at hQ ⊢
                  clear h10
                  have S := hSS.out.call HWB.out hb
                  have z := (S.cellP hlr hljc HQ.out).1
                  rw [sw_rest] at z
                  go_wp2
                  exact hQ (.int .i64 (F a j)) _ (Below.refl _ _) rfl
                · intro x w hb hk Q' hQ
                  clear hk
                  simp only [netAct, dstAt, List.getElem?_toArray, List.getElem?_cons_zero, List.getElem?_cons_succ, Option.bind_some, Act.put, List.setIfInBounds_toArray, List.set_cons_zero, List.set_cons_succ] at hQ ⊢
                  go_wp2
                  exact hQ (.slice (some ⟨g, P, none⟩) c (cap - P)) _ (Below.refl _ _) rfl
                · intro x w hb hk Q' hQ
                  clear hk
                  simp only [netAct, dstAt, List.getElem?_toArray, List.getElem?_cons_zero, List.getElem?_cons_succ, Option.bind_some, Act.put, List.setIfInBounds_toArray, List.set_cons_zero, List.set_cons_succ] at hQ ⊢
                  go_wp2
                  exact hQ (.int .i64 j) _ (Below.refl _ _) rfl
                · intro x w hb hk Q' hQ
                  have h12 : x.v 12 = .slice (some ⟨g, P, none⟩) c (cap - P) := (hk 12 (by decide)).1
                  have h13 : x.v 13 = .int .i64 j := (hk 13 (by decide)).1
                  clear hk
                  simp only [netAct, dstAt, List.getElem?_toArray, List.getElem?_cons_zero, List.getElem?_cons_succ, Option.bind_some, Act.put, List.setIfInBounds_toArray, List.set_cons_zero, List.set_cons_succ] at hQ ⊢
                  simp only [h12, h13] at hQ ⊢
                  clear h12 h13
                  go_wp2
                  exact hQ (.pointer (some ⟨g, P + j, none⟩)) _ (Below.refl _ _) rfl
                · intro x w hb hk Q' hQ
                  have h14 : x.v 14 = .pointer (some ⟨g, P + j, none⟩) := (hk 14 (by decide)).1
                  clear hk
                  simp only [netAct, dstAt, List.getElem?_toArray, List.getElem?_cons_zero, List.getElem?_cons_succ, Option.bind_some, Act.put, List.setIfInBounds_toArray, List.set_cons_zero, List.set_cons_succ] at hQ ⊢
                  simp only [h14] at hQ ⊢
                  clear h14
                  have S := hSS.out.call HWB.out hb
                  have z := (S.cellP hnr hljc HPP.out).1
                  rw [sw_rest] at z
                  go_wp2
                  exact hQ (.int .i64 (F n j)) _ (Below.refl _ _) rfl
                · intro x w hb hk Q' hQ
                  have h0 : x.v 0 = .slice (some ⟨g, P, none⟩) c (cap - P) := (hk 0 (by decide)).1
                  have h1 : x.v 1 = .int .i64 j := (hk 1 (by decide)).1
                  clear hk
                  simp only [netAct, dstAt, List.getElem?_toArray, List.getElem?_cons_zero, List.getElem?_cons_succ, Option.bind_some, Act.put, List.setIfInBounds_toArray, List.set_cons_zero, List.set_cons_succ] at hQ ⊢
                  simp only [h0, h1] at hQ ⊢
                  clear h0 h1
                  go_wp2
                  exact hQ (.pointer (some ⟨g, P + j, none⟩)) _ (Below.refl _ _) rfl
                · intro x w hb hk hiv hdj
                  have h0 : x.v 0 = .slice (some ⟨g, P, none⟩) c (cap - P) := hk 0 (by decide)
                  have h1 : x.v 1 = .int .i64 j := hk 1 (by decide)
                  have h2 : x.v 2 = .agg #[.int .i64 r, .int .i64 c, .slice (some ⟨g, 0, none⟩) L cap] := hk 2 (by decide)
                  have h3 : x.v 3 = .int .i64 a := hk 3 (by decide)
                  have h4 : x.v 4 = .slice (some ⟨g, Q, none⟩) c (cap - Q) := hk 4 (by decide)
                  have h5 : x.v 5 = .int .i64 j := hk 5 (by decide)
                  have h6 : x.v 6 = .agg #[.int .i64 r, .int .i64 c, .slice (some ⟨g, 0, none⟩) L cap] := hk 6 (by decide)
                  have h7 : x.v 7 = .int .i64 a := hk 7 (by decide)
                  have h8 : x.v 8 = .slice (some ⟨g, Q, none⟩) c (cap - Q) := hk 8 (by decide)
                  have h9 : x.v 9 = .int .i64 j := hk 9 (by decide)
                  have h10 : x.v 10 = .pointer (some ⟨g, Q + j, none⟩) := hk 10 (by decide)
                  have h11 : x.v 11 = .int .i64 (F a j) := hk 11 (by decide)
                  have h12 : x.v 12 = .slice (some ⟨g, P, none⟩) c (cap - P) := hk 12 (by decide)
                  have h13 : x.v 13 = .int .i64 j := hk 13 (by decide)
                  have h14 : x.v 14 = .pointer (some ⟨g, P + j, none⟩) := hk 14 (by decide)
                  have h15 : x.v 15 = .int .i64 (F n j) := hk 15 (by decide)
                  have h16 : x.v 16 = .pointer (some ⟨g, P + j, none⟩) := hk 16 (by decide)
                  clear hk
                  simp only [netAct, dstAt, List.getElem?_toArray, List.getElem?_cons_zero, List.getElem?_cons_succ, Option.bind_some, Act.put, List.setIfInBounds_toArray, List.set_cons_zero, List.set_cons_succ]
                  simp only [List.drop_succ_cons, List.drop_zero, h0, h1, h2, h3, h4, h5, h6, h7, h8, h9, h10, h11, h12, h13, h14, h15, h16]
                  clear h0 h1 h2 h3 h4 h5 h6 h7 h8 h9 h10 h11 h12 h13 h14 h15 h16
                  have S := hSS.out.call HWB.out hb
                  have ia := (S.cellP hlr hljc HQ.out)
                  have ib := (S.cellP hnr hljc HPP.out)
                  rw [sw_rest] at ia ib
                  have S2 := S.put2 hBg (S.size HWB.out) ia.2.1 ib.2.1 HST.out
                  have S1 := S.put (J := P + j) (x := F a j) hBg (S.size HWB.out) ia.2.1 (by rw [HPP.out]; exact flat_set _ _ hnr hljc)
                  obtain ⟨q1, _, q2⟩ := S1.cellP hlr hljc HQ.out
                  obtain ⟨p1, _, p2⟩ := ib
                  have HS2 := Lib.hid S2
                  clear ia S S1 S2 hiv hdj
                  go_wp2
                  go_roundw
                  case rel => exact ⟨j + 1, by omega, by go_num, HS2.out⟩
                  case measure => simp [intOf]; omega
                · intro x w hb hk hiv hdj om os hom hos
                  simp only [List.getElem?_cons_zero, List.getElem?_cons_succ, Option.some.injEq] at hom hos
                  subst hom hos
                  have h0 : x.v 0 = .slice (some ⟨g, P, none⟩) c (cap - P) := hk 0 (by decide)
                  have h1 : x.v 1 = .int .i64 j := hk 1 (by decide)
                  have h2 : x.v 2 = .agg #[.int .i64 r, .int .i64 c, .slice (some ⟨g, 0, none⟩) L cap] := hk 2 (by decide)
                  have h3 : x.v 3 = .int .i64 a := hk 3 (by decide)
                  have h4 : x.v 4 = .slice (some ⟨g, Q, none⟩) c (cap - Q) := hk 4 (by decide)
                  have h6 : x.v 6 = .agg #[.int .i64 r, .int .i64 c, .slice (some ⟨g, 0, none⟩) L cap] := hk 6 (by decide)
                  have h7 : x.v 7 = .int .i64 a := hk 7 (by decide)
                  have h8 : x.v 8 = .slice (some ⟨g, Q, none⟩) c (cap - Q) := hk 8 (by decide)
                  have h9 : x.v 9 = .int .i64 j := hk 9 (by decide)
                  have h10 : x.v 10 = .pointer (some ⟨g, Q + j, none⟩) := hk 10 (by decide)
                  have h11 : x.v 11 = .int .i64 (F a j) := hk 11 (by decide)
                  have h12 : x.v 12 = .slice (some ⟨g, P, none⟩) c (cap - P) := hk 12 (by decide)
                  have h13 : x.v 13 = .int .i64 j := hk 13 (by decide)
                  have h14 : x.v 14 = .pointer (some ⟨g, P + j, none⟩) := hk 14 (by decide)
                  have h15 : x.v 15 = .int .i64 (F n j) := hk 15 (by decide)
                  have h16 : x.v 16 = .pointer (some ⟨g, P + j, none⟩) := hk 16 (by decide)
                  clear hk
                  simp only [List.foldl_cons, List.foldl_nil, netAct, dstAt, List.getElem?_toArray, List.getElem?_cons_zero, List.getElem?_cons_succ, Option.bind_some, Act.put, List.setIfInBounds_toArray, List.set_cons_zero, List.set_cons_succ]
                  simp only [List.drop_succ_cons, List.drop_zero, h0, h1, h2, h3, h4, h6, h7, h8, h9, h10, h11, h12, h13, h14, h15, h16]
                  clear h0 h1 h2 h3 h4 h6 h7 h8 h9 h10 h11 h12 h13 h14 h15 h16
                  have S := hSS.out.call HWB.out hb
                  have ia := (S.cellP hlr hljc HQ.out)
                  have ib := (S.cellP hnr hljc HPP.out)
                  rw [sw_rest] at ia ib
                  have S2 := S.put2 hBg (S.size HWB.out) ia.2.1 ib.2.1 HST.out
                  have S1 := S.put (J := P + j) (x := F a j) hBg (S.size HWB.out) ia.2.1 (by rw [HPP.out]; exact flat_set _ _ hnr hljc)
                  obtain ⟨q1, _, q2⟩ := S1.cellP hlr hljc HQ.out
                  obtain ⟨p1, _, p2⟩ := ib
                  have HS2 := Lib.hid S2
                  clear ia S S1 S2 hiv hdj
                  go_wp2
                  go_roundw
                  case rel => exact ⟨j + 1, by omega, by go_num, HS2.out⟩
                  case measure => simp [intOf]; omega
              · have hjc : j = c := by omega
                subst hjc
                have S := S.congr (sw_end n a r j F)
                have hin1 := inF_sw HIN.out hnr hlr
                obtain ⟨F1, hF1⟩ : ∃ F1, swA n a F = F1 := ⟨_, rfl⟩
                rw [hF1] at S hin1
                obtain ⟨x, hx⟩ : ∃ x, F1 n k = x := ⟨_, rfl⟩
                obtain ⟨z1, hxI, _⟩ := S.cellP hnr hlt HPP.out
                rw [hx] at z1 hxI
                obtain ⟨s, hs⟩ : ∃ s, invP p x = s := ⟨_, rfl⟩
                have hsr := invP_r (x := x) hpr
                rw [hs] at hsr
                have HS := Lib.hid hs
                have HX := Lib.hid hx
                have HXI := Lib.hid hxI
                have HF1 := Lib.hid hF1
                have HIN1 := Lib.hid hin1
                have hSS := Lib.hid S
                clear hs hx hxI hF1 hin1 S
                go_wp2_with fail
                refine (inverseMod_any p x _ HP.out HXI.out).mono ?_; rintro e w5 ⟨rfl, hww⟩; replace hww := hww.symm; subst hww
                rw [HS.out]
                have S := hSS.out
                rw [← sc_0 p n s F1] at S
                go_wp2
                clear z1
                go_loopw [78] (fun i wr => ∃ j' : Nat, j' ≤ j ∧ i = .int .i64 j' ∧ RS W.heap.size w2 (some ⟨g, 0, none⟩) r j L cap wr (scJ p n s j' F1) (.slice PA n pc) ps) (fun i _ => j - (intOf i).toNat)
                case atStart => exact ⟨0, Nat.zero_le _, rfl, S⟩
                case round =>
                  clear S hSS
                  obtain ⟨j', hj', rfl, S⟩ := hrel
                  by_cases hl4 : j' < j
                  · obtain ⟨b1, b2, b3⟩ := rowP hnr hl4 hr hc HPP.out
                    rw [← EL.out] at b1 b2 b3
                    obtain ⟨z1, _, z2⟩ := S.cellP hnr hl4 HPP.out
                    rw [sc_rest] at z1
                    have hi1 := HIN1.out n j' hnr hl4
                    have hst := sc_step (p := p) (s := s) F1 hnr hl4
                    obtain ⟨a4, ha4⟩ : ∃ a4, F1 n j' = a4 := ⟨_, rfl⟩
                    rw [ha4] at z1 hi1 hst
                    rw [← HPP.out] at hst
                    have k0 : 0 ≤ a4 * s := Int.mul_nonneg hi1.1 hsr.1
                    have k1 : a4 * s ≤ 4 * 4 := Int.mul_le_mul (by omega) hsr.2 hsr.1 (by omega)
                    obtain ⟨K, hK⟩ : ∃ K, a4 * s = K := ⟨_, rfl⟩
                    rw [hK] at k0 k1 hst
                    have hKw : wrap64 (a4 * s) = K := by rw [hK]; exact IntWalk.wrap64_in _ ⟨by omega, by omega⟩
                    have ht : K.tmod p = K % p := Int.tmod_eq_emod_of_nonneg k0
                    have hr1 := emod_rng (x := K) hpr.1
                    have S2 := S.put (J := P + j') (x := K % p) hBg (S.size HWB.out) (by unfold I64; omega) hst
                    have HS2 := Lib.hid S2
                    clear ha4 hK hst S2 S k0 k1 hr1 hi1
                    go_wp2
                    go_roundw
                    case rel => exact ⟨j' + 1, by omega, by go_num, HS2.out⟩
                    case measure => simp [intOf]; omega
                  · have hje : j' = j := by omega
                    subst hje
                    have S := S.congr (sc_end p n r j' s F1)
                    have hin2 := inF_sc (s := s) (n := n) hpr.1 HIN1.out
                    obtain ⟨F2, hF2⟩ : ∃ F2, scA p n s F1 = F2 := ⟨_, rfl⟩
                    rw [hF2] at S hin2
                    have hfin : Hid (rdF p r F n k = elA p n k F2) := by
                      show _ = _
                      rw [rdF, HZA.out, HF1.out, HX.out, HS.out, hF2]
                    have HIN2 := Lib.hid hin2
                    clear hF2 hin2
                    rw [← el_0 p n k F2] at S
                    have kb := KB.out.below (S).bel HB0.out
                    have c0 := kb.cell' (i := 0) rfl
                    have c1 := kb.cell' (i := 1) rfl
                    have c2 := kb.cell' (i := 2) rfl
                    go_wp2
                    clear kb c0 c1 c2
                    go_loopw [95] (fun i wr => ∃ i' : Nat, i' ≤ r ∧ i = .int .i64 i' ∧ RS W.heap.size w2 (some ⟨g, 0, none⟩) r j' L cap wr (elI p n k i' F2) (.slice PA n pc) ps) (fun i _ => r - (intOf i).toNat)
                    case atStart => exact ⟨0, Nat.zero_le _, rfl, S⟩
                    case round =>
                      clear S
                      obtain ⟨i, hi, rfl, S⟩ := hrel
                      by_cases hl5 : i < r
                      · by_cases hin : i = n
                        · subst hin
                          rw [el_skip] at S
                          go_wp2
                          go_roundw
                          case rel => exact ⟨i + 1, by omega, by go_num, S⟩
                          case measure => simp [intOf]; omega
                        · have hne : ((i : Int) != n) = true := by rw [bne_iff_ne]; omega
                          have hine : ¬ ((i : Int) = n) := by omega
                          obtain ⟨R, hR⟩ : ∃ R, R = i * j' := ⟨_, rfl⟩
                          obtain ⟨a1, a2, a3⟩ := rowP hl5 hlt hr hc hR
                          have hap := rows_apart hin hR HPP.out
                          have HR := Lib.hid hR
                          rw [← EL.out] at a1 a2 a3
                          have hSS := Lib.hid S
                          have hr5 := HIN2.out i k hl5 hlt
                          obtain ⟨q, hq⟩ : ∃ q, F2 i k = q := ⟨_, rfl⟩
                          rw [hq] at hr5
                          have HQQ := Lib.hid hq
                          have hamel := am_el (p := p) (n := n) (k := k) (i := i) (r := r) (c := j') F2 hnr hin
                          rw [hq, ← EL.out, ← HR.out, ← HPP.out] at hamel
                          have HAM := Lib.hid hamel
                          have HNE := Lib.hid hin
                          clear hR hq hamel hin S
                          go_wp2
                          refine wp_region_net (by kernel_rfl) [.eq (.int .i64 p), .eq (.agg #[.int .i64 r, .int .i64 j', .slice (some ⟨g, 0, none⟩) L cap]), .eq (.int .i64 i), .eq (.slice (some ⟨g, R, none⟩) j' (cap - R)), .eq (.int .i64 p), .eq (.agg #[.int .i64 r, .int .i64 j', .slice (some ⟨g, 0, none⟩) L cap]), .eq (.int .i64 i), .eq (.slice (some ⟨g, R, none⟩) j' (cap - R)), .eq (.int .i64 k), .eq (.pointer (some ⟨g, R + k, none⟩)), .eq (.int .i64 q), .eq (.int .i64 (p - q)), .eq (.slice (some ⟨g, P, none⟩) j' (cap - P))] [[], [], [], [1, 2], [], [], [], [1, 2, 3, 5, 6], [], [1, 2, 3, 5, 6, 7, 8], [1, 2, 3, 5, 6, 7, 8, 9], [1, 2, 3, 4, 5, 6, 7, 8, 9, 10], [], [0, 1, 2, 3, 4, 5, 6, 7, 8, 9, 10, 11, 12]] 13 (by kernel_rfl) ⟨trivial, trivial, trivial, trivial, trivial, trivial, trivial, trivial, trivial, trivial, trivial, trivial, trivial, trivial⟩ ⟨?_, ?_, ?_, ?_, ?_, ?_, ?_, ?_, ?_, ?_, ?_, ?_, ?_, trivial⟩ ?_
                          · intro x w hb hk Q' hQ
                            clear hk
                            simp only [netAct, dstAt, List.getElem?_toArray, List.getElem?_cons_zero, List.getElem?_cons_succ, Option.bind_some, Act.put, List.setIfInBounds_toArray, List.set_cons_zero, List.set_cons_succ] at hQ ⊢
                            go_wp2
                            exact hQ (.int .i64 p) _ (Below.refl _ _) rfl
                          · intro x w hb hk Q' hQ
                            clear hk
                            simp only [netAct, dstAt, List.getElem?_toArray, List.getElem?_cons_zero, List.getElem?_cons_succ, Option.bind_some, Act.put, List.setIfInBounds_toArray, List.set_cons_zero, List.set_cons_succ] at hQ ⊢
                            have S := hSS.out.call HWB.out hb
                            have kb := KB.out.below (S).bel HB0.out
                            have c0 := kb.cell' (i := 0) rfl
                            have c1 := kb.cell' (i := 1) rfl
                            have c2 := kb.cell' (i := 2) rfl
                            go_wp2
                            exact hQ (.agg #[.int .i64 r, .int .i64 j', .slice (some ⟨g, 0, none⟩) L cap]) _ (Below.refl _ _) rfl
                          · intro x w hb hk Q' hQ
                            clear hk
                            simp only [netAct, dstAt, List.getElem?_toArray, List.getElem?_cons_zero, List.getElem?_cons_succ, Option.bind_some, Act.put, List.setIfInBounds_toArray, List.set_cons_zero, List.set_cons_succ] at hQ ⊢
                            go_wp2
                            exact hQ (.int .i64 i) _ (Below.refl _ _) rfl
                          · intro x w hb hk Q' hQ
                            have h1 : x.v 1 = .agg #[.int .i64 r, .int .i64 j', .slice (some ⟨g, 0, none⟩) L cap] := (hk 1 (by decide)).1
                            have h2 : x.v 2 = .int .i64 i := (hk 2 (by decide)).1
                            clear hk
                            simp only [netAct, dstAt, List.getElem?_toArray, List.getElem?_cons_zero, List.getElem?_cons_succ, Option.bind_some, Act.put, List.setIfInBounds_toArray, List.set_cons_zero, List.set_cons_succ] at hQ ⊢
                            simp only [h1, h2] at hQ ⊢
                            clear h1 h2
                            go_wp2_with fail
                            refine (row_in _ hl5 (by omega) hr hc EL.out hLc hcb HR.out).mono ?_; rintro e w5 ⟨rfl, hb5⟩
                            go_wp2
                            exact hQ _ _ hb5 rfl
                          · intro x w hb hk Q' hQ
                            clear hk
                            simp only [netAct, dstAt, List.getElem?_toArray, List.getElem?_cons_zero, List.getElem?_cons_succ, Option.bind_some, Act.put, List.setIfInBounds_toArray, List.set_cons_zero, List.set_cons_succ] at hQ ⊢
                            go_wp2
                            exact hQ (.int .i64 p) _ (Below.refl _ _) rfl
                          · intro x w hb hk Q' hQ
                            clear hk
                            simp only [netAct, dstAt, List.getElem?_toArray, List.getElem?_cons_zero, List.getElem?_cons_succ, Option.bind_some, Act.put, List.setIfInBounds_toArray, List.set_cons_zero, List.set_cons_succ] at hQ ⊢
                            have S := hSS.out.call HWB.out hb
                            have kb := KB.out.below (S).bel HB0.out
                            have c0 := kb.cell' (i := 0) rfl
                            have c1 := kb.cell' (i := 1) rfl
                            have c2 := kb.cell' (i := 2) rfl
                            go_wp2
                            exact hQ (.agg #[.int .i64 r, .int .i64 j', .slice (some ⟨g, 0, none⟩) L cap]) _ (Below.refl _ _) rfl
                          · intro x w hb hk Q' hQ
                            clear hk
                            simp only [netAct, dstAt, List.getElem?_toArray, List.getElem?_cons_zero, List.getElem?_cons_succ, Option.bind_some, Act.put, List.setIfInBounds_toArray, List.set_cons_zero, List.set_cons_succ] at hQ ⊢
                            go_wp2
                            exact hQ (.int .i64 i) _ (Below.refl _ _) rfl
                          · intro x w hb hk Q' hQ
                            have h5 : x.v 5 = .agg #[.int .i64 r, .int .i64 j', .slice (some ⟨g, 0, none⟩) L cap] := (hk 5 (by decide)).1
                            have h6 : x.v 6 = .int .i64 i := (hk 6 (by decide)).1
                            clear hk
                            simp only [netAct, dstAt, List.getElem?_toArray, List.getElem?_cons_zero, List.getElem?_cons_succ, Option.bind_some, Act.put, List.setIfInBounds_toArray, List.set_cons_zero, List.set_cons_succ] at hQ ⊢
                            simp only [h5, h6] at hQ ⊢
                            clear h5 h6
                            go_wp2_with fail
                            refine (row_in _ hl5 (by omega) hr hc EL.out hLc hcb HR.out).mono ?_; rintro e w5 ⟨rfl, hb5⟩
                            go_wp2
                            exact hQ _ _ hb5 rfl
                          · intro x w hb hk Q' hQ
                            clear hk
                            simp only [netAct, dstAt, List.getElem?_toArray, List.getElem?_cons_zero, List.getElem?_cons_succ, Option.bind_some, Act.put, List.setIfInBounds_toArray, List.set_cons_zero, List.set_cons_succ] at hQ ⊢
                            go_wp2
                            exact hQ (.int .i64 k) _ (Below.refl _ _) rfl
                          · intro x w hb hk Q' hQ
                            have h7 : x.v 7 = .slice (some ⟨g, R, none⟩) j' (cap - R) := (hk 7 (by decide)).1
                            have h8 : x.v 8 = .int .i64 k := (hk 8 (by decide)).1
                            clear hk
                            simp only [netAct, dstAt, List.getElem?_toArray, List.getElem?_cons_zero, List.getElem?_cons_succ, Option.bind_some, Act.put, List.setIfInBounds_toArray, List.set_cons_zero, List.set_cons_succ] at hQ ⊢
                            simp only [h7, h8] at hQ ⊢
                            clear h7 h8
                            go_wp2
                            exact hQ (.pointer (some ⟨g, R + k, none⟩)) _ (Below.refl _ _) rfl
                          · intro x w hb hk Q' hQ
                            have h9 : x.v 9 = .pointer (some ⟨g, R + k, none⟩) := (hk 9 (by decide)).1
                            clear hk
                            simp only [netAct, dstAt, List.getElem?_toArray, List.getElem?_cons_zero, List.getElem?_cons_succ, Option.bind_some, Act.put, List.setIfInBounds_toArray, List.set_cons_zero, List.set_cons_succ] at hQ ⊢
                            simp only [h9] at hQ ⊢
                            clear h9
                            have S := hSS.out.call HWB.out hb
                            have z := (S.cellP hl5 hlt HR.out).1
                            rw [el_rest, HQQ.out] at z
                            go_wp2
                            exact hQ (.int .i64 q) _ (Below.refl _ _) rfl
                          · intro x w hb hk Q' hQ
                            have h4 : x.v 4 = .int .i64 p := (hk 4 (by decide)).1
                            have h10 : x.v 10 = .int .i64 q := (hk 10 (by decide)).1
                            clear hk
                            simp only [netAct, dstAt, List.getElem?_toArray, List.getElem?_cons_zero, List.getElem?_cons_succ, Option.bind_some, Act.put, List.setIfInBounds_toArray, List.set_cons_zero, List.set_cons_succ] at hQ ⊢
                            simp only [h4, h10] at hQ ⊢
                            clear h4 h10
                            go_wp2
                            exact hQ (.int .i64 (p - q)) _ (Below.refl _ _) rfl
                          · intro x w hb hk Q' hQ
                            clear hk
                            simp only [netAct, dstAt, List.getElem?_toArray, List.getElem?_cons_zero, List.getElem?_cons_succ, Option.bind_some, Act.put, List.setIfInBounds_toArray, List.set_cons_zero, List.set_cons_succ] at hQ ⊢
                            go_wp2
                            exact hQ (.slice (some ⟨g, P, none⟩) j' (cap - P)) _ (Below.refl _ _) rfl
                          · intro x w hb hk hiv hdj
                            have h0 : x.v 0 = .int .i64 p := hk 0 (by decide)
                            have h1 : x.v 1 = .agg #[.int .i64 r, .int .i64 j', .slice (some ⟨g, 0, none⟩) L cap] := hk 1 (by decide)
                            have h2 : x.v 2 = .int .i64 i := hk 2 (by decide)
                            have h3 : x.v 3 = .slice (some ⟨g, R, none⟩) j' (cap - R) := hk 3 (by decide)
                            have h4 : x.v 4 = .int .i64 p := hk 4 (by decide)
                            have h5 : x.v 5 = .agg #[.int .i64 r, .int .i64 j', .slice (some ⟨g, 0, none⟩) L cap] := hk 5 (by decide)
                            have h6 : x.v 6 = .int .i64 i := hk 6 (by decide)
                            have h7 : x.v 7 = .slice (some ⟨g, R, none⟩) j' (cap - R) := hk 7 (by decide)
                            have h8 : x.v 8 = .int .i64 k := hk 8 (by decide)
                            have h9 : x.v 9 = .pointer (some ⟨g, R + k, none⟩) := hk 9 (by decide)
                            have h10 : x.v 10 = .int .i64 q := hk 10 (by decide)
                            have h11 : x.v 11 = .int .i64 (p - q) := hk 11 (by decide)
                            have h12 : x.v 12 = .slice (some ⟨g, P, none⟩) j' (cap - P) := hk 12 (by decide)
                            clear hk
                            simp only [netAct, dstAt, List.getElem?_toArray, List.getElem?_cons_zero, List.getElem?_cons_succ, Option.bind_some, Act.put, List.setIfInBounds_toArray, List.set_cons_zero, List.set_cons_succ]
                            simp only [List.drop_succ_cons, List.drop_zero, h0, h1, h2, h3, h4, h5, h6, h7, h8, h9, h10, h11, h12]
                            clear h0 h1 h2 h3 h4 h5 h6 h7 h8 h9 h10 h11 h12
                            have S := hSS.out.call HWB.out hb
                            have hown := S.own
                            rw [rowF_flat, ← EL.out] at hown
                            have hfr : ∀ z, z < L → 0 ≤ (fun j => elI p n k i F2 (j / j') (j % j')) z ∧ (fun j => elI p n k i F2 (j / j') (j % j')) z ≤ 4 := by
                              intro z hz
                              rw [EL.out] at hz
                              obtain ⟨a, b, ha, hb', rfl⟩ := ix_of hz
                              simp only [ix_div hb', ix_mod hb']
                              have := inF_elI (n := n) (k := k) (i := i) hpr.1 HIN2.out a b ha hb'
                              omega
                            have HOW := Lib.hid hown
                            have HFR := Lib.hid hfr
                            have HS6 := Lib.hid S
                            clear hown hfr S hiv hdj
                            go_wp2_with fail
                            refine (addMultiple_in p (p - q) g R P j' L cap (cap - R) (cap - P) W.heap.size (fun j => elI p n k i F2 (j / j') (j % j')) _ hpr (by omega) HOW.out a2 hrp.2.1 hap (by omega) (by omega) (by omega) HFR.out).mono ?_; rintro e w6 ⟨rfl, ho6, hg6⟩
                            rw [HAM.out] at ho6
                            have S7 := HS6.out.turn hBg (HS6.out.size HWB.out) ho6 hg6
                            clear ho6 hg6
                            go_wp2
                            go_roundw
                            case rel => exact ⟨i + 1, by omega, by go_num, S7⟩
                            case measure => simp [intOf]; omega
                      · have hir : i = r := by omega
                        subst hir
                        have S := S.congr (el_end p n k i j' F2)
                        rw [← hfin.out] at S
                        have hS8 := S.call HWB.out (below_alloc wr (.cells #[.int .i64 k] 3))
                        have hsz8 := hS8.size HWB.out
                        have HS8 := Lib.hid hS8
                        clear S hS8
                        (go_wp2_with (at_builtin; refine Hold.stop ?_)); unfold Hold
                        refine wpList_appI rfl (.tmp 117) (.tmp 119) rfl W.heap.size _ (.slice PA n pc) ps rfl HS8.out.ownP.1 _ _ _ [(k : Int)] rfl rfl (SlI.one wr _ k ⟨by omega, by omega⟩) (by rw [HN.out]; simp; omega) hsz8 ?_
                        intro v9 w9 ho9 hg9 hv9
                        have S9 := HS8.out.app hsz8 ho9 hg9 hv9
                        clear ho9 hg9 hv9
                        go_wp2
                        go_roundw
                        case rel => exact ⟨k + 1, by omega, by go_num, by rw [HRS2.out]; exact S9⟩
                        case measure => simp [intOf]; omega
        · have hae : a = r := by omega
          have HRS2 := Lib.hid (HRS.out.trans (if_neg (by rw [nzF_eq (f := F) (k := k) hna har hz.out (fun h => absurd h hlr)]; exact hlr)))
          subst hae
          clear hz
          go_wp2
          go_roundw
          case rel => exact ⟨k + 1, by omega, by go_num, by rw [HRS2.out]; exact S⟩
          case measure => simp [intOf]; omega
    · have hkc : k = c := by omega
      have HKC := Lib.hid hkc
      have sz := SZ.out
      have sB := S.size HWB.out
      have k4 := KB.out.below S.bel HB0.out
      have k3' := KR.out.below S.bel (by omega)
      have z0 := k4.cell' (i := 0) rfl
      have z1 := k4.cell' (i := 1) rfl
      have z2 := k4.cell' (i := 2) rfl
      have p0 := k3'.cell' (i := 0) rfl
      have p1 := k3'.cell' (i := 1) rfl
      have p2 := k3'.cell' (i := 2) rfl
      have f2 := k3'.frozen
      have h2 := chg3 wr (w0.heap.size + 1) (.int .i64 (r : Int)) (.int .i64 c) (.slice A L cap)
      have gw : Below w0.heap.size w0 wr := (G2.out).trans (S.bel.mono (by omega))
      have gs := gw.size
      have hfl := HL.out
      have oA : IntsO wr W.heap.size wr.heap.size (.slice A L cap) (flat r c F) := S.fam.1 (_, flat r c F) (by simp)
      have oA2 := (oA.chg h2 (.inr (by omega))).wider (lo' := w0.heap.size) (hi' := wr.heap.size) (by omega) (Nat.le_refl _)
      have oP2 := (S.ownP.chg h2 (.inr (by omega))).wider (lo' := w0.heap.size) (hi' := wr.heap.size) (by omega) (Nat.le_refl _)
      have fg := gw.trans (h2.below (by omega) gs)
      have OA2 := Lib.hid oA2
      have OP2 := Lib.hid oP2
      have FG := Lib.hid fg
      clear oA oA2 oP2 fg gw h2 k3' k4 S hkc hfl
      go_wp2
      refine bodyPost_ret (v := .tuple #[.agg #[.int .i64 (r : Int), .int .i64 c, .slice A L cap], .slice PA n pc]) (by simp [results, go_sem, p0, p1, p2]) rfl ⟨_, _, rfl, ?_, ?_, FG.out⟩
      · refine ⟨_, rfl, ?_, by simp only [I64]; omega, by simp only [I64]; omega⟩
        have e : flat r c (rdTo p r f c).1 = flat r c F := by rw [← HFF.out, HKC.out]
        rw [e]
        exact (OA2.out).wider (Nat.le_refl _) (by simp)
      · have e : (rdTo p r f c).2 = ps := by rw [← HPS.out, HKC.out]
        rw [e]
        exact (OP2.out).wider (Nat.le_refl _) (by simp)
end Go.Proofs.Ytcmlflppndfdcaa

/- Ranks: the program's rank. -/
namespace Go.Proofs.Ytcmlflppndfdcaa
set_option linter.unusedVariables false
set_option linter.unusedSimpArgs false
open Go.RowKit

def rkF (p : Int) (r c : Nat) (f : Nat → Nat → Int) : Nat := (rdTo p r f c).2.length
theorem rkF_le (p : Int) (r c : Nat) (f : Nat → Nat → Int) : rkF p r c f ≤ r ∧ rkF p r c f ≤ c := rdTo_len p r f c
end Go.Proofs.Ytcmlflppndfdcaa

/- Ranks by counting: the kernel of a matrix has as many vectors as its reduced form says; the inequality of Frobenius. Plain. -/
namespace Go.Proofs.Ytcmlflppndfdcaa
set_option linter.unusedVariables false
set_option linter.unusedSimpArgs false
open Go.RowKit

/-! ### sums -/
theorem sg_add (a b : Nat → Int) : ∀ n, sgF (fun t => a t + b t) n = sgF a n + sgF b n
  | 0 => rfl
  | n + 1 => by simp only [sgF]; rw [sg_add a b n]; omega
theorem sg_mul (s : Int) (a : Nat → Int) : ∀ n, sgF (fun t => s * a t) n = s * sgF a n
  | 0 => by simp [sgF]
  | n + 1 => by simp only [sgF]; rw [sg_mul s a n, Int.mul_add]
theorem sg_congr {a b : Nat → Int} : ∀ {n}, (∀ t, t < n → a t = b t) → sgF a n = sgF b n
  | 0, _ => rfl
  | n + 1, h => by simp only [sgF]; rw [sg_congr fun t ht => h t (by omega), h n (by omega)]
theorem sg_0 : ∀ n, sgF (fun _ => 0) n = 0
  | 0 => rfl
  | n + 1 => by simp only [sgF]; rw [sg_0 n]; rfl
theorem sg_dvd {p : Int} {a : Nat → Int} : ∀ {n}, (∀ t, t < n → p ∣ a t) → p ∣ sgF a n
  | 0, _ => ⟨0, by simp [sgF]⟩
  | n + 1, h => Int.dvd_add (sg_dvd fun t ht => h t (by omega)) (h n (by omega))
theorem sg_sub (a b : Nat → Int) : ∀ n, sgF (fun t => a t - b t) n = sgF a n - sgF b n
  | 0 => rfl
  | n + 1 => by simp only [sgF]; rw [sg_sub a b n]; omega
theorem sg_swap (h : Nat → Nat → Int) (m : Nat) : ∀ n, sgF (fun s => sgF (fun t => h s t) m) n = sgF (fun t => sgF (fun s => h s t) n) m
  | 0 => by simp only [sgF]; rw [sg_0]
  | n + 1 => by
    simp only [sgF]
    rw [sg_swap h m n, ← sg_add]
theorem sg_one {h : Nat → Int} {b0 : Nat} : ∀ {n}, b0 < n → sgF (fun b => if b = b0 then h b else 0) n = h b0
  | n + 1, hb => by
    simp only [sgF]
    by_cases e : n = b0
    · rw [if_pos e, sg_congr (b := fun _ => 0) fun t ht => if_neg (by omega), sg_0, e]; omega
    · rw [if_neg e, sg_one (by omega)]; omega
theorem emod_cg (p a : Int) : p ∣ a % p - a := ⟨-(a / p), by rw [Int.emod_def, Int.mul_neg]; omega⟩
theorem cg_dvd {p a b : Int} (h : p ∣ a - b) : p ∣ a ↔ p ∣ b := by
  constructor
  · intro k
    have := Int.dvd_sub k h
    rwa [show a - (a - b) = b by omega] at this
  · intro k
    have := Int.dvd_add h k
    rwa [show a - b + b = a by omega] at this
theorem cg_mulL {p a b : Int} (x : Int) (h : p ∣ a - b) : p ∣ a * x - b * x := by
  rw [← Int.sub_mul]; exact Int.dvd_mul_of_dvd_left h
theorem cg_mulR {p a b : Int} (x : Int) (h : p ∣ a - b) : p ∣ x * a - x * b := by
  rw [← Int.mul_sub]; exact Int.dvd_mul_of_dvd_right h
theorem sg_cg {p : Int} {a b : Nat → Int} {n : Nat} (h : ∀ t, t < n → p ∣ a t - b t) : p ∣ sgF a n - sgF b n := by
  rw [← sg_sub]; exact sg_dvd h

/-! ### the kernel and the steps of elimination -/
def Ker (p : Int) (r : Nat) (f : Nat → Nat → Int) (k : Nat) (x : Nat → Int) : Prop := ∀ i, i < r → p ∣ sgF (fun t => f i t * x t) k
theorem ker_congr {p : Int} {r k : Nat} {f : Nat → Nat → Int} {x y : Nat → Int} (h : ∀ t, t < k → p ∣ x t - y t) : Ker p r f k x ↔ Ker p r f k y :=
  ⟨fun hx i hi => (cg_dvd (sg_cg fun t ht => cg_mulR (f i t) (h t ht))).1 (hx i hi), fun hx i hi => (cg_dvd (sg_cg fun t ht => cg_mulR (f i t) (h t ht))).2 (hx i hi)⟩
theorem ker_sw {p : Int} {r n t k : Nat} {f : Nat → Nat → Int} {x : Nat → Int} (hn : n < r) (ht : t < r) : Ker p r (swA n t f) k x ↔ Ker p r f k x := by
  constructor
  · intro h i hi
    by_cases e : i = t
    · subst e
      have := h n hn
      simpa only [swA, if_true] using this
    · by_cases e2 : i = n
      · subst e2
        have := h t ht
        simp only [swA] at this
        by_cases e3 : t = i
        · exact absurd e3.symm e
        · simpa only [if_neg e3, if_true] using this
      · have := h i hi
        simpa only [swA, if_neg e, if_neg e2] using this
  · intro h i hi
    simp only [swA]
    by_cases e : i = n
    · simp only [if_pos e]; exact h t ht
    · by_cases e2 : i = t
      · simp only [if_neg e, if_pos e2]; exact h n hn
      · simp only [if_neg e, if_neg e2]; exact h i hi
theorem ker_sc {p s y : Int} {r n k : Nat} {f : Nat → Nat → Int} {x : Nat → Int} (hs : p ∣ s * y - 1) : Ker p r (scA p n s f) k x ↔ Ker p r f k x := by
  have key : ∀ i, (p ∣ sgF (fun t => scA p n s f i t * x t) k) ↔ p ∣ sgF (fun t => f i t * x t) k := by
    intro i
    by_cases e : i = n
    · have h1 : p ∣ sgF (fun t => scA p n s f i t * x t) k - s * sgF (fun t => f i t * x t) k := by
        rw [← sg_mul]
        refine sg_cg fun t _ => ?_
        simp only [scA, if_pos e]
        rw [← Int.mul_assoc, Int.mul_comm s]
        exact cg_mulL _ (emod_cg _ _)
      rw [cg_dvd h1]
      constructor
      · intro h
        obtain ⟨c, hc⟩ := h
        obtain ⟨d, hd⟩ := hs
        refine ⟨c * y - d * sgF (fun t => f i t * x t) k, ?_⟩
        rw [Int.mul_sub, ← Int.mul_assoc, ← hc, ← Int.mul_assoc, ← hd, Int.sub_mul, Int.one_mul]
        rw [show s * sgF (fun t => f i t * x t) k * y = s * y * sgF (fun t => f i t * x t) k by rw [Int.mul_right_comm]]
        omega
      · exact fun h => Int.dvd_mul_of_dvd_right h
    · simp only [scA, if_neg e]
  exact ⟨fun h i hi => (key i).1 (h i hi), fun h i hi => (key i).2 (h i hi)⟩
theorem ker_el {p : Int} {r n k m : Nat} {f : Nat → Nat → Int} {x : Nat → Int} (hn : n < r) : Ker p r (elA p n k f) m x ↔ Ker p r f m x := by
  have key : ∀ i, i ≠ n → p ∣ sgF (fun t => elA p n k f i t * x t) m - (sgF (fun t => f i t * x t) m + (p - f i k) * sgF (fun t => f n t * x t) m) := by
    intro i hi
    rw [← sg_mul, ← sg_add]
    refine sg_cg fun t _ => ?_
    simp only [elA, if_pos hi]
    rw [← Int.mul_assoc, ← Int.add_mul]
    exact cg_mulL _ (emod_cg _ _)
  constructor
  · intro h i hi
    have hn' := h n hn
    simp only [elA, ne_eq, not_true_eq_false, if_false] at hn'
    by_cases e : i = n
    · rw [e]; exact hn'
    · have h1 := (cg_dvd (key i e)).1 (h i hi)
      have := Int.dvd_sub h1 (Int.dvd_mul_of_dvd_right (b := p - f i k) hn')
      rwa [Int.add_sub_cancel] at this
  · intro h i hi
    by_cases e : i = n
    · subst e
      simp only [elA, ne_eq, not_true_eq_false, if_false]
      exact h i hi
    · exact (cg_dvd (key i e)).2 (Int.dvd_add (h i hi) (Int.dvd_mul_of_dvd_right (h n hn)))
theorem inv_cg {p x : Int} (hp : isFld p = true) (h1 : 1 ≤ x) (h2 : x ≤ p - 1) : p ∣ invP p x * x - 1 := by
  obtain ⟨_, _, h, _⟩ := invP_ok hp h1 h2
  rw [Int.mul_comm]
  have := emod_cg p (x * invP p x)
  rw [h] at this
  have := Int.dvd_neg.2 this
  rwa [Int.neg_sub] at this
theorem ker_to {p : Int} {r c : Nat} {f : Nat → Nat → Int} (hp : isFld p = true) (hp2 : 2 ≤ p) (hf : InF p r c f) : ∀ k, k ≤ c → ∀ m x, Ker p r (rdTo p r f k).1 m x ↔ Ker p r f m x
  | 0, _, _, _ => Iff.rfl
  | k + 1, hk, m, x => by
    have ih := ker_to hp hp2 hf k (by omega) m x
    have hg := inF_to hp2 hf k
    have hl := (rdTo_len p r f k).1
    simp only [rdTo]
    split
    · rename_i h1
      have hn := nzF_le (f := (rdTo p r f k).1) (k := k) hl
      have hne := nzF_ne hl h1
      have hr := hg _ k h1 (by omega)
      rw [← ih, rdF, ker_el (by omega), ker_sc (y := swA (rdTo p r f k).2.length (nzF (rdTo p r f k).1 k (rdTo p r f k).2.length r) (rdTo p r f k).1 (rdTo p r f k).2.length k), ker_sw (by omega) h1]
      simp only [swA, if_true]
      exact inv_cg hp (by omega) hr.2
    · exact ih

/-! ### the reduced form -/
structure Rd (r : Nat) (g : Nat → Nat → Int) (ps : List Int) (k : Nat) : Prop where
  pos : ∀ j, j < ps.length → ∃ b : Nat, ps[j]? = some (b : Int) ∧ b < k ∧ ∀ i, i < r → g i b = if i = j then 1 else 0
  low : ∀ i b, ps.length ≤ i → i < r → b < k → g i b = 0
theorem nzF_0 {f : Nat → Nat → Int} {k n r : Nat} (h : ¬ nzF f k n r < r) {i : Nat} (h1 : n ≤ i) (h2 : i < r) : f i k = 0 := by
  apply Classical.byContradiction
  intro hne
  apply h
  have key : ∀ m a, a ≤ i → i < a + m → nzGo f k a m < a + m := by
    intro m
    induction m with
    | zero => intro a h3 h4; omega
    | succ m ih =>
      intro a h3 h4
      simp only [nzGo]
      split
      · rename_i h5
        have : a ≠ i := by rintro rfl; exact hne h5
        have := ih (a + 1) (by omega) (by omega)
        omega
      · omega
  have := key (r - n) n h1 (by omega)
  unfold nzF
  omega
theorem rd_step {p : Int} {r c k t : Nat} {g : Nat → Nat → Int} {ps : List Int} (hp : isFld p = true) (hp2 : 2 ≤ p) (hg : InF p r c g) (hk : k < c) (ih : Rd r g ps k) (hn : ps.length ≤ t) (ht : t < r) (hne : g t k ≠ 0) :
    Rd r (elA p ps.length k (scA p ps.length (invP p (swA ps.length t g ps.length k)) (swA ps.length t g))) (ps ++ [(k : Int)]) (k + 1) := by
  obtain ⟨hpos, hlow⟩ := ih
  have hr := hg t k ht hk
  have h01 : (0 : Int) % p = 0 := Int.zero_emod p
  have h11 : (1 : Int) % p = 1 := Int.emod_eq_of_lt (by omega) (by omega)
  generalize hN : ps.length = n at *
  have hs : swA n t g n k = g t k := by simp [swA]
  rw [hs]
  obtain ⟨_, _, hi1, _⟩ := invP_ok hp (show 1 ≤ g t k by omega) hr.2
  generalize hS : invP p (g t k) = s at *
  have e_nk : scA p n s (swA n t g) n k = 1 := by simp only [scA, if_true, swA]; exact hi1
  have sw_lo : ∀ i b, n ≤ i → i < r → b < k → swA n t g i b = 0 := by
    intro i b h2 h3 h4
    simp only [swA]
    split
    · exact hlow t b hn ht h4
    · split
      · exact hlow _ b (Nat.le_refl _) (by omega) h4
      · exact hlow i b h2 h3 h4
  have sc_lo : ∀ i b, n ≤ i → i < r → b < k → scA p n s (swA n t g) i b = 0 := by
    intro i b h2 h3 h4
    simp only [scA]
    split
    · rw [sw_lo i b h2 h3 h4, Int.zero_mul, h01]
    · exact sw_lo i b h2 h3 h4
  constructor
  · intro j hj
    rw [List.length_append, List.length_singleton, hN] at hj
    by_cases e : j < n
    · obtain ⟨b, h5, h6, h7⟩ := hpos j e
      refine ⟨b, by rw [List.getElem?_append_left (by omega)]; exact h5, by omega, fun i hi => ?_⟩
      have hnb : scA p n s (swA n t g) n b = 0 := sc_lo n b (Nat.le_refl _) (by omega) h6
      simp only [elA]
      by_cases hin : i = n
      · rw [if_neg (by simpa using hin), hin, hnb, if_neg (by omega)]
      · rw [if_pos hin, hnb, Int.mul_zero, Int.add_zero]
        rcases Nat.lt_or_ge i n with hlt | hge
        · have : scA p n s (swA n t g) i b = g i b := by simp only [scA, if_neg hin, swA]; rw [if_neg (by omega)]
          rw [this, h7 i hi]
          split
          · exact h11
          · exact h01
        · rw [sc_lo i b hge hi h6, h01, if_neg (by omega)]
    · obtain rfl : j = n := by omega
      refine ⟨k, by rw [List.getElem?_append_right (by omega), hN]; simp, by omega, fun i hi => ?_⟩
      simp only [elA]
      by_cases hin : i = j
      · rw [if_neg (by simpa using hin), hin, e_nk, if_pos rfl]
      · rw [if_pos hin, e_nk, if_neg hin, Int.mul_one]
        rw [show scA p j s (swA j t g) i k + (p - scA p j s (swA j t g) i k) = p by omega, Int.emod_self]
  · intro i b h2 h3 h4
    rw [List.length_append, List.length_singleton, hN] at h2
    simp only [elA]
    rw [if_pos (by omega)]
    rcases Nat.lt_or_ge b k with hlt | hge
    · rw [sc_lo i b (by omega) h3 hlt, sc_lo n b (Nat.le_refl _) (by omega) hlt, Int.mul_zero, Int.add_zero, h01]
    · obtain rfl : b = k := by omega
      rw [e_nk, Int.mul_one, show scA p n s (swA n t g) i b + (p - scA p n s (swA n t g) i b) = p by omega, Int.emod_self]
theorem rd_to {p : Int} {r c : Nat} {f : Nat → Nat → Int} (hp : isFld p = true) (hp2 : 2 ≤ p) (hf : InF p r c f) : ∀ k, k ≤ c → Rd r (rdTo p r f k).1 (rdTo p r f k).2 k
  | 0, _ => ⟨fun j hj => absurd hj (by simp [rdTo]), fun i b _ _ hb => absurd hb (by omega)⟩
  | k + 1, hk => by
    have ih := rd_to hp hp2 hf k (by omega)
    have hg := inF_to hp2 hf k
    have hl := (rdTo_len p r f k).1
    simp only [rdTo]
    split
    · rename_i h1
      have hn := nzF_le (f := (rdTo p r f k).1) (k := k) hl
      have hne := nzF_ne hl h1
      exact rd_step hp hp2 hg (by omega) ih hn.1 h1 hne
    · rename_i h1
      refine ⟨fun j hj => ?_, fun i b h2 h3 h4 => ?_⟩
      · obtain ⟨b, h5, h6, h7⟩ := ih.pos j hj
        exact ⟨b, h5, by omega, h7⟩
      · rcases Nat.lt_or_ge b k with h | h
        · exact ih.low i b h2 h3 h
        · obtain rfl : b = k := by omega
          exact nzF_0 h1 h2 h3
/-! ### counting -/
theorem len_le_sub {α : Type} : ∀ {l m : List α}, l.Nodup → (∀ x ∈ l, x ∈ m) → l.length ≤ m.length
  | [], _, _, _ => Nat.zero_le _
  | a :: l, m, hn, hs => by
    obtain ⟨s, t, rfl⟩ := List.append_of_mem (hs a (by simp))
    rw [List.nodup_cons] at hn
    have := len_le_sub (l := l) (m := s ++ t) hn.2 (fun x hx => by
      have h1 := hs x (by simp [hx])
      have h2 : x ≠ a := fun e => hn.1 (e ▸ hx)
      simp only [List.mem_append, List.mem_cons] at h1 ⊢
      rcases h1 with h1 | h1 | h1
      · exact .inl h1
      · exact absurd h1 h2
      · exact .inr h1)
    simp only [List.length_cons, List.length_append] at this ⊢
    omega
theorem nodup_map {α β : Type} {φ : α → β} : ∀ {l : List α}, l.Nodup → (∀ x ∈ l, ∀ y ∈ l, φ x = φ y → x = y) → (l.map φ).Nodup
  | [], _, _ => by simp
  | a :: l, hn, hi => by
    rw [List.nodup_cons] at hn
    rw [List.map_cons, List.nodup_cons]
    refine ⟨fun h => ?_, nodup_map hn.2 fun x hx y hy => hi x (by simp [hx]) y (by simp [hy])⟩
    obtain ⟨y, hy, e⟩ := List.mem_map.1 h
    have := hi y (by simp [hy]) a (by simp) e
    exact hn.1 (this ▸ hy)
theorem inj_le {α β : Type} {φ : α → β} {l : List α} {m : List β} (hn : l.Nodup) (hi : ∀ x ∈ l, ∀ y ∈ l, φ x = φ y → x = y) (hm : ∀ x ∈ l, φ x ∈ m) : l.length ≤ m.length := by
  rw [← List.length_map (f := φ)]
  exact len_le_sub (nodup_map hn hi) fun y hy => by obtain ⟨x, hx, rfl⟩ := List.mem_map.1 hy; exact hm x hx
/-- pairs -/
def prs {α β : Type} (l : List α) (m : List β) : List (α × β) := l.flatMap fun x => m.map fun y => (x, y)
theorem prs_mem {α β : Type} {l : List α} {m : List β} {x : α} {y : β} : (x, y) ∈ prs l m ↔ x ∈ l ∧ y ∈ m := by
  simp only [prs, List.mem_flatMap, List.mem_map, Prod.mk.injEq]
  constructor
  · rintro ⟨a, ha, b, hb, rfl, rfl⟩; exact ⟨ha, hb⟩
  · rintro ⟨h1, h2⟩; exact ⟨x, h1, y, h2, rfl, rfl⟩
theorem prs_len {α β : Type} (m : List β) : ∀ l : List α, (prs l m).length = l.length * m.length
  | [] => by simp [prs]
  | a :: l => by
    have ih := prs_len m l
    simp only [prs, List.flatMap_cons, List.length_append, List.length_map, List.length_cons] at ih ⊢
    rw [ih, Nat.add_mul]; omega
theorem nodup_append {α : Type} {l m : List α} (h1 : l.Nodup) (h2 : m.Nodup) (h : ∀ x ∈ l, x ∉ m) : (l ++ m).Nodup := by
  rw [List.nodup_append]
  exact ⟨h1, h2, fun x hx y hy e => h x hx (e ▸ hy)⟩
theorem prs_nodup {α β : Type} {m : List β} (hm : m.Nodup) : ∀ {l : List α}, l.Nodup → (prs l m).Nodup
  | [], _ => by simp [prs]
  | a :: l, hn => by
    rw [List.nodup_cons] at hn
    have ih := prs_nodup hm hn.2
    show (m.map (fun y => (a, y)) ++ prs l m).Nodup
    refine nodup_append (nodup_map hm fun x _ y _ e => by injection e) ih ?_
    rintro ⟨x, y⟩ hx hy
    obtain ⟨z, _, e⟩ := List.mem_map.1 hx
    injection e with e1 e2
    exact hn.1 (e1 ▸ (prs_mem.1 hy).1)
/-- all vectors of n numbers from 0 up to p -/
def vecs (p : Nat) : Nat → List (List Int)
  | 0 => [[]]
  | n + 1 => (prs (vecs p n) (List.range p)).map fun z => z.1 ++ [(z.2 : Int)]
def IsV (p : Nat) (n : Nat) (x : List Int) : Prop := x.length = n ∧ ∀ e ∈ x, 0 ≤ e ∧ e < p
theorem vecs_mem {p : Nat} : ∀ {n : Nat} {x : List Int}, x ∈ vecs p n ↔ IsV p n x
  | 0, x => by
    simp only [vecs, List.mem_singleton, IsV]
    constructor
    · rintro rfl; simp
    · rintro ⟨h, _⟩; exact List.eq_nil_of_length_eq_zero h
  | n + 1, x => by
    simp only [vecs, List.mem_map]
    constructor
    · rintro ⟨⟨y, e⟩, h, rfl⟩
      obtain ⟨h1, h2⟩ := prs_mem.1 h
      obtain ⟨h3, h4⟩ := vecs_mem.1 h1
      rw [List.mem_range] at h2
      refine ⟨by simp [h3], fun z hz => ?_⟩
      simp only [List.mem_append, List.mem_singleton] at hz
      rcases hz with hz | rfl
      · exact h4 z hz
      · omega
    · rintro ⟨h1, h2⟩
      have hne : x ≠ [] := by rintro rfl; simp at h1
      have hl := h2 (x.getLast hne) (List.getLast_mem hne)
      refine ⟨(x.dropLast, (x.getLast hne).toNat), prs_mem.2 ⟨vecs_mem.2 ⟨by simp [h1], fun e he => h2 e (List.dropLast_subset x he)⟩, by rw [List.mem_range]; omega⟩, ?_⟩
      simp only
      rw [show (((x.getLast hne).toNat : Nat) : Int) = x.getLast hne by omega, List.dropLast_concat_getLast]
theorem vecs_nodup (p : Nat) : ∀ n, (vecs p n).Nodup
  | 0 => by simp [vecs]
  | n + 1 => by
    refine nodup_map (prs_nodup List.nodup_range (vecs_nodup p n)) ?_
    rintro ⟨x, a⟩ _ ⟨y, b⟩ _ e
    simp only at e
    have := List.append_inj_right' e rfl
    have h2 := List.append_inj_left' e rfl
    simp only [List.cons.injEq, Int.natCast_inj, and_true] at this
    rw [h2, this]
theorem vecs_len (p : Nat) : ∀ n, (vecs p n).length = p ^ n
  | 0 => rfl
  | n + 1 => by rw [vecs, List.length_map, prs_len, vecs_len p n, List.length_range, Nat.pow_succ]
def at0 (x : List Int) (t : Nat) : Int := x.getD t 0
/-- the vector in reduced numbers -/
def can (p : Nat) (k : Nat) (v : Nat → Int) : List Int := (List.range k).map fun b => v b % (p : Int)
theorem can_v {p : Nat} (hp : 0 < p) (k : Nat) (v : Nat → Int) : IsV p k (can p k v) := by
  refine ⟨by simp [can], fun e he => ?_⟩
  simp only [can, List.mem_map] at he
  obtain ⟨b, _, rfl⟩ := he
  exact ⟨Int.emod_nonneg _ (by omega), Int.emod_lt_of_pos _ (by omega)⟩
theorem can_at {p k t : Nat} (v : Nat → Int) (h : t < k) : at0 (can p k v) t = v t % (p : Int) := by simp [at0, can, h]
theorem v_at {p n t : Nat} {x : List Int} (h : IsV p n x) (ht : t < n) : 0 ≤ at0 x t ∧ at0 x t < p := by
  have hl : t < x.length := by rw [h.1]; exact ht
  rw [at0, List.getD_eq_getElem?_getD, List.getElem?_eq_getElem hl]
  exact h.2 _ (List.getElem_mem hl)
theorem v_ext {p n : Nat} {x y : List Int} (hx : IsV p n x) (hy : IsV p n y) (h : ∀ t, t < n → (p : Int) ∣ at0 x t - at0 y t) : x = y := by
  apply List.ext_getElem (by rw [hx.1, hy.1])
  intro t h1 h2
  have ht : t < n := by rw [← hx.1]; exact h1
  have a := v_at hx ht
  have b := v_at hy ht
  have e : at0 x t = at0 y t := by
    obtain ⟨c, hc⟩ := h t ht
    have : c = 0 := by
      rcases Int.lt_trichotomy c 0 with h | h | h
      · have : (p : Int) * c ≤ (p : Int) * (-1) := Int.mul_le_mul_of_nonneg_left (by omega) (by omega)
        omega
      · exact h
      · have : (p : Int) * 1 ≤ (p : Int) * c := Int.mul_le_mul_of_nonneg_left (by omega) (by omega)
        omega
    rw [this, Int.mul_zero] at hc
    omega
  rw [at0, at0, List.getD_eq_getElem?_getD, List.getD_eq_getElem?_getD, List.getElem?_eq_getElem h1, List.getElem?_eq_getElem h2] at e
  exact e
theorem can_cg (p : Nat) {k t : Nat} (v : Nat → Int) (h : t < k) : (p : Int) ∣ at0 (can p k v) t - v t := by rw [can_at v h]; exact emod_cg _ _
def kerB (p : Nat) (r : Nat) (f : Nat → Nat → Int) (k : Nat) (x : List Int) : Bool := (List.range r).all fun i => decide ((p : Int) ∣ sgF (fun t => f i t * at0 x t) k)
theorem kerB_t {p r k : Nat} {f : Nat → Nat → Int} {x : List Int} : kerB p r f k x = true ↔ Ker p r f k (at0 x) := by
  simp only [kerB, List.all_eq_true, List.mem_range, decide_eq_true_eq]; rfl
def kerL (p : Nat) (r : Nat) (f : Nat → Nat → Int) (k : Nat) : List (List Int) := (vecs p k).filter (kerB p r f k)
theorem kerL_mem {p r k : Nat} {f : Nat → Nat → Int} {x : List Int} : x ∈ kerL p r f k ↔ IsV p k x ∧ Ker p r f k (at0 x) := by
  simp only [kerL, List.mem_filter, vecs_mem, kerB_t]
theorem kerL_nodup (p r : Nat) (f : Nat → Nat → Int) (k : Nat) : (kerL p r f k).Nodup := List.Pairwise.filter _ (vecs_nodup p k)
/-! ### how many vectors the kernel has -/
theorem at0_app {x : List Int} {e : Int} {t : Nat} (h : t < x.length) : at0 (x ++ [e]) t = at0 x t := by
  simp only [at0, List.getD_eq_getElem?_getD]; rw [List.getElem?_append_left h]
theorem at0_last {x : List Int} {e : Int} {k : Nat} (h : x.length = k) : at0 (x ++ [e]) k = e := by
  simp only [at0, List.getD_eq_getElem?_getD]; rw [List.getElem?_append_right (by omega), h]; simp
theorem isV_snoc {p k : Nat} {x : List Int} {e : Int} (h : IsV p k x) (h0 : 0 ≤ e) (h1 : e < p) : IsV p (k + 1) (x ++ [e]) := by
  refine ⟨by simp [h.1], fun z hz => ?_⟩
  simp only [List.mem_append, List.mem_singleton] at hz
  rcases hz with hz | rfl
  · exact h.2 z hz
  · exact ⟨h0, h1⟩
theorem isV_take {p k : Nat} {x : List Int} (h : IsV p (k + 1) x) : IsV p k (x.take k) := ⟨by simp [h.1], fun e he => h.2 e (List.mem_of_mem_take he)⟩
theorem at0_take {x : List Int} {k t : Nat} (h : t < k) : at0 (x.take k) t = at0 x t := by
  simp only [at0, List.getD_eq_getElem?_getD]; rw [List.getElem?_take, if_pos h]
theorem ker_k {p : Int} {r : Nat} {f : Nat → Nat → Int} {k : Nat} {x y : Nat → Int} (h : ∀ t, t < k → x t = y t) : Ker p r f k x ↔ Ker p r f k y :=
  ker_congr fun t ht => by rw [h t ht, Int.sub_self]; exact Int.dvd_zero p
/-- the solution for a column without a leading one -/
theorem sol_at {r k : Nat} {g : Nat → Nat → Int} {ps : List Int} (h : Rd r g ps k) (hc : ∀ i, ps.length ≤ i → i < r → g i k = 0) : ∃ x0 : Nat → Int, ∀ i, i < r → sgF (fun b => g i b * x0 b) k = - g i k := by
  have hps : ∀ j, j < ps.length → ∃ b : Nat, ps.getD j 0 = (b : Int) ∧ b < k ∧ ∀ i, i < r → g i b = if i = j then 1 else 0 := fun j hj => by
    obtain ⟨b, h1, h2⟩ := h.pos j hj
    exact ⟨b, by rw [List.getD_eq_getElem?_getD, h1]; rfl, h2⟩
  refine ⟨fun b => sgF (fun j => if (b : Int) = ps.getD j 0 then - g j k else 0) ps.length, fun i hi => ?_⟩
  have e1 : ∀ b, g i b * sgF (fun j => if (b : Int) = ps.getD j 0 then - g j k else 0) ps.length = sgF (fun j => if (b : Int) = ps.getD j 0 then g i b * - g j k else 0) ps.length := by
    intro b
    rw [← sg_mul]
    refine sg_congr fun j _ => ?_
    split <;> simp
  rw [sg_congr fun b _ => e1 b, sg_swap]
  have e2 : ∀ j, j < ps.length → sgF (fun b : Nat => if (b : Int) = ps.getD j 0 then g i b * - g j k else 0) k = if j = i then - g j k else 0 := by
    intro j hj
    obtain ⟨b, h1, h2, h3⟩ := hps j hj
    rw [sg_congr (b := fun t => if t = b then g i t * - g j k else 0) fun t _ => by rw [h1]; simp only [Int.natCast_inj]]
    rw [sg_one h2, h3 i hi]
    by_cases e : i = j
    · subst e; simp
    · rw [if_neg e, if_neg (by omega)]; simp
  rw [sg_congr e2]
  rcases Nat.lt_or_ge i ps.length with hlt | hge
  · rw [sg_one (h := fun j => - g j k) hlt]
  · rw [sg_congr (b := fun _ => 0) fun t ht => if_neg (by omega), sg_0, hc i hge hi]; rfl
theorem cnt_piv {p r c k t : Nat} {g : Nat → Nat → Int} (hp : isFld p = true) (hp2 : 2 ≤ p) (hg : InF p r c g) (hk : k < c) {ps : List Int} (h : Rd r g ps k) (h1 : ps.length ≤ t) (h2 : t < r) (hne : g t k ≠ 0) : (kerL p r g (k + 1)).length = (kerL p r g k).length := by
  have hr := hg t k h2 hk
  have last0 : ∀ x, x ∈ kerL p r g (k + 1) → at0 x k = 0 := by
    intro x hx
    obtain ⟨hv, hK⟩ := kerL_mem.1 hx
    have h3 := hK t h2
    simp only [sgF] at h3
    rw [sg_congr (b := fun _ => 0) (fun b hb => by rw [h.low t b h1 h2 hb, Int.zero_mul]), sg_0, Int.zero_add] at h3
    have h4 := inv_cg hp (show 1 ≤ g t k by omega) hr.2
    have h5 : (p : Int) ∣ at0 x k := by
      have h6 : (p : Int) ∣ invP p (g t k) * (g t k * at0 x k) := Int.dvd_mul_of_dvd_right h3
      rw [← Int.mul_assoc] at h6
      have h7 := cg_mulL (at0 x k) h4
      rw [Int.one_mul] at h7
      exact (cg_dvd h7).1 h6
    have h6 := v_at hv (Nat.lt_succ_self k)
    obtain ⟨m, hm⟩ := h5
    have : m = 0 := by
      rcases Int.lt_trichotomy m 0 with h | h | h
      · have : (p : Int) * m ≤ (p : Int) * (-1) := Int.mul_le_mul_of_nonneg_left (by omega) (by omega)
        omega
      · exact h
      · have : (p : Int) * 1 ≤ (p : Int) * m := Int.mul_le_mul_of_nonneg_left (by omega) (by omega)
        omega
    rw [this, Int.mul_zero] at hm
    exact hm
  apply Nat.le_antisymm
  · refine inj_le (φ := fun x => x.take k) (kerL_nodup _ _ _ _) ?_ ?_
    · intro x hx y hy e
      obtain ⟨hxv, _⟩ := kerL_mem.1 hx
      obtain ⟨hyv, _⟩ := kerL_mem.1 hy
      refine v_ext hxv hyv fun t ht => ?_
      by_cases e3 : t < k
      · rw [← at0_take (x := x) e3, ← at0_take (x := y) e3]
        rw [show x.take k = y.take k from e, Int.sub_self]; exact Int.dvd_zero _
      · obtain rfl : t = k := by omega
        rw [last0 x hx, last0 y hy]; exact Int.dvd_zero _
    · intro x hx
      obtain ⟨hv, hK⟩ := kerL_mem.1 hx
      refine kerL_mem.2 ⟨isV_take hv, fun i hi => ?_⟩
      have h3 := hK i hi
      simp only [sgF] at h3
      rw [last0 x hx, Int.mul_zero, Int.add_zero] at h3
      rw [sg_congr fun b hb => by rw [at0_take hb]]
      exact h3
  · refine inj_le (φ := fun x => x ++ [0]) (kerL_nodup _ _ _ _) (fun x _ y _ e => List.append_inj_left' e rfl) ?_
    intro x hx
    obtain ⟨hv, hK⟩ := kerL_mem.1 hx
    refine kerL_mem.2 ⟨isV_snoc hv (by omega) (by omega), fun i hi => ?_⟩
    simp only [sgF]
    rw [at0_last hv.1, Int.mul_zero, Int.add_zero, sg_congr fun b hb => by rw [at0_app (by rw [hv.1]; exact hb)]]
    exact hK i hi
theorem cnt_free {p r k : Nat} {g : Nat → Nat → Int} (hp2 : 2 ≤ p) {x0 : Nat → Int} (h : ∀ i, i < r → sgF (fun b => g i b * x0 b) k = - g i k) : (kerL p r g (k + 1)).length = (kerL p r g k).length * p := by
  have hp0 : 0 < p := by omega
  have lin : ∀ i, i < r → ∀ (x : Nat → Int) (y : Int), sgF (fun b => g i b * (x b + y * x0 b)) k = sgF (fun b => g i b * x b) k - g i k * y := by
    intro i hi x y
    have : ∀ b, g i b * (x b + y * x0 b) = g i b * x b + y * (g i b * x0 b) := fun b => by
      rw [Int.mul_add, ← Int.mul_assoc, ← Int.mul_assoc, Int.mul_comm (g i b) y]
    rw [sg_congr fun b _ => this b, sg_add, sg_mul, h i hi, Int.mul_neg, Int.mul_comm y]
    omega
  have hl : (prs (kerL p r g k) (List.range p)).length = (kerL p r g k).length * p := by rw [prs_len, List.length_range]
  rw [← hl]
  apply Nat.le_antisymm
  · refine inj_le (φ := fun x => (can p k (fun b => at0 x b + (- at0 x k) * x0 b), (at0 x k).toNat)) (kerL_nodup _ _ _ _) ?_ ?_
    · intro x hx y hy e
      obtain ⟨hxv, _⟩ := kerL_mem.1 hx
      obtain ⟨hyv, _⟩ := kerL_mem.1 hy
      have ax := v_at hxv (Nat.lt_succ_self k)
      have ay := v_at hyv (Nat.lt_succ_self k)
      injection e with e1 e2
      have e3 : at0 x k = at0 y k := by omega
      refine v_ext hxv hyv fun t ht => ?_
      by_cases e4 : t < k
      · have c1 := can_cg p (fun b => at0 x b + (- at0 x k) * x0 b) e4
        have c2 := can_cg p (fun b => at0 y b + (- at0 y k) * x0 b) e4
        rw [e1] at c1
        have := Int.dvd_sub c2 c1
        simp only [e3] at this
        rwa [show ∀ a b c d : Int, a - (b + c) - (a - (d + c)) = d - b by intros; omega] at this
      · obtain rfl : t = k := by omega
        rw [e3, Int.sub_self]; exact Int.dvd_zero _
    · intro x hx
      obtain ⟨hv, hK⟩ := kerL_mem.1 hx
      have ax := v_at hv (Nat.lt_succ_self k)
      refine prs_mem.2 ⟨kerL_mem.2 ⟨can_v hp0 _ _, ?_⟩, by rw [List.mem_range]; omega⟩
      rw [ker_congr fun t ht => can_cg p _ ht]
      intro i hi
      rw [lin i hi]
      have h3 := hK i hi
      simp only [sgF] at h3
      rw [Int.mul_neg, Int.sub_neg]
      exact h3
  · refine inj_le (φ := fun z => can p k (fun b => at0 z.1 b + (z.2 : Int) * x0 b) ++ [(z.2 : Int)]) (prs_nodup List.nodup_range (kerL_nodup _ _ _ _)) ?_ ?_
    · rintro ⟨x, a⟩ hx ⟨y, b⟩ hy e
      obtain ⟨hxv, _⟩ := kerL_mem.1 (prs_mem.1 hx).1
      obtain ⟨hyv, _⟩ := kerL_mem.1 (prs_mem.1 hy).1
      have e2 := List.append_inj_right' e rfl
      have e1 := List.append_inj_left' e rfl
      simp only [List.cons.injEq, Int.natCast_inj, and_true] at e2
      subst e2
      have : x = y := v_ext hxv hyv fun t ht => by
        have c1 := can_cg p (fun b => at0 x b + (a : Int) * x0 b) ht
        have c2 := can_cg p (fun b => at0 y b + (a : Int) * x0 b) ht
        rw [show can p k (fun b => at0 x b + (a : Int) * x0 b) = can p k (fun b => at0 y b + (a : Int) * x0 b) from e1] at c1
        have := Int.dvd_sub c2 c1
        try simp only at this
        rwa [show ∀ a b c d : Int, a - (b + c) - (a - (d + c)) = d - b by intros; omega] at this
      rw [this]
    · rintro ⟨x, a⟩ hx
      obtain ⟨h1, h2⟩ := prs_mem.1 hx
      obtain ⟨hv, hK⟩ := kerL_mem.1 h1
      rw [List.mem_range] at h2
      have hcv := can_v hp0 k (fun b => at0 x b + (a : Int) * x0 b)
      refine kerL_mem.2 ⟨isV_snoc hcv (by omega) (by omega), fun i hi => ?_⟩
      simp only [sgF]
      rw [at0_last hcv.1, sg_congr fun b hb => by rw [at0_app (by rw [hcv.1]; exact hb)]]
      have h3 : (p : Int) ∣ sgF (fun b => g i b * at0 (can p k fun b => at0 x b + (a : Int) * x0 b) b) k - sgF (fun b => g i b * (at0 x b + (a : Int) * x0 b)) k := sg_cg fun t ht => cg_mulR _ (can_cg p _ ht)
      rw [lin i hi] at h3
      have := Int.dvd_add h3 (hK i hi)
      rwa [show ∀ a b c : Int, a - (b - c) + b = a + c by intros; omega] at this
theorem kerL_congr {p r k : Nat} {f g : Nat → Nat → Int} (h : ∀ x, Ker p r f k x ↔ Ker p r g k x) : (kerL p r f k).length = (kerL p r g k).length := by
  apply Nat.le_antisymm <;> refine len_le_sub (kerL_nodup _ _ _ _) fun x hx => ?_
  · obtain ⟨a, b⟩ := kerL_mem.1 hx; exact kerL_mem.2 ⟨a, (h _).1 b⟩
  · obtain ⟨a, b⟩ := kerL_mem.1 hx; exact kerL_mem.2 ⟨a, (h _).2 b⟩
theorem ker_cnt {p r c : Nat} {f : Nat → Nat → Int} (hp : isFld p = true) (hp2 : 2 ≤ p) (hf : InF p r c f) : ∀ k, k ≤ c → (kerL p r f k).length * p ^ (rdTo p r f k).2.length = p ^ k
  | 0, _ => by
    have : kerL p r f 0 = [[]] := by
      simp only [kerL, vecs]
      rw [List.filter_cons_of_pos, List.filter_nil]
      rw [kerB_t]
      intro i _; exact Int.dvd_zero _
    rw [this]; simp [rdTo]
  | k + 1, hk => by
    have ih := ker_cnt hp hp2 hf k (by omega)
    have hR := rd_to hp (by omega) hf k (by omega)
    have hg := inF_to (show (2 : Int) ≤ p by omega) hf k
    have hl := (rdTo_len p r f k).1
    have e1 := kerL_congr (p := p) (r := r) (k := k) (f := (rdTo p r f k).1) (g := f) fun x => ker_to hp (by omega) hf k (by omega) k x
    have e2 := kerL_congr (p := p) (r := r) (k := k + 1) (f := (rdTo p r f k).1) (g := f) fun x => ker_to hp (by omega) hf k (by omega) (k + 1) x
    rw [← e1] at ih
    rw [← e2]
    simp only [rdTo]
    split
    · rename_i h1
      have hn := nzF_le (f := (rdTo p r f k).1) (k := k) hl
      rw [cnt_piv hp hp2 hg (by omega) hR hn.1 h1 (nzF_ne hl h1), List.length_append, List.length_singleton, Nat.pow_succ, ← Nat.mul_assoc, ih, Nat.pow_succ]
    · rename_i h1
      obtain ⟨x0, hx⟩ := sol_at hR fun i h2 h3 => nzF_0 h1 h2 h3
      rw [cnt_free hp2 hx, Nat.mul_right_comm, ih, Nat.pow_succ]
theorem rk_cnt {p r c : Nat} {f : Nat → Nat → Int} (hp : isFld p = true) (hp2 : 2 ≤ p) (hf : InF p r c f) : (kerL p r f c).length * p ^ rkF p r c f = p ^ c := ker_cnt hp hp2 hf c (Nat.le_refl c)
/-- a matrix times a vector -/
def appF (f : Nat → Nat → Int) (c : Nat) (x : Nat → Int) (i : Nat) : Int := sgF (fun t => f i t * x t) c
theorem app_mu {p : Int} {d c : Nat} {f g : Nat → Nat → Int} {x : Nat → Int} (i : Nat) : p ∣ sgF (fun t => muP p d f g i t * x t) c - sgF (fun s => f i s * appF g c x s) d := by
  have e : sgF (fun s => f i s * appF g c x s) d = sgF (fun t => sgF (fun s => f i s * g s t) d * x t) c := by
    rw [sg_congr (b := fun s => sgF (fun t => f i s * g s t * x t) c) fun s _ => by
      rw [appF, ← sg_mul]
      exact sg_congr fun t _ => by rw [Int.mul_assoc]]
    rw [sg_swap]
    refine sg_congr fun t _ => ?_
    rw [Int.mul_comm (sgF _ d), ← sg_mul]
    exact sg_congr fun s _ => by rw [Int.mul_comm]
  rw [e]
  exact sg_cg fun t _ => cg_mulL _ (emod_cg _ _)
theorem ker_mu {p : Int} {r d c : Nat} {f g : Nat → Nat → Int} {x : Nat → Int} : Ker p r (muP p d f g) c x ↔ Ker p r f d (appF g c x) :=
  ⟨fun h i hi => (cg_dvd (app_mu i)).1 (h i hi), fun h i hi => (cg_dvd (app_mu i)).2 (h i hi)⟩
theorem app_add (f : Nat → Nat → Int) (c : Nat) (x y : Nat → Int) (i : Nat) : appF f c (fun t => x t - y t) i = appF f c x i - appF f c y i := by
  rw [appF, appF, appF, ← sg_sub]
  exact sg_congr fun t _ => Int.mul_sub _ _ _
theorem ker_add {p : Int} {r k : Nat} {f : Nat → Nat → Int} {x y : Nat → Int} (hx : Ker p r f k x) (hy : Ker p r f k y) : Ker p r f k fun t => x t + y t := fun i hi => by
  rw [sg_congr fun t _ => Int.mul_add _ _ _, sg_add]
  exact Int.dvd_add (hx i hi) (hy i hi)
theorem ker_sub {p : Int} {r k : Nat} {f : Nat → Nat → Int} {x y : Nat → Int} (hx : Ker p r f k x) (hy : Ker p r f k y) : Ker p r f k fun t => x t - y t := fun i hi => by
  rw [sg_congr fun t _ => Int.mul_sub _ _ _, sg_sub]
  exact Int.dvd_sub (hx i hi) (hy i hi)
theorem app_cg {p : Int} {f : Nat → Nat → Int} {c : Nat} {x y : Nat → Int} (h : ∀ t, t < c → p ∣ x t - y t) (i : Nat) : p ∣ appF f c x i - appF f c y i := sg_cg fun t ht => cg_mulR _ (h t ht)

/-- Kernels of maps B ⊆ D from v; E, G from u their preimages under C. -/
theorem frob {p v u rB rD rE rG : Nat} {B D E G C : Nat → Nat → Int} (hp : isFld p = true) (hp2 : 2 ≤ p) (fB : InF p rB v B) (fD : InF p rD v D) (fE : InF p rE u E) (fG : InF p rG u G)
    (hBD : ∀ x, Ker p rB B v x → Ker p rD D v x) (hE : ∀ x, Ker p rE E u x ↔ Ker p rB B v (appF C u x)) (hG : ∀ x, Ker p rG G u x ↔ Ker p rD D v (appF C u x)) :
    rkF p rD v D + rkF p rE u E ≤ rkF p rB v B + rkF p rG u G := by
  have hp0 : 0 < p := by omega
  -- for z in ker D that differs from an image of ker G by ker B: such an x
  have key : ∃ rep : List Int → List Int, ∀ z, (∃ x ∈ kerL p rG G u, Ker p rB B v fun t => at0 z t - appF C u (at0 x) t) → rep z ∈ kerL p rG G u ∧ Ker p rB B v fun t => at0 z t - appF C u (at0 (rep z)) t := by
    refine Classical.axiomOfChoice (r := fun z x => (∃ x ∈ kerL p rG G u, Ker p rB B v fun t => at0 z t - appF C u (at0 x) t) → x ∈ kerL p rG G u ∧ Ker p rB B v fun t => at0 z t - appF C u (at0 x) t) fun z => ?_
    rcases Classical.em (∃ x ∈ kerL p rG G u, Ker p rB B v fun t => at0 z t - appF C u (at0 x) t) with ⟨x, h1, h2⟩ | h
    · exact ⟨x, fun _ => ⟨h1, h2⟩⟩
    · exact ⟨[], fun h2 => absurd h2 h⟩
  obtain ⟨rep, hrep⟩ := key
  have main : (kerL p rG G u).length * (kerL p rB B v).length ≤ (kerL p rD D v).length * (kerL p rE E u).length := by
    rw [← prs_len, ← prs_len]
    have hz : ∀ x y, x ∈ kerL p rG G u → y ∈ kerL p rB B v → Ker p rB B v fun t => at0 (can p v fun t => appF C u (at0 x) t + at0 y t) t - appF C u (at0 x) t := by
      intro x y hx hy
      have h1 := (kerL_mem.1 hy).2
      refine (ker_congr fun t ht => ?_).2 h1
      have := can_cg p (fun t => appF C u (at0 x) t + at0 y t) ht
      rwa [show ∀ a b c : Int, a - (b + c) = a - b - c by intros; omega] at this
    refine inj_le (φ := fun w => (can p v fun t => appF C u (at0 w.1) t + at0 w.2 t, can p u fun t => at0 w.1 t - at0 (rep (can p v fun t => appF C u (at0 w.1) t + at0 w.2 t)) t)) (prs_nodup (kerL_nodup _ _ _ _) (kerL_nodup _ _ _ _)) ?_ ?_
    · rintro ⟨x, y⟩ h1 ⟨x', y'⟩ h2 e
      obtain ⟨hx, hy⟩ := prs_mem.1 h1
      obtain ⟨hx', hy'⟩ := prs_mem.1 h2
      simp only [Prod.mk.injEq] at e
      obtain ⟨e1, e2⟩ := e
      have ex : x = x' := v_ext (kerL_mem.1 hx).1 (kerL_mem.1 hx').1 fun t ht => by
        have c1 := can_cg p (fun t => at0 x t - at0 (rep (can p v fun t => appF C u (at0 x) t + at0 y t)) t) ht
        have c2 := can_cg p (fun t => at0 x' t - at0 (rep (can p v fun t => appF C u (at0 x') t + at0 y' t)) t) ht
        rw [e2] at c1
        rw [e1] at c1
        have := Int.dvd_sub c2 c1
        try simp only at this
        rwa [show ∀ a b c d : Int, a - (b - c) - (a - (d - c)) = d - b by intros; omega] at this
      subst ex
      have ey : y = y' := v_ext (kerL_mem.1 hy).1 (kerL_mem.1 hy').1 fun t ht => by
        have c1 := can_cg p (fun t => appF C u (at0 x) t + at0 y t) ht
        have c2 := can_cg p (fun t => appF C u (at0 x) t + at0 y' t) ht
        rw [e1] at c1
        have := Int.dvd_sub c2 c1
        try simp only at this
        rwa [show ∀ a b c d : Int, a - (b + c) - (a - (b + d)) = d - c by intros; omega] at this
      rw [ey]
    · rintro ⟨x, y⟩ h1
      obtain ⟨hx, hy⟩ := prs_mem.1 h1
      have hr := hrep (can p v fun t => appF C u (at0 x) t + at0 y t) ⟨x, hx, hz x y hx hy⟩
      refine prs_mem.2 ⟨kerL_mem.2 ⟨can_v hp0 _ _, ?_⟩, kerL_mem.2 ⟨can_v hp0 _ _, ?_⟩⟩
      · rw [ker_congr fun t ht => can_cg p _ ht]
        exact ker_add ((hG _).1 (kerL_mem.1 hx).2) (hBD _ (kerL_mem.1 hy).2)
      · rw [ker_congr fun t ht => can_cg p _ ht, hE]
        have h3 := ker_sub hr.2 (hz x y hx hy)
        refine (ker_congr fun t _ => ?_).2 h3
        rw [app_add, show ∀ a b c : Int, a - b - (c - b - (c - a)) = 0 by intros; omega]
        exact Int.dvd_zero _
  have cB := rk_cnt hp hp2 fB
  have cD := rk_cnt hp hp2 fD
  have cE := rk_cnt hp hp2 fE
  have cG := rk_cnt hp hp2 fG
  generalize (kerL p rB B v).length = b at *
  generalize (kerL p rD D v).length = d at *
  generalize (kerL p rE E u).length = e at *
  generalize (kerL p rG G u).length = g at *
  generalize rkF p rB v B = kB at *
  generalize rkF p rD v D = kD at *
  generalize rkF p rE u E = kE at *
  generalize rkF p rG u G = kG at *
  have h1 : g * b * (p ^ (kD + kE) * p ^ (kB + kG)) ≤ d * e * (p ^ (kD + kE) * p ^ (kB + kG)) := Nat.mul_le_mul_right _ main
  have e1 : g * b * (p ^ (kD + kE) * p ^ (kB + kG)) = p ^ (kD + kE) * ((g * p ^ kG) * (b * p ^ kB)) := by
    rw [Nat.pow_add p kB kG]; ac_rfl
  have e2 : d * e * (p ^ (kD + kE) * p ^ (kB + kG)) = p ^ (kB + kG) * ((d * p ^ kD) * (e * p ^ kE)) := by
    rw [Nat.pow_add p kD kE]; ac_rfl
  rw [e1, e2, cB, cD, cE, cG, Nat.mul_comm (p ^ u)] at h1
  have h2 : p ^ (kD + kE) ≤ p ^ (kB + kG) := Nat.le_of_mul_le_mul_right h1 (Nat.mul_pos (Nat.pow_pos hp0) (Nat.pow_pos hp0))
  exact (Nat.pow_le_pow_iff_right (by omega)).1 h2
end Go.Proofs.Ytcmlflppndfdcaa
