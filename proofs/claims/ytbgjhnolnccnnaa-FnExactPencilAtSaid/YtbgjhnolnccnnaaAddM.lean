/- Remainders; a multiple of a vector added in place. -/
import Derived.Test.YtbgjhnolnccnnaaRowZ
import Derived.Test.YtbgjhnolnccnnaaMat
namespace Go.Proofs.Ytbgjhnolnccnnaa
set_option linter.unusedVariables false
set_option linter.unusedSimpArgs false
open Go.RowKit

theorem tmod_fix {p x : Int} (hp : 2 ≤ p) : (if x.tmod p < 0 then x.tmod p + p else x.tmod p) = x % p ∧ -p < x.tmod p ∧ x.tmod p < p := by
  have h1 := Int.tmod_lt_of_pos x (show 0 < p by omega)
  have h2 : -p < x.tmod p := by
    have := Int.tmod_lt_of_pos (-x) (show 0 < p by omega)
    rw [Int.neg_tmod] at this
    omega
  refine ⟨?_, h2, h1⟩
  rw [Int.tmod_eq_emod]
  have h3 := Int.emod_nonneg x (show p ≠ 0 by omega)
  have h4 := Int.emod_lt_of_pos x (show 0 < p by omega)
  have h5 : p.natAbs = p := by omega
  split
  · split <;> omega
  · rename_i h
    split <;> omega
theorem tmod_twice {p x : Int} (hp : 2 ≤ p) : (x.tmod p + p) % p = x % p := by
  rw [Int.add_emod_right, Int.emod_def, Int.emod_def x p]
  have h := (tmod_fix (x := x) hp).1
  have h4 := Int.emod_lt_of_pos x (show 0 < p by omega)
  have h3 := Int.emod_nonneg x (show p ≠ 0 by omega)
  rw [← Int.emod_def, ← Int.emod_def]
  rw [← h]
  split
  · rename_i hn
    rw [← Int.add_emod_right, Int.emod_eq_of_lt]
    · have := (tmod_fix (x := x) hp).2.1; omega
    · omega
  · rename_i hn
    exact Int.emod_eq_of_lt (by omega) (tmod_fix (x := x) hp).2.2

/-- cells off .. off + n of a row get k times another row added -/
def amF (p k : Int) (off n : Nat) (f y : Nat → Int) (i : Nat) : Int := if off ≤ i ∧ i < off + n then (f i + k * y (i - off)) % p else f i
theorem amF_0 (p k : Int) (off N : Nat) (f y : Nat → Int) : rowF N f = rowF N (amF p k off 0 f y) := rowF_congr fun i _ => by rw [amF, if_neg (by omega)]
theorem amF_succ {p k : Int} {off j N : Nat} (f y : Nat → Int) : (rowF N (amF p k off j f y)).set (off + j) ((f (off + j) + k * y j) % p) = rowF N (amF p k off (j + 1) f y) := by
  rw [rowF_set]
  refine rowF_congr fun i _ => ?_
  simp only [amF]
  by_cases h : i = off + j
  · subst h
    rw [if_pos rfl, if_pos (by omega), show off + j - off = j by omega]
  · rw [if_neg h]
    (repeat' split) <;> first | rfl | omega
theorem amF_rest {p k : Int} {off j : Nat} (f y : Nat → Int) : amF p k off j f y (off + j) = f (off + j) := by rw [amF, if_neg (by omega)]

set_option maxHeartbeats 1600000 in
theorem addMultiple_own (p k : Int) (g off n N cap ca : Nat) (lo hi : Nat) (f y : Nat → Int) (vb : Value) (w : World) (hp : 2 ≤ p ∧ p ≤ 5) (hk : 0 ≤ k ∧ k ≤ 5)
    (hown : IntsO w lo hi (.slice (some ⟨g, 0, none⟩) N cap) (rowF N f)) (hg : lo ≤ g ∧ g < hi) (hoff : off + n ≤ N) (hN : N ≤ 1000000) (hca : n ≤ ca ∧ ca ≤ 9223372036854775807)
    (hlo : lo ≤ w.heap.size) (hb : SlI w lo vb (rowF n y)) (hf : ∀ i, i < N → 0 ≤ f i ∧ f i ≤ 4) (hy : ∀ i, i < n → 0 ≤ y i ∧ y i ≤ 4) :
    Calls Try.prog 182 #[.int .i64 p, .slice (some ⟨g, off, none⟩) n ca, .int .i64 k, vb] w fun e w' => e = .returned (.slice (some ⟨g, off, none⟩) n ca) ∧ IntsO w' lo hi (.slice (some ⟨g, 0, none⟩) N cap) (rowF N (amF p k off n f y)) ∧ Chg lo hi w w' ∧ w.heap.size = w'.heap.size := by
  obtain ⟨A, c, rfl, _, _, hln, hx⟩ := hb.open_
  clear hb
  have HX := Lib.hid hx
  have HF := Lib.hid hf
  have HY := Lib.hid hy
  rw [rowF_length] at hln ⊢
  rw [amF_0 p k off N f y] at hown
  clear hx hf hy
  go_enter Try.func182, Try.ntmps182
  go_wp2
  go_loopw [13] (fun i wr => ∃ j : Nat, j ≤ n ∧ i = .int .i64 j ∧ IntsO wr lo hi (.slice (some ⟨g, 0, none⟩) N cap) (rowF N (amF p k off j f y)) ∧ Chg lo hi w wr ∧ Hid (w.heap.size = wr.heap.size)) (fun i _ => n - (intOf i).toNat)
  case atStart => exact ⟨0, Nat.zero_le _, rfl, hown, Chg.refl _ _ _, rfl⟩
  case round =>
    clear hown
    obtain ⟨j, hj, rfl, ho, hc, hsz⟩ := hrel
    by_cases hlt : j < n
    · have hx := HX.out
      rw [← rowF_length n y] at hlt
      obtain ⟨b, o, x, rfl, hbl, HXX, x1, _⟩ := SlI.at_ hx hlt
      rw [rowF_length] at hlt
      have hxx := HXX.out
      rw [rowF_get _ hlt] at hxx
      injection hxx with hxx
      subst hxx
      have x2 := bcell (hc.below (Nat.le_refl _) hlo) hbl x1
      have cA := (ho.1.cellG (j := off + j) (by rw [rowF_length]; omega)).1
      rw [rowF_getD _ (by omega), amF_rest] at cA
      have fA := ho.1.frozenG (off + j)
      have hf1 := HF.out (off + j) (by omega)
      have hy1 := HY.out j hlt
      have hst := amF_succ (p := p) (k := k) (off := off) (j := j) (N := N) f y
      obtain ⟨a, ha⟩ : ∃ a, f (off + j) = a := ⟨_, rfl⟩
      obtain ⟨z, hz⟩ : ∃ z, y j = z := ⟨_, rfl⟩
      rw [ha] at cA hf1 hst
      rw [hz] at x2 hy1 hst
      have hkz0 : 0 ≤ k * z := Int.mul_nonneg hk.1 hy1.1
      have hkz1 : k * z ≤ 5 * 4 := Int.mul_le_mul hk.2 hy1.2 hy1.1 (by omega)
      obtain ⟨K, hK⟩ : ∃ K, k * z = K := ⟨_, rfl⟩
      rw [hK] at hkz0 hkz1 hst
      have hKw : wrap64 (k * z) = K := by rw [hK]; exact IntWalk.wrap64_in _ ⟨by omega, by omega⟩
      have hr0 := Int.emod_nonneg (a + K) (show p ≠ 0 by omega)
      have hr1 := Int.emod_lt_of_pos (a + K) (show 0 < p by omega)
      have hc1 : Chg lo hi wr (wr.setCell ⟨g, off + j, none⟩ (.int .i64 ((a + K) % p))) := chg_set hg.1 hg.2
      have ho2 := ho.put (j := off + j) (x := (a + K) % p) (by simp only [I64]; omega)
      rw [hst] at ho2
      have HO2 := Lib.hid ho2
      have HC2 := Lib.hid (hc.trans hc1)
      have HS2 : Hid (w.heap.size = (wr.setCell ⟨g, off + j, none⟩ (.int .i64 ((a + K) % p))).heap.size) := by show _ = _; rw [hsz.out]; simp
      have htm : (wrap64 (a + K)).tmod p = (a + K) % p := by
        rw [IntWalk.wrap64_in _ ⟨by omega, by omega⟩]
        exact Int.tmod_eq_emod_of_nonneg (by omega)
      have htm2 : (a + K).tmod p = (a + K) % p := Int.tmod_eq_emod_of_nonneg (by omega)
      clear hst ho2 hc1 ho hc hr0 hr1 hx HXX x1 ha hz hK hkz0 hkz1
      go_wp2
      go_roundw
      case rel => exact ⟨j + 1, by omega, by go_num, HO2.out, HC2.out, HS2⟩
      case measure => simp [intOf]; omega
    · go_wp2
      go_ret
      obtain rfl : j = n := by omega
      exact ⟨rfl, ho, hc, hsz⟩
end Go.Proofs.Ytbgjhnolnccnnaa
