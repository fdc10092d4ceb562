/- IntervalOf, both. -/
import Derived.Test.YtndnjbofflddfaaFind
namespace Go.Proofs.Ytndnjbofflddfaa
set_option linter.unusedVariables false
set_option linter.unusedSimpArgs false
open Go.RowKit

/-! ### plain: zeros, then ones, then zeros -/
def ivForm (f s r : Nat) : List Int := List.replicate f 0 ++ (List.replicate s 1 ++ List.replicate r 0)
def ivF (l : List Int) : Nat := l.findIdx (fun x => (1 : Int) == x)
def ivS (l : List Int) : Nat := l.sum.toNat
def ivOk (l : List Int) : Bool := decide (0 < ivS l ∧ l = ivForm (ivF l) (ivS l) (l.length - ivF l - ivS l))
theorem ivForm_get {f s r j : Nat} {x : Int} (h : (ivForm f s r)[j]? = some x) : x = if f ≤ j ∧ j < f + s then 1 else 0 := by
  have hj := lt_of_some h
  simp only [ivForm, List.length_append, List.length_replicate] at hj
  unfold ivForm at h
  rw [List.getElem?_append] at h
  split at h
  · rename_i h1
    simp only [List.length_replicate] at h1
    rw [List.getElem?_replicate, if_pos h1] at h
    injection h with h
    rw [if_neg (by omega)]
    exact h.symm
  · rename_i h1
    simp only [List.length_replicate] at h1 h
    rw [List.getElem?_append] at h
    split at h
    · rename_i h2
      simp only [List.length_replicate] at h2
      rw [List.getElem?_replicate, if_pos h2] at h
      injection h with h
      rw [if_pos (by omega)]
      exact h.symm
    · rename_i h2
      simp only [List.length_replicate] at h2 h
      rw [List.getElem?_replicate, if_pos (by omega)] at h
      injection h with h
      rw [if_neg (by omega)]
      exact h.symm
theorem sum_rep (n : Nat) (x : Int) : (List.replicate n x).sum = n * x := by
  induction n with
  | zero => simp
  | succ n ih => rw [List.replicate_succ, List.sum_cons, ih, Int.natCast_add, Int.add_mul]; simp; omega
theorem ivForm_sum (f s r : Nat) : (ivForm f s r).sum = s := by simp [ivForm, List.sum_append, sum_rep]
theorem ivForm_length (f s r : Nat) : (ivForm f s r).length = f + s + r := by simp [ivForm]; omega
theorem ivForm_F (f s r : Nat) : ivF (ivForm f (s + 1) r) = f := by
  unfold ivF
  have hl : f < (ivForm f (s + 1) r).length := by rw [ivForm_length]; omega
  rw [List.findIdx_eq hl]
  refine ⟨?_, fun j hj => ?_⟩
  · have := ivForm_get (List.getElem?_eq_getElem hl)
    rw [if_pos (by omega)] at this
    rw [this]; rfl
  · have hj' : j < (ivForm f (s + 1) r).length := by omega
    have := ivForm_get (List.getElem?_eq_getElem hj')
    rw [if_neg (by omega)] at this
    rw [this]; rfl
theorem ivOk_form (f s r : Nat) : ivOk (ivForm f (s + 1) r) = true ∧ ivF (ivForm f (s + 1) r) = f ∧ ivS (ivForm f (s + 1) r) = s + 1 := by
  have h1 := ivForm_F f s r
  have h2 : ivS (ivForm f (s + 1) r) = s + 1 := by unfold ivS; rw [ivForm_sum]; omega
  refine ⟨?_, h1, h2⟩
  unfold ivOk
  rw [h1, h2, ivForm_length, decide_eq_true_eq]
  exact ⟨by omega, by congr 1; omega⟩
theorem ivOk_get {l : List Int} (h : ivOk l = true) {j : Nat} {x : Int} (hx : l[j]? = some x) : x = if ivF l ≤ j ∧ j < ivF l + ivS l then 1 else 0 := by
  simp only [ivOk, decide_eq_true_eq] at h
  rw [h.2] at hx
  exact ivForm_get hx
theorem ivOk_01 {l : List Int} (h : ivOk l = true) : ∀ x ∈ l, 0 ≤ x ∧ x ≤ 1 := by
  intro x hx
  obtain ⟨j, hj⟩ := List.getElem?_of_mem hx
  have := ivOk_get h hj
  split at this <;> omega
/-- a one, a zero behind it, a one behind that -/
theorem ivOk_gap {l : List Int} {i j k : Nat} (hij : i < j) (hjk : j < k) (hi : l[i]? = some 1) (hj : l[j]? = some 0) (hk : l[k]? = some 1) : ivOk l = false := by
  rcases h : ivOk l with _ | _
  · rfl
  · have a := ivOk_get h hi
    have b := ivOk_get h hj
    have c := ivOk_get h hk
    split at a <;> split at b <;> split at c <;> omega
theorem ivOk_zero (n : Nat) : ivOk (List.replicate n 0) = false := by
  simp [ivOk, ivS, sum_rep]
/-- sums of zeros and ones -/
theorem sum01 : ∀ (l : List Int), (∀ x ∈ l, 0 ≤ x ∧ x ≤ 1) → 0 ≤ l.sum ∧ l.sum ≤ l.length ∧ (l.sum = l.length → l = List.replicate l.length 1) ∧ (l.sum = 0 → l = List.replicate l.length 0)
  | [], _ => by simp
  | x :: l, h => by
    obtain ⟨a, b, c, d⟩ := sum01 l fun y hy => h y (by simp [hy])
    have hx := h x (by simp)
    refine ⟨by simp; omega, by simp; omega, fun e => ?_, fun e => ?_⟩
    · simp only [List.sum_cons, List.length_cons, Int.natCast_add] at e
      have e1 : x = 1 := by omega
      have e2 := c (by omega)
      rw [List.length_cons, List.replicate_succ, ← e2, e1]
    · simp only [List.sum_cons] at e
      have e1 : x = 0 := by omega
      have e2 := d (by omega)
      rw [List.length_cons, List.replicate_succ, ← e2, e1]
/-- what the program asks -/
theorem ivOk_of_seg {l : List Int} (h01 : ∀ x ∈ l, 0 ≤ x ∧ x ≤ 1) {f : Nat} (hf : f < l.length) (h1 : l[f]? = some 1) (hb : ∀ y ∈ l.take f, ((1 : Int) == y) = false)
    (hs : ((l.drop f).take l.sum.toNat).sum = l.sum) : ivOk l = true := by
  have e0 : l.take f = List.replicate f 0 := by
    have := (sum01 (l.take f) (fun x hx => h01 x (List.mem_of_mem_take hx))).2.2.2
    have hz : ∀ y ∈ l.take f, y = 0 := fun y hy => by
      have := h01 y (List.mem_of_mem_take hy)
      have := hb y hy
      simp at this
      omega
    apply List.ext_getElem?
    intro i
    by_cases hi : i < f
    · rw [List.getElem?_replicate, if_pos hi, List.getElem?_eq_getElem (by simp; omega)]
      exact congrArg some (hz _ (List.getElem_mem _))
    · rw [List.getElem?_replicate, if_neg hi, List.getElem?_eq_none (by simp; omega)]
  have hsp : l = l.take f ++ ((l.drop f).take l.sum.toNat ++ (l.drop f).drop l.sum.toNat) := by rw [List.take_append_drop, List.take_append_drop]
  have hm : ∀ x ∈ l.drop f, 0 ≤ x ∧ x ≤ 1 := fun x hx => h01 x (List.mem_of_mem_drop hx)
  have hp : 0 < l.sum := by
    have hd : l.drop f = 1 :: l.drop (f + 1) := by
      rw [List.drop_eq_getElem_cons hf]
      have : l[f] = 1 := by rw [List.getElem?_eq_getElem hf] at h1; injection h1
      rw [this]
    have e : l.sum = (l.take f).sum + (l.drop f).sum := by rw [← List.sum_append, List.take_append_drop]
    have a := (sum01 (l.take f) (fun x hx => h01 x (List.mem_of_mem_take hx))).1
    have b := (sum01 (l.drop (f + 1)) (fun x hx => h01 x (List.mem_of_mem_drop hx))).1
    rw [hd, List.sum_cons] at e
    omega
  have htot : l.sum = 0 + (l.sum + ((l.drop f).drop l.sum.toNat).sum) := by
    have := congrArg List.sum hsp
    rw [List.sum_append, List.sum_append, hs, e0, sum_rep] at this
    simpa using this
  have t1 := sum01 ((l.drop f).take l.sum.toNat) (fun x hx => hm x (List.mem_of_mem_take hx))
  have t2 := sum01 ((l.drop f).drop l.sum.toNat) (fun x hx => hm x (List.mem_of_mem_drop hx))
  have hlen : ((l.drop f).take l.sum.toNat).length ≤ l.sum.toNat := by simp; omega
  have e1 := t1.2.2.1 (by omega)
  have e2 := t2.2.2.2 (by omega)
  have hln : ((l.drop f).take l.sum.toNat).length = l.sum.toNat := by omega
  rw [hln] at e1
  obtain ⟨s, hse⟩ : ∃ s, l.sum.toNat = s + 1 := ⟨l.sum.toNat - 1, by omega⟩
  have hfin : l = ivForm f (s + 1) ((l.drop f).drop l.sum.toNat).length := by
    rw [e0, e1, e2] at hsp
    rw [hse] at hsp
    rw [hse]
    simpa [ivForm] using hsp
  rw [hfin]
  exact (ivOk_form _ _ _).1

def ivA (l : List Int) : Int := if ivOk l then (ivF l : Int) else 0
def ivB (l : List Int) : Int := if ivOk l then (ivF l : Int) + ivS l - 1 else 0
theorem iv_no {l : List Int} (h : ivOk l = false) : ivA l = 0 ∧ ivB l = 0 := by simp [ivA, ivB, h]
theorem iv_form {l : List Int} {f s r : Nat} (h : l = ivForm f (s + 1) r) : ivOk l = true ∧ ivA l = f ∧ ivB l = (f : Int) + s := by
  subst h
  obtain ⟨h1, h2, h3⟩ := ivOk_form f s r
  refine ⟨h1, by simp [ivA, h1, h2], ?_⟩
  simp only [ivB, h1, h2, h3, if_true]
  omega

theorem ret3 {a b : Int} {c : Bool} {a' b' : Int} {c' : Bool} (h1 : a = a') (h2 : b = b') (h3 : c = c') : Ending.returned (.tuple #[.int .i64 a, .int .i64 b, .bool c]) = .returned (.tuple #[.int .i64 a', .int .i64 b', .bool c']) := by rw [h1, h2, h3]

/-- a part of a slice of ints -/
theorem SlI.cut {w : World} {B c : Nat} {A : Option Addr} {xs : List Int} {i k : Nat} (h : SlI w B (.slice A xs.length c) xs) (hik : i ≤ k) (hk : k ≤ xs.length) :
    ∃ A', (if c = i then A else A.map (·.add (i * 1))) = A' ∧ SlI w B (.slice A' (k - i) (c - i)) ((xs.drop i).take (k - i)) := by
  obtain ⟨A2, c2, e, h1, h2, h3, h4⟩ := h
  injection e with e1 e2 e3
  subst e1 e3
  refine ⟨_, rfl, ?_⟩
  have hl : ((xs.drop i).take (k - i)).length = k - i := by simp; omega
  refine ⟨_, c - i, by rw [hl], by rw [hl]; omega, by omega, by rw [hl]; omega, fun hp => ?_⟩
  rw [hl] at hp
  obtain ⟨b, o, rfl, hb, hc⟩ := h4 (by omega)
  rw [if_neg (by omega)]
  refine ⟨b, o + i, ?_, hb, fun j x hx => ?_⟩
  · have e : (⟨b, o, none⟩ : Addr).add i = ⟨b, o + i, none⟩ := by unfold Addr.add; split <;> simp_all
    simp [e]
  · rw [List.getElem?_take] at hx
    split at hx
    · rw [List.getElem?_drop] at hx
      have := hc (i + j) x hx
      rwa [show o + (i + j) * 1 = o + i + j * 1 by omega] at this
    · cases hx

theorem SlI.cutNe {w : World} {B c : Nat} {A : Option Addr} {xs : List Int} {i k : Nat} (h : SlI w B (.slice A xs.length c) xs) (hik : i ≤ k) (hk : k ≤ xs.length) (hc : i < c) :
    SlI w B (.slice (A.map fun x => x.add i) (k - i) (c - i)) ((xs.drop i).take (k - i)) := by
  obtain ⟨A', e, h'⟩ := h.cut hik hk
  rw [if_neg (by omega), Nat.mul_one] at e
  rw [e]
  exact h'

set_option maxHeartbeats 800000 in
theorem implIntervalOf_any (u : Value) (xs : List Int) (w : World) (hu : SlI w w.heap.size u xs) :
    Calls Try.prog 27 #[u] w fun e w' => e = .returned (.tuple #[.int .i64 (ivA xs), .int .i64 (ivB xs), .bool (ivOk xs)]) ∧ Below w.heap.size w w' := by
  obtain ⟨A, c, rfl, hc1, hc2, hn, hx⟩ := hu.open_
  have C1 := Lib.hid (index_any _ xs 1 w hu)
  have hrg := fidx_range (fun x => (1 : Int) == x) xs
  have hany := fidx_any (fun x => (1 : Int) == x) xs
  obtain ⟨r, hr⟩ : ∃ r, fidx (fun x => (1 : Int) == x) xs = r := ⟨_, rfl⟩
  rw [hr] at C1 hrg hany
  obtain ⟨hr1, hr2⟩ := hrg
  by_cases h0 : r < 0
  · have hno : ivOk xs = false := by
      rcases h : ivOk xs with _ | _
      · rfl
      · exfalso
        simp only [ivOk, decide_eq_true_eq] at h
        have h1 : xs.any (fun x => (1 : Int) == x) = true := by
          rw [List.any_eq_true]
          refine ⟨1, ?_, rfl⟩
          rw [h.2]
          simp [ivForm]; omega
        rw [← hany] at h1
        simp at h1
        omega
    have ⟨hA, hB⟩ := iv_no hno
    have HF := Lib.hid (And.intro hA (And.intro hB hno))
    clear hA hB hno hr hany
    go_enter Try.func27, Try.ntmps27
    go_wp2_with fail
    refine (unhide C1).mono ?_; rintro e w' ⟨rfl, rfl⟩
    go_wp2
    go_ret3
    exact ⟨by rw [HF.out.1, HF.out.2.1, HF.out.2.2]; rfl, Below.refl _ _⟩
  obtain ⟨k, rfl⟩ : ∃ k : Nat, r = (k : Int) := ⟨r.toNat, by omega⟩
  have hkF : k = ivF xs ∧ xs[k]? = some 1 ∧ ∀ y ∈ xs.take k, ((1 : Int) == y) = false := by
    unfold fidx at hr
    split at hr
    · rename_i hlt
      have e : xs.findIdx (fun x => (1 : Int) == x) = k := by omega
      have h1 := List.findIdx_getElem (w := hlt)
      simp only [beq_iff_eq] at h1
      refine ⟨by unfold ivF; exact e.symm, ?_, fun y hy => ?_⟩
      · rw [← e, List.getElem?_eq_getElem hlt, ← h1]
      · rw [List.mem_take_iff_getElem] at hy
        obtain ⟨j, hj, rfl⟩ := hy
        have := List.not_of_lt_findIdx (p := fun x => (1 : Int) == x) (xs := xs) (i := j) (by omega)
        simpa using this
    · omega
  obtain ⟨hkF, hk1, hkb⟩ := hkF
  have HK := Lib.hid (And.intro hkF (And.intro hk1 hkb))
  clear hkF hk1 hkb hr hany
  rcases hall : allR xs 0 1 with _ | _
  · have hno : ivOk xs = false := by
      rcases h : ivOk xs with _ | _
      · rfl
      · have := allR_t.2 (ivOk_01 h)
        rw [hall] at this
        cases this
    have ⟨hA, hB⟩ := iv_no hno
    have HF := Lib.hid (And.intro hA (And.intro hB hno))
    clear hA hB hno
    go_enter Try.func27, Try.ntmps27
    go_wp2_with fail
    refine (unhide C1).mono ?_; rintro e w' ⟨rfl, rfl⟩
    go_wp2_with fail
    refine (allWithin_any _ xs _ _ _ hx).mono ?_; rintro e w1 ⟨rfl, hb1⟩
    rw [hall]
    go_wp2
    go_ret3
    exact ⟨by rw [HF.out.1, HF.out.2.1, HF.out.2.2]; rfl, hb1⟩
  have h01 := allR_t.1 hall
  have hS := sumW_small xs 0 1 (by omega) (by omega) h01 (by omega) (by omega)
  obtain ⟨hs1, hs2, hs3⟩ := hS
  obtain ⟨s, hs⟩ : ∃ s : Nat, xs.sum = (s : Int) := ⟨xs.sum.toNat, by omega⟩
  rw [hs] at hs1 hs2 hs3
  have hsplit : xs.sum = (xs.take k).sum + (xs.drop k).sum := by rw [← List.sum_append, List.take_append_drop]
  have hdk := sum01 (xs.drop k) (fun x hx => h01 x (List.mem_of_mem_drop hx))
  have htk0 : (xs.take k).sum = 0 := by
    have e : xs.take k = List.replicate k 0 := by
      apply List.ext_getElem?
      intro i
      by_cases hi : i < k
      · rw [List.getElem?_replicate, if_pos hi, List.getElem?_eq_getElem (by simp; omega)]
        have hm : (xs.take k)[i]'(by simp; omega) ∈ xs.take k := List.getElem_mem _
        have a := h01 _ (List.mem_of_mem_take hm)
        have b := HK.out.2.2 _ hm
        simp only [beq_eq_false_iff_ne] at b
        exact congrArg some (by omega)
      · rw [List.getElem?_replicate, if_neg hi, List.getElem?_eq_none (by simp; omega)]
    rw [e, sum_rep]; simp
  have hlen : (xs.drop k).length = xs.length - k := by simp
  have hsk : k + s ≤ xs.length := by omega
  have hs0 : 1 ≤ s := by
    have hd : xs.drop k = 1 :: xs.drop (k + 1) := by
      rw [List.drop_eq_getElem_cons (by omega)]
      have h1 := HK.out.2.1
      rw [List.getElem?_eq_getElem (by omega)] at h1
      injection h1 with h1
      rw [h1]
    have b := (sum01 (xs.drop (k + 1)) (fun x hx => h01 x (List.mem_of_mem_drop hx))).1
    rw [hd, List.sum_cons] at hsplit
    omega
  have hcut := SlI.cutNe (i := k) (k := k + s) hx (by omega) hsk (by omega)
  rw [show k + s - k = s by omega] at hcut
  have hsl : ((xs.drop k).take s).length = s := by simp; omega
  have h01' : ∀ x ∈ (xs.drop k).take s, 0 ≤ x ∧ x ≤ 1 := fun x hx => h01 x (List.mem_of_mem_drop (List.mem_of_mem_take hx))
  have hS' := sumW_small ((xs.drop k).take s) 0 1 (by omega) (by omega) h01' (by omega) (by omega)
  have HS := Lib.hid hs1
  have HS' := Lib.hid hS'.1
  have HX := Lib.hid hx
  clear hs1 hS' hsplit hdk htk0 hlen h01' hsl hu hx
  have Hs := Lib.hid hs
  clear hs
  rcases hok : ivOk xs with _ | _
  · have hne : ((xs.drop k).take s).sum ≠ (s : Int) := by
      intro e
      have := ivOk_of_seg h01 (by omega) HK.out.2.1 HK.out.2.2 (by rw [Hs.out, Int.toNat_natCast]; exact e)
      rw [hok] at this
      cases this
    obtain ⟨t, ht⟩ : ∃ t, ((xs.drop k).take s).sum = t := ⟨_, rfl⟩
    rw [ht] at HS' hne
    have hne' : (t != (s : Int)) = true := by rw [bne_iff_ne]; exact hne
    have HF := Lib.hid (And.intro (iv_no hok).1 (And.intro (iv_no hok).2 hok))
    clear hok ht hne
    go_enter Try.func27, Try.ntmps27
    go_wp2_with fail
    refine (unhide C1).mono ?_; rintro e w' ⟨rfl, rfl⟩
    go_wp2_with fail
    refine (allWithin_any _ xs _ _ _ (unhide HX)).mono ?_; rintro e w1 ⟨rfl, hb1⟩
    rw [hall]
    go_wp2_with fail
    refine (sumOf_any _ xs _ (SlI.next hb1 (unhide HX))).mono ?_; rintro e w2 ⟨rfl, rfl⟩
    rw [HS.out]
    go_wp2_with fail
    refine (sumOf_any _ _ _ (SlI.next hb1 hcut)).mono ?_; rintro e w2 ⟨rfl, rfl⟩
    rw [HS'.out]
    go_wp2_with fail
    refine (sumOf_any _ xs _ (SlI.next hb1 (unhide HX))).mono ?_; rintro e w2 ⟨rfl, rfl⟩
    rw [HS.out]
    go_wp2
    go_ret3
    exact ⟨by rw [HF.out.1, HF.out.2.1]; rfl, hb1⟩
  · have hseg : ((xs.drop k).take s).sum = (s : Int) := by
      have e : (xs.drop k).take s = List.replicate s 1 := by
        apply List.ext_getElem?
        intro i
        by_cases hi : i < s
        · rw [List.getElem?_replicate, if_pos hi, List.getElem?_take, if_pos hi, List.getElem?_drop, List.getElem?_eq_getElem (by omega)]
          have := ivOk_get hok (List.getElem?_eq_getElem (show k + i < xs.length by omega))
          rw [this, ← HK.out.1, if_pos]
          unfold ivS
          rw [Hs.out, Int.toNat_natCast]
          omega
        · rw [List.getElem?_replicate, if_neg hi, List.getElem?_take, if_neg hi]
      rw [e, sum_rep]; simp
    rw [hseg] at HS'
    have hA : ivA xs = (k : Int) := by simp only [ivA, hok, if_true]; rw [← HK.out.1]
    have hB : ivB xs = (k : Int) + s - 1 := by
      simp only [ivB, hok, if_true]
      rw [← HK.out.1]
      unfold ivS
      rw [Hs.out, Int.toNat_natCast]
    have hne' : ((s : Int) != (s : Int)) = false := by simp
    have HF := Lib.hid (And.intro hA (And.intro hB hok))
    clear hok hseg hA hB
    go_enter Try.func27, Try.ntmps27
    go_wp2_with fail
    refine (unhide C1).mono ?_; rintro e w' ⟨rfl, rfl⟩
    go_wp2_with fail
    refine (allWithin_any _ xs _ _ _ (unhide HX)).mono ?_; rintro e w1 ⟨rfl, hb1⟩
    rw [hall]
    go_wp2_with fail
    refine (sumOf_any _ xs _ (SlI.next hb1 (unhide HX))).mono ?_; rintro e w2 ⟨rfl, rfl⟩
    rw [HS.out]
    go_wp2_with fail
    refine (sumOf_any _ _ _ (SlI.next hb1 hcut)).mono ?_; rintro e w2 ⟨rfl, rfl⟩
    rw [HS'.out]
    go_wp2_with fail
    refine (sumOf_any _ xs _ (SlI.next hb1 (unhide HX))).mono ?_; rintro e w2 ⟨rfl, rfl⟩
    rw [HS.out]
    go_wp2
    go_ret3
    exact ⟨by rw [HF.out.1, HF.out.2.1]; rfl, hb1⟩

/-- The reference's state behind k elements. -/
def StI (xs : List Int) (k : Nat) (a b : Int) : Prop := (a = -1 ∧ b = -1 ∧ xs.take k = List.replicate k 0) ∨ ∃ f s r : Nat, a = f ∧ b = (f : Int) + s ∧ k = f + s + 1 + r ∧ xs.take k = ivForm f (s + 1) r
theorem StI.rng {xs : List Int} {k : Nat} {a b : Int} (h : StI xs k a b) : -1 ≤ a ∧ a ≤ k ∧ -1 ≤ b ∧ b ≤ (k : Int) - 1 ∧ (a < 0 ↔ b < 0) := by
  rcases h with ⟨rfl, rfl, _⟩ | ⟨f, s, r, rfl, rfl, rfl, _⟩ <;> omega
theorem ivForm_snoc0 (f s r : Nat) : ivForm f s r ++ [0] = ivForm f s (r + 1) := by simp [ivForm, List.replicate_succ']
theorem ivForm_snoc1 (f s : Nat) : ivForm f s 0 ++ [1] = ivForm f (s + 1) 0 := by simp [ivForm, List.replicate_succ']
theorem StI.zero {xs : List Int} {k : Nat} {a b : Int} (h : StI xs k a b) (hx : xs[k]? = some 0) : StI xs (k + 1) a b := by
  rcases h with ⟨rfl, rfl, h⟩ | ⟨f, s, r, rfl, rfl, hk, h⟩
  · exact .inl ⟨rfl, rfl, by rw [take_snoc hx, h, List.replicate_succ']⟩
  · exact .inr ⟨f, s, r + 1, rfl, rfl, by omega, by rw [take_snoc hx, h, ivForm_snoc0]⟩
theorem StI.first {xs : List Int} {k : Nat} {a b : Int} (h : StI xs k a b) (hx : xs[k]? = some 1) (hb : b < 0) : StI xs (k + 1) k k := by
  rcases h with ⟨rfl, rfl, h⟩ | ⟨f, s, r, rfl, rfl, hk, h⟩
  · exact .inr ⟨k, 0, 0, rfl, by omega, by omega, by rw [take_snoc hx, h]; simp [ivForm]⟩
  · omega
theorem StI.more {xs : List Int} {k : Nat} {a b : Int} (h : StI xs k a b) (hx : xs[k]? = some 1) (hb : 0 ≤ b) (hb' : b = (k : Int) - 1) : StI xs (k + 1) a k := by
  rcases h with ⟨rfl, rfl, h⟩ | ⟨f, s, r, rfl, rfl, hk, h⟩
  · omega
  · obtain rfl : r = 0 := by omega
    exact .inr ⟨f, s + 1, 0, rfl, by omega, by omega, by rw [take_snoc hx, h, ivForm_snoc1]⟩
theorem StI.gap {xs : List Int} {k : Nat} {a b : Int} (h : StI xs k a b) (hx : xs[k]? = some 1) (hb : 0 ≤ b) (hb' : b ≠ (k : Int) - 1) : ivOk xs = false := by
  rcases h with ⟨rfl, rfl, h⟩ | ⟨f, s, r, rfl, rfl, hk, h⟩
  · omega
  · have hkl := lt_of_some hx
    have hg : ∀ j, j < k → xs[j]? = some (if f ≤ j ∧ j < f + (s + 1) then 1 else 0) := by
      intro j hj
      have e : xs[j]? = (xs.take k)[j]? := by rw [List.getElem?_take, if_pos hj]
      have hjl : j < (ivForm f (s + 1) r).length := by rw [ivForm_length]; omega
      rw [e, h, List.getElem?_eq_getElem hjl]
      exact congrArg some (ivForm_get (List.getElem?_eq_getElem hjl))
    have h1 := hg f (by omega)
    have h2 := hg (f + s + 1) (by omega)
    rw [if_pos (by omega)] at h1
    rw [if_neg (by omega)] at h2
    exact ivOk_gap (by omega) (by omega) h1 h2 hx
theorem StI.fin {xs : List Int} {a b : Int} (h : StI xs xs.length a b) : (a < 0 ∧ ivOk xs = false) ∨ (0 ≤ a ∧ ivOk xs = true ∧ ivA xs = a ∧ ivB xs = b) := by
  unfold StI at h
  rw [List.take_of_length_le (Nat.le_refl _)] at h
  rcases h with ⟨rfl, rfl, h⟩ | ⟨f, s, r, rfl, rfl, hk, h⟩
  · left
    refine ⟨by omega, ?_⟩
    rw [h]
    exact ivOk_zero _
  · right
    obtain ⟨h1, h2, h3⟩ := iv_form h
    exact ⟨by omega, h1, h2, h3⟩

set_option maxHeartbeats 1600000 in
theorem specIntervalOf_any (u : Value) (xs : List Int) (w : World) (hu : SlI w w.heap.size u xs) :
    Calls Try.prog 25 #[u] w fun e w' => e = .returned (.tuple #[.int .i64 (ivA xs), .int .i64 (ivB xs), .bool (ivOk xs)]) ∧ Below w.heap.size w w' := by
  obtain ⟨A, c, rfl, _, _, hn, hx⟩ := hu.open_
  clear hu
  go_enter Try.func25, Try.ntmps25
  go_wp2
  go_loopw [5, 6, 7] (fun a b i wr => ∃ (k m : Nat) (a' b' : Int), k ≤ xs.length ∧ i = .int .i64 k ∧ a = .int .i64 a' ∧ b = .int .i64 b' ∧ wr = w.drewN m ∧ Hid (StI xs k a' b')) (fun _ _ i _ => xs.length - (intOf i).toNat)
  case atStart => exact ⟨0, 0, -1, -1, Nat.zero_le _, rfl, rfl, rfl, rfl, .inl ⟨rfl, rfl, rfl⟩⟩
  case round =>
    obtain ⟨k, m, a, b, hk, rfl, rfl, rfl, rfl, hst⟩ := hrel
    obtain ⟨a1, a2, b1, b2, hab⟩ := hst.out.rng
    have HAB := Lib.hid hab
    clear hab
    by_cases hlt : k < xs.length
    · obtain ⟨bb, o, x, rfl, hb, HX, c1, _⟩ := SlI.at_ hx hlt
      clear hx
      rcases hB1 : inR x 0 1 with _ | _
      · have hno : ivOk xs = false := by
          rcases h : ivOk xs with _ | _
          · rfl
          · exact absurd (ivOk_01 h x (List.mem_of_getElem? HX.out)) (inR_f.1 hB1)
        have HF := Lib.hid (And.intro (iv_no hno).1 (And.intro (iv_no hno).2 hno))
        clear hno
        go_wp2_with (go_at_call 58; refine (l1In_any _ _ _ _).mono ?_; rintro e w' ⟨rfl, rfl⟩; rw [hB1])
        go_ret3
        exact ⟨by rw [HF.out.1, HF.out.2.1, HF.out.2.2]; rfl, drewN_below _ _ _⟩
      · have hx01 := inR_t.1 hB1
        obtain rfl | rfl : x = 0 ∨ x = 1 := by omega
        · clear hx01
          go_wp2_with (go_at_call 58; refine (l1In_any _ _ _ _).mono ?_; rintro e w' ⟨rfl, rfl⟩; rw [hB1])
          go_roundw
          case rel => exact ⟨k + 1, m, a, b, by omega, by go_num, rfl, rfl, rfl, StI.zero hst.out HX.out⟩
          case measure => simp [intOf]; omega
        · clear hx01
          by_cases hb0 : b < 0
          · have ha0 : a < 0 := HAB.out.2 hb0
            go_wp2_with (go_at_call 58; refine (l1In_any _ _ _ _).mono ?_; rintro e w' ⟨rfl, rfl⟩; rw [hB1])
            go_roundw
            case rel => exact ⟨k + 1, m, k, k, by omega, by go_num, rfl, rfl, rfl, StI.first hst.out HX.out hb0⟩
            case measure => simp [intOf]; omega
          · have hb0' : 0 ≤ b := by omega
            have ha0 : ¬ a < 0 := fun h => hb0 (HAB.out.1 h)
            by_cases hbk : b = (k : Int) - 1
            · have hbk' : (b != (k : Int) - 1) = false := by rw [bne_eq_false_iff_eq]; exact hbk
              have hmo := Lib.hid (StI.more hst.out HX.out hb0' hbk)
              clear hbk
              go_wp2_with (go_at_call 58; refine (l1In_any _ _ _ _).mono ?_; rintro e w' ⟨rfl, rfl⟩; rw [hB1])
              go_roundw
              case rel => exact ⟨k + 1, m, a, k, by omega, by go_num, rfl, rfl, rfl, hmo.out⟩
              case measure => simp [intOf]; omega
            · have hbk' : (b != (k : Int) - 1) = true := by rw [bne_iff_ne]; exact hbk
              have hno := StI.gap hst.out HX.out hb0' hbk
              have HF := Lib.hid (And.intro (iv_no hno).1 (And.intro (iv_no hno).2 hno))
              clear hbk hno
              go_wp2_with (go_at_call 58; refine (l1In_any _ _ _ _).mono ?_; rintro e w' ⟨rfl, rfl⟩; rw [hB1])
              go_ret3
              exact ⟨by rw [HF.out.1, HF.out.2.1, HF.out.2.2]; rfl, drewN_below _ _ _⟩
    · obtain rfl : k = xs.length := by omega
      rcases StI.fin hst.out with ⟨h1, hno⟩ | ⟨h1, h2, h3, h4⟩
      · have HF := Lib.hid (And.intro (iv_no hno).1 (And.intro (iv_no hno).2 hno))
        clear hno
        go_wp2
        go_ret3
        exact ⟨by rw [HF.out.1, HF.out.2.1, HF.out.2.2]; rfl, drewN_below _ _ _⟩
      · have h1' : ¬ a < 0 := by omega
        have HF := Lib.hid (And.intro h3 (And.intro h4 h2))
        clear h2 h3 h4
        go_wp2
        go_ret3
        exact ⟨by rw [HF.out.1, HF.out.2.1, HF.out.2.2]; rfl, drewN_below _ _ _⟩
end Go.Proofs.Ytndnjbofflddfaa
