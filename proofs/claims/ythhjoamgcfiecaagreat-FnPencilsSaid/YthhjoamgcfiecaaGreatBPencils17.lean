/- FnPencils: the law holds for every argument. Part 17 of 18 of the proof: PcE. No condition. -/
import Derived.Test.YthhjoamgcfiecaaGreatBPencils16
set_option linter.unusedVariables false
set_option linter.unusedSimpArgs false
namespace Go.Proofs.YthhjoamgcfiecaaGreat
open Go.RowKit
def homV (X Y : Rp) : Nat := hmN X Y - rkL X.p (eqL X Y (hmN X Y) X.q.f.length) (hmN X Y)
def extV (X Y : Rp) : Nat := eqR X Y - rkL X.p (eqL X Y (hmN X Y) X.q.f.length) (hmN X Y)
theorem homN_ev (X Y : Rp) : homN X Y = homV X Y := by
 have h := rkF_ls (p := X.p) (c := hmN X Y) (L := eqL X Y (hmN X Y) X.q.f.length) fun l hl => (eqL_mem hl).1
 unfold homN homV eqG
 rw [← h]; rfl
theorem extN_ev (X Y : Rp) : extN X Y = extV X Y := by
 have h := rkF_ls (p := X.p) (c := hmN X Y) (L := eqL X Y (hmN X Y) X.q.f.length) fun l hl => (eqL_mem hl).1
 unfold extN extV eqG
 rw [← h]; rfl
def fit2B (X Y : Rp) : Bool := isRep X && isRep Y && decide (X.p = Y.p) && decide (X.q = Y.q)
theorem fit2B_t {X Y : Rp} (h : fit2B X Y = true) : Fit2 X Y := by
 simp only [fit2B, Bool.and_eq_true, decide_eq_true_eq] at h
 exact ⟨h.1.1.1, h.1.1.2, h.1.2, h.2⟩
def preV (p n : Int) : Bool := fit2B (prepP p n).1 (prepP p n).1 && fit2B (preiP p n).1 (preiP p n).1 && fit2B (preiP p n).1 (prepP p n).1 &&
 decide (homV (prepP p n).1 (prepP p n).1 = 1) && decide (extV (prepP p n).1 (prepP p n).1 = 0) && decide (homV (preiP p n).1 (preiP p n).1 = 1) &&
 (decide (n ≤ 0) || decide (homV (preiP p n).1 (prepP p n).1 = 0)) && (pkL (prepP p n).1).all fun x => decide (x = n)
theorem prep_t {p n : Int} (h : (prepP p n).2 = true) : isFld p = true ∧ 0 ≤ n ∧ n ≤ 3 := by
 rw [prepP] at h
 split at h
 ·rename_i h1
  rw [penOf] at h
  split at h
  ·rename_i h2
   exact ⟨(isRep_t.1 h2).1, inR_t.1 h1⟩
  ·simp at h
 ·simp at h
set_option maxRecDepth 100000 in
theorem prev_all {p n : Int} (h : (prepP p n).2 = true) : preV p n = true := by
 obtain ⟨hp, h0, h3⟩ := prep_t h
 have hn : n = 0 ∨ n = 1 ∨ n = 2 ∨ n = 3 := by omega
 rcases isFld_t.1 hp with rfl | rfl | rfl <;> rcases hn with rfl | rfl | rfl | rfl <;> decide +kernel
theorem pre_facts {p n : Int} (h : (prepP p n).2 = true) : Fit2 (prepP p n).1 (prepP p n).1 ∧ Fit2 (preiP p n).1 (preiP p n).1 ∧ Fit2 (preiP p n).1 (prepP p n).1 ∧
  homN (prepP p n).1 (prepP p n).1 = 1 ∧ extN (prepP p n).1 (prepP p n).1 = 0 ∧ homN (preiP p n).1 (preiP p n).1 = 1 ∧ (0 < n → homN (preiP p n).1 (prepP p n).1 = 0) ∧ ∀ x ∈ pkL (prepP p n).1, x = n := by
 have hv := prev_all h
 simp only [preV, Bool.and_eq_true, Bool.or_eq_true, decide_eq_true_eq, List.all_eq_true] at hv
 obtain ⟨⟨⟨⟨⟨⟨⟨a1, a2⟩, a3⟩, a4⟩, a5⟩, a6⟩, a7⟩, a8⟩ := hv
 rw [homN_ev, extN_ev, homN_ev, homN_ev]
 exact ⟨fit2B_t a1, fit2B_t a2, fit2B_t a3, a4, a5, a6, fun hn => a7.resolve_left (by omega), a8⟩
def regV (p n k : Int) : Bool := fit2B (regP p n k).1 (regP p n k).1 && decide (homV (regP p n k).1 (regP p n k).1 = n.toNat) && decide (extV (regP p n k).1 (regP p n k).1 = n.toNat) &&
 decide ((pkL (regP p n k).1).length = p.toNat + 1) && (List.range p.toNat).all fun i => decide ((pkL (regP p n k).1).getD i 0 = if (1 + (i : Int) * k) % p = 0 then n - 1 else n)
theorem reg_t {p n k : Int} (h : (regP p n k).2 = true) : isFld p = true ∧ (1 ≤ n ∧ n ≤ 4) ∧ 0 ≤ k ∧ k ≤ p - 1 := by
 rw [regP] at h
 split at h
 ·rename_i h1
  simp only [regOk, Bool.and_eq_true, inR_t] at h1
  exact ⟨h1.1, h1.2.1, h1.2.2⟩
 ·simp at h
set_option maxRecDepth 100000 in
theorem reg_2 {n k : Int} (hn : n = 1 ∨ n = 2 ∨ n = 3 ∨ n = 4) (hk : k = 0 ∨ k = 1) : regV 2 n k = true := by
 rcases hn with rfl | rfl | rfl | rfl <;> rcases hk with rfl | rfl <;> decide +kernel
set_option maxRecDepth 100000 in
theorem reg_3 {n k : Int} (hn : n = 1 ∨ n = 2 ∨ n = 3 ∨ n = 4) (hk : k = 0 ∨ k = 1 ∨ k = 2) : regV 3 n k = true := by
 rcases hn with rfl | rfl | rfl | rfl <;> rcases hk with rfl | rfl | rfl <;> decide +kernel
set_option maxRecDepth 100000 in
theorem reg_5 {n k : Int} (hn : n = 1 ∨ n = 2 ∨ n = 3 ∨ n = 4) (hk : k = 0 ∨ k = 1 ∨ k = 2 ∨ k = 3 ∨ k = 4) : regV 5 n k = true := by
 rcases hn with rfl | rfl | rfl | rfl <;> rcases hk with rfl | rfl | rfl | rfl | rfl <;> decide +kernel
theorem reg_facts {p n k : Int} (h : (regP p n k).2 = true) : Fit2 (regP p n k).1 (regP p n k).1 ∧ homN (regP p n k).1 (regP p n k).1 = n.toNat ∧ extN (regP p n k).1 (regP p n k).1 = n.toNat ∧
  (pkL (regP p n k).1).length = p.toNat + 1 ∧ ∀ i, i < p.toNat → (pkL (regP p n k).1).getD i 0 = if (1 + (i : Int) * k) % p = 0 then n - 1 else n := by
 obtain ⟨hp, hn, hk⟩ := reg_t h
 have hn' : n = 1 ∨ n = 2 ∨ n = 3 ∨ n = 4 := by omega
 have hv : regV p n k = true := by
  rcases isFld_t.1 hp with rfl | rfl | rfl
  ·exact reg_2 hn' (by omega)
  ·exact reg_3 hn' (by omega)
  ·exact reg_5 hn' (by omega)
 simp only [regV, Bool.and_eq_true, decide_eq_true_eq, List.all_eq_true, List.mem_range] at hv
 obtain ⟨⟨⟨⟨a1, a2⟩, a3⟩, a4⟩, a5⟩ := hv
 rw [homN_ev, extN_ev]
 exact ⟨fit2B_t a1, a2, a3, a4, a5⟩
end Go.Proofs.YthhjoamgcfiecaaGreat
