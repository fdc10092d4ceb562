/- Valid representations are small. -/
import Derived.Test.YtjhllgldllbaaaaMat3
namespace Go.Proofs.Ytjhllgldllbaaaa
set_option linter.unusedVariables false
set_option linter.unusedSimpArgs false
open Go.RowKit

theorem okMs_all {x : Rp} (h : okMs x x.m.length = true) : ∀ m ∈ x.m, isMat x.p m = true := by
  intro m hm
  obtain ⟨j, hj⟩ := List.getElem?_of_mem hm
  have hl := lt_of_some hj
  simp only [okMs, List.all_eq_true, List.mem_range] at h
  have := h j hl
  rw [List.getD_eq_getElem?_getD, hj, Option.getD_some] at this
  simp only [okM, Bool.and_eq_true] at this
  exact this.1.1
theorem isRep_t {x : Rp} : isRep x = true ↔ isFld x.p = true ∧ areDims x.q x.d = true ∧ x.m.length = x.q.f.length ∧ okMs x x.m.length = true := by
  simp only [isRep, Bool.and_eq_true, decide_eq_true_eq, and_assoc]
theorem totA_le {ms : List Mx} {n : Nat} (h : ∀ m ∈ ms, m.a.length ≤ n) : totA ms ≤ ms.length * n := by
  induction ms with
  | nil => simp [totA, tot]
  | cons m ms ih =>
    have h1 := h m (by simp)
    have h2 := ih (fun x hx => h x (by simp [hx]))
    simp only [totA, tot, List.map_cons, List.sum_cons, List.length_cons] at h2 ⊢
    rw [Nat.add_mul]
    omega
theorem isRep_size {x : Rp} (h : isRep x = true) : x.size ≤ 1000 := by
  obtain ⟨h1, h2, h3, h4⟩ := isRep_t.1 h
  obtain ⟨k1, k2, k3, k4⟩ := areDims_t.1 h2
  obtain ⟨q1, q2, q3, q4, q5⟩ := isQ_t.1 k1
  have h5 := totA_le (ms := x.m) (n := 64) (fun m hm => (isVec_t.1 (isMat_t.1 (okMs_all h4 m hm)).2.2.2).2.1)
  simp only [Rp.size, Qv.size, szM]
  have : x.m.length * 64 ≤ 6 * 64 := Nat.mul_le_mul_right _ (by omega)
  omega
theorem rp0_size : rp0.size = 0 := rfl
end Go.Proofs.Ytjhllgldllbaaaa
