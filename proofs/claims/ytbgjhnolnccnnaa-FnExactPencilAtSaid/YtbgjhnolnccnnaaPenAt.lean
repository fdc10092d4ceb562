/- PencilAt of the program. -/
import Derived.Test.YtbgjhnolnccnnaaPlus
import Derived.Test.YtbgjhnolnccnnaaRepAt
import Derived.Test.YtbgjhnolnccnnaaPencil
import Derived.Test.YtbgjhnolnccnnaaNet2
namespace Go.Proofs.Ytbgjhnolnccnnaa
set_option linter.unusedVariables false
set_option linter.unusedSimpArgs false
open Go.RowKit

theorem pen_at {x : Rp} (h : isPen x = true) : ∃ (C R : Nat) (fa fb : Nat → Nat → Int), x.d = [(C : Int), (R : Int)] ∧ x.m = [mxF R C fa, mxF R C fb] ∧ C ≤ 4 ∧ R ≤ 4 ∧ isFld x.p = true ∧ x.q = pQ ∧
    (∀ i j, i < R → j < C → 0 ≤ fa i j ∧ fa i j ≤ x.p - 1) ∧ (∀ i j, i < R → j < C → 0 ≤ fb i j ∧ fb i j ≤ x.p - 1) := by
  simp only [isPen, Bool.and_eq_true, decide_eq_true_eq] at h
  obtain ⟨h1, h2⟩ := h
  obtain ⟨hp, hd, hl, _⟩ := isRep_t.1 h1
  have hdl := (areDims_t.1 hd).2.1
  rw [h2] at hdl hl
  obtain ⟨m0, nf, nt, yf, yt, em, ef, et, df, dt, eM, he, b1, b2, _⟩ := isRep_at h1 (k := 0) (by rw [h2]; decide)
  obtain ⟨m1, nf', nt', yf', yt', em', ef', et', df', dt', eM', he', b1', b2', _⟩ := isRep_at h1 (k := 1) (by rw [h2]; decide)
  rw [h2] at ef et ef' et'
  simp only [pQ, List.getElem?_cons_zero, List.getElem?_cons_succ, Option.some.injEq] at ef et ef' et' hdl hl
  obtain rfl : nf = 0 := by omega
  obtain rfl : nt = 1 := by omega
  obtain rfl : nf' = 0 := by omega
  obtain rfl : nt' = 1 := by omega
  rw [df] at df'
  rw [dt] at dt'
  injection df' with df'
  injection dt' with dt'
  obtain rfl : yf = yf' := by omega
  obtain rfl : yt = yt' := by omega
  have hd2 : x.d.length = 2 := by omega
  have hm2 : x.m.length = 2 := by simpa using hl
  refine ⟨yf, yt, entry m0.a yf, entry m1.a yf, ?_, ?_, b1, b2, hp, h2, he, he'⟩
  · match hx : x.d, hd2 with
    | [a, b], _ =>
      rw [hx] at df dt
      simp only [List.getElem?_cons_zero, List.getElem?_cons_succ, Option.some.injEq] at df dt
      rw [df, dt]
  · match hx : x.m, hm2 with
    | [a, b], _ =>
      rw [hx] at em em'
      simp only [List.getElem?_cons_zero, List.getElem?_cons_succ, Option.some.injEq] at em em'
      rw [em, em', ← eM, ← eM']

def penM (x : Rp) (a b : Int) : Mx := mxF ((x.m.getD 0 mx0).r.toNat) ((x.m.getD 0 mx0).c.toNat) (plF x.p b (plF x.p a (fun _ _ => 0) (entry (x.m.getD 0 mx0).a (x.m.getD 0 mx0).c.toNat)) (entry (x.m.getD 1 mx0).a (x.m.getD 0 mx0).c.toNat))
theorem entry_flat {r c i j : Nat} (f : Nat → Nat → Int) (hi : i < r) (hj : j < c) : entry (flat r c f) c i j = f i j := flat_getD f hi hj
theorem penM_of {x : Rp} {a b : Int} {C R : Nat} {fa fb : Nat → Nat → Int} (hm : x.m = [mxF R C fa, mxF R C fb]) : penM x a b = mxF R C (plF x.p b (plF x.p a (fun _ _ => 0) fa) fb) := by
  simp only [penM, hm, List.getD_cons_zero, List.getD_cons_succ, mxF, Int.toNat_natCast]
  rw [mx_ext]
  refine ⟨rfl, rfl, flat_congr fun i j hi hj => ?_⟩
  simp only [plF, entry_flat fa hi hj, entry_flat fb hi hj]
theorem plF_rng {p k : Int} {f g : Nat → Nat → Int} (hp : 2 ≤ p ∧ p ≤ 5) (i j : Nat) : 0 ≤ plF p k f g i j ∧ plF p k f g i j ≤ 4 := by
  have h1 := Int.emod_nonneg (f i j + k * g i j) (show p ≠ 0 by omega)
  have h2 := Int.emod_lt_of_pos (f i j + k * g i j) (show 0 < p by omega)
  unfold plF
  omega
end Go.Proofs.Ytbgjhnolnccnnaa
