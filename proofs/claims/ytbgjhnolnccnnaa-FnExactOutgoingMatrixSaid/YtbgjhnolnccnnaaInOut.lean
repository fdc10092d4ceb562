/- The matrices of the arrows from a source, and to a sink: plain part, and what walks need. -/
import Derived.Test.YtbgjhnolnccnnaaConc
import Derived.Test.YtbgjhnolnccnnaaSrc
import Derived.Test.YtbgjhnolnccnnaaMat3
import Derived.Test.YtbgjhnolnccnnaaRepSz
namespace Go.Proofs.Ytbgjhnolnccnnaa
set_option linter.unusedVariables false
set_option linter.unusedSimpArgs false
open Go.RowKit

/-- a valid representation at an arrow -/
theorem isRep_at {x : Rp} (hx : isRep x = true) {k : Nat} (hk : k < x.q.f.length) : ∃ (m : Mx) (nf nt yf yt : Nat), x.m[k]? = some m ∧ x.q.f[k]? = some (nf : Int) ∧ x.q.t[k]? = some (nt : Int) ∧ x.d[nf]? = some (yf : Int) ∧ x.d[nt]? = some (yt : Int) ∧
    m = mxF yt yf (entry m.a yf) ∧ (∀ i j, i < yt → j < yf → 0 ≤ entry m.a yf i j ∧ entry m.a yf i j ≤ x.p - 1) ∧ yf ≤ 4 ∧ yt ≤ 4 ∧ nf ≤ 5 ∧ nt ≤ 5 ∧ nf < x.d.length ∧ nt < x.d.length ∧ k < x.q.t.length ∧ k < x.m.length := by
  obtain ⟨h1, h2, h3, h4⟩ := isRep_t.1 hx
  obtain ⟨nf, nt, yf, yt, ef, et, df, dt, lf, lt, l5, l6, l7⟩ := rep_at h2 hk
  have hd := (areDims_t.1 h2).2.2.1
  have bf := hd _ (List.mem_of_getElem? df)
  have bt := hd _ (List.mem_of_getElem? dt)
  have hkm : k < x.m.length := by omega
  have em := List.getElem?_eq_getElem hkm
  obtain ⟨m, hm⟩ : ∃ m, x.m[k] = m := ⟨_, rfl⟩
  rw [hm] at em
  have h5 := h4
  simp only [okMs, List.all_eq_true, List.mem_range] at h5
  have h6 := h5 k hkm
  simp only [List.getD_eq_getElem?_getD, em, ef, et, Option.getD_some] at h6
  simp only [okM, Bool.and_eq_true, decide_eq_true_eq] at h6
  obtain ⟨⟨hM, hc⟩, hr⟩ := h6
  rw [dAt_of df] at hc
  rw [dAt_of dt] at hr
  obtain ⟨_, _, hl, hv⟩ := isMat_t.1 hM
  obtain ⟨YF, rfl⟩ := Int.eq_ofNat_of_zero_le bf.1
  obtain ⟨YT, rfl⟩ := Int.eq_ofNat_of_zero_le bt.1
  have hl' : m.a.length = YT * YF := by
    rw [hr, hc] at hl
    exact_mod_cast hl
  have hrange := (isVec_t.1 hv).2.2
  refine ⟨m, nf, nt, YF, YT, em, ef, et, df, dt, ?_, fun i j hi hj => ?_, by omega, by omega, l5, l6, lf, lt, l7, hkm⟩
  · rw [mx_ext]
    exact ⟨hr, hc, flat_of hl'⟩
  · refine hrange _ ?_
    have := ix_lt hi hj
    rw [entry, List.getD_eq_getElem?_getD, List.getElem?_eq_getElem (by omega)]
    exact List.getElem_mem _

/-- rows (or columns) met so far, and the entries -/
def outS (x : Rp) (v : Int) (C : Nat) : Nat → Nat × (Nat → Nat → Int)
  | 0 => (0, fun _ _ => 0)
  | k + 1 => if x.q.f.getD k 0 = v then ((outS x v C k).1 + (x.m.getD k ⟨0, 0, []⟩).r.toNat, blF (outS x v C k).1 (outS x v C k).2 (entry (x.m.getD k ⟨0, 0, []⟩).a C)) else outS x v C k
def inS (x : Rp) (v : Int) (R : Nat) : Nat → Nat × (Nat → Nat → Int)
  | 0 => (0, fun _ _ => 0)
  | k + 1 => if x.q.t.getD k 0 = v then ((inS x v R k).1 + (x.m.getD k ⟨0, 0, []⟩).c.toNat, bsF (inS x v R k).1 (inS x v R k).2 (entry (x.m.getD k ⟨0, 0, []⟩).a (x.m.getD k ⟨0, 0, []⟩).c.toNat)) else inS x v R k
theorem outS_no {x : Rp} {v : Int} {C k : Nat} {y : Int} (hf : x.q.f[k]? = some y) (h : y ≠ v) : outS x v C (k + 1) = outS x v C k := by
  rw [outS, if_neg]
  rw [List.getD_eq_getElem?_getD, hf]
  exact h
theorem inS_no {x : Rp} {v : Int} {C k : Nat} {y : Int} (hf : x.q.t[k]? = some y) (h : y ≠ v) : inS x v C (k + 1) = inS x v C k := by
  rw [inS, if_neg]
  rw [List.getD_eq_getElem?_getD, hf]
  exact h
theorem outS_yes {x : Rp} {v : Int} {C k yt : Nat} {m : Mx} (hf : x.q.f[k]? = some v) (hm : x.m[k]? = some m) (hr : m.r = (yt : Int)) : outS x v C (k + 1) = ((outS x v C k).1 + yt, blF (outS x v C k).1 (outS x v C k).2 (entry m.a C)) := by
  rw [outS, if_pos]
  · simp only [List.getD_eq_getElem?_getD, hm, Option.getD_some, hr, Int.toNat_natCast]
  · rw [List.getD_eq_getElem?_getD, hf]; rfl
theorem inS_yes {x : Rp} {v : Int} {R k yf : Nat} {m : Mx} (hf : x.q.t[k]? = some v) (hm : x.m[k]? = some m) (hc : m.c = (yf : Int)) : inS x v R (k + 1) = ((inS x v R k).1 + yf, bsF (inS x v R k).1 (inS x v R k).2 (entry m.a yf)) := by
  rw [inS, if_pos]
  · simp only [List.getD_eq_getElem?_getD, hm, Option.getD_some, hc, Int.toNat_natCast]
  · rw [List.getD_eq_getElem?_getD, hf]; rfl
def outOk (x : Rp) (v : Int) : Bool := isRep x && endV x.q.t x.q v
def inOk (x : Rp) (v : Int) : Bool := isRep x && endV x.q.f x.q v
def mx0 : Mx := ⟨0, 0, []⟩
def outP (x : Rp) (v : Int) : Mx × Bool := if outOk x v then (mxF (outS x v (dAt x.d v).toNat x.q.f.length).1 (dAt x.d v).toNat (outS x v (dAt x.d v).toNat x.q.f.length).2, true) else (mx0, false)
def inP (x : Rp) (v : Int) : Mx × Bool := if inOk x v then (mxF (dAt x.d v).toNat (inS x v (dAt x.d v).toNat x.q.f.length).1 (inS x v (dAt x.d v).toNat x.q.f.length).2, true) else (mx0, false)
theorem MxO.zero (w : World) (lo hi : Nat) : MxO w lo hi (.agg #[.int .i64 0, .int .i64 0, .slice none 0 0]) mx0 := ⟨_, rfl, ⟨OwnI.nil _ _, by simp [Value.ownBlock]⟩, by simp [mx0, I64], by simp [mx0, I64]⟩
theorem MxO.setBlk {w : World} {lo hi g i : Nat} {v : Value} {m : Mx} {t : TypeId} {cs : Array Value} (h : MxO w lo hi v m) (hb : Blk w g t cs) (ht : 3 ≠ t) (u : Value) : MxO (w.setCell ⟨g, i, none⟩ u) lo hi v m := by
  obtain ⟨s, e, h1, h2⟩ := h
  exact ⟨s, e, ⟨h1.1.setCell (p := ⟨g, i, none⟩) (fun e => h1.1.blkne hb ht e.symm) u, h1.2⟩, h2⟩
/-- the state of a loop over the arrows is small -/
theorem outS_le {x : Rp} {v : Int} {C : Nat} (hx : isRep x = true) : ∀ k, k ≤ x.q.f.length → (outS x v C k).1 ≤ 4 * k
  | 0, _ => by simp [outS]
  | k + 1, hk => by
    have ih := outS_le (v := v) (C := C) hx k (by omega)
    obtain ⟨m, nf, nt, yf, yt, em, ef, et, df, dt, eM, _, b1, b2, _⟩ := isRep_at hx (show k < x.q.f.length by omega)
    by_cases h : (nf : Int) = v
    · rw [h] at ef
      rw [outS_yes ef em (yt := yt) (by rw [eM]; rfl)]
      simp only
      omega
    · rw [outS_no ef h]; omega
theorem inS_le {x : Rp} {v : Int} {C : Nat} (hx : isRep x = true) : ∀ k, k ≤ x.q.f.length → (inS x v C k).1 ≤ 4 * k
  | 0, _ => by simp [inS]
  | k + 1, hk => by
    have ih := inS_le (v := v) (C := C) hx k (by omega)
    obtain ⟨m, nf, nt, yf, yt, em, ef, et, df, dt, eM, _, b1, b2, _⟩ := isRep_at hx (show k < x.q.f.length by omega)
    by_cases h : (nt : Int) = v
    · rw [h] at et
      rw [inS_yes et em (yf := yf) (by rw [eM]; rfl)]
      simp only
      omega
    · rw [inS_no et h]; omega
def outM (x : Rp) (v : Int) (C k : Nat) : Mx := mxF (outS x v C k).1 C (outS x v C k).2
def inM (x : Rp) (v : Int) (C k : Nat) : Mx := mxF C (inS x v C k).1 (inS x v C k).2
theorem outM_0 (x : Rp) (v : Int) (C : Nat) : zmx 0 C = outM x v C 0 := zmx_flat 0 C
theorem inM_0 (x : Rp) (v : Int) (C : Nat) : zmx C 0 = inM x v C 0 := zmx_flat C 0
theorem outP_yes {x : Rp} {v : Int} {C : Nat} (h : outOk x v = true) (hC : dAt x.d v = (C : Int)) : outP x v = (outM x v C x.q.f.length, true) := by
  rw [outP, if_pos h, hC, Int.toNat_natCast]; rfl
theorem inP_yes {x : Rp} {v : Int} {C : Nat} (h : inOk x v = true) (hC : dAt x.d v = (C : Int)) : inP x v = (inM x v C x.q.f.length, true) := by
  rw [inP, if_pos h, hC, Int.toNat_natCast]; rfl
/-- what a vertex of a valid representation is -/
theorem vert_at {x : Rp} {v : Int} {l : List Int} (hx : isRep x = true) (hv : endV l x.q v = true) : ∃ n C : Nat, v = (n : Int) ∧ n < x.d.length ∧ x.d[n]? = some (C : Int) ∧ dAt x.d v = (C : Int) ∧ C ≤ 4 ∧ n ≤ 5 := by
  obtain ⟨h1, h2, h3, h4⟩ := areDims_t.1 (isRep_t.1 hx).2.1
  have hV := (isQ_t.1 h1).1
  simp only [endV, Bool.and_eq_true, inR_t] at hv
  obtain ⟨n, rfl⟩ := Int.eq_ofNat_of_zero_le hv.1.1
  have hl : n < x.d.length := by omega
  have e := List.getElem?_eq_getElem hl
  have b := h3 _ (List.mem_of_getElem? e)
  obtain ⟨C, hC⟩ := Int.eq_ofNat_of_zero_le b.1
  rw [hC] at e b
  exact ⟨n, C, rfl, hl, e, dAt_of e, by omega, by omega⟩
end Go.Proofs.Ytbgjhnolnccnnaa
