/- Intervals of a zigzag: plain part; matrices of a representation told by a function, one number written. -/
import Derived.Test.YtjhllgldllbaaaaZero3
import Derived.Test.YtjhllgldllbaaaaLine
import Derived.Test.YtjhllgldllbaaaaSS
import Derived.Test.YtjhllgldllbaaaaRepSz
namespace Go.Proofs.Ytjhllgldllbaaaa
set_option linter.unusedVariables false
set_option linter.unusedSimpArgs false
open Go.RowKit

/-! ### matrices told by a function of the place -/
def msF (n : Nat) (F : Nat → Mx) : List Mx := (List.range n).map F
theorem msF_length (n : Nat) (F : Nat → Mx) : (msF n F).length = n := by simp [msF]
theorem msF_get {n j : Nat} (F : Nat → Mx) (h : j < n) : (msF n F)[j]? = some (F j) := by simp [msF, h]
theorem msF_congr {n : Nat} {F G : Nat → Mx} (e : ∀ i, i < n → F i = G i) : msF n F = msF n G := by
  apply List.ext_getElem?
  intro i
  by_cases hi : i < n
  · rw [msF_get F hi, msF_get G hi, e i hi]
  · rw [List.getElem?_eq_none (by rw [msF_length]; omega), List.getElem?_eq_none (by rw [msF_length]; omega)]
theorem msF_set {n j : Nat} (F : Nat → Mx) (m : Mx) : (msF n F).set j m = msF n fun i => if i = j then m else F i := by
  apply List.ext_getElem?
  intro i
  rw [List.getElem?_set, msF_length]
  by_cases hi : i < n
  · rw [msF_get (fun i => if i = j then m else F i) hi]
    by_cases e : j = i
    · rw [if_pos e, if_pos (by omega), if_pos e.symm]
    · rw [if_neg e, msF_get _ hi, if_neg (fun h => e h.symm)]
  · rw [List.getElem?_eq_none (l := msF n fun i => if i = j then m else F i) (by rw [msF_length]; omega)]
    split
    · rw [if_neg (by omega)]
    · rw [List.getElem?_eq_none (by rw [msF_length]; omega)]
theorem msF_mem {n : Nat} {F : Nat → Mx} {m : Mx} (h : m ∈ msF n F) : ∃ i, i < n ∧ m = F i := by
  simp only [msF, List.mem_map, List.mem_range] at h
  obtain ⟨i, hi, rfl⟩ := h
  exact ⟨i, hi, rfl⟩

theorem mxCs_rc : ∀ (vs : List Value) (ms ms' : List Mx), ms.map (fun m => (m.r, m.c)) = ms'.map (fun m => (m.r, m.c)) → mxCs vs ms = mxCs vs ms'
  | [], ms, ms', _ => by simp [mxCs]
  | v :: vs, [], ms', h => by
    have : ms' = [] := by simpa using h.symm
    subst this; rfl
  | v :: vs, m :: ms, [], h => by simp at h
  | v :: vs, m :: ms, m' :: ms', h => by
    simp only [List.map_cons, List.cons.injEq, Prod.mk.injEq] at h
    simp only [mxCs, h.1.1, h.1.2, mxCs_rc vs ms ms' h.2]
theorem OutM.rc {w : World} {lo hi : Nat} {v : Value} {vs : List Value} {ms ms' : List Mx} (h : OutM w lo hi v vs ms) (e : ms.map (fun m => (m.r, m.c)) = ms'.map (fun m => (m.r, m.c))) : OutM w lo hi v vs ms' := by
  have h1 := congrArg List.length e
  simp only [List.length_map] at h1
  have h2 := mxCs_rc vs ms ms' e
  unfold OutM at h ⊢
  rw [← h1, ← h2]
  exact h
/-- a matrix among a representation's: where its cells lie -/
theorem OutM.at_ {w : World} {lo hi lo' hi' j : Nat} {mv : Value} {vs : List Value} {ms : List Mx} {L0 : List (Value × List Int)} {m : Mx} (h : OutM w lo hi mv vs ms) (hl : vs.length = ms.length) (hF : Fam w lo' hi' (L0 ++ vs.zip (ms.map Mx.a))) (hm : ms[j]? = some m) (hne : 0 < m.a.length) :
    ∃ gm cm g c, mv = .slice (some ⟨gm, 0, none⟩) ms.length cm ∧ gm < w.heap.size ∧ vs[j]? = some (.slice (some ⟨g, 0, none⟩) m.a.length c) ∧ w.cell? ⟨gm, j * 3, none⟩ = some (.int .i64 m.r) ∧ w.cell? ⟨gm, j * 3 + 1, none⟩ = some (.int .i64 m.c) ∧
      w.cell? ⟨gm, j * 3 + 2, none⟩ = some (.slice (some ⟨g, 0, none⟩) m.a.length c) ∧ OwnI w lo' (.slice (some ⟨g, 0, none⟩) m.a.length c) m.a ∧ (lo' ≤ g ∧ g < hi') ∧ m.a.length ≤ c ∧ c ≤ 9223372036854775807 ∧ ms.length ≤ cm ∧ cm ≤ 9223372036854775807 := by
  have hj := lt_of_some hm
  have hv : vs[j]? = some (vs[j]'(by omega)) := List.getElem?_eq_getElem (by omega)
  have hI := hF.getAt hv (show (ms.map Mx.a)[j]? = some m.a by simp [hm])
  obtain ⟨gm, cm, cur, e, h1, h2, h3, h4⟩ := RowO.at_ h (by omega)
  have hml := mxCs_length vs ms hl
  obtain ⟨a, b, c⟩ := mxCs_get hv hm
  rcases hI.1.1.2 with ⟨e', h0⟩ | ⟨g, cap, cur', e', hg, _, hnc, hcm, _⟩
  · omega
  · have hf := RowO.form h
    obtain ⟨A, c2, e2, l1, l2⟩ := hf
    rw [e] at e2
    injection e2 with e21 e22 e23
    subst e23
    have h1 := h.1
    subst e
    have c0 := h1.cellAt (j * 3) (by omega)
    have c1 := h1.cellAt (j * 3 + 1) (by omega)
    have c3 := h1.cellAt (j * 3 + 2) (by omega)
    refine ⟨gm, cm, g, cap, rfl, h3, by rw [hv, e'], by rw [c0]; exact a, by rw [c1]; exact b, by rw [c3, ← e']; exact c, by rw [← e']; exact hI.1, ⟨hg, hI.2 g (by simp [e', Value.ownBlock])⟩, hnc, by simp only [maxLen] at hcm; omega, l1, l2⟩
/-- one number of one matrix written -/
theorem mats_put {w : World} {lo hi lo' hi' j i g c : Nat} {mv : Value} {vs : List Value} {ms : List Mx} {L0 : List (Value × List Int)} {m : Mx} {x : Int} (hO : OutM w lo hi mv vs ms) (hF : Fam w lo' hi' (L0 ++ vs.zip (ms.map Mx.a)))
    (hv : vs[j]? = some (.slice (some ⟨g, 0, none⟩) m.a.length c)) (hm : ms[j]? = some m) (ho : OwnI w lo' (.slice (some ⟨g, 0, none⟩) m.a.length c) m.a) (hx : I64 x) :
    OutM (w.setCell ⟨g, i, none⟩ (.int .i64 x)) lo hi mv vs (ms.set j ⟨m.r, m.c, m.a.set i x⟩) ∧ Fam (w.setCell ⟨g, i, none⟩ (.int .i64 x)) lo' hi' (L0 ++ vs.zip ((ms.set j ⟨m.r, m.c, m.a.set i x⟩).map Mx.a)) := by
  have hp := ho.put (j := i) hx
  refine ⟨OutM.rc (ms := ms) (RowO.grown hO (by decide) ho hp.2) ?_, ?_⟩
  · apply List.ext_getElem?
    intro k
    rw [List.getElem?_map, List.getElem?_map, List.getElem?_set]
    by_cases e : j = k
    · subst e
      rw [if_pos rfl, if_pos (lt_of_some hm), hm]
      rfl
    · rw [if_neg e]
  · rw [List.map_set]
    exact hF.setAt hv (show (ms.map Mx.a)[j]? = some m.a by simp [hm]) hp.1 hp.2
theorem mats_I64 {ms : List Mx} {j : Nat} {m : Mx} {l : List Int} (h : ∀ m ∈ ms, I64 m.r ∧ I64 m.c) (hm : ms[j]? = some m) : ∀ x ∈ ms.set j ⟨m.r, m.c, l⟩, I64 x.r ∧ I64 x.c := by
  intro x hx
  rcases List.mem_or_eq_of_mem_set hx with hx | rfl
  · exact h x hx
  · exact h m (List.mem_of_getElem? hm)

/-! ### intervals -/
/-- dimensions: 1 from a on, below k -/
def ivF (a k : Nat) (v : Nat) : Int := if a ≤ v ∧ v < k then 1 else 0
theorem ivF_step {V a k : Nat} (hk : k < V) (ha : a ≤ k) : (rowF V (ivF a k)).set k 1 = rowF V (ivF a (k + 1)) := by
  rw [rowF_set]
  apply rowF_congr
  intro v hv
  unfold ivF
  repeat' split
  all_goals omega
theorem ivF_0 (V a : Nat) : List.replicate V (0 : Int) = rowF V (ivF a a) := by
  apply List.ext_getElem?
  intro i
  by_cases hi : i < V
  · rw [rowF_get _ hi]
    simp only [ivF, hi, List.getElem?_replicate, if_true]
    rw [if_neg (by omega)]
  · rw [List.getElem?_eq_none (by simp; omega), List.getElem?_eq_none (by rw [rowF_length]; omega)]
theorem ivF_r (a k v : Nat) : 0 ≤ ivF a k v ∧ ivF a k v ≤ 1 := by unfold ivF; split <;> omega
theorem ivF_sum (a k : Nat) : ∀ V, 0 ≤ (rowF V (ivF a k)).sum ∧ (rowF V (ivF a k)).sum ≤ V
  | 0 => by simp [rowF]
  | V + 1 => by
    have h := ivF_sum a k V
    have h2 := ivF_r a k V
    simp only [rowF, List.range_succ, List.map_append, List.sum_append, List.map_cons, List.map_nil, List.sum_cons, List.sum_nil] at h ⊢
    omega
theorem ivF_dims {q : Qv} {V : Nat} (hq : isQ q = true) (hV : q.v = V) (a k : Nat) : areDims q (rowF V (ivF a k)) = true := by
  have h5 := (isQ_t.1 hq).1
  have hs := ivF_sum a k V
  refine areDims_t.2 ⟨hq, by rw [rowF_length]; omega, fun x hx => ?_, by omega⟩
  simp only [rowF, List.mem_map, List.mem_range] at hx
  obtain ⟨i, _, rfl⟩ := hx
  have := ivF_r a k i
  omega
/-- the matrix of zeros at arrow i -/
def zmAt (q : Qv) (d : List Int) (i : Nat) : Mx := zmx (dAt d (q.t.getD i 0)) (dAt d (q.f.getD i 0))
theorem zms_F (q : Qv) (d : List Int) (n : Nat) : zms q d n = msF n (zmAt q d) := rfl
/-- the matrix with ones in place of all its numbers -/
def onesM (m : Mx) : Mx := ⟨m.r, m.c, List.replicate m.a.length 1⟩
def ziRep (p : Int) (q : Qv) (a b : Nat) : Rp := ⟨p, q, rowF q.v.toNat (ivF a (b + 1)), msF q.f.length fun i => onesM (zmAt q (rowF q.v.toNat (ivF a (b + 1))) i)⟩
def ziOk (ok : Bool) (p : Int) (q : Qv) (a b : Int) : Bool := isFld p && (ok && (inR a 0 (q.v - 1) && inR b a (q.v - 1)))
def ziP (ok : Bool) (p : Int) (q : Qv) (a b : Int) : Rp × Bool := if ziOk ok p q a b then (ziRep p q a.toNat b.toNat, true) else (rp0, false)
theorem ziP_no {ok : Bool} {p : Int} {q : Qv} {a b : Int} (h : ziOk ok p q a b = false) : ziP ok p q a b = (rp0, false) := by simp [ziP, h]
theorem ziP_yes {ok : Bool} {p : Int} {q : Qv} {a b : Int} (h : ziOk ok p q a b = true) : ziP ok p q a b = (ziRep p q a.toNat b.toNat, true) := by simp [ziP, h]

/-- at a zigzag's arrow i lie the vertices i and i + 1: the matrix has one number where both have dimension 1, none elsewhere -/
theorem ziZ_at {q : Qv} (hz : isZ q = true) {V a b i : Nat} (hV : q.v = V) (hi : i < q.f.length) : ∃ r c : Int, zmAt q (rowF V (ivF a (b + 1))) i = ⟨r, c, if a ≤ i ∧ i < b then [0] else []⟩ ∧ I64 r ∧ I64 c := by
  obtain ⟨hq, hl, ht⟩ := isZ_t hz
  obtain ⟨nf, nt, yf, yt, ef, et, df, dt, _⟩ := rep_at (x := ⟨0, q, rowF V (ivF a (b + 1)), []⟩) (ivF_dims hq hV a (b + 1)) (show i < q.f.length from hi)
  simp only at ef et df dt
  have hzz := ht i nf nt hi ef et
  simp only [zzAt, Bool.and_eq_true, decide_eq_true_eq] at hzz
  have lf : nf < V := by have := lt_of_some df; rwa [rowF_length] at this
  have lt : nt < V := by have := lt_of_some dt; rwa [rowF_length] at this
  rw [rowF_get _ lf] at df
  rw [rowF_get _ lt] at dt
  injection df with df
  injection dt with dt
  have e1 : dAt (rowF V (ivF a (b + 1))) (q.t.getD i 0) = ivF a (b + 1) nt := by rw [List.getD_eq_getElem?_getD, et]; exact dAt_of (rowF_get _ lt)
  have e2 : dAt (rowF V (ivF a (b + 1))) (q.f.getD i 0) = ivF a (b + 1) nf := by rw [List.getD_eq_getElem?_getD, ef]; exact dAt_of (rowF_get _ lf)
  refine ⟨ivF a (b + 1) nt, ivF a (b + 1) nf, ?_, by have := ivF_r a (b + 1) nt; unfold I64; omega, by have := ivF_r a (b + 1) nf; unfold I64; omega⟩
  rw [zmAt, e1, e2, zmx]
  congr 1
  by_cases h : a ≤ i ∧ i < b
  · rw [if_pos h]
    have h1 : ivF a (b + 1) nt = 1 := by unfold ivF; rw [if_pos]; omega
    have h2 : ivF a (b + 1) nf = 1 := by unfold ivF; rw [if_pos]; omega
    rw [h1, h2]; rfl
  · rw [if_neg h]
    have h0 : ivF a (b + 1) nt = 0 ∨ ivF a (b + 1) nf = 0 := by
      unfold ivF
      by_cases g : a ≤ nt ∧ nt < b + 1
      · right; rw [if_neg]; omega
      · left; rw [if_neg g]
    rcases h0 with h0 | h0 <;> rw [h0] <;> simp
theorem ziP_size {ok : Bool} (p : Int) (q : Qv) (a b : Int) (hz : ok = true → isZ q = true) : (ziP ok p q a b).1.size ≤ 1000 := by
  rcases h : ziOk ok p q a b with _ | _
  · rw [ziP_no h]; simp [rp0_size]
  · rw [ziP_yes h]
    simp only [ziOk, Bool.and_eq_true] at h
    have hz := hz h.2.1
    obtain ⟨q1, q2, q3, q4, q5⟩ := isQ_t.1 (isZ_t hz).1
    have hV : q.v = (q.v.toNat : Nat) := by omega
    have h5 := totA_le (ms := (ziRep p q a.toNat b.toNat).m) (n := 1) (fun m hm => by
      obtain ⟨i, hi, rfl⟩ := msF_mem hm
      obtain ⟨r, c, e, _⟩ := ziZ_at hz (a := a.toNat) (b := b.toNat) hV hi
      rw [onesM, e]
      simp only [List.length_replicate]
      split <;> simp)
    simp only [Rp.size, Qv.size, szM]
    have : (ziRep p q a.toNat b.toNat).m.length = q.f.length := msF_length _ _
    have : (ziRep p q a.toNat b.toNat).d.length = q.v.toNat := rowF_length _ _
    have : (ziRep p q a.toNat b.toNat).q = q := rfl
    simp only [this]
    omega
end Go.Proofs.Ytjhllgldllbaaaa
