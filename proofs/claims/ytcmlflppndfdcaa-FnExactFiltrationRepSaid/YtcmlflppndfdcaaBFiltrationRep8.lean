/- FnExactFiltrationRep: for every argument the program's function returns what the reference's returns. Part 8 of 11 of the proof: DsM, RpK, Ident, RowAt, RowZ, RepCl, RepAt, ColZ, FromC, Tran, Besd, Conc, DsP. No condition. -/
import Derived.Test.YtcmlflppndfdcaaBFiltrationRep7
import Derived.Shelf.Spec.SlicesGrow
/- Memory of sums: a number put into the dimensions, a matrix put in its place. -/
namespace Go.Proofs.Ytcmlflppndfdcaa
set_option linter.unusedVariables false
set_option linter.unusedSimpArgs false
open Go.RowKit

theorem mxCs_set3 : ∀ {vs : List Value} {ms : List Mx} {j : Nat}, j < ms.length → vs.length = ms.length → ∀ (m : Mx) (u : Value),
    (((mxCs vs ms).set (j * 3) (.int .i64 m.r)).set (j * 3 + 1) (.int .i64 m.c)).set (j * 3 + 2) u = mxCs (vs.set j u) (ms.set j m)
  | _, [], _, h, _, _, _ => by simp at h
  | [], _ :: _, _, _, h, _, _ => by simp at h
  | v :: vs, m :: ms, 0, _, _, x, u => by simp [mxCs]
  | v :: vs, m :: ms, j + 1, h, h2, x, u => by
    have := mxCs_set3 (vs := vs) (ms := ms) (j := j) (by simpa using h) (by simpa using h2) x u
    simp only [mxCs, show (j + 1) * 3 = j * 3 + 1 + 1 + 1 by omega, show j * 3 + 1 + 1 + 1 + 1 = (j * 3 + 1) + 1 + 1 + 1 by omega, show j * 3 + 1 + 1 + 1 + 2 = (j * 3 + 2) + 1 + 1 + 1 by omega, List.set_cons_succ, this]
abbrev set3 (w : World) (g i : Nat) (a b c : Value) : World := ((w.setCell ⟨g, i, none⟩ a).setCell ⟨g, i + 1, none⟩ b).setCell ⟨g, i + 2, none⟩ c
theorem RowO.len {T : TypeId} {sz : Nat} {w : World} {lo hi g c n m : Nat} {cs : List Value} (h : RowO T sz w lo hi (.slice (some ⟨g, 0, none⟩) n c) m cs) : n = m := by
  rcases h.1.2 with ⟨e, _⟩ | ⟨g', cap', cur, e, _⟩
  · cases e
  · injection e with _ e _
theorem chg_set1 (w : World) (g i : Nat) (u : Value) : Chg g (g + 1) w (w.setCell ⟨g, i, none⟩ u) := chg_set (Nat.le_refl _) (Nat.lt_succ_self _)
theorem chg_set3 (w : World) (g i : Nat) (a b c : Value) : Chg g (g + 1) w (set3 w g i a b c) :=
  ((chg_set1 w g i a).trans (chg_set1 _ g (i + 1) b)).trans (chg_set1 _ g (i + 2) c)
theorem OutM.setMx {w : World} {lo hi g n c j : Nat} {vs : List Value} {ms : List Mx} (h : OutM w lo hi (.slice (some ⟨g, 0, none⟩) n c) vs ms) (hl : vs.length = ms.length) (hj : j < ms.length) (m : Mx) (u : Value) :
    OutM (set3 w g (j * 3) (.int .i64 m.r) (.int .i64 m.c) u) lo hi (.slice (some ⟨g, 0, none⟩) n c) (vs.set j u) (ms.set j m) := by
  have e := RowO.len h
  subst e
  have h1 := (RowO.stored h (j * 3) (.int .i64 m.r)).1
  have h2 := (RowO.stored h1 (j * 3 + 1) (.int .i64 m.c)).1
  have h3 := (RowO.stored h2 (j * 3 + 2) u).1
  rw [mxCs_set3 hj hl] at h3
  unfold OutM
  rw [List.length_set]
  exact h3
theorem Fam.swap {w : World} {lo hi mi hi' j : Nat} {L0 : List (Value × List Int)} {vs : List Value} {ll : List (List Int)} {u : Value} {l : List Int} (h : Fam w lo hi (L0 ++ vs.zip ll)) (hj : j < ll.length) (hl : vs.length = ll.length) (hu : IntsO w mi hi' u l) (h1 : hi ≤ mi) (h2 : mi ≤ hi') (h3 : lo ≤ mi) :
    Fam w lo hi' (L0 ++ (vs.set j u).zip (ll.set j l)) := by
  have hv : vs[j]? = some (vs[j]'(by omega)) := List.getElem?_eq_getElem (by omega)
  have hl' : ll[j]? = some (ll[j]'hj) := List.getElem?_eq_getElem hj
  have hsv : (vs.set j u)[j]? = some u := by rw [List.getElem?_set, if_pos rfl, if_pos (by omega)]
  have hsl : (ll.set j l)[j]? = some l := by rw [List.getElem?_set, if_pos rfl, if_pos hj]
  rw [zip_split hsv hsl, List.take_set_of_le (Nat.le_refl j), List.drop_set_of_lt (by omega), List.take_set_of_le (Nat.le_refl j), List.drop_set_of_lt (by omega)]
  rw [zip_split hv hl', ← List.append_assoc] at h
  rw [← List.append_assoc]
  generalize L0 ++ (vs.take j).zip (ll.take j) = M1 at h ⊢
  generalize (vs.drop (j + 1)).zip (ll.drop (j + 1)) = M2 at h ⊢
  obtain ⟨G1, G2⟩ := h
  rw [List.pairwise_append] at G2
  obtain ⟨P1, P2, P3⟩ := G2
  rw [List.pairwise_cons] at P2
  refine ⟨fun p hp => ?_, ?_⟩
  · rcases List.mem_append.1 hp with hp | hp
    · exact (G1 p (by simp [hp])).wider (Nat.le_refl _) (by omega)
    · rcases List.mem_cons.1 hp with rfl | hp
      · exact hu.wider h3 (Nat.le_refl _)
      · exact (G1 p (by simp [hp])).wider (Nat.le_refl _) (by omega)
  · rw [List.pairwise_append, List.pairwise_cons]
    refine ⟨P1, ⟨fun p hp => ?_, P2.2⟩, fun p hp q hq => ?_⟩
    · rcases hA : u.ownBlock with _ | x
      · exact .inl rfl
      · refine .inr fun e2 => ?_
        have h5 := (G1 p (by simp [hp])).2 x e2.symm
        have h6 := (hu.1.lt x hA).1
        omega
    · rcases List.mem_cons.1 hq with rfl | hq
      · rcases hA : p.1.ownBlock with _ | x
        · exact .inl rfl
        · refine .inr fun e => ?_
          have h5 := (G1 p (by simp [hp])).2 x hA
          have h6 := (hu.1.lt x e.symm).1
          omega
      · exact P3 p hp q (by simp [hq])
theorem OutM.blk {w : World} {lo hi g n c : Nat} {vs : List Value} {ms : List Mx} (h : OutM w lo hi (.slice (some ⟨g, 0, none⟩) n c) vs ms) : ∃ cs, Blk w g 84 cs ∧ lo ≤ g ∧ g < hi := by
  have hg := h.2.1 g rfl
  rcases h.1.2 with ⟨e, _⟩ | ⟨g', cap', cur, e, k1, hh, _⟩
  · cases e
  · injection e with e1 e2 _
    injection e1 with e1
    injection e1 with e1
    subst e1
    exact ⟨cur, hh, k1, hg⟩
theorem Fam.set3 {w : World} {lo hi g i : Nat} {L : List (Value × List Int)} {t : TypeId} {cs : Array Value} (h : Fam w lo hi L) (hb : Blk w g t cs) (ht : 3 ≠ t) (a b c : Value) : Fam (set3 w g i a b c) lo hi L :=
  ((h.setBlk hb ht a).setBlk (hb.set_ i a) ht b).setBlk ((hb.set_ i a).set_ (i + 1) b) ht c
/-- a matrix of later memory put in its place -/
theorem RepO.setMx {w : World} {lo hi mi hi' g n c j : Nat} {p v r k : Int} {f t d u : Value} {x : Rp} {m : Mx} (h : RepO w lo hi (.agg #[.int .i64 p, .int .i64 v, f, t, d, .slice (some ⟨g, 0, none⟩) n c]) x) (hj : j < x.m.length)
    (hu : MxO w mi hi' (.agg #[.int .i64 r, .int .i64 k, u]) m) (h1 : hi ≤ mi) (h2 : mi ≤ hi') (h3 : lo ≤ mi) :
    RepO (set3 w g (j * 3) (.int .i64 r) (.int .i64 k) u) lo hi' (.agg #[.int .i64 p, .int .i64 v, f, t, d, .slice (some ⟨g, 0, none⟩) n c]) ⟨x.p, x.q, x.d, x.m.set j m⟩ ∧ lo ≤ g ∧ g < hi := by
  obtain ⟨f', t', d', m', vs, e, hO, hvl, hF, hi1, hi2⟩ := h
  simp only [Value.agg.injEq, Array.mk.injEq, List.cons.injEq, and_true] at e
  obtain ⟨rfl2, rfl3, rfl, rfl, rfl, rfl⟩ := e
  obtain ⟨s, e, hs, i1, i2⟩ := hu
  simp only [Value.agg.injEq, Array.mk.injEq, List.cons.injEq, and_true, Value.int.injEq, true_and] at e
  obtain ⟨rfl, rfl, rfl⟩ := e
  obtain ⟨cs, hb, hg1, hg2⟩ := OutM.blk hO
  refine ⟨⟨f, t, d, _, vs.set j u, by rw [rfl2, rfl3], (OutM.setMx hO hvl hj m u).mono (Nat.le_refl _) (by omega), by simp [hvl], ?_, hi1, fun y hy => ?_⟩, hg1, hg2⟩
  · have hF2 := hF.swap (j := j) (by simpa using hj) (by simpa using hvl) hs h1 h2 h3
    have hF3 := hF2.set3 (i := j * 3) hb (by decide) (.int .i64 m.r) (.int .i64 m.c) u
    rw [List.map_set]
    exact hF3
  · rcases List.mem_or_eq_of_mem_set hy with hy | rfl
    · exact hi2 y hy
    · exact ⟨i1, i2⟩
/-- a number put into the dimensions -/
theorem RepO.setDim {w : World} {lo hi g n c j : Nat} {p v y : Int} {f t m : Value} {x : Rp} (h : RepO w lo hi (.agg #[.int .i64 p, .int .i64 v, f, t, .slice (some ⟨g, 0, none⟩) n c, m]) x) (hy : I64 y) :
    RepO (w.setCell ⟨g, j, none⟩ (.int .i64 y)) lo hi (.agg #[.int .i64 p, .int .i64 v, f, t, .slice (some ⟨g, 0, none⟩) n c, m]) ⟨x.p, x.q, x.d.set j y, x.m⟩ ∧ lo ≤ g ∧ g < hi := by
  obtain ⟨f', t', d', m', vs, e, hO, hvl, hF, hi1, hi2⟩ := h
  simp only [Value.agg.injEq, Array.mk.injEq, List.cons.injEq, and_true] at e
  obtain ⟨rfl2, rfl3, rfl, rfl, rfl, rfl⟩ := e
  have hd : IntsO w lo hi (.slice (some ⟨g, 0, none⟩) n c) x.d := hF.1 (.slice (some ⟨g, 0, none⟩) n c, x.d) (by simp)
  have hp := hd.1.put (j := j) hy
  have hgb := hd.2 g rfl
  have hgl := (hd.1.lt g rfl).1
  refine ⟨⟨f, t, _, m, vs, by rw [rfl2, rfl3], ?_, hvl, ?_, hi1, hi2⟩, hgl, hgb⟩
  · exact RowO.grown hO (by decide) hd.1 hp.2
  · have := Fam.turn (L1 := [(f, x.q.f), (t, x.q.t)]) (L2 := vs.zip (x.m.map Mx.a)) (v := .slice (some ⟨g, 0, none⟩) n c) (l := x.d) (l' := x.d.set j y) (by simpa using hF) hp.1 hp.2
    simpa using this
/-- the cells of a representation of the call's own -/
theorem RepO.dimAt {w : World} {lo hi j : Nat} {p v : Int} {f t d m : Value} {x : Rp} (h : RepO w lo hi (.agg #[.int .i64 p, .int .i64 v, f, t, d, m]) x) (hj : j < x.d.length) :
    ∃ g c, d = .slice (some ⟨g, 0, none⟩) x.d.length c ∧ lo ≤ g ∧ g < hi ∧ w.cell? ⟨g, j, none⟩ = some (.int .i64 (x.d.getD j 0)) ∧ w.frozen? ⟨g, j, none⟩ = false ∧ I64 (x.d.getD j 0) := by
  obtain ⟨f', t', d', m', vs, e, hO, hvl, hF, hi1, hi2⟩ := h
  simp only [Value.agg.injEq, Array.mk.injEq, List.cons.injEq, and_true] at e
  obtain ⟨_, _, rfl, rfl, rfl, rfl⟩ := e
  have hd : IntsO w lo hi d x.d := hF.1 (d, x.d) (by simp)
  rcases hd.1.1.2 with ⟨rfl, h0⟩ | ⟨g, cap, cur, rfl, k1, hh, _⟩
  · omega
  · have h1 := hd.1.cellG hj
    exact ⟨g, cap, rfl, k1, hd.2 g rfl, h1.1, hd.1.frozenG j, h1.2⟩
theorem RepO.mxAt {w : World} {lo hi j : Nat} {p v : Int} {f t d m : Value} {x : Rp} {y : Mx} (h : RepO w lo hi (.agg #[.int .i64 p, .int .i64 v, f, t, d, m]) x) (hj : x.m[j]? = some y) :
    ∃ g c s, m = .slice (some ⟨g, 0, none⟩) x.m.length c ∧ lo ≤ g ∧ g < hi ∧ w.cell? ⟨g, j * 3, none⟩ = some (.int .i64 y.r) ∧ w.cell? ⟨g, j * 3 + 1, none⟩ = some (.int .i64 y.c) ∧ w.cell? ⟨g, j * 3 + 2, none⟩ = some s ∧ IntsO w lo hi s y.a ∧ (∀ i, w.frozen? ⟨g, i, none⟩ = false) ∧ I64 y.r ∧ I64 y.c := by
  obtain ⟨f', t', d', m', vs, e, hO, hvl, hF, hi1, hi2⟩ := h
  simp only [Value.agg.injEq, Array.mk.injEq, List.cons.injEq, and_true] at e
  obtain ⟨_, _, rfl, rfl, rfl, rfl⟩ := e
  have hjl := lt_of_some hj
  have hv : vs[j]? = some (vs[j]'(by omega)) := List.getElem?_eq_getElem (by omega)
  obtain ⟨a, b, c⟩ := mxCs_get hv hj
  rcases hO.1.2 with ⟨rfl, h0⟩ | ⟨g, cap, cur, rfl, k1, hh, _⟩
  · omega
  · have e := fun i (hi : i < 3) => hO.1.cellAt (j * 3 + i) (by omega)
    have hs := Fam.getAt (L0 := [(f, x.q.f), (t, x.q.t), (d, x.d)]) hF hv (l := y.a) (by simp [hj])
    exact ⟨g, cap, _, rfl, k1, hO.2.1 g rfl, by rw [show j * 3 = j * 3 + 0 by omega, e 0 (by omega)]; exact a, by rw [e 1 (by omega)]; exact b, by rw [e 2 (by omega)]; exact c, hs, fun i => hO.1.frozenAt i, hi2 y (List.mem_of_getElem? hj)⟩
end Go.Proofs.Ytcmlflppndfdcaa

/- A number put into a matrix of a representation of the program's making. -/
namespace Go.Proofs.Ytcmlflppndfdcaa
set_option linter.unusedVariables false
set_option linter.unusedSimpArgs false
open Go.RowKit

theorem RepO.putMx {w : World} {lo hi j i : Nat} {p v z : Int} {f t d m : Value} {x : Rp} {y : Mx} (h : RepO w lo hi (.agg #[.int .i64 p, .int .i64 v, f, t, d, m]) x) (hj : x.m[j]? = some y) (hi' : i < y.a.length) (hz : I64 z) :
    ∃ g c gr cr, m = .slice (some ⟨g, 0, none⟩) x.m.length c ∧ w.cell? ⟨g, j * 3, none⟩ = some (.int .i64 y.r) ∧ w.cell? ⟨g, j * 3 + 1, none⟩ = some (.int .i64 y.c) ∧ w.cell? ⟨g, j * 3 + 2, none⟩ = some (.slice (some ⟨gr, 0, none⟩) y.a.length cr) ∧ (∃ u, w.cell? ⟨gr, i, none⟩ = some u) ∧ w.frozen? ⟨gr, i, none⟩ = false ∧
      (x.m.length ≤ c ∧ c ≤ 9223372036854775807) ∧ (y.a.length ≤ cr ∧ cr ≤ 9223372036854775807) ∧ (lo ≤ gr ∧ gr < hi) ∧ (∀ (g' : Nat) (t' : TypeId) (cs' : Array Value), Blk w g' t' cs' → 3 ≠ t' → g' ≠ gr) ∧ RepO (w.setCell ⟨gr, i, none⟩ (.int .i64 z)) lo hi (.agg #[.int .i64 p, .int .i64 v, f, t, d, m]) ⟨x.p, x.q, x.d, x.m.set j ⟨y.r, y.c, y.a.set i z⟩⟩ := by
  obtain ⟨f', t', d', m', vs, e, hO, hvl, hF, hi1, hi2⟩ := h
  simp only [Value.agg.injEq, Array.mk.injEq, List.cons.injEq, and_true] at e
  obtain ⟨e1, e2, rfl, rfl, rfl, rfl⟩ := e
  obtain ⟨gm, cm, g, c, em, hgm, hv, c0, c1, c2, ho, hgb, k1, k2, k3, k4⟩ := OutM.at_ hO hvl hF hj (by omega)
  have hput := mats_put (i := i) hO hF hv hj ho hz
  have hcell := (ho.cellG hi').1
  have hfr := ho.frozenG i
  refine ⟨gm, cm, g, c, em, c0, c1, c2, ⟨_, hcell⟩, hfr, ⟨k3, k4⟩, ⟨k1, k2⟩, hgb, fun g' t' cs' hb ht e => ho.blkne hb ht (by rw [e]; rfl), f, t, d, m, vs, by rw [e1, e2], hput.1, by simp [hvl], hput.2, hi1, mats_I64 hi2 hj⟩
end Go.Proofs.Ytcmlflppndfdcaa

/- Identity matrices: the program's and the reference's. -/
namespace Go.Proofs.Ytcmlflppndfdcaa
set_option linter.unusedVariables false
set_option linter.unusedSimpArgs false
open Go.RowKit

theorem IntsO.at_ {w : World} {lo hi : Nat} {v : Value} {l : List Int} (h : IntsO w lo hi v l) (h0 : 0 < l.length) : ∃ g c, v = .slice (some ⟨g, 0, none⟩) l.length c ∧ lo ≤ g ∧ g < hi ∧ g < w.heap.size := by
  rcases h.1.1.2 with ⟨rfl, h1⟩ | ⟨g, cap, cur, rfl, hg, hh, _⟩
  · omega
  · exact ⟨g, cap, rfl, hg, h.2 g rfl, (Array.getElem?_eq_some_iff.1 hh).1⟩
theorem IntsO.put {w : World} {lo hi g n cap j : Nat} {l : List Int} {x : Int} (h : IntsO w lo hi (.slice (some ⟨g, 0, none⟩) n cap) l) (hx : I64 x) : IntsO (w.setCell ⟨g, j, none⟩ (.int .i64 x)) lo hi (.slice (some ⟨g, 0, none⟩) n cap) (l.set j x) := ⟨(h.1.put hx).1, h.2⟩
def idF (a b : Nat) : Int := if a = b then 1 else 0
def idK (k a b : Nat) : Int := if a = b ∧ a < k then 1 else 0
theorem idK_0 (n : Nat) : flat n n (fun _ _ => 0) = flat n n (idK 0) := flat_congr fun a b _ _ => by simp [idK]
theorem idK_succ {n k : Nat} (h : k < n) : (flat n n (idK k)).set (k * n + k) 1 = flat n n (idK (k + 1)) := by
  rw [flat_set _ _ h h]
  refine flat_congr fun a b _ _ => ?_
  simp only [idK]
  by_cases e : a = b
  · subst e
    by_cases e2 : a = k
    · simp [e2]
    · simp only [e2, true_and, if_false, false_and]
      congr 1
      simp; omega
  · rw [if_neg (by omega), if_neg (by omega), if_neg (by omega)]
theorem idK_n (n : Nat) : flat n n (idK n) = flat n n idF := flat_congr fun a b ha _ => by simp [idK, idF, ha]

end Go.Proofs.Ytcmlflppndfdcaa

/- A row of a matrix of the program, in the matrix's own memory. -/
namespace Go.Proofs.Ytcmlflppndfdcaa
set_option linter.unusedVariables false
set_option linter.unusedSimpArgs false
open Go.RowKit

theorem ix_next {i r c P : Nat} (hi : i < r) (hr : r ≤ 1000) (hc : c ≤ 1000) (hP : wrap64 ((i : Int) * (c : Int)) = (P : Int)) :
    P = i * c ∧ wrap64 (((i : Int) + 1) * (c : Int)) = ((P + c : Nat) : Int) ∧ P + c ≤ r * c ∧ P + c ≤ 1000000 := by
  have h1 : (i + 1) * c ≤ r * c := Nat.mul_le_mul_right _ hi
  have h2 : r * c ≤ 1000 * 1000 := Nat.mul_le_mul hr hc
  have h3 : (i + 1) * c = i * c + c := by rw [Nat.add_mul, Nat.one_mul]
  have e1 : P = i * c := by
    rw [show ((i : Int) * (c : Int)) = ((i * c : Nat) : Int) by simp, IntWalk.wrap64_in _ ⟨by omega, by omega⟩] at hP
    omega
  refine ⟨e1, ?_, by omega, by omega⟩
  rw [show (((i : Int) + 1) * (c : Int)) = (((i + 1) * c : Nat) : Int) by simp, h3, ← e1]
  exact IntWalk.wrap64_in _ ⟨by omega, by omega⟩
set_option maxHeartbeats 800000 in
theorem row_at (r : Int) (c i P N cap g : Nat) (w : World) (h1 : wrap64 ((i : Int) * (c : Int)) = (P : Int)) (h2 : wrap64 (((i : Int) + 1) * (c : Int)) = ((P + c : Nat) : Int))
    (hN : P + c ≤ N) (hcap : N ≤ cap) (hb : cap ≤ 9223372036854775807) (h0 : 0 < c) (hi : i ≤ 1000) :
    Calls Try.prog 85 #[.agg #[.int .i64 r, .int .i64 c, .slice (some ⟨g, 0, none⟩) N cap], .int .i64 i] w fun e w' => e = .returned (.slice (some ⟨g, P, none⟩) c (cap - P)) ∧ Below w.heap.size w w' := by
  go_enter Try.func85, Try.ntmps85
  go_wp2
  exact bodyPost_ret (v := .slice (some ⟨g, P, none⟩) c (cap - P)) (by simp [results, go_sem]) rfl ⟨rfl, below_alloc _ _⟩
end Go.Proofs.Ytcmlflppndfdcaa

/- Rows of a matrix of the program, as lists. -/
namespace Go.Proofs.Ytcmlflppndfdcaa
set_option linter.unusedVariables false
set_option linter.unusedSimpArgs false
open Go.RowKit
set_option maxHeartbeats 800000 in
theorem row_zero (r : Int) (i cap : Nat) (A : Option Addr) (w : World) (hb : cap ≤ 9223372036854775807) (hi : i ≤ 1000) :
    Calls Try.prog 85 #[.agg #[.int .i64 r, .int .i64 0, .slice A 0 cap], .int .i64 i] w fun e w' => ∃ A, e = .returned (.slice A 0 cap) ∧ Below w.heap.size w w' := by
  go_enter Try.func85, Try.ntmps85
  go_wp2
  exact bodyPost_ret (by simp [results, go_sem]; rfl) rfl ⟨_, rfl, below_alloc _ _⟩

def rowsF (r c : Nat) (f : Nat → Nat → Int) : List (List Int) := (List.range r).map fun i => rowF c (f i)
theorem rowsF_length (r c : Nat) (f : Nat → Nat → Int) : (rowsF r c f).length = r := by simp [rowsF]
theorem rowsF_get {r c j : Nat} (f : Nat → Nat → Int) (h : j < r) : (rowsF r c f)[j]? = some (rowF c (f j)) := by simp [rowsF, h]
theorem rowsF_succ (r c : Nat) (f : Nat → Nat → Int) : rowsF (r + 1) c f = rowsF r c f ++ [rowF c (f r)] := by simp [rowsF, List.range_succ]
theorem rowF_mem {c : Nat} {g : Nat → Int} {x : Int} (h : x ∈ rowF c g) : ∃ j, j < c ∧ x = g j := by
  simp only [rowF, List.mem_map, List.mem_range] at h
  obtain ⟨j, hj, rfl⟩ := h
  exact ⟨j, hj, rfl⟩
/-- a stretch of a slice of ints -/
theorem SlI.part {w : World} {B g o n cap P c : Nat} {l l' : List Int} (h : SlI w B (.slice (some ⟨g, o, none⟩) n cap) l) (hn : n = l.length) (hc : P + l'.length ≤ l.length) (hl : ∀ j x, l'[j]? = some x → l[P + j]? = some x) (hcn : c = cap - P) :
    SlI w B (.slice (some ⟨g, o + P, none⟩) l'.length c) l' := by
  subst hn hcn
  obtain ⟨A', c', e, h1, h2, h3, h4⟩ := h
  injection e with e1 e2 e3
  subst e1 e3
  refine ⟨_, _, rfl, by omega, by omega, by omega, fun hp => ?_⟩
  obtain ⟨b, o', e, hb, hx⟩ := h4 (by omega)
  injection e with e
  injection e with e1 e2
  subst e1 e2
  refine ⟨g, o + P, rfl, hb, fun j x hj => ?_⟩
  have := hx (P + j) x (hl j x hj)
  rw [show o + P + j * 1 = o + (P + j) * 1 by omega]
  exact this
set_option maxHeartbeats 800000 in
theorem row_atO (r : Int) (c i P N cap g o : Nat) (w : World) (h1 : wrap64 ((i : Int) * (c : Int)) = (P : Int)) (h2 : wrap64 (((i : Int) + 1) * (c : Int)) = ((P + c : Nat) : Int))
    (hN : P + c ≤ N) (hcap : N ≤ cap) (hb : cap ≤ 9223372036854775807) (h0 : 0 < c) (hi : i ≤ 1000) :
    Calls Try.prog 85 #[.agg #[.int .i64 r, .int .i64 c, .slice (some ⟨g, o, none⟩) N cap], .int .i64 i] w fun e w' => e = .returned (.slice (some ⟨g, o + P, none⟩) c (cap - P)) ∧ Below w.heap.size w w' := by
  go_enter Try.func85, Try.ntmps85
  go_wp2
  exact bodyPost_ret (v := .slice (some ⟨g, o + P, none⟩) c (cap - P)) (by simp [results, go_sem]) rfl ⟨rfl, below_alloc _ _⟩
theorem row_any (u : Value) (r c i : Nat) (f : Nat → Nat → Int) (w : World) (hu : MxR w w.heap.size u (mxF r c f)) (hr : r ≤ 1000) (hc : c ≤ 1000) (hi : i < r) :
    Calls Try.prog 85 #[u, .int .i64 i] w fun e w' => ∃ v, e = .returned v ∧ SlI w' w'.heap.size v (rowF c (f i)) ∧ Below w.heap.size w w' := by
  obtain ⟨A, cap, rfl, hs, _, _, hl⟩ := hu.open_
  simp only [mxF] at hs hl ⊢
  rcases Nat.eq_zero_or_pos c with rfl | h0
  · obtain ⟨_, _, e, h1, h2, _⟩ := hs
    injection e with e1 e2 e3
    subst e1 e3
    have e : (flat r 0 f).length = 0 := by rw [flat_length]; rfl
    rw [e]
    refine (row_zero r i cap A w h2 (by omega)).mono fun e w' ⟨A', h3, h4⟩ => ⟨_, h3, ?_, h4⟩
    exact ⟨A', cap, by simp [rowF], by simp [rowF], h2, by simp [rowF], fun h => by simp [rowF] at h⟩
  · obtain ⟨P, J, hP, _, _, _, _⟩ := ix_walk hi h0 hr hc
    obtain ⟨hPi, hP2, hPL, _⟩ := ix_next hi hr hc hP
    have hlt := ix_lt hi h0
    have hs' := hs
    obtain ⟨_, _, e, h1, h2, h3, h4⟩ := hs
    injection e with e1 e2 e3
    subst e1 e3
    obtain ⟨b, o, rfl, hb, hx⟩ := h4 (by rw [flat_length]; omega)
    refine (row_atO r c i P _ cap b o w hP hP2 (by rw [flat_length]; exact hPL) h1 h2 h0 (by omega)).mono fun e w' ⟨h5, h6⟩ => ⟨_, h5, ?_, h6⟩
    have := SlI.part (P := P) (l' := rowF c (f i)) (SlI.next h6 hs') rfl (by rw [rowF_length, flat_length]; exact hPL) (fun j x hj => ?_) rfl
    · rwa [rowF_length] at this
    · have hjc := lt_of_some hj
      rw [rowF_length] at hjc
      rw [rowF_get _ hjc] at hj
      rw [hPi, flat_get f hi hjc]
      exact hj

set_option maxHeartbeats 1600000 in
theorem rows_any (u : Value) (r c : Nat) (f : Nat → Nat → Int) (w0 : World) (hu : MxR w0 w0.heap.size u (mxF r c f)) (hr : r ≤ 1000) (hc : c ≤ 1000) :
    Calls Try.prog 72 #[u] w0 fun e w' => ∃ v, e = .returned v ∧ IntssO w' w0.heap.size w'.heap.size v (rowsF r c f) ∧ Below w0.heap.size w0 w' := by
  have hu' := hu
  obtain ⟨A, cap, rfl, hs, i1, i2, hl⟩ := hu.open_
  clear hu
  simp only [mxF] at hs hl i1 i2 ⊢
  obtain ⟨W, hW⟩ : ∃ W, W = w0.alloc (.cells #[.int .i64 r, .int .i64 c, .slice A (flat r c f).length cap] 84) := ⟨_, rfl⟩
  have g0 : Below w0.heap.size w0 W := by rw [hW]; exact below_alloc _ _
  have kB : Blk W w0.heap.size 84 #[.int .i64 r, .int .i64 c, .slice A (flat r c f).length cap] := by rw [hW]; exact Blk.new _ _ _
  obtain ⟨L, hL⟩ : ∃ L, (flat r c f).length = L := ⟨_, rfl⟩
  simp only [mxF] at hu'
  rw [hL] at hu' hs hl kB hW ⊢
  clear hL
  have c0 := kB.cell' (i := 0) rfl
  have c1 := kB.cell' (i := 1) rfl
  have c2 := kB.cell' (i := 2) rfl
  have HU := Lib.hid (MxR.next g0 hu')
  have sz : w0.heap.size < W.heap.size := kB.lt
  go_enter Try.func72, Try.ntmps72
  go_wp2
  rw [← hW]
  clear hW
  go_loopw [3, 7] (fun out i wr => ∃ (k : Nat) (vs : List Value), k ≤ r ∧ i = .int .i64 k ∧ Below W.heap.size W wr ∧ OutO wr W.heap.size wr.heap.size out vs ∧ vs.length = k ∧ Fam wr W.heap.size wr.heap.size (vs.zip (rowsF k c f))) (fun _ i _ => r - (intOf i).toNat)
  case atStart => exact ⟨0, [], Nat.zero_le _, rfl, Below.refl _ _, ⟨World.ownsRow_nil _ _ _ _, by simp [Value.ownBlock], by simp⟩, rfl, ⟨fun p hp => by simp at hp, by simp⟩⟩
  case round =>
    clear c0 c1 c2
    obtain ⟨k, vs, hk, rfl, hbel, hO, hvl, hF⟩ := hrel
    have kB2 := kB.call hbel
    have c0 := kB2.cell' (i := 0) rfl
    have c1 := kB2.cell' (i := 1) rfl
    have c2 := kB2.cell' (i := 2) rfl
    have HVL := Lib.hid hvl
    clear hvl
    by_cases hlt : k < r
    · have HUR := Lib.hid (MxR.more hbel.size (MxR.below hbel HU.out))
      have hws := hbel.size
      obtain ⟨OA, oc, rfl, _, _⟩ := hO.form
      have HO := Lib.hid hO
      have HF := Lib.hid hF
      clear hO hF
      go_wp2_with fail
      refine (row_any _ r c k f _ HUR.out hr hc hlt).mono ?_; rintro e w1 ⟨v1, rfl, hv1, hb1⟩
      have hb0 := hb1
      go_wp2_with fail
      refine (clone_own _ _ _ hv1).mono ?_; rintro e wC ⟨v2, rfl, hI, hb2⟩
      have hbC := bthen hb1 hb2
      have hlo := hb1.size
      clear hb2 hb0
      obtain ⟨VA, vc, ev⟩ := hI.form
      rw [rowF_length] at ev
      subst ev
      have hO2 := HO.out.below hbC
      have hF2 := HF.out.below hbC
      have hbs := hbC.size
      have HI := Lib.hid hI
      have HO2 := Lib.hid hO2
      have HF2 := Lib.hid hF2
      have HBC := Lib.hid hbC
      clear hI hO2 hF2 hbC hb1 hv1
      (go_wp2_with (at_builtin; refine Hold.stop ?_)); unfold Hold
      obtain ⟨X, hX⟩ : ∃ X, X = wC.alloc (.cells #[.slice VA c vc] 22) := ⟨_, rfl⟩
      have gn : Below wC.heap.size wC X := by rw [hX]; exact below_alloc _ _
      have kn : Blk X wC.heap.size 22 #[.slice VA c vc] := by rw [hX]; exact Blk.new _ _ _
      have hO3 := HO2.out.below gn
      have hF3 := (HF2.out.snoc (HI.out.wider (lo' := wr.heap.size) hlo (Nat.le_refl _)) hws (by omega)).below gn
      have hXs := gn.size
      rw [← hX]
      clear hX
      refine wpList_appS rfl (.tmp 10) (.tmp 15) rfl W.heap.size (.slice OA vs.length oc) vs rfl hO3.1 _ _ (.slice VA c vc) rfl ⟨wC.heap.size, 0, rfl, kn.cell' (i := 0) rfl⟩ rfl (by have := HVL.out; omega) (by omega) ?_
      intro v' w' hn' hg' hv'
      have hbg : Below W.heap.size X w' := below_grown hg' (fun k hk => (hO3.1.lt k hk).1) (by omega)
      have hbt := (hbel.trans ((HBC.out).mono hws)).trans ((gn.mono (by omega)).trans hbg)
      have hF4 := Fam.grownO hF3 hO3.1 hg'
      have hws' := hbg.size
      have hO4 : OutO w' W.heap.size w'.heap.size v' (vs ++ [.slice VA c vc]) := ⟨hn', fun k hk => (hn'.lt k hk).2, by simp; have := HVL.out; omega⟩
      have HF4 := Lib.hid hF4
      have HO4 := Lib.hid hO4
      have HBT := Lib.hid hbt
      clear hn' hg' hv' hbg hbt hF4 hO4 hO3 hF3 kn gn
      go_wp2
      go_roundw
      case rel =>
        refine ⟨k + 1, vs ++ [.slice VA c vc], by omega, by go_num, HBT.out, HO4.out, by simp [HVL.out], ?_⟩
        have := HF4.out.mono (Nat.le_refl _) (show wC.heap.size ≤ w'.heap.size by omega)
        have e : (vs ++ [Value.slice VA c vc]).zip (rowsF (k + 1) c f) = vs.zip (rowsF k c f) ++ [(Value.slice VA c vc, rowF c (f k))] := by
          rw [rowsF_succ, List.zip_append (by rw [HVL.out, rowsF_length])]; rfl
        rw [e]
        exact this
      case measure => simp [intOf]; omega
    · obtain rfl : k = r := by omega
      have hO' := hO
      have hF' := hF
      go_wp2
      go_ret
      exact ⟨_, rfl, ⟨vs, hO'.mono (by omega) (Nat.le_refl _), by rw [HVL.out, rowsF_length], hF'.mono (by omega) (Nat.le_refl _)⟩, g0.trans (hbel.mono (by omega))⟩
end Go.Proofs.Ytcmlflppndfdcaa

/- (Rep).clone. -/
namespace Go.Proofs.Ytcmlflppndfdcaa
set_option linter.unusedVariables false
set_option linter.unusedSimpArgs false
open Go.RowKit

set_option maxHeartbeats 6400000 in
set_option maxRecDepth 100000 in
theorem repClone_any (u : Value) (y : Rp) (w0 : World) (hu : RpR w0 w0.heap.size u y) (hn : y.m.length ≤ 1000000) :
    Calls Try.prog 118 #[u] w0 fun e w' => ∃ v, e = .returned v ∧ RepO w' w0.heap.size w'.heap.size v y ∧ Below w0.heap.size w0 w' := by
  obtain ⟨A, a, C, c, E, e, H, h, rfl, hq, hd, hm, hp, ld, lm⟩ := hu.open_
  have hv := hu
  clear hu
  obtain ⟨W, hW⟩ : ∃ W, W = (w0.alloc (.cells #[.int .i64 y.p, .int .i64 y.q.v, .slice A y.q.f.length a, .slice C y.q.t.length c, .slice E y.d.length e, .slice H y.m.length h] 31)).alloc (.cells #[.int .i64 0, .int .i64 0, .slice none 0 0, .slice none 0 0, .slice none 0 0, .slice none 0 0] 31) := ⟨_, rfl⟩
  have g0 : Below w0.heap.size w0 W := by rw [hW]; exact ((Below.refl _ _).alloc (Nat.le_refl _) _).alloc (by simp) _
  have k1 : Blk W w0.heap.size 31 #[.int .i64 y.p, .int .i64 y.q.v, .slice A y.q.f.length a, .slice C y.q.t.length c, .slice E y.d.length e, .slice H y.m.length h] := by rw [hW]; exact (Blk.new _ _ _).alloc _
  have k2 : Blk W (w0.heap.size + 1) 31 #[.int .i64 0, .int .i64 0, .slice none 0 0, .slice none 0 0, .slice none 0 0, .slice none 0 0] := by
    rw [hW]
    have := Blk.new (w0.alloc (.cells #[.int .i64 y.p, .int .i64 y.q.v, .slice A y.q.f.length a, .slice C y.q.t.length c, .slice E y.d.length e, .slice H y.m.length h] 31)) 31 #[.int .i64 0, .int .i64 0, .slice none 0 0, .slice none 0 0, .slice none 0 0, .slice none 0 0]
    simpa only [World.size_alloc] using this
  have sz : W.heap.size = w0.heap.size + 1 + 1 := by rw [hW]; simp
  have SZ := Lib.hid sz
  clear sz
  have HIm := Lib.hid (SlM.I64s hm)
  have HQ := Lib.hid (QvR.next g0 hq)
  have HD := Lib.hid (SlI.next g0 hd)
  have HM := Lib.hid (SlM.next g0 hm)
  have HI := Lib.hid (show I64 y.p ∧ I64 y.q.v from by obtain ⟨_, _, _, _, _, _, _, _, _, h⟩ := hv; exact h)
  clear hq hd hm hv hp
  go_enter Try.func118, Try.ntmps118
  go_wp2
  rw [← hW]; clear hW
  refine wp_region_net (by kernel_rfl) [.eq (.pointer (some ⟨w0.heap.size, 0, none⟩)), .eq (.int .i64 y.p), .eq (.pointer (some ⟨w0.heap.size, 1, none⟩)), .eq (.agg #[.int .i64 y.q.v, .slice A y.q.f.length a, .slice C y.q.t.length c]), rel 4 (fun u lo hi w => QuivO w lo hi u y.q), .eq (.pointer (some ⟨w0.heap.size, 4, none⟩)), .eq (.slice E y.d.length e), rel 7 (fun u lo hi w => IntsO w lo hi u y.d), .eq (.pointer (some ⟨w0.heap.size, 5, none⟩)), .eq (.slice H y.m.length h), rel 10 (fun u lo hi w => MatsO w lo hi u y.m), .rel (fun x w => ∃ qa qb, x.v 4 = .agg #[.int .i64 y.q.v, qa, qb] ∧ x.v 11 = .agg #[.int .i64 y.p, .int .i64 y.q.v, qa, qb, x.v 7, x.v 10])] [[], [0], [], [2], [2, 3], [], [5], [2, 3, 4, 5, 6], [], [8], [2, 3, 4, 5, 6, 7, 8, 9], [0, 1, 2, 3, 4, 5, 6, 7, 8, 9, 10], [0, 1, 2, 3, 4, 5, 6, 7, 8, 9, 10, 11]] 12 (by kernel_rfl) ⟨trivial, trivial, trivial, trivial, rel_stable (fun u lo hi w w' h hb => h.below hb), trivial, trivial, rel_stable (fun u lo hi w w' h hb => h.below hb), trivial, trivial, rel_stable (fun u lo hi w w' h hb => h.below hb), fun x w w' h hb => h, trivial⟩ ⟨?_, ?_, ?_, ?_, ?_, ?_, ?_, ?_, ?_, ?_, ?_, ?_, trivial⟩ ?_
  · intro x w hb hk Q' hQ
    clear hk
    simp only [netAct, dstAt, List.getElem?_toArray, List.getElem?_cons_zero, List.getElem?_cons_succ, Option.bind_some, Act.put, List.setIfInBounds_toArray, List.set_cons_zero, List.set_cons_succ] at hQ ⊢
    go_wp2
    exact hQ (.pointer (some ⟨w0.heap.size, 0, none⟩)) _ (Below.refl _ _) rfl
  · intro x w hb hk Q' hQ
    have h0 : x.v 0 = .pointer (some ⟨w0.heap.size, 0, none⟩) := (hk 0 (by decide)).1
    clear hk
    simp only [netAct, dstAt, List.getElem?_toArray, List.getElem?_cons_zero, List.getElem?_cons_succ, Option.bind_some, Act.put, List.setIfInBounds_toArray, List.set_cons_zero, List.set_cons_succ] at hQ ⊢
    simp only [h0] at hQ ⊢
    clear h0
    have z := (k1.call hb).cell' (i := 0) rfl
    go_wp2
    exact hQ (.int .i64 y.p) _ (Below.refl _ _) rfl
  · intro x w hb hk Q' hQ
    clear hk
    simp only [netAct, dstAt, List.getElem?_toArray, List.getElem?_cons_zero, List.getElem?_cons_succ, Option.bind_some, Act.put, List.setIfInBounds_toArray, List.set_cons_zero, List.set_cons_succ] at hQ ⊢
    go_wp2
    exact hQ (.pointer (some ⟨w0.heap.size, 1, none⟩)) _ (Below.refl _ _) rfl
  · intro x w hb hk Q' hQ
    have h2 : x.v 2 = .pointer (some ⟨w0.heap.size, 1, none⟩) := (hk 2 (by decide)).1
    clear hk
    simp only [netAct, dstAt, List.getElem?_toArray, List.getElem?_cons_zero, List.getElem?_cons_succ, Option.bind_some, Act.put, List.setIfInBounds_toArray, List.set_cons_zero, List.set_cons_succ] at hQ ⊢
    simp only [h2] at hQ ⊢
    clear h2
    have z1 := (k1.call hb).cell' (i := 1) rfl
    have z2 := (k1.call hb).cell' (i := 2) rfl
    have z3 := (k1.call hb).cell' (i := 3) rfl
    go_wp2
    exact hQ (.agg #[.int .i64 y.q.v, .slice A y.q.f.length a, .slice C y.q.t.length c]) _ (Below.refl _ _) rfl
  · intro x w hb hk Q' hQ
    have h2 : x.v 2 = .pointer (some ⟨w0.heap.size, 1, none⟩) := (hk 2 (by decide)).1
    have h3 : x.v 3 = .agg #[.int .i64 y.q.v, .slice A y.q.f.length a, .slice C y.q.t.length c] := (hk 3 (by decide)).1
    clear hk
    simp only [netAct, dstAt, List.getElem?_toArray, List.getElem?_cons_zero, List.getElem?_cons_succ, Option.bind_some, Act.put, List.setIfInBounds_toArray, List.set_cons_zero, List.set_cons_succ] at hQ ⊢
    simp only [h2, h3] at hQ ⊢
    clear h2 h3
    go_wp2_with fail
    refine (qvClone_any _ y.q _ (QvR.next hb HQ.out)).mono ?_; rintro e w1 ⟨v1, rfl, ho, hb1⟩
    go_wp2
    exact hQ _ _ hb1 ho
  · intro x w hb hk Q' hQ
    clear hk
    simp only [netAct, dstAt, List.getElem?_toArray, List.getElem?_cons_zero, List.getElem?_cons_succ, Option.bind_some, Act.put, List.setIfInBounds_toArray, List.set_cons_zero, List.set_cons_succ] at hQ ⊢
    go_wp2
    exact hQ (.pointer (some ⟨w0.heap.size, 4, none⟩)) _ (Below.refl _ _) rfl
  · intro x w hb hk Q' hQ
    have h5 : x.v 5 = .pointer (some ⟨w0.heap.size, 4, none⟩) := (hk 5 (by decide)).1
    clear hk
    simp only [netAct, dstAt, List.getElem?_toArray, List.getElem?_cons_zero, List.getElem?_cons_succ, Option.bind_some, Act.put, List.setIfInBounds_toArray, List.set_cons_zero, List.set_cons_succ] at hQ ⊢
    simp only [h5] at hQ ⊢
    clear h5
    have z := (k1.call hb).cell' (i := 4) rfl
    go_wp2
    exact hQ (.slice E y.d.length e) _ (Below.refl _ _) rfl
  · intro x w hb hk Q' hQ
    have h2 : x.v 2 = .pointer (some ⟨w0.heap.size, 1, none⟩) := (hk 2 (by decide)).1
    have h3 : x.v 3 = .agg #[.int .i64 y.q.v, .slice A y.q.f.length a, .slice C y.q.t.length c] := (hk 3 (by decide)).1
    have h4 : QuivO w (x.lo 4) (x.hi 4) (x.v 4) y.q := (hk 4 (by decide)).1
    have h5 : x.v 5 = .pointer (some ⟨w0.heap.size, 4, none⟩) := (hk 5 (by decide)).1
    have h6 : x.v 6 = .slice E y.d.length e := (hk 6 (by decide)).1
    have s4 := (hk 4 (by decide)).2
    clear hk
    simp only [netAct, dstAt, List.getElem?_toArray, List.getElem?_cons_zero, List.getElem?_cons_succ, Option.bind_some, Act.put, List.setIfInBounds_toArray, List.set_cons_zero, List.set_cons_succ] at hQ ⊢
    simp only [h2, h3, h5, h6] at hQ ⊢
    clear h2 h3 h5 h6
    go_wp2_with fail
    refine (clone_own _ y.d _ (SlI.next hb HD.out)).mono ?_; rintro e w1 ⟨v1, rfl, ho, hb1⟩
    go_wp2
    exact hQ _ _ hb1 ho
  · intro x w hb hk Q' hQ
    clear hk
    simp only [netAct, dstAt, List.getElem?_toArray, List.getElem?_cons_zero, List.getElem?_cons_succ, Option.bind_some, Act.put, List.setIfInBounds_toArray, List.set_cons_zero, List.set_cons_succ] at hQ ⊢
    go_wp2
    exact hQ (.pointer (some ⟨w0.heap.size, 5, none⟩)) _ (Below.refl _ _) rfl
  · intro x w hb hk Q' hQ
    have h8 : x.v 8 = .pointer (some ⟨w0.heap.size, 5, none⟩) := (hk 8 (by decide)).1
    clear hk
    simp only [netAct, dstAt, List.getElem?_toArray, List.getElem?_cons_zero, List.getElem?_cons_succ, Option.bind_some, Act.put, List.setIfInBounds_toArray, List.set_cons_zero, List.set_cons_succ] at hQ ⊢
    simp only [h8] at hQ ⊢
    clear h8
    have z := (k1.call hb).cell' (i := 5) rfl
    go_wp2
    exact hQ (.slice H y.m.length h) _ (Below.refl _ _) rfl
  · intro x w hb hk Q' hQ
    have h2 : x.v 2 = .pointer (some ⟨w0.heap.size, 1, none⟩) := (hk 2 (by decide)).1
    have h3 : x.v 3 = .agg #[.int .i64 y.q.v, .slice A y.q.f.length a, .slice C y.q.t.length c] := (hk 3 (by decide)).1
    have h4 : QuivO w (x.lo 4) (x.hi 4) (x.v 4) y.q := (hk 4 (by decide)).1
    have h5 : x.v 5 = .pointer (some ⟨w0.heap.size, 4, none⟩) := (hk 5 (by decide)).1
    have h6 : x.v 6 = .slice E y.d.length e := (hk 6 (by decide)).1
    have h7 : IntsO w (x.lo 7) (x.hi 7) (x.v 7) y.d := (hk 7 (by decide)).1
    have h8 : x.v 8 = .pointer (some ⟨w0.heap.size, 5, none⟩) := (hk 8 (by decide)).1
    have h9 : x.v 9 = .slice H y.m.length h := (hk 9 (by decide)).1
    have s4 := (hk 4 (by decide)).2
    have s7 := (hk 7 (by decide)).2
    clear hk
    simp only [netAct, dstAt, List.getElem?_toArray, List.getElem?_cons_zero, List.getElem?_cons_succ, Option.bind_some, Act.put, List.setIfInBounds_toArray, List.set_cons_zero, List.set_cons_succ] at hQ ⊢
    simp only [h2, h3, h5, h6, h8, h9] at hQ ⊢
    clear h2 h3 h5 h6 h8 h9
    go_wp2_with fail
    refine (copyMatrices_any _ y.m _ (SlM.next hb HM.out) hn).mono ?_; rintro e w1 ⟨v1, rfl, ho, hb1⟩
    go_wp2
    exact hQ _ _ hb1 ho
  · intro x w hb hk Q' hQ
    have h0 : x.v 0 = .pointer (some ⟨w0.heap.size, 0, none⟩) := (hk 0 (by decide)).1
    have h1 : x.v 1 = .int .i64 y.p := (hk 1 (by decide)).1
    have h2 : x.v 2 = .pointer (some ⟨w0.heap.size, 1, none⟩) := (hk 2 (by decide)).1
    have h3 : x.v 3 = .agg #[.int .i64 y.q.v, .slice A y.q.f.length a, .slice C y.q.t.length c] := (hk 3 (by decide)).1
    have h4 : QuivO w (x.lo 4) (x.hi 4) (x.v 4) y.q := (hk 4 (by decide)).1
    have h5 : x.v 5 = .pointer (some ⟨w0.heap.size, 4, none⟩) := (hk 5 (by decide)).1
    have h6 : x.v 6 = .slice E y.d.length e := (hk 6 (by decide)).1
    have h7 : IntsO w (x.lo 7) (x.hi 7) (x.v 7) y.d := (hk 7 (by decide)).1
    have h8 : x.v 8 = .pointer (some ⟨w0.heap.size, 5, none⟩) := (hk 8 (by decide)).1
    have h9 : x.v 9 = .slice H y.m.length h := (hk 9 (by decide)).1
    have h10 : MatsO w (x.lo 10) (x.hi 10) (x.v 10) y.m := (hk 10 (by decide)).1
    have s4 := (hk 4 (by decide)).2
    have s7 := (hk 7 (by decide)).2
    have s10 := (hk 10 (by decide)).2
    clear hk
    simp only [netAct, dstAt, List.getElem?_toArray, List.getElem?_cons_zero, List.getElem?_cons_succ, Option.bind_some, Act.put, List.setIfInBounds_toArray, List.set_cons_zero, List.set_cons_succ] at hQ ⊢
    simp only [h0, h1, h2, h3, h5, h6, h8, h9] at hQ ⊢
    clear h0 h1 h2 h3 h5 h6 h8 h9
    obtain ⟨qa, qb, e4, hqF, _⟩ := h4
    have f1 : IntsO w (x.lo 4) (x.hi 4) qa y.q.f := hqF.1 (qa, y.q.f) (by simp)
    have f2 : IntsO w (x.lo 4) (x.hi 4) qb y.q.t := hqF.1 (qb, y.q.t) (by simp)
    obtain ⟨qA, qc, rfl⟩ := f1.form
    obtain ⟨qB, qd, rfl⟩ := f2.form
    obtain ⟨dA, dc, e7⟩ := h7.form
    obtain ⟨vs, h10, _⟩ := h10
    obtain ⟨mA, mc, e10, _, _⟩ := RowO.form h10
    have hQ' := hQ (.agg #[.int .i64 y.p, .int .i64 y.q.v, .slice qA y.q.f.length qc, .slice qB y.q.t.length qd, x.v 7, x.v 10]) w (Below.refl _ _) ⟨_, _, e4, rfl⟩
    rw [e4, e7, e10] at hQ' ⊢
    go_wp2
    exact hQ'
  · intro x w hb hk hiv hdj
    have h0 : x.v 0 = .pointer (some ⟨w0.heap.size, 0, none⟩) := hk 0 (by decide)
    have h1 : x.v 1 = .int .i64 y.p := hk 1 (by decide)
    have h2 : x.v 2 = .pointer (some ⟨w0.heap.size, 1, none⟩) := hk 2 (by decide)
    have h3 : x.v 3 = .agg #[.int .i64 y.q.v, .slice A y.q.f.length a, .slice C y.q.t.length c] := hk 3 (by decide)
    have h4 : QuivO w (x.lo 4) (x.hi 4) (x.v 4) y.q := hk 4 (by decide)
    have h5 : x.v 5 = .pointer (some ⟨w0.heap.size, 4, none⟩) := hk 5 (by decide)
    have h6 : x.v 6 = .slice E y.d.length e := hk 6 (by decide)
    have h7 : IntsO w (x.lo 7) (x.hi 7) (x.v 7) y.d := hk 7 (by decide)
    have h8 : x.v 8 = .pointer (some ⟨w0.heap.size, 5, none⟩) := hk 8 (by decide)
    have h9 : x.v 9 = .slice H y.m.length h := hk 9 (by decide)
    have h10 : MatsO w (x.lo 10) (x.hi 10) (x.v 10) y.m := hk 10 (by decide)
    have h11 : ∃ qa qb, x.v 4 = .agg #[.int .i64 y.q.v, qa, qb] ∧ x.v 11 = .agg #[.int .i64 y.p, .int .i64 y.q.v, qa, qb, x.v 7, x.v 10] := hk 11 (by decide)
    clear hk
    simp only [netAct, dstAt, List.getElem?_toArray, List.getElem?_cons_zero, List.getElem?_cons_succ, Option.bind_some, Act.put, List.setIfInBounds_toArray, List.set_cons_zero, List.set_cons_succ]
    simp only [List.drop_succ_cons, List.drop_zero, h0, h1, h2, h3, h5, h6, h8, h9]
    clear h0 h1 h2 h3 h5 h6 h8 h9
    obtain ⟨qa, qb, e4, hqF, _⟩ := h4
    have f1 : IntsO w (x.lo 4) (x.hi 4) qa y.q.f := hqF.1 (qa, y.q.f) (by simp)
    have f2 : IntsO w (x.lo 4) (x.hi 4) qb y.q.t := hqF.1 (qb, y.q.t) (by simp)
    obtain ⟨qA, qc, rfl⟩ := f1.form
    obtain ⟨qB, qd, rfl⟩ := f2.form
    obtain ⟨dA, dc, e7⟩ := h7.form
    obtain ⟨vs, ho, hvl, hFm, hIm⟩ := h10
    obtain ⟨mA, mc, e10, _, _⟩ := RowO.form ho
    obtain ⟨qa', qb', e4', e11⟩ := h11
    rw [e4] at e4'
    simp only [Value.agg.injEq, Array.mk.injEq, List.cons.injEq, and_true, true_and] at e4'
    obtain ⟨rfl, rfl⟩ := e4'
    rw [e7] at h7
    rw [e10] at ho
    rw [e7, e10] at e11
    have i4 := hiv 4 (by decide)
    have i7 := hiv 7 (by decide)
    have i10 := hiv 10 (by decide)
    have hF3 : Fam w W.heap.size w.heap.size ([(.slice qA y.q.f.length qc, y.q.f), (.slice qB y.q.t.length qd, y.q.t)] ++ ([(.slice dA y.d.length dc, y.d)] ++ vs.zip (y.m.map Mx.a))) :=
      Fam.three hqF (Fam.one h7) hFm (hdj 4 7 (by decide) (by decide) (by decide)) (hdj 4 10 (by decide) (by decide) (by decide)) (hdj 7 10 (by decide) (by decide) (by decide)) ⟨i4.1, i4.2.2⟩ ⟨i7.1, i7.2.2⟩ ⟨i10.1, i10.2.2⟩
    have hR : RepO w W.heap.size w.heap.size (.agg #[.int .i64 y.p, .int .i64 y.q.v, .slice qA y.q.f.length qc, .slice qB y.q.t.length qd, .slice dA y.d.length dc, .slice mA y.m.length mc]) y :=
      ⟨_, _, _, _, vs, rfl, ho.mono i10.1 i10.2.2, hvl, hF3, HI.out, hIm⟩
    rw [e11]
    have kz := k2.call hb
    have fr := kz.frozen
    have s0 := kz.cell' (i := 0) rfl
    have s1 := kz.cell' (i := 1) rfl
    have s2 := kz.cell' (i := 2) rfl
    have s3 := kz.cell' (i := 3) rfl
    have s4 := kz.cell' (i := 4) rfl
    have s5 := kz.cell' (i := 5) rfl
    have gf := g0.trans (hb.mono g0.size)
    have hc := chg6 w (w0.heap.size + 1) (.int .i64 y.p) (.int .i64 y.q.v) (.slice qA y.q.f.length qc) (.slice qB y.q.t.length qd) (.slice dA y.d.length dc) (.slice mA y.m.length mc)
    have sz := SZ.out
    have OF := Lib.hid ((hR.chg hc (.inr (by omega))).wider (lo' := w0.heap.size) (hi' := w.heap.size) (by omega) (Nat.le_refl _))
    have GF := Lib.hid (gf.trans (hc.below (by omega) gf.size))
    clear hR hF3 hqF hFm hIm h7 ho e4 e7 e10 e11 f1 f2 hiv hdj i4 i7 i10 kz gf hc sz hb k1 k2
    go_wp2
    exact bodyPost_ret (v := .agg #[.int .i64 y.p, .int .i64 y.q.v, .slice qA y.q.f.length qc, .slice qB y.q.t.length qd, .slice dA y.d.length dc, .slice mA y.m.length mc]) (by simp [results, go_sem, s0, s1, s2, s3, s4, s5]) rfl ⟨_, rfl, OF.out.wider (Nat.le_refl _) (by simp), GF.out⟩
end Go.Proofs.Ytcmlflppndfdcaa

/- A valid representation at an arrow. -/
namespace Go.Proofs.Ytcmlflppndfdcaa
set_option linter.unusedVariables false
set_option linter.unusedSimpArgs false
open Go.RowKit

/-- a valid representation at an arrow -/
theorem isRep_at {x : Rp} (hx : isRep x = true) {k : Nat} (hk : k < x.q.f.length) : ∃ (m : Mx) (nf nt yf yt : Nat), x.m[k]? = some m ∧ x.q.f[k]? = some (nf : Int) ∧ x.q.t[k]? = some (nt : Int) ∧ x.d[nf]? = some (yf : Int) ∧ x.d[nt]? = some (yt : Int) ∧
    m = mxF yt yf (entry m.a yf) ∧ (∀ i j, i < yt → j < yf → 0 ≤ entry m.a yf i j ∧ entry m.a yf i j ≤ x.p - 1) ∧ yf ≤ 4 ∧ yt ≤ 4 ∧ nf ≤ 5 ∧ nt ≤ 5 ∧ nf < x.d.length ∧ nt < x.d.length ∧ k < x.q.t.length ∧ k < x.m.length := by
  obtain ⟨h1, h2, h3, h4⟩ := isRep_t.1 hx
  obtain ⟨nf, nt, yf, yt, ef, et, df, dt, lf, lt, l5, l6, l7⟩ := rep_at h2 hk
  have hd := (areDims_t.1 h2).2.2.1
  have bf := hd _ (List.mem_of_getElem? df)
  have bt := hd _ (List.mem_of_getElem? dt)
  have hkm : k < x.m.length := by omega
  have em := List.getElem?_eq_getElem hkm
  obtain ⟨m, hm⟩ : ∃ m, x.m[k] = m := ⟨_, rfl⟩
  rw [hm] at em
  have h5 := h4
  simp only [okMs, List.all_eq_true, List.mem_range] at h5
  have h6 := h5 k hkm
  simp only [List.getD_eq_getElem?_getD, em, ef, et, Option.getD_some] at h6
  simp only [okM, Bool.and_eq_true, decide_eq_true_eq] at h6
  obtain ⟨⟨hM, hc⟩, hr⟩ := h6
  rw [dAt_of df] at hc
  rw [dAt_of dt] at hr
  obtain ⟨_, _, hl, hv⟩ := isMat_t.1 hM
  obtain ⟨YF, rfl⟩ := Int.eq_ofNat_of_zero_le bf.1
  obtain ⟨YT, rfl⟩ := Int.eq_ofNat_of_zero_le bt.1
  have hl' : m.a.length = YT * YF := by
    rw [hr, hc] at hl
    exact_mod_cast hl
  have hrange := (isVec_t.1 hv).2.2
  refine ⟨m, nf, nt, YF, YT, em, ef, et, df, dt, ?_, fun i j hi hj => ?_, by omega, by omega, l5, l6, lf, lt, l7, hkm⟩
  · rw [mx_ext]
    exact ⟨hr, hc, flat_of hl'⟩
  · refine hrange _ ?_
    have := ix_lt hi hj
    rw [entry, List.getD_eq_getElem?_getD, List.getElem?_eq_getElem (by omega)]
    exact List.getElem_mem _
def mx0 : Mx := ⟨0, 0, []⟩
theorem MxO.zero (w : World) (lo hi : Nat) : MxO w lo hi (.agg #[.int .i64 0, .int .i64 0, .slice none 0 0]) mx0 := ⟨_, rfl, ⟨OwnI.nil _ _, by simp [Value.ownBlock]⟩, by simp [mx0, I64], by simp [mx0, I64]⟩
theorem MxO.setBlk {w : World} {lo hi g i : Nat} {v : Value} {m : Mx} {t : TypeId} {cs : Array Value} (h : MxO w lo hi v m) (hb : Blk w g t cs) (ht : 3 ≠ t) (u : Value) : MxO (w.setCell ⟨g, i, none⟩ u) lo hi v m := by
  obtain ⟨s, e, h1, h2⟩ := h
  exact ⟨s, e, ⟨h1.1.setCell (p := ⟨g, i, none⟩) (fun e => h1.1.blkne hb ht e.symm) u, h1.2⟩, h2⟩
end Go.Proofs.Ytcmlflppndfdcaa

/- Columns of a matrix of the program, as lists; the matrix of some columns. -/
namespace Go.Proofs.Ytcmlflppndfdcaa
set_option linter.unusedVariables false
set_option linter.unusedSimpArgs false
open Go.RowKit

def colK (k : Nat) (f : Nat → Nat → Int) (j i : Nat) : Int := if i < j then f i k else 0
theorem colK_0 (r k : Nat) (f : Nat → Nat → Int) : List.replicate r 0 = rowF r (colK k f 0) := by
  apply List.ext_getElem?
  intro i
  by_cases h : i < r
  · rw [rowF_get _ h]; simp [h, colK]
  · rw [List.getElem?_eq_none (by simp; omega), List.getElem?_eq_none (by rw [rowF_length]; omega)]
theorem colK_succ {r k j : Nat} (f : Nat → Nat → Int) (h : j < r) : (rowF r (colK k f j)).set j (f j k) = rowF r (colK k f (j + 1)) := by
  rw [rowF_set]
  refine rowF_congr fun i _ => ?_
  simp only [colK]
  (repeat' split) <;> first | rfl | omega | (subst_vars; rfl)
theorem colK_r (r k : Nat) (f : Nat → Nat → Int) : rowF r (colK k f r) = rowF r (fun i => f i k) := rowF_congr fun i h => by simp [colK, h]

set_option maxHeartbeats 1600000 in
theorem column_any (u : Value) (r c k : Nat) (f : Nat → Nat → Int) (w0 : World) (hu : MxR w0 w0.heap.size u (mxF r c f)) (hr : r ≤ 1000) (hc : c ≤ 1000) (hk : k < c) :
    Calls Try.prog 147 #[u, .int .i64 k] w0 fun e w' => ∃ v, e = .returned v ∧ IntsO w' w0.heap.size w'.heap.size v (rowF r (fun i => f i k)) ∧ Below w0.heap.size w0 w' := by
  obtain ⟨A, cap, rfl, hs, i1, i2, hl⟩ := hu.open_
  clear hu
  simp only [mxF] at hs hl i1 i2 ⊢
  obtain ⟨W, hW⟩ : ∃ W, W = (w0.alloc (.cells #[.int .i64 r, .int .i64 c, .slice A (flat r c f).length cap] 84)).alloc (.cells (mkCells (.int .i64 0) r) 3) := ⟨_, rfl⟩
  have g0 : Below w0.heap.size w0 W := by rw [hW]; exact ((Below.refl _ _).alloc (Nat.le_refl _) _).alloc (by simp) _
  have kB : Blk W w0.heap.size 84 #[.int .i64 r, .int .i64 c, .slice A (flat r c f).length cap] := by rw [hW]; exact (Blk.new _ _ _).alloc _
  have sz : W.heap.size = w0.heap.size + 1 + 1 := by rw [hW]; simp
  have ho : IntsO W (w0.heap.size + 1) W.heap.size (.slice (some ⟨w0.heap.size + 1, 0, none⟩) r r) (List.replicate r 0) := by
    rw [hW]
    have := OwnI.made0 (w := w0.alloc (.cells #[.int .i64 r, .int .i64 c, .slice A (flat r c f).length cap] 84)) (base := w0.heap.size + 1) (N := r) (by simp) (by omega)
    exact IntsO.of_own (by simpa only [World.size_alloc] using this)
  rw [colK_0 r k f] at ho
  obtain ⟨L, hL⟩ : ∃ L, (flat r c f).length = L := ⟨_, rfl⟩
  have HS := Lib.hid hs
  have HL := Lib.hid hL
  rw [hL] at hl kB hW ⊢
  have SZ := Lib.hid sz
  obtain ⟨i0, hi, hz0, hz1, hz2⟩ := info_parts infoInt
  have hmk := run_mk (P := Try.prog) Try.underlying22 hi hz0 (n := r) (by rw [hz2]; omega) (by omega)
  rw [hz1] at hmk
  rw [Nat.mul_one] at hmk
  clear hi hz0 hz1 hz2 hL hs sz
  go_enter Try.func147, Try.ntmps147
  go_wp2
  rw [← hW]
  clear hW hmk
  go_loopw [12] (fun i wr => ∃ j : Nat, j ≤ r ∧ i = .int .i64 j ∧ Below w0.heap.size w0 wr ∧ Blk wr w0.heap.size 84 #[.int .i64 r, .int .i64 c, .slice A L cap] ∧ IntsO wr (w0.heap.size + 1) W.heap.size (.slice (some ⟨w0.heap.size + 1, 0, none⟩) r r) (rowF r (colK k f j))) (fun i _ => r - (intOf i).toNat)
  case atStart => exact ⟨0, Nat.zero_le _, rfl, g0, kB, ho⟩
  case round =>
    clear g0 kB ho
    obtain ⟨j, hj, rfl, hbel, kB, ho⟩ := hrel
    by_cases hlt : j < r
    · obtain ⟨P, J, hP, hPJ, hJ, hJN, hJb⟩ := ix_walk hlt hk hr hc
      have hs := HS.out
      obtain ⟨b, o, x, rfl, hb, HX, x1, _⟩ := SlI.at_ (k := P + k) hs (by rw [flat_length]; omega)
      have hx := HX.out
      rw [hPJ, hJ, flat_get f hlt hk] at hx
      injection hx with hx
      subst hx
      rw [← flat_length r c f, HL.out] at hJN
      have hPl : P + k < L := by omega
      have c1 := kB.cell' (i := 1) rfl
      have c2 := kB.cell' (i := 2) rfl
      have d1 := bcell hbel hb x1
      have d2 : wr.cell? ⟨b, o + P + k, none⟩ = some (.int .i64 (f j k)) := by rw [Nat.add_assoc]; exact d1
      have cA := (ho.1.cellG (j := j) (by rw [rowF_length]; exact hlt)).1
      have fA := ho.1.frozenG j
      have hxr := SlI.i64 hs (f j k) (List.mem_of_getElem? (flat_get f hlt hk))
      have hc1 : Chg (w0.heap.size + 1) W.heap.size wr (wr.setCell ⟨w0.heap.size + 1, j, none⟩ (.int .i64 (f j k))) := chg_set (Nat.le_refl _) (by have := SZ.out; simp; omega)
      have ho2 := ho.put (j := j) (x := f j k) hxr
      rw [colK_succ f hlt] at ho2
      have HO2 := Lib.hid ho2
      have KB := Lib.hid (kB.chg hc1 (by omega))
      have HB := Lib.hid (hbel.trans (hc1.below (by omega) hbel.size))
      clear hs HX hJ hPJ hJN x1 ho ho2 kB hbel hc1 hb
      go_wp2
      go_roundw
      case rel => exact ⟨j + 1, by omega, by go_num, HB.out, KB.out, HO2.out⟩
      case measure => simp [intOf]; omega
    · obtain rfl : j = r := by omega
      rw [colK_r] at ho
      go_wp2
      go_ret
      have h3 : w0.heap.size + 1 < wr.heap.size := (ho.1.lt _ rfl).2
      have h4 := SZ.out
      exact ⟨_, rfl, ho.wider (by omega) (by omega), hbel⟩
set_option maxHeartbeats 1600000 in
theorem columns_any (u : Value) (r c : Nat) (f : Nat → Nat → Int) (w0 : World) (hu : MxR w0 w0.heap.size u (mxF r c f)) (hr : r ≤ 1000) (hc : c ≤ 1000) :
    Calls Try.prog 119 #[u] w0 fun e w' => ∃ v, e = .returned v ∧ IntssO w' w0.heap.size w'.heap.size v (rowsF c r (fun a b => f b a)) ∧ Below w0.heap.size w0 w' := by
  have hu' := hu
  obtain ⟨A, cap, rfl, hs, i1, i2, hl⟩ := hu.open_
  clear hu
  simp only [mxF] at hs hl i1 i2 ⊢
  obtain ⟨W, hW⟩ : ∃ W, W = w0.alloc (.cells #[.int .i64 r, .int .i64 c, .slice A (flat r c f).length cap] 84) := ⟨_, rfl⟩
  have g0 : Below w0.heap.size w0 W := by rw [hW]; exact below_alloc _ _
  have kB : Blk W w0.heap.size 84 #[.int .i64 r, .int .i64 c, .slice A (flat r c f).length cap] := by rw [hW]; exact Blk.new _ _ _
  obtain ⟨L, hL⟩ : ∃ L, (flat r c f).length = L := ⟨_, rfl⟩
  simp only [mxF] at hu'
  rw [hL] at hu' hs hl kB hW ⊢
  clear hL
  have c0 := kB.cell' (i := 0) rfl
  have c1 := kB.cell' (i := 1) rfl
  have c2 := kB.cell' (i := 2) rfl
  have HU := Lib.hid (MxR.next g0 hu')
  have sz : w0.heap.size < W.heap.size := kB.lt
  go_enter Try.func119, Try.ntmps119
  go_wp2
  rw [← hW]
  clear hW
  go_loopw [3, 7] (fun out i wr => ∃ (k : Nat) (vs : List Value), k ≤ c ∧ i = .int .i64 k ∧ Below W.heap.size W wr ∧ OutO wr W.heap.size wr.heap.size out vs ∧ vs.length = k ∧ Fam wr W.heap.size wr.heap.size (vs.zip (rowsF k r (fun a b => f b a)))) (fun _ i _ => c - (intOf i).toNat)
  case atStart => exact ⟨0, [], Nat.zero_le _, rfl, Below.refl _ _, ⟨World.ownsRow_nil _ _ _ _, by simp [Value.ownBlock], by simp⟩, rfl, ⟨fun p hp => by simp at hp, by simp⟩⟩
  case round =>
    clear c0 c1 c2
    obtain ⟨k, vs, hk, rfl, hbel, hO, hvl, hF⟩ := hrel
    have kB2 := kB.call hbel
    have c0 := kB2.cell' (i := 0) rfl
    have c1 := kB2.cell' (i := 1) rfl
    have c2 := kB2.cell' (i := 2) rfl
    have HVL := Lib.hid hvl
    clear hvl
    by_cases hlt : k < c
    · have HUR := Lib.hid (MxR.more hbel.size (MxR.below hbel HU.out))
      have hws := hbel.size
      obtain ⟨OA, oc, rfl, _, _⟩ := hO.form
      have HO := Lib.hid hO
      have HF := Lib.hid hF
      clear hO hF
      go_wp2_with fail
      refine (column_any _ r c k f _ HUR.out hr hc hlt).mono ?_; rintro e w1 ⟨v1, rfl, hv1, hb1⟩
      obtain ⟨wC, ewC⟩ : ∃ x, x = w1 := ⟨_, rfl⟩
      subst ewC
      have hI := hv1
      have hbC := hb1
      have hlo := Nat.le_refl wr.heap.size
      obtain ⟨VA, vc, ev⟩ := hI.form
      rw [rowF_length] at ev
      subst ev
      have hO2 := HO.out.below hbC
      have hF2 := HF.out.below hbC
      have hbs := hbC.size
      have HI := Lib.hid hI
      have HO2 := Lib.hid hO2
      have HF2 := Lib.hid hF2
      have HBC := Lib.hid hbC
      clear hI hO2 hF2 hbC hb1 hv1
      (go_wp2_with (at_builtin; refine Hold.stop ?_)); unfold Hold
      obtain ⟨X, hX⟩ : ∃ X, X = wC.alloc (.cells #[.slice VA r vc] 22) := ⟨_, rfl⟩
      have gn : Below wC.heap.size wC X := by rw [hX]; exact below_alloc _ _
      have kn : Blk X wC.heap.size 22 #[.slice VA r vc] := by rw [hX]; exact Blk.new _ _ _
      have hO3 := HO2.out.below gn
      have hF3 := (HF2.out.snoc (HI.out.wider (lo' := wr.heap.size) hlo (Nat.le_refl _)) hws (by omega)).below gn
      have hXs := gn.size
      rw [← hX]
      clear hX
      refine wpList_appS rfl (.tmp 10) (.tmp 14) rfl W.heap.size (.slice OA vs.length oc) vs rfl hO3.1 _ _ (.slice VA r vc) rfl ⟨wC.heap.size, 0, rfl, kn.cell' (i := 0) rfl⟩ rfl (by have := HVL.out; omega) (by omega) ?_
      intro v' w' hn' hg' hv'
      have hbg : Below W.heap.size X w' := below_grown hg' (fun k hk => (hO3.1.lt k hk).1) (by omega)
      have hbt := (hbel.trans ((HBC.out).mono hws)).trans ((gn.mono (by omega)).trans hbg)
      have hF4 := Fam.grownO hF3 hO3.1 hg'
      have hws' := hbg.size
      have hO4 : OutO w' W.heap.size w'.heap.size v' (vs ++ [.slice VA r vc]) := ⟨hn', fun k hk => (hn'.lt k hk).2, by simp; have := HVL.out; omega⟩
      have HF4 := Lib.hid hF4
      have HO4 := Lib.hid hO4
      have HBT := Lib.hid hbt
      clear hn' hg' hv' hbg hbt hF4 hO4 hO3 hF3 kn gn
      go_wp2
      go_roundw
      case rel =>
        refine ⟨k + 1, vs ++ [.slice VA r vc], by omega, by go_num, HBT.out, HO4.out, by simp [HVL.out], ?_⟩
        have := HF4.out.mono (Nat.le_refl _) (show wC.heap.size ≤ w'.heap.size by omega)
        have e : (vs ++ [Value.slice VA r vc]).zip (rowsF (k + 1) r (fun a b => f b a)) = vs.zip (rowsF k r (fun a b => f b a)) ++ [(Value.slice VA r vc, rowF r (fun i => f i k))] := by
          rw [rowsF_succ, List.zip_append (by rw [HVL.out, rowsF_length])]; rfl
        rw [e]
        exact this
      case measure => simp [intOf]; omega
    · obtain rfl : k = c := by omega
      have hO' := hO
      have hF' := hF
      go_wp2
      go_ret
      exact ⟨_, rfl, ⟨vs, hO'.mono (by omega) (Nat.le_refl _), by rw [HVL.out, rowsF_length], hF'.mono (by omega) (Nat.le_refl _)⟩, g0.trans (hbel.mono (by omega))⟩
end Go.Proofs.Ytcmlflppndfdcaa

/- The matrix of some columns; the reference's transposed matrix. -/
namespace Go.Proofs.Ytcmlflppndfdcaa
set_option linter.unusedVariables false
set_option linter.unusedSimpArgs false
open Go.RowKit

def fcK (f : Nat → Nat → Int) (k i a b : Nat) : Int := if b < k ∨ (b = k ∧ a < i) then f a b else 0
theorem fcK_0 (R K : Nat) (f : Nat → Nat → Int) : flat R K (fun _ _ => 0) = flat R K (fcK f 0 0) := flat_congr fun a b _ _ => by simp [fcK]
theorem fcK_put {R K k i : Nat} (f : Nat → Nat → Int) (hi : i < R) (hk : k < K) : (flat R K (fcK f k i)).set (i * K + k) (f i k) = flat R K (fcK f k (i + 1)) := by
  rw [flat_set _ _ hi hk]
  refine flat_congr fun a b _ _ => ?_
  simp only [fcK]
  (repeat' split) <;> first | rfl | omega | (rename_i h _; rw [h.1, h.2])
theorem fcK_next (R K k : Nat) (f : Nat → Nat → Int) : flat R K (fcK f k R) = flat R K (fcK f (k + 1) 0) := by
  refine flat_congr fun a b ha _ => ?_
  simp only [fcK]
  (repeat' split) <;> first | rfl | omega
theorem fcK_K (R K : Nat) (f : Nat → Nat → Int) : flat R K (fcK f K 0) = flat R K f := flat_congr fun a b _ hb => by simp [fcK, hb]

set_option maxHeartbeats 1600000 in
theorem fromColumns_any (u : Value) (R K : Nat) (f : Nat → Nat → Int) (w : World) (hu : SlII w w.heap.size u (rowsF K R (fun a b => f b a))) (hR : R ≤ 1000) (hK : K ≤ 1000) :
    Calls Try.prog 71 #[.int .i64 R, u] w fun e w' => ∃ v, e = .returned v ∧ MxO w' w.heap.size w'.heap.size v (mxF R K f) ∧ Below w.heap.size w w' := by
  obtain ⟨U, uc, rfl, _, _, hul, hx⟩ := hu.open_
  clear hu
  have HX := Lib.hid hx
  rw [rowsF_length] at hul ⊢
  obtain ⟨W, hW⟩ : ∃ W, W = w.alloc (.cells #[.int .i64 0, .int .i64 0, .slice none 0 0] 84) := ⟨_, rfl⟩
  have g0 : Below w.heap.size w W := by rw [hW]; exact below_alloc _ _
  have k2 : Blk W w.heap.size 84 #[.int .i64 0, .int .i64 0, .slice none 0 0] := by rw [hW]; exact Blk.new _ _ _
  have sz : W.heap.size = w.heap.size + 1 := by rw [hW]; simp
  have K2 := Lib.hid k2
  have SZ := Lib.hid sz
  clear k2 sz hx
  go_enter Try.func71, Try.ntmps71
  go_wp2_with fail
  rw [← hW]; clear hW
  refine (zero_any (R : Int) K W (by omega) (by omega) (by omega) (by omega)).mono ?_; rintro e w1 ⟨v1, rfl, ⟨sA, rfl, oA, hr, hc⟩, hb1⟩
  rw [zmx_flat] at oA hr hc ⊢
  simp only [mxF] at oA hr hc ⊢
  rw [fcK_0 R K f] at oA
  obtain ⟨A1, c1, e1⟩ := oA.form
  obtain ⟨N, hN⟩ : ∃ N, R * K = N := ⟨_, rfl⟩
  rw [flat_length, hN] at e1
  subst e1
  have HN := Lib.hid hN
  clear hN
  have s1 := hb1.size
  obtain ⟨W4, hW4⟩ : ∃ W4, W4 = w1.alloc (.cells #[.int .i64 R, .int .i64 K, .slice A1 N c1] 84) := ⟨_, rfl⟩
  have b4 : Below w1.heap.size w1 W4 := by rw [hW4]; exact below_alloc _ _
  have k4 : Blk W4 w1.heap.size 84 #[.int .i64 R, .int .i64 K, .slice A1 N c1] := by rw [hW4]; exact Blk.new _ _ _
  have oA := oA.below b4
  have gW := bthen hb1 b4
  clear b4 hb1
  go_wp2
  rw [← hW4]; clear hW4
  go_loopw [16] (fun i wr => ∃ k : Nat, k ≤ K ∧ i = .int .i64 k ∧ Blk wr w1.heap.size 84 #[.int .i64 R, .int .i64 K, .slice A1 N c1] ∧ IntsO wr W.heap.size w1.heap.size (.slice A1 N c1) (flat R K (fcK f k 0)) ∧ Below W.heap.size W wr) (fun i _ => K - (intOf i).toNat)
  case atStart => exact ⟨0, Nat.zero_le _, rfl, k4, oA, gW⟩
  case round =>
    clear k4 oA gW
    obtain ⟨k, hk, rfl, k4, oA, gW⟩ := hrel
    have s6 := gW.size
    by_cases hlt : k < K
    · have hx := HX.out
      rw [← rowsF_length K R (fun a b => f b a)] at hlt
      obtain ⟨b, o, l, LA, lc, rfl, hb, HL, x1, hl⟩ := SlII.at_ hx hlt
      rw [rowsF_length] at hlt
      have hl' := HL.out
      rw [rowsF_get _ hlt] at hl'
      injection hl' with hl'
      subst hl'
      rw [rowF_length] at x1
      have gww : Below w.heap.size w wr := g0.trans (gW.mono g0.size)
      have x2 := bcell gww hb x1
      have HLC := Lib.hid hl
      clear hx HL x1 hl
      go_wp2
      go_loopw [23] (fun i wr => ∃ j : Nat, j ≤ R ∧ i = .int .i64 j ∧ Blk wr w1.heap.size 84 #[.int .i64 R, .int .i64 K, .slice A1 N c1] ∧ IntsO wr W.heap.size w1.heap.size (.slice A1 N c1) (flat R K (fcK f k j)) ∧ Below W.heap.size W wr) (fun i _ => R - (intOf i).toNat)
      case atStart => exact ⟨0, Nat.zero_le _, rfl, k4, oA, gW⟩
      case round =>
        clear k4 oA gW s6 x2 gww
        obtain ⟨j, hj, rfl, k4, oA, gW⟩ := hrel
        have s6 := gW.size
        by_cases hlj : j < R
        · obtain ⟨P, J, hP, hPJ, hJ, hJN, hJb⟩ := ix_walk hlj hlt hR hK
          rw [HN.out] at hJN
          have hst := fcK_put f hlj hlt
          rw [← hJ] at hst
          subst hPJ
          have hl := HLC.out
          rw [← rowF_length R (fun b => f b k)] at hlj
          obtain ⟨b2, o2, x, rfl, hb2, HX2, x1, xr⟩ := SlI.at_ hl hlj
          rw [rowF_length] at hlj
          have hx2 := HX2.out
          rw [rowF_get _ hlj] at hx2
          injection hx2 with hx2
          subst hx2
          have gww : Below w.heap.size w wr := g0.trans (gW.mono g0.size)
          have x2 := bcell gww hb2 x1
          obtain ⟨gA, cA, eA, a1, a2, a3⟩ := oA.at_ (by rw [flat_length, HN.out]; omega)
          rw [flat_length, HN.out] at eA
          injection eA with eA1 eA2 eA3
          subst eA1 eA3
          have r1 := k4.cell' (i := 1) rfl
          have r2 := k4.cell' (i := 2) rfl
          have fA := oA.1.frozenG (P + k)
          have cA := (oA.1.cellG (j := P + k) (by rw [flat_length, HN.out]; omega)).1
          have hc1 : Chg W.heap.size w1.heap.size wr (wr.setCell ⟨gA, P + k, none⟩ (.int .i64 (f j k))) := chg_set a1 a2
          have oA2 := oA.put (j := P + k) (x := f j k) xr
          rw [hst] at oA2
          have OA2 := Lib.hid oA2
          have K4 := Lib.hid (k4.chg hc1 (by omega))
          have GW := Lib.hid (gW.trans (hc1.below (Nat.le_refl _) s6))
          clear oA2 k4 oA gW hc1 hst hJ hl HX2 x1 gww hb2
          go_wp2
          go_roundw
          case rel => exact ⟨j + 1, by omega, by go_num, K4.out, OA2.out, GW.out⟩
          case measure => simp [intOf]; omega
        · obtain rfl : j = R := by omega
          rw [fcK_next] at oA
          have OA := Lib.hid oA
          have K4 := Lib.hid k4
          have GW := Lib.hid gW
          clear oA k4 gW
          go_wp2
          go_roundw
          case rel => exact ⟨k + 1, by omega, by go_num, K4.out, OA.out, GW.out⟩
          case measure => simp [intOf]; omega
    · obtain rfl : k = K := by omega
      rw [fcK_K] at oA
      have k2 := K2.out.below gW (by have := SZ.out; omega)
      have z0 := k4.cell' (i := 0) rfl
      have z1 := k4.cell' (i := 1) rfl
      have z2 := k4.cell' (i := 2) rfl
      have p0 := k2.cell' (i := 0) rfl
      have p1 := k2.cell' (i := 1) rfl
      have p2 := k2.cell' (i := 2) rfl
      have f2 := k2.frozen
      have h2 := chg3 wr w.heap.size (.int .i64 (R : Int)) (.int .i64 k) (.slice A1 N c1)
      have gw : Below w.heap.size w wr := g0.trans (gW.mono g0.size)
      have gs := gw.size
      have oA2 := (oA.chg h2 (.inr (by have := SZ.out; omega))).wider (lo' := w.heap.size) (hi' := wr.heap.size) (by have := SZ.out; omega) (by have := k4.lt; omega)
      have fg := gw.trans (h2.below (Nat.le_refl _) gs)
      have OA2 := Lib.hid oA2
      have FG := Lib.hid fg
      clear oA oA2 fg gw h2 k2 k4 gW
      go_wp2
      exact bodyPost_ret (v := .agg #[.int .i64 (R : Int), .int .i64 k, .slice A1 N c1]) (by simp [results, go_sem, p0, p1, p2]) rfl ⟨_, rfl, ⟨_, rfl, by simpa [mxF] using OA2.out, by simp only [mxF, I64]; omega, by simp only [mxF, I64]; omega⟩, FG.out⟩
end Go.Proofs.Ytcmlflppndfdcaa

/- The reference's transposed matrix. -/
namespace Go.Proofs.Ytcmlflppndfdcaa
set_option linter.unusedVariables false
set_option linter.unusedSimpArgs false
open Go.RowKit

/-- cells of the transposed matrix, filled row by row of the given one -/
def trK (f : Nat → Nat → Int) (i k a b : Nat) : Int := if b < i ∨ (b = i ∧ a < k) then f b a else 0
theorem trK_0 (r c : Nat) (f : Nat → Nat → Int) : flat c r (fun _ _ => 0) = flat c r (trK f 0 0) := flat_congr fun a b _ _ => by simp [trK]
theorem trK_put {r c i k : Nat} (f : Nat → Nat → Int) (hi : i < r) (hk : k < c) : (flat c r (trK f i k)).set (k * r + i) (f i k) = flat c r (trK f i (k + 1)) := by
  rw [flat_set _ _ hk hi]
  refine flat_congr fun a b _ _ => ?_
  simp only [trK]
  (repeat' split) <;> first | rfl | omega | (rename_i h _; rw [h.1, h.2])
theorem trK_next (r c i : Nat) (f : Nat → Nat → Int) : flat c r (trK f i c) = flat c r (trK f (i + 1) 0) := by
  refine flat_congr fun a b ha _ => ?_
  simp only [trK]
  (repeat' split) <;> first | rfl | omega
theorem trK_r (r c : Nat) (f : Nat → Nat → Int) : flat c r (trK f r 0) = flat c r (fun a b => f b a) := flat_congr fun a b _ hb => by simp [trK, hb]

set_option maxHeartbeats 3200000 in
theorem l3Transpose_any (u : Value) (r c : Nat) (f : Nat → Nat → Int) (w0 : World) (hu : MxR w0 w0.heap.size u (mxF r c f)) (hr : r ≤ 1000) (hc : c ≤ 1000) :
    Calls Try.prog 138 #[u] w0 fun e w' => ∃ v, e = .returned v ∧ MxO w' w0.heap.size w'.heap.size v (mxF c r (fun a b => f b a)) ∧ Below w0.heap.size w0 w' := by
  obtain ⟨U, uc, rfl, hs, i1, i2, hl⟩ := hu.open_
  clear hu
  simp only [mxF] at hs hl i1 i2 ⊢
  have HS := Lib.hid hs
  obtain ⟨L, hL⟩ : ∃ L, (flat r c f).length = L := ⟨_, rfl⟩
  have HL := Lib.hid hL
  rw [hL] at hl ⊢
  obtain ⟨W, hW⟩ : ∃ W, W = (w0.alloc (.cells #[.int .i64 r, .int .i64 c, .slice U L uc] 84)).alloc (.cells #[.int .i64 0, .int .i64 0, .slice none 0 0] 84) := ⟨_, rfl⟩
  have g0 : Below w0.heap.size w0 W := by rw [hW]; exact ((Below.refl _ _).alloc (Nat.le_refl _) _).alloc (by simp) _
  have k1 : Blk W w0.heap.size 84 #[.int .i64 r, .int .i64 c, .slice U L uc] := by rw [hW]; exact (Blk.new _ _ _).alloc _
  have k2 : Blk W (w0.heap.size + 1) 84 #[.int .i64 0, .int .i64 0, .slice none 0 0] := by
    rw [hW]
    have := Blk.new (w0.alloc (.cells #[.int .i64 r, .int .i64 c, .slice U L uc] 84)) 84 #[.int .i64 0, .int .i64 0, .slice none 0 0]
    simpa only [World.size_alloc] using this
  have sz : W.heap.size = w0.heap.size + 1 + 1 := by rw [hW]; simp
  have K1 := Lib.hid k1
  have K2 := Lib.hid k2
  have SZ := Lib.hid sz
  have q0 := k1.cell' (i := 0) rfl
  have q1 := k1.cell' (i := 1) rfl
  clear k1 k2 sz hs hL
  go_enter Try.func138, Try.ntmps138
  go_wp2_with fail
  rw [← hW]; clear hW
  refine (l3Zero_any (c : Int) r W (by omega) (by omega) (by omega) (by omega)).mono ?_; rintro e w1 ⟨v1, rfl, ⟨sA, rfl, oA, hr2, hc2⟩, hb1⟩
  rw [zmx_flat] at oA hr2 hc2 ⊢
  simp only [mxF] at oA hr2 hc2 ⊢
  rw [trK_0 r c f] at oA
  obtain ⟨A1, c1, e1⟩ := oA.form
  obtain ⟨N, hN⟩ : ∃ N, c * r = N := ⟨_, rfl⟩
  rw [flat_length, hN] at e1
  subst e1
  have HN := Lib.hid hN
  clear hN q0 q1
  have s1 := hb1.size
  obtain ⟨W4, hW4⟩ : ∃ W4, W4 = w1.alloc (.cells #[.int .i64 c, .int .i64 r, .slice A1 N c1] 84) := ⟨_, rfl⟩
  have b4 : Below w1.heap.size w1 W4 := by rw [hW4]; exact below_alloc _ _
  have k4 : Blk W4 w1.heap.size 84 #[.int .i64 c, .int .i64 r, .slice A1 N c1] := by rw [hW4]; exact Blk.new _ _ _
  have oA := oA.below b4
  have gW := bthen hb1 b4
  clear b4 hb1
  go_wp2
  rw [← hW4]; clear hW4
  go_loopw [4] (fun i wr => ∃ j : Nat, j ≤ r ∧ i = .int .i64 j ∧ Blk wr w1.heap.size 84 #[.int .i64 c, .int .i64 r, .slice A1 N c1] ∧ IntsO wr W.heap.size w1.heap.size (.slice A1 N c1) (flat c r (trK f j 0)) ∧ Below W.heap.size W wr) (fun i _ => r - (intOf i).toNat)
  case atStart => exact ⟨0, Nat.zero_le _, rfl, k4, oA, gW⟩
  case round =>
    clear k4 oA gW
    obtain ⟨j, hj, rfl, k4, oA, gW⟩ := hrel
    have s6 := gW.size
    have k1 := (K1.out).below gW (by have := SZ.out; omega)
    have q0 := k1.cell' (i := 0) rfl
    by_cases hlt : j < r
    · go_wp2
      clear k1 q0
      go_loopw [5] (fun i wr => ∃ k : Nat, k ≤ c ∧ i = .int .i64 k ∧ Blk wr w1.heap.size 84 #[.int .i64 c, .int .i64 r, .slice A1 N c1] ∧ IntsO wr W.heap.size w1.heap.size (.slice A1 N c1) (flat c r (trK f j k)) ∧ Below W.heap.size W wr) (fun i _ => c - (intOf i).toNat)
      case atStart => exact ⟨0, Nat.zero_le _, rfl, k4, oA, gW⟩
      case round =>
        clear k4 oA gW s6
        obtain ⟨k, hk, rfl, k4, oA, gW⟩ := hrel
        have s6 := gW.size
        have k1 := (K1.out).below gW (by have := SZ.out; omega)
        have q1 := k1.cell' (i := 1) rfl
        by_cases hlk : k < c
        · obtain ⟨P, J, hP, hPJ, hJ, hJN, hJb⟩ := ix_walk hlk hlt hc hr
          rw [HN.out] at hJN
          have hst := trK_put f hlt hlk
          rw [← hJ] at hst
          subst hPJ
          obtain ⟨P2, J2, hP2, hPJ2, hJ2, hJN2, hJb2⟩ := ix_walk hlt hlk hr hc
          have hs := HS.out
          obtain ⟨b, o, x, rfl, hb, HX, x1, xr⟩ := SlI.at_ (k := P2 + k) hs (by rw [flat_length]; omega)
          have hx := HX.out
          rw [hPJ2, hJ2, flat_get f hlt hlk] at hx
          injection hx with hx
          subst hx
          have hJL : P2 + k < L := by rw [← HL.out, flat_length]; omega
          have gww : Below w0.heap.size w0 wr := g0.trans (gW.mono g0.size)
          have gwws := gww.size
          have x2 := bcell gww hb x1
          obtain ⟨gA, cA, eA, a1, a2, a3⟩ := oA.at_ (by rw [flat_length, HN.out]; omega)
          rw [flat_length, HN.out] at eA
          injection eA with eA1 eA2 eA3
          subst eA1 eA3
          have hP' := Lib.hid hP
          have hP2' := Lib.hid hP2
          clear hs HX x1 hJ hJ2 hPJ2 hJN2
          go_wp2
          refine wp_region_net (by kernel_rfl) [.eq (.pointer (some ⟨w1.heap.size, 2, none⟩)), .eq (.slice (some ⟨gA, 0, none⟩) N c1), .eq (.int .i64 k), .eq (.pointer (some ⟨w0.heap.size, 0, none⟩)), .eq (.int .i64 r), .eq (.int .i64 P), .eq (.int .i64 j), .eq (.int .i64 ((P : Int) + j)), .eq (.pointer (some ⟨w0.heap.size, 2, none⟩)), .eq (.slice (some ⟨b, o, none⟩) L uc), .eq (.int .i64 j), .eq (.pointer (some ⟨w0.heap.size, 1, none⟩)), .eq (.int .i64 c), .eq (.int .i64 P2), .eq (.int .i64 k), .eq (.int .i64 ((P2 : Int) + k)), .eq (.pointer (some ⟨b, o + (P2 + k), none⟩)), .eq (.int .i64 (f j k)), .eq (.pointer (some ⟨gA, P + j, none⟩))] [[], [0], [], [], [3], [2, 3, 4], [], [2, 3, 4, 5, 6], [], [8], [], [], [11], [10, 11, 12], [], [10, 11, 12, 13, 14], [8, 9, 10, 11, 12, 13, 14, 15], [8, 9, 10, 11, 12, 13, 14, 15, 16], [0, 1, 2, 3, 4, 5, 6, 7, 8, 9, 10, 11, 12, 13, 14, 15, 16, 17], [0, 1, 2, 3, 4, 5, 6, 7, 8, 9, 10, 11, 12, 13, 14, 15, 16, 17, 18]] 19 (by kernel_rfl) ⟨trivial, trivial, trivial, trivial, trivial, trivial, trivial, trivial, trivial, trivial, trivial, trivial, trivial, trivial, trivial, trivial, trivial, trivial, trivial, trivial⟩ ⟨?_, ?_, ?_, ?_, ?_, ?_, ?_, ?_, ?_, ?_, ?_, ?_, ?_, ?_, ?_, ?_, ?_, ?_, ?_, trivial⟩ ?_
          · intro x w hb hk Q' hQ
            clear hk
            simp only [netAct, dstAt, List.getElem?_toArray, List.getElem?_cons_zero, List.getElem?_cons_succ, Option.bind_some, Act.put, List.setIfInBounds_toArray, List.set_cons_zero, List.set_cons_succ] at hQ ⊢
            go_wp2
            exact hQ (.pointer (some ⟨w1.heap.size, 2, none⟩)) _ (Below.refl _ _) rfl
          · intro x w hb hk Q' hQ
            have h0 : x.v 0 = .pointer (some ⟨w1.heap.size, 2, none⟩) := (hk 0 (by decide)).1
            clear hk
            simp only [netAct, dstAt, List.getElem?_toArray, List.getElem?_cons_zero, List.getElem?_cons_succ, Option.bind_some, Act.put, List.setIfInBounds_toArray, List.set_cons_zero, List.set_cons_succ] at hQ ⊢
            simp only [h0] at hQ ⊢
            clear h0
            have z2 := (k4.call hb).cell' (i := 2) rfl
            go_wp2
            exact hQ (.slice (some ⟨gA, 0, none⟩) N c1) _ (Below.refl _ _) rfl
          · intro x w hb hk Q' hQ
            clear hk
            simp only [netAct, dstAt, List.getElem?_toArray, List.getElem?_cons_zero, List.getElem?_cons_succ, Option.bind_some, Act.put, List.setIfInBounds_toArray, List.set_cons_zero, List.set_cons_succ] at hQ ⊢
            go_wp2
            exact hQ (.int .i64 k) _ (Below.refl _ _) rfl
          · intro x w hb hk Q' hQ
            clear hk
            simp only [netAct, dstAt, List.getElem?_toArray, List.getElem?_cons_zero, List.getElem?_cons_succ, Option.bind_some, Act.put, List.setIfInBounds_toArray, List.set_cons_zero, List.set_cons_succ] at hQ ⊢
            go_wp2
            exact hQ (.pointer (some ⟨w0.heap.size, 0, none⟩)) _ (Below.refl _ _) rfl
          · intro x w hb hk Q' hQ
            have h3 : x.v 3 = .pointer (some ⟨w0.heap.size, 0, none⟩) := (hk 3 (by decide)).1
            clear hk
            simp only [netAct, dstAt, List.getElem?_toArray, List.getElem?_cons_zero, List.getElem?_cons_succ, Option.bind_some, Act.put, List.setIfInBounds_toArray, List.set_cons_zero, List.set_cons_succ] at hQ ⊢
            simp only [h3] at hQ ⊢
            clear h3
            have z2 := (k1.call hb).cell' (i := 0) rfl
            go_wp2
            exact hQ (.int .i64 r) _ (Below.refl _ _) rfl
          · intro x w hb hk Q' hQ
            have h2 : x.v 2 = .int .i64 k := (hk 2 (by decide)).1
            have h4 : x.v 4 = .int .i64 r := (hk 4 (by decide)).1
            clear hk
            simp only [netAct, dstAt, List.getElem?_toArray, List.getElem?_cons_zero, List.getElem?_cons_succ, Option.bind_some, Act.put, List.setIfInBounds_toArray, List.set_cons_zero, List.set_cons_succ] at hQ ⊢
            simp only [h2, h4] at hQ ⊢
            clear h2 h4
            go_wp2
            rw [hP'.out]
            exact hQ (.int .i64 P) _ (Below.refl _ _) rfl
          · intro x w hb hk Q' hQ
            clear hk
            simp only [netAct, dstAt, List.getElem?_toArray, List.getElem?_cons_zero, List.getElem?_cons_succ, Option.bind_some, Act.put, List.setIfInBounds_toArray, List.set_cons_zero, List.set_cons_succ] at hQ ⊢
            go_wp2
            exact hQ (.int .i64 j) _ (Below.refl _ _) rfl
          · intro x w hb hk Q' hQ
            have h5 : x.v 5 = .int .i64 P := (hk 5 (by decide)).1
            have h6 : x.v 6 = .int .i64 j := (hk 6 (by decide)).1
            clear hk
            simp only [netAct, dstAt, List.getElem?_toArray, List.getElem?_cons_zero, List.getElem?_cons_succ, Option.bind_some, Act.put, List.setIfInBounds_toArray, List.set_cons_zero, List.set_cons_succ] at hQ ⊢
            simp only [h5, h6] at hQ ⊢
            clear h5 h6
            go_wp2
            exact hQ (.int .i64 ((P : Int) + j)) _ (Below.refl _ _) rfl
          · intro x w hb hk Q' hQ
            clear hk
            simp only [netAct, dstAt, List.getElem?_toArray, List.getElem?_cons_zero, List.getElem?_cons_succ, Option.bind_some, Act.put, List.setIfInBounds_toArray, List.set_cons_zero, List.set_cons_succ] at hQ ⊢
            go_wp2
            exact hQ (.pointer (some ⟨w0.heap.size, 2, none⟩)) _ (Below.refl _ _) rfl
          · intro x w hb hk Q' hQ
            have h8 : x.v 8 = .pointer (some ⟨w0.heap.size, 2, none⟩) := (hk 8 (by decide)).1
            clear hk
            simp only [netAct, dstAt, List.getElem?_toArray, List.getElem?_cons_zero, List.getElem?_cons_succ, Option.bind_some, Act.put, List.setIfInBounds_toArray, List.set_cons_zero, List.set_cons_succ] at hQ ⊢
            simp only [h8] at hQ ⊢
            clear h8
            have z2 := (k1.call hb).cell' (i := 2) rfl
            go_wp2
            exact hQ (.slice (some ⟨b, o, none⟩) L uc) _ (Below.refl _ _) rfl
          · intro x w hb hk Q' hQ
            clear hk
            simp only [netAct, dstAt, List.getElem?_toArray, List.getElem?_cons_zero, List.getElem?_cons_succ, Option.bind_some, Act.put, List.setIfInBounds_toArray, List.set_cons_zero, List.set_cons_succ] at hQ ⊢
            go_wp2
            exact hQ (.int .i64 j) _ (Below.refl _ _) rfl
          · intro x w hb hk Q' hQ
            clear hk
            simp only [netAct, dstAt, List.getElem?_toArray, List.getElem?_cons_zero, List.getElem?_cons_succ, Option.bind_some, Act.put, List.setIfInBounds_toArray, List.set_cons_zero, List.set_cons_succ] at hQ ⊢
            go_wp2
            exact hQ (.pointer (some ⟨w0.heap.size, 1, none⟩)) _ (Below.refl _ _) rfl
          · intro x w hb hk Q' hQ
            have h11 : x.v 11 = .pointer (some ⟨w0.heap.size, 1, none⟩) := (hk 11 (by decide)).1
            clear hk
            simp only [netAct, dstAt, List.getElem?_toArray, List.getElem?_cons_zero, List.getElem?_cons_succ, Option.bind_some, Act.put, List.setIfInBounds_toArray, List.set_cons_zero, List.set_cons_succ] at hQ ⊢
            simp only [h11] at hQ ⊢
            clear h11
            have z2 := (k1.call hb).cell' (i := 1) rfl
            go_wp2
            exact hQ (.int .i64 c) _ (Below.refl _ _) rfl
          · intro x w hb hk Q' hQ
            have h10 : x.v 10 = .int .i64 j := (hk 10 (by decide)).1
            have h12 : x.v 12 = .int .i64 c := (hk 12 (by decide)).1
            clear hk
            simp only [netAct, dstAt, List.getElem?_toArray, List.getElem?_cons_zero, List.getElem?_cons_succ, Option.bind_some, Act.put, List.setIfInBounds_toArray, List.set_cons_zero, List.set_cons_succ] at hQ ⊢
            simp only [h10, h12] at hQ ⊢
            clear h10 h12
            go_wp2
            rw [hP2'.out]
            exact hQ (.int .i64 P2) _ (Below.refl _ _) rfl
          · intro x w hb hk Q' hQ
            clear hk
            simp only [netAct, dstAt, List.getElem?_toArray, List.getElem?_cons_zero, List.getElem?_cons_succ, Option.bind_some, Act.put, List.setIfInBounds_toArray, List.set_cons_zero, List.set_cons_succ] at hQ ⊢
            go_wp2
            exact hQ (.int .i64 k) _ (Below.refl _ _) rfl
          · intro x w hb hk Q' hQ
            have h13 : x.v 13 = .int .i64 P2 := (hk 13 (by decide)).1
            have h14 : x.v 14 = .int .i64 k := (hk 14 (by decide)).1
            clear hk
            simp only [netAct, dstAt, List.getElem?_toArray, List.getElem?_cons_zero, List.getElem?_cons_succ, Option.bind_some, Act.put, List.setIfInBounds_toArray, List.set_cons_zero, List.set_cons_succ] at hQ ⊢
            simp only [h13, h14] at hQ ⊢
            clear h13 h14
            go_wp2
            exact hQ (.int .i64 ((P2 : Int) + k)) _ (Below.refl _ _) rfl
          · intro x w hb hk Q' hQ
            have h9 : x.v 9 = .slice (some ⟨b, o, none⟩) L uc := (hk 9 (by decide)).1
            have h15 : x.v 15 = .int .i64 ((P2 : Int) + k) := (hk 15 (by decide)).1
            clear hk
            simp only [netAct, dstAt, List.getElem?_toArray, List.getElem?_cons_zero, List.getElem?_cons_succ, Option.bind_some, Act.put, List.setIfInBounds_toArray, List.set_cons_zero, List.set_cons_succ] at hQ ⊢
            simp only [h9, h15] at hQ ⊢
            clear h9 h15
            go_wp2
            exact hQ (.pointer (some ⟨b, o + (P2 + k), none⟩)) _ (Below.refl _ _) rfl
          · intro x w hb hk Q' hQ
            have h16 : x.v 16 = .pointer (some ⟨b, o + (P2 + k), none⟩) := (hk 16 (by decide)).1
            clear hk
            simp only [netAct, dstAt, List.getElem?_toArray, List.getElem?_cons_zero, List.getElem?_cons_succ, Option.bind_some, Act.put, List.setIfInBounds_toArray, List.set_cons_zero, List.set_cons_succ] at hQ ⊢
            simp only [h16] at hQ ⊢
            clear h16
            have z2 := bcell hb (by omega) x2
            go_wp2
            exact hQ (.int .i64 (f j k)) _ (Below.refl _ _) rfl
          · intro x w hb hk Q' hQ
            have h1 : x.v 1 = .slice (some ⟨gA, 0, none⟩) N c1 := (hk 1 (by decide)).1
            have h7 : x.v 7 = .int .i64 ((P : Int) + j) := (hk 7 (by decide)).1
            clear hk
            simp only [netAct, dstAt, List.getElem?_toArray, List.getElem?_cons_zero, List.getElem?_cons_succ, Option.bind_some, Act.put, List.setIfInBounds_toArray, List.set_cons_zero, List.set_cons_succ] at hQ ⊢
            simp only [h1, h7] at hQ ⊢
            clear h1 h7
            go_wp2
            exact hQ (.pointer (some ⟨gA, P + j, none⟩)) _ (Below.refl _ _) rfl
          · intro x w hb hk hiv hdj
            have h0 : x.v 0 = .pointer (some ⟨w1.heap.size, 2, none⟩) := hk 0 (by decide)
            have h1 : x.v 1 = .slice (some ⟨gA, 0, none⟩) N c1 := hk 1 (by decide)
            have h2 : x.v 2 = .int .i64 k := hk 2 (by decide)
            have h3 : x.v 3 = .pointer (some ⟨w0.heap.size, 0, none⟩) := hk 3 (by decide)
            have h4 : x.v 4 = .int .i64 r := hk 4 (by decide)
            have h5 : x.v 5 = .int .i64 P := hk 5 (by decide)
            have h6 : x.v 6 = .int .i64 j := hk 6 (by decide)
            have h7 : x.v 7 = .int .i64 ((P : Int) + j) := hk 7 (by decide)
            have h8 : x.v 8 = .pointer (some ⟨w0.heap.size, 2, none⟩) := hk 8 (by decide)
            have h9 : x.v 9 = .slice (some ⟨b, o, none⟩) L uc := hk 9 (by decide)
            have h10 : x.v 10 = .int .i64 j := hk 10 (by decide)
            have h11 : x.v 11 = .pointer (some ⟨w0.heap.size, 1, none⟩) := hk 11 (by decide)
            have h12 : x.v 12 = .int .i64 c := hk 12 (by decide)
            have h13 : x.v 13 = .int .i64 P2 := hk 13 (by decide)
            have h14 : x.v 14 = .int .i64 k := hk 14 (by decide)
            have h15 : x.v 15 = .int .i64 ((P2 : Int) + k) := hk 15 (by decide)
            have h16 : x.v 16 = .pointer (some ⟨b, o + (P2 + k), none⟩) := hk 16 (by decide)
            have h17 : x.v 17 = .int .i64 (f j k) := hk 17 (by decide)
            have h18 : x.v 18 = .pointer (some ⟨gA, P + j, none⟩) := hk 18 (by decide)
            clear hk
            simp only [netAct, dstAt, List.getElem?_toArray, List.getElem?_cons_zero, List.getElem?_cons_succ, Option.bind_some, Act.put, List.setIfInBounds_toArray, List.set_cons_zero, List.set_cons_succ]
            simp only [List.drop_succ_cons, List.drop_zero, h0, h1, h2, h3, h4, h5, h6, h7, h8, h9, h10, h11, h12, h13, h14, h15, h16, h17, h18]
            clear h0 h1 h2 h3 h4 h5 h6 h7 h8 h9 h10 h11 h12 h13 h14 h15 h16 h17 h18
            have oB := oA.below hb
            have k4b := k4.call hb
            have fA := oB.1.frozenG (P + j)
            have cA := (oB.1.cellG (j := P + j) (by rw [flat_length, HN.out]; omega)).1
            have hws := hb.size
            have hc1 : Chg W.heap.size w1.heap.size w (w.setCell ⟨gA, P + j, none⟩ (.int .i64 (f j k))) := chg_set a1 a2
            have oA2 := oB.put (j := P + j) (x := f j k) xr
            rw [hst] at oA2
            have OA2 := Lib.hid oA2
            have K4 := Lib.hid (k4b.chg hc1 (by omega))
            have GW := Lib.hid ((gW.trans (hb.mono s6)).trans (hc1.below (Nat.le_refl _) (by omega)))
            clear oA2 k4 oA gW hc1 hst oB k4b hiv hdj hb k1 q1
            go_wp2
            go_roundw
            case rel => exact ⟨k + 1, by omega, by go_num, K4.out, OA2.out, GW.out⟩
            case measure => simp [intOf]; omega
        · obtain rfl : k = c := by omega
          rw [trK_next] at oA
          have OA := Lib.hid oA
          have K4 := Lib.hid k4
          have GW := Lib.hid gW
          clear oA k4 gW k1
          go_wp2
          go_roundw
          case rel => exact ⟨j + 1, by omega, by go_num, K4.out, OA.out, GW.out⟩
          case measure => simp [intOf]; omega
    · obtain rfl : j = r := by omega
      rw [trK_r] at oA
      have k2 := K2.out.below gW (by have := SZ.out; omega)
      have z0 := k4.cell' (i := 0) rfl
      have z1 := k4.cell' (i := 1) rfl
      have z2 := k4.cell' (i := 2) rfl
      have p0 := k2.cell' (i := 0) rfl
      have p1 := k2.cell' (i := 1) rfl
      have p2 := k2.cell' (i := 2) rfl
      have f2 := k2.frozen
      have h2 := chg3 wr (w0.heap.size + 1) (.int .i64 (c : Int)) (.int .i64 j) (.slice A1 N c1)
      have gw : Below w0.heap.size w0 wr := g0.trans (gW.mono g0.size)
      have gs := gw.size
      have oA2 := (oA.chg h2 (.inr (by have := SZ.out; omega))).wider (lo' := w0.heap.size) (hi' := wr.heap.size) (by have := SZ.out; omega) (by have := k4.lt; omega)
      have fg := gw.trans (h2.below (by omega) gs)
      have OA2 := Lib.hid oA2
      have FG := Lib.hid fg
      clear oA oA2 fg gw h2 k2 k4 gW k1
      go_wp2
      exact bodyPost_ret (v := .agg #[.int .i64 (c : Int), .int .i64 j, .slice A1 N c1]) (by simp [results, go_sem, p0, p1, p2]) rfl ⟨_, rfl, ⟨_, rfl, by simpa using OA2.out, hr2, hc2⟩, FG.out⟩
end Go.Proofs.Ytcmlflppndfdcaa

/- Matrices beside each other and below each other: the program's. -/
namespace Go.Proofs.Ytcmlflppndfdcaa
set_option linter.unusedVariables false
set_option linter.unusedSimpArgs false
open Go.RowKit

/-- a beside b: the first c columns are a's -/
def bsF (c : Nat) (f g : Nat → Nat → Int) (a b : Nat) : Int := if b < c then f a b else g a (b - c)
/-- a above b -/
def blF (r : Nat) (f g : Nat → Nat → Int) (a b : Nat) : Int := if a < r then f a b else g (a - r) b
theorem rowsF_app (r s c : Nat) (f g : Nat → Nat → Int) : rowsF r c f ++ rowsF s c g = rowsF (r + s) c (blF r f g) := by
  apply List.ext_getElem?
  intro i
  by_cases h1 : i < r
  · rw [List.getElem?_append_left (by rw [rowsF_length]; exact h1), rowsF_get _ h1, rowsF_get _ (by omega)]
    congr 1
    exact rowF_congr fun b _ => by simp [blF, h1]
  · rw [List.getElem?_append_right (by rw [rowsF_length]; omega), rowsF_length]
    by_cases h2 : i < r + s
    · rw [rowsF_get _ (by omega), rowsF_get _ h2]
      congr 1
      exact rowF_congr fun b _ => by simp [blF, h1]
    · rw [List.getElem?_eq_none (by rw [rowsF_length]; omega), List.getElem?_eq_none (by rw [rowsF_length]; omega)]
theorem colsF_app (r c d : Nat) (f g : Nat → Nat → Int) : rowsF c r (fun a b => f b a) ++ rowsF d r (fun a b => g b a) = rowsF (c + d) r (fun a b => bsF c f g b a) := rowsF_app c d r _ _

/-- append of one list of rows onto another of the call's own -/
theorem wpList_appSS {w : World} {ops : Array Oper} {rest : List Oper} {o : Oper} {a : Act} {Q : Exit → Act → World → Prop} (hgd : o.guard = none) (s x : Operand)
    (ho : o.op = .call { callee := .builtin .append, args := #[s, x], argTypes := #[51, 51] })
    (lo hi lo' hi' : Nat) (v v2 : Value) (l1 l2 : List (List Int)) (hs : a.eval s = v) (hown : IntssO w lo hi v l1) (hx : a.eval x = v2) (hown2 : IntssO w lo' hi' v2 l2) (hd : hi ≤ lo' ∨ hi' ≤ lo)
    (hn : l1.length + l2.length ≤ 1048576) (hlo : lo ≤ w.heap.size) (hhi : hi ≤ w.heap.size)
    (h : ∀ v' w', SlII w' w'.heap.size v' (l1 ++ l2) → Below lo w w' → wpList Try.prog ops Q rest (a.put o.dst v') w') : wpList Try.prog ops Q (o :: rest) a w := by
  obtain ⟨vs1, o1, e1, F1⟩ := hown
  obtain ⟨vs2, o2, e2, F2⟩ := hown2
  obtain ⟨A2, c2, ev2, _, _⟩ := o2.form
  subst ev2
  obtain ⟨i0, hi0, hz0, hz1, hz2⟩ := info_parts infoInts
  have hrd2 := o2
  refine wpList_append_G w hgd s x _ ho lo 22 i0 _ 1 24 Try.underlying51 hi0 hz0 hz1 hz2 rfl (by decide) v vs1.length _ hs o1.1 A2 vs2.length c2 vs2 hx ?_ ?_ (by simp only [maxLen]; omega) (by omega) hlo fun v' w' h1 h2 h3 => ?_
  · refine ⟨by simp, ?_⟩
    rcases Nat.eq_zero_or_pos vs2.length with h0 | h0
    · exact .inl h0
    · rcases o2.1.2 with ⟨e, h1⟩ | ⟨g, cap, cur, e, _, hg, hnc, hcm, hcs, htake⟩
      · omega
      · injection e with ea eb ec
        refine .inr ⟨g, 0, ea, fun j u hj => ?_⟩
        have hc := o2.1
        rw [ea] at hc
        have := hc.cellAt j (by have := lt_of_some hj; omega)
        rw [Nat.zero_add, this, hj]
  · intro u hu
    obtain ⟨j, hj⟩ := List.getElem?_of_mem hu
    have hjl := lt_of_some hj
    have hm := F2.1 (u, l2[j]'(by omega)) (by rw [List.mem_iff_getElem?]; exact ⟨j, by rw [List.getElem?_zip_eq_some]; exact ⟨hj, List.getElem?_eq_getElem _⟩⟩)
    obtain ⟨A, c, e⟩ := hm.form
    rw [show u = _ from e]
    rfl
  · have ho' : OutO w' lo w'.heap.size v' (vs1 ++ vs2) := ⟨by simpa using h1, fun k hk => (h1.lt k hk).2, by simp; omega⟩
    refine h v' w' (OutO.rd ho' (by simp [e1, e2]) fun p hp => ?_) (below_grown h2 (fun k hk => (o1.1.lt k hk).1) hlo)
    rw [List.zip_append e1] at hp
    rcases List.mem_append.1 hp with hp | hp
    · exact ((Fam.grownO F1 o1.1 h2).1 p hp).rd
    · exact ((Fam.grownO F2 o1.1 h2).1 p hp).rd
set_option maxHeartbeats 3200000 in
theorem beside_any (u v : Value) (r c d : Nat) (f g : Nat → Nat → Int) (w0 : World) (hu : MxR w0 w0.heap.size u (mxF r c f)) (hv : MxR w0 w0.heap.size v (mxF r d g)) (hr : r ≤ 500) (hc : c ≤ 500) (hd : d ≤ 500) :
    Calls Try.prog 114 #[u, v] w0 fun e w' => ∃ v, e = .returned v ∧ MxO w' w0.heap.size w'.heap.size v (mxF r (c + d) (bsF c f g)) ∧ Below w0.heap.size w0 w' := by
  have hu' := hu
  have hv' := hv
  obtain ⟨U, uc, rfl⟩ := hu.form
  obtain ⟨V, vc, rfl⟩ := hv.form
  obtain ⟨L, hL⟩ : ∃ L, (mxF r c f).a.length = L := ⟨_, rfl⟩
  obtain ⟨L', hL'⟩ : ∃ L, (mxF r d g).a.length = L := ⟨_, rfl⟩
  have z1 : (mxF r c f).r = (r : Int) := rfl
  have z2 : (mxF r c f).c = (c : Int) := rfl
  have z3 : (mxF r d g).r = (r : Int) := rfl
  have z4 : (mxF r d g).c = (d : Int) := rfl
  rw [hL, z1, z2] at hu' ⊢
  rw [hL', z3, z4] at hv' ⊢
  clear hu hv hL hL' z1 z2 z3 z4
  obtain ⟨W, hW⟩ : ∃ W, W = ((w0.alloc (.cells #[.int .i64 r, .int .i64 c, .slice U L uc] 84)).alloc (.cells #[.int .i64 r, .int .i64 d, .slice V L' vc] 84)).alloc (.cells #[.int .i64 0, .int .i64 0, .slice none 0 0] 84) := ⟨_, rfl⟩
  have g0 : Below w0.heap.size w0 W := by rw [hW]; exact (((Below.refl _ _).alloc (Nat.le_refl _) _).alloc (by simp) _).alloc (by simp; omega) _
  have k1 : Blk W w0.heap.size 84 #[.int .i64 r, .int .i64 c, .slice U L uc] := by rw [hW]; exact ((Blk.new _ _ _).alloc _).alloc _
  have k2 : Blk W (w0.heap.size + 1) 84 #[.int .i64 r, .int .i64 d, .slice V L' vc] := by
    rw [hW]
    have := (Blk.new (w0.alloc (.cells #[.int .i64 r, .int .i64 c, .slice U L uc] 84)) 84 #[.int .i64 r, .int .i64 d, .slice V L' vc]).alloc (.cells #[.int .i64 0, .int .i64 0, .slice none 0 0] 84)
    simpa only [World.size_alloc] using this
  have k3 : Blk W (w0.heap.size + 1 + 1) 84 #[.int .i64 0, .int .i64 0, .slice none 0 0] := by
    rw [hW]
    have := Blk.new ((w0.alloc (.cells #[.int .i64 r, .int .i64 c, .slice U L uc] 84)).alloc (.cells #[.int .i64 r, .int .i64 d, .slice V L' vc] 84)) 84 #[.int .i64 0, .int .i64 0, .slice none 0 0]
    simpa only [World.size_alloc] using this
  have sz : W.heap.size = w0.heap.size + 1 + 1 + 1 := by rw [hW]; simp
  have HU := Lib.hid (MxR.next g0 hu')
  have HV := Lib.hid (MxR.next g0 hv')
  have SZ := Lib.hid sz
  clear sz hu' hv'
  go_enter Try.func114, Try.ntmps114
  go_wp2
  rw [← hW]; clear hW
  refine wp_region_netC (by kernel_rfl) [.eq (.pointer (some ⟨w0.heap.size, 0, none⟩)), .eq (.int .i64 r), .eq (.agg #[.int .i64 r, .int .i64 c, .slice U L uc]), rel 3 (fun u lo hi w => IntssO w lo hi u (rowsF c r (fun a b => f b a)) ∧ W.heap.size ≤ lo ∧ lo ≤ hi), .eq (.agg #[.int .i64 r, .int .i64 d, .slice V L' vc]), .rel (fun x w => IntssO w (x.lo 5) (x.hi 5) (x.v 5) (rowsF d r (fun a b => g b a)) ∧ x.hi 3 ≤ x.lo 5), .rel (fun x w => SlII w w.heap.size (x.v 6) (rowsF (c + d) r (fun a b => bsF c f g b a))), rel 7 (fun u lo hi w => MxO w lo hi u (mxF r (c + d) (bsF c f g)))] [[], [0], [], [2], [], [2, 3, 4], [2, 3, 4, 5], [0, 1, 2, 3, 4, 5, 6], [0, 1, 2, 3, 4, 5, 6, 7]] [[], [0], [], [2], [], [2, 3, 4], [2, 3, 4, 5], [0, 1, 2, 4, 6]] [0, 1, 2, 4, 6, 7] 8 6 (by kernel_rfl) (by kernel_rfl) ⟨.inr (.inr ⟨_, rfl⟩), .inr (.inr ⟨_, rfl⟩), .inr (.inr ⟨_, rfl⟩), .inr (.inr ⟨_, rfl⟩), .inl rfl, .inr (.inl rfl), trivial⟩ ⟨trivial, trivial, trivial, rel_stable (fun u lo hi w w' h hb => ⟨h.1.below hb, h.2⟩), trivial, fun x w w' h hb => ⟨h.1.below hb, h.2⟩, fun x w w' h hb => SlII.next hb h, rel_stable (fun u lo hi w w' h hb => h.below hb), trivial⟩ ⟨?_, ?_, ?_, ?_, ?_, ?_, ?_, ?_, trivial⟩ ?_
  · intro x w hb hk Q' hQ
    clear hk
    simp only [netAct, dstAt, List.getElem?_toArray, List.getElem?_cons_zero, List.getElem?_cons_succ, Option.bind_some, Act.put, List.setIfInBounds_toArray, List.set_cons_zero, List.set_cons_succ] at hQ ⊢
    go_wp2
    exact hQ (.pointer (some ⟨w0.heap.size, 0, none⟩)) _ (Below.refl _ _) rfl
  · intro x w hb hk Q' hQ
    have h0 : x.v 0 = .pointer (some ⟨w0.heap.size, 0, none⟩) := (hk 0 (by decide)).1
    clear hk
    simp only [netAct, dstAt, List.getElem?_toArray, List.getElem?_cons_zero, List.getElem?_cons_succ, Option.bind_some, Act.put, List.setIfInBounds_toArray, List.set_cons_zero, List.set_cons_succ] at hQ ⊢
    simp only [h0] at hQ ⊢
    clear h0
    have z2 := (k1.below hb k1.lt).cell' (i := 0) rfl
    go_wp2
    exact hQ (.int .i64 r) _ (Below.refl _ _) rfl
  · intro x w hb hk Q' hQ
    clear hk
    simp only [netAct, dstAt, List.getElem?_toArray, List.getElem?_cons_zero, List.getElem?_cons_succ, Option.bind_some, Act.put, List.setIfInBounds_toArray, List.set_cons_zero, List.set_cons_succ] at hQ ⊢
    have z0 := (k1.below hb k1.lt).cell' (i := 0) rfl
    have z1 := (k1.below hb k1.lt).cell' (i := 1) rfl
    have z2 := (k1.below hb k1.lt).cell' (i := 2) rfl
    go_wp2
    exact hQ (.agg #[.int .i64 r, .int .i64 c, .slice U L uc]) _ (Below.refl _ _) rfl
  · intro x w hb hk Q' hQ
    have h2 : x.v 2 = .agg #[.int .i64 r, .int .i64 c, .slice U L uc] := (hk 2 (by decide)).1
    clear hk
    simp only [netAct, dstAt, List.getElem?_toArray, List.getElem?_cons_zero, List.getElem?_cons_succ, Option.bind_some, Act.put, List.setIfInBounds_toArray, List.set_cons_zero, List.set_cons_succ] at hQ ⊢
    simp only [h2] at hQ ⊢
    clear h2
    go_wp2_with fail
    refine (columns_any _ r c f _ (MxR.more hb.size (MxR.below hb HU.out)) (by omega) (by omega)).mono ?_; rintro e w5 ⟨v5, rfl, hO5, hb5⟩
    go_wp2
    exact hQ _ _ hb5 ⟨hO5, hb.size, hb5.size⟩
  · intro x w hb hk Q' hQ
    clear hk
    simp only [netAct, dstAt, List.getElem?_toArray, List.getElem?_cons_zero, List.getElem?_cons_succ, Option.bind_some, Act.put, List.setIfInBounds_toArray, List.set_cons_zero, List.set_cons_succ] at hQ ⊢
    have z0 := (k2.below hb k2.lt).cell' (i := 0) rfl
    have z1 := (k2.below hb k2.lt).cell' (i := 1) rfl
    have z2 := (k2.below hb k2.lt).cell' (i := 2) rfl
    go_wp2
    exact hQ (.agg #[.int .i64 r, .int .i64 d, .slice V L' vc]) _ (Below.refl _ _) rfl
  · intro x w hb hk Q' hQ
    have h2 : x.v 2 = .agg #[.int .i64 r, .int .i64 c, .slice U L uc] := (hk 2 (by decide)).1
    have h3 : IntssO w (x.lo 3) (x.hi 3) (x.v 3) (rowsF c r (fun a b => f b a)) ∧ W.heap.size ≤ (x.lo 3) ∧ (x.lo 3) ≤ (x.hi 3) := (hk 3 (by decide)).1
    have h4 : x.v 4 = .agg #[.int .i64 r, .int .i64 d, .slice V L' vc] := (hk 4 (by decide)).1
    have s3 := (hk 3 (by decide)).2
    clear hk
    simp only [netAct, dstAt, List.getElem?_toArray, List.getElem?_cons_zero, List.getElem?_cons_succ, Option.bind_some, Act.put, List.setIfInBounds_toArray, List.set_cons_zero, List.set_cons_succ] at hQ ⊢
    simp only [h2, h4] at hQ ⊢
    clear h2 h4
    go_wp2_with fail
    refine (columns_any _ r d g _ (MxR.more hb.size (MxR.below hb HV.out)) (by omega) (by omega)).mono ?_; rintro e w5 ⟨v5, rfl, hO5, hb5⟩
    go_wp2
    exact hQ _ _ hb5 ⟨hO5, s3⟩
  · intro x w hb hk Q' hQ
    have h2 : x.v 2 = .agg #[.int .i64 r, .int .i64 c, .slice U L uc] := (hk 2 (by decide)).1
    have h3 : IntssO w (x.lo 3) (x.hi 3) (x.v 3) (rowsF c r (fun a b => f b a)) ∧ W.heap.size ≤ (x.lo 3) ∧ (x.lo 3) ≤ (x.hi 3) := (hk 3 (by decide)).1
    have h4 : x.v 4 = .agg #[.int .i64 r, .int .i64 d, .slice V L' vc] := (hk 4 (by decide)).1
    have h5 : IntssO w (x.lo 5) (x.hi 5) (x.v 5) (rowsF d r (fun a b => g b a)) ∧ x.hi 3 ≤ x.lo 5 := (hk 5 (by decide)).1
    have s3 := (hk 3 (by decide)).2
    have s5 := (hk 5 (by decide)).2
    clear hk
    simp only [netAct, dstAt, List.getElem?_toArray, List.getElem?_cons_zero, List.getElem?_cons_succ, Option.bind_some, Act.put, List.setIfInBounds_toArray, List.set_cons_zero, List.set_cons_succ] at hQ ⊢
    simp only [h2, h4] at hQ ⊢
    clear h2 h4
    obtain ⟨h3, l3, l3'⟩ := h3
    obtain ⟨h5, l5⟩ := h5
    have HA := Lib.hid h3
    have HB := Lib.hid h5
    clear h3 h5
    (go_wp2_with (at_builtin; refine Hold.stop ?_)); unfold Hold
    refine wpList_appSS rfl (.tmp 8) (.tmp 10) rfl _ _ _ _ _ _ _ _ rfl HA.out rfl HB.out (.inl l5) (by rw [rowsF_length, rowsF_length]; omega) (by omega) s3 ?_
    intro v' w' hv' hb'
    rw [colsF_app] at hv'
    go_wp2
    exact hQ v' w' (hb'.mono l3) hv'
  · intro x w hb hk Q' hQ
    have h0 : x.v 0 = .pointer (some ⟨w0.heap.size, 0, none⟩) := (hk 0 (by decide)).1
    have h1 : x.v 1 = .int .i64 r := (hk 1 (by decide)).1
    have h2 : x.v 2 = .agg #[.int .i64 r, .int .i64 c, .slice U L uc] := (hk 2 (by decide)).1
    have h4 : x.v 4 = .agg #[.int .i64 r, .int .i64 d, .slice V L' vc] := (hk 4 (by decide)).1
    have h6 : SlII w w.heap.size (x.v 6) (rowsF (c + d) r (fun a b => bsF c f g b a)) := (hk 6 (by decide)).1
    have s6 := (hk 6 (by decide)).2
    clear hk
    simp only [netAct, dstAt, List.getElem?_toArray, List.getElem?_cons_zero, List.getElem?_cons_succ, Option.bind_some, Act.put, List.setIfInBounds_toArray, List.set_cons_zero, List.set_cons_succ] at hQ ⊢
    simp only [h0, h1, h2, h4] at hQ ⊢
    clear h0 h1 h2 h4
    have h6' := Lib.hid h6
    obtain ⟨A6, c6, e6, _⟩ := h6
    rw [e6] at h6' hQ ⊢
    go_wp2_with fail
    refine (fromColumns_any _ r (c + d) (bsF c f g) _ h6'.out (by omega) (by omega)).mono ?_; rintro e w5 ⟨v5, rfl, hO5, hb5⟩
    go_wp2
    exact hQ _ _ hb5 hO5
  · intro x w hb hk hiv hdj
    have h0 : x.v 0 = .pointer (some ⟨w0.heap.size, 0, none⟩) := hk 0 (by decide) (by decide)
    have h1 : x.v 1 = .int .i64 r := hk 1 (by decide) (by decide)
    have h2 : x.v 2 = .agg #[.int .i64 r, .int .i64 c, .slice U L uc] := hk 2 (by decide) (by decide)
    have h4 : x.v 4 = .agg #[.int .i64 r, .int .i64 d, .slice V L' vc] := hk 4 (by decide) (by decide)
    have h6 : SlII w w.heap.size (x.v 6) (rowsF (c + d) r (fun a b => bsF c f g b a)) := hk 6 (by decide) (by decide)
    have h7 : MxO w (x.lo 7) (x.hi 7) (x.v 7) (mxF r (c + d) (bsF c f g)) := hk 7 (by decide) (by decide)
    clear hk
    simp only [netAct, dstAt, List.getElem?_toArray, List.getElem?_cons_zero, List.getElem?_cons_succ, Option.bind_some, Act.put, List.setIfInBounds_toArray, List.set_cons_zero, List.set_cons_succ]
    simp only [List.drop_succ_cons, List.drop_zero, h0, h1, h2, h4]
    clear h0 h1 h2 h4
    have sz := SZ.out
    have kR := k3.below hb k3.lt
    obtain ⟨l7, _, l7h⟩ := hiv 7 (by decide)
    obtain ⟨A7, c7, e7⟩ := h7.form
    simp only [mxF] at e7
    rw [e7] at h7 ⊢
    clear hiv hdj e7 h6
    obtain ⟨N, hN⟩ : ∃ N, (flat r (c + d) (bsF c f g)).length = N := ⟨_, rfl⟩
    rw [hN] at h7 ⊢
    have p0 := kR.cell' (i := 0) rfl
    have p1 := kR.cell' (i := 1) rfl
    have p2 := kR.cell' (i := 2) rfl
    have fr := kR.frozen
    have gX := g0.trans (hb.mono g0.size)
    have gXs := gX.size
    have hbs := hb.size
    have h2 := chg3 w (w0.heap.size + 1 + 1) (.int .i64 (r : Int)) (.int .i64 ((c + d : Nat) : Int)) (.slice A7 N c7)
    have OF := Lib.hid ((h7.chg h2 (.inr (by omega))).wider (lo' := w0.heap.size) (hi' := w.heap.size) (by omega) (by omega))
    have GF := Lib.hid (gX.trans (h2.below (by omega) gXs))
    have e8 : ((c + d : Nat) : Int) = (c : Int) + d := by simp
    rw [e8] at OF GF
    clear h7 h2 gX kR hN sz gXs hbs l7 l7h hb k1 k2 k3 e8
    go_wp2
    exact bodyPost_ret (v := .agg #[.int .i64 (r : Int), .int .i64 ((c : Int) + d), .slice A7 N c7]) (by simp [results, go_sem, p0, p1, p2]) rfl ⟨_, rfl, OF.out.wider (Nat.le_refl _) (by simp), GF.out⟩
end Go.Proofs.Ytcmlflppndfdcaa

/- slices.Concat at []int, and the matrix of some rows. -/
namespace Go.Proofs
open Go.Shelf
def Try.laysGrow_ren : Go.Shelf.Ren := ⟨fun | 4 => 148 | n => n, fun | 22 => 22 | 25 => 3 | 3 => 3 | 4 => 4 | 9 => 9 | 20 => 20 | 0 => 0 | n => n, fun | n => n⟩
theorem Try.laysGrow : Go.Proofs.Lays8.n4 Try.prog Try.laysGrow_ren := {
  mixed := by kernel_rfl
  f4 := ⟨Try.f148.name, by decide, Try.func148.trans (congrArg some (by kernel_rfl))⟩
  t0 := Try.underlying0
  a0 := Try.isAgg0
  z0 := Try.sizeOf0
  v0 := Try.zeroValue0
  t3 := Try.underlying3
  a3 := Try.isAgg3
  z3 := Try.sizeOf3
  v3 := Try.zeroValue3
  t4 := Try.underlying4
  a4 := Try.isAgg4
  z4 := Try.sizeOf4
  v4 := Try.zeroValue4
  t9 := Try.underlying9
  a9 := Try.isAgg9
  z9 := Try.sizeOf9
  v9 := Try.zeroValue9
  t20 := Try.underlying20
  a20 := Try.isAgg20
  z20 := Try.sizeOf20
  v20 := Try.zeroValue20
  t22 := Try.underlying22
  a22 := Try.isAgg22
  z22 := Try.sizeOf22
  v22 := Try.zeroValue22 }
end Go.Proofs
namespace Go.Proofs.Ytcmlflppndfdcaa
set_option linter.unusedVariables false
set_option linter.unusedSimpArgs false
open Go.RowKit

theorem grow_any (n : Nat) (w : World) (hn : n ≤ 1000000) :
    Calls Try.prog 148 #[.slice none 0 0, .int .i64 n] w fun e w' => ∃ v, e = .returned v ∧ OwnI w' w.heap.size v [] ∧ Below w.heap.size w w' := by
  rcases Nat.eq_zero_or_pos n with rfl | h0
  · exact (Any8.slices_Grow_room Try.laysGrow none 0 0 0 w (by omega) (by omega) (by omega) (by omega)).mono fun e w' ⟨h1, h2⟩ => ⟨_, h1, OwnI.nil _ _, by rw [h2]; exact Below.refl _ _⟩
  · obtain ⟨i0, hi, hz0, hz1, hz2⟩ := info_parts infoInt
    have hG : Calls Try.prog 148 #[.slice none 0 0, .int .i64 n] w fun e w' => e = .returned (.slice (some ⟨w.heap.size, 0, none⟩) 0 (grownCap w (0 + n) 0 3)) ∧
        w' = w.drew.alloc (.cells (([] : List Value).toArray ++ Builtin.zeroCells (Value.int .i64 0).cells (0 + n - 0) ++ Builtin.zeroCells (Value.int .i64 0).cells (grownCap w (0 + n) 0 3 - (0 + n))) 3) :=
      Any8.slices_Grow_grow Try.laysGrow i0 _ hi hz0 (by omega) none 0 0 n [] w (by omega) (by omega) (by rw [hz2]; omega) (by omega) (by simp) (fun _ => rfl) (fun a h => by cases h)
    rw [Nat.zero_add, Nat.sub_zero] at hG
    refine hG.mono fun e w' ⟨h1, h2⟩ => ⟨_, h1, ?_, ?_⟩
    · rw [h2]
      have hg := grownCap_ge w n 0 3
      have hm := grownCap_le_maxLen w n 0 3 (by simp only [maxLen]; omega)
      refine ⟨⟨by simp, .inr ⟨w.heap.size, grownCap w n 0 3, _, rfl, Nat.le_refl _, Blk.new _ _ _, Nat.zero_le _, hm, ?_, by simp⟩⟩, by simp, by simp⟩
      have hz : (Value.int .i64 0).cells.size = 1 := rfl
      simp only [Array.size_append, size_zeroCells, List.size_toArray, List.length_nil, hz, Nat.mul_one]
      omega
    · rw [h2]
      exact bthen (drew_below w) (below_alloc _ _)

theorem flatten_len_take (ll : List (List Int)) (k : Nat) : (ll.take k).flatten.length ≤ ll.flatten.length := by
  have : ll = ll.take k ++ ll.drop k := (List.take_append_drop k ll).symm
  have h2 := congrArg (fun x => (List.flatten x).length) this
  simp only [List.flatten_append, List.length_append] at h2
  omega
set_option maxHeartbeats 1600000 in
theorem concat_any (u : Value) (ll : List (List Int)) (w : World) (hu : SlII w w.heap.size u ll) (hn : ll.length ≤ 1000000) (ht : ll.flatten.length ≤ 1000000) :
    Calls Try.prog 120 #[u] w fun e w' => ∃ v, e = .returned v ∧ IntsO w' w.heap.size w'.heap.size v ll.flatten ∧ Below w.heap.size w w' := by
  obtain ⟨A, c, rfl, _, _, _, hx⟩ := hu.open_
  clear hu
  have HX := Lib.hid hx
  have HT := Lib.hid ht
  obtain ⟨n, hnl⟩ : ∃ n, ll.length = n := ⟨_, rfl⟩
  have HNL := Lib.hid hnl
  rw [hnl] at hn ⊢
  clear hx ht hnl
  go_enter Try.func120, Try.ntmps120
  go_wp2
  go_loopw [3, 11] (fun s i wr => ∃ k : Nat, k ≤ n ∧ i = .int .i64 k ∧ s = .int .i64 ((ll.take k).flatten.length : Nat) ∧ w = wr) (fun _ i _ => n - (intOf i).toNat)
  case atStart => exact ⟨0, Nat.zero_le _, rfl, by simp, rfl⟩
  case round =>
    obtain ⟨k, hk, rfl, rfl, rfl⟩ := hrel
    have hle := flatten_len_take ll k
    have hle2 := flatten_len_take ll (k + 1)
    have ht := HT.out
    obtain ⟨s, hs⟩ : ∃ s, (ll.take k).flatten.length = s := ⟨_, rfl⟩
    by_cases hlt : k < n
    · rw [hs] at hle ⊢
      have hx := HX.out
      rw [← HNL.out] at hlt
      obtain ⟨b, o, l, LA, lc, rfl, hb, HL, x1, hl⟩ := SlII.at_ hx hlt
      rw [HNL.out] at hlt
      have e1 : (ll.take (k + 1)).flatten.length = s + l.length := by rw [take_snoc HL.out, List.flatten_append, List.length_append, hs]; simp
      rw [e1] at hle2
      have hsl : s + l.length ≤ 1000000 := by omega
      have E1 := Lib.hid e1
      clear hs e1 ht hle hle2 hx HL hl hb
      go_wp2
      go_roundw
      case rel => exact ⟨k + 1, by omega, by go_num, by rw [E1.out]; go_num, by first | rfl | trivial⟩
      case measure => simp [intOf]; omega
    · obtain rfl : k = n := by omega
      have e0 : ll.take k = ll := List.take_of_length_le (by have := HNL.out; omega)
      rw [e0] at hs ⊢
      rw [hs] at ht ⊢
      clear hle hle2 e0
      have HS := Lib.hid hs
      clear hs
      go_wp2_with fail
      refine (grow_any s _ (by omega)).mono ?_; rintro e w1 ⟨v, rfl, ho, hb1⟩
      obtain ⟨OA, oc, rfl, _, _⟩ := ho.form
      have gw := hb1
      go_wp2
      go_loopw [6, 27] (fun out i wr => ∃ j : Nat, j ≤ k ∧ i = .int .i64 j ∧ OwnI wr w.heap.size out (ll.take j).flatten ∧ Below w.heap.size w wr) (fun _ i _ => k - (intOf i).toNat)
      case atStart => exact ⟨0, Nat.zero_le _, rfl, by simpa using ho, hb1⟩
      case round =>
        clear ho hb1 gw
        obtain ⟨j, hj, rfl, ho, hb1⟩ := hrel
        have gs := hb1.size
        by_cases hlj : j < k
        · have hx := HX.out
          rw [← HNL.out] at hlj
          obtain ⟨b, o, l, LA, lc, rfl, hb, HL, x1, hl⟩ := SlII.at_ hx hlj
          rw [HNL.out] at hlj
          have x2 := bcell hb1 hb x1
          have hl2 : SlI wr w.heap.size (.slice LA l.length lc) l := SlI.below hb1 hl
          have e1 : (ll.take (j + 1)).flatten = (ll.take j).flatten ++ l := by rw [take_snoc HL.out, List.flatten_append]; simp
          have hle2 := flatten_len_take ll (j + 1)
          rw [e1, List.length_append, HS.out] at hle2
          have E1 := Lib.hid e1
          obtain ⟨OB, ob, rfl, _, _⟩ := ho.form
          have HO := Lib.hid ho
          have HL2 := Lib.hid hl2
          have HLE := Lib.hid hle2
          have GW := Lib.hid hb1
          have hlo2 := HO.out.lt
          clear e1 hx hl hl2 HL x1 ho hle2 hb1
          (go_wp2_with (at_builtin; refine Hold.stop ?_)); unfold Hold
          refine wpList_appI rfl (.tmp 31) (.tmp 32) rfl w.heap.size w.heap.size _ _ rfl HO.out LA l.length lc l rfl rfl HL2.out (by have := HLE.out; omega) gs ?_
          intro v' w' h1 h2 h3
          rw [← E1.out] at h1
          have g2 := (GW.out).trans (below_grown h2 (fun k hk => (hlo2 k hk).1) gs)
          have H1 := Lib.hid h1
          have G2 := Lib.hid g2
          clear h1 h2 h3 g2 hlo2
          go_wp2
          go_roundw
          case rel => exact ⟨j + 1, by omega, by go_num, H1.out, G2.out⟩
          case measure => simp [intOf]; omega
        · obtain rfl : j = k := by omega
          have e0 : ll.take j = ll := List.take_of_length_le (by have := HNL.out; omega)
          rw [e0] at ho
          have HO := Lib.hid ho
          clear ho e0
          go_wp2
          go_ret
          exact ⟨_, rfl, IntsO.of_own HO.out, hb1⟩

theorem rowsF_flatten (r c : Nat) (f : Nat → Nat → Int) : (rowsF r c f).flatten = flat r c f := by
  induction r with
  | zero => simp [rowsF, flat]
  | succ r ih =>
    rw [rowsF_succ, List.flatten_append, ih]
    refine flat_ext (by simp [flat_length, rowF_length, Nat.add_mul]) fun i k hi hk => ?_
    rw [List.getElem?_append]
    by_cases h : i < r
    · rw [if_pos (by rw [flat_length]; exact ix_lt h hk), flat_get f h hk]
    · obtain rfl : i = r := by omega
      rw [if_neg (by rw [flat_length]; omega), flat_length, show i * c + k - i * c = k by omega]
      simp [rowF_get _ hk]
set_option maxHeartbeats 800000 in
theorem fromRows_any (u : Value) (c r : Nat) (f : Nat → Nat → Int) (w0 : World) (hu : SlII w0 w0.heap.size u (rowsF r c f)) (hr : r ≤ 1000) (hc : c ≤ 1000) :
    Calls Try.prog 69 #[.int .i64 c, u] w0 fun e w' => ∃ v, e = .returned v ∧ MxO w' w0.heap.size w'.heap.size v (mxF r c f) ∧ Below w0.heap.size w0 w' := by
  have hu' := hu
  obtain ⟨A, ac, rfl, _⟩ := hu
  rw [rowsF_length] at hu' ⊢
  obtain ⟨W, hW⟩ : ∃ W, W = w0.alloc (.cells #[.int .i64 0, .int .i64 0, .slice none 0 0] 84) := ⟨_, rfl⟩
  have g0 : Below w0.heap.size w0 W := by rw [hW]; exact below_alloc _ _
  have k2 : Blk W w0.heap.size 84 #[.int .i64 0, .int .i64 0, .slice none 0 0] := by rw [hW]; exact Blk.new _ _ _
  have sz : W.heap.size = w0.heap.size + 1 := by rw [hW]; simp
  have hle : r * c ≤ 1000 * 1000 := Nat.mul_le_mul hr hc
  have HLE : Hid ((rowsF r c f).flatten.length ≤ 1000000) := by show _ ≤ _; rw [rowsF_flatten, flat_length]; exact Nat.le_trans hle (by decide)
  have HU := Lib.hid (SlII.next g0 hu')
  have K2 := Lib.hid k2
  have SZ := Lib.hid sz
  clear hu' k2 sz hle
  go_enter Try.func69, Try.ntmps69
  go_wp2_with fail
  rw [← hW]; clear hW
  refine (concat_any _ (rowsF r c f) W HU.out (by rw [rowsF_length]; omega) HLE.out).mono ?_; rintro e wr ⟨v1, rfl, oA, gW⟩
  rw [rowsF_flatten] at oA
  obtain ⟨A1, c1, rfl⟩ := oA.form
  obtain ⟨N, hN⟩ : ∃ N, (flat r c f).length = N := ⟨_, rfl⟩
  rw [hN] at oA ⊢
  clear hN
  have k2 := K2.out.call gW
  have p0 := k2.cell' (i := 0) rfl
  have p1 := k2.cell' (i := 1) rfl
  have p2 := k2.cell' (i := 2) rfl
  have f2 := k2.frozen
  have h2 := chg3 wr w0.heap.size (.int .i64 (r : Int)) (.int .i64 c) (.slice A1 N c1)
  have gw : Below w0.heap.size w0 wr := g0.trans (gW.mono g0.size)
  have gs := gw.size
  have oA2 := (oA.chg h2 (.inr (by have := SZ.out; omega))).wider (lo' := w0.heap.size) (hi' := wr.heap.size) (by have := SZ.out; omega) (Nat.le_refl _)
  have fg := gw.trans (h2.below (Nat.le_refl _) gs)
  have OA2 := Lib.hid oA2
  have FG := Lib.hid fg
  clear oA oA2 fg gw h2 k2 gW
  go_wp2
  exact bodyPost_ret (v := .agg #[.int .i64 (r : Int), .int .i64 c, .slice A1 N c1]) (by simp [results, go_sem, p0, p1, p2]) rfl ⟨_, rfl, ⟨_, rfl, by simpa [mxF] using OA2.out, by simp only [mxF, I64]; omega, by simp only [mxF, I64]; omega⟩, FG.out⟩
set_option maxHeartbeats 3200000 in
set_option maxRecDepth 100000 in
theorem below_any (u v : Value) (c r s : Nat) (f g : Nat → Nat → Int) (w0 : World) (hu : MxR w0 w0.heap.size u (mxF r c f)) (hv : MxR w0 w0.heap.size v (mxF s c g)) (hr : r ≤ 500) (hs : s ≤ 500) (hc : c ≤ 500) :
    Calls Try.prog 158 #[u, v] w0 fun e w' => ∃ v, e = .returned v ∧ MxO w' w0.heap.size w'.heap.size v (mxF (r + s) c (blF r f g)) ∧ Below w0.heap.size w0 w' := by
  have hu' := hu
  have hv' := hv
  obtain ⟨U, uc, rfl⟩ := hu.form
  obtain ⟨V, vc, rfl⟩ := hv.form
  obtain ⟨L, hL⟩ : ∃ L, (mxF r c f).a.length = L := ⟨_, rfl⟩
  obtain ⟨L', hL'⟩ : ∃ L, (mxF s c g).a.length = L := ⟨_, rfl⟩
  have z1 : (mxF r c f).r = (r : Int) := rfl
  have z2 : (mxF r c f).c = (c : Int) := rfl
  have z3 : (mxF s c g).r = (s : Int) := rfl
  have z4 : (mxF s c g).c = (c : Int) := rfl
  rw [hL, z1, z2] at hu' ⊢
  rw [hL', z3, z4] at hv' ⊢
  clear hu hv hL hL' z1 z2 z3 z4
  obtain ⟨W, hW⟩ : ∃ W, W = ((w0.alloc (.cells #[.int .i64 r, .int .i64 c, .slice U L uc] 84)).alloc (.cells #[.int .i64 s, .int .i64 c, .slice V L' vc] 84)).alloc (.cells #[.int .i64 0, .int .i64 0, .slice none 0 0] 84) := ⟨_, rfl⟩
  have g0 : Below w0.heap.size w0 W := by rw [hW]; exact (((Below.refl _ _).alloc (Nat.le_refl _) _).alloc (by simp) _).alloc (by simp; omega) _
  have k1 : Blk W w0.heap.size 84 #[.int .i64 r, .int .i64 c, .slice U L uc] := by rw [hW]; exact ((Blk.new _ _ _).alloc _).alloc _
  have k2 : Blk W (w0.heap.size + 1) 84 #[.int .i64 s, .int .i64 c, .slice V L' vc] := by
    rw [hW]
    have := (Blk.new (w0.alloc (.cells #[.int .i64 r, .int .i64 c, .slice U L uc] 84)) 84 #[.int .i64 s, .int .i64 c, .slice V L' vc]).alloc (.cells #[.int .i64 0, .int .i64 0, .slice none 0 0] 84)
    simpa only [World.size_alloc] using this
  have k3 : Blk W (w0.heap.size + 1 + 1) 84 #[.int .i64 0, .int .i64 0, .slice none 0 0] := by
    rw [hW]
    have := Blk.new ((w0.alloc (.cells #[.int .i64 r, .int .i64 c, .slice U L uc] 84)).alloc (.cells #[.int .i64 s, .int .i64 c, .slice V L' vc] 84)) 84 #[.int .i64 0, .int .i64 0, .slice none 0 0]
    simpa only [World.size_alloc] using this
  have sz : W.heap.size = w0.heap.size + 1 + 1 + 1 := by rw [hW]; simp
  have HU := Lib.hid (MxR.next g0 hu')
  have HV := Lib.hid (MxR.next g0 hv')
  have SZ := Lib.hid sz
  clear sz hu' hv'
  go_enter Try.func158, Try.ntmps158
  go_wp2
  rw [← hW]; clear hW
  refine wp_region_netC (by kernel_rfl) [.eq (.pointer (some ⟨w0.heap.size, 1, none⟩)), .eq (.int .i64 c), .eq (.agg #[.int .i64 r, .int .i64 c, .slice U L uc]), rel 3 (fun u lo hi w => IntssO w lo hi u (rowsF r c f) ∧ W.heap.size ≤ lo ∧ lo ≤ hi), .eq (.agg #[.int .i64 s, .int .i64 c, .slice V L' vc]), .rel (fun x w => IntssO w (x.lo 5) (x.hi 5) (x.v 5) (rowsF s c g) ∧ x.hi 3 ≤ x.lo 5), .rel (fun x w => SlII w w.heap.size (x.v 6) (rowsF (r + s) c (blF r f g))), rel 7 (fun u lo hi w => MxO w lo hi u (mxF (r + s) c (blF r f g)))] [[], [0], [], [2], [], [2, 3, 4], [2, 3, 4, 5], [0, 1, 2, 3, 4, 5, 6], [0, 1, 2, 3, 4, 5, 6, 7]] [[], [0], [], [2], [], [2, 3, 4], [2, 3, 4, 5], [0, 1, 2, 4, 6]] [0, 1, 2, 4, 6, 7] 8 6 (by kernel_rfl) (by kernel_rfl) ⟨.inr (.inr ⟨_, rfl⟩), .inr (.inr ⟨_, rfl⟩), .inr (.inr ⟨_, rfl⟩), .inr (.inr ⟨_, rfl⟩), .inl rfl, .inr (.inl rfl), trivial⟩ ⟨trivial, trivial, trivial, rel_stable (fun u lo hi w w' h hb => ⟨h.1.below hb, h.2⟩), trivial, fun x w w' h hb => ⟨h.1.below hb, h.2⟩, fun x w w' h hb => SlII.next hb h, rel_stable (fun u lo hi w w' h hb => h.below hb), trivial⟩ ⟨?_, ?_, ?_, ?_, ?_, ?_, ?_, ?_, trivial⟩ ?_
  · intro x w hb hk Q' hQ
    clear hk
    simp only [netAct, dstAt, List.getElem?_toArray, List.getElem?_cons_zero, List.getElem?_cons_succ, Option.bind_some, Act.put, List.setIfInBounds_toArray, List.set_cons_zero, List.set_cons_succ] at hQ ⊢
    go_wp2
    exact hQ (.pointer (some ⟨w0.heap.size, 1, none⟩)) _ (Below.refl _ _) rfl
  · intro x w hb hk Q' hQ
    have h0 : x.v 0 = .pointer (some ⟨w0.heap.size, 1, none⟩) := (hk 0 (by decide)).1
    clear hk
    simp only [netAct, dstAt, List.getElem?_toArray, List.getElem?_cons_zero, List.getElem?_cons_succ, Option.bind_some, Act.put, List.setIfInBounds_toArray, List.set_cons_zero, List.set_cons_succ] at hQ ⊢
    simp only [h0] at hQ ⊢
    clear h0
    have z2 := (k1.below hb k1.lt).cell' (i := 1) rfl
    go_wp2
    exact hQ (.int .i64 c) _ (Below.refl _ _) rfl
  · intro x w hb hk Q' hQ
    clear hk
    simp only [netAct, dstAt, List.getElem?_toArray, List.getElem?_cons_zero, List.getElem?_cons_succ, Option.bind_some, Act.put, List.setIfInBounds_toArray, List.set_cons_zero, List.set_cons_succ] at hQ ⊢
    have z0 := (k1.below hb k1.lt).cell' (i := 0) rfl
    have z1 := (k1.below hb k1.lt).cell' (i := 1) rfl
    have z2 := (k1.below hb k1.lt).cell' (i := 2) rfl
    go_wp2
    exact hQ (.agg #[.int .i64 r, .int .i64 c, .slice U L uc]) _ (Below.refl _ _) rfl
  · intro x w hb hk Q' hQ
    have h2 : x.v 2 = .agg #[.int .i64 r, .int .i64 c, .slice U L uc] := (hk 2 (by decide)).1
    clear hk
    simp only [netAct, dstAt, List.getElem?_toArray, List.getElem?_cons_zero, List.getElem?_cons_succ, Option.bind_some, Act.put, List.setIfInBounds_toArray, List.set_cons_zero, List.set_cons_succ] at hQ ⊢
    simp only [h2] at hQ ⊢
    clear h2
    go_wp2_with fail
    refine (rows_any _ r c f _ (MxR.more hb.size (MxR.below hb HU.out)) (by omega) (by omega)).mono ?_; rintro e w5 ⟨v5, rfl, hO5, hb5⟩
    go_wp2
    exact hQ _ _ hb5 ⟨hO5, hb.size, hb5.size⟩
  · intro x w hb hk Q' hQ
    clear hk
    simp only [netAct, dstAt, List.getElem?_toArray, List.getElem?_cons_zero, List.getElem?_cons_succ, Option.bind_some, Act.put, List.setIfInBounds_toArray, List.set_cons_zero, List.set_cons_succ] at hQ ⊢
    have z0 := (k2.below hb k2.lt).cell' (i := 0) rfl
    have z1 := (k2.below hb k2.lt).cell' (i := 1) rfl
    have z2 := (k2.below hb k2.lt).cell' (i := 2) rfl
    go_wp2
    exact hQ (.agg #[.int .i64 s, .int .i64 c, .slice V L' vc]) _ (Below.refl _ _) rfl
  · intro x w hb hk Q' hQ
    have h2 : x.v 2 = .agg #[.int .i64 r, .int .i64 c, .slice U L uc] := (hk 2 (by decide)).1
    have h3 : IntssO w (x.lo 3) (x.hi 3) (x.v 3) (rowsF r c f) ∧ W.heap.size ≤ (x.lo 3) ∧ (x.lo 3) ≤ (x.hi 3) := (hk 3 (by decide)).1
    have h4 : x.v 4 = .agg #[.int .i64 s, .int .i64 c, .slice V L' vc] := (hk 4 (by decide)).1
    have s3 := (hk 3 (by decide)).2
    clear hk
    simp only [netAct, dstAt, List.getElem?_toArray, List.getElem?_cons_zero, List.getElem?_cons_succ, Option.bind_some, Act.put, List.setIfInBounds_toArray, List.set_cons_zero, List.set_cons_succ] at hQ ⊢
    simp only [h2, h4] at hQ ⊢
    clear h2 h4
    go_wp2_with fail
    refine (rows_any _ s c g _ (MxR.more hb.size (MxR.below hb HV.out)) (by omega) (by omega)).mono ?_; rintro e w5 ⟨v5, rfl, hO5, hb5⟩
    go_wp2
    exact hQ _ _ hb5 ⟨hO5, s3⟩
  · intro x w hb hk Q' hQ
    have h2 : x.v 2 = .agg #[.int .i64 r, .int .i64 c, .slice U L uc] := (hk 2 (by decide)).1
    have h3 : IntssO w (x.lo 3) (x.hi 3) (x.v 3) (rowsF r c f) ∧ W.heap.size ≤ (x.lo 3) ∧ (x.lo 3) ≤ (x.hi 3) := (hk 3 (by decide)).1
    have h4 : x.v 4 = .agg #[.int .i64 s, .int .i64 c, .slice V L' vc] := (hk 4 (by decide)).1
    have h5 : IntssO w (x.lo 5) (x.hi 5) (x.v 5) (rowsF s c g) ∧ x.hi 3 ≤ x.lo 5 := (hk 5 (by decide)).1
    have s3 := (hk 3 (by decide)).2
    have s5 := (hk 5 (by decide)).2
    clear hk
    simp only [netAct, dstAt, List.getElem?_toArray, List.getElem?_cons_zero, List.getElem?_cons_succ, Option.bind_some, Act.put, List.setIfInBounds_toArray, List.set_cons_zero, List.set_cons_succ] at hQ ⊢
    simp only [h2, h4] at hQ ⊢
    clear h2 h4
    obtain ⟨h3, l3, l3'⟩ := h3
    obtain ⟨h5, l5⟩ := h5
    have HA := Lib.hid h3
    have HB := Lib.hid h5
    clear h3 h5
    (go_wp2_with (at_builtin; refine Hold.stop ?_)); unfold Hold
    refine wpList_appSS rfl (.tmp 8) (.tmp 10) rfl _ _ _ _ _ _ _ _ rfl HA.out rfl HB.out (.inl l5) (by rw [rowsF_length, rowsF_length]; omega) (by omega) s3 ?_
    intro v' w' hv' hb'
    rw [rowsF_app] at hv'
    go_wp2
    exact hQ v' w' (hb'.mono l3) hv'
  · intro x w hb hk Q' hQ
    have h0 : x.v 0 = .pointer (some ⟨w0.heap.size, 1, none⟩) := (hk 0 (by decide)).1
    have h1 : x.v 1 = .int .i64 c := (hk 1 (by decide)).1
    have h2 : x.v 2 = .agg #[.int .i64 r, .int .i64 c, .slice U L uc] := (hk 2 (by decide)).1
    have h4 : x.v 4 = .agg #[.int .i64 s, .int .i64 c, .slice V L' vc] := (hk 4 (by decide)).1
    have h6 : SlII w w.heap.size (x.v 6) (rowsF (r + s) c (blF r f g)) := (hk 6 (by decide)).1
    have s6 := (hk 6 (by decide)).2
    clear hk
    simp only [netAct, dstAt, List.getElem?_toArray, List.getElem?_cons_zero, List.getElem?_cons_succ, Option.bind_some, Act.put, List.setIfInBounds_toArray, List.set_cons_zero, List.set_cons_succ] at hQ ⊢
    simp only [h0, h1, h2, h4] at hQ ⊢
    clear h0 h1 h2 h4
    have h6' := Lib.hid h6
    obtain ⟨A6, c6, e6, _⟩ := h6
    rw [e6] at h6' hQ ⊢
    go_wp2_with fail
    refine (fromRows_any _ c (r + s) (blF r f g) _ h6'.out (by omega) (by omega)).mono ?_; rintro e w5 ⟨v5, rfl, hO5, hb5⟩
    go_wp2
    exact hQ _ _ hb5 hO5
  · intro x w hb hk hiv hdj
    have h0 : x.v 0 = .pointer (some ⟨w0.heap.size, 1, none⟩) := hk 0 (by decide) (by decide)
    have h1 : x.v 1 = .int .i64 c := hk 1 (by decide) (by decide)
    have h2 : x.v 2 = .agg #[.int .i64 r, .int .i64 c, .slice U L uc] := hk 2 (by decide) (by decide)
    have h4 : x.v 4 = .agg #[.int .i64 s, .int .i64 c, .slice V L' vc] := hk 4 (by decide) (by decide)
    have h6 : SlII w w.heap.size (x.v 6) (rowsF (r + s) c (blF r f g)) := hk 6 (by decide) (by decide)
    have h7 : MxO w (x.lo 7) (x.hi 7) (x.v 7) (mxF (r + s) c (blF r f g)) := hk 7 (by decide) (by decide)
    clear hk
    simp only [netAct, dstAt, List.getElem?_toArray, List.getElem?_cons_zero, List.getElem?_cons_succ, Option.bind_some, Act.put, List.setIfInBounds_toArray, List.set_cons_zero, List.set_cons_succ]
    simp only [List.drop_succ_cons, List.drop_zero, h0, h1, h2, h4]
    clear h0 h1 h2 h4
    have sz := SZ.out
    have kR := k3.below hb k3.lt
    obtain ⟨l7, _, l7h⟩ := hiv 7 (by decide)
    obtain ⟨A7, c7, e7⟩ := h7.form
    simp only [mxF] at e7
    rw [e7] at h7 ⊢
    clear hiv hdj e7 h6
    obtain ⟨N, hN⟩ : ∃ N, (flat (r + s) c (blF r f g)).length = N := ⟨_, rfl⟩
    rw [hN] at h7 ⊢
    have p0 := kR.cell' (i := 0) rfl
    have p1 := kR.cell' (i := 1) rfl
    have p2 := kR.cell' (i := 2) rfl
    have fr := kR.frozen
    have gX := g0.trans (hb.mono g0.size)
    have gXs := gX.size
    have hbs := hb.size
    have h2 := chg3 w (w0.heap.size + 1 + 1) (.int .i64 ((r + s : Nat) : Int)) (.int .i64 (c : Int)) (.slice A7 N c7)
    have OF := Lib.hid ((h7.chg h2 (.inr (by omega))).wider (lo' := w0.heap.size) (hi' := w.heap.size) (by omega) (by omega))
    have GF := Lib.hid (gX.trans (h2.below (by omega) gXs))
    have e8 : ((r + s : Nat) : Int) = (r : Int) + s := by simp
    rw [e8] at OF GF
    clear h7 h2 gX kR hN sz gXs hbs l7 l7h hb k1 k2 k3 e8
    go_wp2
    exact bodyPost_ret (v := .agg #[.int .i64 ((r : Int) + s), .int .i64 c, .slice A7 N c7]) (by simp [results, go_sem, p0, p1, p2]) rfl ⟨_, rfl, OF.out.wider (Nat.le_refl _) (by simp), GF.out⟩
end Go.Proofs.Ytcmlflppndfdcaa

/- Sums of representations, plain: representations told by functions. -/
namespace Go.Proofs.Ytcmlflppndfdcaa
set_option linter.unusedVariables false
set_option linter.unusedSimpArgs false
open Go.RowKit

def tN (q : Qv) (i : Nat) : Nat := (q.t.getD i 0).toNat
def fN (q : Qv) (i : Nat) : Nat := (q.f.getD i 0).toNat
/-- a representation told by its dimensions and its numbers -/
def rpF (p : Int) (q : Qv) (D : Nat → Nat) (E : Nat → Nat → Nat → Int) : Rp :=
  ⟨p, q, rowF q.v.toNat fun v => (D v : Int), msF q.f.length fun i => mxF (D (tN q i)) (D (fN q i)) (E i)⟩
/-- the numbers of a sum -/
def dsE (r c : Nat) (e g : Nat → Nat → Int) : Nat → Nat → Int := blF r (bsF c e fun _ _ => 0) (bsF c (fun _ _ => 0) g)
def dsF (q : Qv) (D : Nat → Nat) (E G : Nat → Nat → Nat → Int) (i : Nat) : Nat → Nat → Int := dsE (D (tN q i)) (D (fN q i)) (E i) (G i)
theorem dsE_rng {r c : Nat} {e g : Nat → Nat → Int} {p : Int} (hp : 1 ≤ p) (he : ∀ j k, 0 ≤ e j k ∧ e j k ≤ p - 1) (hg : ∀ j k, 0 ≤ g j k ∧ g j k ≤ p - 1) (j k : Nat) : 0 ≤ dsE r c e g j k ∧ dsE r c e g j k ≤ p - 1 := by
  unfold dsE blF bsF
  split
  · split
    · exact he _ _
    · show (0 : Int) ≤ 0 ∧ (0 : Int) ≤ p - 1; omega
  · split
    · show (0 : Int) ≤ 0 ∧ (0 : Int) ≤ p - 1; omega
    · exact hg _ _
theorem q_ends {q : Qv} (hq : isQ q = true) {i : Nat} (hi : i < q.f.length) : q.f[i]? = some (fN q i : Int) ∧ q.t[i]? = some (tN q i : Int) ∧ fN q i < q.v.toNat ∧ tN q i < q.v.toNat := by
  obtain ⟨hv, hl, h6, hf, ht⟩ := isQ_t.1 hq
  have e1 : q.f[i]? = some (q.f[i]'hi) := List.getElem?_eq_getElem hi
  have e2 : q.t[i]? = some (q.t[i]'(by omega)) := List.getElem?_eq_getElem (by omega)
  have r1 := hf _ (List.mem_of_getElem? e1)
  have r2 := ht _ (List.mem_of_getElem? e2)
  have f1 : fN q i = (q.f[i]'hi).toNat := by rw [fN, List.getD_eq_getElem?_getD, e1]; rfl
  have f2 : tN q i = (q.t[i]'(by omega)).toNat := by rw [tN, List.getD_eq_getElem?_getD, e2]; rfl
  rw [e1, e2, f1, f2]
  exact ⟨by congr 1; omega, by congr 1; omega, by omega, by omega⟩
theorem rpF_rep {p : Int} {q : Qv} {D : Nat → Nat} {E : Nat → Nat → Nat → Int} (hp : isFld p = true) (hq : isQ q = true) (hE : ∀ i j k, 0 ≤ E i j k ∧ E i j k ≤ p - 1) : isRep (rpF p q D E) = areDims q (rowF q.v.toNat fun v => (D v : Int)) := by
  rw [isRep]
  show (isFld p && areDims q (rowF q.v.toNat fun v => (D v : Int)) && decide ((msF q.f.length _).length = q.f.length) && okMs (rpF p q D E) (msF q.f.length _).length) = _
  rw [msF_length, hp]
  cases hd : areDims q (rowF q.v.toNat fun v => (D v : Int)) with
  | false => simp
  | true =>
    have hok : okMs (rpF p q D E) q.f.length = true := by
      rw [okMs, List.all_eq_true]
      intro i hi
      rw [List.mem_range] at hi
      obtain ⟨e1, e2, l1, l2⟩ := q_ends hq hi
      have hr := (areDims_t.1 hd).2.2.1
      have d1 : dAt (rpF p q D E).d (fN q i) = (D (fN q i) : Int) := by
        show (rowF q.v.toNat fun v => (D v : Int)).getD ((fN q i : Nat) : Int).toNat 0 = _
        rw [Int.toNat_natCast, rowF_getD _ l1]
      have d2 : dAt (rpF p q D E).d (tN q i) = (D (tN q i) : Int) := by
        show (rowF q.v.toNat fun v => (D v : Int)).getD ((tN q i : Nat) : Int).toNat 0 = _
        rw [Int.toNat_natCast, rowF_getD _ l2]
      have b1 : (D (fN q i) : Int) ≤ 4 := by
        have := (hr _ (List.mem_of_getElem? (rowF_get (fun v => (D v : Int)) l1))).2
        exact this
      have b2 : (D (tN q i) : Int) ≤ 4 := by
        have := (hr _ (List.mem_of_getElem? (rowF_get (fun v => (D v : Int)) l2))).2
        exact this
      have hm : (rpF p q D E).m.getD i ⟨0, 0, []⟩ = mxF (D (tN q i)) (D (fN q i)) (E i) := by
        show (msF q.f.length _).getD i ⟨0, 0, []⟩ = _
        rw [List.getD_eq_getElem?_getD, msF_get _ hi]; rfl
      have hf : (rpF p q D E).q.f.getD i 0 = (fN q i : Int) := by
        show q.f.getD i 0 = _
        rw [List.getD_eq_getElem?_getD, e1]; rfl
      have ht : (rpF p q D E).q.t.getD i 0 = (tN q i : Int) := by
        show q.t.getD i 0 = _
        rw [List.getD_eq_getElem?_getD, e2]; rfl
      rw [hm, hf, ht, okM, d1, d2]
      have hmul : D (tN q i) * D (fN q i) ≤ 4 * 4 := Nat.mul_le_mul (by omega) (by omega)
      have hmat : isMat (rpF p q D E).p (mxF (D (tN q i)) (D (fN q i)) (E i)) = true := by
        refine isMat_t.2 ⟨⟨by show (0 : Int) ≤ (D (tN q i) : Int); omega, by show (D (tN q i) : Int) ≤ 8; omega⟩, ⟨by show (0 : Int) ≤ (D (fN q i) : Int); omega, by show (D (fN q i) : Int) ≤ 8; omega⟩, ?_, ?_⟩
        · show (((flat _ _ _).length : Nat) : Int) = (D (tN q i) : Int) * (D (fN q i) : Int)
          rw [flat_length]; push_cast; rfl
        · show isVec p (flat _ _ _) = true
          rw [isVec, hp, flat_length, decide_eq_true (by omega), Bool.true_and, Bool.true_and, allR_t]
          intro y hy
          simp only [flat, List.mem_map] at hy
          obtain ⟨j, _, rfl⟩ := hy
          exact hE _ _ _
      rw [hmat]
      simp [mxF]
    rw [hok]; simp
theorem zRep_F (p : Int) (q : Qv) (E : Nat → Nat → Nat → Int) : zRep p q (rowF q.v.toNat fun _ => 0) = rpF p q (fun _ => 0) E := by
  rw [zRep, rpF]
  congr 1
  rw [zms_F]
  apply msF_congr
  intro i _
  have h0 : ∀ v : Int, dAt (rowF q.v.toNat fun _ => 0) v = 0 := fun v => by
    rw [dAt, List.getD_eq_getElem?_getD]
    by_cases h : v.toNat < q.v.toNat
    · rw [rowF_get _ h]; rfl
    · rw [List.getElem?_eq_none (by rw [rowF_length]; omega)]; rfl
  rw [zmAt, h0, h0]
  rfl
def ivN (a b : Nat) (v : Nat) : Nat := if a ≤ v ∧ v < b + 1 then 1 else 0
theorem ivN_F (a b : Nat) : (fun v => ((ivN a b v : Nat) : Int)) = ivF a (b + 1) := by
  funext v
  rw [ivN, ivF]
  split <;> rfl
theorem ziRep_F {p : Int} {q : Qv} (hq : isQ q = true) (a b : Nat) : ziRep p q a b = rpF p q (ivN a b) (fun _ _ _ => 1) := by
  rw [ziRep, rpF, ivN_F]
  congr 1
  apply msF_congr
  intro i hi
  obtain ⟨e1, e2, l1, l2⟩ := q_ends hq hi
  have g1 : q.f.getD i 0 = (fN q i : Int) := by rw [List.getD_eq_getElem?_getD, e1]; rfl
  have g2 : q.t.getD i 0 = (tN q i : Int) := by rw [List.getD_eq_getElem?_getD, e2]; rfl
  have d1 : dAt (rowF q.v.toNat (ivF a (b + 1))) (fN q i) = ((ivN a b (fN q i) : Nat) : Int) := by
    rw [dAt, Int.toNat_natCast, rowF_getD _ l1, ← ivN_F]
  have d2 : dAt (rowF q.v.toNat (ivF a (b + 1))) (tN q i) = ((ivN a b (tN q i) : Nat) : Int) := by
    rw [dAt, Int.toNat_natCast, rowF_getD _ l2, ← ivN_F]
  rw [zmAt, g1, g2, d1, d2, onesM, zmx, mxF]
  congr 1
  simp only [List.length_replicate]
  have e3 : (((ivN a b (tN q i) : Nat) : Int) * ((ivN a b (fN q i) : Nat) : Int)).toNat = ivN a b (tN q i) * ivN a b (fN q i) := by rw [← Int.natCast_mul]; rfl
  rw [e3]
  symm
  rw [List.eq_replicate_iff]
  refine ⟨flat_length _ _ _, fun x hx => ?_⟩
  simp only [flat, List.mem_map] at hx
  obtain ⟨_, _, rfl⟩ := hx
  rfl
end Go.Proofs.Ytcmlflppndfdcaa
