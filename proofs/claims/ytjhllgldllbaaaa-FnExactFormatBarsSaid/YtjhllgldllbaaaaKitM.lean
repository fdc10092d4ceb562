/- What every law goes through: matrices, lists of matrices. -/
import Derived.Test.YtjhllgldllbaaaaKit2
namespace Go.Proofs.Ytjhllgldllbaaaa
set_option linter.unusedVariables false
set_option linter.unusedSimpArgs false
open Go.RowKit

/-- A matrix as data. -/
structure Mx where
  r : Int
  c : Int
  a : List Int
deriving DecidableEq
theorem mx_ext (p q : Mx) : (p = q) ↔ (p.r = q.r ∧ p.c = q.c ∧ p.a = q.a) := by
  cases p; cases q; simp

def MxR (w : World) (B : Nat) (val : Value) (m : Mx) : Prop := ∃ s, val = .agg #[.int .i64 m.r, .int .i64 m.c, s] ∧ SlI w B s m.a ∧ I64 m.r ∧ I64 m.c
theorem MxR.next {w w' : World} {v : Value} {m : Mx} (hb : Below w.heap.size w w') (h : MxR w w.heap.size v m) : MxR w' w'.heap.size v m := by
  obtain ⟨s, e, h1, h2⟩ := h
  exact ⟨s, e, SlI.next hb h1, h2⟩
theorem MxR.below {w w' : World} {B : Nat} {v : Value} {m : Mx} (hb : Below B w w') (h : MxR w B v m) : MxR w' B v m := by
  obtain ⟨s, e, h1, h2⟩ := h
  exact ⟨s, e, SlI.below hb h1, h2⟩
theorem MxR.more {w : World} {B B' : Nat} {v : Value} {m : Mx} (hB : B ≤ B') (h : MxR w B v m) : MxR w B' v m := by
  obtain ⟨s, e, h1, h2⟩ := h
  exact ⟨s, e, SlI.more hB h1, h2⟩
theorem MxR.chg {w w' : World} {B lo hi : Nat} {v : Value} {m : Mx} (h : MxR w B v m) (hc : Chg lo hi w w') (hB : B ≤ lo) (hs : B ≤ w.heap.size) : MxR w' B v m := MxR.below (hc.below hB hs) h
theorem MxR.open_ {w : World} {B : Nat} {v : Value} {m : Mx} (h : MxR w B v m) : ∃ A c, v = .agg #[.int .i64 m.r, .int .i64 m.c, .slice A m.a.length c] ∧ SlI w B (.slice A m.a.length c) m.a ∧ I64 m.r ∧ I64 m.c ∧ m.a.length ≤ 17592186044416 := by
  obtain ⟨s, rfl, h1, h2, h3⟩ := h
  obtain ⟨A, c, rfl, _, _, h4, h1⟩ := h1.open_
  exact ⟨A, c, rfl, h1, h2, h3, h4⟩
theorem MxR.form {w : World} {B : Nat} {v : Value} {m : Mx} (h : MxR w B v m) : ∃ A c, v = .agg #[.int .i64 m.r, .int .i64 m.c, .slice A m.a.length c] := by
  obtain ⟨A, c, e, _⟩ := h.open_
  exact ⟨A, c, e⟩
theorem MxR.lens {w : World} {B : Nat} {v : Value} {m : Mx} (h : MxR w B v m) : m.a.length ≤ 17592186044416 := by
  obtain ⟨A, c, e, _, _, _, h1⟩ := h.open_
  exact h1

/-- .. in three cells of memory -/
def RMx (w : World) (B b o : Nat) (m : Mx) : Prop := ∃ s, w.cell? ⟨b, o, none⟩ = some (.int .i64 m.r) ∧ w.cell? ⟨b, o + 1, none⟩ = some (.int .i64 m.c) ∧ w.cell? ⟨b, o + 2, none⟩ = some s ∧ SlI w B s m.a ∧ I64 m.r ∧ I64 m.c
abbrev SlM := SlG 3 RMx
theorem SlM.below {w w' : World} {B : Nat} {v : Value} {l : List Mx} (hb : Below B w w') (h : SlM w B v l) : SlM w' B v l :=
  SlG.mono (fun _ _ _ hlt ⟨s, h0, h1, h2, hs, hx⟩ => ⟨s, bcell hb hlt h0, bcell hb hlt h1, bcell hb hlt h2, SlI.below hb hs, hx⟩) (Nat.le_refl _) h
theorem SlM.more {w : World} {B B' : Nat} {v : Value} {l : List Mx} (hB : B ≤ B') (h : SlM w B v l) : SlM w B' v l :=
  SlG.mono (B := B) (B' := B') (fun _ _ _ _ ⟨s, h0, h1, h2, hs, hx⟩ => ⟨s, h0, h1, h2, SlI.more hB hs, hx⟩) hB h
theorem SlM.next {w w' : World} {v : Value} {l : List Mx} (hb : Below w.heap.size w w') (h : SlM w w.heap.size v l) : SlM w' w'.heap.size v l := SlM.more hb.size (SlM.below hb h)
theorem SlM.chg {w w' : World} {B lo hi : Nat} {v : Value} {l : List Mx} (h : SlM w B v l) (hc : Chg lo hi w w') (hB : B ≤ lo) (hs : B ≤ w.heap.size) : SlM w' B v l := SlM.below (hc.below hB hs) h
theorem SlM.at_ {w : World} {B c : Nat} {A : Option Addr} {xs : List Mx} {k : Nat} (h : SlM w B (.slice A xs.length c) xs) (hk : k < xs.length) :
    ∃ b o m A' c', A = some ⟨b, o, none⟩ ∧ b < B ∧ Hid (xs[k]? = some m) ∧ w.cell? ⟨b, o + k * 3, none⟩ = some (.int .i64 m.r) ∧ w.cell? ⟨b, o + k * 3 + 1, none⟩ = some (.int .i64 m.c) ∧ w.cell? ⟨b, o + k * 3 + 2, none⟩ = some (.slice A' m.a.length c') ∧
      SlI w B (.slice A' m.a.length c') m.a ∧ (-9223372036854775808 ≤ m.r ∧ m.r ≤ 9223372036854775807) ∧ (-9223372036854775808 ≤ m.c ∧ m.c ≤ 9223372036854775807) ∧ m.a.length ≤ 17592186044416 := by
  obtain ⟨A', c', e, h1, h2, h3, h4⟩ := h
  injection e with e1 e2 e3; subst e1
  obtain ⟨b, o, rfl, hb, hc⟩ := h4 (by omega)
  have hx : xs[k]? = some xs[k] := List.getElem?_eq_getElem hk
  obtain ⟨s, c0, c1, c2, hs, hr, hcc⟩ := hc k _ hx
  obtain ⟨A2, c3, rfl, _, _, h5, hs⟩ := hs.open_
  exact ⟨b, o, xs[k], A2, c3, rfl, hb, hx, c0, c1, c2, hs, hr, hcc, h5⟩

/-! ### rows of the call's own, of any element -/
def RowO (T : TypeId) (sz : Nat) (w : World) (lo hi : Nat) (v : Value) (n : Nat) (cs : List Value) : Prop := w.ownsRow lo T sz v n cs ∧ (∀ k, v.ownBlock = some k → k < hi) ∧ n ≤ 17592186044416
section
variable {T : TypeId} {sz : Nat} {w w' : World} {lo hi : Nat} {v : Value} {n : Nat} {cs : List Value}
theorem RowO.form (h : RowO T sz w lo hi v n cs) : ∃ A c, v = .slice A n c ∧ n ≤ c ∧ c ≤ 9223372036854775807 := by
  rcases h.1.2 with ⟨rfl, h0⟩ | ⟨g, cap, cur, rfl, _, _, hnc, hcm, _⟩
  · exact ⟨none, 0, by rw [h0], by omega, by omega⟩
  · exact ⟨_, _, rfl, hnc, by simp only [maxLen] at hcm; omega⟩
theorem RowO.at_ (h : RowO T sz w lo hi v n cs) (h0 : 0 < n) : ∃ g c cur, v = .slice (some ⟨g, 0, none⟩) n c ∧ lo ≤ g ∧ g < hi ∧ g < w.heap.size ∧ Blk w g T cur := by
  rcases h.1.2 with ⟨rfl, h1⟩ | ⟨g, cap, cur, rfl, hg, hh, _⟩
  · omega
  · exact ⟨g, cap, cur, rfl, hg, h.2.1 g rfl, (Array.getElem?_eq_some_iff.1 hh).1, hh⟩
theorem RowO.chg {lo' hi' : Nat} (h : RowO T sz w lo hi v n cs) (hc : Chg lo' hi' w w') (hd : hi ≤ lo' ∨ hi' ≤ lo) : RowO T sz w' lo hi v n cs := by
  refine ⟨⟨h.1.1, ?_⟩, h.2⟩
  rcases h.1.2 with h1 | ⟨g, cap, cur, rfl, hg, hh, rest⟩
  · exact .inl h1
  · have := h.2.1 g (by simp [Value.ownBlock])
    exact .inr ⟨g, cap, cur, rfl, hg, (hc.block g (Array.getElem?_eq_some_iff.1 hh).1 (by omega)).trans hh, rest⟩
theorem RowO.below (h : RowO T sz w lo hi v n cs) (hb : Below w.heap.size w w') : RowO T sz w' lo hi v n cs :=
  ⟨h.1.kept (row := none) ⟨hb.os, hb.tape, hb.output, hb.size, fun k hk _ => hb.block k hk⟩ (by cases v.ownBlock <;> simp), h.2⟩
theorem RowO.mono {lo' hi' : Nat} (h : RowO T sz w lo hi v n cs) (h1 : lo' ≤ lo) (h2 : hi ≤ hi') : RowO T sz w lo' hi' v n cs := by
  refine ⟨⟨h.1.1, ?_⟩, fun k hk => Nat.lt_of_lt_of_le (h.2.1 k hk) h2, h.2.2⟩
  rcases h.1.2 with h3 | ⟨g, cap, cur, e, hg, rest⟩
  · exact .inl h3
  · exact .inr ⟨g, cap, cur, e, by omega, rest⟩
/-- a block of another element is written to -/
theorem RowO.set {g : Nat} {t : TypeId} {bs : Array Value} (h : RowO T sz w lo hi v n cs) (hb : Blk w g t bs) (ht : T ≠ t) (i : Nat) (u : Value) : RowO T sz (w.setCell ⟨g, i, none⟩ u) lo hi v n cs := by
  refine ⟨h.1.kept (row := some g) ⟨rfl, rfl, rfl, by simp [World.setCell], fun k _ hne => Below.heap_setCell _ _ _ _ (fun e => hne (by rw [e]))⟩ ?_, h.2⟩
  rcases h.1.2 with ⟨rfl, _⟩ | ⟨g', cap, cur, rfl, _, hh, _⟩
  · exact .inl rfl
  · right
    intro e
    have : g' = g := by simpa [Value.ownBlock] using e
    subst this
    unfold Blk at hb
    rw [hh] at hb
    injection hb with hb
    injection hb with _ hb
    exact ht hb
/-- a row of ints turned leaves it -/
theorem RowO.grown {base : Nat} {u : Value} {l : List Int} (h : RowO T sz w lo hi v n cs) (hT : 3 ≠ T) (ho : OwnI w base u l) (hg : w.grownBy w' u.ownBlock) : RowO T sz w' lo hi v n cs := by
  refine ⟨h.1.kept hg ?_, h.2⟩
  rcases h.1.2 with ⟨rfl, _⟩ | ⟨g, cap, cur, rfl, _, hh, _⟩
  · exact .inl rfl
  · right
    exact fun e => ho.blkne (g := g) (t := T) (cs := cur) hh hT e
theorem RowO.stored {g c : Nat} (h : RowO T sz w lo hi (.slice (some ⟨g, 0, none⟩) n c) n cs) (j : Nat) (u : Value) : RowO T sz (w.setCell ⟨g, j, none⟩ u) lo hi (.slice (some ⟨g, 0, none⟩) n c) n (cs.set j u) ∧ Chg lo hi w (w.setCell ⟨g, j, none⟩ u) := by
  have hs := h.1.stored j u
  refine ⟨⟨hs.1, h.2⟩, ⟨hs.2.os, hs.2.tape, hs.2.output, hs.2.size, fun k hk hne => hs.2.block k hk (fun e => ?_)⟩⟩
  have h1 := h.2.1 k (by simp [Value.ownBlock]; injection e with e; exact e.symm)
  have h2 := (h.1.lt k (by simp [Value.ownBlock]; injection e with e; exact e.symm)).1
  omega
end
theorem RowO.nil (T : TypeId) {sz : Nat} (w : World) (lo hi : Nat) : RowO T sz w lo hi (.slice none 0 0) 0 [] := ⟨⟨by simp, .inl ⟨rfl, rfl⟩⟩, by simp [Value.ownBlock], by omega⟩

/-- the cells of matrices whose own rows are the values vs -/
def mxCs : List Value → List Mx → List Value
  | v :: vs, m :: ms => .int .i64 m.r :: .int .i64 m.c :: v :: mxCs vs ms
  | _, _ => []
theorem mxCs_length : ∀ (vs : List Value) (ms : List Mx), vs.length = ms.length → (mxCs vs ms).length = ms.length * 3
  | [], [], _ => rfl
  | v :: vs, m :: ms, h => by simp only [mxCs, List.length_cons] at h ⊢; rw [mxCs_length vs ms (by omega)]; omega
  | [], m :: ms, h => by simp at h
  | v :: vs, [], h => by simp at h
theorem mxCs_get : ∀ {vs : List Value} {ms : List Mx} {j : Nat} {v : Value} {m : Mx}, vs[j]? = some v → ms[j]? = some m →
    (mxCs vs ms)[j * 3]? = some (.int .i64 m.r) ∧ (mxCs vs ms)[j * 3 + 1]? = some (.int .i64 m.c) ∧ (mxCs vs ms)[j * 3 + 2]? = some v
  | [], _, _, _, _, h, _ => by simp at h
  | _ :: _, [], _, _, _, _, h => by simp at h
  | v :: vs, m :: ms, 0, _, _, h1, h2 => by
    simp at h1 h2
    subst h1 h2
    simp [mxCs]
  | v :: vs, m :: ms, j + 1, _, _, h1, h2 => by
    simp only [List.getElem?_cons_succ] at h1 h2
    obtain ⟨a, b, c⟩ := mxCs_get h1 h2
    simp only [mxCs, show (j + 1) * 3 = j * 3 + 1 + 1 + 1 by omega, show j * 3 + 1 + 1 + 1 + 1 = (j * 3 + 1) + 1 + 1 + 1 by omega, show j * 3 + 1 + 1 + 1 + 2 = (j * 3 + 2) + 1 + 1 + 1 by omega, List.getElem?_cons_succ]
    exact ⟨a, b, c⟩
theorem mxCs_snoc : ∀ (vs : List Value) (ms : List Mx) (v : Value) (m : Mx), vs.length = ms.length → mxCs (vs ++ [v]) (ms ++ [m]) = mxCs vs ms ++ [.int .i64 m.r, .int .i64 m.c, v]
  | [], [], _, _, _ => rfl
  | v :: vs, m :: ms, u, x, h => by simp only [List.cons_append, mxCs]; rw [mxCs_snoc vs ms u x (by simpa using h)]
  | [], m :: ms, _, _, h => by simp at h
  | v :: vs, [], _, _, h => by simp at h
theorem mxCs_set : ∀ {vs : List Value} {ms : List Mx} {j : Nat}, j < ms.length → vs.length = ms.length → ∀ (a b : Int) (l : List Int),
    ((mxCs vs ms).set (j * 3) (.int .i64 a)).set (j * 3 + 1) (.int .i64 b) = mxCs vs (ms.set j ⟨a, b, l⟩)
  | _, [], _, h, _, _, _, _ => by simp at h
  | [], _ :: _, _, _, h, _, _, _ => by simp at h
  | v :: vs, m :: ms, 0, _, _, a, b, l => by simp [mxCs]
  | v :: vs, m :: ms, j + 1, h, h2, a, b, l => by
    have := mxCs_set (vs := vs) (ms := ms) (j := j) (by simpa using h) (by simpa using h2) a b l
    simp only [mxCs, show (j + 1) * 3 = j * 3 + 1 + 1 + 1 by omega, show j * 3 + 1 + 1 + 1 + 1 = (j * 3 + 1) + 1 + 1 + 1 by omega, List.set_cons_succ, this]
theorem mxCs_oneCell : ∀ (vs : List Value) (ms : List Mx), (∀ v ∈ vs, v.oneCell' = true) → ∀ u ∈ mxCs vs ms, u.oneCell' = true
  | v :: vs, m :: ms, h, u, hu => by
    simp only [mxCs, List.mem_cons] at hu
    rcases hu with rfl | rfl | rfl | hu
    · rfl
    · rfl
    · exact h _ (by simp)
    · exact mxCs_oneCell vs ms (fun x hx => h x (by simp [hx])) u hu
  | [], _, _, u, hu => by simp [mxCs] at hu
  | _ :: _, [], _, u, hu => by simp [mxCs] at hu

abbrev OutM (w : World) (lo hi : Nat) (v : Value) (vs : List Value) (ms : List Mx) : Prop := RowO 75 3 w lo hi v ms.length (mxCs vs ms)
/-- Matrices that the call made. -/
def MatsO (w : World) (lo hi : Nat) (v : Value) (ms : List Mx) : Prop := ∃ vs, OutM w lo hi v vs ms ∧ vs.length = ms.length ∧ Fam w lo hi (vs.zip (ms.map Mx.a)) ∧ ∀ m ∈ ms, I64 m.r ∧ I64 m.c
theorem OutM.rd {w : World} {lo hi : Nat} {v : Value} {vs : List Value} {ms : List Mx} (h : OutM w lo hi v vs ms) (hl : vs.length = ms.length) (hr : ∀ p ∈ vs.zip (ms.map Mx.a), SlI w w.heap.size p.1 p.2) (hi : ∀ m ∈ ms, I64 m.r ∧ I64 m.c) : SlM w w.heap.size v ms := by
  obtain ⟨h1, h2, h3⟩ := h
  rcases h1.2 with ⟨rfl, h0⟩ | ⟨g, cap, cur, rfl, _, hg, hnc, hcm, hcs, htake⟩
  · obtain rfl : ms = [] := List.eq_nil_of_length_eq_zero (by omega)
    exact SlG.nil
  · refine ⟨_, _, rfl, hnc, by simp only [maxLen] at hcm; omega, h3, fun hp => ⟨g, 0, rfl, (Array.getElem?_eq_some_iff.1 hg).1, fun j x hj => ?_⟩⟩
    have hjl := lt_of_some hj
    have hv : vs[j]? = some (vs[j]'(by omega)) := List.getElem?_eq_getElem (by omega)
    obtain ⟨a, b, c⟩ := mxCs_get hv hj
    have e := fun i (hi : i < 3) => h1.cellAt (j * 3 + i) (by omega)
    refine ⟨vs[j]'(by omega), ?_, ?_, ?_, hr (vs[j]'(by omega), x.a) ?_, hi x (List.mem_of_getElem? hj)⟩
    · rw [show 0 + j * 3 = j * 3 + 0 by omega, e 0 (by omega)]; exact a
    · rw [show 0 + j * 3 + 1 = j * 3 + 1 by omega, e 1 (by omega)]; exact b
    · rw [show 0 + j * 3 + 2 = j * 3 + 2 by omega, e 2 (by omega)]; exact c
    · rw [List.mem_iff_getElem?]
      exact ⟨j, by rw [List.getElem?_zip_eq_some]; exact ⟨hv, by simp [hj]⟩⟩
theorem MatsO.rd {w : World} {lo hi : Nat} {v : Value} {ms : List Mx} (h : MatsO w lo hi v ms) : SlM w w.heap.size v ms := by
  obtain ⟨vs, h1, h2, h3, h4⟩ := h
  exact OutM.rd h1 h2 (fun p hp => (h3.1 p hp).rd) h4
theorem MatsO.chg {w w' : World} {lo hi lo' hi' : Nat} {v : Value} {ms : List Mx} (h : MatsO w lo hi v ms) (hc : Chg lo' hi' w w') (hd : hi ≤ lo' ∨ hi' ≤ lo) : MatsO w' lo hi v ms := by
  obtain ⟨vs, h1, h2, h3, h4⟩ := h
  exact ⟨vs, h1.chg hc hd, h2, h3.chg hc hd, h4⟩
theorem MatsO.below {w w' : World} {lo hi : Nat} {v : Value} {ms : List Mx} (h : MatsO w lo hi v ms) (hb : Below w.heap.size w w') : MatsO w' lo hi v ms := by
  obtain ⟨vs, h1, h2, h3, h4⟩ := h
  exact ⟨vs, h1.below hb, h2, h3.below hb, h4⟩

/-- A matrix that the call made. -/
def MxO (w : World) (lo hi : Nat) (val : Value) (m : Mx) : Prop := ∃ s, val = .agg #[.int .i64 m.r, .int .i64 m.c, s] ∧ IntsO w lo hi s m.a ∧ I64 m.r ∧ I64 m.c
theorem MxO.rd {w : World} {lo hi : Nat} {v : Value} {m : Mx} (h : MxO w lo hi v m) : MxR w w.heap.size v m := by
  obtain ⟨s, e, h1, h2⟩ := h
  exact ⟨s, e, h1.rd, h2⟩
theorem MxO.form {w : World} {lo hi : Nat} {v : Value} {m : Mx} (h : MxO w lo hi v m) : ∃ A c, v = .agg #[.int .i64 m.r, .int .i64 m.c, .slice A m.a.length c] := h.rd.form
theorem MxO.chg {w w' : World} {lo hi lo' hi' : Nat} {v : Value} {m : Mx} (h : MxO w lo hi v m) (hc : Chg lo' hi' w w') (hd : hi ≤ lo' ∨ hi' ≤ lo) : MxO w' lo hi v m := by
  obtain ⟨s, e, h1, h2⟩ := h
  exact ⟨s, e, h1.chg hc hd, h2⟩
theorem MxO.below {w w' : World} {lo hi : Nat} {v : Value} {m : Mx} (h : MxO w lo hi v m) (hb : Below w.heap.size w w') : MxO w' lo hi v m := by
  obtain ⟨s, e, h1, h2⟩ := h
  exact ⟨s, e, h1.below hb, h2⟩
theorem MxO.wider {w : World} {lo hi lo' hi' : Nat} {v : Value} {m : Mx} (h : MxO w lo hi v m) (h1 : lo' ≤ lo) (h2 : hi ≤ hi') : MxO w lo' hi' v m := by
  obtain ⟨s, e, h3, h4⟩ := h
  exact ⟨s, e, h3.wider h1 h2, h4⟩
def MxO.mk (k : Int) (m : Mx) : Mx := ⟨m.r, m.c, mkI k m.a.length⟩
def Mx.size (m : Mx) : Nat := m.a.length

set_option maxHeartbeats 400000 in
theorem eqMatrix_any (u v : Value) (p q : Mx) (w : World) (hu : MxR w w.heap.size u p) (hv : MxR w w.heap.size v q) :
    Calls Try.prog 126 #[u, v] w fun e w' => e = .returned (.bool (decide (p = q))) ∧ Below w.heap.size w w' := by
  obtain ⟨A, c, rfl, hf, _, _, _⟩ := hu.open_
  obtain ⟨A', c', rfl, hf', _, _, _⟩ := hv.open_
  clear hu hv
  have g0 : Below w.heap.size w ((w.alloc (.cells #[.int .i64 p.r, .int .i64 p.c, .slice A p.a.length c] 75)).alloc (.cells #[.int .i64 q.r, .int .i64 q.c, .slice A' q.a.length c'] 75)) := ((Below.refl _ _).alloc (Nat.le_refl _) _).alloc (by simp) _
  by_cases h1 : p.r = q.r
  · have e1 : (p.r != q.r) = false := by rw [h1]; simp
    have H1 := Lib.hid h1
    clear h1
    by_cases h2 : p.c = q.c
    · have e2 : (p.c != q.c) = false := by rw [h2]; simp
      have H2 := Lib.hid h2
      clear h2
      obtain ⟨B, hB⟩ : ∃ B, decide (p.a = q.a) = B := ⟨_, rfl⟩
      have hfin : decide (p = q) = B := by
        rw [← hB, decide_eq_decide, mx_ext]
        exact ⟨fun h => h.2.2, fun h => ⟨H1.out, H2.out, h⟩⟩
      rw [hfin]
      clear hfin
      go_enter Try.func126, Try.ntmps126
      go_wp2_with fail
      refine (eqIntS_any _ _ _ _ _ (SlI.next g0 hf) (SlI.next g0 hf')).mono ?_; rintro e w1 ⟨rfl, hb1⟩
      rw [hB]
      have g1 := bthen g0 hb1
      clear hB hb1 g0
      go_wp2
      all_goals (go_ret; simp_all)
    · have e2 : (p.c != q.c) = true := by simpa using h2
      have hfin : decide (p = q) = false := by
        simp only [decide_eq_false_iff_not, mx_ext]
        exact fun h => h2 h.2.1
      rw [hfin]
      clear hfin h2
      go_enter Try.func126, Try.ntmps126
      go_wp2
      go_ret
      exact ⟨rfl, g0⟩
  · have e1 : (p.r != q.r) = true := by simpa using h1
    have hfin : decide (p = q) = false := by
      simp only [decide_eq_false_iff_not, mx_ext]
      exact fun h => h1 h.1
    rw [hfin]
    clear hfin h1
    go_enter Try.func126, Try.ntmps126
    go_wp2
    go_ret
    exact ⟨rfl, g0⟩

theorem szMatrix_any (u : Value) (q : Mx) (left : Int) (w : World) (hu : MxR w w.heap.size u q) (h0 : 0 ≤ left) (h1 : left ≤ 1048576) :
    Calls Try.prog 147 #[u, .int .i64 left] w fun e w' => e = .returned (.int .i64 (szLeft left q.size)) ∧ Below w.heap.size w w' := by
  obtain ⟨A, c, rfl, hf, _, _, lf⟩ := hu.open_
  clear hu
  unfold Mx.size
  have g0 := below_alloc w (.cells #[.int .i64 q.r, .int .i64 q.c, .slice A q.a.length c] 135)
  by_cases h2 : left < q.a.length
  · have s1 : szLeft left q.a.length = -1 := by rw [szLeft, if_pos h2]
    rw [s1]
    go_enter Try.func147, Try.ntmps147
    go_wp2_with fail
    refine (szIntS_any _ _ _ _ _ lf h0 h1).mono ?_; rintro e w' ⟨rfl, rfl⟩
    go_wp2
    go_ret
    exact ⟨rfl, g0⟩
  · have s1 : szLeft left q.a.length = left - q.a.length := by rw [szLeft, if_neg h2]
    have n1 : ¬ left - (q.a.length : Int) < 0 := by omega
    rw [s1]
    go_enter Try.func147, Try.ntmps147
    go_wp2_with fail
    refine (szIntS_any _ _ _ _ _ lf h0 h1).mono ?_; rintro e w' ⟨rfl, rfl⟩
    go_wp2
    go_ret
    exact ⟨rfl, g0⟩

set_option maxHeartbeats 400000 in
theorem mx_to (u : Value) (q : Mx) (w : World) (hu : MxR w w.heap.size u q) (hn : q.size ≤ 1048576) :
    Calls Try.prog 153 #[u] w fun e w' => ∃ v, e = .returned v ∧ MxO w' w.heap.size w'.heap.size v q ∧ Below w.heap.size w w' := by
  obtain ⟨A, c, rfl, hf, hr, hc, _⟩ := hu.open_
  clear hu
  unfold Mx.size at hn
  obtain ⟨Wa, hWa⟩ : ∃ W, W = (w.alloc (.cells #[.int .i64 q.r, .int .i64 q.c, .slice A q.a.length c] 135)).alloc (.cells #[.int .i64 0, .int .i64 0, .slice none 0 0] 75) := ⟨_, rfl⟩
  obtain ⟨Wb, hWb⟩ : ∃ W, W = Wa.alloc (.cells #[.int .i64 q.r, .int .i64 q.c, .slice none 0 0] 75) := ⟨_, rfl⟩
  have za : Wa.heap.size = w.heap.size + 1 + 1 := by rw [hWa]; simp
  have zb : Wb.heap.size = w.heap.size + 1 + 1 + 1 := by rw [hWb]; simp [za]
  have kr : Blk Wb (w.heap.size + 1) 75 #[.int .i64 0, .int .i64 0, .slice none 0 0] := by
    rw [hWb, hWa]
    have := (Blk.new (w.alloc (.cells #[.int .i64 q.r, .int .i64 q.c, .slice A q.a.length c] 135)) 75 #[.int .i64 0, .int .i64 0, .slice none 0 0]).alloc (.cells #[.int .i64 q.r, .int .i64 q.c, .slice none 0 0] 75)
    simpa only [World.size_alloc] using this
  have ko : Blk Wb (w.heap.size + 1 + 1) 75 #[.int .i64 q.r, .int .i64 q.c, .slice none 0 0] := by
    rw [hWb, ← za]; exact Blk.new _ _ _
  have gb : Below w.heap.size w Wb := by rw [hWb, hWa]; exact (((Below.refl _ _).alloc (Nat.le_refl _) _).alloc (by simp) _).alloc (by simp; omega) _
  have ZA := Lib.hid za
  have ZB := Lib.hid zb
  clear za zb
  go_enter Try.func153, Try.ntmps153
  go_wp2_with fail
  rw [← hWa, ← hWb]
  clear hWa hWb
  refine (ints_to _ _ _ (SlI.next gb hf) (by omega)).mono ?_; rintro e w1 ⟨a, rfl, ha, hb1⟩
  obtain ⟨A1, c1, rfl, _, _⟩ := ha.1.form
  have ko1 := ko.call hb1
  have kr1 := kr.call hb1
  have o0 := ko1.cell' (i := 0) rfl
  have o1 := ko1.cell' (i := 1) rfl
  have o2 := ko1.cell' (i := 2) rfl
  have fo := ko1.frozen
  have r0 := kr1.cell' (i := 0) rfl
  have r1 := kr1.cell' (i := 1) rfl
  have r2 := kr1.cell' (i := 2) rfl
  have fr := kr1.frozen
  have g1 := bthen gb hb1
  go_wp2
  have zb := ZB.out
  have s1 := hb1.size
  refine bodyPost_ret (v := .agg #[.int .i64 q.r, .int .i64 q.c, .slice A1 q.a.length c1]) (by simp [results, go_sem, r0, r1, r2]) rfl ⟨_, rfl, ⟨_, rfl, ?_, hr, hc⟩, (((g1.setCell (by simp; omega) _).setCell (by simp) _).setCell (by simp) _).setCell (by simp) _⟩
  exact ((((ha.set (by simp; omega) _).set (by simp; omega) _).set (by simp; omega) _).set (by simp; omega) _).wider (by omega) (by simp)

end Go.Proofs.Ytjhllgldllbaaaa
