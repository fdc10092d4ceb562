/- Rows of rows of the call's own: reading and writing one number; matrices told by a function. -/
import Derived.Test.YtjhllgldllbaaaaKit2
import Derived.Test.YtjhllgldllbaaaaOwnI
namespace Go.Proofs.Ytjhllgldllbaaaa
set_option linter.unusedVariables false
set_option linter.unusedSimpArgs false
open Go.RowKit

/-- a matrix told by a function -/
def rowF (V : Nat) (g : Nat → Int) : List Int := (List.range V).map g
def matF (V : Nat) (g : Nat → Nat → Int) : List (List Int) := (List.range V).map fun a => rowF V (g a)
theorem rowF_length (V : Nat) (g : Nat → Int) : (rowF V g).length = V := by simp [rowF]
theorem matF_length (V : Nat) (g : Nat → Nat → Int) : (matF V g).length = V := by simp [matF]
theorem rowF_get {V j : Nat} (g : Nat → Int) (h : j < V) : (rowF V g)[j]? = some (g j) := by simp [rowF, h]
theorem matF_get {V j : Nat} (g : Nat → Nat → Int) (h : j < V) : (matF V g)[j]? = some (rowF V (g j)) := by simp [matF, h]
theorem rowF_getD {V j : Nat} (g : Nat → Int) (h : j < V) : (rowF V g).getD j 0 = g j := by rw [List.getD_eq_getElem?_getD, rowF_get g h]; rfl
theorem rowF_congr {V : Nat} {g h : Nat → Int} (e : ∀ a, a < V → g a = h a) : rowF V g = rowF V h := by
  apply List.ext_getElem?
  intro i
  by_cases hi : i < V
  · rw [rowF_get g hi, rowF_get h hi, e i hi]
  · rw [List.getElem?_eq_none (by rw [rowF_length]; omega), List.getElem?_eq_none (by rw [rowF_length]; omega)]
theorem matF_congr {V : Nat} {g h : Nat → Nat → Int} (e : ∀ a b, a < V → b < V → g a b = h a b) : matF V g = matF V h := by
  apply List.ext_getElem?
  intro i
  by_cases hi : i < V
  · rw [matF_get g hi, matF_get h hi, rowF_congr (fun b hb => e i b hi hb)]
  · rw [List.getElem?_eq_none (by rw [matF_length]; omega), List.getElem?_eq_none (by rw [matF_length]; omega)]
theorem rowF_set {V j : Nat} (g : Nat → Int) (x : Int) : (rowF V g).set j x = rowF V fun b => if b = j then x else g b := by
  apply List.ext_getElem?
  intro i
  rw [List.getElem?_set, rowF_length]
  by_cases hi : i < V
  · rw [rowF_get (fun b => if b = j then x else g b) hi]
    by_cases e : j = i
    · rw [if_pos e, if_pos (by omega), if_pos e.symm]
    · rw [if_neg e, rowF_get _ hi, if_neg (fun h => e h.symm)]
  · rw [List.getElem?_eq_none (l := rowF V fun b => if b = j then x else g b) (by rw [rowF_length]; omega)]
    split
    · rw [if_neg (by omega)]
    · rw [List.getElem?_eq_none (by rw [rowF_length]; omega)]
theorem matF_set {V j : Nat} (g : Nat → Nat → Int) (h : Nat → Int) : (matF V g).set j (rowF V h) = matF V fun a b => if a = j then h b else g a b := by
  apply List.ext_getElem?
  intro i
  rw [List.getElem?_set, matF_length]
  by_cases hi : i < V
  · rw [matF_get (fun a b => if a = j then h b else g a b) hi]
    by_cases e : j = i
    · subst e
      rw [if_pos rfl, if_pos hi]
      simp
    · rw [if_neg e, matF_get _ hi]
      congr 1
      apply rowF_congr
      intro b _
      rw [if_neg (fun h => e h.symm)]
  · rw [List.getElem?_eq_none (l := matF V fun a b => if a = j then h b else g a b) (by rw [matF_length]; omega)]
    split
    · rw [if_neg (by omega)]
    · rw [List.getElem?_eq_none (by rw [matF_length]; omega)]

/-- A row of a row of rows. -/
theorem OutO.cellS {w : World} {lo hi g n c j : Nat} {vs : List Value} {v : Value} (ho : OutO w lo hi (.slice (some ⟨g, 0, none⟩) n c) vs) (hv : vs[j]? = some v) : w.cell? ⟨g, j, none⟩ = some v := by
  have hj := lt_of_some hv
  have hn : n = vs.length := by
    rcases ho.1.2 with ⟨e, _⟩ | ⟨g', cap', cur, e, _⟩
    · cases e
    · injection e with _ e _
  subst hn
  have hc := ho.1.cellAt j (by omega)
  rw [hc, hv]
theorem OutO.frozenS {w : World} {lo hi g n c : Nat} {vs : List Value} (ho : OutO w lo hi (.slice (some ⟨g, 0, none⟩) n c) vs) (j : Nat) : w.frozen? ⟨g, j, none⟩ = false := by
  have hn : n = vs.length := by
    rcases ho.1.2 with ⟨e, _⟩ | ⟨g', cap', cur, e, _⟩
    · cases e
    · injection e with _ e _
  subst hn
  exact ho.1.frozenAt j
theorem Fam.rowAt {w : World} {lo hi j : Nat} {vs : List Value} {ll : List (List Int)} {l : List Int} (hF : Fam w lo hi (vs.zip ll)) (hvl : vs.length = ll.length) (hl : ll[j]? = some l) (hne : 0 < l.length) :
    ∃ g c, vs[j]? = some (.slice (some ⟨g, 0, none⟩) l.length c) ∧ OwnI w lo (.slice (some ⟨g, 0, none⟩) l.length c) l ∧ l.length ≤ c ∧ c ≤ 9223372036854775807 ∧ lo ≤ g ∧ g < hi := by
  have hj := lt_of_some hl
  have hv : vs[j]? = some (vs[j]'(by omega)) := List.getElem?_eq_getElem (by omega)
  have h := hF.1 (vs[j]'(by omega), l) (by rw [zip_split hv hl]; simp)
  rcases h.1.1.2 with ⟨e, h0⟩ | ⟨g, cap, cur, e, hg, _, hnc, hcm, _⟩
  · simp only at h0
    omega
  · simp only at e
    refine ⟨g, cap, by rw [hv, e], by rw [← e]; exact h.1, hnc, by simp only [maxLen] at hcm; omega, hg, h.2 g (by simp [e, Value.ownBlock])⟩
theorem zip_set {vs : List Value} {ll : List (List Int)} {j : Nat} {v : Value} {l l' : List Int} (hv : vs[j]? = some v) (hl : ll[j]? = some l) : vs.zip (ll.set j l') = (vs.take j).zip (ll.take j) ++ (v, l') :: (vs.drop (j + 1)).zip (ll.drop (j + 1)) := by
  have hj := lt_of_some hl
  rw [zip_split hv (l := l') (by rw [List.getElem?_set, if_pos rfl, if_pos hj]), List.take_set_of_le (Nat.le_refl j), List.drop_set_of_lt (by omega)]
/-- One number turned. -/
theorem Fam.putAt {w : World} {lo hi j i g c : Nat} {vs : List Value} {ll : List (List Int)} {l : List Int} {x : Int} (hF : Fam w lo hi (vs.zip ll)) (hv : vs[j]? = some (.slice (some ⟨g, 0, none⟩) l.length c)) (hl : ll[j]? = some l)
    (ho : OwnI w lo (.slice (some ⟨g, 0, none⟩) l.length c) l) (hx : I64 x) : Fam (w.setCell ⟨g, i, none⟩ (.int .i64 x)) lo hi (vs.zip (ll.set j (l.set i x))) := by
  rw [zip_set hv hl]
  rw [zip_split hv hl] at hF
  have hp := ho.put (j := i) hx
  exact hF.turn hp.1 hp.2
end Go.Proofs.Ytjhllgldllbaaaa
