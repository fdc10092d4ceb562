/- What every law goes through: lists of lists of ints. -/
import Derived.Test.YtbgjhnolnccnnaaKit
namespace Go.Proofs.Ytbgjhnolnccnnaa
set_option linter.unusedVariables false
set_option linter.unusedSimpArgs false
open Go.RowKit

theorem infoInts : (Try.prog.info? 29).map (fun i => (i.zero, i.size, i.bytes)) = some (some (.slice none 0 0), 1, 24) := by kernel_rfl

/-- A row of slice values of the call's own. -/
def OutO (w : World) (lo hi : Nat) (v : Value) (vs : List Value) : Prop := w.ownsRow lo 29 1 v vs.length vs ∧ (∀ k, v.ownBlock = some k → k < hi) ∧ vs.length ≤ 17592186044416
theorem OutO.form {w : World} {lo hi : Nat} {v : Value} {vs : List Value} (h : OutO w lo hi v vs) : ∃ A c, v = .slice A vs.length c ∧ vs.length ≤ c ∧ c ≤ 9223372036854775807 := by
  rcases h.1.2 with ⟨rfl, h0⟩ | ⟨g, cap, cur, rfl, _, _, hnc, hcm, _⟩
  · exact ⟨none, 0, by rw [h0], by omega, by omega⟩
  · exact ⟨_, _, rfl, hnc, by simp only [maxLen] at hcm; omega⟩
theorem OutO.chg {w w' : World} {lo hi lo' hi' : Nat} {v : Value} {vs : List Value} (h : OutO w lo hi v vs) (hc : Chg lo' hi' w w') (hd : hi ≤ lo' ∨ hi' ≤ lo) : OutO w' lo hi v vs := by
  refine ⟨⟨h.1.1, ?_⟩, h.2⟩
  rcases h.1.2 with h1 | ⟨g, cap, cur, rfl, hg, hh, rest⟩
  · exact .inl h1
  · have := h.2.1 g (by simp [Value.ownBlock])
    exact .inr ⟨g, cap, cur, rfl, hg, (hc.block g (Array.getElem?_eq_some_iff.1 hh).1 (by omega)).trans hh, rest⟩
theorem OutO.below {w w' : World} {lo hi : Nat} {v : Value} {vs : List Value} (h : OutO w lo hi v vs) (hb : Below w.heap.size w w') : OutO w' lo hi v vs :=
  ⟨h.1.kept (row := none) ⟨hb.os, hb.tape, hb.output, hb.size, fun k hk _ => hb.block k hk⟩ (by cases v.ownBlock <;> simp), h.2⟩
/-- a row of ints turned leaves it -/
theorem OutO.grown {w w' : World} {lo hi base : Nat} {v u : Value} {vs : List Value} {l : List Int} (h : OutO w lo hi v vs) (ho : OwnI w base u l) (hg : w.grownBy w' u.ownBlock) : OutO w' lo hi v vs := by
  refine ⟨h.1.kept hg ?_, h.2⟩
  rcases h.1.2 with ⟨rfl, _⟩ | ⟨g, cap, cur, rfl, _, hh, _⟩
  · exact .inl rfl
  · right
    exact fun e => ho.blkne (g := g) (t := 29) (cs := cur) hh (by decide) e
theorem OutO.mono {w : World} {lo hi lo' hi' : Nat} {v : Value} {vs : List Value} (h : OutO w lo hi v vs) (h1 : lo' ≤ lo) (h2 : hi ≤ hi') : OutO w lo' hi' v vs := by
  refine ⟨⟨h.1.1, ?_⟩, fun k hk => Nat.lt_of_lt_of_le (h.2.1 k hk) h2, h.2.2⟩
  rcases h.1.2 with h3 | ⟨g, cap, cur, e, hg, rest⟩
  · exact .inl h3
  · exact .inr ⟨g, cap, cur, e, by omega, rest⟩

theorem OutO.set {w : World} {lo hi g : Nat} {v : Value} {vs : List Value} {t : TypeId} {cs : Array Value} (h : OutO w lo hi v vs) (hb : Blk w g t cs) (ht : 29 ≠ t) (i : Nat) (u : Value) : OutO (w.setCell ⟨g, i, none⟩ u) lo hi v vs := by
  refine ⟨h.1.kept (row := some g) ⟨rfl, rfl, rfl, by simp [World.setCell], fun k _ hne => Below.heap_setCell _ _ _ _ (fun e => hne (by rw [e]))⟩ ?_, h.2⟩
  rcases h.1.2 with ⟨rfl, _⟩ | ⟨g', cap, cur, rfl, _, hh, _⟩
  · exact .inl rfl
  · right
    intro e
    have : g' = g := by simpa [Value.ownBlock] using e
    subst this
    unfold Blk at hb
    rw [hh] at hb
    injection hb with hb
    injection hb with _ hb
    exact ht hb
/-- Lists of lists of ints that the call made. -/
def IntssO (w : World) (lo hi : Nat) (v : Value) (ll : List (List Int)) : Prop := ∃ vs, OutO w lo hi v vs ∧ vs.length = ll.length ∧ Fam w lo hi (vs.zip ll)
/-- the reading of an outer row -/
theorem OutO.rd {w : World} {lo hi : Nat} {v : Value} {vs : List Value} {ll : List (List Int)} (h : OutO w lo hi v vs) (hl : vs.length = ll.length) (hr : ∀ p ∈ vs.zip ll, SlI w w.heap.size p.1 p.2) : SlII w w.heap.size v ll := by
  obtain ⟨h1, h2, h3⟩ := h
  rcases h1.2 with ⟨rfl, h0⟩ | ⟨g, cap, cur, rfl, _, hg, hnc, hcm, hcs, htake⟩
  · obtain rfl : ll = [] := List.eq_nil_of_length_eq_zero (by omega)
    exact SlG.nil
  · rw [hl] at hnc h1 h3 ⊢
    refine ⟨_, _, rfl, hnc, by simp only [maxLen] at hcm; omega, h3, fun hp => ⟨g, 0, rfl, (Array.getElem?_eq_some_iff.1 hg).1, fun j x hj => ?_⟩⟩
    have hjl := lt_of_some hj
    have hc := h1.cellAt j (by omega)
    rw [List.getElem?_eq_getElem (by omega)] at hc
    refine ⟨vs[j]'(by omega), by rw [show 0 + j * 1 = j by omega]; exact hc, hr (vs[j]'(by omega), x) ?_⟩
    rw [List.mem_iff_getElem?]
    exact ⟨j, by rw [List.getElem?_zip_eq_some]; exact ⟨List.getElem?_eq_getElem (by omega), hj⟩⟩
theorem IntssO.rd {w : World} {lo hi : Nat} {v : Value} {ll : List (List Int)} (h : IntssO w lo hi v ll) : SlII w w.heap.size v ll := by
  obtain ⟨vs, h1, h2, h3⟩ := h
  exact h1.rd h2 fun p hp => (h3.1 p hp).rd
theorem IntssO.chg {w w' : World} {lo hi lo' hi' : Nat} {v : Value} {ll : List (List Int)} (h : IntssO w lo hi v ll) (hc : Chg lo' hi' w w') (hd : hi ≤ lo' ∨ hi' ≤ lo) : IntssO w' lo hi v ll := by
  obtain ⟨vs, h1, h2, h3⟩ := h
  exact ⟨vs, h1.chg hc hd, h2, h3.chg hc hd⟩
theorem IntssO.below {w w' : World} {lo hi : Nat} {v : Value} {ll : List (List Int)} (h : IntssO w lo hi v ll) (hb : Below w.heap.size w w') : IntssO w' lo hi v ll := by
  obtain ⟨vs, h1, h2, h3⟩ := h
  exact ⟨vs, h1.below hb, h2, h3.below hb⟩
theorem SlII.chg {w w' : World} {B lo hi : Nat} {v : Value} {ll : List (List Int)} (h : SlII w B v ll) (hc : Chg lo hi w w') (hB : B ≤ lo) (hs : B ≤ w.heap.size) : SlII w' B v ll := SlII.below (hc.below hB hs) h

/-- one row more, of later memory -/
theorem Fam.snoc {w : World} {lo mi hi : Nat} {L : List (Value × List Int)} {v : Value} {l : List Int} (h : Fam w lo mi L) (hv : IntsO w mi hi v l) (h1 : lo ≤ mi) (h2 : mi ≤ hi) : Fam w lo hi (L ++ [(v, l)]) := by
  refine ⟨fun p hp => ?_, ?_⟩
  · rcases List.mem_append.1 hp with hp | hp
    · exact (h.1 p hp).wider (Nat.le_refl _) h2
    · rw [List.mem_singleton] at hp
      subst hp
      exact hv.wider h1 (Nat.le_refl _)
  · rw [List.pairwise_append]
    refine ⟨h.2, by simp, fun a ha b hb => ?_⟩
    rw [List.mem_singleton] at hb
    subst hb
    show a.1.ownBlock = none ∨ a.1.ownBlock ≠ v.ownBlock
    rcases hA : a.1.ownBlock with _ | x
    · exact .inl rfl
    · right
      intro e
      have := (h.1 a ha).2 x hA
      have := (hv.1.lt x e.symm).1
      omega

/-- one row ahead, of earlier memory -/
theorem fam_cons {w : World} {lo mi hi : Nat} {L : List (Value × List Int)} {v : Value} {l : List Int} (hv : IntsO w lo mi v l) (h : Fam w mi hi L) (h1 : lo ≤ mi) (h2 : mi ≤ hi) : Fam w lo hi ([(v, l)] ++ L) := by
  refine ⟨fun p hp => ?_, ?_⟩
  · rcases List.mem_append.1 hp with hp | hp
    · rw [List.mem_singleton] at hp
      subst hp
      exact hv.wider (Nat.le_refl _) h2
    · exact (h.1 p hp).wider h1 (Nat.le_refl _)
  · rw [List.pairwise_append]
    refine ⟨by simp, h.2, fun a ha b hb => ?_⟩
    rw [List.mem_singleton] at ha
    subst ha
    show v.ownBlock = none ∨ v.ownBlock ≠ b.1.ownBlock
    rcases hA : v.ownBlock with _ | x
    · exact .inl rfl
    · right
      intro e
      have := hv.2 x hA
      have := ((h.1 b hb).1.lt x e.symm).1
      omega

def tot (ll : List (List Int)) : Nat := (ll.map List.length).sum
theorem tot_snoc (ll : List (List Int)) (l : List Int) : tot (ll ++ [l]) = tot ll + l.length := by simp [tot]
theorem tot_take_le (ll : List (List Int)) (k : Nat) : tot (ll.take k) ≤ tot ll := by
  have : tot ll = tot (ll.take k) + tot (ll.drop k) := by simp only [tot, ← List.sum_append, ← List.map_append, List.take_append_drop]
  omega
theorem tot_mem {ll : List (List Int)} {l : List Int} (h : l ∈ ll) : l.length ≤ tot ll := by
  induction ll with
  | nil => simp at h
  | cons a r ih =>
    simp only [tot, List.map_cons, List.sum_cons] at ih ⊢
    rcases List.mem_cons.1 h with rfl | h
    · omega
    · have := ih h; omega
/-- marks, list by list -/
def mkSS : Int → List (List Int) → List (List Int)
  | _, [] => []
  | k, l :: r => mkI k l.length :: mkSS (k + l.length) r
theorem mkSS_snoc : ∀ (ll : List (List Int)) (k : Int) (l : List Int), mkSS k (ll ++ [l]) = mkSS k ll ++ [mkI (k + tot ll) l.length]
  | [], k, l => by simp [mkSS, tot]
  | a :: r, k, l => by
    have e : k + (a.length : Int) + (tot r : Int) = k + (tot (a :: r) : Int) := by simp only [tot, List.map_cons, List.sum_cons]; omega
    simp only [List.cons_append, mkSS, mkSS_snoc r, e]
theorem mkSS_length : ∀ (ll : List (List Int)) (k : Int), (mkSS k ll).length = ll.length
  | [], _ => rfl
  | _ :: r, _ => by simp [mkSS, mkSS_length r]
theorem mkSS_get : ∀ (ll : List (List Int)) (k : Int) (j : Nat) (l : List Int), ll[j]? = some l → (mkSS k ll)[j]? = some (mkI (k + tot (ll.take j)) l.length)
  | [], _, _, _, h => by simp at h
  | a :: r, k, 0, l, h => by
    simp at h
    subst h
    simp [mkSS, tot]
  | a :: r, k, j + 1, l, h => by
    simp only [List.getElem?_cons_succ] at h
    have e : k + (a.length : Int) + (tot (r.take j) : Int) = k + (tot ((a :: r).take (j + 1)) : Int) := by simp only [tot, List.take_succ_cons, List.map_cons, List.sum_cons]; omega
    simp only [mkSS, List.getElem?_cons_succ, mkSS_get r (k + a.length) j l h, e]

/-- the first k cells of a row of slices are laid -/
def OutCs (cs : Array Value) (n : Nat) (vs : List Value) : Prop := cs.size = n ∧ vs.length ≤ n ∧ ∀ (j : Nat) (v : Value), vs[j]? = some v → cs[j]? = some v
theorem OutCs.step {cs : Array Value} {n : Nat} {vs : List Value} {v : Value} (h : OutCs cs n vs) (hn : vs.length < n) : OutCs (cs.setIfInBounds vs.length v) n (vs ++ [v]) := by
  obtain ⟨h1, h2, h3⟩ := h
  refine ⟨by simpa using h1, by simp; omega, fun j u hu => ?_⟩
  by_cases e : j = vs.length
  · subst e
    rw [List.getElem?_append_right (Nat.le_refl _)] at hu
    simp at hu
    subst hu
    simp [Array.getElem?_setIfInBounds]; omega
  · have hj : j < vs.length := by have := lt_of_some hu; simp at this; omega
    rw [List.getElem?_append_left hj] at hu
    rw [Array.getElem?_setIfInBounds, if_neg (by omega)]
    exact h3 j u hu
theorem OutCs.own {w : World} {g lo : Nat} {cs : Array Value} {vs : List Value} (h : OutCs cs vs.length vs) (hb : Blk w g 29 cs) (hlo : lo ≤ g) (hn : vs.length ≤ 17592186044416) : OutO w lo w.heap.size (.slice (some ⟨g, 0, none⟩) vs.length vs.length) vs := by
  have e : cs.toList.take (vs.length * 1) = vs := by
    apply List.ext_getElem?
    intro j
    by_cases hj : j < vs.length
    · rw [List.getElem?_take, if_pos (by omega), Array.getElem?_toList, List.getElem?_eq_getElem hj]
      exact h.2.2 j _ (List.getElem?_eq_getElem hj)
    · rw [List.getElem?_take, if_neg (by omega), List.getElem?_eq_none (by omega)]
  have := hb.own (base := lo) (n := vs.length) (cap := vs.length) (size := 1) hlo (Nat.le_refl _) (by simp only [maxLen]; omega) (by rw [h.1]; omega)
  rw [e] at this
  exact ⟨this, fun k hk => by simp [Value.ownBlock] at hk; subst hk; exact hb.lt, hn⟩

def szSS (xs : List (List Int)) : Nat := xs.length + tot xs
theorem szSS_take (xs : List (List Int)) (k : Nat) : tot (xs.take k) ≤ tot xs := tot_take_le xs k
theorem zip_split {vs : List Value} {ll : List (List Int)} {j : Nat} {v : Value} {l : List Int} (hv : vs[j]? = some v) (hl : ll[j]? = some l) : vs.zip ll = (vs.take j).zip (ll.take j) ++ (v, l) :: (vs.drop (j + 1)).zip (ll.drop (j + 1)) := by
  have e1 : vs = vs.take j ++ v :: vs.drop (j + 1) := by
    conv => lhs; rw [← List.take_append_drop j vs]
    rw [List.drop_eq_getElem_cons (lt_of_some hv)]
    have : vs[j]'(lt_of_some hv) = v := by rw [List.getElem?_eq_getElem (lt_of_some hv)] at hv; injection hv
    rw [this]
  have e2 : ll = ll.take j ++ l :: ll.drop (j + 1) := by
    conv => lhs; rw [← List.take_append_drop j ll]
    rw [List.drop_eq_getElem_cons (lt_of_some hl)]
    have : ll[j]'(lt_of_some hl) = l := by rw [List.getElem?_eq_getElem (lt_of_some hl)] at hl; injection hl
    rw [this]
  conv => lhs; rw [e1, e2]
  rw [List.zip_append (by simp; have := lt_of_some hv; have := lt_of_some hl; omega)]
  rfl
/-- behind j rounds of marking -/
def mkTo (k : Int) (ll : List (List Int)) (j : Nat) : List (List Int) := mkSS k (ll.take j) ++ ll.drop j
theorem mkTo_get {k : Int} {ll : List (List Int)} {j : Nat} (hj : j < ll.length) : (mkTo k ll j)[j]? = some ll[j] := by
  rw [mkTo, List.getElem?_append_right (by rw [mkSS_length]; simp; omega), mkSS_length, List.getElem?_drop]
  rw [List.length_take, Nat.min_eq_left (by omega)]
  simp [hj]
theorem mkTo_succ {k : Int} {ll : List (List Int)} {j : Nat} {l : List Int} (hl : ll[j]? = some l) : (mkTo k ll j).take j ++ mkI (k + tot (ll.take j)) l.length :: (mkTo k ll j).drop (j + 1) = mkTo k ll (j + 1) := by
  have hj := lt_of_some hl
  have hlen : (mkSS k (ll.take j)).length = j := by rw [mkSS_length]; simp; omega
  have e1 : (mkTo k ll j).take j = mkSS k (ll.take j) := by
    rw [mkTo]
    conv => lhs; arg 1; rw [← hlen]
    rw [List.take_left' rfl]
  have e2 : (mkTo k ll j).drop (j + 1) = ll.drop (j + 1) := by
    rw [mkTo, List.drop_append, hlen, List.drop_of_length_le (by omega)]
    rw [show j + 1 - j = 1 by omega, List.drop_drop]
    rfl
  rw [e1, e2, mkTo, take_snoc hl, mkSS_snoc]
  simp

end Go.Proofs.Ytbgjhnolnccnnaa
