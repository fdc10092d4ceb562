/- What every law goes through: lists of lists of ints. -/
import Derived.Test.YtjhllgldllbaaaaKit
namespace Go.Proofs.Ytjhllgldllbaaaa
set_option linter.unusedVariables false
set_option linter.unusedSimpArgs false
open Go.RowKit

theorem infoInts : (Try.prog.info? 22).map (fun i => (i.zero, i.size, i.bytes)) = some (some (.slice none 0 0), 1, 24) := by kernel_rfl

/-- A row of slice values of the call's own. -/
def OutO (w : World) (lo hi : Nat) (v : Value) (vs : List Value) : Prop := w.ownsRow lo 22 1 v vs.length vs ∧ (∀ k, v.ownBlock = some k → k < hi) ∧ vs.length ≤ 17592186044416
theorem OutO.form {w : World} {lo hi : Nat} {v : Value} {vs : List Value} (h : OutO w lo hi v vs) : ∃ A c, v = .slice A vs.length c ∧ vs.length ≤ c ∧ c ≤ 9223372036854775807 := by
  rcases h.1.2 with ⟨rfl, h0⟩ | ⟨g, cap, cur, rfl, _, _, hnc, hcm, _⟩
  · exact ⟨none, 0, by rw [h0], by omega, by omega⟩
  · exact ⟨_, _, rfl, hnc, by simp only [maxLen] at hcm; omega⟩
theorem OutO.chg {w w' : World} {lo hi lo' hi' : Nat} {v : Value} {vs : List Value} (h : OutO w lo hi v vs) (hc : Chg lo' hi' w w') (hd : hi ≤ lo' ∨ hi' ≤ lo) : OutO w' lo hi v vs := by
  refine ⟨⟨h.1.1, ?_⟩, h.2⟩
  rcases h.1.2 with h1 | ⟨g, cap, cur, rfl, hg, hh, rest⟩
  · exact .inl h1
  · have := h.2.1 g (by simp [Value.ownBlock])
    exact .inr ⟨g, cap, cur, rfl, hg, (hc.block g (Array.getElem?_eq_some_iff.1 hh).1 (by omega)).trans hh, rest⟩
theorem OutO.below {w w' : World} {lo hi : Nat} {v : Value} {vs : List Value} (h : OutO w lo hi v vs) (hb : Below w.heap.size w w') : OutO w' lo hi v vs :=
  ⟨h.1.kept (row := none) ⟨hb.os, hb.tape, hb.output, hb.size, fun k hk _ => hb.block k hk⟩ (by cases v.ownBlock <;> simp), h.2⟩
/-- a row of ints turned leaves it -/
theorem OutO.grown {w w' : World} {lo hi base : Nat} {v u : Value} {vs : List Value} {l : List Int} (h : OutO w lo hi v vs) (ho : OwnI w base u l) (hg : w.grownBy w' u.ownBlock) : OutO w' lo hi v vs := by
  refine ⟨h.1.kept hg ?_, h.2⟩
  rcases h.1.2 with ⟨rfl, _⟩ | ⟨g, cap, cur, rfl, _, hh, _⟩
  · exact .inl rfl
  · right
    exact fun e => ho.blkne (g := g) (t := 22) (cs := cur) hh (by decide) e
theorem OutO.mono {w : World} {lo hi lo' hi' : Nat} {v : Value} {vs : List Value} (h : OutO w lo hi v vs) (h1 : lo' ≤ lo) (h2 : hi ≤ hi') : OutO w lo' hi' v vs := by
  refine ⟨⟨h.1.1, ?_⟩, fun k hk => Nat.lt_of_lt_of_le (h.2.1 k hk) h2, h.2.2⟩
  rcases h.1.2 with h3 | ⟨g, cap, cur, e, hg, rest⟩
  · exact .inl h3
  · exact .inr ⟨g, cap, cur, e, by omega, rest⟩

theorem OutO.set {w : World} {lo hi g : Nat} {v : Value} {vs : List Value} {t : TypeId} {cs : Array Value} (h : OutO w lo hi v vs) (hb : Blk w g t cs) (ht : 22 ≠ t) (i : Nat) (u : Value) : OutO (w.setCell ⟨g, i, none⟩ u) lo hi v vs := by
  refine ⟨h.1.kept (row := some g) ⟨rfl, rfl, rfl, by simp [World.setCell], fun k _ hne => Below.heap_setCell _ _ _ _ (fun e => hne (by rw [e]))⟩ ?_, h.2⟩
  rcases h.1.2 with ⟨rfl, _⟩ | ⟨g', cap, cur, rfl, _, hh, _⟩
  · exact .inl rfl
  · right
    intro e
    have : g' = g := by simpa [Value.ownBlock] using e
    subst this
    unfold Blk at hb
    rw [hh] at hb
    injection hb with hb
    injection hb with _ hb
    exact ht hb
/-- Lists of lists of ints that the call made. -/
def IntssO (w : World) (lo hi : Nat) (v : Value) (ll : List (List Int)) : Prop := ∃ vs, OutO w lo hi v vs ∧ vs.length = ll.length ∧ Fam w lo hi (vs.zip ll)
/-- the reading of an outer row -/
theorem OutO.rd {w : World} {lo hi : Nat} {v : Value} {vs : List Value} {ll : List (List Int)} (h : OutO w lo hi v vs) (hl : vs.length = ll.length) (hr : ∀ p ∈ vs.zip ll, SlI w w.heap.size p.1 p.2) : SlII w w.heap.size v ll := by
  obtain ⟨h1, h2, h3⟩ := h
  rcases h1.2 with ⟨rfl, h0⟩ | ⟨g, cap, cur, rfl, _, hg, hnc, hcm, hcs, htake⟩
  · obtain rfl : ll = [] := List.eq_nil_of_length_eq_zero (by omega)
    exact SlG.nil
  · rw [hl] at hnc h1 h3 ⊢
    refine ⟨_, _, rfl, hnc, by simp only [maxLen] at hcm; omega, h3, fun hp => ⟨g, 0, rfl, (Array.getElem?_eq_some_iff.1 hg).1, fun j x hj => ?_⟩⟩
    have hjl := lt_of_some hj
    have hc := h1.cellAt j (by omega)
    rw [List.getElem?_eq_getElem (by omega)] at hc
    refine ⟨vs[j]'(by omega), by rw [show 0 + j * 1 = j by omega]; exact hc, hr (vs[j]'(by omega), x) ?_⟩
    rw [List.mem_iff_getElem?]
    exact ⟨j, by rw [List.getElem?_zip_eq_some]; exact ⟨List.getElem?_eq_getElem (by omega), hj⟩⟩
theorem IntssO.rd {w : World} {lo hi : Nat} {v : Value} {ll : List (List Int)} (h : IntssO w lo hi v ll) : SlII w w.heap.size v ll := by
  obtain ⟨vs, h1, h2, h3⟩ := h
  exact h1.rd h2 fun p hp => (h3.1 p hp).rd
theorem IntssO.chg {w w' : World} {lo hi lo' hi' : Nat} {v : Value} {ll : List (List Int)} (h : IntssO w lo hi v ll) (hc : Chg lo' hi' w w') (hd : hi ≤ lo' ∨ hi' ≤ lo) : IntssO w' lo hi v ll := by
  obtain ⟨vs, h1, h2, h3⟩ := h
  exact ⟨vs, h1.chg hc hd, h2, h3.chg hc hd⟩
theorem IntssO.below {w w' : World} {lo hi : Nat} {v : Value} {ll : List (List Int)} (h : IntssO w lo hi v ll) (hb : Below w.heap.size w w') : IntssO w' lo hi v ll := by
  obtain ⟨vs, h1, h2, h3⟩ := h
  exact ⟨vs, h1.below hb, h2, h3.below hb⟩
theorem SlII.chg {w w' : World} {B lo hi : Nat} {v : Value} {ll : List (List Int)} (h : SlII w B v ll) (hc : Chg lo hi w w') (hB : B ≤ lo) (hs : B ≤ w.heap.size) : SlII w' B v ll := SlII.below (hc.below hB hs) h

/-- one row more, of later memory -/
theorem Fam.snoc {w : World} {lo mi hi : Nat} {L : List (Value × List Int)} {v : Value} {l : List Int} (h : Fam w lo mi L) (hv : IntsO w mi hi v l) (h1 : lo ≤ mi) (h2 : mi ≤ hi) : Fam w lo hi (L ++ [(v, l)]) := by
  refine ⟨fun p hp => ?_, ?_⟩
  · rcases List.mem_append.1 hp with hp | hp
    · exact (h.1 p hp).wider (Nat.le_refl _) h2
    · rw [List.mem_singleton] at hp
      subst hp
      exact hv.wider h1 (Nat.le_refl _)
  · rw [List.pairwise_append]
    refine ⟨h.2, by simp, fun a ha b hb => ?_⟩
    rw [List.mem_singleton] at hb
    subst hb
    show a.1.ownBlock = none ∨ a.1.ownBlock ≠ v.ownBlock
    rcases hA : a.1.ownBlock with _ | x
    · exact .inl rfl
    · right
      intro e
      have := (h.1 a ha).2 x hA
      have := (hv.1.lt x e.symm).1
      omega

/-- one row ahead, of earlier memory -/
theorem fam_cons {w : World} {lo mi hi : Nat} {L : List (Value × List Int)} {v : Value} {l : List Int} (hv : IntsO w lo mi v l) (h : Fam w mi hi L) (h1 : lo ≤ mi) (h2 : mi ≤ hi) : Fam w lo hi ([(v, l)] ++ L) := by
  refine ⟨fun p hp => ?_, ?_⟩
  · rcases List.mem_append.1 hp with hp | hp
    · rw [List.mem_singleton] at hp
      subst hp
      exact hv.wider (Nat.le_refl _) h2
    · exact (h.1 p hp).wider h1 (Nat.le_refl _)
  · rw [List.pairwise_append]
    refine ⟨by simp, h.2, fun a ha b hb => ?_⟩
    rw [List.mem_singleton] at ha
    subst ha
    show v.ownBlock = none ∨ v.ownBlock ≠ b.1.ownBlock
    rcases hA : v.ownBlock with _ | x
    · exact .inl rfl
    · right
      intro e
      have := hv.2 x hA
      have := ((h.1 b hb).1.lt x e.symm).1
      omega

def tot (ll : List (List Int)) : Nat := (ll.map List.length).sum
theorem tot_snoc (ll : List (List Int)) (l : List Int) : tot (ll ++ [l]) = tot ll + l.length := by simp [tot]
theorem tot_take_le (ll : List (List Int)) (k : Nat) : tot (ll.take k) ≤ tot ll := by
  have : tot ll = tot (ll.take k) + tot (ll.drop k) := by simp only [tot, ← List.sum_append, ← List.map_append, List.take_append_drop]
  omega
theorem tot_mem {ll : List (List Int)} {l : List Int} (h : l ∈ ll) : l.length ≤ tot ll := by
  induction ll with
  | nil => simp at h
  | cons a r ih =>
    simp only [tot, List.map_cons, List.sum_cons] at ih ⊢
    rcases List.mem_cons.1 h with rfl | h
    · omega
    · have := ih h; omega
/-- marks, list by list -/
def mkSS : Int → List (List Int) → List (List Int)
  | _, [] => []
  | k, l :: r => mkI k l.length :: mkSS (k + l.length) r
theorem mkSS_snoc : ∀ (ll : List (List Int)) (k : Int) (l : List Int), mkSS k (ll ++ [l]) = mkSS k ll ++ [mkI (k + tot ll) l.length]
  | [], k, l => by simp [mkSS, tot]
  | a :: r, k, l => by
    have e : k + (a.length : Int) + (tot r : Int) = k + (tot (a :: r) : Int) := by simp only [tot, List.map_cons, List.sum_cons]; omega
    simp only [List.cons_append, mkSS, mkSS_snoc r, e]
theorem mkSS_length : ∀ (ll : List (List Int)) (k : Int), (mkSS k ll).length = ll.length
  | [], _ => rfl
  | _ :: r, _ => by simp [mkSS, mkSS_length r]
theorem mkSS_get : ∀ (ll : List (List Int)) (k : Int) (j : Nat) (l : List Int), ll[j]? = some l → (mkSS k ll)[j]? = some (mkI (k + tot (ll.take j)) l.length)
  | [], _, _, _, h => by simp at h
  | a :: r, k, 0, l, h => by
    simp at h
    subst h
    simp [mkSS, tot]
  | a :: r, k, j + 1, l, h => by
    simp only [List.getElem?_cons_succ] at h
    have e : k + (a.length : Int) + (tot (r.take j) : Int) = k + (tot ((a :: r).take (j + 1)) : Int) := by simp only [tot, List.take_succ_cons, List.map_cons, List.sum_cons]; omega
    simp only [mkSS, List.getElem?_cons_succ, mkSS_get r (k + a.length) j l h, e]

set_option maxHeartbeats 800000 in
theorem eqIntSS_any (u v : Value) (xs ys : List (List Int)) (w : World) (hu : SlII w w.heap.size u xs) (hv : SlII w w.heap.size v ys) :
    Calls Try.prog 55 #[u, v] w fun e w' => e = .returned (.bool (decide (xs = ys))) ∧ Below w.heap.size w w' := by
  obtain ⟨A, c, rfl, _, _, hn, hx⟩ := hu.open_
  obtain ⟨C, d, rfl, _, _, hm, hy⟩ := hv.open_
  clear hu hv
  by_cases hnm : xs.length = ys.length
  · have heq : ((xs.length : Int) != ys.length) = false := by rw [bne_eq_false_iff_eq]; omega
    have HN := Lib.hid hnm
    clear hnm
    go_enter Try.func55, Try.ntmps55
    go_wp2
    go_loopw [5] (fun i wr => ∃ k : Nat, k ≤ xs.length ∧ i = .int .i64 k ∧ Below w.heap.size w wr ∧ Hid (xs.take k = ys.take k)) (fun i _ => xs.length - (intOf i).toNat)
    case atStart => exact ⟨0, Nat.zero_le _, rfl, Below.refl _ _, rfl⟩
    case round =>
      obtain ⟨k, hk, rfl, hbel, hxy⟩ := hrel
      by_cases hlt : k < xs.length
      · have hlt' : k < ys.length := by have := HN.out; omega
        obtain ⟨b, o, x, A', c', rfl, hb, HX, c1, hsx⟩ := SlII.at_ hx hlt
        obtain ⟨b', o', y, C', d', rfl, hb', HY, c2, hsy⟩ := SlII.at_ hy hlt'
        clear hx hy
        have s := hbel.size
        have d1 := InB.cell (w := wr) (by omega) (bcell hbel hb c1)
        have d2 := InB.cell (w := wr) (by omega) (bcell hbel hb' c2)
        have hsx' : ∀ s : InB wr, SlI s.val s.val.heap.size (.slice A' x.length c') x := fun t => SlI.next t.below (SlI.more s (SlI.below hbel hsx))
        have hsy' : ∀ s : InB wr, SlI s.val s.val.heap.size (.slice C' y.length d') y := fun t => SlI.next t.below (SlI.more s (SlI.below hbel hsy))
        have HSX := Lib.hid hsx'
        have HSY := Lib.hid hsy'
        clear c1 c2 hsx hsy hsx' hsy'
        by_cases hE : x = y
        · have hdE : decide (x = y) = true := by simpa using hE
          have hst := Lib.hid (show xs.take (k + 1) = ys.take (k + 1) by rw [take_snoc HX.out, take_snoc HY.out, hxy.out, hE])
          clear hE
          go_wp2
          (refine wp_region_inB (by kernel_rfl) (by kernel_rfl) ?_; (repeat (go_big_quiet_step ((go_at_call 36; exact InB.call (eqIntS_any _ _ x y _ (HSX.out _) (HSY.out _)))))); refine wpQuiet_nil ?_; intro w1 hw'; obtain ⟨s1, hw1⟩ := hw'; have hb1 := s1.below; rw [← hw1] at hb1; clear hw1 s1)
          go_wp2
          go_roundw
          case rel => exact ⟨k + 1, by omega, by go_num, hbel.trans (hb1.mono s), hst.out⟩
          case measure => simp [intOf]; omega
        · have hdE : decide (x = y) = false := by simpa using hE
          have hne : Hid (xs ≠ ys) := by
            rintro rfl
            have h2 := HX.out
            rw [HY.out] at h2
            exact hE (by injection h2 with h2; exact h2.symm)
          clear hE
          go_wp2
          (refine wp_region_inB (by kernel_rfl) (by kernel_rfl) ?_; (repeat (go_big_quiet_step ((go_at_call 36; exact InB.call (eqIntS_any _ _ x y _ (HSX.out _) (HSY.out _)))))); refine wpQuiet_nil ?_; intro w1 hw'; obtain ⟨s1, hw1⟩ := hw'; have hb1 := s1.below; rw [← hw1] at hb1; clear hw1 s1)
          go_wp2
          go_ret
          exact ⟨by rw [decide_eq_false hne.out]; rfl, hbel.trans (hb1.mono s)⟩
      · go_wp2
        go_ret
        refine ⟨?_, hbel⟩
        have h1 := hxy.out
        rw [List.take_of_length_le (by omega), List.take_of_length_le (by have := HN.out; omega)] at h1
        simp [h1]
  · have hne : ((xs.length : Int) != ys.length) = true := by rw [bne_iff_ne]; omega
    go_enter Try.func55, Try.ntmps55
    go_wp2
    go_ret
    refine ⟨?_, Below.refl _ _⟩
    rw [decide_eq_false (by rintro rfl; omega)]; rfl

/-- the first k cells of a row of slices are laid -/
def OutCs (cs : Array Value) (n : Nat) (vs : List Value) : Prop := cs.size = n ∧ vs.length ≤ n ∧ ∀ (j : Nat) (v : Value), vs[j]? = some v → cs[j]? = some v
theorem OutCs.step {cs : Array Value} {n : Nat} {vs : List Value} {v : Value} (h : OutCs cs n vs) (hn : vs.length < n) : OutCs (cs.setIfInBounds vs.length v) n (vs ++ [v]) := by
  obtain ⟨h1, h2, h3⟩ := h
  refine ⟨by simpa using h1, by simp; omega, fun j u hu => ?_⟩
  by_cases e : j = vs.length
  · subst e
    rw [List.getElem?_append_right (Nat.le_refl _)] at hu
    simp at hu
    subst hu
    simp [Array.getElem?_setIfInBounds]; omega
  · have hj : j < vs.length := by have := lt_of_some hu; simp at this; omega
    rw [List.getElem?_append_left hj] at hu
    rw [Array.getElem?_setIfInBounds, if_neg (by omega)]
    exact h3 j u hu
theorem OutCs.own {w : World} {g lo : Nat} {cs : Array Value} {vs : List Value} (h : OutCs cs vs.length vs) (hb : Blk w g 22 cs) (hlo : lo ≤ g) (hn : vs.length ≤ 17592186044416) : OutO w lo w.heap.size (.slice (some ⟨g, 0, none⟩) vs.length vs.length) vs := by
  have e : cs.toList.take (vs.length * 1) = vs := by
    apply List.ext_getElem?
    intro j
    by_cases hj : j < vs.length
    · rw [List.getElem?_take, if_pos (by omega), Array.getElem?_toList, List.getElem?_eq_getElem hj]
      exact h.2.2 j _ (List.getElem?_eq_getElem hj)
    · rw [List.getElem?_take, if_neg (by omega), List.getElem?_eq_none (by omega)]
  have := hb.own (base := lo) (n := vs.length) (cap := vs.length) (size := 1) hlo (Nat.le_refl _) (by simp only [maxLen]; omega) (by rw [h.1]; omega)
  rw [e] at this
  exact ⟨this, fun k hk => by simp [Value.ownBlock] at hk; subst hk; exact hb.lt, hn⟩

def szSS (xs : List (List Int)) : Nat := xs.length + tot xs
theorem szSS_take (xs : List (List Int)) (k : Nat) : tot (xs.take k) ≤ tot xs := tot_take_le xs k
theorem zip_split {vs : List Value} {ll : List (List Int)} {j : Nat} {v : Value} {l : List Int} (hv : vs[j]? = some v) (hl : ll[j]? = some l) : vs.zip ll = (vs.take j).zip (ll.take j) ++ (v, l) :: (vs.drop (j + 1)).zip (ll.drop (j + 1)) := by
  have e1 : vs = vs.take j ++ v :: vs.drop (j + 1) := by
    conv => lhs; rw [← List.take_append_drop j vs]
    rw [List.drop_eq_getElem_cons (lt_of_some hv)]
    have : vs[j]'(lt_of_some hv) = v := by rw [List.getElem?_eq_getElem (lt_of_some hv)] at hv; injection hv
    rw [this]
  have e2 : ll = ll.take j ++ l :: ll.drop (j + 1) := by
    conv => lhs; rw [← List.take_append_drop j ll]
    rw [List.drop_eq_getElem_cons (lt_of_some hl)]
    have : ll[j]'(lt_of_some hl) = l := by rw [List.getElem?_eq_getElem (lt_of_some hl)] at hl; injection hl
    rw [this]
  conv => lhs; rw [e1, e2]
  rw [List.zip_append (by simp; have := lt_of_some hv; have := lt_of_some hl; omega)]
  rfl
/-- behind j rounds of marking -/
def mkTo (k : Int) (ll : List (List Int)) (j : Nat) : List (List Int) := mkSS k (ll.take j) ++ ll.drop j
theorem mkTo_get {k : Int} {ll : List (List Int)} {j : Nat} (hj : j < ll.length) : (mkTo k ll j)[j]? = some ll[j] := by
  rw [mkTo, List.getElem?_append_right (by rw [mkSS_length]; simp; omega), mkSS_length, List.getElem?_drop]
  rw [List.length_take, Nat.min_eq_left (by omega)]
  simp [hj]
theorem mkTo_succ {k : Int} {ll : List (List Int)} {j : Nat} {l : List Int} (hl : ll[j]? = some l) : (mkTo k ll j).take j ++ mkI (k + tot (ll.take j)) l.length :: (mkTo k ll j).drop (j + 1) = mkTo k ll (j + 1) := by
  have hj := lt_of_some hl
  have hlen : (mkSS k (ll.take j)).length = j := by rw [mkSS_length]; simp; omega
  have e1 : (mkTo k ll j).take j = mkSS k (ll.take j) := by
    rw [mkTo]
    conv => lhs; arg 1; rw [← hlen]
    rw [List.take_left' rfl]
  have e2 : (mkTo k ll j).drop (j + 1) = ll.drop (j + 1) := by
    rw [mkTo, List.drop_append, hlen, List.drop_of_length_le (by omega)]
    rw [show j + 1 - j = 1 by omega, List.drop_drop]
    rfl
  rw [e1, e2, mkTo, take_snoc hl, mkSS_snoc]
  simp

set_option maxHeartbeats 1600000 in
/-- marks, beside other rows -/
theorem markIntSS_fam (v : Value) (vs : List Value) (ll : List (List Int)) (L0 : List (Value × List Int)) (k : Int) (lo hi : Nat) (w : World) (ho : OutO w lo hi v vs) (hl : vs.length = ll.length) (hF : Fam w lo hi (L0 ++ vs.zip ll)) (h0 : 0 ≤ k) (h1 : k ≤ 1125899906842624) (ht : tot ll ≤ 17592186044416) :
    Calls Try.prog 56 #[v, .int .i64 k] w fun e w' => e = .returned (.int .i64 (k + tot ll)) ∧ OutO w' lo hi v vs ∧ Fam w' lo hi (L0 ++ vs.zip (mkSS k ll)) ∧ Chg lo hi w w' := by
  obtain ⟨A, c, rfl, _, _⟩ := ho.form
  have hn := ho.2.2
  have HL := Lib.hid hl
  clear hl
  go_enter Try.func56, Try.ntmps56
  go_wp2
  go_loopw [1, 5] (fun q i wr => ∃ j : Nat, j ≤ vs.length ∧ i = .int .i64 j ∧ q = .int .i64 (k + tot (ll.take j)) ∧ OutO wr lo hi (.slice A vs.length c) vs ∧ Fam wr lo hi (L0 ++ vs.zip (mkTo k ll j)) ∧ Chg lo hi w wr) (fun _ i _ => vs.length - (intOf i).toNat)
  case atStart => exact ⟨0, Nat.zero_le _, rfl, by simp [tot], ho, by simpa [mkTo, mkSS] using hF, Chg.refl _ _ _⟩
  case round =>
    clear ho hF
    obtain ⟨j, hj, rfl, rfl, ho, hF, hc⟩ := hrel
    obtain ⟨t, htt⟩ : ∃ t, tot (ll.take j) = t := ⟨_, rfl⟩
    have htle := tot_take_le ll j
    rw [htt] at htle ⊢
    by_cases hlt : j < vs.length
    · have hjl : j < ll.length := by have := HL.out; omega
      obtain ⟨g, rfl, hcell⟩ : ∃ g, A = some ⟨g, 0, none⟩ ∧ wr.cell? ⟨g, j, none⟩ = some (vs[j]'hlt) := by
        rcases ho.1.2 with ⟨_, h0⟩ | ⟨g, cap, cur, e, _⟩
        · omega
        · injection e with e1 e2 e3
          subst e1 e3
          have hc := ho.1.cellAt j (by omega)
          rw [List.getElem?_eq_getElem hlt] at hc
          exact ⟨g, rfl, hc⟩
      have hvj : vs[j]? = some vs[j] := List.getElem?_eq_getElem hlt
      have hlj : ll[j]? = some ll[j] := List.getElem?_eq_getElem hjl
      have hsp := zip_split hvj (mkTo_get (k := k) hjl)
      rw [hsp, ← List.append_assoc] at hF
      have hv := (hF.1 (vs[j], ll[j]) (by simp))
      have hts := tot_take_le ll (j + 1)
      have hlen := hv.1.2.1
      obtain ⟨A', c', hform, _, _⟩ := hv.1.form
      have htk : tot (ll.take (j + 1)) = t + ll[j].length := by rw [take_snoc hlj, tot_snoc, htt]
      generalize hl' : ll[j] = l at *
      generalize hv' : vs[j] = u at *
      simp only at hform
      subst hform
      have HV := Lib.hid hvj
      have HLJ := Lib.hid hlj
      have HT := Lib.hid htk
      have HTT := Lib.hid htt
      clear hsp hvj hlj htk hl' hv' htt
      go_wp2_with fail
      refine (markIntS_any _ l _ lo _ hv.1 (by omega) (by omega)).mono ?_; rintro e w1 ⟨rfl, ho1, hg1⟩
      have hF1 := hF.turn ho1 hg1
      have hc1 := chg_of_grown hv hg1
      have ho2 := ho.grown hv.1 hg1
      have hF2 : Fam w1 lo hi (L0 ++ vs.zip (mkTo k ll (j + 1))) := by
        have e : vs.zip (mkTo k ll (j + 1)) = (vs.take j).zip ((mkTo k ll j).take j) ++ (.slice A' l.length c', mkI (k + t) l.length) :: (vs.drop (j + 1)).zip ((mkTo k ll j).drop (j + 1)) := by
          have h2 := mkTo_succ (k := k) HLJ.out
          rw [HTT.out] at h2
          rw [← h2]
          have h3 : ((mkTo k ll j).take j ++ mkI (k + t) l.length :: (mkTo k ll j).drop (j + 1))[j]? = some (mkI (k + t) l.length) := by
            have hlen : ((mkTo k ll j).take j).length = j := by simp [mkTo, mkSS_length]; omega
            rw [List.getElem?_append_right (by omega), hlen]
            simp
          rw [zip_split HV.out h3]
          have hlen : ((mkTo k ll j).take j).length = j := by simp [mkTo, mkSS_length]; omega
          congr 1
          · congr 1
            rw [List.take_append_of_le_length (by omega), List.take_take, Nat.min_self]
          · congr 2
            rw [List.drop_append, hlen, List.drop_of_length_le (by omega)]
            rw [show j + 1 - j = 1 by omega]
            rfl
        rw [e, ← List.append_assoc]
        exact hF1
      clear hF hF1 hv ho ho1 hg1 hcell
      go_wp2
      go_roundw
      case rel => exact ⟨j + 1, by omega, by go_num, by rw [HT.out]; congr 1; omega, ho2, hF2, hc.trans hc1⟩
      case measure => simp [intOf]; omega
    · have hjl : j = ll.length := by have := HL.out; omega
      have HJ := Lib.hid hjl
      have HTT := Lib.hid htt
      clear hjl htt
      go_wp2
      go_ret
      have e1 : tot ll = t := by rw [← HTT.out, HJ.out, List.take_length]
      have e2 : mkTo k ll j = mkSS k ll := by rw [mkTo, HJ.out, List.take_length, List.drop_length, List.append_nil]
      rw [e2] at hF
      exact ⟨by rw [e1]; rfl, ho, hF, hc⟩
theorem intss_mark (v : Value) (ll : List (List Int)) (k : Int) (lo hi : Nat) (w : World) (hv : IntssO w lo hi v ll) (h0 : 0 ≤ k) (h1 : k ≤ 1125899906842624) (ht : tot ll ≤ 17592186044416) :
    Calls Try.prog 56 #[v, .int .i64 k] w fun e w' => e = .returned (.int .i64 (k + tot ll)) ∧ IntssO w' lo hi v (mkSS k ll) ∧ Chg lo hi w w' := by
  obtain ⟨vs, h2, h3, h4⟩ := hv
  exact (markIntSS_fam v vs ll [] k lo hi w h2 h3 h4 h0 h1 ht).mono fun _ _ ⟨a, b, c, d⟩ => ⟨a, ⟨vs, b, by rw [mkSS_length]; exact h3, c⟩, d⟩
end Go.Proofs.Ytjhllgldllbaaaa
