/- FnFiltrations: the law holds for every argument. Part 11 of 18 of the proof: DrwF, DrwG. No condition. -/
import Derived.Test.YtgabmemalaklbaaGreatBFiltrations10
/- The draws of filtrations. -/
namespace Go.Proofs.YtgabmemalaklbaaGreat
set_option linter.unusedVariables false
set_option linter.unusedSimpArgs false
open Go.RowKit

theorem Cur.ltF {w : World} {c : Nat} (h : Cur w c) : c < w.heap.size := by obtain ⟨_, _, _, _, _, hB, _⟩ := h; exact hB.lt
theorem Cur.belowF {w w' : World} {c lo : Nat} (h : Cur w c) (k : Below lo w w') (hc : c < lo) : Cur w' c := by
  obtain ⟨A, cc, i, hh, l, hB, h1, h2, h3⟩ := h
  exact ⟨A, cc, i, hh, l, hB.below k hc, h1, h2, SlY.below (k.mono (Nat.le_of_lt hc)) h3⟩
theorem Ck.lowF {w0 w w' : World} {c lo : Nat} (h : Ck c w0 w) (k : Below lo w w') (h1 : w0.heap.size ≤ lo) (h2 : c < lo) : Ck c w0 w' :=
  ⟨k.os.trans h.os, k.tape.trans h.tape, k.output.trans h.output, Nat.le_trans h.size k.size, fun i hi hn => (k.block i (by omega)).trans (h.block i hi hn), fun h0 => (h.keep h0).belowF k h2⟩
theorem IntsO.ckF {w w' : World} {lo hi c : Nat} {v : Value} {l : List Int} (h : IntsO w lo hi v l) (k : Ck c w w') (hc : c < lo) : IntsO w' lo hi v l := h.chg k.chg (.inr (by omega))
theorem OwnI.ckF {w w' : World} {lo c : Nat} {v : Value} {l : List Int} (h : OwnI w lo v l) (k : Ck c w w') (hc : c < lo) : OwnI w' lo v l := ((IntsO.of_own h).ckF k hc).1
theorem sl_oneF {w : World} {g : Nat} {x : Int} (hk : Blk w g 3 #[.int .i64 x]) (hx : I64 x) : SlI w w.heap.size (.slice (some ⟨g, 0, none⟩) 1 1) [x] := by
  refine ⟨_, 1, rfl, by simp, by omega, by simp, fun _ => ⟨g, 0, rfl, hk.lt, fun j y hj => ?_⟩⟩
  match j, hj with
  | 0, hj =>
    simp at hj; subst hj
    exact ⟨by rw [hk.cell]; rfl, hx⟩
  | j + 1, hj => simp at hj
/-- a block of numbers as a row of the call's own -/
theorem own_blkF {w : World} {g lo : Nat} {l : List Int} (hk : Blk w g 3 (l.map (Value.int .i64)).toArray) (hlo : lo ≤ g) (hl : l.length ≤ 1000) (hI : ∀ x ∈ l, I64 x) : OwnI w lo (.slice (some ⟨g, 0, none⟩) l.length l.length) l := by
  refine ⟨?_, by omega, hI⟩
  have := hk.own (base := lo) (n := l.length) (cap := l.length) (size := 1) hlo (Nat.le_refl _) (by simp only [maxLen]; omega) (by simp)
  rw [Nat.mul_one, List.toList_toArray, List.take_of_length_le (by simp)] at this
  exact this
theorem OwnI.adrF {w : World} {lo n c : Nat} {A : Option Addr} {l : List Int} (h : OwnI w lo (.slice A n c) l) (h0 : 0 < l.length) : ∃ g, A = some ⟨g, 0, none⟩ ∧ lo ≤ g ∧ g < w.heap.size := by
  rcases h.1.2 with ⟨_, h1⟩ | ⟨g, cap, cur, e, hg, _⟩
  · omega
  · injection e with e1 _ _
    subst e1
    exact ⟨g, rfl, hg, (h.lt g rfl).2⟩
/-- the filtration variable: births under way; ends under way -/
def G1 (w : World) (lo gf : Nat) (S : Int) (A : Option Addr) (a : Nat) (B : List Int) : Prop :=
  Blk w gf 27 #[.int .i64 S, .slice A B.length a, .slice none 0 0] ∧ OwnI w lo (.slice A B.length a) B ∧ lo ≤ w.heap.size
def G2 (w : World) (lo mid gf : Nat) (S : Int) (A : Option Addr) (a : Nat) (B : List Int) (C : Option Addr) (d : Nat) (E : List (List Int)) : Prop :=
  Blk w gf 27 #[.int .i64 S, .slice A B.length a, .slice C E.length d] ∧ IntsO w lo mid (.slice A B.length a) B ∧ IntssO w mid w.heap.size (.slice C E.length d) E ∧ mid ≤ w.heap.size
/-- a filtration of the call's own, from block lo on -/
def FiX (w : World) (lo : Nat) (v : Value) (F : Filt) : Prop := ∃ a b mid, v = .agg #[.int .i64 F.stages, a, b] ∧ IntsO w lo mid a F.birth ∧ IntssO w mid w.heap.size b F.ends ∧ lo ≤ mid ∧ I64 F.stages
theorem FiX.chg {w w' : World} {lo g : Nat} {v : Value} {F : Filt} (h : FiX w lo v F) (hc : Chg g (g + 1) w w') (hg : g < lo) : FiX w' lo v F := by
  obtain ⟨a, b, mid, e, h1, h2, h3, h4⟩ := h
  exact ⟨a, b, mid, e, h1.chg hc (.inr (by omega)), (h2.chg hc (.inr (by omega))).wider (Nat.le_refl _) hc.size, h3, h4⟩
theorem FiX.chgL {w w' : World} {lo g : Nat} {v : Value} {F : Filt} (h : FiX w lo v F) (hc : Chg g lo w w') : FiX w' lo v F := by
  obtain ⟨a, b, mid, e, h1, h2, h3, h4⟩ := h
  exact ⟨a, b, mid, e, h1.chg hc (.inr (Nat.le_refl _)), (h2.chg hc (.inr h3)).wider (Nat.le_refl _) hc.size, h3, h4⟩
theorem FiX.below {w w' : World} {lo : Nat} {v : Value} {F : Filt} (h : FiX w lo v F) (hb : Below w.heap.size w w') : FiX w' lo v F := by
  obtain ⟨a, b, mid, e, h1, h2, h3, h4⟩ := h
  exact ⟨a, b, mid, e, h1.below hb, (h2.below hb).wider (Nat.le_refl _) hb.size, h3, h4⟩
theorem FiX.rd {w : World} {lo : Nat} {v : Value} {F : Filt} (h : FiX w lo v F) : FiR w w.heap.size v F := by
  obtain ⟨a, b, mid, e, h1, h2, _, h4⟩ := h
  exact ⟨a, b, e, h1.rd, h2.rd, h4⟩
theorem FiX.ck {w w' : World} {lo c : Nat} {v : Value} {F : Filt} (h : FiX w lo v F) (k : Ck c w w') (hc : c < lo) : FiX w' lo v F := h.chg k.chg hc
section
variable {w w' : World} {lo mid gf a d c : Nat} {S : Int} {A C : Option Addr} {B : List Int} {E : List (List Int)}
theorem G1.ck (h : G1 w lo gf S A a B) (k : Ck c w w') (h1 : gf ≠ c) (h2 : c < lo) : G1 w' lo gf S A a B := ⟨h.1.ck k h1, h.2.1.ckF k h2, Nat.le_trans h.2.2 k.size⟩
theorem G2.ck (h : G2 w lo mid gf S A a B C d E) (k : Ck c w w') (h1 : gf ≠ c) (h2 : c < lo) (h3 : lo ≤ mid) : G2 w' lo mid gf S A a B C d E :=
  ⟨h.1.ck k h1, h.2.1.ckF k h2, (h.2.2.1.chg k.chg (.inr (by omega))).wider (Nat.le_refl _) k.size, Nat.le_trans h.2.2.2 k.size⟩
theorem G1.put {w1 : World} {A1 : Option Addr} {n1 c1 : Nat} {B1 : List Int} (h : G1 w lo gf S A a B) (ho : OwnI w1 lo (.slice A1 n1 c1) B1) (hn : n1 = B1.length) (hg : w.grownBy w1 (Value.slice A B.length a).ownBlock) :
    Blk w1 gf 27 #[.int .i64 S, .slice A B.length a, .slice none 0 0] ∧ G1 (w1.setCell ⟨gf, 1, none⟩ (.slice A1 n1 c1)) lo gf S A1 c1 B1 ∧ Below lo w w1 := by
  subst hn
  have hB1 := h.1.grown hg (h.2.1.blkne h.1 (by decide))
  refine ⟨hB1, ⟨hB1.set_ 1 _, ho.setCell (fun e => ho.blkne hB1 (by decide) e.symm) _, ?_⟩, below_grown hg (fun j hj => (h.2.1.lt j hj).1) h.2.2⟩
  have := hg.size; simp; have := h.2.2; omega
theorem G2.put {w1 : World} {C1 : Option Addr} {n1 c1 : Nat} {E1 : List (List Int)} (h : G2 w lo mid gf S A a B C d E) (ho : IntssO w1 mid w1.heap.size (.slice C1 n1 c1) E1) (hn : n1 = E1.length) (hb : Below mid w w1) (hgm : gf < lo) (hlm : lo ≤ mid) :
    Blk w1 gf 27 #[.int .i64 S, .slice A B.length a, .slice C E.length d] ∧ G2 (w1.setCell ⟨gf, 2, none⟩ (.slice C1 n1 c1)) lo mid gf S A a B C1 c1 E1 := by
  subst hn
  have hB1 := h.1.below hb (by omega)
  have hc : Chg gf (gf + 1) w1 (w1.setCell ⟨gf, 2, none⟩ (.slice C1 E1.length c1)) := chg_set (Nat.le_refl _) (Nat.lt_succ_self _)
  have hbc : Chg mid w1.heap.size w w1 := ⟨hb.os, hb.tape, hb.output, hb.size, fun k hk hn => hb.block k (by rcases hn with hn | hn; exact hn; have := hb.size; omega)⟩
  refine ⟨hB1, hB1.set_ 2 _, (h.2.1.chg hbc (.inl (Nat.le_refl _))).chg hc (.inr (by omega)), ?_, ?_⟩
  · have := ho.chg hc (.inr (by omega))
    simpa using this
  · have := hb.size; simp; have := h.2.2.2; omega
theorem G2.setS {x : Int} (h : G2 w lo mid gf S A a B C d E) (hgm : gf < lo) (hlm : lo ≤ mid) : G2 (w.setCell ⟨gf, 0, none⟩ (.int .i64 x)) lo mid gf x A a B C d E := by
  have hc : Chg gf (gf + 1) w (w.setCell ⟨gf, 0, none⟩ (.int .i64 x)) := chg_set (Nat.le_refl _) (Nat.lt_succ_self _)
  refine ⟨h.1.set_ 0 _, h.2.1.chg hc (.inr (by omega)), ?_, ?_⟩
  · have := h.2.2.1.chg hc (.inr (by omega))
    simpa using this
  · simp; exact h.2.2.2
theorem G2.chg {g : Nat} (h : G2 w lo mid gf S A a B C d E) (hc : Chg g (g + 1) w w') (hg : g < gf) (hgm : gf < lo) (hlm : lo ≤ mid) : G2 w' lo mid gf S A a B C d E :=
  ⟨h.1.chg hc (.inr (by omega)), h.2.1.chg hc (.inr (by omega)), (h.2.2.1.chg hc (.inr (by omega))).wider (Nat.le_refl _) hc.size, Nat.le_trans h.2.2.2 hc.size⟩
theorem G2.fix (h : G2 w lo mid gf S A a B C d E) (hlm : lo ≤ mid) (hS : I64 S) : FiX w lo (.agg #[.int .i64 S, .slice A B.length a, .slice C E.length d]) ⟨S, B, E⟩ := ⟨_, _, mid, rfl, h.2.1, h.2.2.1, hlm, hS⟩
theorem G2.rd (h : G2 w lo mid gf S A a B C d E) (hS : I64 S) : FiR w w.heap.size (.agg #[.int .i64 S, .slice A B.length a, .slice C E.length d]) ⟨S, B, E⟩ :=
  ⟨_, _, rfl, h.2.1.rd, h.2.2.1.rd, hS⟩
end
def IntPF (v : Value) : Prop := ∃ x, v = .int .i64 x ∧ I64 x
set_option maxHeartbeats 6400000 in
set_option maxRecDepth 100000 in
theorem l24Filtration_any (c : Nat) (w0 : World) (hc : Cur w0 c) :
    Calls Tryz.prog 29 #[.pointer (some ⟨c, 0, none⟩)] w0 fun e w' => ∃ v F lo, e = .returned v ∧ w0.heap.size < lo ∧ FiX w' lo v F ∧ Ck c w0 w' := by
  have hcl := hc.ltF
  obtain ⟨W, hW⟩ : ∃ W, W = w0.alloc (.cells #[.int .i64 0, .slice none 0 0, .slice none 0 0] 27) := ⟨_, rfl⟩
  have g0 : Ck c w0 W := by rw [hW]; exact Ck.of_below (below_alloc _ _)
  have kR : Blk W w0.heap.size 27 #[.int .i64 0, .slice none 0 0, .slice none 0 0] := by rw [hW]; exact Blk.new _ _ _
  have sW : W.heap.size = w0.heap.size + 1 := by rw [hW]; simp
  have hcw : w0.heap.size ≠ c := by omega
  have KR := Lib.hid kR
  have G0 := Lib.hid g0
  have HC := Lib.hid hc
  clear kR hc
  go_enter Tryz.func29, Tryz.ntmps29
  go_wp2_with fail
  rw [← hW]; clear hW
  refine (l1Below_any c 4 _ (g0.keep HC.out) ⟨by omega, by omega⟩).mono ?_; rintro e w1 ⟨s, hs, _, rfl, hb1⟩
  have hs4 : s ≤ 3 := by omega
  clear hs
  have hs1 := hb1.size
  go_wp2_with fail
  obtain ⟨W2, hW2⟩ : ∃ z, w1.alloc (.cells #[.int .i64 (1 + (s : Int)), .slice none 0 0, .slice none 0 0] 27) = z := ⟨_, rfl⟩
  have gb : Below w1.heap.size w1 W2 := by rw [← hW2]; exact below_alloc _ _
  rw [hW2]
  obtain ⟨gf, hgf⟩ : ∃ z, w1.heap.size = z := ⟨_, rfl⟩
  rw [hgf]
  have kF : Blk W2 gf 27 #[.int .i64 (1 + (s : Int)), .slice none 0 0, .slice none 0 0] := by rw [← hW2, ← hgf]; exact Blk.new _ _ _
  have sz2 : W2.heap.size = gf + 1 := by rw [← hW2, ← hgf]; simp
  have hB2 := Lib.hid (hb1.trans (Ck.of_below gb))
  have hC2 := Lib.hid (hB2.out.keep (G0.out.keep HC.out))
  have hgf0 : w0.heap.size < gf := by omega
  have hgc : gf ≠ c := by omega
  have hclo : c < gf + 1 := by omega
  have h1 : G1 W2 (gf + 1) gf (1 + (s : Int)) none 0 [] := ⟨kF, OwnI.nil _ _, by omega⟩
  have HG2 := Lib.hid h1
  obtain ⟨S, hS⟩ : ∃ S : Int, 1 + (s : Int) = S := ⟨_, rfl⟩
  have hS1 : 1 ≤ S ∧ S ≤ 4 := by omega
  rw [hS] at HG2
  clear hb1 gb kF h1 g0 hS
  refine (l1Below_any c 4 _ hC2.out ⟨by omega, by omega⟩).mono ?_; rintro e w3 ⟨m, hm, _, rfl, hb3⟩
  clear hW2
  have hm3 : m ≤ 3 := by omega
  clear hm
  have hC3 := hb3.keep hC2.out
  have hG3 := HG2.out.ck hb3 hgc hclo
  have hB3 := hB2.out.trans hb3
  clear hb3
  go_wp2
  go_loopw [4] (fun nv wr => ∃ (k a : Nat) (A : Option Addr) (B : List Int), k ≤ 4 ∧ nv = .int .i64 k ∧ B.length + k = 1 + m ∧ (∀ x ∈ B, 0 ≤ x ∧ x < S) ∧ Cur wr c ∧ Ck c W wr ∧ G1 wr (gf + 1) gf S A a B) (fun nv _ => (intOf nv).toNat)
  case atStart => exact ⟨1 + m, 0, none, [], by omega, by first | rfl | simp, by simp, by simp, hC3, hB3, hG3⟩
  case round =>
    clear hC3 hB3 hG3
    obtain ⟨k, a, A, B, hk, rfl, hBk, hBx, hC, hB, hG⟩ := hrel
    have hgs := hG.2.2
    have HC := Lib.hid hC
    have HB := Lib.hid hB
    have HG := Lib.hid hG
    have HX := Lib.hid hBx
    have HL := Lib.hid hBk
    clear hC hB hG hBx hBk
    by_cases hk0 : 0 < k
    · go_wp2
      refine wp_region_netK (c) (by kernel_rfl) [.eq (.pointer (some ⟨gf, 1, none⟩)), .eq (.slice A B.length a), .eq (.pointer (some ⟨c, 0, none⟩)), .eq (.pointer (some ⟨gf, 0, none⟩)), .eq (.int .i64 S), rel 5 (fun u lo hi w => ∃ i : Nat, u = .int .i64 i ∧ (i : Int) < S), rel 6 (fun u lo hi w => ∃ (g i : Nat), u = .slice (some ⟨g, 0, none⟩) 1 1 ∧ Blk w g 3 #[.int .i64 i] ∧ (i : Int) < S ∧ c < g)] [[], [0], [], [], [3], [2, 3, 4], [2, 3, 4, 5], [0, 1, 2, 3, 4, 5, 6], [0, 1, 2, 3, 4, 5, 6, 7], [0, 1, 2, 3, 4, 5, 6, 7, 8]] 7 (by kernel_rfl) ⟨trivial, trivial, trivial, trivial, trivial, rel_stableK (fun u lo hi w w' h hb => h), rel_stableK (fun u lo hi w w' ⟨g, i, e, h, h2, h3⟩ hb => ⟨g, i, e, h.ck hb (by omega), h2, h3⟩), trivial⟩ ⟨?_, ?_, ?_, ?_, ?_, ?_, ?_, trivial⟩ ?_
      · intro x w hb hk Q' hQ
        clear hk
        simp only [netAct, dstAt, List.getElem?_toArray, List.getElem?_cons_zero, List.getElem?_cons_succ, Option.bind_some, Act.put, List.setIfInBounds_toArray, List.set_cons_zero, List.set_cons_succ] at hQ ⊢
        go_wp2
        exact hQ (.pointer (some ⟨gf, 1, none⟩)) _ (Ck.refl _ _) rfl
      · intro x w hb hk Q' hQ
        have h0 : x.v 0 = .pointer (some ⟨gf, 1, none⟩) := (hk 0 (by decide)).1
        clear hk
        simp only [netAct, dstAt, List.getElem?_toArray, List.getElem?_cons_zero, List.getElem?_cons_succ, Option.bind_some, Act.put, List.setIfInBounds_toArray, List.set_cons_zero, List.set_cons_succ] at hQ ⊢
        simp only [h0] at hQ ⊢
        clear h0
        have z := (HG.out.1.ck hb hgc).cell' (i := 1) rfl
        go_wp2
        exact hQ (.slice A B.length a) _ (Ck.refl _ _) rfl
      · intro x w hb hk Q' hQ
        clear hk
        simp only [netAct, dstAt, List.getElem?_toArray, List.getElem?_cons_zero, List.getElem?_cons_succ, Option.bind_some, Act.put, List.setIfInBounds_toArray, List.set_cons_zero, List.set_cons_succ] at hQ ⊢
        go_wp2
        exact hQ (.pointer (some ⟨c, 0, none⟩)) _ (Ck.refl _ _) rfl
      · intro x w hb hk Q' hQ
        clear hk
        simp only [netAct, dstAt, List.getElem?_toArray, List.getElem?_cons_zero, List.getElem?_cons_succ, Option.bind_some, Act.put, List.setIfInBounds_toArray, List.set_cons_zero, List.set_cons_succ] at hQ ⊢
        go_wp2
        exact hQ (.pointer (some ⟨gf, 0, none⟩)) _ (Ck.refl _ _) rfl
      · intro x w hb hk Q' hQ
        have h3 : x.v 3 = .pointer (some ⟨gf, 0, none⟩) := (hk 3 (by decide)).1
        clear hk
        simp only [netAct, dstAt, List.getElem?_toArray, List.getElem?_cons_zero, List.getElem?_cons_succ, Option.bind_some, Act.put, List.setIfInBounds_toArray, List.set_cons_zero, List.set_cons_succ] at hQ ⊢
        simp only [h3] at hQ ⊢
        clear h3
        have z := (HG.out.1.ck hb hgc).cell' (i := 0) rfl
        go_wp2
        exact hQ (.int .i64 S) _ (Ck.refl _ _) rfl
      · intro x w hb hk Q' hQ
        have h2 : x.v 2 = .pointer (some ⟨c, 0, none⟩) := (hk 2 (by decide)).1
        have h3 : x.v 3 = .pointer (some ⟨gf, 0, none⟩) := (hk 3 (by decide)).1
        have h4 : x.v 4 = .int .i64 S := (hk 4 (by decide)).1
        clear hk
        simp only [netAct, dstAt, List.getElem?_toArray, List.getElem?_cons_zero, List.getElem?_cons_succ, Option.bind_some, Act.put, List.setIfInBounds_toArray, List.set_cons_zero, List.set_cons_succ] at hQ ⊢
        simp only [h2, h3, h4] at hQ ⊢
        clear h2 h3 h4
        go_wp2_with fail
        refine (l1Below_any c _ _ (hb.keep HC.out) ⟨by omega, by omega⟩).mono ?_; rintro e w7 ⟨i, hi, _, rfl, hb7⟩
        go_wp2
        exact hQ _ _ hb7 ⟨i, rfl, by omega⟩
      · intro x w hb hk Q' hQ
        have h2 : x.v 2 = .pointer (some ⟨c, 0, none⟩) := (hk 2 (by decide)).1
        have h3 : x.v 3 = .pointer (some ⟨gf, 0, none⟩) := (hk 3 (by decide)).1
        have h4 : x.v 4 = .int .i64 S := (hk 4 (by decide)).1
        have h5 : ∃ i : Nat, (x.v 5) = .int .i64 i ∧ (i : Int) < S := (hk 5 (by decide)).1
        have s5 := (hk 5 (by decide)).2
        clear hk
        simp only [netAct, dstAt, List.getElem?_toArray, List.getElem?_cons_zero, List.getElem?_cons_succ, Option.bind_some, Act.put, List.setIfInBounds_toArray, List.set_cons_zero, List.set_cons_succ] at hQ ⊢
        simp only [h2, h3, h4] at hQ ⊢
        clear h2 h3 h4
        obtain ⟨i, e, hi⟩ := h5
        have hcw : c < w.heap.size := (hb.keep HC.out).ltF
        rw [e] at hQ ⊢
        go_wp2
        exact hQ _ _ (Ck.of_below (below_alloc _ _)) ⟨_, _, rfl, Blk.new _ _ _, hi, hcw⟩
      · intro x w hb hk hiv hdj
        have h0 : x.v 0 = .pointer (some ⟨gf, 1, none⟩) := hk 0 (by decide)
        have h1 : x.v 1 = .slice A B.length a := hk 1 (by decide)
        have h2 : x.v 2 = .pointer (some ⟨c, 0, none⟩) := hk 2 (by decide)
        have h3 : x.v 3 = .pointer (some ⟨gf, 0, none⟩) := hk 3 (by decide)
        have h4 : x.v 4 = .int .i64 S := hk 4 (by decide)
        have h5 : ∃ i : Nat, (x.v 5) = .int .i64 i ∧ (i : Int) < S := hk 5 (by decide)
        have h6 : ∃ (g i : Nat), (x.v 6) = .slice (some ⟨g, 0, none⟩) 1 1 ∧ Blk w g 3 #[.int .i64 i] ∧ (i : Int) < S ∧ c < g := hk 6 (by decide)
        clear hk
        simp only [netAct, dstAt, List.getElem?_toArray, List.getElem?_cons_zero, List.getElem?_cons_succ, Option.bind_some, Act.put, List.setIfInBounds_toArray, List.set_cons_zero, List.set_cons_succ]
        simp only [List.drop_succ_cons, List.drop_zero, h0, h1, h2, h3, h4]
        clear h0 h1 h2 h3 h4
        obtain ⟨gn, i, e6, hN, hi, _⟩ := h6
        rw [e6]
        have hGw := HG.out.ck hb hgc hclo
        refine wpList_appI (by rfl) (.tmp 21) (.tmp 26) (by rfl) (gf + 1) w.heap.size _ B (by rfl) hGw.2.1 (some ⟨gn, 0, none⟩) 1 1 [(i : Int)] (by rfl) rfl (sl_oneF hN ⟨by omega, by omega⟩) (by have := HL.out; simp; omega) hGw.2.2 ?_
        intro v3 w4 ho4 hg4 _
        obtain ⟨A4, c4, rfl, _⟩ := ho4.form
        obtain ⟨nA4, hnA4⟩ : ∃ z, (B ++ [(i : Int)]).length = z := ⟨_, rfl⟩
        rw [hnA4] at ho4 ⊢
        obtain ⟨hB4, hG4, hb4⟩ := hGw.put ho4 hnA4.symm hg4
        have z1 := hB4.cell' (i := 1) rfl
        have fz := hB4.frozen
        obtain ⟨W5, hW5⟩ : ∃ z, w4.setCell ⟨gf, 1, none⟩ (.slice A4 nA4 c4) = z := ⟨_, rfl⟩
        rw [hW5] at hG4
        have hch : Chg gf (gf + 1) w4 W5 := by rw [← hW5]; exact chg_set (Nat.le_refl _) (Nat.lt_succ_self _)
        have hsb := hb.size
        have hs4' := hb4.size
        have hgw := hGw.2.2
        have hwr0 := HB.out.size
        have hlow : Below gf w W5 := (hb4.mono (by omega)).trans (hch.below (Nat.le_refl _) (by omega))
        have HB5 := Lib.hid ((HB.out.trans hb).lowF hlow (by omega) (by omega))
        have HC5 := Lib.hid ((hb.keep HC.out).belowF hlow (by omega))
        have HG5 := Lib.hid hG4
        have HL5 := Lib.hid (show (B ++ [(i : Int)]).length + (k - 1) = 1 + m by have := HL.out; simp; omega)
        have HX5 := Lib.hid (show ∀ x ∈ B ++ [(i : Int)], 0 ≤ x ∧ x < S from fun x hx => by
          rcases List.mem_append.1 hx with hx | hx
          · exact HX.out x hx
          · rw [List.mem_singleton.1 hx]; omega)
        clear hnA4 hB4 hG4 hb4 ho4 hg4 hch hlow hGw hN e6 hiv hdj hsb hs4' hgw hwr0
        go_wp2
        clear hW5 z1 fz
        go_roundw
        case rel => exact ⟨k - 1, c4, A4, _, by omega, by rw [show ((k - 1 : Nat) : Int) = (k : Int) - 1 by omega], HL5.out, HX5.out, HC5.out, HB5.out, HG5.out⟩
        case measure => simp [intOf]; omega
    · obtain rfl : k = 0 := by omega
      have hBl : B.length = 1 + m := by have := HL.out; omega
      have hN4 : 1 ≤ B.length ∧ B.length ≤ 4 := by omega
      obtain ⟨gA, rfl, hgA1, hgA2⟩ := HG.out.2.1.adrF (by omega)
      obtain ⟨ac, hac⟩ : ∃ n, n = a := ⟨_, rfl⟩
      subst hac
      obtain ⟨mid, hmid⟩ : ∃ n, n = wr.heap.size := ⟨_, rfl⟩
      obtain ⟨wq, hwq⟩ : ∃ z, z = wr := ⟨_, rfl⟩
      subst hwq
      have hsq := HB.out.size
      have h2 : G2 wq (gf + 1) mid gf S (some ⟨gA, 0, none⟩) ac B none 0 [] := ⟨HG.out.1, by rw [hmid]; exact IntsO.of_own HG.out.2.1, IntssO.nil _ _ _, by omega⟩
      have hlm : gf + 1 ≤ mid := by omega
      have hgAm : gA < mid := by omega
      clear hBl HL hmid
      go_wp2_with fail
      refine (l1Below_any c 6 _ HC.out ⟨by omega, by omega⟩).mono ?_; rintro e w5 ⟨m2, hm2, _, rfl, hb5⟩
      have hm25 : m2 ≤ 5 := by omega
      have hC5 := hb5.keep HC.out
      have hB5 := HB.out.trans hb5
      have hG5 := h2.ck hb5 hgc hclo hlm
      clear hb5 h2 HG HC HB hm2
      go_wp2
      go_loopw [5] (fun nv wr => ∃ (k d : Nat) (C : Option Addr) (E : List (List Int)), k ≤ 5 ∧ nv = .int .i64 k ∧ E.length + k ≤ 5 ∧ Cur wr c ∧ Ck c W wr ∧ G2 wr (gf + 1) mid gf S (some ⟨gA, 0, none⟩) ac B C d E) (fun nv _ => (intOf nv).toNat)
      case atStart => exact ⟨m2, 0, none, [], hm25, rfl, by simpa using hm25, hC5, hB5, hG5⟩
      case round =>
        clear hC5 hB5 hG5
        obtain ⟨k, d, C, E, hk, rfl, hEk, hC, hB, hG⟩ := hrel
        have HC := Lib.hid hC
        have HB := Lib.hid hB
        have HG := Lib.hid hG
        have HE := Lib.hid hEk
        clear hC hB hG hEk
        have q1 := HG.out.1.cell' (i := 1) rfl
        by_cases hgo : 0 < k ∧ 1 < B.length
        · obtain ⟨hk0, hN1⟩ := hgo
          go_wp2_with fail
          refine (l1Below_any c _ _ HC.out ⟨by omega, by omega⟩).mono ?_; rintro e w6 ⟨i1, hi1, _, rfl, hb6⟩
          have hi1l : i1 < B.length := by omega
          have HC6 := Lib.hid (hb6.keep HC.out)
          have HB6 := Lib.hid (HB.out.trans hb6)
          have HG6 := Lib.hid (HG.out.ck hb6 hgc hclo hlm)
          clear hb6 HC HB HG q1 hi1
          go_wp2
          refine wp_region_netK (c) (by kernel_rfl) [.eq (.int .i64 i1), .eq (.int .i64 ((i1 : Int) + 1)), .eq (.pointer (some ⟨c, 0, none⟩)), .eq (.pointer (some ⟨gf, 1, none⟩)), .eq (.slice (some ⟨gA, 0, none⟩) B.length ac), .eq (.int .i64 B.length), .eq (.int .i64 ((B.length : Int) - 1)), rel 7 (fun u lo hi w => ∃ i : Nat, u = .int .i64 i ∧ i ≤ 10), rel 8 (fun u lo hi w => ∃ i : Nat, u = .int .i64 i ∧ i ≤ 20), .eq (.pointer (some ⟨gf, 1, none⟩)), .eq (.slice (some ⟨gA, 0, none⟩) B.length ac), .eq (.int .i64 B.length), rel 12 (fun u lo hi w => ∃ i : Nat, u = .int .i64 i ∧ i < B.length)] [[], [0], [], [], [3], [3, 4], [3, 4, 5], [2, 3, 4, 5, 6], [0, 1, 2, 3, 4, 5, 6, 7], [], [9], [9, 10], [0, 1, 2, 3, 4, 5, 6, 7, 8, 9, 10, 11], [0, 1, 2, 3, 4, 5, 6, 7, 8, 9, 10, 11, 12]] 13 (by kernel_rfl) ⟨trivial, trivial, trivial, trivial, trivial, trivial, trivial, rel_stableK (fun u lo hi w w' h hb => h), rel_stableK (fun u lo hi w w' h hb => h), trivial, trivial, trivial, rel_stableK (fun u lo hi w w' h hb => h), trivial⟩ ⟨?_, ?_, ?_, ?_, ?_, ?_, ?_, ?_, ?_, ?_, ?_, ?_, ?_, trivial⟩ ?_
          · intro x w hb hk Q' hQ
            clear hk
            simp only [netAct, dstAt, List.getElem?_toArray, List.getElem?_cons_zero, List.getElem?_cons_succ, Option.bind_some, Act.put, List.setIfInBounds_toArray, List.set_cons_zero, List.set_cons_succ] at hQ ⊢
            go_wp2
            exact hQ (.int .i64 i1) _ (Ck.refl _ _) rfl
          · intro x w hb hk Q' hQ
            have h0 : x.v 0 = .int .i64 i1 := (hk 0 (by decide)).1
            clear hk
            simp only [netAct, dstAt, List.getElem?_toArray, List.getElem?_cons_zero, List.getElem?_cons_succ, Option.bind_some, Act.put, List.setIfInBounds_toArray, List.set_cons_zero, List.set_cons_succ] at hQ ⊢
            simp only [h0] at hQ ⊢
            clear h0
            go_wp2
            exact hQ (.int .i64 ((i1 : Int) + 1)) _ (Ck.refl _ _) rfl
          · intro x w hb hk Q' hQ
            clear hk
            simp only [netAct, dstAt, List.getElem?_toArray, List.getElem?_cons_zero, List.getElem?_cons_succ, Option.bind_some, Act.put, List.setIfInBounds_toArray, List.set_cons_zero, List.set_cons_succ] at hQ ⊢
            go_wp2
            exact hQ (.pointer (some ⟨c, 0, none⟩)) _ (Ck.refl _ _) rfl
          · intro x w hb hk Q' hQ
            clear hk
            simp only [netAct, dstAt, List.getElem?_toArray, List.getElem?_cons_zero, List.getElem?_cons_succ, Option.bind_some, Act.put, List.setIfInBounds_toArray, List.set_cons_zero, List.set_cons_succ] at hQ ⊢
            go_wp2
            exact hQ (.pointer (some ⟨gf, 1, none⟩)) _ (Ck.refl _ _) rfl
          · intro x w hb hk Q' hQ
            have h3 : x.v 3 = .pointer (some ⟨gf, 1, none⟩) := (hk 3 (by decide)).1
            clear hk
            simp only [netAct, dstAt, List.getElem?_toArray, List.getElem?_cons_zero, List.getElem?_cons_succ, Option.bind_some, Act.put, List.setIfInBounds_toArray, List.set_cons_zero, List.set_cons_succ] at hQ ⊢
            simp only [h3] at hQ ⊢
            clear h3
            have z := (HG6.out.1.ck hb hgc).cell' (i := 1) rfl
            go_wp2
            exact hQ (.slice (some ⟨gA, 0, none⟩) B.length ac) _ (Ck.refl _ _) rfl
          · intro x w hb hk Q' hQ
            have h4 : x.v 4 = .slice (some ⟨gA, 0, none⟩) B.length ac := (hk 4 (by decide)).1
            clear hk
            simp only [netAct, dstAt, List.getElem?_toArray, List.getElem?_cons_zero, List.getElem?_cons_succ, Option.bind_some, Act.put, List.setIfInBounds_toArray, List.set_cons_zero, List.set_cons_succ] at hQ ⊢
            simp only [h4] at hQ ⊢
            clear h4
            go_wp2
            exact hQ (.int .i64 B.length) _ (Ck.refl _ _) rfl
          · intro x w hb hk Q' hQ
            have h5 : x.v 5 = .int .i64 B.length := (hk 5 (by decide)).1
            clear hk
            simp only [netAct, dstAt, List.getElem?_toArray, List.getElem?_cons_zero, List.getElem?_cons_succ, Option.bind_some, Act.put, List.setIfInBounds_toArray, List.set_cons_zero, List.set_cons_succ] at hQ ⊢
            simp only [h5] at hQ ⊢
            clear h5
            go_wp2
            exact hQ (.int .i64 ((B.length : Int) - 1)) _ (Ck.refl _ _) rfl
          · intro x w hb hk Q' hQ
            have h2 : x.v 2 = .pointer (some ⟨c, 0, none⟩) := (hk 2 (by decide)).1
            have h3 : x.v 3 = .pointer (some ⟨gf, 1, none⟩) := (hk 3 (by decide)).1
            have h4 : x.v 4 = .slice (some ⟨gA, 0, none⟩) B.length ac := (hk 4 (by decide)).1
            have h5 : x.v 5 = .int .i64 B.length := (hk 5 (by decide)).1
            have h6 : x.v 6 = .int .i64 ((B.length : Int) - 1) := (hk 6 (by decide)).1
            clear hk
            simp only [netAct, dstAt, List.getElem?_toArray, List.getElem?_cons_zero, List.getElem?_cons_succ, Option.bind_some, Act.put, List.setIfInBounds_toArray, List.set_cons_zero, List.set_cons_succ] at hQ ⊢
            simp only [h2, h3, h4, h5, h6] at hQ ⊢
            clear h2 h3 h4 h5 h6
            go_wp2_with fail
            refine (l1Below_any c _ _ (hb.keep HC6.out) ⟨by omega, by omega⟩).mono ?_; rintro e w7 ⟨i, hi, _, rfl, hb7⟩
            go_wp2
            exact hQ _ _ hb7 ⟨i, rfl, by omega⟩
          · intro x w hb hk Q' hQ
            have h0 : x.v 0 = .int .i64 i1 := (hk 0 (by decide)).1
            have h1 : x.v 1 = .int .i64 ((i1 : Int) + 1) := (hk 1 (by decide)).1
            have h2 : x.v 2 = .pointer (some ⟨c, 0, none⟩) := (hk 2 (by decide)).1
            have h3 : x.v 3 = .pointer (some ⟨gf, 1, none⟩) := (hk 3 (by decide)).1
            have h4 : x.v 4 = .slice (some ⟨gA, 0, none⟩) B.length ac := (hk 4 (by decide)).1
            have h5 : x.v 5 = .int .i64 B.length := (hk 5 (by decide)).1
            have h6 : x.v 6 = .int .i64 ((B.length : Int) - 1) := (hk 6 (by decide)).1
            have h7 : ∃ i : Nat, (x.v 7) = .int .i64 i ∧ i ≤ 10 := (hk 7 (by decide)).1
            have s7 := (hk 7 (by decide)).2
            clear hk
            simp only [netAct, dstAt, List.getElem?_toArray, List.getElem?_cons_zero, List.getElem?_cons_succ, Option.bind_some, Act.put, List.setIfInBounds_toArray, List.set_cons_zero, List.set_cons_succ] at hQ ⊢
            simp only [h0, h1, h2, h3, h4, h5, h6] at hQ ⊢
            clear h0 h1 h2 h3 h4 h5 h6
            obtain ⟨i, e, hi⟩ := h7
            have hQ' := hQ (.int .i64 ((i1 : Int) + 1 + i)) w (Ck.refl _ _) ⟨i1 + 1 + i, by push_cast; rfl, by omega⟩
            rw [e] at hQ' ⊢
            go_wp2
            exact hQ'
          · intro x w hb hk Q' hQ
            clear hk
            simp only [netAct, dstAt, List.getElem?_toArray, List.getElem?_cons_zero, List.getElem?_cons_succ, Option.bind_some, Act.put, List.setIfInBounds_toArray, List.set_cons_zero, List.set_cons_succ] at hQ ⊢
            go_wp2
            exact hQ (.pointer (some ⟨gf, 1, none⟩)) _ (Ck.refl _ _) rfl
          · intro x w hb hk Q' hQ
            have h9 : x.v 9 = .pointer (some ⟨gf, 1, none⟩) := (hk 9 (by decide)).1
            clear hk
            simp only [netAct, dstAt, List.getElem?_toArray, List.getElem?_cons_zero, List.getElem?_cons_succ, Option.bind_some, Act.put, List.setIfInBounds_toArray, List.set_cons_zero, List.set_cons_succ] at hQ ⊢
            simp only [h9] at hQ ⊢
            clear h9
            have z := (HG6.out.1.ck hb hgc).cell' (i := 1) rfl
            go_wp2
            exact hQ (.slice (some ⟨gA, 0, none⟩) B.length ac) _ (Ck.refl _ _) rfl
          · intro x w hb hk Q' hQ
            have h10 : x.v 10 = .slice (some ⟨gA, 0, none⟩) B.length ac := (hk 10 (by decide)).1
            clear hk
            simp only [netAct, dstAt, List.getElem?_toArray, List.getElem?_cons_zero, List.getElem?_cons_succ, Option.bind_some, Act.put, List.setIfInBounds_toArray, List.set_cons_zero, List.set_cons_succ] at hQ ⊢
            simp only [h10] at hQ ⊢
            clear h10
            go_wp2
            exact hQ (.int .i64 B.length) _ (Ck.refl _ _) rfl
          · intro x w hb hk Q' hQ
            have h0 : x.v 0 = .int .i64 i1 := (hk 0 (by decide)).1
            have h1 : x.v 1 = .int .i64 ((i1 : Int) + 1) := (hk 1 (by decide)).1
            have h2 : x.v 2 = .pointer (some ⟨c, 0, none⟩) := (hk 2 (by decide)).1
            have h3 : x.v 3 = .pointer (some ⟨gf, 1, none⟩) := (hk 3 (by decide)).1
            have h4 : x.v 4 = .slice (some ⟨gA, 0, none⟩) B.length ac := (hk 4 (by decide)).1
            have h5 : x.v 5 = .int .i64 B.length := (hk 5 (by decide)).1
            have h6 : x.v 6 = .int .i64 ((B.length : Int) - 1) := (hk 6 (by decide)).1
            have h7 : ∃ i : Nat, (x.v 7) = .int .i64 i ∧ i ≤ 10 := (hk 7 (by decide)).1
            have h8 : ∃ i : Nat, (x.v 8) = .int .i64 i ∧ i ≤ 20 := (hk 8 (by decide)).1
            have h9 : x.v 9 = .pointer (some ⟨gf, 1, none⟩) := (hk 9 (by decide)).1
            have h10 : x.v 10 = .slice (some ⟨gA, 0, none⟩) B.length ac := (hk 10 (by decide)).1
            have h11 : x.v 11 = .int .i64 B.length := (hk 11 (by decide)).1
            have s7 := (hk 7 (by decide)).2
            have s8 := (hk 8 (by decide)).2
            clear hk
            simp only [netAct, dstAt, List.getElem?_toArray, List.getElem?_cons_zero, List.getElem?_cons_succ, Option.bind_some, Act.put, List.setIfInBounds_toArray, List.set_cons_zero, List.set_cons_succ] at hQ ⊢
            simp only [h0, h1, h2, h3, h4, h5, h6, h9, h10, h11] at hQ ⊢
            clear h0 h1 h2 h3 h4 h5 h6 h9 h10 h11
            obtain ⟨i, e, hi⟩ := h8
            have hm1 : (i : Int).tmod (B.length : Int) = ((i % B.length : Nat) : Int) := by rw [Int.tmod_eq_emod_of_nonneg (by omega)]; rfl
            have hm2 : (i : Int) % (B.length : Int) = ((i % B.length : Nat) : Int) := rfl
            have hQ1 := hQ (.int .i64 ((i : Int).tmod (B.length : Int))) w (Ck.refl _ _) ⟨i % B.length, congrArg (Value.int .i64) hm1, Nat.mod_lt _ (by omega)⟩
            have hQ2 := hQ (.int .i64 ((i : Int) % (B.length : Int))) w (Ck.refl _ _) ⟨i % B.length, congrArg (Value.int .i64) hm2, Nat.mod_lt _ (by omega)⟩
            clear hm1 hm2 hQ
            rw [e] at hQ1 hQ2 ⊢
            go_wp2
            first | exact hQ1 | exact hQ2
          · intro x w hb hk hiv hdj
            have h0 : x.v 0 = .int .i64 i1 := hk 0 (by decide)
            have h1 : x.v 1 = .int .i64 ((i1 : Int) + 1) := hk 1 (by decide)
            have h2 : x.v 2 = .pointer (some ⟨c, 0, none⟩) := hk 2 (by decide)
            have h3 : x.v 3 = .pointer (some ⟨gf, 1, none⟩) := hk 3 (by decide)
            have h4 : x.v 4 = .slice (some ⟨gA, 0, none⟩) B.length ac := hk 4 (by decide)
            have h5 : x.v 5 = .int .i64 B.length := hk 5 (by decide)
            have h6 : x.v 6 = .int .i64 ((B.length : Int) - 1) := hk 6 (by decide)
            have h7 : ∃ i : Nat, (x.v 7) = .int .i64 i ∧ i ≤ 10 := hk 7 (by decide)
            have h8 : ∃ i : Nat, (x.v 8) = .int .i64 i ∧ i ≤ 20 := hk 8 (by decide)
            have h9 : x.v 9 = .pointer (some ⟨gf, 1, none⟩) := hk 9 (by decide)
            have h10 : x.v 10 = .slice (some ⟨gA, 0, none⟩) B.length ac := hk 10 (by decide)
            have h11 : x.v 11 = .int .i64 B.length := hk 11 (by decide)
            have h12 : ∃ i : Nat, (x.v 12) = .int .i64 i ∧ i < B.length := hk 12 (by decide)
            clear hk
            simp only [netAct, dstAt, List.getElem?_toArray, List.getElem?_cons_zero, List.getElem?_cons_succ, Option.bind_some, Act.put, List.setIfInBounds_toArray, List.set_cons_zero, List.set_cons_succ]
            simp only [List.drop_succ_cons, List.drop_zero, h0, h1, h2, h3, h4, h5, h6, h9, h10, h11]
            clear h0 h1 h2 h3 h4 h5 h6 h9 h10 h11
            obtain ⟨j, e12, hj⟩ := h12
            rw [e12]
            have HC7 := Lib.hid (hb.keep HC6.out)
            have HB7 := Lib.hid (HB6.out.trans hb)
            have HG7 := Lib.hid (HG6.out.ck hb hgc hclo hlm)
            obtain ⟨w7, hw7⟩ : ∃ z, z = w := ⟨_, rfl⟩
            subst hw7
            clear e12 hb hiv hdj HC6 HB6 HG6 h7 h8
            have ex1 : B.getD i1 0 = B[i1]'hi1l := by rw [List.getD_eq_getElem?_getD, List.getElem?_eq_getElem hi1l]; rfl
            have ex2 : B.getD j 0 = B[j]'hj := by rw [List.getD_eq_getElem?_getD, List.getElem?_eq_getElem hj]; rfl
            obtain ⟨x1, hx1⟩ : ∃ z, B.getD i1 0 = z := ⟨_, rfl⟩
            obtain ⟨x2, hx2⟩ : ∃ z, B.getD j 0 = z := ⟨_, rfl⟩
            have bx1 := HX.out x1 (by rw [← hx1, ex1]; exact List.getElem_mem hi1l)
            have bx2 := HX.out x2 (by rw [← hx2, ex2]; exact List.getElem_mem hj)
            have cx1 := (HG7.out.2.1.1.cellG (j := i1) hi1l).1
            have cx2 := (HG7.out.2.1.1.cellG (j := j) hj).1
            rw [hx1] at cx1
            rw [hx2] at cx2
            have CX1 := Lib.hid cx1
            have CX2 := Lib.hid cx2
            have hgAw : gA < w7.heap.size := by have := HG7.out.2.2.2; omega
            have hgAc : gA ≠ c := by omega
            clear ex1 ex2 hx1 hx2 cx1 cx2
            go_wp2
            refine wp_region_netK (c) (by kernel_rfl) [.eq (.pointer (some ⟨gf, 1, none⟩)), .eq (.slice (some ⟨gA, 0, none⟩) B.length ac), .eq (.int .i64 i1), .eq (.pointer (some ⟨gA, i1, none⟩)), .eq (.int .i64 x1), .eq (.pointer (some ⟨gf, 1, none⟩)), .eq (.slice (some ⟨gA, 0, none⟩) B.length ac), .eq (.int .i64 j), .eq (.pointer (some ⟨gA, j, none⟩)), .eq (.int .i64 x2), rel 10 (fun u lo hi w => ∃ i : Int, u = .int .i64 i ∧ 0 ≤ i ∧ i < S)] [[], [0], [], [0, 1, 2], [0, 1, 2, 3], [], [5], [], [5, 6, 7], [5, 6, 7, 8], [0, 1, 2, 3, 4, 5, 6, 7, 8, 9], [0, 1, 2, 3, 4, 5, 6, 7, 8, 9, 10]] 11 (by kernel_rfl) ⟨trivial, trivial, trivial, trivial, trivial, trivial, trivial, trivial, trivial, trivial, rel_stableK (fun u lo hi w w' h hb => h), trivial⟩ ⟨?_, ?_, ?_, ?_, ?_, ?_, ?_, ?_, ?_, ?_, ?_, trivial⟩ ?_
            · intro x w hb hk Q' hQ
              clear hk
              simp only [netAct, dstAt, List.getElem?_toArray, List.getElem?_cons_zero, List.getElem?_cons_succ, Option.bind_some, Act.put, List.setIfInBounds_toArray, List.set_cons_zero, List.set_cons_succ] at hQ ⊢
              go_wp2
              exact hQ (.pointer (some ⟨gf, 1, none⟩)) _ (Ck.refl _ _) rfl
            · intro x w hb hk Q' hQ
              have h0 : x.v 0 = .pointer (some ⟨gf, 1, none⟩) := (hk 0 (by decide)).1
              clear hk
              simp only [netAct, dstAt, List.getElem?_toArray, List.getElem?_cons_zero, List.getElem?_cons_succ, Option.bind_some, Act.put, List.setIfInBounds_toArray, List.set_cons_zero, List.set_cons_succ] at hQ ⊢
              simp only [h0] at hQ ⊢
              clear h0
              have z := (HG7.out.1.ck hb hgc).cell' (i := 1) rfl
              go_wp2
              exact hQ (.slice (some ⟨gA, 0, none⟩) B.length ac) _ (Ck.refl _ _) rfl
            · intro x w hb hk Q' hQ
              clear hk
              simp only [netAct, dstAt, List.getElem?_toArray, List.getElem?_cons_zero, List.getElem?_cons_succ, Option.bind_some, Act.put, List.setIfInBounds_toArray, List.set_cons_zero, List.set_cons_succ] at hQ ⊢
              go_wp2
              exact hQ (.int .i64 i1) _ (Ck.refl _ _) rfl
            · intro x w hb hk Q' hQ
              have h1 : x.v 1 = .slice (some ⟨gA, 0, none⟩) B.length ac := (hk 1 (by decide)).1
              have h2 : x.v 2 = .int .i64 i1 := (hk 2 (by decide)).1
              clear hk
              simp only [netAct, dstAt, List.getElem?_toArray, List.getElem?_cons_zero, List.getElem?_cons_succ, Option.bind_some, Act.put, List.setIfInBounds_toArray, List.set_cons_zero, List.set_cons_succ] at hQ ⊢
              simp only [h1, h2] at hQ ⊢
              clear h1 h2
              go_wp2
              exact hQ (.pointer (some ⟨gA, i1, none⟩)) _ (Ck.refl _ _) rfl
            · intro x w hb hk Q' hQ
              have h3 : x.v 3 = .pointer (some ⟨gA, i1, none⟩) := (hk 3 (by decide)).1
              clear hk
              simp only [netAct, dstAt, List.getElem?_toArray, List.getElem?_cons_zero, List.getElem?_cons_succ, Option.bind_some, Act.put, List.setIfInBounds_toArray, List.set_cons_zero, List.set_cons_succ] at hQ ⊢
              simp only [h3] at hQ ⊢
              clear h3
              have z := hb.cell hgAw hgAc CX1.out
              go_wp2
              exact hQ (.int .i64 x1) _ (Ck.refl _ _) rfl
            · intro x w hb hk Q' hQ
              clear hk
              simp only [netAct, dstAt, List.getElem?_toArray, List.getElem?_cons_zero, List.getElem?_cons_succ, Option.bind_some, Act.put, List.setIfInBounds_toArray, List.set_cons_zero, List.set_cons_succ] at hQ ⊢
              go_wp2
              exact hQ (.pointer (some ⟨gf, 1, none⟩)) _ (Ck.refl _ _) rfl
            · intro x w hb hk Q' hQ
              have h5 : x.v 5 = .pointer (some ⟨gf, 1, none⟩) := (hk 5 (by decide)).1
              clear hk
              simp only [netAct, dstAt, List.getElem?_toArray, List.getElem?_cons_zero, List.getElem?_cons_succ, Option.bind_some, Act.put, List.setIfInBounds_toArray, List.set_cons_zero, List.set_cons_succ] at hQ ⊢
              simp only [h5] at hQ ⊢
              clear h5
              have z := (HG7.out.1.ck hb hgc).cell' (i := 1) rfl
              go_wp2
              exact hQ (.slice (some ⟨gA, 0, none⟩) B.length ac) _ (Ck.refl _ _) rfl
            · intro x w hb hk Q' hQ
              clear hk
              simp only [netAct, dstAt, List.getElem?_toArray, List.getElem?_cons_zero, List.getElem?_cons_succ, Option.bind_some, Act.put, List.setIfInBounds_toArray, List.set_cons_zero, List.set_cons_succ] at hQ ⊢
              go_wp2
              exact hQ (.int .i64 j) _ (Ck.refl _ _) rfl
            · intro x w hb hk Q' hQ
              have h6 : x.v 6 = .slice (some ⟨gA, 0, none⟩) B.length ac := (hk 6 (by decide)).1
              have h7 : x.v 7 = .int .i64 j := (hk 7 (by decide)).1
              clear hk
              simp only [netAct, dstAt, List.getElem?_toArray, List.getElem?_cons_zero, List.getElem?_cons_succ, Option.bind_some, Act.put, List.setIfInBounds_toArray, List.set_cons_zero, List.set_cons_succ] at hQ ⊢
              simp only [h6, h7] at hQ ⊢
              clear h6 h7
              go_wp2
              exact hQ (.pointer (some ⟨gA, j, none⟩)) _ (Ck.refl _ _) rfl
            · intro x w hb hk Q' hQ
              have h8 : x.v 8 = .pointer (some ⟨gA, j, none⟩) := (hk 8 (by decide)).1
              clear hk
              simp only [netAct, dstAt, List.getElem?_toArray, List.getElem?_cons_zero, List.getElem?_cons_succ, Option.bind_some, Act.put, List.setIfInBounds_toArray, List.set_cons_zero, List.set_cons_succ] at hQ ⊢
              simp only [h8] at hQ ⊢
              clear h8
              have z := hb.cell hgAw hgAc CX2.out
              go_wp2
              exact hQ (.int .i64 x2) _ (Ck.refl _ _) rfl
            · intro x w hb hk Q' hQ
              have h0 : x.v 0 = .pointer (some ⟨gf, 1, none⟩) := (hk 0 (by decide)).1
              have h1 : x.v 1 = .slice (some ⟨gA, 0, none⟩) B.length ac := (hk 1 (by decide)).1
              have h2 : x.v 2 = .int .i64 i1 := (hk 2 (by decide)).1
              have h3 : x.v 3 = .pointer (some ⟨gA, i1, none⟩) := (hk 3 (by decide)).1
              have h4 : x.v 4 = .int .i64 x1 := (hk 4 (by decide)).1
              have h5 : x.v 5 = .pointer (some ⟨gf, 1, none⟩) := (hk 5 (by decide)).1
              have h6 : x.v 6 = .slice (some ⟨gA, 0, none⟩) B.length ac := (hk 6 (by decide)).1
              have h7 : x.v 7 = .int .i64 j := (hk 7 (by decide)).1
              have h8 : x.v 8 = .pointer (some ⟨gA, j, none⟩) := (hk 8 (by decide)).1
              have h9 : x.v 9 = .int .i64 x2 := (hk 9 (by decide)).1
              clear hk
              simp only [netAct, dstAt, List.getElem?_toArray, List.getElem?_cons_zero, List.getElem?_cons_succ, Option.bind_some, Act.put, List.setIfInBounds_toArray, List.set_cons_zero, List.set_cons_succ] at hQ ⊢
              simp only [h0, h1, h2, h3, h4, h5, h6, h7, h8, h9] at hQ ⊢
              clear h0 h1 h2 h3 h4 h5 h6 h7 h8 h9
              go_wp2
              refine hQ _ _ (Ck.refl _ _) ⟨_, rfl, ?_, ?_⟩ <;> omega
            · intro x w hb hk hiv hdj
              have h0 : x.v 0 = .pointer (some ⟨gf, 1, none⟩) := hk 0 (by decide)
              have h1 : x.v 1 = .slice (some ⟨gA, 0, none⟩) B.length ac := hk 1 (by decide)
              have h2 : x.v 2 = .int .i64 i1 := hk 2 (by decide)
              have h3 : x.v 3 = .pointer (some ⟨gA, i1, none⟩) := hk 3 (by decide)
              have h4 : x.v 4 = .int .i64 x1 := hk 4 (by decide)
              have h5 : x.v 5 = .pointer (some ⟨gf, 1, none⟩) := hk 5 (by decide)
              have h6 : x.v 6 = .slice (some ⟨gA, 0, none⟩) B.length ac := hk 6 (by decide)
              have h7 : x.v 7 = .int .i64 j := hk 7 (by decide)
              have h8 : x.v 8 = .pointer (some ⟨gA, j, none⟩) := hk 8 (by decide)
              have h9 : x.v 9 = .int .i64 x2 := hk 9 (by decide)
              have h10 : ∃ i : Int, (x.v 10) = .int .i64 i ∧ 0 ≤ i ∧ i < S := hk 10 (by decide)
              clear hk
              simp only [netAct, dstAt, List.getElem?_toArray, List.getElem?_cons_zero, List.getElem?_cons_succ, Option.bind_some, Act.put, List.setIfInBounds_toArray, List.set_cons_zero, List.set_cons_succ]
              simp only [List.drop_succ_cons, List.drop_zero, h0, h1, h2, h3, h4, h5, h6, h7, h8, h9]
              clear h0 h1 h2 h3 h4 h5 h6 h7 h8 h9
              obtain ⟨t, e10, ht0, htS⟩ := h10
              rw [e10]
              have HC8 := Lib.hid (hb.keep HC7.out)
              have HB8 := Lib.hid (HB7.out.trans hb)
              have HG8 := Lib.hid (HG7.out.ck hb hgc hclo hlm)
              obtain ⟨w8, hw8⟩ : ∃ z, z = w := ⟨_, rfl⟩
              subst hw8
              clear e10 hb hiv hdj HC7 HB7 HG7 CX1 CX2
              have hcw8 := HC8.out.ltF
              go_wp2
              refine wp_region_netK (c) (by kernel_rfl) [.eq (.pointer (some ⟨gf, 2, none⟩)), .eq (.slice C E.length d), .eq (.int .i64 i1), .eq (.int .i64 j), .eq (.int .i64 t), .eq (.pointer (some ⟨c, 0, none⟩)), .eq (.pointer (some ⟨gf, 0, none⟩)), .eq (.int .i64 S), .eq (.int .i64 t), .eq (.int .i64 (S - t)), rel 10 (fun u lo hi w => ∃ i : Nat, u = .int .i64 i ∧ i ≤ 10), rel 11 (fun u lo hi w => ∃ i : Int, u = .int .i64 i ∧ 0 ≤ i ∧ i ≤ 20), rel 12 (fun u lo hi w => ∃ (g : Nat) (i : Int), u = .slice (some ⟨g, 0, none⟩) 3 3 ∧ Blk w g 3 #[.int .i64 i1, .int .i64 j, .int .i64 i] ∧ I64 i ∧ w8.heap.size ≤ g), rel 13 (fun u lo hi w => ∃ (g2 g : Nat) (i : Int), u = .slice (some ⟨g2, 0, none⟩) 1 1 ∧ Blk w g2 24 #[.slice (some ⟨g, 0, none⟩) 3 3] ∧ Blk w g 3 #[.int .i64 i1, .int .i64 j, .int .i64 i] ∧ I64 i ∧ w8.heap.size ≤ g ∧ w8.heap.size ≤ g2)] [[], [0], [], [], [], [], [], [6], [], [6, 7, 8], [5, 6, 7, 8, 9], [4, 5, 6, 7, 8, 9, 10], [2, 3, 4, 5, 6, 7, 8, 9, 10, 11], [2, 3, 4, 5, 6, 7, 8, 9, 10, 11, 12], [0, 1, 2, 3, 4, 5, 6, 7, 8, 9, 10, 11, 12, 13], [0, 1, 2, 3, 4, 5, 6, 7, 8, 9, 10, 11, 12, 13, 14], [0, 1, 2, 3, 4, 5, 6, 7, 8, 9, 10, 11, 12, 13, 14, 15]] 14 (by kernel_rfl) ⟨trivial, trivial, trivial, trivial, trivial, trivial, trivial, trivial, trivial, trivial, rel_stableK (fun u lo hi w w' h hb => h), rel_stableK (fun u lo hi w w' h hb => h), rel_stableK (fun u lo hi w w' ⟨g, i, e, h, h2, h3⟩ hb => ⟨g, i, e, h.ck hb (by omega), h2, h3⟩), rel_stableK (fun u lo hi w w' ⟨g2, g, i, e, h, h1, h2, h3, h4⟩ hb => ⟨g2, g, i, e, h.ck hb (by omega), h1.ck hb (by omega), h2, h3, h4⟩), trivial⟩ ⟨?_, ?_, ?_, ?_, ?_, ?_, ?_, ?_, ?_, ?_, ?_, ?_, ?_, ?_, trivial⟩ ?_
              · intro x w hb hk Q' hQ
                clear hk
                simp only [netAct, dstAt, List.getElem?_toArray, List.getElem?_cons_zero, List.getElem?_cons_succ, Option.bind_some, Act.put, List.setIfInBounds_toArray, List.set_cons_zero, List.set_cons_succ] at hQ ⊢
                go_wp2
                exact hQ (.pointer (some ⟨gf, 2, none⟩)) _ (Ck.refl _ _) rfl
              · intro x w hb hk Q' hQ
                have h0 : x.v 0 = .pointer (some ⟨gf, 2, none⟩) := (hk 0 (by decide)).1
                clear hk
                simp only [netAct, dstAt, List.getElem?_toArray, List.getElem?_cons_zero, List.getElem?_cons_succ, Option.bind_some, Act.put, List.setIfInBounds_toArray, List.set_cons_zero, List.set_cons_succ] at hQ ⊢
                simp only [h0] at hQ ⊢
                clear h0
                have z := (HG8.out.1.ck hb hgc).cell' (i := 2) rfl
                go_wp2
                exact hQ (.slice C E.length d) _ (Ck.refl _ _) rfl
              · intro x w hb hk Q' hQ
                clear hk
                simp only [netAct, dstAt, List.getElem?_toArray, List.getElem?_cons_zero, List.getElem?_cons_succ, Option.bind_some, Act.put, List.setIfInBounds_toArray, List.set_cons_zero, List.set_cons_succ] at hQ ⊢
                go_wp2
                exact hQ (.int .i64 i1) _ (Ck.refl _ _) rfl
              · intro x w hb hk Q' hQ
                clear hk
                simp only [netAct, dstAt, List.getElem?_toArray, List.getElem?_cons_zero, List.getElem?_cons_succ, Option.bind_some, Act.put, List.setIfInBounds_toArray, List.set_cons_zero, List.set_cons_succ] at hQ ⊢
                go_wp2
                exact hQ (.int .i64 j) _ (Ck.refl _ _) rfl
              · intro x w hb hk Q' hQ
                clear hk
                simp only [netAct, dstAt, List.getElem?_toArray, List.getElem?_cons_zero, List.getElem?_cons_succ, Option.bind_some, Act.put, List.setIfInBounds_toArray, List.set_cons_zero, List.set_cons_succ] at hQ ⊢
                go_wp2
                exact hQ (.int .i64 t) _ (Ck.refl _ _) rfl
              · intro x w hb hk Q' hQ
                clear hk
                simp only [netAct, dstAt, List.getElem?_toArray, List.getElem?_cons_zero, List.getElem?_cons_succ, Option.bind_some, Act.put, List.setIfInBounds_toArray, List.set_cons_zero, List.set_cons_succ] at hQ ⊢
                go_wp2
                exact hQ (.pointer (some ⟨c, 0, none⟩)) _ (Ck.refl _ _) rfl
              · intro x w hb hk Q' hQ
                clear hk
                simp only [netAct, dstAt, List.getElem?_toArray, List.getElem?_cons_zero, List.getElem?_cons_succ, Option.bind_some, Act.put, List.setIfInBounds_toArray, List.set_cons_zero, List.set_cons_succ] at hQ ⊢
                go_wp2
                exact hQ (.pointer (some ⟨gf, 0, none⟩)) _ (Ck.refl _ _) rfl
              · intro x w hb hk Q' hQ
                have h6 : x.v 6 = .pointer (some ⟨gf, 0, none⟩) := (hk 6 (by decide)).1
                clear hk
                simp only [netAct, dstAt, List.getElem?_toArray, List.getElem?_cons_zero, List.getElem?_cons_succ, Option.bind_some, Act.put, List.setIfInBounds_toArray, List.set_cons_zero, List.set_cons_succ] at hQ ⊢
                simp only [h6] at hQ ⊢
                clear h6
                have z := (HG8.out.1.ck hb hgc).cell' (i := 0) rfl
                go_wp2
                exact hQ (.int .i64 S) _ (Ck.refl _ _) rfl
              · intro x w hb hk Q' hQ
                clear hk
                simp only [netAct, dstAt, List.getElem?_toArray, List.getElem?_cons_zero, List.getElem?_cons_succ, Option.bind_some, Act.put, List.setIfInBounds_toArray, List.set_cons_zero, List.set_cons_succ] at hQ ⊢
                go_wp2
                exact hQ (.int .i64 t) _ (Ck.refl _ _) rfl
              · intro x w hb hk Q' hQ
                have h7 : x.v 7 = .int .i64 S := (hk 7 (by decide)).1
                have h8 : x.v 8 = .int .i64 t := (hk 8 (by decide)).1
                clear hk
                simp only [netAct, dstAt, List.getElem?_toArray, List.getElem?_cons_zero, List.getElem?_cons_succ, Option.bind_some, Act.put, List.setIfInBounds_toArray, List.set_cons_zero, List.set_cons_succ] at hQ ⊢
                simp only [h7, h8] at hQ ⊢
                clear h7 h8
                go_wp2
                exact hQ (.int .i64 (S - t)) _ (Ck.refl _ _) rfl
              · intro x w hb hk Q' hQ
                have h5 : x.v 5 = .pointer (some ⟨c, 0, none⟩) := (hk 5 (by decide)).1
                have h6 : x.v 6 = .pointer (some ⟨gf, 0, none⟩) := (hk 6 (by decide)).1
                have h7 : x.v 7 = .int .i64 S := (hk 7 (by decide)).1
                have h8 : x.v 8 = .int .i64 t := (hk 8 (by decide)).1
                have h9 : x.v 9 = .int .i64 (S - t) := (hk 9 (by decide)).1
                clear hk
                simp only [netAct, dstAt, List.getElem?_toArray, List.getElem?_cons_zero, List.getElem?_cons_succ, Option.bind_some, Act.put, List.setIfInBounds_toArray, List.set_cons_zero, List.set_cons_succ] at hQ ⊢
                simp only [h5, h6, h7, h8, h9] at hQ ⊢
                clear h5 h6 h7 h8 h9
                go_wp2_with fail
                refine (l1Below_any c _ _ (hb.keep HC8.out) ⟨by omega, by omega⟩).mono ?_; rintro e w9 ⟨i, hi, _, rfl, hb9⟩
                go_wp2
                exact hQ _ _ hb9 ⟨i, rfl, by omega⟩
              · intro x w hb hk Q' hQ
                have h4 : x.v 4 = .int .i64 t := (hk 4 (by decide)).1
                have h5 : x.v 5 = .pointer (some ⟨c, 0, none⟩) := (hk 5 (by decide)).1
                have h6 : x.v 6 = .pointer (some ⟨gf, 0, none⟩) := (hk 6 (by decide)).1
                have h7 : x.v 7 = .int .i64 S := (hk 7 (by decide)).1
                have h8 : x.v 8 = .int .i64 t := (hk 8 (by decide)).1
                have h9 : x.v 9 = .int .i64 (S - t) := (hk 9 (by decide)).1
                have h10 : ∃ i : Nat, (x.v 10) = .int .i64 i ∧ i ≤ 10 := (hk 10 (by decide)).1
                have s10 := (hk 10 (by decide)).2
                clear hk
                simp only [netAct, dstAt, List.getElem?_toArray, List.getElem?_cons_zero, List.getElem?_cons_succ, Option.bind_some, Act.put, List.setIfInBounds_toArray, List.set_cons_zero, List.set_cons_succ] at hQ ⊢
                simp only [h4, h5, h6, h7, h8, h9] at hQ ⊢
                clear h4 h5 h6 h7 h8 h9
                obtain ⟨i, e, hi⟩ := h10
                have hQ' := hQ (.int .i64 (t + i)) w (Ck.refl _ _) ⟨_, rfl, by omega, by omega⟩
                rw [e] at hQ' ⊢
                go_wp2
                exact hQ'
              · intro x w hb hk Q' hQ
                have h2 : x.v 2 = .int .i64 i1 := (hk 2 (by decide)).1
                have h3 : x.v 3 = .int .i64 j := (hk 3 (by decide)).1
                have h4 : x.v 4 = .int .i64 t := (hk 4 (by decide)).1
                have h5 : x.v 5 = .pointer (some ⟨c, 0, none⟩) := (hk 5 (by decide)).1
                have h6 : x.v 6 = .pointer (some ⟨gf, 0, none⟩) := (hk 6 (by decide)).1
                have h7 : x.v 7 = .int .i64 S := (hk 7 (by decide)).1
                have h8 : x.v 8 = .int .i64 t := (hk 8 (by decide)).1
                have h9 : x.v 9 = .int .i64 (S - t) := (hk 9 (by decide)).1
                have h10 : ∃ i : Nat, (x.v 10) = .int .i64 i ∧ i ≤ 10 := (hk 10 (by decide)).1
                have h11 : ∃ i : Int, (x.v 11) = .int .i64 i ∧ 0 ≤ i ∧ i ≤ 20 := (hk 11 (by decide)).1
                have s10 := (hk 10 (by decide)).2
                have s11 := (hk 11 (by decide)).2
                clear hk
                simp only [netAct, dstAt, List.getElem?_toArray, List.getElem?_cons_zero, List.getElem?_cons_succ, Option.bind_some, Act.put, List.setIfInBounds_toArray, List.set_cons_zero, List.set_cons_succ] at hQ ⊢
                simp only [h2, h3, h4, h5, h6, h7, h8, h9] at hQ ⊢
                clear h2 h3 h4 h5 h6 h7 h8 h9
                obtain ⟨i, e, hi⟩ := h11
                have hsw := hb.size
                rw [e] at hQ ⊢
                go_wp2
                exact hQ _ _ (Ck.of_below (below_alloc _ _)) ⟨_, _, rfl, Blk.new _ _ _, ⟨by omega, by omega⟩, hsw⟩
              · intro x w hb hk Q' hQ
                have h2 : x.v 2 = .int .i64 i1 := (hk 2 (by decide)).1
                have h3 : x.v 3 = .int .i64 j := (hk 3 (by decide)).1
                have h4 : x.v 4 = .int .i64 t := (hk 4 (by decide)).1
                have h5 : x.v 5 = .pointer (some ⟨c, 0, none⟩) := (hk 5 (by decide)).1
                have h6 : x.v 6 = .pointer (some ⟨gf, 0, none⟩) := (hk 6 (by decide)).1
                have h7 : x.v 7 = .int .i64 S := (hk 7 (by decide)).1
                have h8 : x.v 8 = .int .i64 t := (hk 8 (by decide)).1
                have h9 : x.v 9 = .int .i64 (S - t) := (hk 9 (by decide)).1
                have h10 : ∃ i : Nat, (x.v 10) = .int .i64 i ∧ i ≤ 10 := (hk 10 (by decide)).1
                have h11 : ∃ i : Int, (x.v 11) = .int .i64 i ∧ 0 ≤ i ∧ i ≤ 20 := (hk 11 (by decide)).1
                have h12 : ∃ (g : Nat) (i : Int), (x.v 12) = .slice (some ⟨g, 0, none⟩) 3 3 ∧ Blk w g 3 #[.int .i64 i1, .int .i64 j, .int .i64 i] ∧ I64 i ∧ w8.heap.size ≤ g := (hk 12 (by decide)).1
                have s10 := (hk 10 (by decide)).2
                have s11 := (hk 11 (by decide)).2
                have s12 := (hk 12 (by decide)).2
                clear hk
                simp only [netAct, dstAt, List.getElem?_toArray, List.getElem?_cons_zero, List.getElem?_cons_succ, Option.bind_some, Act.put, List.setIfInBounds_toArray, List.set_cons_zero, List.set_cons_succ] at hQ ⊢
                simp only [h2, h3, h4, h5, h6, h7, h8, h9] at hQ ⊢
                clear h2 h3 h4 h5 h6 h7 h8 h9
                obtain ⟨g, i, e, hB12, hI, hg⟩ := h12
                have hsw := hb.size
                rw [e] at hQ ⊢
                go_wp2
                exact hQ _ _ (Ck.of_below (below_alloc _ _)) ⟨_, _, _, rfl, Blk.new _ _ _, hB12.alloc _, hI, hg, hsw⟩
              · intro x w hb hk hiv hdj
                have h0 : x.v 0 = .pointer (some ⟨gf, 2, none⟩) := hk 0 (by decide)
                have h1 : x.v 1 = .slice C E.length d := hk 1 (by decide)
                have h2 : x.v 2 = .int .i64 i1 := hk 2 (by decide)
                have h3 : x.v 3 = .int .i64 j := hk 3 (by decide)
                have h4 : x.v 4 = .int .i64 t := hk 4 (by decide)
                have h5 : x.v 5 = .pointer (some ⟨c, 0, none⟩) := hk 5 (by decide)
                have h6 : x.v 6 = .pointer (some ⟨gf, 0, none⟩) := hk 6 (by decide)
                have h7 : x.v 7 = .int .i64 S := hk 7 (by decide)
                have h8 : x.v 8 = .int .i64 t := hk 8 (by decide)
                have h9 : x.v 9 = .int .i64 (S - t) := hk 9 (by decide)
                have h10 : ∃ i : Nat, (x.v 10) = .int .i64 i ∧ i ≤ 10 := hk 10 (by decide)
                have h11 : ∃ i : Int, (x.v 11) = .int .i64 i ∧ 0 ≤ i ∧ i ≤ 20 := hk 11 (by decide)
                have h12 : ∃ (g : Nat) (i : Int), (x.v 12) = .slice (some ⟨g, 0, none⟩) 3 3 ∧ Blk w g 3 #[.int .i64 i1, .int .i64 j, .int .i64 i] ∧ I64 i ∧ w8.heap.size ≤ g := hk 12 (by decide)
                have h13 : ∃ (g2 g : Nat) (i : Int), (x.v 13) = .slice (some ⟨g2, 0, none⟩) 1 1 ∧ Blk w g2 24 #[.slice (some ⟨g, 0, none⟩) 3 3] ∧ Blk w g 3 #[.int .i64 i1, .int .i64 j, .int .i64 i] ∧ I64 i ∧ w8.heap.size ≤ g ∧ w8.heap.size ≤ g2 := hk 13 (by decide)
                clear hk
                simp only [netAct, dstAt, List.getElem?_toArray, List.getElem?_cons_zero, List.getElem?_cons_succ, Option.bind_some, Act.put, List.setIfInBounds_toArray, List.set_cons_zero, List.set_cons_succ]
                simp only [List.drop_succ_cons, List.drop_zero, h0, h1, h2, h3, h4, h5, h6, h7, h8, h9]
                clear h0 h1 h2 h3 h4 h5 h6 h7 h8 h9
                obtain ⟨g2, g, i, e13, hN2, hN1, hI, hg, hg2⟩ := h13
                rw [e13]
                have hGw := HG8.out.ck hb hgc hclo hlm
                have hsw := hb.size
                have hE8 := (HG8.out.2.2.1.chg hb.chg (.inr (by omega)))
                have hrow : OwnI w w8.heap.size (.slice (some ⟨g, 0, none⟩) [(i1 : Int), (j : Int), i].length [(i1 : Int), (j : Int), i].length) [(i1 : Int), (j : Int), i] := own_blkF hN1 hg (by simp) (fun x hx => by
                  simp only [List.mem_cons, List.not_mem_nil, or_false] at hx
                  rcases hx with rfl | rfl | rfl
                  · exact ⟨by omega, by omega⟩
                  · exact ⟨by omega, by omega⟩
                  · exact hI)
                refine wpList_appR (by rfl) (.tmp 71) (.tmp 83) (by rfl) mid w8.heap.size w8.heap.size w.heap.size _ E [(i1 : Int), (j : Int), i] (by rfl) hE8 (some ⟨g2, 0, none⟩) 1 _ (by rfl) ⟨g2, 0, rfl, hN2.cell' (i := 0) rfl⟩ (IntsO.of_own hrow) (Nat.le_refl _) hsw (by have := HG8.out.2.2.2; omega) (by have := HE.out; omega) (by have := HG8.out.2.2.2; omega) (Nat.le_refl _) ?_
                intro v4 w4 ho4 hb4 hg4
                obtain ⟨A4, c4, rfl, _⟩ := ho4.form2
                obtain ⟨nA4, hnA4⟩ : ∃ z, (E ++ [[(i1 : Int), (j : Int), i]]).length = z := ⟨_, rfl⟩
                rw [hnA4] at ho4 ⊢
                obtain ⟨hB4, hG4⟩ := hGw.put ho4 hnA4.symm hb4 (Nat.lt_succ_self _) hlm
                have z1 := hB4.cell' (i := 2) rfl
                have fz := hB4.frozen
                obtain ⟨W5, hW5⟩ : ∃ z, w4.setCell ⟨gf, 2, none⟩ (.slice A4 nA4 c4) = z := ⟨_, rfl⟩
                rw [hW5] at hG4
                have hch : Chg gf (gf + 1) w4 W5 := by rw [← hW5]; exact chg_set (Nat.le_refl _) (Nat.lt_succ_self _)
                have hs4' := hb4.size
                have hwr0 := HB8.out.size
                have hmw := HG8.out.2.2.2
                have hlow : Below gf w W5 := (hb4.mono (by omega)).trans (hch.below (Nat.le_refl _) (by omega))
                have HB9 := Lib.hid ((HB8.out.trans hb).lowF hlow (by omega) (by omega))
                have HC9 := Lib.hid ((hb.keep HC8.out).belowF hlow (by omega))
                have HG9 := Lib.hid hG4
                have HE9 := Lib.hid (show (E ++ [[(i1 : Int), (j : Int), i]]).length + (k - 1) ≤ 5 by have := HE.out; simp; omega)
                clear hnA4 hB4 hG4 hb4 ho4 hg4 hch hlow hGw hN1 hN2 e13 hiv hdj hsw hs4' hwr0 hmw hE8 hrow h10 h11 h12
                go_wp2
                clear hW5 z1 fz
                go_roundw
                case rel => exact ⟨k - 1, c4, A4, _, by omega, by rw [show ((k - 1 : Nat) : Int) = (k : Int) - 1 by omega], HE9.out, HC9.out, HB9.out, HG9.out⟩
                case measure => simp [intOf]; omega
        · have hsr := HB.out.size
          have hE := HE.out
          clear q1
          have q1 := HG.out.1.cell' (i := 1) rfl
          obtain ⟨w6, hw6⟩ : ∃ z, z = wr := ⟨_, rfl⟩
          subst hw6
          by_cases hk0 : 0 < k
          · have hN1 : ¬ 1 < B.length := fun h => hgo ⟨hk0, h⟩
            clear hgo
            go_wp2_with fail
            refine (l1Below_any c 16 _ HC.out ⟨by omega, by omega⟩).mono ?_; rintro e w7 ⟨r, hr, _, rfl, hb7⟩
            have HC7 := Lib.hid (hb7.keep HC.out)
            have HB7 := Lib.hid (HB.out.trans hb7)
            have HG7 := Lib.hid (HG.out.ck hb7 hgc hclo hlm)
            have hs7 := hb7.size
            have hc7 := HC7.out.ltF
            have hm7 := HG7.out.2.2.2
            clear hb7 HC HB HG q1 hr
            by_cases hr0 : r = 0
            · subst hr0
              go_wp2_with fail
              obtain ⟨W8, hW8⟩ : ∃ z, w7.alloc (.cells #[.int .i64 0, .int .i64 6, .int .i64 1] 3) = z := ⟨_, rfl⟩
              have gb : Below w7.heap.size w7 W8 := by rw [← hW8]; exact below_alloc _ _
              have kS : Blk W8 w7.heap.size 3 #[.int .i64 0, .int .i64 6, .int .i64 1] := by rw [← hW8]; exact Blk.new _ _ _
              rw [hW8]
              refine (l1PickInt_any IntPF c w7.heap.size 3 3 _ _ ((Ck.of_below (c := c) gb).keep HC7.out) kS (by omega) (by omega) (by omega) (fun i hi => ?_) fun v h => ⟨_, h.choose_spec.1⟩).mono ?_
              · match i, hi with
                | 0, _ => exact ⟨_, rfl, _, rfl, by decide, by decide⟩
                | 1, _ => exact ⟨_, rfl, _, rfl, by decide, by decide⟩
                | 2, _ => exact ⟨_, rfl, _, rfl, by decide, by decide⟩
                | i + 3, h => omega
              rintro e w9 ⟨v, ⟨x, rfl, hx⟩, rfl, hb9⟩
              have hs8 := gb.size
              have hs9 := hb9.size
              have hG9 := (HG7.out.ck (Ck.of_below gb) hgc hclo hlm).ck hb9 hgc hclo hlm
              have hB9 := (HB7.out.trans (Ck.of_below gb)).trans hb9
              have z0 := hG9.1.cell' (i := 0) rfl
              have fz := hG9.1.frozen
              obtain ⟨W10, hW10⟩ : ∃ z, w9.setCell ⟨gf, 0, none⟩ (.int .i64 x) = z := ⟨_, rfl⟩
              have hG10 := hG9.setS (x := x) (Nat.lt_succ_self _) hlm
              have hch : Chg gf (gf + 1) w9 W10 := by rw [← hW10]; exact chg_set (Nat.le_refl _) (Nat.lt_succ_self _)
              rw [hW10] at hG10
              have hB10 := hB9.lowF (hch.below (Nat.le_refl _) (by omega)) (by omega) (by omega)
              clear hW8 gb kS hb9 hG9 hB9 hch
              have q0 := (hG10).1.cell' (i := 0) rfl
              have q1 := (hG10).1.cell' (i := 1) rfl
              have q2 := (hG10).1.cell' (i := 2) rfl
              have k2 := KR.out.ck hB10 hcw
              have fr := k2.frozen
              have r0 := k2.cell' (i := 0) rfl
              have r1 := k2.cell' (i := 1) rfl
              have r2 := k2.cell' (i := 2) rfl
              have hc3 := ((chg_set (lo := w0.heap.size) (hi := w0.heap.size + 1) (w := W10) (p := ⟨w0.heap.size, 0, none⟩) (u := .int .i64 x) (Nat.le_refl _) (Nat.lt_succ_self _)).trans (chg_set (p := ⟨w0.heap.size, 1, none⟩) (u := .slice (some ⟨gA, 0, none⟩) B.length ac) (Nat.le_refl _) (Nat.lt_succ_self _))).trans (chg_set (p := ⟨w0.heap.size, 2, none⟩) (u := .slice C E.length d) (Nat.le_refl _) (Nat.lt_succ_self _))
              have hsz := (hB10).size
              have OF := Lib.hid (((hG10).chg hc3 hgf0 (Nat.lt_succ_self _) hlm).fix hlm hx)
              have GS := Lib.hid ((G0.out.trans hB10).lowF (lo := w0.heap.size) (hc3.below (Nat.le_refl _) (by omega)) (Nat.le_refl _) hcl)
              clear hc3 k2
              go_wp2
              exact bodyPost_ret (v := .agg #[.int .i64 x, .slice (some ⟨gA, 0, none⟩) B.length ac, .slice C E.length d]) (by simp [results, go_sem, r0, r1, r2]) rfl ⟨_, ⟨x, B, E⟩, gf + 1, rfl, by omega, OF.out, GS.out⟩
            · by_cases hr1 : r = 1
              · subst hr1
                go_wp2
                refine wp_region_netK (c) (by kernel_rfl) [.eq (.pointer (some ⟨gf, 2, none⟩)), .eq (.slice C E.length d), .eq (.pointer (some ⟨c, 0, none⟩)), rel 3 (fun u lo hi w => ∃ i : Nat, u = .int .i64 i ∧ i ≤ 3), rel 4 (fun u lo hi w => ∃ (g i : Nat), u = .slice (some ⟨g, 0, none⟩) 2 2 ∧ Blk w g 3 #[.int .i64 0, .int .i64 i] ∧ i ≤ 3 ∧ w7.heap.size ≤ g), rel 5 (fun u lo hi w => ∃ (g2 g i : Nat), u = .slice (some ⟨g2, 0, none⟩) 1 1 ∧ Blk w g2 24 #[.slice (some ⟨g, 0, none⟩) 2 2] ∧ Blk w g 3 #[.int .i64 0, .int .i64 i] ∧ i ≤ 3 ∧ w7.heap.size ≤ g ∧ w7.heap.size ≤ g2)] [[], [0], [], [2], [2, 3], [2, 3, 4], [0, 1, 2, 3, 4, 5], [0, 1, 2, 3, 4, 5, 6], [0, 1, 2, 3, 4, 5, 6, 7]] 6 (by kernel_rfl) ⟨trivial, trivial, trivial, rel_stableK (fun u lo hi w w' h hb => h), rel_stableK (fun u lo hi w w' ⟨g, i, e, h, h2, h3⟩ hb => ⟨g, i, e, h.ck hb (by omega), h2, h3⟩), rel_stableK (fun u lo hi w w' ⟨g2, g, i, e, h, h1, h2, h3, h4⟩ hb => ⟨g2, g, i, e, h.ck hb (by omega), h1.ck hb (by omega), h2, h3, h4⟩), trivial⟩ ⟨?_, ?_, ?_, ?_, ?_, ?_, trivial⟩ ?_
                · intro x w hb hk Q' hQ
                  clear hk
                  simp only [netAct, dstAt, List.getElem?_toArray, List.getElem?_cons_zero, List.getElem?_cons_succ, Option.bind_some, Act.put, List.setIfInBounds_toArray, List.set_cons_zero, List.set_cons_succ] at hQ ⊢
                  go_wp2
                  exact hQ (.pointer (some ⟨gf, 2, none⟩)) _ (Ck.refl _ _) rfl
                · intro x w hb hk Q' hQ
                  have h0 : x.v 0 = .pointer (some ⟨gf, 2, none⟩) := (hk 0 (by decide)).1
                  clear hk
                  simp only [netAct, dstAt, List.getElem?_toArray, List.getElem?_cons_zero, List.getElem?_cons_succ, Option.bind_some, Act.put, List.setIfInBounds_toArray, List.set_cons_zero, List.set_cons_succ] at hQ ⊢
                  simp only [h0] at hQ ⊢
                  clear h0
                  have z := (HG7.out.1.ck hb hgc).cell' (i := 2) rfl
                  go_wp2
                  exact hQ (.slice C E.length d) _ (Ck.refl _ _) rfl
                · intro x w hb hk Q' hQ
                  clear hk
                  simp only [netAct, dstAt, List.getElem?_toArray, List.getElem?_cons_zero, List.getElem?_cons_succ, Option.bind_some, Act.put, List.setIfInBounds_toArray, List.set_cons_zero, List.set_cons_succ] at hQ ⊢
                  go_wp2
                  exact hQ (.pointer (some ⟨c, 0, none⟩)) _ (Ck.refl _ _) rfl
                · intro x w hb hk Q' hQ
                  have h2 : x.v 2 = .pointer (some ⟨c, 0, none⟩) := (hk 2 (by decide)).1
                  clear hk
                  simp only [netAct, dstAt, List.getElem?_toArray, List.getElem?_cons_zero, List.getElem?_cons_succ, Option.bind_some, Act.put, List.setIfInBounds_toArray, List.set_cons_zero, List.set_cons_succ] at hQ ⊢
                  simp only [h2] at hQ ⊢
                  clear h2
                  go_wp2_with fail
                  refine (l1Below_any c _ _ (hb.keep HC7.out) ⟨by omega, by omega⟩).mono ?_; rintro e w9 ⟨i, hi, _, rfl, hb9⟩
                  go_wp2
                  exact hQ _ _ hb9 ⟨i, rfl, by omega⟩
                · intro x w hb hk Q' hQ
                  have h2 : x.v 2 = .pointer (some ⟨c, 0, none⟩) := (hk 2 (by decide)).1
                  have h3 : ∃ i : Nat, (x.v 3) = .int .i64 i ∧ i ≤ 3 := (hk 3 (by decide)).1
                  have s3 := (hk 3 (by decide)).2
                  clear hk
                  simp only [netAct, dstAt, List.getElem?_toArray, List.getElem?_cons_zero, List.getElem?_cons_succ, Option.bind_some, Act.put, List.setIfInBounds_toArray, List.set_cons_zero, List.set_cons_succ] at hQ ⊢
                  simp only [h2] at hQ ⊢
                  clear h2
                  obtain ⟨i, e, hi⟩ := h3
                  have hsw := hb.size
                  rw [e] at hQ ⊢
                  go_wp2
                  exact hQ _ _ (Ck.of_below (below_alloc _ _)) ⟨_, _, rfl, Blk.new _ _ _, hi, hsw⟩
                · intro x w hb hk Q' hQ
                  have h2 : x.v 2 = .pointer (some ⟨c, 0, none⟩) := (hk 2 (by decide)).1
                  have h3 : ∃ i : Nat, (x.v 3) = .int .i64 i ∧ i ≤ 3 := (hk 3 (by decide)).1
                  have h4 : ∃ (g i : Nat), (x.v 4) = .slice (some ⟨g, 0, none⟩) 2 2 ∧ Blk w g 3 #[.int .i64 0, .int .i64 i] ∧ i ≤ 3 ∧ w7.heap.size ≤ g := (hk 4 (by decide)).1
                  have s3 := (hk 3 (by decide)).2
                  have s4 := (hk 4 (by decide)).2
                  clear hk
                  simp only [netAct, dstAt, List.getElem?_toArray, List.getElem?_cons_zero, List.getElem?_cons_succ, Option.bind_some, Act.put, List.setIfInBounds_toArray, List.set_cons_zero, List.set_cons_succ] at hQ ⊢
                  simp only [h2] at hQ ⊢
                  clear h2
                  obtain ⟨g, i, e, hB12, hI, hg⟩ := h4
                  have hsw := hb.size
                  rw [e] at hQ ⊢
                  go_wp2
                  exact hQ _ _ (Ck.of_below (below_alloc _ _)) ⟨_, _, _, rfl, Blk.new _ _ _, hB12.alloc _, hI, hg, hsw⟩
                · intro x w hb hk hiv hdj
                  have h0 : x.v 0 = .pointer (some ⟨gf, 2, none⟩) := hk 0 (by decide)
                  have h1 : x.v 1 = .slice C E.length d := hk 1 (by decide)
                  have h2 : x.v 2 = .pointer (some ⟨c, 0, none⟩) := hk 2 (by decide)
                  have h3 : ∃ i : Nat, (x.v 3) = .int .i64 i ∧ i ≤ 3 := hk 3 (by decide)
                  have h4 : ∃ (g i : Nat), (x.v 4) = .slice (some ⟨g, 0, none⟩) 2 2 ∧ Blk w g 3 #[.int .i64 0, .int .i64 i] ∧ i ≤ 3 ∧ w7.heap.size ≤ g := hk 4 (by decide)
                  have h5 : ∃ (g2 g i : Nat), (x.v 5) = .slice (some ⟨g2, 0, none⟩) 1 1 ∧ Blk w g2 24 #[.slice (some ⟨g, 0, none⟩) 2 2] ∧ Blk w g 3 #[.int .i64 0, .int .i64 i] ∧ i ≤ 3 ∧ w7.heap.size ≤ g ∧ w7.heap.size ≤ g2 := hk 5 (by decide)
                  clear hk
                  simp only [netAct, dstAt, List.getElem?_toArray, List.getElem?_cons_zero, List.getElem?_cons_succ, Option.bind_some, Act.put, List.setIfInBounds_toArray, List.set_cons_zero, List.set_cons_succ]
                  simp only [List.drop_succ_cons, List.drop_zero, h0, h1, h2]
                  clear h0 h1 h2
                  obtain ⟨g2, g, i, e5, hN2, hN1, hI, hg, hg2⟩ := h5
                  rw [e5]
                  have hGw := HG7.out.ck hb hgc hclo hlm
                  have hsw := hb.size
                  have hE8 := (HG7.out.2.2.1.chg hb.chg (.inr (by omega)))
                  have hrow : OwnI w w7.heap.size (.slice (some ⟨g, 0, none⟩) [(0 : Int), (i : Int)].length [(0 : Int), (i : Int)].length) [(0 : Int), (i : Int)] := own_blkF hN1 hg (by simp) (fun x hx => by
                    simp only [List.mem_cons, List.not_mem_nil, or_false] at hx
                    rcases hx with rfl | rfl
                    · exact ⟨by omega, by omega⟩
                    · exact ⟨by omega, by omega⟩)
                  refine wpList_appR (by rfl) (.tmp 97) (.tmp 101) (by rfl) mid w7.heap.size w7.heap.size w.heap.size _ E [(0 : Int), (i : Int)] (by rfl) hE8 (some ⟨g2, 0, none⟩) 1 _ (by rfl) ⟨g2, 0, rfl, hN2.cell' (i := 0) rfl⟩ (IntsO.of_own hrow) (Nat.le_refl _) hsw (by omega) (by have := HE.out; omega) (by omega) (Nat.le_refl _) ?_
                  intro v4 w4 ho4 hb4 hg4
                  obtain ⟨A4, c4, rfl, _⟩ := ho4.form2
                  obtain ⟨E4, hE4⟩ : ∃ z, E ++ [[(0 : Int), (i : Int)]] = z := ⟨_, rfl⟩
                  rw [hE4] at ho4 ⊢
                  obtain ⟨hB4, hG4⟩ := hGw.put ho4 rfl hb4 (Nat.lt_succ_self _) hlm
                  have z1 := hB4.cell' (i := 2) rfl
                  have fz := hB4.frozen
                  obtain ⟨W5, hW5⟩ : ∃ z, w4.setCell ⟨gf, 2, none⟩ (.slice A4 E4.length c4) = z := ⟨_, rfl⟩
                  rw [hW5] at hG4
                  have hch : Chg gf (gf + 1) w4 W5 := by rw [← hW5]; exact chg_set (Nat.le_refl _) (Nat.lt_succ_self _)
                  have hs4' := hb4.size
                  have hwr0 := HB7.out.size
                  have hlow : Below gf w W5 := (hb4.mono (by omega)).trans (hch.below (Nat.le_refl _) (by omega))
                  have hB9 := (HB7.out.trans hb).lowF hlow (by omega) (by omega)
                  clear hE4 hB4 hb4 ho4 hg4 hch hlow hGw hN1 hN2 e5 hiv hdj hE8 hrow h3 h4
                  have q0 := (hG4).1.cell' (i := 0) rfl
                  have q1 := (hG4).1.cell' (i := 1) rfl
                  have q2 := (hG4).1.cell' (i := 2) rfl
                  have k2 := KR.out.ck hB9 hcw
                  have fr := k2.frozen
                  have r0 := k2.cell' (i := 0) rfl
                  have r1 := k2.cell' (i := 1) rfl
                  have r2 := k2.cell' (i := 2) rfl
                  have hc3 := ((chg_set (lo := w0.heap.size) (hi := w0.heap.size + 1) (w := W5) (p := ⟨w0.heap.size, 0, none⟩) (u := .int .i64 S) (Nat.le_refl _) (Nat.lt_succ_self _)).trans (chg_set (p := ⟨w0.heap.size, 1, none⟩) (u := .slice (some ⟨gA, 0, none⟩) B.length ac) (Nat.le_refl _) (Nat.lt_succ_self _))).trans (chg_set (p := ⟨w0.heap.size, 2, none⟩) (u := .slice A4 E4.length c4) (Nat.le_refl _) (Nat.lt_succ_self _))
                  have hsz := (hB9).size
                  have OF := Lib.hid (((hG4).chg hc3 hgf0 (Nat.lt_succ_self _) hlm).fix hlm (show I64 S from ⟨by omega, by omega⟩))
                  have GS := Lib.hid ((G0.out.trans hB9).lowF (lo := w0.heap.size) (hc3.below (Nat.le_refl _) (by omega)) (Nat.le_refl _) hcl)
                  clear hc3 k2
                  go_wp2
                  exact bodyPost_ret (v := .agg #[.int .i64 S, .slice (some ⟨gA, 0, none⟩) B.length ac, .slice A4 E4.length c4]) (by simp [results, go_sem, r0, r1, r2]) rfl ⟨_, ⟨S, B, E4⟩, gf + 1, rfl, by omega, OF.out, GS.out⟩
              · have hG10 := HG7.out
                have hB10 := HB7.out
                have q0 := (hG10).1.cell' (i := 0) rfl
                have q1 := (hG10).1.cell' (i := 1) rfl
                have q2 := (hG10).1.cell' (i := 2) rfl
                have k2 := KR.out.ck hB10 hcw
                have fr := k2.frozen
                have r0 := k2.cell' (i := 0) rfl
                have r1 := k2.cell' (i := 1) rfl
                have r2 := k2.cell' (i := 2) rfl
                have hc3 := ((chg_set (lo := w0.heap.size) (hi := w0.heap.size + 1) (w := w7) (p := ⟨w0.heap.size, 0, none⟩) (u := .int .i64 S) (Nat.le_refl _) (Nat.lt_succ_self _)).trans (chg_set (p := ⟨w0.heap.size, 1, none⟩) (u := .slice (some ⟨gA, 0, none⟩) B.length ac) (Nat.le_refl _) (Nat.lt_succ_self _))).trans (chg_set (p := ⟨w0.heap.size, 2, none⟩) (u := .slice C E.length d) (Nat.le_refl _) (Nat.lt_succ_self _))
                have hsz := (hB10).size
                have OF := Lib.hid (((hG10).chg hc3 hgf0 (Nat.lt_succ_self _) hlm).fix hlm (show I64 S from ⟨by omega, by omega⟩))
                have GS := Lib.hid ((G0.out.trans hB10).lowF (lo := w0.heap.size) (hc3.below (Nat.le_refl _) (by omega)) (Nat.le_refl _) hcl)
                clear hc3 k2
                go_wp2
                exact bodyPost_ret (v := .agg #[.int .i64 S, .slice (some ⟨gA, 0, none⟩) B.length ac, .slice C E.length d]) (by simp [results, go_sem, r0, r1, r2]) rfl ⟨_, ⟨S, B, E⟩, gf + 1, rfl, by omega, OF.out, GS.out⟩
          · clear hgo
            go_wp2_with fail
            refine (l1Below_any c 16 _ HC.out ⟨by omega, by omega⟩).mono ?_; rintro e w7 ⟨r, hr, _, rfl, hb7⟩
            have HC7 := Lib.hid (hb7.keep HC.out)
            have HB7 := Lib.hid (HB.out.trans hb7)
            have HG7 := Lib.hid (HG.out.ck hb7 hgc hclo hlm)
            have hs7 := hb7.size
            have hc7 := HC7.out.ltF
            have hm7 := HG7.out.2.2.2
            clear hb7 HC HB HG q1 hr
            by_cases hr0 : r = 0
            · subst hr0
              go_wp2_with fail
              obtain ⟨W8, hW8⟩ : ∃ z, w7.alloc (.cells #[.int .i64 0, .int .i64 6, .int .i64 1] 3) = z := ⟨_, rfl⟩
              have gb : Below w7.heap.size w7 W8 := by rw [← hW8]; exact below_alloc _ _
              have kS : Blk W8 w7.heap.size 3 #[.int .i64 0, .int .i64 6, .int .i64 1] := by rw [← hW8]; exact Blk.new _ _ _
              rw [hW8]
              refine (l1PickInt_any IntPF c w7.heap.size 3 3 _ _ ((Ck.of_below (c := c) gb).keep HC7.out) kS (by omega) (by omega) (by omega) (fun i hi => ?_) fun v h => ⟨_, h.choose_spec.1⟩).mono ?_
              · match i, hi with
                | 0, _ => exact ⟨_, rfl, _, rfl, by decide, by decide⟩
                | 1, _ => exact ⟨_, rfl, _, rfl, by decide, by decide⟩
                | 2, _ => exact ⟨_, rfl, _, rfl, by decide, by decide⟩
                | i + 3, h => omega
              rintro e w9 ⟨v, ⟨x, rfl, hx⟩, rfl, hb9⟩
              have hs8 := gb.size
              have hs9 := hb9.size
              have hG9 := (HG7.out.ck (Ck.of_below gb) hgc hclo hlm).ck hb9 hgc hclo hlm
              have hB9 := (HB7.out.trans (Ck.of_below gb)).trans hb9
              have z0 := hG9.1.cell' (i := 0) rfl
              have fz := hG9.1.frozen
              obtain ⟨W10, hW10⟩ : ∃ z, w9.setCell ⟨gf, 0, none⟩ (.int .i64 x) = z := ⟨_, rfl⟩
              have hG10 := hG9.setS (x := x) (Nat.lt_succ_self _) hlm
              have hch : Chg gf (gf + 1) w9 W10 := by rw [← hW10]; exact chg_set (Nat.le_refl _) (Nat.lt_succ_self _)
              rw [hW10] at hG10
              have hB10 := hB9.lowF (hch.below (Nat.le_refl _) (by omega)) (by omega) (by omega)
              clear hW8 gb kS hb9 hG9 hB9 hch
              have q0 := (hG10).1.cell' (i := 0) rfl
              have q1 := (hG10).1.cell' (i := 1) rfl
              have q2 := (hG10).1.cell' (i := 2) rfl
              have k2 := KR.out.ck hB10 hcw
              have fr := k2.frozen
              have r0 := k2.cell' (i := 0) rfl
              have r1 := k2.cell' (i := 1) rfl
              have r2 := k2.cell' (i := 2) rfl
              have hc3 := ((chg_set (lo := w0.heap.size) (hi := w0.heap.size + 1) (w := W10) (p := ⟨w0.heap.size, 0, none⟩) (u := .int .i64 x) (Nat.le_refl _) (Nat.lt_succ_self _)).trans (chg_set (p := ⟨w0.heap.size, 1, none⟩) (u := .slice (some ⟨gA, 0, none⟩) B.length ac) (Nat.le_refl _) (Nat.lt_succ_self _))).trans (chg_set (p := ⟨w0.heap.size, 2, none⟩) (u := .slice C E.length d) (Nat.le_refl _) (Nat.lt_succ_self _))
              have hsz := (hB10).size
              have OF := Lib.hid (((hG10).chg hc3 hgf0 (Nat.lt_succ_self _) hlm).fix hlm hx)
              have GS := Lib.hid ((G0.out.trans hB10).lowF (lo := w0.heap.size) (hc3.below (Nat.le_refl _) (by omega)) (Nat.le_refl _) hcl)
              clear hc3 k2
              go_wp2
              exact bodyPost_ret (v := .agg #[.int .i64 x, .slice (some ⟨gA, 0, none⟩) B.length ac, .slice C E.length d]) (by simp [results, go_sem, r0, r1, r2]) rfl ⟨_, ⟨x, B, E⟩, gf + 1, rfl, by omega, OF.out, GS.out⟩
            · by_cases hr1 : r = 1
              · subst hr1
                go_wp2
                refine wp_region_netK (c) (by kernel_rfl) [.eq (.pointer (some ⟨gf, 2, none⟩)), .eq (.slice C E.length d), .eq (.pointer (some ⟨c, 0, none⟩)), rel 3 (fun u lo hi w => ∃ i : Nat, u = .int .i64 i ∧ i ≤ 3), rel 4 (fun u lo hi w => ∃ (g i : Nat), u = .slice (some ⟨g, 0, none⟩) 2 2 ∧ Blk w g 3 #[.int .i64 0, .int .i64 i] ∧ i ≤ 3 ∧ w7.heap.size ≤ g), rel 5 (fun u lo hi w => ∃ (g2 g i : Nat), u = .slice (some ⟨g2, 0, none⟩) 1 1 ∧ Blk w g2 24 #[.slice (some ⟨g, 0, none⟩) 2 2] ∧ Blk w g 3 #[.int .i64 0, .int .i64 i] ∧ i ≤ 3 ∧ w7.heap.size ≤ g ∧ w7.heap.size ≤ g2)] [[], [0], [], [2], [2, 3], [2, 3, 4], [0, 1, 2, 3, 4, 5], [0, 1, 2, 3, 4, 5, 6], [0, 1, 2, 3, 4, 5, 6, 7]] 6 (by kernel_rfl) ⟨trivial, trivial, trivial, rel_stableK (fun u lo hi w w' h hb => h), rel_stableK (fun u lo hi w w' ⟨g, i, e, h, h2, h3⟩ hb => ⟨g, i, e, h.ck hb (by omega), h2, h3⟩), rel_stableK (fun u lo hi w w' ⟨g2, g, i, e, h, h1, h2, h3, h4⟩ hb => ⟨g2, g, i, e, h.ck hb (by omega), h1.ck hb (by omega), h2, h3, h4⟩), trivial⟩ ⟨?_, ?_, ?_, ?_, ?_, ?_, trivial⟩ ?_
                · intro x w hb hk Q' hQ
                  clear hk
                  simp only [netAct, dstAt, List.getElem?_toArray, List.getElem?_cons_zero, List.getElem?_cons_succ, Option.bind_some, Act.put, List.setIfInBounds_toArray, List.set_cons_zero, List.set_cons_succ] at hQ ⊢
                  go_wp2
                  exact hQ (.pointer (some ⟨gf, 2, none⟩)) _ (Ck.refl _ _) rfl
                · intro x w hb hk Q' hQ
                  have h0 : x.v 0 = .pointer (some ⟨gf, 2, none⟩) := (hk 0 (by decide)).1
                  clear hk
                  simp only [netAct, dstAt, List.getElem?_toArray, List.getElem?_cons_zero, List.getElem?_cons_succ, Option.bind_some, Act.put, List.setIfInBounds_toArray, List.set_cons_zero, List.set_cons_succ] at hQ ⊢
                  simp only [h0] at hQ ⊢
                  clear h0
                  have z := (HG7.out.1.ck hb hgc).cell' (i := 2) rfl
                  go_wp2
                  exact hQ (.slice C E.length d) _ (Ck.refl _ _) rfl
                · intro x w hb hk Q' hQ
                  clear hk
                  simp only [netAct, dstAt, List.getElem?_toArray, List.getElem?_cons_zero, List.getElem?_cons_succ, Option.bind_some, Act.put, List.setIfInBounds_toArray, List.set_cons_zero, List.set_cons_succ] at hQ ⊢
                  go_wp2
                  exact hQ (.pointer (some ⟨c, 0, none⟩)) _ (Ck.refl _ _) rfl
                · intro x w hb hk Q' hQ
                  have h2 : x.v 2 = .pointer (some ⟨c, 0, none⟩) := (hk 2 (by decide)).1
                  clear hk
                  simp only [netAct, dstAt, List.getElem?_toArray, List.getElem?_cons_zero, List.getElem?_cons_succ, Option.bind_some, Act.put, List.setIfInBounds_toArray, List.set_cons_zero, List.set_cons_succ] at hQ ⊢
                  simp only [h2] at hQ ⊢
                  clear h2
                  go_wp2_with fail
                  refine (l1Below_any c _ _ (hb.keep HC7.out) ⟨by omega, by omega⟩).mono ?_; rintro e w9 ⟨i, hi, _, rfl, hb9⟩
                  go_wp2
                  exact hQ _ _ hb9 ⟨i, rfl, by omega⟩
                · intro x w hb hk Q' hQ
                  have h2 : x.v 2 = .pointer (some ⟨c, 0, none⟩) := (hk 2 (by decide)).1
                  have h3 : ∃ i : Nat, (x.v 3) = .int .i64 i ∧ i ≤ 3 := (hk 3 (by decide)).1
                  have s3 := (hk 3 (by decide)).2
                  clear hk
                  simp only [netAct, dstAt, List.getElem?_toArray, List.getElem?_cons_zero, List.getElem?_cons_succ, Option.bind_some, Act.put, List.setIfInBounds_toArray, List.set_cons_zero, List.set_cons_succ] at hQ ⊢
                  simp only [h2] at hQ ⊢
                  clear h2
                  obtain ⟨i, e, hi⟩ := h3
                  have hsw := hb.size
                  rw [e] at hQ ⊢
                  go_wp2
                  exact hQ _ _ (Ck.of_below (below_alloc _ _)) ⟨_, _, rfl, Blk.new _ _ _, hi, hsw⟩
                · intro x w hb hk Q' hQ
                  have h2 : x.v 2 = .pointer (some ⟨c, 0, none⟩) := (hk 2 (by decide)).1
                  have h3 : ∃ i : Nat, (x.v 3) = .int .i64 i ∧ i ≤ 3 := (hk 3 (by decide)).1
                  have h4 : ∃ (g i : Nat), (x.v 4) = .slice (some ⟨g, 0, none⟩) 2 2 ∧ Blk w g 3 #[.int .i64 0, .int .i64 i] ∧ i ≤ 3 ∧ w7.heap.size ≤ g := (hk 4 (by decide)).1
                  have s3 := (hk 3 (by decide)).2
                  have s4 := (hk 4 (by decide)).2
                  clear hk
                  simp only [netAct, dstAt, List.getElem?_toArray, List.getElem?_cons_zero, List.getElem?_cons_succ, Option.bind_some, Act.put, List.setIfInBounds_toArray, List.set_cons_zero, List.set_cons_succ] at hQ ⊢
                  simp only [h2] at hQ ⊢
                  clear h2
                  obtain ⟨g, i, e, hB12, hI, hg⟩ := h4
                  have hsw := hb.size
                  rw [e] at hQ ⊢
                  go_wp2
                  exact hQ _ _ (Ck.of_below (below_alloc _ _)) ⟨_, _, _, rfl, Blk.new _ _ _, hB12.alloc _, hI, hg, hsw⟩
                · intro x w hb hk hiv hdj
                  have h0 : x.v 0 = .pointer (some ⟨gf, 2, none⟩) := hk 0 (by decide)
                  have h1 : x.v 1 = .slice C E.length d := hk 1 (by decide)
                  have h2 : x.v 2 = .pointer (some ⟨c, 0, none⟩) := hk 2 (by decide)
                  have h3 : ∃ i : Nat, (x.v 3) = .int .i64 i ∧ i ≤ 3 := hk 3 (by decide)
                  have h4 : ∃ (g i : Nat), (x.v 4) = .slice (some ⟨g, 0, none⟩) 2 2 ∧ Blk w g 3 #[.int .i64 0, .int .i64 i] ∧ i ≤ 3 ∧ w7.heap.size ≤ g := hk 4 (by decide)
                  have h5 : ∃ (g2 g i : Nat), (x.v 5) = .slice (some ⟨g2, 0, none⟩) 1 1 ∧ Blk w g2 24 #[.slice (some ⟨g, 0, none⟩) 2 2] ∧ Blk w g 3 #[.int .i64 0, .int .i64 i] ∧ i ≤ 3 ∧ w7.heap.size ≤ g ∧ w7.heap.size ≤ g2 := hk 5 (by decide)
                  clear hk
                  simp only [netAct, dstAt, List.getElem?_toArray, List.getElem?_cons_zero, List.getElem?_cons_succ, Option.bind_some, Act.put, List.setIfInBounds_toArray, List.set_cons_zero, List.set_cons_succ]
                  simp only [List.drop_succ_cons, List.drop_zero, h0, h1, h2]
                  clear h0 h1 h2
                  obtain ⟨g2, g, i, e5, hN2, hN1, hI, hg, hg2⟩ := h5
                  rw [e5]
                  have hGw := HG7.out.ck hb hgc hclo hlm
                  have hsw := hb.size
                  have hE8 := (HG7.out.2.2.1.chg hb.chg (.inr (by omega)))
                  have hrow : OwnI w w7.heap.size (.slice (some ⟨g, 0, none⟩) [(0 : Int), (i : Int)].length [(0 : Int), (i : Int)].length) [(0 : Int), (i : Int)] := own_blkF hN1 hg (by simp) (fun x hx => by
                    simp only [List.mem_cons, List.not_mem_nil, or_false] at hx
                    rcases hx with rfl | rfl
                    · exact ⟨by omega, by omega⟩
                    · exact ⟨by omega, by omega⟩)
                  refine wpList_appR (by rfl) (.tmp 97) (.tmp 101) (by rfl) mid w7.heap.size w7.heap.size w.heap.size _ E [(0 : Int), (i : Int)] (by rfl) hE8 (some ⟨g2, 0, none⟩) 1 _ (by rfl) ⟨g2, 0, rfl, hN2.cell' (i := 0) rfl⟩ (IntsO.of_own hrow) (Nat.le_refl _) hsw (by omega) (by have := HE.out; omega) (by omega) (Nat.le_refl _) ?_
                  intro v4 w4 ho4 hb4 hg4
                  obtain ⟨A4, c4, rfl, _⟩ := ho4.form2
                  obtain ⟨E4, hE4⟩ : ∃ z, E ++ [[(0 : Int), (i : Int)]] = z := ⟨_, rfl⟩
                  rw [hE4] at ho4 ⊢
                  obtain ⟨hB4, hG4⟩ := hGw.put ho4 rfl hb4 (Nat.lt_succ_self _) hlm
                  have z1 := hB4.cell' (i := 2) rfl
                  have fz := hB4.frozen
                  obtain ⟨W5, hW5⟩ : ∃ z, w4.setCell ⟨gf, 2, none⟩ (.slice A4 E4.length c4) = z := ⟨_, rfl⟩
                  rw [hW5] at hG4
                  have hch : Chg gf (gf + 1) w4 W5 := by rw [← hW5]; exact chg_set (Nat.le_refl _) (Nat.lt_succ_self _)
                  have hs4' := hb4.size
                  have hwr0 := HB7.out.size
                  have hlow : Below gf w W5 := (hb4.mono (by omega)).trans (hch.below (Nat.le_refl _) (by omega))
                  have hB9 := (HB7.out.trans hb).lowF hlow (by omega) (by omega)
                  clear hE4 hB4 hb4 ho4 hg4 hch hlow hGw hN1 hN2 e5 hiv hdj hE8 hrow h3 h4
                  have q0 := (hG4).1.cell' (i := 0) rfl
                  have q1 := (hG4).1.cell' (i := 1) rfl
                  have q2 := (hG4).1.cell' (i := 2) rfl
                  have k2 := KR.out.ck hB9 hcw
                  have fr := k2.frozen
                  have r0 := k2.cell' (i := 0) rfl
                  have r1 := k2.cell' (i := 1) rfl
                  have r2 := k2.cell' (i := 2) rfl
                  have hc3 := ((chg_set (lo := w0.heap.size) (hi := w0.heap.size + 1) (w := W5) (p := ⟨w0.heap.size, 0, none⟩) (u := .int .i64 S) (Nat.le_refl _) (Nat.lt_succ_self _)).trans (chg_set (p := ⟨w0.heap.size, 1, none⟩) (u := .slice (some ⟨gA, 0, none⟩) B.length ac) (Nat.le_refl _) (Nat.lt_succ_self _))).trans (chg_set (p := ⟨w0.heap.size, 2, none⟩) (u := .slice A4 E4.length c4) (Nat.le_refl _) (Nat.lt_succ_self _))
                  have hsz := (hB9).size
                  have OF := Lib.hid (((hG4).chg hc3 hgf0 (Nat.lt_succ_self _) hlm).fix hlm (show I64 S from ⟨by omega, by omega⟩))
                  have GS := Lib.hid ((G0.out.trans hB9).lowF (lo := w0.heap.size) (hc3.below (Nat.le_refl _) (by omega)) (Nat.le_refl _) hcl)
                  clear hc3 k2
                  go_wp2
                  exact bodyPost_ret (v := .agg #[.int .i64 S, .slice (some ⟨gA, 0, none⟩) B.length ac, .slice A4 E4.length c4]) (by simp [results, go_sem, r0, r1, r2]) rfl ⟨_, ⟨S, B, E4⟩, gf + 1, rfl, by omega, OF.out, GS.out⟩
              · have hG10 := HG7.out
                have hB10 := HB7.out
                have q0 := (hG10).1.cell' (i := 0) rfl
                have q1 := (hG10).1.cell' (i := 1) rfl
                have q2 := (hG10).1.cell' (i := 2) rfl
                have k2 := KR.out.ck hB10 hcw
                have fr := k2.frozen
                have r0 := k2.cell' (i := 0) rfl
                have r1 := k2.cell' (i := 1) rfl
                have r2 := k2.cell' (i := 2) rfl
                have hc3 := ((chg_set (lo := w0.heap.size) (hi := w0.heap.size + 1) (w := w7) (p := ⟨w0.heap.size, 0, none⟩) (u := .int .i64 S) (Nat.le_refl _) (Nat.lt_succ_self _)).trans (chg_set (p := ⟨w0.heap.size, 1, none⟩) (u := .slice (some ⟨gA, 0, none⟩) B.length ac) (Nat.le_refl _) (Nat.lt_succ_self _))).trans (chg_set (p := ⟨w0.heap.size, 2, none⟩) (u := .slice C E.length d) (Nat.le_refl _) (Nat.lt_succ_self _))
                have hsz := (hB10).size
                have OF := Lib.hid (((hG10).chg hc3 hgf0 (Nat.lt_succ_self _) hlm).fix hlm (show I64 S from ⟨by omega, by omega⟩))
                have GS := Lib.hid ((G0.out.trans hB10).lowF (lo := w0.heap.size) (hc3.below (Nat.le_refl _) (by omega)) (Nat.le_refl _) hcl)
                clear hc3 k2
                go_wp2
                exact bodyPost_ret (v := .agg #[.int .i64 S, .slice (some ⟨gA, 0, none⟩) B.length ac, .slice C E.length d]) (by simp [results, go_sem, r0, r1, r2]) rfl ⟨_, ⟨S, B, E⟩, gf + 1, rfl, by omega, OF.out, GS.out⟩
end Go.Proofs.YtgabmemalaklbaaGreat

/- The draws of the law FnFiltrations. -/
namespace Go.Proofs.YtgabmemalaklbaaGreat
set_option linter.unusedVariables false
set_option linter.unusedSimpArgs false
open Go.RowKit

theorem QB.noYF {w : World} {d o : Nat} {x : Int} (h : QB w d) (hc : w.cell? ⟨d, o, none⟩ = some (.int .u8 x)) : False := by
  obtain ⟨V, A, n, e, C, m, f, hB⟩ := h
  match o, hc with
  | 0, hc => rw [hB.cell' (i := 0) rfl] at hc; simp at hc
  | 1, hc => rw [hB.cell' (i := 1) rfl] at hc; simp at hc
  | 2, hc => rw [hB.cell' (i := 2) rfl] at hc; simp at hc
  | o + 3, hc =>
    unfold Blk at hB
    simp [World.cell?, hB] at hc
theorem Cd.storeF {c d : Nat} {w : World} {V : Int} {A C : Option Addr} {n e m f : Nat} (hdc : d ≠ c) (hE : QB w d) :
    Cd c d #[.int .i64 V, .slice A n e, .slice C m f] w (((w.setCell ⟨d, 0, none⟩ (.int .i64 V)).setCell ⟨d, 1, none⟩ (.slice A n e)).setCell ⟨d, 2, none⟩ (.slice C m f)) ∧ Blk (((w.setCell ⟨d, 0, none⟩ (.int .i64 V)).setCell ⟨d, 1, none⟩ (.slice A n e)).setCell ⟨d, 2, none⟩ (.slice C m f)) d 27 #[.int .i64 V, .slice A n e, .slice C m f] := by
  have h3 : Blk (((w.setCell ⟨d, 0, none⟩ (.int .i64 V)).setCell ⟨d, 1, none⟩ (.slice A n e)).setCell ⟨d, 2, none⟩ (.slice C m f)) d 27 #[.int .i64 V, .slice A n e, .slice C m f] := by
    obtain ⟨V', A', n', e', C', m', f', hB⟩ := hE
    have := ((hB.set_ 0 (.int .i64 V)).set_ 1 (.slice A n e)).set_ 2 (.slice C m f)
    simpa using this
  have hc : Chg d (d + 1) w (((w.setCell ⟨d, 0, none⟩ (.int .i64 V)).setCell ⟨d, 1, none⟩ (.slice A n e)).setCell ⟨d, 2, none⟩ (.slice C m f)) :=
    ((chg_set (lo := d) (hi := d + 1) (w := w) (p := ⟨d, 0, none⟩) (u := .int .i64 V) (Nat.le_refl _) (Nat.lt_succ_self _)).trans (chg_set (p := ⟨d, 1, none⟩) (u := .slice A n e) (Nat.le_refl _) (Nat.lt_succ_self _))).trans (chg_set (p := ⟨d, 2, none⟩) (u := .slice C m f) (Nat.le_refl _) (Nat.lt_succ_self _))
  refine ⟨⟨hc.os, hc.tape, hc.output, hc.size, fun k hk hn => hc.block k hk (by omega), ?_, fun _ => h3, fun _ => ⟨V, A, n, e, C, m, f, h3⟩⟩, h3⟩
  rintro ⟨X, cc, i, h, l, hB', h1, h2, hy⟩
  refine ⟨X, cc, i, h, l, (hc.block c hB'.lt (by omega)).trans hB', h1, h2, ?_⟩
  refine SlG.mono (B := c) (B' := c) (fun b o x hlt hx => ?_) (Nat.le_refl _) hy
  have hbd : b ≠ d := fun hbd => by
    subst hbd
    exact hE.noYF hx.1
  exact ⟨(World.cell?_of_block (w := w) (hc.block b (by have := hB'.lt; omega) (by omega))).trans hx.1, hx.2⟩
set_option maxHeartbeats 1600000 in
set_option maxRecDepth 100000 in
theorem l2Prime_any (c : Nat) (w0 : World) (hc : Cur w0 c) :
    Calls Tryz.prog 28 #[.pointer (some ⟨c, 0, none⟩)] w0 fun e w' => ∃ p : Int, e = .returned (.int .i64 p) ∧ I64 p ∧ Ck c w0 w' := by
  go_enter Tryz.func28, Tryz.ntmps28
  go_wp2_with fail
  refine (l1Once_any c 16 _ hc ⟨by omega, by omega⟩).mono ?_; rintro e w1 ⟨b, rfl, hb1⟩
  have HC1 := Lib.hid (hb1.keep hc)
  have HB1 := Lib.hid hb1
  clear hb1 hc
  rcases b with _ | _
  · go_wp2_with fail
    obtain ⟨W8, hW8⟩ : ∃ z, w1.alloc (.cells #[.int .i64 2, .int .i64 3, .int .i64 5, .int .i64 2, .int .i64 3] 3) = z := ⟨_, rfl⟩
    have gb : Below w1.heap.size w1 W8 := by rw [← hW8]; exact below_alloc _ _
    have kS : Blk W8 w1.heap.size 3 #[.int .i64 2, .int .i64 3, .int .i64 5, .int .i64 2, .int .i64 3] := by rw [← hW8]; exact Blk.new _ _ _
    have hcl := HC1.out.ltF
    rw [hW8]
    refine (l1PickInt_any IntPF c w1.heap.size 5 5 _ _ ((Ck.of_below (c := c) gb).keep HC1.out) kS (by omega) (by omega) (by omega) (fun i hi => ?_) fun v h => ⟨_, h.choose_spec.1⟩).mono ?_
    · match i, hi with
      | 0, _ => exact ⟨_, rfl, _, rfl, by decide, by decide⟩
      | 1, _ => exact ⟨_, rfl, _, rfl, by decide, by decide⟩
      | 2, _ => exact ⟨_, rfl, _, rfl, by decide, by decide⟩
      | 3, _ => exact ⟨_, rfl, _, rfl, by decide, by decide⟩
      | 4, _ => exact ⟨_, rfl, _, rfl, by decide, by decide⟩
      | i + 5, h => omega
    rintro e w9 ⟨v, ⟨x, rfl, hx⟩, rfl, hb9⟩
    have hB9 := (HB1.out.trans (Ck.of_below gb)).trans hb9
    clear hW8
    go_wp2
    go_ret
    exact ⟨x, rfl, hx, hB9⟩
  · go_wp2_with fail
    obtain ⟨W8, hW8⟩ : ∃ z, w1.alloc (.cells #[.int .i64 (-1), .int .i64 0, .int .i64 1, .int .i64 4, .int .i64 7] 3) = z := ⟨_, rfl⟩
    have gb : Below w1.heap.size w1 W8 := by rw [← hW8]; exact below_alloc _ _
    have kS : Blk W8 w1.heap.size 3 #[.int .i64 (-1), .int .i64 0, .int .i64 1, .int .i64 4, .int .i64 7] := by rw [← hW8]; exact Blk.new _ _ _
    have hcl := HC1.out.ltF
    rw [hW8]
    refine (l1PickInt_any IntPF c w1.heap.size 5 5 _ _ ((Ck.of_below (c := c) gb).keep HC1.out) kS (by omega) (by omega) (by omega) (fun i hi => ?_) fun v h => ⟨_, h.choose_spec.1⟩).mono ?_
    · match i, hi with
      | 0, _ => exact ⟨_, rfl, _, rfl, by decide, by decide⟩
      | 1, _ => exact ⟨_, rfl, _, rfl, by decide, by decide⟩
      | 2, _ => exact ⟨_, rfl, _, rfl, by decide, by decide⟩
      | 3, _ => exact ⟨_, rfl, _, rfl, by decide, by decide⟩
      | 4, _ => exact ⟨_, rfl, _, rfl, by decide, by decide⟩
      | i + 5, h => omega
    rintro e w9 ⟨v, ⟨x, rfl, hx⟩, rfl, hb9⟩
    have hB9 := (HB1.out.trans (Ck.of_below gb)).trans hb9
    clear hW8
    go_wp2
    go_ret
    exact ⟨x, rfl, hx, hB9⟩
set_option maxHeartbeats 1600000 in
set_option maxRecDepth 100000 in
theorem drawLineOf_any (u : Value) (l : List Int) (w0 : World) (hu : SlY w0 w0.heap.size u l) :
    Calls Tryz.prog 17 #[u] w0 fun e w' => ∃ k : Int, e = .returned (.int .i64 k) ∧ I64 k ∧ Below w0.heap.size w0 w' := by
  go_enter Tryz.func17, Tryz.ntmps17
  go_wp2_with fail
  refine (l1New_any u l _ hu).mono ?_; rintro e w1 ⟨c, rfl, hcs, hC1, hb1⟩
  go_wp2_with fail
  refine (l1Below_any c 9 _ hC1 ⟨by omega, by omega⟩).mono ?_; rintro e w2 ⟨r, hr, _, rfl, hb2⟩
  have hs1 := hb1.size
  have g2 := hb1.trans (hb2.below hcs hs1)
  clear hb1 hb2
  go_wp2
  go_ret
  exact ⟨_, rfl, ⟨by omega, by omega⟩, g2⟩
set_option maxHeartbeats 1600000 in
set_option maxRecDepth 100000 in
theorem drawFiltrationRep_any (u : Value) (l : List Int) (w0 : World) (hu : SlY w0 w0.heap.size u l) :
    Calls Tryz.prog 5 #[u] w0 fun e w' => ∃ (p : Int) (v : Value) (F : Filt), e = .returned (.tuple #[.int .i64 p, v]) ∧ I64 p ∧ FiR w' w'.heap.size v F ∧ Below w0.heap.size w0 w' := by
  obtain ⟨W, hW⟩ : ∃ W, W = w0.alloc (.cells #[.int .i64 0, .slice none 0 0, .slice none 0 0] 27) := ⟨_, rfl⟩
  have g0 : Below w0.heap.size w0 W := by rw [hW]; exact below_alloc _ _
  have kR : Blk W w0.heap.size 27 #[.int .i64 0, .slice none 0 0, .slice none 0 0] := by rw [hW]; exact Blk.new _ _ _
  have sW : W.heap.size = w0.heap.size + 1 := by rw [hW]; simp
  have hu' := SlY.next g0 hu
  clear hu
  go_enter Tryz.func5, Tryz.ntmps5
  go_wp2_with fail
  rw [← hW]; clear hW
  refine (l1New_any u l _ hu').mono ?_; rintro e w1 ⟨c, rfl, hcs, hC1, hb1⟩
  have kR1 := kR.call hb1
  have g1 := g0.trans (hb1.mono (by omega))
  have hs1 := hb1.size
  clear kR g0 hb1 hu'
  go_wp2_with fail
  refine (l2Prime_any c _ hC1).mono ?_; rintro e w2 ⟨p, rfl, hp, hb2⟩
  have hC2 := hb2.keep hC1
  have kR2 := kR1.ck hb2 (by omega)
  have g2 := g1.trans (hb2.below (B := w0.heap.size) (by omega) (by omega))
  have hs2 := hb2.size
  clear kR1 g1 hb2 hC1
  go_wp2_with fail
  refine (l24Filtration_any c _ hC2).mono ?_; rintro e w3 ⟨v, F, lo, rfl, hlo, hX, hb3⟩
  obtain ⟨A, a, C, d, rfl⟩ := hX.rd.form
  have kR3 := kR2.ck hb3 (by omega)
  have g3 := g2.trans (hb3.below (B := w0.heap.size) (by omega) (by omega))
  have hs3 := hb3.size
  clear kR2 g2 hb3 hC2
  have fr := kR3.frozen
  have r0 := kR3.cell' (i := 0) rfl
  have r1 := kR3.cell' (i := 1) rfl
  have r2 := kR3.cell' (i := 2) rfl
  have hc3 := ((chg_set (lo := w0.heap.size) (hi := w0.heap.size + 1) (w := w3) (p := ⟨w0.heap.size, 0, none⟩) (u := .int .i64 F.stages) (Nat.le_refl _) (Nat.lt_succ_self _)).trans (chg_set (p := ⟨w0.heap.size, 1, none⟩) (u := .slice A F.birth.length a) (Nat.le_refl _) (Nat.lt_succ_self _))).trans (chg_set (p := ⟨w0.heap.size, 2, none⟩) (u := .slice C F.ends.length d) (Nat.le_refl _) (Nat.lt_succ_self _))
  have OF := Lib.hid (hX.chg hc3 (by omega))
  have GS := Lib.hid (g3.trans (hc3.below (Nat.le_refl _) (by omega)))
  clear hc3 g3 hX
  go_wp2
  exact bodyPost_ret (v := .tuple #[.int .i64 p, .agg #[.int .i64 F.stages, .slice A F.birth.length a, .slice C F.ends.length d]]) (by simp [results, go_sem, r0, r1, r2]) rfl ⟨p, _, F, rfl, hp, OF.out.rd, GS.out⟩
set_option maxHeartbeats 1600000 in
set_option maxRecDepth 100000 in
theorem l24Both_any (u : Value) (l : List Int) (w0 : World) (hu : SlY w0 w0.heap.size u l) :
    Calls Tryz.prog 52 #[u] w0 fun e w' => ∃ (v : Value) (F : Filt) (t : Int) (lo : Nat), e = .returned (.tuple #[v, .int .i64 t]) ∧ I64 t ∧ w0.heap.size < lo ∧ FiX w' lo v F ∧ Below w0.heap.size w0 w' := by
  obtain ⟨W, hW⟩ : ∃ W, W = w0.alloc (.cells #[.int .i64 0, .slice none 0 0, .slice none 0 0] 27) := ⟨_, rfl⟩
  have g0 : Below w0.heap.size w0 W := by rw [hW]; exact below_alloc _ _
  have kR : Blk W w0.heap.size 27 #[.int .i64 0, .slice none 0 0, .slice none 0 0] := by rw [hW]; exact Blk.new _ _ _
  have sW : W.heap.size = w0.heap.size + 1 := by rw [hW]; simp
  have hu' := SlY.next g0 hu
  clear hu
  go_enter Tryz.func52, Tryz.ntmps52
  go_wp2_with fail
  rw [← hW]; clear hW
  refine (l1New_any u l _ hu').mono ?_; rintro e w1 ⟨c, rfl, hcs, hC1, hb1⟩
  have kR1 := kR.call hb1
  have g1 := g0.trans (hb1.mono (by omega))
  have hs1 := hb1.size
  clear kR g0 hb1 hu'
  go_wp2_with fail
  refine (l24Filtration_any c _ hC1).mono ?_; rintro e w3 ⟨v, F, lo, rfl, hlo, hX, hb3⟩
  obtain ⟨A, a, C, d, rfl⟩ := hX.rd.form
  obtain ⟨V, hV⟩ : ∃ V, F.stages = V := ⟨_, rfl⟩
  obtain ⟨nb, hnb⟩ : ∃ V, F.birth.length = V := ⟨_, rfl⟩
  obtain ⟨ne, hne⟩ : ∃ V, F.ends.length = V := ⟨_, rfl⟩
  rw [hV, hnb, hne] at hX ⊢
  clear hV hnb hne
  have hcl1 := hC1.ltF
  have hc0 : w0.heap.size < c := by omega
  have hlo0 : w0.heap.size < lo := by omega
  have hw3 : w0.heap.size ≤ w3.heap.size := by have := hb3.size; omega
  have hC3 := hb3.keep hC1
  have hcl := hC3.ltF
  have kR3 := kR1.ck hb3 (by omega)
  have g3 := g1.trans (hb3.below (B := w0.heap.size) (by omega) (by omega))
  have hs3 := hb3.size
  clear kR1 g1 hb3 hC1
  obtain ⟨W4, hW4⟩ : ∃ z, w3.alloc (.cells #[.int .i64 V, .slice A nb a, .slice C ne d] 27) = z := ⟨_, rfl⟩
  have ga : Below w3.heap.size w3 W4 := by rw [← hW4]; exact below_alloc _ _
  obtain ⟨gq, hgq⟩ : ∃ z, w3.heap.size = z := ⟨_, rfl⟩
  have kq : Blk W4 gq 27 #[.int .i64 V, .slice A nb a, .slice C ne d] := by rw [← hW4, ← hgq]; exact Blk.new _ _ _
  have hs4 : W4.heap.size = gq + 1 := by rw [← hW4, ← hgq]; simp
  have HC := Lib.hid ((Ck.of_below (c := c) ga).keep hC3)
  have HR := Lib.hid (kR3.call ga)
  have HX := Lib.hid (hX.below ga)
  have HK := Lib.hid kq
  have G4 := Lib.hid (g3.trans (ga.mono (by omega)))
  clear kR3 hX g3 ga kq hC3
  have hw4 : w0.heap.size ≤ W4.heap.size := by omega
  have hgqc : gq ≠ c := by omega
  have hdc : w0.heap.size ≠ c := by omega
  have hgqd : gq ≠ w0.heap.size := by omega
  go_wp2_with fail
  try rw [hW4]
  try rw [hgq]
  clear hW4 hgq
  refine wp_region_netD (c) (w0.heap.size) (#[.int .i64 V, .slice A nb a, .slice C ne d]) (by kernel_rfl) [.eq (.agg #[.int .i64 V, .slice A nb a, .slice C ne d]), .eq (.pointer (some ⟨c, 0, none⟩)), rel 2 (fun u lo hi w => ∃ i : Nat, u = .int .i64 i ∧ i ≤ 6), rel 3 (fun u lo hi w => ∃ k : Int, u = .int .i64 k ∧ I64 k), .rel (fun x w => Blk w w0.heap.size 27 #[.int .i64 V, .slice A nb a, .slice C ne d])] [[], [], [1], [1, 2], [0, 1, 2], [0, 1, 2, 3, 4]] 5 (by kernel_rfl) ⟨trivial, trivial, rel_stableD (fun u lo hi w w' h hb => h), rel_stableD (fun u lo hi w w' h hb => h), fun x w w' h hb => hb.keepD h, trivial⟩ ⟨?_, ?_, ?_, ?_, ?_, trivial⟩ ?_
  · intro x w hb hk Q' hQ
    clear hk
    simp only [netAct, dstAt, List.getElem?_toArray, List.getElem?_cons_zero, List.getElem?_cons_succ, Option.bind_some, Act.put, List.setIfInBounds_toArray, List.set_cons_zero, List.set_cons_succ] at hQ ⊢
    have z0 := (HK.out.cd hb hgqc hgqd).cell' (i := 0) rfl
    have z1 := (HK.out.cd hb hgqc hgqd).cell' (i := 1) rfl
    have z2 := (HK.out.cd hb hgqc hgqd).cell' (i := 2) rfl
    go_wp2
    exact hQ (.agg #[.int .i64 V, .slice A nb a, .slice C ne d]) _ (Cd.refl _ _ _ _) rfl
  · intro x w hb hk Q' hQ
    clear hk
    simp only [netAct, dstAt, List.getElem?_toArray, List.getElem?_cons_zero, List.getElem?_cons_succ, Option.bind_some, Act.put, List.setIfInBounds_toArray, List.set_cons_zero, List.set_cons_succ] at hQ ⊢
    go_wp2
    exact hQ (.pointer (some ⟨c, 0, none⟩)) _ (Cd.refl _ _ _ _) rfl
  · intro x w hb hk Q' hQ
    have h1 : x.v 1 = .pointer (some ⟨c, 0, none⟩) := (hk 1 (by decide)).1
    clear hk
    simp only [netAct, dstAt, List.getElem?_toArray, List.getElem?_cons_zero, List.getElem?_cons_succ, Option.bind_some, Act.put, List.setIfInBounds_toArray, List.set_cons_zero, List.set_cons_succ] at hQ ⊢
    simp only [h1] at hQ ⊢
    clear h1
    go_wp2_with fail
    refine (l1Below_any c 5 _ (hb.keep HC.out) ⟨by omega, by omega⟩).mono ?_; rintro e w7 ⟨i, hi, _, rfl, hb7⟩
    go_wp2
    exact hQ _ _ (Cd.of_ck hb7 hdc) ⟨i, rfl, by omega⟩
  · intro x w hb hk Q' hQ
    have h1 : x.v 1 = .pointer (some ⟨c, 0, none⟩) := (hk 1 (by decide)).1
    have h2 : ∃ i : Nat, (x.v 2) = .int .i64 i ∧ i ≤ 6 := (hk 2 (by decide)).1
    have s2 := (hk 2 (by decide)).2
    clear hk
    simp only [netAct, dstAt, List.getElem?_toArray, List.getElem?_cons_zero, List.getElem?_cons_succ, Option.bind_some, Act.put, List.setIfInBounds_toArray, List.set_cons_zero, List.set_cons_succ] at hQ ⊢
    simp only [h1] at hQ ⊢
    clear h1
    obtain ⟨i, e, hi⟩ := h2
    have hQ' := hQ (.int .i64 ((i : Int) - 1)) w (Cd.refl _ _ _ _) ⟨_, rfl, by omega, by omega⟩
    rw [e] at hQ' ⊢
    go_wp2
    exact hQ'
  · intro x w hb hk Q' hQ
    have h0 : x.v 0 = .agg #[.int .i64 V, .slice A nb a, .slice C ne d] := (hk 0 (by decide)).1
    have h1 : x.v 1 = .pointer (some ⟨c, 0, none⟩) := (hk 1 (by decide)).1
    have h2 : ∃ i : Nat, (x.v 2) = .int .i64 i ∧ i ≤ 6 := (hk 2 (by decide)).1
    have s2 := (hk 2 (by decide)).2
    clear hk
    simp only [netAct, dstAt, List.getElem?_toArray, List.getElem?_cons_zero, List.getElem?_cons_succ, Option.bind_some, Act.put, List.setIfInBounds_toArray, List.set_cons_zero, List.set_cons_succ] at hQ ⊢
    simp only [h0, h1] at hQ ⊢
    clear h0 h1
    have hE := hb.keepE ⟨_, _, _, _, _, _, _, HR.out⟩
    have hS := Cd.storeF (V := V) (A := A) (n := nb) (e := a) (C := C) (m := ne) (f := d) hdc hE
    obtain ⟨V', A', n', e', C', m', f', hB⟩ := hE
    have y0 := hB.cell' (i := 0) rfl
    have y1 := hB.cell' (i := 1) rfl
    have y2 := hB.cell' (i := 2) rfl
    have fr := hB.frozen
    have HS := Lib.hid hS
    clear hS hB
    go_wp2
    exact hQ undef _ HS.out.1 HS.out.2
  · intro x w hb hk hiv hdj
    have h0 : x.v 0 = .agg #[.int .i64 V, .slice A nb a, .slice C ne d] := hk 0 (by decide)
    have h1 : x.v 1 = .pointer (some ⟨c, 0, none⟩) := hk 1 (by decide)
    have h2 : ∃ i : Nat, (x.v 2) = .int .i64 i ∧ i ≤ 6 := hk 2 (by decide)
    have h3 : ∃ k : Int, (x.v 3) = .int .i64 k ∧ I64 k := hk 3 (by decide)
    have h4 : Blk w w0.heap.size 27 #[.int .i64 V, .slice A nb a, .slice C ne d] := hk 4 (by decide)
    clear hk
    simp only [netAct, dstAt, List.getElem?_toArray, List.getElem?_cons_zero, List.getElem?_cons_succ, Option.bind_some, Act.put, List.setIfInBounds_toArray, List.set_cons_zero, List.set_cons_succ]
    simp only [List.drop_succ_cons, List.drop_zero, h0, h1]
    clear h0 h1
    obtain ⟨k, e3, hk⟩ := h3
    rw [e3]
    have r0 := h4.cell' (i := 0) rfl
    have r1 := h4.cell' (i := 1) rfl
    have r2 := h4.cell' (i := 2) rfl
    have hlo2 : c < lo := by omega
    have hcd := hb.chg (hi := lo) hlo2 (by omega)
    have XF := Lib.hid (HX.out.chgL hcd)
    have GF := Lib.hid (G4.out.trans (hb.low (B := w0.heap.size) (Nat.le_of_lt hc0) (Nat.le_refl _) hw4))
    clear hb hiv hdj hcd
    go_wp2
    exact bodyPost_ret (v := .tuple #[.agg #[.int .i64 V, .slice A nb a, .slice C ne d], .int .i64 k]) (by simp [results, go_sem, r0, r1, r2]) rfl ⟨_, F, k, lo, rfl, hk, hlo0, XF.out, GF.out⟩
set_option maxHeartbeats 1600000 in
set_option maxRecDepth 100000 in
theorem drawComponentsAt_any (u : Value) (l : List Int) (w0 : World) (hu : SlY w0 w0.heap.size u l) :
    Calls Tryz.prog 14 #[u] w0 fun e w' => ∃ (v : Value) (F : Filt) (t : Int), e = .returned (.tuple #[v, .int .i64 t]) ∧ I64 t ∧ FiR w' w'.heap.size v F ∧ Below w0.heap.size w0 w' := by
  obtain ⟨W, hW⟩ : ∃ W, W = w0.alloc (.cells #[.int .i64 0, .slice none 0 0, .slice none 0 0] 27) := ⟨_, rfl⟩
  have g0 : Below w0.heap.size w0 W := by rw [hW]; exact below_alloc _ _
  have kR : Blk W w0.heap.size 27 #[.int .i64 0, .slice none 0 0, .slice none 0 0] := by rw [hW]; exact Blk.new _ _ _
  have sW : W.heap.size = w0.heap.size + 1 := by rw [hW]; simp
  have hu' := SlY.next g0 hu
  clear hu
  go_enter Tryz.func14, Tryz.ntmps14
  go_wp2_with fail
  rw [← hW]; clear hW
  refine (l24Both_any u l _ hu').mono ?_; rintro e w2 ⟨v, F, t, lo, rfl, ht, hlo, hX2, hb1⟩
  obtain ⟨A, a, C, d, rfl⟩ := hX2.rd.form
  have hs2 := hb1.size
  obtain ⟨w3, hw3⟩ : ∃ z, w2.alloc (.cells #[.int .i64 F.stages, .slice A F.birth.length a, .slice C F.ends.length d] 27) = z := ⟨_, rfl⟩
  have ga : Below w2.heap.size w2 w3 := by rw [← hw3]; exact below_alloc _ _
  have kq : Blk w3 w2.heap.size 27 #[.int .i64 F.stages, .slice A F.birth.length a, .slice C F.ends.length d] := by rw [← hw3]; exact Blk.new _ _ _
  have hs3 : w3.heap.size = w2.heap.size + 1 := by rw [← hw3]; simp
  have kR3 := (kR.call hb1).call ga
  have hX := hX2.below ga
  have g3 := (g0.trans (hb1.mono (by omega))).trans (ga.mono (by omega))
  have q0 := kq.cell' (i := 0) rfl
  have q1 := kq.cell' (i := 1) rfl
  have q2 := kq.cell' (i := 2) rfl
  clear g0 kR hb1 hX2 ga hu'
  have fr := kR3.frozen
  have r0 := kR3.cell' (i := 0) rfl
  have r1 := kR3.cell' (i := 1) rfl
  have r2 := kR3.cell' (i := 2) rfl
  have hc3 := ((chg_set (lo := w0.heap.size) (hi := w0.heap.size + 1) (w := w3) (p := ⟨w0.heap.size, 0, none⟩) (u := .int .i64 F.stages) (Nat.le_refl _) (Nat.lt_succ_self _)).trans (chg_set (p := ⟨w0.heap.size, 1, none⟩) (u := .slice A F.birth.length a) (Nat.le_refl _) (Nat.lt_succ_self _))).trans (chg_set (p := ⟨w0.heap.size, 2, none⟩) (u := .slice C F.ends.length d) (Nat.le_refl _) (Nat.lt_succ_self _))
  have OF := Lib.hid (hX.chg hc3 (by omega))
  have GS := Lib.hid (g3.trans (hc3.below (Nat.le_refl _) (by omega)))
  clear hc3 g3 hX
  go_wp2
  exact bodyPost_ret (v := .tuple #[.agg #[.int .i64 F.stages, .slice A F.birth.length a, .slice C F.ends.length d], .int .i64 t]) (by simp [results, go_sem, r0, r1, r2]) rfl ⟨_, F, t, rfl, ht, OF.out.rd, GS.out⟩
end Go.Proofs.YtgabmemalaklbaaGreat
