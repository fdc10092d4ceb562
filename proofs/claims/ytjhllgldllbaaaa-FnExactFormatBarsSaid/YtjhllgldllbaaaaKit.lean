/- What every law goes through: copies, comparisons, purses and marks, a kind of data at a time: ints, quivers. -/
import Derived.Test.YtjhllgldllbaaaaQuiv
namespace Go.Proofs.Ytjhllgldllbaaaa
set_option linter.unusedVariables false
set_option linter.unusedSimpArgs false
open Go.RowKit

/-! ### ints -/
def IntsO (w : World) (lo hi : Nat) (v : Value) (l : List Int) : Prop := OwnI w lo v l ∧ ∀ k, v.ownBlock = some k → k < hi
theorem IntsO.of_own {w : World} {lo : Nat} {v : Value} {l : List Int} (h : OwnI w lo v l) : IntsO w lo w.heap.size v l := ⟨h, fun k hk => (h.lt k hk).2⟩
theorem IntsO.rd {w : World} {lo hi : Nat} {v : Value} {l : List Int} (h : IntsO w lo hi v l) : SlI w w.heap.size v l := h.1.rd
theorem IntsO.chg {w w' : World} {lo hi lo' hi' : Nat} {v : Value} {l : List Int} (h : IntsO w lo hi v l) (hc : Chg lo' hi' w w') (hd : hi ≤ lo' ∨ hi' ≤ lo) : IntsO w' lo hi v l := by
  refine ⟨⟨⟨h.1.1.1, ?_⟩, h.1.2⟩, h.2⟩
  rcases h.1.1.2 with h1 | ⟨g, cap, cur, rfl, hg, hh, rest⟩
  · exact .inl h1
  · have := h.2 g (by simp [Value.ownBlock])
    exact .inr ⟨g, cap, cur, rfl, hg, (hc.block g (Array.getElem?_eq_some_iff.1 hh).1 (by omega)).trans hh, rest⟩
theorem IntsO.below {w w' : World} {lo hi : Nat} {v : Value} {l : List Int} (h : IntsO w lo hi v l) (hb : Below w.heap.size w w') : IntsO w' lo hi v l := ⟨h.1.below hb, h.2⟩
theorem chg_of_grown {w w' : World} {lo hi : Nat} {v : Value} {l : List Int} (h : IntsO w lo hi v l) (hg : w.grownBy w' v.ownBlock) : Chg lo hi w w' := by
  refine ⟨hg.os, hg.tape, hg.output, hg.size, fun k hk hne => hg.block k hk (fun e => ?_)⟩
  have h1 := h.2 k e.symm
  have h2 := (h.1.lt k e.symm).1
  omega
theorem SlI.chg {w w' : World} {B lo hi : Nat} {v : Value} {l : List Int} (h : SlI w B v l) (hc : Chg lo hi w w') (hB : B ≤ lo) (hs : B ≤ w.heap.size) : SlI w' B v l := SlI.below (hc.below hB hs) h
def IntsO.mk (k : Int) (l : List Int) : List Int := mkI k l.length
theorem ints_mark (v : Value) (l : List Int) (k : Int) (lo hi : Nat) (w : World) (hv : IntsO w lo hi v l) (h0 : 0 ≤ k) (h1 : k ≤ 1152921504606846976) :
    Calls Try.prog 51 #[v, .int .i64 k] w fun e w' => e = .returned (.int .i64 (k + l.length)) ∧ IntsO w' lo hi v (IntsO.mk k l) ∧ Chg lo hi w w' :=
  (markIntS_any v l k lo w hv.1 h0 h1).mono fun _ _ ⟨h2, h3, h4⟩ => ⟨h2, ⟨h3, hv.2⟩, chg_of_grown hv h4⟩
theorem ints_held (v : Value) (l : List Int) (k : Int) (w : World) (hv : SlI w w.heap.size v (IntsO.mk k l)) (h0 : 0 ≤ k) (h1 : k ≤ 1152921504606846976) :
    Calls Try.prog 52 #[v, .int .i64 k] w fun e w' => e = .returned (.int .i64 (k + l.length)) ∧ Below w.heap.size w w' :=
  heldIntS_any v l.length k _ w hv h0 h1

/-! ### families of rows, apart from one another -/
def Fam (w : World) (lo hi : Nat) (L : List (Value × List Int)) : Prop := (∀ p ∈ L, IntsO w lo hi p.1 p.2) ∧ L.Pairwise (fun p q => p.1.ownBlock = none ∨ p.1.ownBlock ≠ q.1.ownBlock)
theorem Fam.chg {w w' : World} {lo hi lo' hi' : Nat} {L : List (Value × List Int)} (h : Fam w lo hi L) (hc : Chg lo' hi' w w') (hd : hi ≤ lo' ∨ hi' ≤ lo) : Fam w' lo hi L := ⟨fun p hp => (h.1 p hp).chg hc hd, h.2⟩
theorem Fam.below {w w' : World} {lo hi : Nat} {L : List (Value × List Int)} (h : Fam w lo hi L) (hb : Below w.heap.size w w') : Fam w' lo hi L := ⟨fun p hp => (h.1 p hp).below hb, h.2⟩
theorem Fam.turn {w w' : World} {lo hi : Nat} {L1 L2 : List (Value × List Int)} {v : Value} {l l' : List Int} (h : Fam w lo hi (L1 ++ (v, l) :: L2)) (ho : OwnI w' lo v l') (hg : w.grownBy w' v.ownBlock) : Fam w' lo hi (L1 ++ (v, l') :: L2) := by
  obtain ⟨h1, h2⟩ := h
  rw [List.pairwise_append, List.pairwise_cons] at h2
  obtain ⟨p1, ⟨p2, p3⟩, p4⟩ := h2
  refine ⟨fun p hp => ?_, ?_⟩
  · rcases List.mem_append.1 hp with hp | hp
    · have := h1 p (by simp [hp])
      have hne := p4 p hp (v, l) (by simp)
      exact ⟨this.1.kept hg hne, this.2⟩
    · rcases List.mem_cons.1 hp with rfl | hp
      · exact ⟨ho, (h1 (v, l) (by simp)).2⟩
      · have := h1 p (by simp [hp])
        have hne := p2 p hp
        refine ⟨this.1.kept hg ?_, this.2⟩
        rcases hne with hne | hne
        · rcases hpb : p.1.ownBlock with _ | b
          · exact .inl rfl
          · exact .inr (by rw [show v.ownBlock = none from hne]; simp)
        · exact .inr (fun e => hne e.symm)
  · rw [List.pairwise_append, List.pairwise_cons]
    exact ⟨p1, ⟨p2, p3⟩, fun a ha b hb => by
      rcases List.mem_cons.1 hb with rfl | hb
      · exact p4 a ha (v, l) (by simp)
      · exact p4 a ha b (by simp [hb])⟩

theorem Fam.app {w w' : World} {lo hi : Nat} {L1 L2 : List (Value × List Int)} {v v' : Value} {l l' : List Int} (h : Fam w lo hi (L1 ++ (v, l) :: L2)) (hh : hi ≤ w'.heap.size) (ho : OwnI w' lo v' l') (hg : w.grownBy w' v.ownBlock) (hv : v'.ownBlock = v.ownBlock ∨ v'.ownBlock = some w.heap.size) :
    Fam w' lo w'.heap.size (L1 ++ (v', l') :: L2) := by
  obtain ⟨h1, h2⟩ := h
  rw [List.pairwise_append, List.pairwise_cons] at h2
  obtain ⟨p1, ⟨p2, p3⟩, p4⟩ := h2
  have new : ∀ p ∈ L1 ++ (v, l) :: L2, p.1.ownBlock ≠ some w.heap.size := fun p hp e => by
    have := ((h1 p hp).1.lt _ e).2
    omega
  refine ⟨fun p hp => ?_, ?_⟩
  · rcases List.mem_append.1 hp with hp | hp
    · have := h1 p (by simp [hp])
      exact ⟨this.1.kept hg (p4 p hp (v, l) (by simp)), fun k hk => Nat.lt_of_lt_of_le (this.2 k hk) hh⟩
    · rcases List.mem_cons.1 hp with rfl | hp
      · exact IntsO.of_own ho
      · have := h1 p (by simp [hp])
        have hne := p2 p hp
        refine ⟨this.1.kept hg ?_, fun k hk => Nat.lt_of_lt_of_le (this.2 k hk) hh⟩
        rcases hne with hne | hne
        · rcases hpb : p.1.ownBlock with _ | b
          · exact .inl rfl
          · exact .inr (by rw [show v.ownBlock = none from hne]; simp)
        · exact .inr (fun e => hne e.symm)
  · rw [List.pairwise_append, List.pairwise_cons]
    refine ⟨p1, ⟨fun q hq => ?_, p3⟩, fun a ha b hb => ?_⟩
    · show v'.ownBlock = none ∨ v'.ownBlock ≠ q.1.ownBlock
      rcases hv with e | e <;> rw [e]
      · exact p2 q hq
      · exact .inr (fun e => new q (by simp [hq]) e.symm)
    · rcases List.mem_cons.1 hb with rfl | hb
      · show a.1.ownBlock = none ∨ a.1.ownBlock ≠ v'.ownBlock
        rcases hv with e | e <;> rw [e]
        · exact p4 a ha (v, l) (by simp)
        · exact .inr (new a (by simp [ha]))
      · exact p4 a ha b (by simp [hb])

theorem Fam.setBlk {w : World} {lo hi g i : Nat} {L : List (Value × List Int)} {t : TypeId} {cs : Array Value} (h : Fam w lo hi L) (hb : Blk w g t cs) (ht : 3 ≠ t) (u : Value) : Fam (w.setCell ⟨g, i, none⟩ u) lo hi L :=
  ⟨fun p hp => ⟨(h.1 p hp).1.setCell (p := ⟨g, i, none⟩) (fun e => (h.1 p hp).1.blkne hb ht e.symm) u, (h.1 p hp).2⟩, h.2⟩
theorem Fam.mono {w : World} {lo hi lo' hi' : Nat} {L : List (Value × List Int)} (h : Fam w lo hi L) (h1 : lo' ≤ lo) (h2 : hi ≤ hi') : Fam w lo' hi' L :=
  ⟨fun p hp => ⟨(h.1 p hp).1.lower h1, fun k hk => Nat.lt_of_lt_of_le ((h.1 p hp).2 k hk) h2⟩, h.2⟩

/-! ### quivers -/
def QuivO (w : World) (lo hi : Nat) (val : Value) (q : Qv) : Prop := ∃ a b, val = .agg #[.int .i64 q.v, a, b] ∧ Fam w lo hi [(a, q.f), (b, q.t)] ∧ I64 q.v
theorem QvR.form {w : World} {B : Nat} {v : Value} {q : Qv} (h : QvR w B v q) : ∃ A c C d, v = .agg #[.int .i64 q.v, .slice A q.f.length c, .slice C q.t.length d] := by
  obtain ⟨A, c, C, d, e, _⟩ := h.open_
  exact ⟨A, c, C, d, e⟩
theorem QvR.lens {w : World} {B : Nat} {v : Value} {q : Qv} (h : QvR w B v q) : q.f.length ≤ 17592186044416 ∧ q.t.length ≤ 17592186044416 := by
  obtain ⟨A, c, C, d, e, _, _, _, h1, h2⟩ := h.open_
  exact ⟨h1, h2⟩
theorem QuivO.rd {w : World} {lo hi : Nat} {v : Value} {q : Qv} (h : QuivO w lo hi v q) : QvR w w.heap.size v q := by
  obtain ⟨a, b, e, h1, h2⟩ := h
  exact ⟨a, b, e, (h1.1 (a, q.f) (by simp)).rd, (h1.1 (b, q.t) (by simp)).rd, h2⟩
theorem QuivO.form {w : World} {lo hi : Nat} {v : Value} {q : Qv} (h : QuivO w lo hi v q) : ∃ A c C d, v = .agg #[.int .i64 q.v, .slice A q.f.length c, .slice C q.t.length d] := h.rd.form
theorem QuivO.chg {w w' : World} {lo hi lo' hi' : Nat} {v : Value} {q : Qv} (h : QuivO w lo hi v q) (hc : Chg lo' hi' w w') (hd : hi ≤ lo' ∨ hi' ≤ lo) : QuivO w' lo hi v q := by
  obtain ⟨a, b, e, h1, h2⟩ := h
  exact ⟨a, b, e, h1.chg hc hd, h2⟩
theorem QuivO.below {w w' : World} {lo hi : Nat} {v : Value} {q : Qv} (h : QuivO w lo hi v q) (hb : Below w.heap.size w w') : QuivO w' lo hi v q := by
  obtain ⟨a, b, e, h1, h2⟩ := h
  exact ⟨a, b, e, h1.below hb, h2⟩
theorem QvR.chg {w w' : World} {B lo hi : Nat} {v : Value} {q : Qv} (h : QvR w B v q) (hc : Chg lo hi w w') (hB : B ≤ lo) (hs : B ≤ w.heap.size) : QvR w' B v q := QvR.below (hc.below hB hs) h
def QuivO.mk (k : Int) (q : Qv) : Qv := ⟨q.v, mkI k q.f.length, mkI (k + q.f.length) q.t.length⟩
def Qv.size (q : Qv) : Nat := q.f.length + q.t.length

set_option maxHeartbeats 400000 in
theorem quiv_mark (v : Value) (q : Qv) (k : Int) (lo hi : Nat) (w : World) (hv : QuivO w lo hi v q) (hh : hi ≤ w.heap.size) (h0 : 0 ≤ k) (h1 : k ≤ 1125899906842624) :
    Calls Try.prog 21 #[v, .int .i64 k] w fun e w' => e = .returned (.int .i64 (k + q.size)) ∧ QuivO w' lo hi v (QuivO.mk k q) ∧ Chg lo hi w w' := by
  obtain ⟨a, b, rfl, hF, hr⟩ := hv
  have fa : OwnI w lo a q.f := (hF.1 (a, q.f) (by simp)).1
  have fb : OwnI w lo b q.t := (hF.1 (b, q.t) (by simp)).1
  obtain ⟨A, c, rfl, _, _⟩ := fa.form
  obtain ⟨C, d, rfl, _, _⟩ := fb.form
  have la := fa.2.1
  have lb := fb.2.1
  have g0 := below_alloc w (.cells #[.int .i64 q.v, .slice A q.f.length c, .slice C q.t.length d] 26)
  have hF0 := hF.below g0
  go_enter Try.func21, Try.ntmps21
  go_wp2_with fail
  refine (markIntS_any _ _ _ lo _ (hF0.1 (_, q.f) (by simp)).1 h0 (by omega)).mono ?_; rintro e w1 ⟨rfl, ho1, hg1⟩
  have hF1 := hF0.turn (L1 := []) ho1 hg1
  have hc1 := chg_of_grown (hF0.1 (_, q.f) (by simp)) hg1
  have cB := ((Blk.new w 26 #[.int .i64 q.v, .slice A q.f.length c, .slice C q.t.length d]).chg hc1 (.inr hh)).cell' (i := 2) rfl
  clear hF hF0 ho1 hg1 fa fb
  go_wp2_with fail
  refine (markIntS_any _ _ _ lo _ (hF1.1 (_, q.t) (by simp)).1 (by omega) (by omega)).mono ?_; rintro e w2 ⟨rfl, ho2, hg2⟩
  have hF2 := hF1.turn (L1 := [(_, mkI k q.f.length)]) ho2 hg2
  have hc2 := chg_of_grown (hF1.1 (_, q.t) (by simp)) hg2
  go_wp2
  go_ret
  refine ⟨?_, ⟨_, _, ?_, hF2, hr⟩, (Chg.of_below g0).trans (hc1.trans hc2)⟩
  · have e : k + (q.size : Int) = k + q.f.length + q.t.length := by simp only [Qv.size]; omega
    rw [e]; rfl
  · simp [QuivO.mk, mkI_length]

set_option maxHeartbeats 400000 in
theorem quiv_held (v : Value) (q : Qv) (k : Int) (w : World) (hv : QvR w w.heap.size v (QuivO.mk k q)) (h0 : 0 ≤ k) (h1 : k ≤ 1125899906842624) :
    Calls Try.prog 69 #[v, .int .i64 k] w fun e w' => e = .returned (.int .i64 (k + q.size)) ∧ Below w.heap.size w w' := by
  obtain ⟨A, c, C, d, rfl, hf, ht, _, lf, lt⟩ := hv.open_
  clear hv
  simp only [QuivO.mk] at hf ht lf lt ⊢
  have lf' := lf
  have lt' := lt
  rw [mkI_length] at lf' lt'
  have g0 := below_alloc w (.cells #[.int .i64 q.v, .slice A (mkI k q.f.length).length c, .slice C (mkI (k + q.f.length) q.t.length).length d] 26)
  have n1 : ¬ (k + (q.f.length : Int) < 0) := by omega
  have n2 : ¬ (k + (q.f.length : Int) + q.t.length < 0) := by omega
  go_enter Try.func69, Try.ntmps69
  go_wp2_with fail
  refine (heldIntS_any _ _ _ _ _ (SlI.next g0 hf) h0 (by omega)).mono ?_; rintro e w1 ⟨rfl, hb1⟩
  have g1 := bthen g0 hb1
  have cB := ((Blk.new w 26 #[.int .i64 q.v, .slice A (mkI k q.f.length).length c, .slice C (mkI (k + q.f.length) q.t.length).length d]).call hb1).cell' (i := 2) rfl
  go_wp2_with fail
  refine (heldIntS_any _ _ _ _ _ (SlI.next g1 ht) (by omega) (by omega)).mono ?_; rintro e w2 ⟨rfl, hb2⟩
  go_wp2
  go_ret
  have e : k + (q.size : Int) = k + q.f.length + q.t.length := by simp only [Qv.size]; omega
  exact ⟨by rw [e]; rfl, bthen g1 hb2⟩

theorem ints_to (u : Value) (xs : List Int) (w : World) (hu : SlI w w.heap.size u xs) (hn : xs.length ≤ 1048576) :
    Calls Try.prog 34 #[u] w fun e w' => ∃ v, e = .returned v ∧ IntsO w' w.heap.size w'.heap.size v xs ∧ Below w.heap.size w w' :=
  (toIntS_own u xs w hu hn).mono fun _ _ ⟨v, h1, h2, h3⟩ => ⟨v, h1, IntsO.of_own h2, h3⟩

theorem IntsO.wider {w : World} {lo hi lo' hi' : Nat} {v : Value} {l : List Int} (h : IntsO w lo hi v l) (h1 : lo' ≤ lo) (h2 : hi ≤ hi') : IntsO w lo' hi' v l := ⟨h.1.lower h1, fun k hk => Nat.lt_of_lt_of_le (h.2 k hk) h2⟩
theorem IntsO.set {w : World} {lo hi : Nat} {v : Value} {l : List Int} (h : IntsO w lo hi v l) {p : Addr} (hp : p.block < lo) (u : Value) : IntsO (w.setCell p u) lo hi v l :=
  ⟨h.1.setCell (fun e => by have := (h.1.lt _ e).1; omega) u, h.2⟩
/-- two rows of two stretches of memory -/
theorem fam_two {w : World} {lo mi hi : Nat} {a b : Value} {l m : List Int} (ha : IntsO w lo mi a l) (hb : IntsO w mi hi b m) (h1 : lo ≤ mi) (h2 : mi ≤ hi) : Fam w lo hi [(a, l), (b, m)] := by
  refine ⟨fun p hp => ?_, ?_⟩
  · simp only [List.mem_cons, List.not_mem_nil, or_false] at hp
    rcases hp with rfl | rfl
    · exact ha.wider (Nat.le_refl _) h2
    · exact hb.wider h1 (Nat.le_refl _)
  · refine List.pairwise_cons.2 ⟨fun q hq => ?_, List.pairwise_cons.2 ⟨fun q hq => absurd hq (by simp), List.Pairwise.nil⟩⟩
    simp only [List.mem_cons, List.not_mem_nil, or_false] at hq
    subst hq
    show a.ownBlock = none ∨ a.ownBlock ≠ b.ownBlock
    rcases hA : a.ownBlock with _ | x
    · exact .inl rfl
    · right
      intro e
      have := ha.2 x hA
      have := (hb.1.lt x e.symm).1
      omega

set_option maxHeartbeats 400000 in
theorem quiv_to (u : Value) (q : Qv) (w : World) (hu : QvR w w.heap.size u q) (hn : q.size ≤ 1048576) :
    Calls Try.prog 17 #[u] w fun e w' => ∃ v, e = .returned v ∧ QuivO w' w.heap.size w'.heap.size v q ∧ Below w.heap.size w w' := by
  obtain ⟨A, c, C, d, rfl, hf, ht, hr, _, _⟩ := hu.open_
  clear hu
  unfold Qv.size at hn
  obtain ⟨Wa, hWa⟩ : ∃ W, W = (w.alloc (.cells #[.int .i64 q.v, .slice A q.f.length c, .slice C q.t.length d] 24)).alloc (.cells #[.int .i64 0, .slice none 0 0, .slice none 0 0] 26) := ⟨_, rfl⟩
  obtain ⟨Wb, hWb⟩ : ∃ W, W = Wa.alloc (.cells #[.int .i64 q.v, .slice none 0 0, .slice none 0 0] 26) := ⟨_, rfl⟩
  have za : Wa.heap.size = w.heap.size + 1 + 1 := by rw [hWa]; simp
  have zb : Wb.heap.size = w.heap.size + 1 + 1 + 1 := by rw [hWb]; simp [za]
  have kp : Blk Wb w.heap.size 24 #[.int .i64 q.v, .slice A q.f.length c, .slice C q.t.length d] := by rw [hWb, hWa]; exact ((Blk.new _ _ _).alloc _).alloc _
  have kr : Blk Wb (w.heap.size + 1) 26 #[.int .i64 0, .slice none 0 0, .slice none 0 0] := by
    rw [hWb, hWa]
    have := (Blk.new (w.alloc (.cells #[.int .i64 q.v, .slice A q.f.length c, .slice C q.t.length d] 24)) 26 #[.int .i64 0, .slice none 0 0, .slice none 0 0]).alloc (.cells #[.int .i64 q.v, .slice none 0 0, .slice none 0 0] 26)
    simpa only [World.size_alloc] using this
  have ko : Blk Wb (w.heap.size + 1 + 1) 26 #[.int .i64 q.v, .slice none 0 0, .slice none 0 0] := by
    rw [hWb, ← za]; exact Blk.new _ _ _
  have gb : Below w.heap.size w Wb := by rw [hWb, hWa]; exact (((Below.refl _ _).alloc (Nat.le_refl _) _).alloc (by simp) _).alloc (by simp; omega) _
  have ZA := Lib.hid za
  have ZB := Lib.hid zb
  clear za zb
  go_enter Try.func17, Try.ntmps17
  go_wp2_with fail
  rw [← hWa, ← hWb]
  clear hWa hWb
  refine (ints_to _ _ _ (SlI.next gb hf) (by omega)).mono ?_; rintro e w1 ⟨a, rfl, ha, hb1⟩
  obtain ⟨A1, c1, rfl, _, _⟩ := ha.1.form
  have kp1 := kp.call hb1
  have ko1 := ko.call hb1
  have kr1 := kr.call hb1
  have p2 := kp1.cell' (i := 2) rfl
  have o1 := ko1.cell' (i := 1) rfl
  have fo := ko1.frozen
  have g1 := bthen gb hb1
  have sz1 := ZB.out
  have s1 := hb1.size
  have gs : Below w.heap.size w (w1.setCell ⟨w.heap.size + 1 + 1, 1, none⟩ (.slice A1 q.f.length c1)) := g1.setCell (by simp; omega) _
  have ha' : IntsO (w1.setCell ⟨w.heap.size + 1 + 1, 1, none⟩ (.slice A1 q.f.length c1)) Wb.heap.size w1.heap.size (.slice A1 q.f.length c1) q.f :=
    ⟨ha.1.setCell (fun e => by have := (ha.1.lt _ e).1; simp at this; omega) _, ha.2⟩
  clear sz1 s1
  go_wp2_with fail
  clear p2 o1 fo
  obtain ⟨Wc, hWc⟩ : ∃ W, W = w1.setCell ⟨w.heap.size + 1 + 1, 1, none⟩ (.slice A1 q.f.length c1) := ⟨_, rfl⟩
  have zc : Wc.heap.size = w1.heap.size := by rw [hWc]; simp
  have kr' : Blk Wc (w.heap.size + 1) 26 #[.int .i64 0, .slice none 0 0, .slice none 0 0] := by rw [hWc]; exact kr1.far (by simp) _
  have ko' : Blk Wc (w.heap.size + 1 + 1) 26 #[.int .i64 q.v, .slice A1 q.f.length c1, .slice none 0 0] := by rw [hWc]; exact ko1.set_ 1 _
  rw [← hWc] at gs ha' ⊢
  clear hWc kr1 ko1 kp1 kp kr ko
  refine (ints_to _ _ _ (SlI.next gs ht) (by omega)).mono ?_; rintro e w2 ⟨b, rfl, hb, hb2⟩
  obtain ⟨C1, d1, rfl, _, _⟩ := hb.1.form
  have ko2 := ko'.call hb2
  have kr2 := kr'.call hb2
  have o0 := ko2.cell' (i := 0) rfl
  have o1 := ko2.cell' (i := 1) rfl
  have o2 := ko2.cell' (i := 2) rfl
  have fo := ko2.frozen
  have r0 := kr2.cell' (i := 0) rfl
  have r1 := kr2.cell' (i := 1) rfl
  have r2 := kr2.cell' (i := 2) rfl
  have fr := kr2.frozen
  have ZC := Lib.hid zc
  clear zc
  go_wp2
  have zb := ZB.out
  have zc := ZC.out
  have s1 := hb1.size
  have s2 := hb2.size
  have g2 := bthen gs hb2
  refine bodyPost_ret (v := .agg #[.int .i64 q.v, .slice A1 q.f.length c1, .slice C1 q.t.length d1]) (by simp [results, go_sem, r0, r1, r2]) rfl ⟨_, rfl, ⟨_, _, rfl, fam_two (mi := Wc.heap.size) ?_ ?_ (by omega) (by simp; omega), hr⟩, (((g2.setCell (by simp; omega) _).setCell (by simp) _).setCell (by simp) _).setCell (by simp) _⟩
  · have h3 : IntsO w2 Wb.heap.size w1.heap.size (.slice A1 q.f.length c1) q.f := ha'.below hb2
    exact ((((h3.set (by simp; omega) _).set (by simp; omega) _).set (by simp; omega) _).set (by simp; omega) _).wider (by omega) (by omega)
  · exact ((((hb.set (by simp; omega) _).set (by simp; omega) _).set (by simp; omega) _).set (by simp; omega) _).wider (by omega) (by simp)

theorem szQuiver_any (u : Value) (q : Qv) (left : Int) (w : World) (hu : QvR w w.heap.size u q) (h0 : 0 ≤ left) (h1 : left ≤ 1048576) :
    Calls Try.prog 15 #[u, .int .i64 left] w fun e w' => e = .returned (.int .i64 (szLeft left q.size)) ∧ Below w.heap.size w w' := by
  obtain ⟨A, c, C, d, rfl, hf, ht, hr, lf, lt⟩ := hu.open_
  clear hu hr
  have cB := (Blk.new w 24 #[.int .i64 q.v, .slice A q.f.length c, .slice C q.t.length d]).cell' (i := 2) rfl
  have g0 := below_alloc w (.cells #[.int .i64 q.v, .slice A q.f.length c, .slice C q.t.length d] 24)
  by_cases h2 : left < q.f.length
  · have s1 : szLeft left q.f.length = -1 := by rw [szLeft, if_pos h2]
    have e : szLeft left q.size = -1 := by rw [szLeft, if_pos (by simp only [Qv.size]; omega)]
    rw [e]
    clear e
    go_enter Try.func15, Try.ntmps15
    go_wp2_with fail
    refine (szIntS_any _ _ _ _ _ lf h0 h1).mono ?_; rintro e w' ⟨rfl, rfl⟩
    go_wp2
    go_ret
    exact ⟨rfl, g0⟩
  · have s1 : szLeft left q.f.length = left - q.f.length := by rw [szLeft, if_neg h2]
    have n1 : ¬ left - (q.f.length : Int) < 0 := by omega
    by_cases h3 : left - q.f.length < q.t.length
    · have s2 : szLeft (left - q.f.length) q.t.length = -1 := by rw [szLeft, if_pos h3]
      have e : szLeft left q.size = -1 := by rw [szLeft, if_pos (by simp only [Qv.size]; omega)]
      rw [e]
      clear e
      go_enter Try.func15, Try.ntmps15
      go_wp2_with fail
      refine (szIntS_any _ _ _ _ _ lf h0 h1).mono ?_; rintro e w' ⟨rfl, rfl⟩
      go_wp2_with fail
      refine (szIntS_any _ _ _ _ _ lt (by omega) (by omega)).mono ?_; rintro e w' ⟨rfl, rfl⟩
      go_wp2
      go_ret
      exact ⟨rfl, g0⟩
    · have s2 : szLeft (left - q.f.length) q.t.length = left - q.f.length - q.t.length := by rw [szLeft, if_neg h3]
      have n2 : ¬ left - (q.f.length : Int) - q.t.length < 0 := by omega
      have e : szLeft left q.size = left - q.f.length - q.t.length := by rw [szLeft, if_neg (by simp only [Qv.size]; omega)]; simp only [Qv.size]; omega
      rw [e]
      clear e
      go_enter Try.func15, Try.ntmps15
      go_wp2_with fail
      refine (szIntS_any _ _ _ _ _ lf h0 h1).mono ?_; rintro e w' ⟨rfl, rfl⟩
      go_wp2_with fail
      refine (szIntS_any _ _ _ _ _ lt (by omega) (by omega)).mono ?_; rintro e w' ⟨rfl, rfl⟩
      go_wp2
      go_ret
      exact ⟨rfl, g0⟩
end Go.Proofs.Ytjhllgldllbaaaa
