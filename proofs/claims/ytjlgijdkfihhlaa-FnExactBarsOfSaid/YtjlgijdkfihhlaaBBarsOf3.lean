/- FnExactBarsOf: for every argument the program's function returns what the reference's returns. Part 3 of 8 of the proof: KitR, Copy2, Zero, Flat, Mat, Mat2, Mat3, RepSz, RepAt, SS, Chgs, Ident, AppS, SSO, RowAt, RowZ. No condition. -/
import Derived.Test.YtjlgijdkfihhlaaBBarsOf2
/- What every law goes through: representations. -/
namespace Go.Proofs.Ytjlgijdkfihhlaa
set_option linter.unusedVariables false
set_option linter.unusedSimpArgs false
open Go.RowKit

theorem chg_set {w : World} {lo hi : Nat} {p : Addr} {u : Value} (h1 : lo ≤ p.block) (h2 : p.block < hi) : Chg lo hi w (w.setCell p u) :=
  ⟨rfl, rfl, rfl, by simp [World.setCell], fun k hk hne => Below.heap_setCell _ _ _ _ (by intro e; omega)⟩
/-- two families, the later one in later memory -/
theorem Fam.join {w : World} {lo mi hi : Nat} {L1 L2 : List (Value × List Int)} (h : Fam w lo mi L1) (k : Fam w mi hi L2) (h1 : lo ≤ mi) (h2 : mi ≤ hi) : Fam w lo hi (L1 ++ L2) := by
  refine ⟨fun p hp => ?_, ?_⟩
  · rcases List.mem_append.1 hp with hp | hp
    · exact (h.1 p hp).wider (Nat.le_refl _) h2
    · exact (k.1 p hp).wider h1 (Nat.le_refl _)
  · rw [List.pairwise_append]
    refine ⟨h.2, k.2, fun a ha b hb => ?_⟩
    rcases hA : a.1.ownBlock with _ | x
    · exact .inl rfl
    · right
      intro e
      have := (h.1 a ha).2 x hA
      have := ((k.1 b hb).1.lt x e.symm).1
      omega
theorem Fam.one {w : World} {lo hi : Nat} {v : Value} {l : List Int} (h : IntsO w lo hi v l) : Fam w lo hi [(v, l)] := ⟨fun p hp => by rw [List.mem_singleton] at hp; subst hp; exact h, by simp⟩

/-- A representation as data. -/
structure Rp where
  p : Int
  q : Qv
  d : List Int
  m : List Mx
deriving DecidableEq
theorem rp_ext (x y : Rp) : (x = y) ↔ (x.p = y.p ∧ x.q = y.q ∧ x.d = y.d ∧ x.m = y.m) := by
  cases x; cases y; simp
def Rp.size (x : Rp) : Nat := x.q.size + x.d.length + szM x.m

def RpR (w : World) (B : Nat) (val : Value) (x : Rp) : Prop := ∃ f t d m, val = .agg #[.int .i64 x.p, .int .i64 x.q.v, f, t, d, m] ∧ SlI w B f x.q.f ∧ SlI w B t x.q.t ∧ SlI w B d x.d ∧ SlM w B m x.m ∧ I64 x.p ∧ I64 x.q.v
theorem RpR.below {w w' : World} {B : Nat} {v : Value} {x : Rp} (hb : Below B w w') (h : RpR w B v x) : RpR w' B v x := by
  obtain ⟨f, t, d, m, e, h1, h2, h3, h4, h5⟩ := h
  exact ⟨f, t, d, m, e, SlI.below hb h1, SlI.below hb h2, SlI.below hb h3, SlM.below hb h4, h5⟩
theorem RpR.more {w : World} {B B' : Nat} {v : Value} {x : Rp} (hB : B ≤ B') (h : RpR w B v x) : RpR w B' v x := by
  obtain ⟨f, t, d, m, e, h1, h2, h3, h4, h5⟩ := h
  exact ⟨f, t, d, m, e, SlI.more hB h1, SlI.more hB h2, SlI.more hB h3, SlM.more hB h4, h5⟩
theorem RpR.next {w w' : World} {v : Value} {x : Rp} (hb : Below w.heap.size w w') (h : RpR w w.heap.size v x) : RpR w' w'.heap.size v x := RpR.more hb.size (RpR.below hb h)
theorem RpR.chg {w w' : World} {B lo hi : Nat} {v : Value} {x : Rp} (h : RpR w B v x) (hc : Chg lo hi w w') (hB : B ≤ lo) (hs : B ≤ w.heap.size) : RpR w' B v x := RpR.below (hc.below hB hs) h
theorem RpR.open_ {w : World} {B : Nat} {v : Value} {x : Rp} (h : RpR w B v x) : ∃ A a C c E e H h, v = .agg #[.int .i64 x.p, .int .i64 x.q.v, .slice A x.q.f.length a, .slice C x.q.t.length c, .slice E x.d.length e, .slice H x.m.length h] ∧
    QvR w B (.agg #[.int .i64 x.q.v, .slice A x.q.f.length a, .slice C x.q.t.length c]) x.q ∧ SlI w B (.slice E x.d.length e) x.d ∧ SlM w B (.slice H x.m.length h) x.m ∧ I64 x.p ∧ x.d.length ≤ 17592186044416 ∧ x.m.length ≤ 17592186044416 := by
  obtain ⟨f, t, d, m, rfl, h1, h2, h3, h4, h5, h6⟩ := h
  obtain ⟨A, a, rfl, _, _, _, h1⟩ := h1.open_
  obtain ⟨C, c, rfl, _, _, _, h2⟩ := h2.open_
  obtain ⟨E, e, rfl, _, _, l1, h3⟩ := h3.open_
  obtain ⟨H, h, rfl, _, _, l2, h4⟩ := h4.open_
  exact ⟨A, a, C, c, E, e, H, h, rfl, ⟨_, _, rfl, h1, h2, h6⟩, h3, h4, h5, l1, l2⟩
theorem RpR.form {w : World} {B : Nat} {v : Value} {x : Rp} (h : RpR w B v x) : ∃ A a C c E e H h, v = .agg #[.int .i64 x.p, .int .i64 x.q.v, .slice A x.q.f.length a, .slice C x.q.t.length c, .slice E x.d.length e, .slice H x.m.length h] := by
  obtain ⟨A, a, C, c, E, e, H, h, e, _⟩ := h.open_
  exact ⟨A, a, C, c, E, _, H, h, e⟩
theorem RpR.lens {w : World} {B : Nat} {v : Value} {x : Rp} (h : RpR w B v x) : x.q.f.length ≤ 17592186044416 ∧ x.q.t.length ≤ 17592186044416 ∧ x.d.length ≤ 17592186044416 ∧ x.m.length ≤ 17592186044416 := by
  obtain ⟨A, a, C, c, E, e, H, h, _, hq, _, _, _, l1, l2⟩ := h.open_
  obtain ⟨l3, l4⟩ := hq.lens
  exact ⟨l3, l4, l1, l2⟩

def RepO (w : World) (lo hi : Nat) (val : Value) (x : Rp) : Prop := ∃ f t d m vs, val = .agg #[.int .i64 x.p, .int .i64 x.q.v, f, t, d, m] ∧ OutM w lo hi m vs x.m ∧ vs.length = x.m.length ∧
  Fam w lo hi ([(f, x.q.f), (t, x.q.t), (d, x.d)] ++ vs.zip (x.m.map Mx.a)) ∧ (I64 x.p ∧ I64 x.q.v) ∧ ∀ m ∈ x.m, I64 m.r ∧ I64 m.c
theorem RepO.rd {w : World} {lo hi : Nat} {v : Value} {x : Rp} (h : RepO w lo hi v x) : RpR w w.heap.size v x := by
  obtain ⟨f, t, d, m, vs, e, h1, h2, h3, h4, h5⟩ := h
  exact ⟨f, t, d, m, e, (h3.1 (f, _) (by simp)).rd, (h3.1 (t, _) (by simp)).rd, (h3.1 (d, _) (by simp)).rd, OutM.rd h1 h2 (fun p hp => (h3.1 p (by simp [hp])).rd) h5, h4⟩
theorem RepO.form {w : World} {lo hi : Nat} {v : Value} {x : Rp} (h : RepO w lo hi v x) : ∃ A a C c E e H h, v = .agg #[.int .i64 x.p, .int .i64 x.q.v, .slice A x.q.f.length a, .slice C x.q.t.length c, .slice E x.d.length e, .slice H x.m.length h] := h.rd.form
theorem RepO.chg {w w' : World} {lo hi lo' hi' : Nat} {v : Value} {x : Rp} (h : RepO w lo hi v x) (hc : Chg lo' hi' w w') (hd : hi ≤ lo' ∨ hi' ≤ lo) : RepO w' lo hi v x := by
  obtain ⟨f, t, d, m, vs, e, h1, h2, h3, h4⟩ := h
  exact ⟨f, t, d, m, vs, e, h1.chg hc hd, h2, h3.chg hc hd, h4⟩
theorem RepO.below {w w' : World} {lo hi : Nat} {v : Value} {x : Rp} (h : RepO w lo hi v x) (hb : Below w.heap.size w w') : RepO w' lo hi v x := by
  obtain ⟨f, t, d, m, vs, e, h1, h2, h3, h4⟩ := h
  exact ⟨f, t, d, m, vs, e, h1.below hb, h2, h3.below hb, h4⟩
theorem RepO.wider {w : World} {lo hi lo' hi' : Nat} {v : Value} {x : Rp} (h : RepO w lo hi v x) (k1 : lo' ≤ lo) (k2 : hi ≤ hi') : RepO w lo' hi' v x := by
  obtain ⟨f, t, d, m, vs, e, h1, h2, h3, h4⟩ := h
  exact ⟨f, t, d, m, vs, e, h1.mono k1 k2, h2, h3.mono k1 k2, h4⟩
def RepO.mk (k : Int) (x : Rp) : Rp := ⟨x.p, QuivO.mk k x.q, mkI (k + x.q.size) x.d.length, mkMS (k + x.q.size + x.d.length) x.m⟩
def Rp.marks (x : Rp) : Nat := x.q.size + x.d.length + totM x.m
/-- the representation of nothing -/
def rp0 : Rp := ⟨0, ⟨0, [], []⟩, [], []⟩
theorem RepO.zero (w : World) (lo hi : Nat) : RepO w lo hi (.agg #[.int .i64 0, .int .i64 0, .slice none 0 0, .slice none 0 0, .slice none 0 0, .slice none 0 0]) rp0 :=
  ⟨_, _, _, _, [], rfl, RowO.nil _ w lo hi, rfl, ⟨fun p hp => by
    simp only [rp0, List.zip_nil_left, List.append_nil, List.mem_cons, List.not_mem_nil, or_false] at hp
    rcases hp with rfl | rfl | rfl <;> exact ⟨OwnI.nil _ _, by simp [Value.ownBlock]⟩, by simp [Value.ownBlock]⟩, by simp [rp0, I64], fun m hm => by simp [rp0] at hm⟩


set_option maxHeartbeats 800000 in
theorem eqRep_any (u v : Value) (x y : Rp) (w : World) (hu : RpR w w.heap.size u x) (hv : RpR w w.heap.size v y) :
    Calls Try.prog 20 #[u, v] w fun e w' => e = .returned (.bool (decide (x = y))) ∧ Below w.heap.size w w' := by
  obtain ⟨A, a, C, c, E, e, H, h, rfl, hq, hd, hm, _, _, _⟩ := hu.open_
  obtain ⟨A', a', C', c', E', e', H', h', rfl, hq', hd', hm', _, _, _⟩ := hv.open_
  clear hu hv
  obtain ⟨W, hW⟩ : ∃ W, W = (w.alloc (.cells #[.int .i64 x.p, .int .i64 x.q.v, .slice A x.q.f.length a, .slice C x.q.t.length c, .slice E x.d.length e, .slice H x.m.length h] 35)).alloc (.cells #[.int .i64 y.p, .int .i64 y.q.v, .slice A' y.q.f.length a', .slice C' y.q.t.length c', .slice E' y.d.length e', .slice H' y.m.length h'] 35) := ⟨_, rfl⟩
  have g0 : Below w.heap.size w W := by rw [hW]; exact ((Below.refl _ _).alloc (Nat.le_refl _) _).alloc (by simp) _
  have k1 : Blk W w.heap.size 35 #[.int .i64 x.p, .int .i64 x.q.v, .slice A x.q.f.length a, .slice C x.q.t.length c, .slice E x.d.length e, .slice H x.m.length h] := by rw [hW]; exact (Blk.new _ _ _).alloc _
  have k2 : Blk W (w.heap.size + 1) 35 #[.int .i64 y.p, .int .i64 y.q.v, .slice A' y.q.f.length a', .slice C' y.q.t.length c', .slice E' y.d.length e', .slice H' y.m.length h'] := by
    rw [hW]
    have := Blk.new (w.alloc (.cells #[.int .i64 x.p, .int .i64 x.q.v, .slice A x.q.f.length a, .slice C x.q.t.length c, .slice E x.d.length e, .slice H x.m.length h] 35)) 35 #[.int .i64 y.p, .int .i64 y.q.v, .slice A' y.q.f.length a', .slice C' y.q.t.length c', .slice E' y.d.length e', .slice H' y.m.length h']
    simpa only [World.size_alloc] using this
  replace hq := QvR.next g0 hq
  replace hq' := QvR.next g0 hq'
  replace hd := SlI.next g0 hd
  replace hd' := SlI.next g0 hd'
  replace hm := SlM.next g0 hm
  replace hm' := SlM.next g0 hm'
  by_cases h1 : x.p = y.p
  · have e1 : (x.p != y.p) = false := by rw [h1]; simp
    have H1 := Lib.hid h1
    clear h1
    by_cases h2 : x.q = y.q
    · have e2 : decide (x.q = y.q) = true := by simpa using h2
      have H2 := Lib.hid h2
      clear h2
      by_cases h3 : x.d = y.d
      · have e3 : decide (x.d = y.d) = true := by simpa using h3
        have H3 := Lib.hid h3
        clear h3
        obtain ⟨B, hB⟩ : ∃ B, decide (x.m = y.m) = B := ⟨_, rfl⟩
        have hfin : decide (x = y) = B := by
          rw [← hB, decide_eq_decide, rp_ext]
          exact ⟨fun h => h.2.2.2, fun h => ⟨H1.out, H2.out, H3.out, h⟩⟩
        rw [hfin]
        have HB := Lib.hid hB
        clear hfin hB
        go_enter Try.func20, Try.ntmps20
        go_wp2_with fail
        rw [← hW]; clear hW
        refine (eqQuiver_any _ _ _ _ _ hq hq').mono ?_; rintro e w1 ⟨rfl, hb1⟩
        clear hq hq'
        replace g0 := bthen g0 hb1
        replace hd := SlI.next hb1 hd
        replace hd' := SlI.next hb1 hd'
        replace hm := SlM.next hb1 hm
        replace hm' := SlM.next hb1 hm'
        replace k1 := k1.call hb1
        replace c0 := k1.cell' (i := 0) rfl
        replace c1 := k1.cell' (i := 1) rfl
        replace c2 := k1.cell' (i := 2) rfl
        replace c3 := k1.cell' (i := 3) rfl
        replace c4 := k1.cell' (i := 4) rfl
        replace c5 := k1.cell' (i := 5) rfl
        replace k2 := k2.call hb1
        replace d0 := k2.cell' (i := 0) rfl
        replace d1 := k2.cell' (i := 1) rfl
        replace d2 := k2.cell' (i := 2) rfl
        replace d3 := k2.cell' (i := 3) rfl
        replace d4 := k2.cell' (i := 4) rfl
        replace d5 := k2.cell' (i := 5) rfl
        clear hb1
        go_wp2_with fail
        refine (eqIntS_any _ _ _ _ _ hd hd').mono ?_; rintro e w_1 ⟨rfl, hb_1⟩
        replace g0 := bthen g0 hb_1
        replace hd := SlI.next hb_1 hd
        replace hd' := SlI.next hb_1 hd'
        replace hm := SlM.next hb_1 hm
        replace hm' := SlM.next hb_1 hm'
        replace k1 := k1.call hb_1
        replace c0 := k1.cell' (i := 0) rfl
        replace c1 := k1.cell' (i := 1) rfl
        replace c2 := k1.cell' (i := 2) rfl
        replace c3 := k1.cell' (i := 3) rfl
        replace c4 := k1.cell' (i := 4) rfl
        replace c5 := k1.cell' (i := 5) rfl
        replace k2 := k2.call hb_1
        replace d0 := k2.cell' (i := 0) rfl
        replace d1 := k2.cell' (i := 1) rfl
        replace d2 := k2.cell' (i := 2) rfl
        replace d3 := k2.cell' (i := 3) rfl
        replace d4 := k2.cell' (i := 4) rfl
        replace d5 := k2.cell' (i := 5) rfl
        go_wp2_with fail
        refine (eqMatrixS_any _ _ _ _ _ hm hm').mono ?_; rintro e w_2 ⟨rfl, hb_2⟩
        replace g0 := bthen g0 hb_2
        replace hd := SlI.next hb_2 hd
        replace hd' := SlI.next hb_2 hd'
        replace hm := SlM.next hb_2 hm
        replace hm' := SlM.next hb_2 hm'
        replace k1 := k1.call hb_2
        replace c0 := k1.cell' (i := 0) rfl
        replace c1 := k1.cell' (i := 1) rfl
        replace c2 := k1.cell' (i := 2) rfl
        replace c3 := k1.cell' (i := 3) rfl
        replace c4 := k1.cell' (i := 4) rfl
        replace c5 := k1.cell' (i := 5) rfl
        replace k2 := k2.call hb_2
        replace d0 := k2.cell' (i := 0) rfl
        replace d1 := k2.cell' (i := 1) rfl
        replace d2 := k2.cell' (i := 2) rfl
        replace d3 := k2.cell' (i := 3) rfl
        replace d4 := k2.cell' (i := 4) rfl
        replace d5 := k2.cell' (i := 5) rfl
        rw [HB.out]
        clear hd hd' hm hm' k1 k2
        go_wp2
        all_goals (go_ret; simp_all)
      · have e3 : decide (x.d = y.d) = false := by simpa using h3
        have hfin : decide (x = y) = false := by
          simp only [decide_eq_false_iff_not, rp_ext]
          exact fun h => h3 h.2.2.1
        rw [hfin]
        clear hfin h3
        go_enter Try.func20, Try.ntmps20
        go_wp2_with fail
        rw [← hW]; clear hW
        refine (eqQuiver_any _ _ _ _ _ hq hq').mono ?_; rintro e w1 ⟨rfl, hb1⟩
        clear hq hq'
        replace g0 := bthen g0 hb1
        replace hd := SlI.next hb1 hd
        replace hd' := SlI.next hb1 hd'
        replace k1 := k1.call hb1
        replace c0 := k1.cell' (i := 0) rfl
        replace c1 := k1.cell' (i := 1) rfl
        replace c2 := k1.cell' (i := 2) rfl
        replace c3 := k1.cell' (i := 3) rfl
        replace c4 := k1.cell' (i := 4) rfl
        replace c5 := k1.cell' (i := 5) rfl
        replace k2 := k2.call hb1
        replace d0 := k2.cell' (i := 0) rfl
        replace d1 := k2.cell' (i := 1) rfl
        replace d2 := k2.cell' (i := 2) rfl
        replace d3 := k2.cell' (i := 3) rfl
        replace d4 := k2.cell' (i := 4) rfl
        replace d5 := k2.cell' (i := 5) rfl
        clear hb1
        go_wp2_with fail
        refine (eqIntS_any _ _ _ _ _ hd hd').mono ?_; rintro e w_3 ⟨rfl, hb_3⟩
        replace g0 := bthen g0 hb_3
        replace hd := SlI.next hb_3 hd
        replace hd' := SlI.next hb_3 hd'
        replace k1 := k1.call hb_3
        replace c0 := k1.cell' (i := 0) rfl
        replace c1 := k1.cell' (i := 1) rfl
        replace c2 := k1.cell' (i := 2) rfl
        replace c3 := k1.cell' (i := 3) rfl
        replace c4 := k1.cell' (i := 4) rfl
        replace c5 := k1.cell' (i := 5) rfl
        replace k2 := k2.call hb_3
        replace d0 := k2.cell' (i := 0) rfl
        replace d1 := k2.cell' (i := 1) rfl
        replace d2 := k2.cell' (i := 2) rfl
        replace d3 := k2.cell' (i := 3) rfl
        replace d4 := k2.cell' (i := 4) rfl
        replace d5 := k2.cell' (i := 5) rfl
        go_wp2
        go_ret
        exact ⟨rfl, g0⟩
    · have e2 : decide (x.q = y.q) = false := by simpa using h2
      have hfin : decide (x = y) = false := by
        simp only [decide_eq_false_iff_not, rp_ext]
        exact fun h => h2 h.2.1
      rw [hfin]
      clear hfin h2
      go_enter Try.func20, Try.ntmps20
      go_wp2_with fail
      rw [← hW]; clear hW
      refine (eqQuiver_any _ _ _ _ _ hq hq').mono ?_; rintro e w1 ⟨rfl, hb1⟩
      go_wp2
      go_ret
      exact ⟨rfl, bthen g0 hb1⟩
  · have e1 : (x.p != y.p) = true := by simpa using h1
    have hfin : decide (x = y) = false := by
      simp only [decide_eq_false_iff_not, rp_ext]
      exact fun h => h1 h.1
    rw [hfin]
    clear hfin h1
    go_enter Try.func20, Try.ntmps20
    go_wp2
    rw [← hW]
    go_ret
    exact ⟨rfl, g0⟩

set_option maxHeartbeats 800000 in
theorem szRep_any (u : Value) (x : Rp) (left : Int) (w : World) (hu : RpR w w.heap.size u x) (h0 : 0 ≤ left) (h1 : left ≤ 1048576) :
    Calls Try.prog 15 #[u, .int .i64 left] w fun e w' => e = .returned (.int .i64 (szLeft left x.size)) ∧ Below w.heap.size w w' := by
  obtain ⟨A, a, C, c, E, e, H, h, rfl, hq, hd, hm, _, ld, _⟩ := hu.open_
  clear hu
  obtain ⟨W, hW⟩ : ∃ W, W = w.alloc (.cells #[.int .i64 x.p, .int .i64 x.q.v, .slice A x.q.f.length a, .slice C x.q.t.length c, .slice E x.d.length e, .slice H x.m.length h] 27) := ⟨_, rfl⟩
  have g0 : Below w.heap.size w W := by rw [hW]; exact below_alloc _ _
  have k1 : Blk W w.heap.size 27 #[.int .i64 x.p, .int .i64 x.q.v, .slice A x.q.f.length a, .slice C x.q.t.length c, .slice E x.d.length e, .slice H x.m.length h] := by rw [hW]; exact Blk.new _ _ _
  replace hq := QvR.next g0 hq
  replace hm := SlM.next g0 hm
  by_cases h2 : left < x.q.size
  · have s1 : szLeft left x.q.size = -1 := by rw [szLeft, if_pos h2]
    have e : szLeft left x.size = -1 := by rw [szLeft, if_pos (by simp only [Rp.size]; omega)]
    rw [e]
    clear e
    go_enter Try.func15, Try.ntmps15
    go_wp2_with fail
    rw [← hW]; clear hW
    refine (szQuiver_any _ _ _ _ hq h0 h1).mono ?_; rintro e w1 ⟨rfl, hb1⟩
    rw [s1]
    go_wp2
    go_ret
    exact ⟨rfl, bthen g0 hb1⟩
  · have s1 : szLeft left x.q.size = left - x.q.size := by rw [szLeft, if_neg h2]
    have n1 : ¬ left - (x.q.size : Int) < 0 := by omega
    by_cases h3 : left - x.q.size < x.d.length
    · have s2 : szLeft (left - x.q.size) x.d.length = -1 := by rw [szLeft, if_pos h3]
      have e : szLeft left x.size = -1 := by rw [szLeft, if_pos (by simp only [Rp.size]; omega)]
      rw [e]
      clear e
      go_enter Try.func15, Try.ntmps15
      go_wp2_with fail
      rw [← hW]; clear hW
      refine (szQuiver_any _ _ _ _ hq h0 h1).mono ?_; rintro e w1 ⟨rfl, hb1⟩
      rw [s1]
      clear hq hm
      replace g0 := bthen g0 hb1
      replace k1 := k1.call hb1
      replace c0 := k1.cell' (i := 0) rfl
      replace c1 := k1.cell' (i := 1) rfl
      replace c2 := k1.cell' (i := 2) rfl
      replace c3 := k1.cell' (i := 3) rfl
      replace c4 := k1.cell' (i := 4) rfl
      replace c5 := k1.cell' (i := 5) rfl
      clear hb1
      go_wp2_with fail
      refine (szIntS_any _ _ _ _ _ ld (by omega) (by omega)).mono ?_; rintro e w' ⟨rfl, rfl⟩
      go_wp2
      go_ret
      exact ⟨rfl, g0⟩
    · have s2 : szLeft (left - x.q.size) x.d.length = left - x.q.size - x.d.length := by rw [szLeft, if_neg h3]
      have n2 : ¬ left - (x.q.size : Int) - x.d.length < 0 := by omega
      obtain ⟨z, hz⟩ : ∃ z, szM x.m = z := ⟨_, rfl⟩
      by_cases h4 : left - x.q.size - x.d.length < z
      · have s3 : szLeft (left - x.q.size - x.d.length) z = -1 := by rw [szLeft, if_pos h4]
        have e : szLeft left x.size = -1 := by rw [szLeft, if_pos (by simp only [Rp.size]; omega)]
        rw [e]
        clear e
        go_enter Try.func15, Try.ntmps15
        go_wp2_with fail
        rw [← hW]; clear hW
        refine (szQuiver_any _ _ _ _ hq h0 h1).mono ?_; rintro e w1 ⟨rfl, hb1⟩
        rw [s1]
        clear hq
        replace g0 := bthen g0 hb1
        replace hm := SlM.next hb1 hm
        replace k1 := k1.call hb1
        replace c0 := k1.cell' (i := 0) rfl
        replace c1 := k1.cell' (i := 1) rfl
        replace c2 := k1.cell' (i := 2) rfl
        replace c3 := k1.cell' (i := 3) rfl
        replace c4 := k1.cell' (i := 4) rfl
        replace c5 := k1.cell' (i := 5) rfl
        clear hb1
        go_wp2_with fail
        refine (szIntS_any _ _ _ _ _ ld (by omega) (by omega)).mono ?_; rintro e w' ⟨rfl, rfl⟩
        go_wp2_with fail
        refine (szMatrixS_any _ _ (left - x.q.size - x.d.length) _ hm (by omega) (by omega)).mono ?_; rintro e w2 ⟨rfl, hb2⟩
        rw [hz]
        go_wp2
        go_ret
        exact ⟨rfl, bthen g0 hb2⟩
      · have s3 : szLeft (left - x.q.size - x.d.length) z = left - x.q.size - x.d.length - z := by rw [szLeft, if_neg h4]
        have n3 : ¬ left - (x.q.size : Int) - x.d.length - z < 0 := by omega
        have e : szLeft left x.size = left - x.q.size - x.d.length - z := by rw [szLeft, if_neg (by simp only [Rp.size]; omega)]; simp only [Rp.size]; omega
        rw [e]
        clear e
        go_enter Try.func15, Try.ntmps15
        go_wp2_with fail
        rw [← hW]; clear hW
        refine (szQuiver_any _ _ _ _ hq h0 h1).mono ?_; rintro e w1 ⟨rfl, hb1⟩
        rw [s1]
        clear hq
        replace g0 := bthen g0 hb1
        replace hm := SlM.next hb1 hm
        replace k1 := k1.call hb1
        replace c0 := k1.cell' (i := 0) rfl
        replace c1 := k1.cell' (i := 1) rfl
        replace c2 := k1.cell' (i := 2) rfl
        replace c3 := k1.cell' (i := 3) rfl
        replace c4 := k1.cell' (i := 4) rfl
        replace c5 := k1.cell' (i := 5) rfl
        clear hb1
        go_wp2_with fail
        refine (szIntS_any _ _ _ _ _ ld (by omega) (by omega)).mono ?_; rintro e w' ⟨rfl, rfl⟩
        go_wp2_with fail
        refine (szMatrixS_any _ _ (left - x.q.size - x.d.length) _ hm (by omega) (by omega)).mono ?_; rintro e w2 ⟨rfl, hb2⟩
        rw [hz]
        go_wp2
        go_ret
        exact ⟨rfl, bthen g0 hb2⟩
end Go.Proofs.Ytjlgijdkfihhlaa

/- Copies of quivers on both sides, of matrices on the program's. -/
namespace Go.Proofs.Ytjlgijdkfihhlaa
set_option linter.unusedVariables false
set_option linter.unusedSimpArgs false
open Go.RowKit

theorem IntsO.form {w : World} {lo hi : Nat} {v : Value} {l : List Int} (h : IntsO w lo hi v l) : ∃ A c, v = .slice A l.length c := by
  obtain ⟨A, c, e, _⟩ := h.1.form
  exact ⟨A, c, e⟩
theorem QuivO.setLow {w : World} {lo hi : Nat} {v : Value} {q : Qv} (h : QuivO w lo hi v q) {p : Addr} (hp : p.block < lo) (u : Value) : QuivO (w.setCell p u) lo hi v q :=
  h.chg (chg_set (lo := p.block) (hi := p.block + 1) (Nat.le_refl _) (by omega)) (.inr (by omega))
theorem QuivO.wider {w : World} {lo hi lo' hi' : Nat} {v : Value} {q : Qv} (h : QuivO w lo hi v q) (h1 : lo' ≤ lo) (h2 : hi ≤ hi') : QuivO w lo' hi' v q := by
  obtain ⟨a, b, e, hF, hr⟩ := h
  exact ⟨a, b, e, hF.mono h1 h2, hr⟩

set_option maxHeartbeats 800000 in
theorem mxClone_any (u : Value) (m : Mx) (w0 : World) (hu : MxR w0 w0.heap.size u m) :
    Calls Try.prog 202 #[u] w0 fun e w' => ∃ v, e = .returned v ∧ MxO w' w0.heap.size w'.heap.size v m ∧ Below w0.heap.size w0 w' := by
  obtain ⟨A, c, rfl, hf, hr, hc, lf⟩ := hu.open_
  clear hu
  obtain ⟨W, hW⟩ : ∃ W, W = (w0.alloc (.cells #[.int .i64 m.r, .int .i64 m.c, .slice A m.a.length c] 95)).alloc (.cells #[.int .i64 0, .int .i64 0, .slice none 0 0] 95) := ⟨_, rfl⟩
  have g0 : Below w0.heap.size w0 W := by rw [hW]; exact ((Below.refl _ _).alloc (Nat.le_refl _) _).alloc (by simp) _
  have k1 : Blk W w0.heap.size 95 #[.int .i64 m.r, .int .i64 m.c, .slice A m.a.length c] := by rw [hW]; exact (Blk.new _ _ _).alloc _
  have k2 : Blk W (w0.heap.size + 1) 95 #[.int .i64 0, .int .i64 0, .slice none 0 0] := by
    rw [hW]
    have := Blk.new (w0.alloc (.cells #[.int .i64 m.r, .int .i64 m.c, .slice A m.a.length c] 95)) 95 #[.int .i64 0, .int .i64 0, .slice none 0 0]
    simpa only [World.size_alloc] using this
  have sz : W.heap.size = w0.heap.size + 1 + 1 := by rw [hW]; simp
  have SZ := Lib.hid sz
  clear sz
  replace hf := SlI.next g0 hf
  go_enter Try.func202, Try.ntmps202
  go_wp2_with fail
  rw [← hW]; clear hW
  refine (clone_own _ m.a _ hf).mono ?_; rintro e w1 ⟨v, rfl, ho, hb1⟩
  obtain ⟨A', c', rfl⟩ := ho.form
  have k1' := k1.call hb1
  have k2' := k2.call hb1
  have f1 := k1'.frozen
  have f2 := k2'.frozen
  have q0 := k1'.cell' (i := 0) rfl
  have q1 := k1'.cell' (i := 1) rfl
  have q2 := k1'.cell' (i := 2) rfl
  have r0 := k2'.cell' (i := 0) rfl
  have r1 := k2'.cell' (i := 1) rfl
  have r2 := k2'.cell' (i := 2) rfl
  have gf := g0.trans (hb1.mono g0.size)
  have hbs := hb1.size
  have HBS := Lib.hid hbs
  clear k1 k2 hbs hb1 hf
  go_wp2
  have sz := SZ.out
  have hbs := HBS.out
  refine bodyPost_ret (v := .agg #[.int .i64 m.r, .int .i64 m.c, .slice A' m.a.length c']) (by simp [results, go_sem, r0, r1, r2]) rfl ⟨_, rfl, ⟨_, rfl, ?_, hr, hc⟩, (((gf.setCell (by simp) _).setCell (by simp) _).setCell (by simp) _).setCell (by simp) _⟩
  exact ((((ho.set (by simp; omega) _).set (by simp; omega) _).set (by simp; omega) _).set (by simp; omega) _).wider (by omega) (by simp)

/-- two rows of two stretches that are apart -/
theorem fam_apart {w : World} {lo hi l1 h1 l2 h2 : Nat} {a b : Value} {l m : List Int} (ha : IntsO w l1 h1 a l) (hb : IntsO w l2 h2 b m) (hd : h1 ≤ l2 ∨ h2 ≤ l1) (k1 : lo ≤ l1) (k2 : lo ≤ l2) (k3 : h1 ≤ hi) (k4 : h2 ≤ hi) : Fam w lo hi [(a, l), (b, m)] := by
  refine ⟨fun p hp => ?_, ?_⟩
  · simp only [List.mem_cons, List.not_mem_nil, or_false] at hp
    rcases hp with rfl | rfl
    · exact ha.wider k1 k3
    · exact hb.wider k2 k4
  · simp only [List.pairwise_cons, List.mem_cons, List.not_mem_nil, or_false, forall_eq, false_implies, implies_true, List.Pairwise.nil, and_true]
    rcases hA : a.ownBlock with _ | x
    · exact .inl rfl
    · right
      intro e
      have h3 := ha.2 x hA
      have h4 := (ha.1.lt x hA).1
      have h5 := hb.2 x e.symm
      have h6 := (hb.1.lt x e.symm).1
      omega

/-- a quiver whose rows the call made; whether they are apart from one another is not said -/
def QuivI (w : World) (lo hi : Nat) (val : Value) (q : Qv) : Prop := ∃ a b, val = .agg #[.int .i64 q.v, a, b] ∧ IntsO w lo hi a q.f ∧ IntsO w lo hi b q.t ∧ I64 q.v
theorem QuivI.below {w w' : World} {lo hi : Nat} {v : Value} {q : Qv} (h : QuivI w lo hi v q) (hb : Below w.heap.size w w') : QuivI w' lo hi v q := by
  obtain ⟨a, b, e, h1, h2, h3⟩ := h
  exact ⟨a, b, e, h1.below hb, h2.below hb, h3⟩
theorem QuivI.rd {w : World} {lo hi : Nat} {v : Value} {q : Qv} (h : QuivI w lo hi v q) : QvR w w.heap.size v q := by
  obtain ⟨a, b, e, h1, h2, h3⟩ := h
  exact ⟨a, b, e, h1.rd, h2.rd, h3⟩
theorem QuivI.set {w : World} {lo hi : Nat} {v : Value} {q : Qv} (h : QuivI w lo hi v q) {p : Addr} (hp : p.block < lo) (u : Value) : QuivI (w.setCell p u) lo hi v q := by
  obtain ⟨a, b, e, h1, h2, h3⟩ := h
  exact ⟨a, b, e, h1.set hp u, h2.set hp u, h3⟩
theorem QuivI.wider {w : World} {lo hi lo' hi' : Nat} {v : Value} {q : Qv} (h : QuivI w lo hi v q) (k1 : lo' ≤ lo) (k2 : hi ≤ hi') : QuivI w lo' hi' v q := by
  obtain ⟨a, b, e, h1, h2, h3⟩ := h
  exact ⟨a, b, e, h1.wider k1 k2, h2.wider k1 k2, h3⟩

end Go.Proofs.Ytjlgijdkfihhlaa

/- Matrices of zeros; append of a matrix onto a row of the call's own. -/
namespace Go.Proofs.Ytjlgijdkfihhlaa
set_option linter.unusedVariables false
set_option linter.unusedSimpArgs false
open Go.RowKit

def zmx (r c : Int) : Mx := ⟨r, c, List.replicate (r * c).toNat 0⟩

set_option maxHeartbeats 800000 in
theorem zero_any (r c : Int) (w : World) (hr : 0 ≤ r) (hc : 0 ≤ c) (hr2 : r ≤ 1000) (hc2 : c ≤ 1000) :
    Calls Try.prog 147 #[.int .i64 r, .int .i64 c] w fun e w' => ∃ v, e = .returned v ∧ MxO w' w.heap.size w'.heap.size v (zmx r c) ∧ Below w.heap.size w w' := by
  obtain ⟨n, rfl⟩ := Int.eq_ofNat_of_zero_le hr
  obtain ⟨m, rfl⟩ := Int.eq_ofNat_of_zero_le hc
  obtain ⟨N, hN⟩ : ∃ N, n * m = N := ⟨_, rfl⟩
  have hNb : N ≤ 1000000 := by
    have : n * m ≤ 1000 * 1000 := Nat.mul_le_mul (by omega) (by omega)
    omega
  have hmul : (n : Int) * m = (N : Int) := by rw [← hN]; simp
  have hw : wrap64 ((n : Int) * m) = (N : Int) := by rw [hmul]; exact IntWalk.wrap64_in _ ⟨by omega, by omega⟩
  have hZ : zmx n m = ⟨n, m, List.replicate N 0⟩ := by rw [zmx, hmul]; rfl
  rw [hZ]
  obtain ⟨i0, hi, hz0, hz1, hz2⟩ := info_parts infoInt
  have hmk := run_mk (P := Try.prog) Try.underlying22 hi hz0 (n := N) (by rw [hz2]; omega) (by omega)
  rw [hz1] at hmk
  have hN1 : (0 : Int) ≤ (n : Int) * m := by omega
  have hN2 : (n : Int) * m ≤ 1000000 := by omega
  clear hi hz0 hz1 hz2 hN hZ
  obtain ⟨W, hW⟩ : ∃ W, W = (w.alloc (.cells #[.int .i64 n, .int .i64 m, .slice (some ⟨w.heap.size + 1, 0, none⟩) N N] 95)).alloc (.cells (mkCells (.int .i64 0) N) 3) := ⟨_, rfl⟩
  have g0 : Below w.heap.size w W := by rw [hW]; exact ((Below.refl _ _).alloc (Nat.le_refl _) _).alloc (by simp) _
  have k1 : Blk W w.heap.size 95 #[.int .i64 n, .int .i64 m, .slice (some ⟨w.heap.size + 1, 0, none⟩) N N] := by rw [hW]; exact (Blk.new _ _ _).alloc _
  have ho : OwnI W (w.heap.size + 1) (.slice (some ⟨w.heap.size + 1, 0, none⟩) N N) (List.replicate N 0) := by
    rw [hW]
    have := OwnI.made0 (w := w.alloc (.cells #[.int .i64 n, .int .i64 m, .slice (some ⟨w.heap.size + 1, 0, none⟩) N N] 95)) (base := w.heap.size + 1) (N := N) (by simp) (by omega)
    simpa only [World.size_alloc] using this
  have r0 := k1.cell' (i := 0) rfl
  have r1 := k1.cell' (i := 1) rfl
  have r2 := k1.cell' (i := 2) rfl
  have HO := Lib.hid ho
  clear ho k1
  rw [Nat.mul_one] at hmk
  go_enter Try.func147, Try.ntmps147
  go_wp2
  rw [← hW]
  exact bodyPost_ret (v := .agg #[.int .i64 n, .int .i64 m, .slice (some ⟨w.heap.size + 1, 0, none⟩) N N]) (by simp [results, go_sem, r0, r1, r2]) rfl ⟨_, rfl, ⟨_, by simp, (IntsO.of_own HO.out).wider (by omega) (Nat.le_refl _), by simp only [I64]; omega, by simp only [I64]; omega⟩, g0⟩
set_option maxHeartbeats 800000 in
theorem l3Zero_any (r c : Int) (w : World) (hr : 0 ≤ r) (hc : 0 ≤ c) (hr2 : r ≤ 1000) (hc2 : c ≤ 1000) :
    Calls Try.prog 168 #[.int .i64 r, .int .i64 c] w fun e w' => ∃ v, e = .returned v ∧ MxO w' w.heap.size w'.heap.size v (zmx r c) ∧ Below w.heap.size w w' := by
  obtain ⟨n, rfl⟩ := Int.eq_ofNat_of_zero_le hr
  obtain ⟨m, rfl⟩ := Int.eq_ofNat_of_zero_le hc
  obtain ⟨N, hN⟩ : ∃ N, n * m = N := ⟨_, rfl⟩
  have hNb : N ≤ 1000000 := by
    have : n * m ≤ 1000 * 1000 := Nat.mul_le_mul (by omega) (by omega)
    omega
  have hmul : (n : Int) * m = (N : Int) := by rw [← hN]; simp
  have hw : wrap64 ((n : Int) * m) = (N : Int) := by rw [hmul]; exact IntWalk.wrap64_in _ ⟨by omega, by omega⟩
  have hZ : zmx n m = ⟨n, m, List.replicate N 0⟩ := by rw [zmx, hmul]; rfl
  rw [hZ]
  obtain ⟨i0, hi, hz0, hz1, hz2⟩ := info_parts infoInt
  have hmk := run_mk (P := Try.prog) Try.underlying22 hi hz0 (n := N) (by rw [hz2]; omega) (by omega)
  rw [hz1] at hmk
  have hN1 : (0 : Int) ≤ (n : Int) * m := by omega
  have hN2 : (n : Int) * m ≤ 1000000 := by omega
  clear hi hz0 hz1 hz2 hN hZ
  obtain ⟨W, hW⟩ : ∃ W, W = (w.alloc (.cells #[.int .i64 n, .int .i64 m, .slice (some ⟨w.heap.size + 1, 0, none⟩) N N] 95)).alloc (.cells (mkCells (.int .i64 0) N) 3) := ⟨_, rfl⟩
  have g0 : Below w.heap.size w W := by rw [hW]; exact ((Below.refl _ _).alloc (Nat.le_refl _) _).alloc (by simp) _
  have k1 : Blk W w.heap.size 95 #[.int .i64 n, .int .i64 m, .slice (some ⟨w.heap.size + 1, 0, none⟩) N N] := by rw [hW]; exact (Blk.new _ _ _).alloc _
  have ho : OwnI W (w.heap.size + 1) (.slice (some ⟨w.heap.size + 1, 0, none⟩) N N) (List.replicate N 0) := by
    rw [hW]
    have := OwnI.made0 (w := w.alloc (.cells #[.int .i64 n, .int .i64 m, .slice (some ⟨w.heap.size + 1, 0, none⟩) N N] 95)) (base := w.heap.size + 1) (N := N) (by simp) (by omega)
    simpa only [World.size_alloc] using this
  have r0 := k1.cell' (i := 0) rfl
  have r1 := k1.cell' (i := 1) rfl
  have r2 := k1.cell' (i := 2) rfl
  have HO := Lib.hid ho
  clear ho k1
  rw [Nat.mul_one] at hmk
  go_enter Try.func168, Try.ntmps168
  go_wp2
  rw [← hW]
  exact bodyPost_ret (v := .agg #[.int .i64 n, .int .i64 m, .slice (some ⟨w.heap.size + 1, 0, none⟩) N N]) (by simp [results, go_sem, r0, r1, r2]) rfl ⟨_, rfl, ⟨_, by simp, (IntsO.of_own HO.out).wider (by omega) (Nat.le_refl _), by simp only [I64]; omega, by simp only [I64]; omega⟩, g0⟩

/-! ### an append onto a row of elements T: what it leaves alone -/
structure AppT (T : TypeId) (lo : Nat) (w w' : World) : Prop where
  os : w'.os = w.os
  tape : w'.tape = w.tape
  output : w'.output = w.output
  size : w.heap.size ≤ w'.heap.size
  low : ∀ k, k < lo → k < w.heap.size → w'.heap[k]? = w.heap[k]?
  other : ∀ g t cs, t ≠ T → Blk w g t cs → Blk w' g t cs
theorem AppT.of_below {T : TypeId} {lo : Nat} {w w' : World} (h : Below w.heap.size w w') : AppT T lo w w' := ⟨h.os, h.tape, h.output, h.size, fun k _ hk => h.block k hk, fun _ _ _ _ hb => hb.call h⟩
theorem AppT.trans {T : TypeId} {lo : Nat} {a b c : World} (h : AppT T lo a b) (k : AppT T lo b c) : AppT T lo a c :=
  ⟨k.os.trans h.os, k.tape.trans h.tape, k.output.trans h.output, Nat.le_trans h.size k.size, fun i hi hs => (k.low i hi (Nat.lt_of_lt_of_le hs h.size)).trans (h.low i hi hs), fun g t cs ht hb => k.other g t cs ht (h.other g t cs ht hb)⟩
theorem AppT.below {T : TypeId} {lo B : Nat} {w w' : World} (h : AppT T lo w w') (hB : B ≤ lo) (hs : B ≤ w.heap.size) : Below B w w' := ⟨h.os, h.tape, h.output, h.size, fun k hk => h.low k (by omega) (by omega)⟩
theorem OwnI.appT {T : TypeId} {lo base : Nat} {w w' : World} {v : Value} {l : List Int} (h : OwnI w base v l) (hT : 3 ≠ T) (ha : AppT T lo w w') : OwnI w' base v l := by
  refine ⟨⟨h.1.1, ?_⟩, h.2⟩
  rcases h.1.2 with h1 | ⟨g, cap, cur, e, hg, hh, rest⟩
  · exact .inl h1
  · exact .inr ⟨g, cap, cur, e, hg, ha.other g _ cur hT hh, rest⟩
theorem IntsO.appT {T : TypeId} {lo l1 h1 : Nat} {w w' : World} {v : Value} {l : List Int} (h : IntsO w l1 h1 v l) (hT : 3 ≠ T) (ha : AppT T lo w w') : IntsO w' l1 h1 v l := ⟨h.1.appT hT ha, h.2⟩
theorem Fam.appT {T : TypeId} {lo l1 h1 : Nat} {w w' : World} {L : List (Value × List Int)} (h : Fam w l1 h1 L) (hT : 3 ≠ T) (ha : AppT T lo w w') : Fam w' l1 h1 L := ⟨fun p hp => (h.1 p hp).appT hT ha, h.2⟩
theorem AppT.set {T T' : TypeId} {lo g i : Nat} {w : World} {cs : Array Value} {u : Value} (hb : Blk w g T' cs) (hT : T' = T) (hg : lo ≤ g) : AppT T lo w (w.setCell ⟨g, i, none⟩ u) := by
  subst hT
  refine ⟨rfl, rfl, rfl, by simp [World.setCell], fun k hk _ => Below.heap_setCell _ _ _ _ (by simp; omega), fun g' t cs' ht hb' => ?_⟩
  refine hb'.far ?_ u
  rintro rfl
  unfold Blk at hb hb'
  rw [hb] at hb'
  injection hb' with hb'
  injection hb' with _ hb'
  exact ht hb'.symm

/-- append of one matrix, out of the row of one element that Go lays first -/
theorem wpList_appM {w : World} {ops : Array Oper} {rest : List Oper} {o : Oper} {a : Act} {Q : Exit → Act → World → Prop} (hgd : o.guard = none) (s x : Operand)
    (ho : o.op = .call { callee := .builtin .append, args := #[s, x], argTypes := #[33, 33] })
    (lo hi : Nat) (v : Value) (vs : List Value) (ms : List Mx) (hs : a.eval s = v) (hown : OutM w lo hi v vs ms) (hl : vs.length = ms.length) (g c : Nat) (m : Mx) (u : Value) (hx : a.eval x = .slice (some ⟨g, 0, none⟩) 1 c) (hg : Blk w g 95 #[.int .i64 m.r, .int .i64 m.c, u]) (hu : u.oneCell' = true)
    (hn : ms.length ≤ 1000000) (hlo : lo ≤ w.heap.size)
    (h : ∀ v' w', OutM w' lo w'.heap.size v' (vs ++ [u]) (ms ++ [m]) → AppT 95 lo w w' → wpList Try.prog ops Q rest (a.put o.dst v') w') : wpList Try.prog ops Q (o :: rest) a w := by
  obtain ⟨i0, hi', hz0, hz1, hz2⟩ := info_parts infoMx
  have hcs := mxCs_snoc vs ms u m hl
  refine wpList_append_G w hgd s x _ ho lo 95 i0 _ 3 40 Try.underlying33 hi' hz0 hz1 hz2 rfl (by decide) v ms.length _ hs hown.1 _ 1 c [.int .i64 m.r, .int .i64 m.c, u] hx ⟨rfl, .inr ⟨g, 0, rfl, fun j y hj => ?_⟩⟩ ?_ (by simp only [maxLen]; omega) (by omega) hlo fun v' w' h1 h2 h3 => ?_
  · have hj3 := lt_of_some hj
    simp only [List.length_cons, List.length_nil] at hj3
    rw [Nat.zero_add]
    match j, hj with
    | 0, hj => rw [hg.cell]; exact hj
    | 1, hj => rw [hg.cell]; exact hj
    | 2, hj => rw [hg.cell]; exact hj
    | j + 3, hj => omega
  · intro y hy
    simp only [List.mem_cons, List.not_mem_nil, or_false] at hy
    rcases hy with rfl | rfl | rfl
    · rfl
    · rfl
    · exact hu
  · refine h v' w' ⟨?_, fun k hk => ?_, by simp; omega⟩ ⟨h2.os, h2.tape, h2.output, h2.size, fun k hk hks => h2.block k hks (fun e => ?_), fun g' t cs ht hb => hb.grown h2 (fun e => ?_)⟩
    · rw [hcs, List.length_append]
      exact h1
    · exact (h1.lt k hk).2
    · have := (hown.1.lt k e.symm).1
      omega
    · rcases hown.1.2 with ⟨rfl, _⟩ | ⟨g2, cap, cur, rfl, _, hh, _⟩
      · simp [Value.ownBlock] at e
      · have : g' = g2 := by simpa [Value.ownBlock] using e
        subst this
        unfold Blk at hb
        rw [hh] at hb
        injection hb with hb
        injection hb with _ hb
        exact ht hb.symm
end Go.Proofs.Ytjlgijdkfihhlaa

/- Matrices told by a function of the two places: cells in one row. -/
namespace Go.Proofs.Ytjlgijdkfihhlaa
set_option linter.unusedVariables false
set_option linter.unusedSimpArgs false
open Go.RowKit

theorem ix_div {i k c : Nat} (hk : k < c) : (i * c + k) / c = i := by
  rw [Nat.mul_comm, Nat.mul_add_div (by omega), Nat.div_eq_of_lt hk, Nat.add_zero]
theorem ix_mod {i k c : Nat} (hk : k < c) : (i * c + k) % c = k := by
  rw [Nat.mul_comm, Nat.mul_add_mod, Nat.mod_eq_of_lt hk]
theorem ix_lt {i k r c : Nat} (hi : i < r) (hk : k < c) : i * c + k < r * c := by
  have : (i + 1) * c ≤ r * c := Nat.mul_le_mul_right _ hi
  rw [Nat.add_mul] at this
  omega
theorem ix_of {j r c : Nat} (hj : j < r * c) : ∃ i k, i < r ∧ k < c ∧ j = i * c + k := by
  have hc : 0 < c := Nat.pos_of_ne_zero (by rintro rfl; simp at hj)
  refine ⟨j / c, j % c, (Nat.div_lt_iff_lt_mul hc).2 hj, Nat.mod_lt _ hc, ?_⟩
  rw [Nat.mul_comm]; exact (Nat.div_add_mod j c).symm
theorem ix_inj {i k i' k' c : Nat} (hk : k < c) (hk' : k' < c) (h : i * c + k = i' * c + k') : i = i' ∧ k = k' := by
  have h1 := ix_div (i := i) hk
  have h2 := ix_mod (i := i) hk
  rw [h, ix_div hk'] at h1
  rw [h, ix_mod hk'] at h2
  exact ⟨h1.symm, h2.symm⟩

def flat (r c : Nat) (f : Nat → Nat → Int) : List Int := (List.range (r * c)).map fun j => f (j / c) (j % c)
theorem flat_length (r c : Nat) (f : Nat → Nat → Int) : (flat r c f).length = r * c := by simp [flat]
theorem flat_get {r c i k : Nat} (f : Nat → Nat → Int) (hi : i < r) (hk : k < c) : (flat r c f)[i * c + k]? = some (f i k) := by
  simp [flat, ix_lt hi hk, ix_div hk, ix_mod hk]
theorem flat_getD {r c i k : Nat} (f : Nat → Nat → Int) (hi : i < r) (hk : k < c) : (flat r c f).getD (i * c + k) 0 = f i k := by
  rw [List.getD_eq_getElem?_getD, flat_get f hi hk]; rfl
theorem flat_ext {r c : Nat} {l : List Int} {f : Nat → Nat → Int} (hl : l.length = r * c) (h : ∀ i k, i < r → k < c → l[i * c + k]? = some (f i k)) : l = flat r c f := by
  apply List.ext_getElem?
  intro j
  by_cases hj : j < r * c
  · obtain ⟨i, k, hi, hk, rfl⟩ := ix_of hj
    rw [h i k hi hk, flat_get f hi hk]
  · rw [List.getElem?_eq_none (by omega), List.getElem?_eq_none (by rw [flat_length]; omega)]
theorem flat_congr {r c : Nat} {f g : Nat → Nat → Int} (h : ∀ a b, a < r → b < c → f a b = g a b) : flat r c f = flat r c g :=
  flat_ext (flat_length _ _ _) fun i k hi hk => by rw [flat_get f hi hk, h i k hi hk]
theorem flat_inj {r c : Nat} {f g : Nat → Nat → Int} (h : flat r c f = flat r c g) {a b : Nat} (ha : a < r) (hb : b < c) : f a b = g a b := by
  have := flat_get f ha hb
  rw [h, flat_get g ha hb] at this
  injection this with this
  exact this.symm
theorem flat_set {r c i k : Nat} (f : Nat → Nat → Int) (x : Int) (hi : i < r) (hk : k < c) : (flat r c f).set (i * c + k) x = flat r c fun a b => if a = i ∧ b = k then x else f a b := by
  refine flat_ext (by simp [flat_length]) fun a b ha hb => ?_
  rw [List.getElem?_set]
  by_cases e : i * c + k = a * c + b
  · obtain ⟨rfl, rfl⟩ := ix_inj hk hb e
    rw [if_pos rfl, if_pos (by rw [flat_length]; exact ix_lt hi hk), if_pos ⟨rfl, rfl⟩]
  · rw [if_neg e, flat_get f ha hb, if_neg]
    rintro ⟨rfl, rfl⟩
    exact e rfl
theorem flat_zero (r c : Nat) : flat r c (fun _ _ => 0) = List.replicate (r * c) 0 := by
  refine (flat_ext (by simp) fun i k hi hk => ?_).symm
  have := ix_lt hi hk
  simp [this]
theorem flat_mem {r c : Nat} {f : Nat → Nat → Int} {x : Int} (h : x ∈ flat r c f) : ∃ i k, i < r ∧ k < c ∧ x = f i k := by
  simp only [flat, List.mem_map, List.mem_range] at h
  obtain ⟨j, hj, rfl⟩ := h
  obtain ⟨i, k, hi, hk, rfl⟩ := ix_of hj
  exact ⟨i, k, hi, hk, by rw [ix_div hk, ix_mod hk]⟩
/-- a list of so many numbers is told by its entries -/
def entry (l : List Int) (c i k : Nat) : Int := l.getD (i * c + k) 0
theorem flat_of {l : List Int} {r c : Nat} (hl : l.length = r * c) : l = flat r c (entry l c) :=
  flat_ext hl fun i k hi hk => by
    have := ix_lt hi hk
    rw [entry, List.getD_eq_getElem?_getD, List.getElem?_eq_getElem (by omega)]; rfl

def mxF (r c : Nat) (f : Nat → Nat → Int) : Mx := ⟨r, c, flat r c f⟩
theorem zmx_flat (r c : Nat) : zmx r c = mxF r c fun _ _ => 0 := by
  rw [mxF, flat_zero, zmx]
  congr
theorem mxF_congr {r c : Nat} {f g : Nat → Nat → Int} (h : ∀ a b, a < r → b < c → f a b = g a b) : mxF r c f = mxF r c g := by rw [mxF, mxF, flat_congr h]

/-- what a walk needs of an index -/
theorem ix_walk {i k r c : Nat} (hi : i < r) (hk : k < c) (hr : r ≤ 1000) (hc : c ≤ 1000) :
    ∃ P J : Nat, wrap64 ((i : Int) * (c : Int)) = (P : Int) ∧ P + k = J ∧ J = i * c + k ∧ J < r * c ∧ J ≤ 1000000 := by
  have h1 := ix_lt hi hk
  have h2 : r * c ≤ 1000 * 1000 := Nat.mul_le_mul hr hc
  refine ⟨i * c, i * c + k, ?_, rfl, rfl, h1, by omega⟩
  rw [show ((i : Int) * (c : Int)) = ((i * c : Nat) : Int) by simp]
  exact IntWalk.wrap64_in _ ⟨by omega, by omega⟩
end Go.Proofs.Ytjlgijdkfihhlaa

/- Fields, vectors, matrices, dimensions: the tests of both sides. -/
namespace Go.Proofs.Ytjlgijdkfihhlaa
set_option linter.unusedVariables false
set_option linter.unusedSimpArgs false
open Go.RowKit

def isFld (p : Int) : Bool := decide (p = 2 ∨ p = 3 ∨ p = 5)
theorem isFld_t {p : Int} : isFld p = true ↔ p = 2 ∨ p = 3 ∨ p = 5 := by simp [isFld]
theorem isFld_f {p : Int} : isFld p = false ↔ p ≠ 2 ∧ p ≠ 3 ∧ p ≠ 5 := by simp [isFld]
theorem isFld_r {p : Int} (h : isFld p = true) : 2 ≤ p ∧ p ≤ 5 := by have := isFld_t.1 h; omega
def isVec (p : Int) (v : List Int) : Bool := isFld p && decide (v.length ≤ 64) && allR v 0 (p - 1)
theorem isVec_t {p : Int} {v : List Int} : isVec p v = true ↔ isFld p = true ∧ v.length ≤ 64 ∧ ∀ x ∈ v, 0 ≤ x ∧ x ≤ p - 1 := by
  simp only [isVec, Bool.and_eq_true, decide_eq_true_eq, allR_t, and_assoc]
def isMat (p : Int) (m : Mx) : Bool := inR m.r 0 8 && inR m.c 0 8 && decide ((m.a.length : Int) = m.r * m.c) && isVec p m.a
theorem isMat_t {p : Int} {m : Mx} : isMat p m = true ↔ (0 ≤ m.r ∧ m.r ≤ 8) ∧ (0 ≤ m.c ∧ m.c ≤ 8) ∧ (m.a.length : Int) = m.r * m.c ∧ isVec p m.a = true := by
  simp only [isMat, Bool.and_eq_true, inR_t, decide_eq_true_eq, and_assoc]
def areDims (q : Qv) (d : List Int) : Bool := isQ q && decide ((d.length : Int) = q.v) && allR d 0 4 && decide (d.sum ≤ 8)
theorem areDims_t {q : Qv} {d : List Int} : areDims q d = true ↔ isQ q = true ∧ (d.length : Int) = q.v ∧ (∀ x ∈ d, 0 ≤ x ∧ x ≤ 4) ∧ d.sum ≤ 8 := by
  simp only [areDims, Bool.and_eq_true, decide_eq_true_eq, allR_t, and_assoc]
theorem mul_bd {a b : Int} (ha : 0 ≤ a ∧ a ≤ 8) (hb : 0 ≤ b ∧ b ≤ 8) : 0 ≤ a * b ∧ a * b ≤ 64 := by
  obtain ⟨n, rfl⟩ := Int.eq_ofNat_of_zero_le ha.1
  obtain ⟨m, rfl⟩ := Int.eq_ofNat_of_zero_le hb.1
  have h1 : n * m ≤ 8 * 8 := Nat.mul_le_mul (by omega) (by omega)
  have e : (n : Int) * m = ((n * m : Nat) : Int) := by simp
  rw [e]
  omega

theorem implIsField_any (p : Int) (w : World) : Calls Try.prog 171 #[.int .i64 p] w fun e w' => e = .returned (.bool (isFld p)) ∧ w' = w := by
  by_cases h2 : p = 2
  · subst h2
    go_enter Try.func171, Try.ntmps171
    go_wp2
    go_ret
    exact ⟨rfl, rfl⟩
  by_cases h3 : p = 3
  · subst h3
    go_enter Try.func171, Try.ntmps171
    go_wp2
    go_ret
    exact ⟨rfl, rfl⟩
  by_cases h5 : p = 5
  · subst h5
    go_enter Try.func171, Try.ntmps171
    go_wp2
    go_ret
    exact ⟨rfl, rfl⟩
  have e : isFld p = false := isFld_f.2 ⟨h2, h3, h5⟩
  have e2 : (p == 2) = false := by rw [beq_eq_false_iff_ne]; exact h2
  have e3 : (p == 3) = false := by rw [beq_eq_false_iff_ne]; exact h3
  have e5 : (p == 5) = false := by rw [beq_eq_false_iff_ne]; exact h5
  rw [e]
  clear e h2 h3 h5
  go_enter Try.func171, Try.ntmps171
  go_wp2
  go_ret
  exact ⟨rfl, rfl⟩
theorem specIsField_any (p : Int) (w : World) : Calls Try.prog 165 #[.int .i64 p] w fun e w' => e = .returned (.bool (isFld p)) ∧ w' = w := by
  by_cases h2 : p = 2
  · subst h2
    go_enter Try.func165, Try.ntmps165
    go_wp2
    go_ret
    exact ⟨rfl, rfl⟩
  by_cases h3 : p = 3
  · subst h3
    go_enter Try.func165, Try.ntmps165
    go_wp2
    go_ret
    exact ⟨rfl, rfl⟩
  by_cases h5 : p = 5
  · subst h5
    go_enter Try.func165, Try.ntmps165
    go_wp2
    go_ret
    exact ⟨rfl, rfl⟩
  have e : isFld p = false := isFld_f.2 ⟨h2, h3, h5⟩
  have e2 : (p == 2) = false := by rw [beq_eq_false_iff_ne]; exact h2
  have e3 : (p == 3) = false := by rw [beq_eq_false_iff_ne]; exact h3
  have e5 : (p == 5) = false := by rw [beq_eq_false_iff_ne]; exact h5
  rw [e]
  clear e h2 h3 h5
  go_enter Try.func165, Try.ntmps165
  go_wp2
  go_ret
  exact ⟨rfl, rfl⟩

theorem implIsVector_any (p : Int) (u : Value) (v : List Int) (w : World) (hu : SlI w w.heap.size u v) :
    Calls Try.prog 201 #[.int .i64 p, u] w fun e w' => e = .returned (.bool (isVec p v)) ∧ Below w.heap.size w w' := by
  have hv := hu
  obtain ⟨A, c, rfl, _, _, _, _⟩ := hu.open_
  clear hu
  unfold isVec
  rcases h1 : isFld p with _ | _
  · go_enter Try.func201, Try.ntmps201
    go_wp2_with fail
    refine (implIsField_any _ _).mono ?_; rintro e w' ⟨rfl, rfl⟩
    rw [h1]
    go_wp2
    go_ret
    exact ⟨rfl, Below.refl _ _⟩
  have hp := isFld_r h1
  by_cases h2 : v.length ≤ 64
  · have e2 : decide (v.length ≤ 64) = true := by simpa using h2
    rw [e2]
    clear e2
    obtain ⟨B, hB⟩ : ∃ B, allR v 0 (p - 1) = B := ⟨_, rfl⟩
    rw [hB]
    have HB := Lib.hid hB
    clear hB
    go_enter Try.func201, Try.ntmps201
    go_wp2_with fail
    refine (implIsField_any _ _).mono ?_; rintro e w' ⟨rfl, rfl⟩
    rw [h1]
    go_wp2_with fail
    refine (allWithin_any _ v _ _ _ hv).mono ?_; rintro e w1 ⟨rfl, hb1⟩
    rw [HB.out]
    go_wp2
    go_ret
    exact ⟨rfl, hb1⟩
  · have e2 : decide (v.length ≤ 64) = false := by simpa using h2
    have e2' : ¬ ((v.length : Int) ≤ 64) := by omega
    rw [e2]
    clear e2
    go_enter Try.func201, Try.ntmps201
    go_wp2_with fail
    refine (implIsField_any _ _).mono ?_; rintro e w' ⟨rfl, rfl⟩
    rw [h1]
    go_wp2
    go_ret
    exact ⟨rfl, Below.refl _ _⟩

theorem allR_end {v : List Int} {lo hi : Int} {k : Nat} (h : ∀ x ∈ v.take k, inR x lo hi = true) (hk : v.length ≤ k) : allR v lo hi = true := by
  rw [List.take_of_length_le hk] at h
  simpa [allR] using h
theorem allR_bad {v : List Int} {lo hi x : Int} {k : Nat} (h : v[k]? = some x) (hx : inR x lo hi = false) : allR v lo hi = false := by
  rw [Bool.eq_false_iff]
  intro h2
  have := List.all_eq_true.1 h2 x (List.mem_of_getElem? h)
  rw [hx] at this
  cases this
theorem allR_step {v : List Int} {lo hi x : Int} {k : Nat} (h : ∀ x ∈ v.take k, inR x lo hi = true) (hx : v[k]? = some x) (h2 : inR x lo hi = true) : ∀ x ∈ v.take (k + 1), inR x lo hi = true := by
  intro y hy
  rw [take_snoc hx, List.mem_append, List.mem_singleton] at hy
  rcases hy with hy | rfl
  · exact h y hy
  · exact h2

set_option maxHeartbeats 400000 in
theorem specIsVector_any (p : Int) (u : Value) (v : List Int) (w : World) (hu : SlI w w.heap.size u v) :
    Calls Try.prog 199 #[.int .i64 p, u] w fun e w' => e = .returned (.bool (isVec p v)) ∧ Below w.heap.size w w' := by
  obtain ⟨A, c, rfl, _, _, _, hv⟩ := hu.open_
  clear hu
  unfold isVec
  rcases h1 : isFld p with _ | _
  · go_enter Try.func199, Try.ntmps199
    go_wp2_with fail
    refine (specIsField_any _ _).mono ?_; rintro e w ⟨rfl, rfl⟩
    rw [h1]
    go_wp2
    go_ret
    exact ⟨rfl, Below.refl _ _⟩
  have hp := isFld_r h1
  by_cases h2 : v.length ≤ 64
  · have e2 : decide (v.length ≤ 64) = true := by simpa using h2
    have e2' : ¬ ((64 : Int) < v.length) := by omega
    rw [e2]
    clear e2
    go_enter Try.func199, Try.ntmps199
    go_wp2_with fail
    refine (specIsField_any _ _).mono ?_; rintro e w ⟨rfl, rfl⟩
    rw [h1]
    go_wp2
    go_loopw [5] (fun i wr => ∃ k : Nat, k ≤ v.length ∧ i = .int .i64 k ∧ Below w.heap.size w wr ∧ Hid (∀ x ∈ v.take k, inR x 0 (p - 1) = true)) (fun i _ => v.length - (intOf i).toNat)
    case atStart => exact ⟨0, Nat.zero_le _, rfl, Below.refl _ _, by show ∀ x ∈ _, _; simp⟩
    case round =>
      obtain ⟨k, hk, rfl, hbel, hall⟩ := hrel
      by_cases hlt : k < v.length
      · obtain ⟨b, o, x, rfl, hb, HX, x1, _⟩ := SlI.at_ hv hlt
        have x2 := bcell hbel hb x1
        clear x1 hv
        rcases h3 : inR x 0 (p - 1) with _ | _
        · have HF := Lib.hid (allR_bad HX.out h3)
          have H3 := Lib.hid h3
          clear h3
          go_wp2_with fail
          refine (l1In_any _ _ _ _).mono ?_; rintro e w ⟨rfl, rfl⟩
          rw [H3.out]
          go_wp2
          go_ret
          exact ⟨by rw [HF.out]; rfl, hbel⟩
        · have HS := Lib.hid (allR_step hall.out HX.out h3)
          have H3 := Lib.hid h3
          clear h3
          go_wp2_with fail
          refine (l1In_any _ _ _ _).mono ?_; rintro e w ⟨rfl, rfl⟩
          rw [H3.out]
          go_wp2
          go_roundw
          case rel => exact ⟨k + 1, by omega, by go_num, hbel, HS.out⟩
          case measure => simp [intOf]; omega
      · have HF := Lib.hid (allR_end hall.out (by omega))
        go_wp2
        go_ret
        exact ⟨by rw [HF.out]; rfl, hbel⟩
  · have e2 : decide (v.length ≤ 64) = false := by simpa using h2
    have e2' : (64 : Int) < v.length := by omega
    rw [e2]
    clear e2
    go_enter Try.func199, Try.ntmps199
    go_wp2_with fail
    refine (specIsField_any _ _).mono ?_; rintro e w ⟨rfl, rfl⟩
    rw [h1]
    go_wp2
    go_ret
    exact ⟨rfl, Below.refl _ _⟩

set_option maxHeartbeats 800000 in
theorem implIsMatrix_any (p : Int) (u : Value) (m : Mx) (w : World) (hu : MxR w w.heap.size u m) :
    Calls Try.prog 173 #[.int .i64 p, u] w fun e w' => e = .returned (.bool (isMat p m)) ∧ Below w.heap.size w w' := by
  obtain ⟨A, c, rfl, hf, _, _, lf⟩ := hu.open_
  clear hu
  obtain ⟨W, hW⟩ : ∃ W, W = w.alloc (.cells #[.int .i64 m.r, .int .i64 m.c, .slice A m.a.length c] 95) := ⟨_, rfl⟩
  have g0 : Below w.heap.size w W := by rw [hW]; exact below_alloc _ _
  have kB : Blk W w.heap.size 95 #[.int .i64 m.r, .int .i64 m.c, .slice A m.a.length c] := by rw [hW]; exact Blk.new _ _ _
  have c0 := kB.cell' (i := 0) rfl
  have c1 := kB.cell' (i := 1) rfl
  have c2 := kB.cell' (i := 2) rfl
  replace hf := SlI.next g0 hf
  unfold isMat
  rcases h1 : inR m.r 0 8 with _ | _
  · go_enter Try.func173, Try.ntmps173
    go_wp2_with fail
    rw [← hW]; clear hW
    refine (within_any _ _ _ _).mono ?_; rintro e w' ⟨rfl, rfl⟩
    rw [h1]
    go_wp2
    go_ret
    exact ⟨rfl, g0⟩
  have b1 := inR_t.1 h1
  rcases h2 : inR m.c 0 8 with _ | _
  · go_enter Try.func173, Try.ntmps173
    go_wp2_with fail
    rw [← hW]; clear hW
    refine (within_any _ _ _ _).mono ?_; rintro e w' ⟨rfl, rfl⟩
    rw [h1]
    go_wp2_with fail
    refine (within_any _ _ _ _).mono ?_; rintro e w' ⟨rfl, rfl⟩
    rw [h2]
    go_wp2
    go_ret
    exact ⟨rfl, g0⟩
  have b2 := inR_t.1 h2
  have b3 := mul_bd b1 b2
  obtain ⟨b11, b12⟩ := b1
  obtain ⟨b21, b22⟩ := b2
  obtain ⟨b31, b32⟩ := b3
  rcases h3 : decide ((m.a.length : Int) = m.r * m.c) with _ | _
  · have e3 : ((m.a.length : Int) == m.r * m.c) = false := by rw [beq_eq_false_iff_ne]; exact of_decide_eq_false h3
    clear h3
    go_enter Try.func173, Try.ntmps173
    go_wp2_with fail
    rw [← hW]; clear hW
    refine (within_any _ _ _ _).mono ?_; rintro e w' ⟨rfl, rfl⟩
    rw [h1]
    go_wp2_with fail
    refine (within_any _ _ _ _).mono ?_; rintro e w' ⟨rfl, rfl⟩
    rw [h2]
    go_wp2
    go_ret
    exact ⟨rfl, g0⟩
  have e3 : ((m.a.length : Int) == m.r * m.c) = true := by rw [beq_iff_eq]; exact of_decide_eq_true h3
  clear h3
  obtain ⟨B, hB⟩ : ∃ B, isVec p m.a = B := ⟨_, rfl⟩
  rw [hB]
  have HB := Lib.hid hB
  clear hB
  go_enter Try.func173, Try.ntmps173
  go_wp2_with fail
  rw [← hW]; clear hW
  refine (within_any _ _ _ _).mono ?_; rintro e w' ⟨rfl, rfl⟩
  rw [h1]
  go_wp2_with fail
  refine (within_any _ _ _ _).mono ?_; rintro e w' ⟨rfl, rfl⟩
  rw [h2]
  go_wp2_with fail
  refine (implIsVector_any _ _ m.a _ hf).mono ?_; rintro e w1 ⟨rfl, hb1⟩
  rw [HB.out]
  go_wp2
  go_ret
  exact ⟨rfl, bthen g0 hb1⟩
set_option maxHeartbeats 800000 in
theorem specIsMatrix_any (p : Int) (u : Value) (m : Mx) (w : World) (hu : MxR w w.heap.size u m) :
    Calls Try.prog 167 #[.int .i64 p, u] w fun e w' => e = .returned (.bool (isMat p m)) ∧ Below w.heap.size w w' := by
  obtain ⟨A, c, rfl, hf, _, _, lf⟩ := hu.open_
  clear hu
  obtain ⟨W, hW⟩ : ∃ W, W = w.alloc (.cells #[.int .i64 m.r, .int .i64 m.c, .slice A m.a.length c] 95) := ⟨_, rfl⟩
  have g0 : Below w.heap.size w W := by rw [hW]; exact below_alloc _ _
  have kB : Blk W w.heap.size 95 #[.int .i64 m.r, .int .i64 m.c, .slice A m.a.length c] := by rw [hW]; exact Blk.new _ _ _
  have c0 := kB.cell' (i := 0) rfl
  have c1 := kB.cell' (i := 1) rfl
  have c2 := kB.cell' (i := 2) rfl
  replace hf := SlI.next g0 hf
  unfold isMat
  rcases h1 : inR m.r 0 8 with _ | _
  · go_enter Try.func167, Try.ntmps167
    go_wp2_with fail
    rw [← hW]; clear hW
    refine (l1In_any _ _ _ _).mono ?_; rintro e w' ⟨rfl, rfl⟩
    rw [h1]
    go_wp2
    go_ret
    exact ⟨rfl, g0⟩
  have b1 := inR_t.1 h1
  rcases h2 : inR m.c 0 8 with _ | _
  · go_enter Try.func167, Try.ntmps167
    go_wp2_with fail
    rw [← hW]; clear hW
    refine (l1In_any _ _ _ _).mono ?_; rintro e w' ⟨rfl, rfl⟩
    rw [h1]
    go_wp2_with fail
    refine (l1In_any _ _ _ _).mono ?_; rintro e w' ⟨rfl, rfl⟩
    rw [h2]
    go_wp2
    go_ret
    exact ⟨rfl, g0⟩
  have b2 := inR_t.1 h2
  have b3 := mul_bd b1 b2
  obtain ⟨b11, b12⟩ := b1
  obtain ⟨b21, b22⟩ := b2
  obtain ⟨b31, b32⟩ := b3
  rcases h3 : decide ((m.a.length : Int) = m.r * m.c) with _ | _
  · have e3 : ((m.a.length : Int) == m.r * m.c) = false := by rw [beq_eq_false_iff_ne]; exact of_decide_eq_false h3
    clear h3
    go_enter Try.func167, Try.ntmps167
    go_wp2_with fail
    rw [← hW]; clear hW
    refine (l1In_any _ _ _ _).mono ?_; rintro e w' ⟨rfl, rfl⟩
    rw [h1]
    go_wp2_with fail
    refine (l1In_any _ _ _ _).mono ?_; rintro e w' ⟨rfl, rfl⟩
    rw [h2]
    go_wp2
    go_ret
    exact ⟨rfl, g0⟩
  have e3 : ((m.a.length : Int) == m.r * m.c) = true := by rw [beq_iff_eq]; exact of_decide_eq_true h3
  clear h3
  obtain ⟨B, hB⟩ : ∃ B, isVec p m.a = B := ⟨_, rfl⟩
  rw [hB]
  have HB := Lib.hid hB
  clear hB
  go_enter Try.func167, Try.ntmps167
  go_wp2_with fail
  rw [← hW]; clear hW
  refine (l1In_any _ _ _ _).mono ?_; rintro e w' ⟨rfl, rfl⟩
  rw [h1]
  go_wp2_with fail
  refine (l1In_any _ _ _ _).mono ?_; rintro e w' ⟨rfl, rfl⟩
  rw [h2]
  go_wp2_with fail
  refine (specIsVector_any _ _ m.a _ hf).mono ?_; rintro e w1 ⟨rfl, hb1⟩
  rw [HB.out]
  go_wp2
  go_ret
  exact ⟨rfl, bthen g0 hb1⟩
end Go.Proofs.Ytjlgijdkfihhlaa

/- Dimensions and representations: the tests of both sides. -/
namespace Go.Proofs.Ytjlgijdkfihhlaa
set_option linter.unusedVariables false
set_option linter.unusedSimpArgs false
open Go.RowKit

theorem sumW_dims {d : List Int} (h : ∀ x ∈ d, 0 ≤ x ∧ x ≤ 4) (hl : d.length ≤ 5) : sumW d = d.sum ∧ 0 ≤ d.sum ∧ d.sum ≤ 20 := by
  obtain ⟨h1, h2, h3⟩ := sumW_small d 0 4 (by omega) (by omega) h (by omega) (by omega)
  exact ⟨h1, by omega, by omega⟩
theorem sum_bd : ∀ (l : List Int), (∀ x ∈ l, 0 ≤ x ∧ x ≤ 4) → 0 ≤ l.sum ∧ l.sum ≤ 4 * l.length
  | [], _ => by simp
  | a :: l, h => by
    have := sum_bd l (fun x hx => h x (by simp [hx]))
    have := h a (by simp)
    simp only [List.sum_cons, List.length_cons]
    omega
theorem sum_take_le (d : List Int) (k : Nat) (h : ∀ x ∈ d.take k, 0 ≤ x ∧ x ≤ 4) : 0 ≤ (d.take k).sum ∧ (d.take k).sum ≤ 4 * k := by
  have h1 := sum_bd _ h
  have h2 : (d.take k).length ≤ k := List.length_take_le _ _
  omega

set_option maxHeartbeats 800000 in
theorem implAreDims_any (u xv : Value) (q : Qv) (d : List Int) (w : World) (hu : QvR w w.heap.size u q) (hx : SlI w w.heap.size xv d) :
    Calls Try.prog 172 #[u, xv] w fun e w' => e = .returned (.bool (areDims q d)) ∧ Below w.heap.size w w' := by
  obtain ⟨A, c, C, d', eu⟩ := hu.form
  subst eu
  have lx := hx
  obtain ⟨XA, xc, rfl, _, _, lx, _⟩ := lx.open_
  obtain ⟨W, hW⟩ : ∃ W, W = w.alloc (.cells #[.int .i64 q.v, .slice A q.f.length c, .slice C q.t.length d'] 32) := ⟨_, rfl⟩
  have g0 : Below w.heap.size w W := by rw [hW]; exact below_alloc _ _
  have kB : Blk W w.heap.size 32 #[.int .i64 q.v, .slice A q.f.length c, .slice C q.t.length d'] := by rw [hW]; exact Blk.new _ _ _
  have c0 := kB.cell' (i := 0) rfl
  have c1 := kB.cell' (i := 1) rfl
  have c2 := kB.cell' (i := 2) rfl
  replace hu := QvR.next g0 hu
  replace hx := SlI.next g0 hx
  unfold areDims
  rcases hq : isQ q with _ | _
  · go_enter Try.func172, Try.ntmps172
    go_wp2_with fail
    rw [← hW]; clear hW
    refine (implIsQuiver_any _ _ _ hu).mono ?_; rintro e w1 ⟨rfl, hb1⟩
    rw [hq]
    clear hu
    replace g0 := bthen g0 hb1
    replace hx := SlI.next hb1 hx
    replace kB := kB.call hb1
    replace c0 := kB.cell' (i := 0) rfl
    replace c1 := kB.cell' (i := 1) rfl
    replace c2 := kB.cell' (i := 2) rfl
    clear hb1
    go_wp2
    go_ret
    exact ⟨rfl, g0⟩
  obtain ⟨hv1, hv2⟩ := (isQ_t.1 hq).1
  rcases h2 : decide ((d.length : Int) = q.v) with _ | _
  · have e2 : ((d.length : Int) == q.v) = false := by rw [beq_eq_false_iff_ne]; exact of_decide_eq_false h2
    clear h2
    go_enter Try.func172, Try.ntmps172
    go_wp2_with fail
    rw [← hW]; clear hW
    refine (implIsQuiver_any _ _ _ hu).mono ?_; rintro e w1 ⟨rfl, hb1⟩
    rw [hq]
    clear hu
    replace g0 := bthen g0 hb1
    replace hx := SlI.next hb1 hx
    replace kB := kB.call hb1
    replace c0 := kB.cell' (i := 0) rfl
    replace c1 := kB.cell' (i := 1) rfl
    replace c2 := kB.cell' (i := 2) rfl
    clear hb1
    go_wp2
    go_ret
    exact ⟨rfl, g0⟩
  have e2 : ((d.length : Int) == q.v) = true := by rw [beq_iff_eq]; exact of_decide_eq_true h2
  have hl5 : d.length ≤ 5 := by have := of_decide_eq_true h2; omega
  clear h2
  rcases h3 : allR d 0 4 with _ | _
  · have H3 := Lib.hid h3
    clear h3
    go_enter Try.func172, Try.ntmps172
    go_wp2_with fail
    rw [← hW]; clear hW
    refine (implIsQuiver_any _ _ _ hu).mono ?_; rintro e w1 ⟨rfl, hb1⟩
    rw [hq]
    clear hu
    replace g0 := bthen g0 hb1
    replace hx := SlI.next hb1 hx
    replace kB := kB.call hb1
    replace c0 := kB.cell' (i := 0) rfl
    replace c1 := kB.cell' (i := 1) rfl
    replace c2 := kB.cell' (i := 2) rfl
    clear hb1
    go_wp2_with fail
    refine (allWithin_any _ d _ _ _ hx).mono ?_; rintro e w_1 ⟨rfl, hb_1⟩
    replace g0 := bthen g0 hb_1
    replace hx := SlI.next hb_1 hx
    replace kB := kB.call hb_1
    replace c0 := kB.cell' (i := 0) rfl
    replace c1 := kB.cell' (i := 1) rfl
    replace c2 := kB.cell' (i := 2) rfl
    rw [H3.out]
    go_wp2
    go_ret
    exact ⟨rfl, g0⟩
  obtain ⟨s1, s2, s3⟩ := sumW_dims (allR_t.1 h3) hl5
  have H3 := Lib.hid h3
  have H1 := Lib.hid s1
  clear h3 s1
  obtain ⟨s, hs⟩ : ∃ s, d.sum = s := ⟨_, rfl⟩
  rw [hs] at H1 s2 s3 ⊢
  clear hs
  go_enter Try.func172, Try.ntmps172
  go_wp2_with fail
  rw [← hW]; clear hW
  refine (implIsQuiver_any _ _ _ hu).mono ?_; rintro e w1 ⟨rfl, hb1⟩
  rw [hq]
  clear hu
  replace g0 := bthen g0 hb1
  replace hx := SlI.next hb1 hx
  replace kB := kB.call hb1
  replace c0 := kB.cell' (i := 0) rfl
  replace c1 := kB.cell' (i := 1) rfl
  replace c2 := kB.cell' (i := 2) rfl
  clear hb1
  go_wp2_with fail
  refine (allWithin_any _ d _ _ _ hx).mono ?_; rintro e w_2 ⟨rfl, hb_2⟩
  replace g0 := bthen g0 hb_2
  replace hx := SlI.next hb_2 hx
  replace kB := kB.call hb_2
  replace c0 := kB.cell' (i := 0) rfl
  replace c1 := kB.cell' (i := 1) rfl
  replace c2 := kB.cell' (i := 2) rfl
  rw [H3.out]
  go_wp2_with fail
  refine (sumOf_any _ d _ hx).mono ?_; rintro e w2 ⟨rfl, rfl⟩
  rw [H1.out]
  go_wp2
  go_ret
  exact ⟨by simp, g0⟩

set_option maxHeartbeats 800000 in
theorem specAreDims_any (u xv : Value) (q : Qv) (d : List Int) (w : World) (hu : QvR w w.heap.size u q) (hx : SlI w w.heap.size xv d) :
    Calls Try.prog 166 #[u, xv] w fun e w' => e = .returned (.bool (areDims q d)) ∧ Below w.heap.size w w' := by
  obtain ⟨A, c, C, d', eu⟩ := hu.form
  subst eu
  have lx := hx
  obtain ⟨XA, xc, rfl, _, _, lx, _⟩ := lx.open_
  obtain ⟨W, hW⟩ : ∃ W, W = w.alloc (.cells #[.int .i64 q.v, .slice A q.f.length c, .slice C q.t.length d'] 32) := ⟨_, rfl⟩
  have g0 : Below w.heap.size w W := by rw [hW]; exact below_alloc _ _
  have kB : Blk W w.heap.size 32 #[.int .i64 q.v, .slice A q.f.length c, .slice C q.t.length d'] := by rw [hW]; exact Blk.new _ _ _
  have c0 := kB.cell' (i := 0) rfl
  have c1 := kB.cell' (i := 1) rfl
  have c2 := kB.cell' (i := 2) rfl
  replace hu := QvR.next g0 hu
  replace hx := SlI.next g0 hx
  unfold areDims
  rcases hq : isQ q with _ | _
  · go_enter Try.func166, Try.ntmps166
    go_wp2_with fail
    rw [← hW]; clear hW
    refine (specIsQuiver_any _ _ _ hu).mono ?_; rintro e w1 ⟨rfl, hb1⟩
    rw [hq]
    clear hu
    replace g0 := bthen g0 hb1
    replace hx := SlI.next hb1 hx
    replace kB := kB.call hb1
    replace c0 := kB.cell' (i := 0) rfl
    replace c1 := kB.cell' (i := 1) rfl
    replace c2 := kB.cell' (i := 2) rfl
    clear hb1
    go_wp2
    go_ret
    exact ⟨rfl, g0⟩
  obtain ⟨hv1, hv2⟩ := (isQ_t.1 hq).1
  rcases h2 : decide ((d.length : Int) = q.v) with _ | _
  · have e2 : ((d.length : Int) != q.v) = true := by rw [bne_iff_ne]; exact of_decide_eq_false h2
    clear h2
    go_enter Try.func166, Try.ntmps166
    go_wp2_with fail
    rw [← hW]; clear hW
    refine (specIsQuiver_any _ _ _ hu).mono ?_; rintro e w1 ⟨rfl, hb1⟩
    rw [hq]
    clear hu
    replace g0 := bthen g0 hb1
    replace hx := SlI.next hb1 hx
    replace kB := kB.call hb1
    replace c0 := kB.cell' (i := 0) rfl
    replace c1 := kB.cell' (i := 1) rfl
    replace c2 := kB.cell' (i := 2) rfl
    clear hb1
    go_wp2
    go_ret
    exact ⟨rfl, g0⟩
  have e2 : ((d.length : Int) != q.v) = false := by rw [bne_eq_false_iff_eq]; exact of_decide_eq_true h2
  have hl5 : d.length ≤ 5 := by have := of_decide_eq_true h2; omega
  clear h2
  go_enter Try.func166, Try.ntmps166
  go_wp2_with fail
  rw [← hW]; clear hW
  refine (specIsQuiver_any _ _ _ hu).mono ?_; rintro e w1 ⟨rfl, hb1⟩
  rw [hq]
  clear hu
  replace g0 := bthen g0 hb1
  replace hx := SlI.next hb1 hx
  replace kB := kB.call hb1
  replace c0 := kB.cell' (i := 0) rfl
  replace c1 := kB.cell' (i := 1) rfl
  replace c2 := kB.cell' (i := 2) rfl
  clear hb1
  go_wp2
  go_loopw [5, 6] (fun n i wr => ∃ k : Nat, k ≤ d.length ∧ i = .int .i64 k ∧ n = .int .i64 (d.take k).sum ∧ wr = w1 ∧ Hid (∀ x ∈ d.take k, inR x 0 4 = true)) (fun _ i _ => d.length - (intOf i).toNat)
  case atStart => exact ⟨0, Nat.zero_le _, rfl, by simp, rfl, by show ∀ x ∈ _, _; simp⟩
  case round =>
    obtain ⟨k, hk, rfl, rfl, rfl, hall⟩ := hrel
    have hsm := sum_take_le d k (fun x hx => inR_t.1 (hall.out x hx))
    obtain ⟨hs1, hs2⟩ := hsm
    obtain ⟨s, hs⟩ : ∃ s, (d.take k).sum = s := ⟨_, rfl⟩
    rw [hs] at hs1 hs2 ⊢
    have HS := Lib.hid hs
    clear hs
    by_cases hlt : k < d.length
    · obtain ⟨b, o, x, rfl, hb, HX, x1, _⟩ := SlI.at_ hx hlt
      clear hx
      rcases h3 : inR x 0 4 with _ | _
      · have HF := Lib.hid (allR_bad HX.out h3)
        have H3 := Lib.hid h3
        clear h3
        go_wp2_with fail
        refine (l1In_any _ _ _ _).mono ?_; rintro e w' ⟨rfl, rfl⟩
        rw [H3.out]
        go_wp2
        go_ret
        exact ⟨by rw [HF.out]; rfl, g0⟩
      · have HT := Lib.hid (allR_step hall.out HX.out h3)
        have HSU := Lib.hid (show (d.take (k + 1)).sum = s + x by rw [take_snoc HX.out, List.sum_append, HS.out]; simp)
        obtain ⟨x3, x4⟩ := inR_t.1 h3
        have H3 := Lib.hid h3
        clear h3
        go_wp2_with fail
        refine (l1In_any _ _ _ _).mono ?_; rintro e w' ⟨rfl, rfl⟩
        rw [H3.out]
        go_wp2
        go_roundw
        case rel => exact ⟨k + 1, by omega, by go_num, by rw [HSU.out], trivial, HT.out⟩
        case measure => simp [intOf]; omega
    · have HF := Lib.hid (allR_end hall.out (by omega))
      have HE := Lib.hid (show d.sum = s by rw [← HS.out, List.take_of_length_le (by omega)])
      go_wp2
      go_ret
      exact ⟨by rw [HF.out, HE.out]; simp, g0⟩

/-! ### representations -/
def dAt (d : List Int) (v : Int) : Int := d.getD v.toNat 0
def okM (x : Rp) (m : Mx) (f t : Int) : Bool := isMat x.p m && decide (m.c = dAt x.d f) && decide (m.r = dAt x.d t)
def okMs (x : Rp) (k : Nat) : Bool := (List.range k).all fun i => okM x (x.m.getD i ⟨0, 0, []⟩) (x.q.f.getD i 0) (x.q.t.getD i 0)
def isRep (x : Rp) : Bool := isFld x.p && areDims x.q x.d && decide (x.m.length = x.q.f.length) && okMs x x.m.length
theorem okMs_succ {x : Rp} {k : Nat} {m : Mx} {f t : Int} (hm : x.m[k]? = some m) (hf : x.q.f[k]? = some f) (ht : x.q.t[k]? = some t) : okMs x (k + 1) = (okMs x k && okM x m f t) := by
  simp [okMs, List.range_succ, List.getD_eq_getElem?_getD, hm, hf, ht]
theorem okMs_mono {x : Rp} {k n : Nat} (h : okMs x k = false) (hk : k ≤ n) : okMs x n = false := by
  simp only [okMs, List.all_eq_false, List.mem_range] at h ⊢
  obtain ⟨i, hi, h⟩ := h
  exact ⟨i, by omega, h⟩
theorem dAt_of {d : List Int} {n : Nat} {y : Int} (h : d[n]? = some y) : dAt d (n : Int) = y := by
  simp [dAt, List.getD_eq_getElem?_getD, h]
/-- what a round of IsRep meets -/
theorem rep_at {x : Rp} (hq : areDims x.q x.d = true) {k : Nat} (hk : k < x.q.f.length) : ∃ (nf nt : Nat) (yf yt : Int), x.q.f[k]? = some (nf : Int) ∧ x.q.t[k]? = some (nt : Int) ∧ x.d[nf]? = some yf ∧ x.d[nt]? = some yt ∧ nf < x.d.length ∧ nt < x.d.length ∧ nf ≤ 5 ∧ nt ≤ 5 ∧ k < x.q.t.length := by
  obtain ⟨h1, h2, h3, h4⟩ := areDims_t.1 hq
  obtain ⟨hv, hl, h6, hf, ht⟩ := isQ_t.1 h1
  have ef := List.getElem?_eq_getElem hk
  have et := List.getElem?_eq_getElem (show k < x.q.t.length by omega)
  have bf := hf _ (List.mem_of_getElem? ef)
  have bt := ht _ (List.mem_of_getElem? et)
  obtain ⟨nf, enf⟩ := Int.eq_ofNat_of_zero_le bf.1
  obtain ⟨nt, ent⟩ := Int.eq_ofNat_of_zero_le bt.1
  rw [enf] at ef bf
  rw [ent] at et bt
  exact ⟨nf, nt, x.d[nf]'(by omega), x.d[nt]'(by omega), ef, et, List.getElem?_eq_getElem _, List.getElem?_eq_getElem _, by omega, by omega, by omega, by omega, by omega⟩
end Go.Proofs.Ytjlgijdkfihhlaa

/- The two IsRep. -/
namespace Go.Proofs.Ytjlgijdkfihhlaa
set_option linter.unusedVariables false
set_option linter.unusedSimpArgs false
open Go.RowKit

theorem QvR.sl {w : World} {B n m a c : Nat} {v : Int} {A C : Option Addr} {q : Qv} (h : QvR w B (.agg #[.int .i64 v, .slice A n a, .slice C m c]) q) : SlI w B (.slice A n a) q.f ∧ SlI w B (.slice C m c) q.t := by
  obtain ⟨s, t, e, h1, h2, _⟩ := h
  simp only [Value.agg.injEq, Array.mk.injEq, List.cons.injEq, and_true] at e
  obtain ⟨_, rfl, rfl⟩ := e
  exact ⟨h1, h2⟩


set_option maxHeartbeats 3200000 in
set_option maxRecDepth 100000 in
theorem implIsRep_any (u : Value) (x : Rp) (w : World) (hu : RpR w w.heap.size u x) :
    Calls Try.prog 122 #[u] w fun e w' => e = .returned (.bool (isRep x)) ∧ Below w.heap.size w w' := by
  obtain ⟨A, a, C, c, E, e, H, h, rfl, hq, hd, hm, hp, ld, lm⟩ := hu.open_
  clear hu
  obtain ⟨W, hW⟩ : ∃ W, W = w.alloc (.cells #[.int .i64 x.p, .int .i64 x.q.v, .slice A x.q.f.length a, .slice C x.q.t.length c, .slice E x.d.length e, .slice H x.m.length h] 35) := ⟨_, rfl⟩
  have g0 : Below w.heap.size w W := by rw [hW]; exact below_alloc _ _
  have kB : Blk W w.heap.size 35 #[.int .i64 x.p, .int .i64 x.q.v, .slice A x.q.f.length a, .slice C x.q.t.length c, .slice E x.d.length e, .slice H x.m.length h] := by rw [hW]; exact Blk.new _ _ _
  have c0 := kB.cell' (i := 0) rfl
  have c1 := kB.cell' (i := 1) rfl
  have c2 := kB.cell' (i := 2) rfl
  have c3 := kB.cell' (i := 3) rfl
  have c4 := kB.cell' (i := 4) rfl
  have c5 := kB.cell' (i := 5) rfl
  replace hq := QvR.next g0 hq
  replace hd := SlI.next g0 hd
  replace hm := SlM.next g0 hm
  unfold isRep
  rcases h1 : isFld x.p with _ | _
  · go_enter Try.func122, Try.ntmps122
    go_wp2_with fail
    rw [← hW]; clear hW
    refine (implIsField_any _ _).mono ?_; rintro e w1 ⟨rfl, rfl⟩
    rw [h1]
    go_wp2
    go_ret
    exact ⟨rfl, g0⟩
  rcases h2 : areDims x.q x.d with _ | _
  · have H2 := Lib.hid h2
    clear h2
    go_enter Try.func122, Try.ntmps122
    go_wp2_with fail
    rw [← hW]; clear hW
    refine (implIsField_any _ _).mono ?_; rintro e w1 ⟨rfl, rfl⟩
    rw [h1]
    go_wp2_with fail
    refine (implAreDims_any _ _ _ _ _ hq hd).mono ?_; rintro e w_1 ⟨rfl, hb_1⟩
    replace g0 := bthen g0 hb_1
    replace hq := QvR.next hb_1 hq
    replace hd := SlI.next hb_1 hd
    replace hm := SlM.next hb_1 hm
    replace kB := kB.call hb_1
    replace c0 := kB.cell' (i := 0) rfl
    replace c1 := kB.cell' (i := 1) rfl
    replace c2 := kB.cell' (i := 2) rfl
    replace c3 := kB.cell' (i := 3) rfl
    replace c4 := kB.cell' (i := 4) rfl
    replace c5 := kB.cell' (i := 5) rfl
    rw [H2.out]
    go_wp2
    go_ret
    exact ⟨rfl, g0⟩
  obtain ⟨lf, lt⟩ := hq.lens
  rcases h3 : decide (x.m.length = x.q.f.length) with _ | _
  · have e3 : ((x.m.length : Int) != x.q.f.length) = true := by rw [bne_iff_ne]; have := of_decide_eq_false h3; omega
    have H2 := Lib.hid h2
    clear h2 h3
    go_enter Try.func122, Try.ntmps122
    go_wp2_with fail
    rw [← hW]; clear hW
    refine (implIsField_any _ _).mono ?_; rintro e w1 ⟨rfl, rfl⟩
    rw [h1]
    go_wp2_with fail
    refine (implAreDims_any _ _ _ _ _ hq hd).mono ?_; rintro e w_2 ⟨rfl, hb_2⟩
    replace g0 := bthen g0 hb_2
    replace hq := QvR.next hb_2 hq
    replace hd := SlI.next hb_2 hd
    replace hm := SlM.next hb_2 hm
    replace kB := kB.call hb_2
    replace c0 := kB.cell' (i := 0) rfl
    replace c1 := kB.cell' (i := 1) rfl
    replace c2 := kB.cell' (i := 2) rfl
    replace c3 := kB.cell' (i := 3) rfl
    replace c4 := kB.cell' (i := 4) rfl
    replace c5 := kB.cell' (i := 5) rfl
    rw [H2.out]
    go_wp2
    go_ret
    exact ⟨rfl, g0⟩
  have e3 : ((x.m.length : Int) != x.q.f.length) = false := by rw [bne_eq_false_iff_eq]; have := of_decide_eq_true h3; omega
  have H3 := Lib.hid (of_decide_eq_true h3)
  have H2 := Lib.hid h2
  clear h2 h3
  go_enter Try.func122, Try.ntmps122
  go_wp2_with fail
  rw [← hW]; clear hW
  refine (implIsField_any _ _).mono ?_; rintro e w1 ⟨rfl, rfl⟩
  rw [h1]
  go_wp2_with fail
  refine (implAreDims_any _ _ _ _ _ hq hd).mono ?_; rintro e W1 ⟨rfl, hb0⟩
  replace g0 := bthen g0 hb0
  replace hq := QvR.next hb0 hq
  replace hd := SlI.next hb0 hd
  replace hm := SlM.next hb0 hm
  replace kB := kB.call hb0
  replace c0 := kB.cell' (i := 0) rfl
  replace c1 := kB.cell' (i := 1) rfl
  replace c2 := kB.cell' (i := 2) rfl
  replace c3 := kB.cell' (i := 3) rfl
  replace c4 := kB.cell' (i := 4) rfl
  replace c5 := kB.cell' (i := 5) rfl
  clear hb0
  rw [H2.out]
  obtain ⟨hf, ht⟩ := hq.sl
  clear hq
  go_wp2
  go_loopw [30] (fun i wr => ∃ k : Nat, k ≤ x.m.length ∧ i = .int .i64 k ∧ Below W1.heap.size W1 wr ∧ Hid (okMs x k = true)) (fun i _ => x.m.length - (intOf i).toNat)
  case atStart => exact ⟨0, Nat.zero_le _, rfl, Below.refl _ _, rfl⟩
  case round =>
    obtain ⟨k, hk, rfl, hbel, hok⟩ := hrel
    clear c0 c1 c2 c3 c4 c5
    have z5 := (kB.call hbel).cell' (i := 5) rfl
    by_cases hlt : k < x.m.length
    · have hkf : k < x.q.f.length := by have := H3.out; omega
      obtain ⟨nf, nt, yf, yt, ef, et, df, dt, lnf, lnt, lnf5, lnt5, hkt⟩ := rep_at H2.out hkf
      obtain ⟨b, o, m, A', c', rfl, hb, HX, x1, x2, x3, hsl, i1, i2, lml⟩ := SlM.at_ hm hlt
      obtain ⟨bf, of_, xf, rfl, hbf, HXF, f1, _⟩ := SlI.at_ hf hkf
      obtain ⟨bt, ot, xt, rfl, hbt, HXT, t1, _⟩ := SlI.at_ ht hkt
      obtain ⟨bd, od, xdf, rfl, hbd, HXDF, d1, ddf⟩ := SlI.at_ hd lnf
      obtain ⟨bd', od', xdt, ebd, hbd', HXDT, d2, ddt⟩ := SlI.at_ hd lnt
      injection ebd with ebd
      injection ebd with ebd1 ebd2
      subst ebd1 ebd2
      have q1 := HXF.out
      rw [ef] at q1
      injection q1 with q1
      subst q1
      have q2 := HXT.out
      rw [et] at q2
      injection q2 with q2
      subst q2
      have hsucc := okMs_succ HX.out ef et
      rw [hok.out, Bool.true_and, okM, dAt_of HXDF.out, dAt_of HXDT.out] at hsucc
      have HSU := Lib.hid hsucc
      clear hsucc HXDF HXDT HXF HXT ef et df dt hf ht hd hm
      obtain ⟨Wx, hWx⟩ : ∃ W, W = wr.alloc (.cells #[.int .i64 m.r, .int .i64 m.c, .slice A' m.a.length c'] 95) := ⟨_, rfl⟩
      have gx : Below W1.heap.size W1 Wx := by rw [hWx]; exact hbel.trans ((below_alloc _ _).mono hbel.size)
      have kM : Blk Wx wr.heap.size 95 #[.int .i64 m.r, .int .i64 m.c, .slice A' m.a.length c'] := by rw [hWx]; exact Blk.new _ _ _
      have m0 := fun s : InB Wx => (kM.call s.below).cell' (i := 0) rfl
      have m1 := fun s : InB Wx => (kM.call s.below).cell' (i := 1) rfl
      have m2 := fun s : InB Wx => (kM.call s.below).cell' (i := 2) rfl
      have hx1 := bcell hbel hb x1
      have hx2 := bcell hbel hb x2
      have hx3 := bcell hbel hb x3
      clear kM
      have gx1 := gx.size
      have hF := InB.cell (w := Wx) (by omega) (bcell gx hbf f1)
      have hT := InB.cell (w := Wx) (by omega) (bcell gx hbt t1)
      have hD1 := InB.cell (w := Wx) (by omega) (bcell gx hbd d1)
      have hD2 := InB.cell (w := Wx) (by omega) (bcell gx hbd d2)
      have kBx := kB.call gx
      have r0 := fun s : InB Wx => (kBx.call s.below).cell' (i := 0) rfl
      have r2 := fun s : InB Wx => (kBx.call s.below).cell' (i := 2) rfl
      have r3 := fun s : InB Wx => (kBx.call s.below).cell' (i := 3) rfl
      have r4 := fun s : InB Wx => (kBx.call s.below).cell' (i := 4) rfl
      have r5 := fun s : InB Wx => (kBx.call s.below).cell' (i := 5) rfl
      have HM : Hid (∀ s : InB Wx, MxR s.val s.val.heap.size (.agg #[.int .i64 m.r, .int .i64 m.c, .slice A' m.a.length c']) m) := fun s => ⟨_, rfl, SlI.next s.below (SlI.next gx hsl), i1, i2⟩
      have g1 := bthen g0 gx
      have HGX := Lib.hid gx
      have HG1 := Lib.hid g1
      clear x1 x2 x3 f1 t1 d1 d2 hsl i1 i2 kB kBx gx g1 g0
      have a1 : (0 : Int) ≤ (k : Int) := by omega
      have a2 : (k : Int) < x.q.f.length := by omega
      have a3 : (k : Int) < x.q.t.length := by omega
      have a4 : (0 : Int) ≤ (nf : Int) := by omega
      have a5 : (nf : Int) < x.d.length := by omega
      have a6 : (0 : Int) ≤ (nt : Int) := by omega
      have a7 : (nt : Int) < x.d.length := by omega
      have a8 : (k : Int) < x.m.length := by omega
      rcases h4 : isMat x.p m with _ | _
      · have HF := Lib.hid (okMs_mono (x := x) (k := k + 1) (n := x.m.length) (by rw [HSU.out, h4]; rfl) (by omega))
        go_wp2
        rw [← hWx]; clear hWx
        (refine wp_region_inB (by kernel_rfl) (by kernel_rfl) ?_; (repeat (go_big_quiet_step ((go_at_call 173; exact InB.call (implIsMatrix_any _ _ m _ (HM.out _)))))); refine wpQuiet_nil ?_; intro w1 hw'; obtain ⟨s1, hw1⟩ := hw'; have hb1 := s1.below; rw [← hw1] at hb1; clear hw1 s1)
        go_wp2
        go_ret
        exact ⟨by rw [HF.out]; rfl, bthen HG1.out hb1⟩
      rcases h5 : decide (m.c = xdf) with _ | _
      · have HF := Lib.hid (okMs_mono (x := x) (k := k + 1) (n := x.m.length) (by rw [HSU.out, h5]; simp) (by omega))
        have e5 : (m.c != xdf) = true := by rw [bne_iff_ne]; exact of_decide_eq_false h5
        clear h5
        go_wp2
        rw [← hWx]; clear hWx
        (refine wp_region_inB (by kernel_rfl) (by kernel_rfl) ?_; (repeat (go_big_quiet_step ((go_at_call 173; exact InB.call (implIsMatrix_any _ _ m _ (HM.out _)))))); refine wpQuiet_nil ?_; intro w1 hw'; obtain ⟨s1, hw1⟩ := hw'; have hb1 := s1.below; rw [← hw1] at hb1; clear hw1 s1)
        go_wp2
        go_ret
        exact ⟨by rw [HF.out]; rfl, bthen HG1.out hb1⟩
      have e5 : (m.c != xdf) = false := by rw [bne_eq_false_iff_eq]; exact of_decide_eq_true h5
      rcases h6 : decide (m.r = xdt) with _ | _
      · have HF := Lib.hid (okMs_mono (x := x) (k := k + 1) (n := x.m.length) (by rw [HSU.out, h6]; simp) (by omega))
        have e6 : (m.r != xdt) = true := by rw [bne_iff_ne]; exact of_decide_eq_false h6
        clear h5 h6
        go_wp2
        rw [← hWx]; clear hWx
        (refine wp_region_inB (by kernel_rfl) (by kernel_rfl) ?_; (repeat (go_big_quiet_step ((go_at_call 173; exact InB.call (implIsMatrix_any _ _ m _ (HM.out _)))))); refine wpQuiet_nil ?_; intro w1 hw'; obtain ⟨s1, hw1⟩ := hw'; have hb1 := s1.below; rw [← hw1] at hb1; clear hw1 s1)
        go_wp2
        go_ret
        exact ⟨by rw [HF.out]; rfl, bthen HG1.out hb1⟩
      have e6 : (m.r != xdt) = false := by rw [bne_eq_false_iff_eq]; exact of_decide_eq_true h6
      have HF := Lib.hid (show okMs x (k + 1) = true by rw [HSU.out, h4, h5, h6]; rfl)
      clear h5 h6
      go_wp2
      rw [← hWx]; clear hWx
      (refine wp_region_inB (by kernel_rfl) (by kernel_rfl) ?_; (repeat (go_big_quiet_step ((go_at_call 173; exact InB.call (implIsMatrix_any _ _ m _ (HM.out _)))))); refine wpQuiet_nil ?_; intro w1 hw'; obtain ⟨s1, hw1⟩ := hw'; have hb1 := s1.below; rw [← hw1] at hb1; clear hw1 s1)
      go_wp2
      go_roundw
      case rel => exact ⟨k + 1, by omega, by go_num, bthen HGX.out hb1, HF.out⟩
      case measure => simp [intOf]; omega
    · have HF := Lib.hid (show okMs x x.m.length = true by have := hok.out; rwa [show k = x.m.length by omega] at this)
      have g1 := bthen g0 hbel
      go_wp2
      go_ret
      exact ⟨by rw [HF.out]; rfl, g1⟩
set_option maxHeartbeats 3200000 in
set_option maxRecDepth 100000 in
theorem specIsRep_any (u : Value) (x : Rp) (w : World) (hu : RpR w w.heap.size u x) :
    Calls Try.prog 116 #[u] w fun e w' => e = .returned (.bool (isRep x)) ∧ Below w.heap.size w w' := by
  obtain ⟨A, a, C, c, E, e, H, h, rfl, hq, hd, hm, hp, ld, lm⟩ := hu.open_
  clear hu
  obtain ⟨W, hW⟩ : ∃ W, W = w.alloc (.cells #[.int .i64 x.p, .int .i64 x.q.v, .slice A x.q.f.length a, .slice C x.q.t.length c, .slice E x.d.length e, .slice H x.m.length h] 35) := ⟨_, rfl⟩
  have g0 : Below w.heap.size w W := by rw [hW]; exact below_alloc _ _
  have kB : Blk W w.heap.size 35 #[.int .i64 x.p, .int .i64 x.q.v, .slice A x.q.f.length a, .slice C x.q.t.length c, .slice E x.d.length e, .slice H x.m.length h] := by rw [hW]; exact Blk.new _ _ _
  have c0 := kB.cell' (i := 0) rfl
  have c1 := kB.cell' (i := 1) rfl
  have c2 := kB.cell' (i := 2) rfl
  have c3 := kB.cell' (i := 3) rfl
  have c4 := kB.cell' (i := 4) rfl
  have c5 := kB.cell' (i := 5) rfl
  replace hq := QvR.next g0 hq
  replace hd := SlI.next g0 hd
  replace hm := SlM.next g0 hm
  unfold isRep
  rcases h1 : isFld x.p with _ | _
  · go_enter Try.func116, Try.ntmps116
    go_wp2_with fail
    rw [← hW]; clear hW
    refine (specIsField_any _ _).mono ?_; rintro e w1 ⟨rfl, rfl⟩
    rw [h1]
    go_wp2
    go_ret
    exact ⟨rfl, g0⟩
  rcases h2 : areDims x.q x.d with _ | _
  · have H2 := Lib.hid h2
    clear h2
    go_enter Try.func116, Try.ntmps116
    go_wp2_with fail
    rw [← hW]; clear hW
    refine (specIsField_any _ _).mono ?_; rintro e w1 ⟨rfl, rfl⟩
    rw [h1]
    go_wp2_with fail
    refine (specAreDims_any _ _ _ _ _ hq hd).mono ?_; rintro e w_3 ⟨rfl, hb_3⟩
    replace g0 := bthen g0 hb_3
    replace hq := QvR.next hb_3 hq
    replace hd := SlI.next hb_3 hd
    replace hm := SlM.next hb_3 hm
    replace kB := kB.call hb_3
    replace c0 := kB.cell' (i := 0) rfl
    replace c1 := kB.cell' (i := 1) rfl
    replace c2 := kB.cell' (i := 2) rfl
    replace c3 := kB.cell' (i := 3) rfl
    replace c4 := kB.cell' (i := 4) rfl
    replace c5 := kB.cell' (i := 5) rfl
    rw [H2.out]
    go_wp2
    go_ret
    exact ⟨rfl, g0⟩
  obtain ⟨lf, lt⟩ := hq.lens
  rcases h3 : decide (x.m.length = x.q.f.length) with _ | _
  · have e3 : ((x.m.length : Int) != x.q.f.length) = true := by rw [bne_iff_ne]; have := of_decide_eq_false h3; omega
    have H2 := Lib.hid h2
    clear h2 h3
    go_enter Try.func116, Try.ntmps116
    go_wp2_with fail
    rw [← hW]; clear hW
    refine (specIsField_any _ _).mono ?_; rintro e w1 ⟨rfl, rfl⟩
    rw [h1]
    go_wp2_with fail
    refine (specAreDims_any _ _ _ _ _ hq hd).mono ?_; rintro e w_4 ⟨rfl, hb_4⟩
    replace g0 := bthen g0 hb_4
    replace hq := QvR.next hb_4 hq
    replace hd := SlI.next hb_4 hd
    replace hm := SlM.next hb_4 hm
    replace kB := kB.call hb_4
    replace c0 := kB.cell' (i := 0) rfl
    replace c1 := kB.cell' (i := 1) rfl
    replace c2 := kB.cell' (i := 2) rfl
    replace c3 := kB.cell' (i := 3) rfl
    replace c4 := kB.cell' (i := 4) rfl
    replace c5 := kB.cell' (i := 5) rfl
    rw [H2.out]
    go_wp2
    go_ret
    exact ⟨rfl, g0⟩
  have e3 : ((x.m.length : Int) != x.q.f.length) = false := by rw [bne_eq_false_iff_eq]; have := of_decide_eq_true h3; omega
  have H3 := Lib.hid (of_decide_eq_true h3)
  have H2 := Lib.hid h2
  clear h2 h3
  go_enter Try.func116, Try.ntmps116
  go_wp2_with fail
  rw [← hW]; clear hW
  refine (specIsField_any _ _).mono ?_; rintro e w1 ⟨rfl, rfl⟩
  rw [h1]
  go_wp2_with fail
  refine (specAreDims_any _ _ _ _ _ hq hd).mono ?_; rintro e W1 ⟨rfl, hb0⟩
  replace g0 := bthen g0 hb0
  replace hq := QvR.next hb0 hq
  replace hd := SlI.next hb0 hd
  replace hm := SlM.next hb0 hm
  replace kB := kB.call hb0
  replace c0 := kB.cell' (i := 0) rfl
  replace c1 := kB.cell' (i := 1) rfl
  replace c2 := kB.cell' (i := 2) rfl
  replace c3 := kB.cell' (i := 3) rfl
  replace c4 := kB.cell' (i := 4) rfl
  replace c5 := kB.cell' (i := 5) rfl
  clear hb0
  rw [H2.out]
  obtain ⟨hf, ht⟩ := hq.sl
  clear hq
  go_wp2
  go_loopw [3] (fun i wr => ∃ k : Nat, k ≤ x.m.length ∧ i = .int .i64 k ∧ Below W1.heap.size W1 wr ∧ Hid (okMs x k = true)) (fun i _ => x.m.length - (intOf i).toNat)
  case atStart => exact ⟨0, Nat.zero_le _, rfl, Below.refl _ _, rfl⟩
  case round =>
    obtain ⟨k, hk, rfl, hbel, hok⟩ := hrel
    clear c0 c1 c2 c3 c4 c5
    have z5 := (kB.call hbel).cell' (i := 5) rfl
    by_cases hlt : k < x.m.length
    · have hkf : k < x.q.f.length := by have := H3.out; omega
      obtain ⟨nf, nt, yf, yt, ef, et, df, dt, lnf, lnt, lnf5, lnt5, hkt⟩ := rep_at H2.out hkf
      obtain ⟨b, o, m, A', c', rfl, hb, HX, x1, x2, x3, hsl, i1, i2, lml⟩ := SlM.at_ hm hlt
      obtain ⟨bf, of_, xf, rfl, hbf, HXF, f1, _⟩ := SlI.at_ hf hkf
      obtain ⟨bt, ot, xt, rfl, hbt, HXT, t1, _⟩ := SlI.at_ ht hkt
      obtain ⟨bd, od, xdf, rfl, hbd, HXDF, d1, ddf⟩ := SlI.at_ hd lnf
      obtain ⟨bd', od', xdt, ebd, hbd', HXDT, d2, ddt⟩ := SlI.at_ hd lnt
      injection ebd with ebd
      injection ebd with ebd1 ebd2
      subst ebd1 ebd2
      have q1 := HXF.out
      rw [ef] at q1
      injection q1 with q1
      subst q1
      have q2 := HXT.out
      rw [et] at q2
      injection q2 with q2
      subst q2
      have hsucc := okMs_succ HX.out ef et
      rw [hok.out, Bool.true_and, okM, dAt_of HXDF.out, dAt_of HXDT.out] at hsucc
      have HSU := Lib.hid hsucc
      clear hsucc HXDF HXDT HXF HXT ef et df dt hf ht hd hm
      have gx := hbel
      have hm0 := InB.cell (w := wr) (by have := hbel.size; omega) (bcell hbel hb x1)
      have hm1 := InB.cell (w := wr) (by have := hbel.size; omega) (bcell hbel hb x2)
      have hm2 := InB.cell (w := wr) (by have := hbel.size; omega) (bcell hbel hb x3)
      have gx1 := gx.size
      have hF := InB.cell (w := wr) (by omega) (bcell gx hbf f1)
      have hT := InB.cell (w := wr) (by omega) (bcell gx hbt t1)
      have hD1 := InB.cell (w := wr) (by omega) (bcell gx hbd d1)
      have hD2 := InB.cell (w := wr) (by omega) (bcell gx hbd d2)
      have kBx := kB.call gx
      have r0 := fun s : InB wr => (kBx.call s.below).cell' (i := 0) rfl
      have r2 := fun s : InB wr => (kBx.call s.below).cell' (i := 2) rfl
      have r3 := fun s : InB wr => (kBx.call s.below).cell' (i := 3) rfl
      have r4 := fun s : InB wr => (kBx.call s.below).cell' (i := 4) rfl
      have r5 := fun s : InB wr => (kBx.call s.below).cell' (i := 5) rfl
      have HM : Hid (∀ s : InB wr, MxR s.val s.val.heap.size (.agg #[.int .i64 m.r, .int .i64 m.c, .slice A' m.a.length c']) m) := fun s => ⟨_, rfl, SlI.next s.below (SlI.next gx hsl), i1, i2⟩
      have g1 := bthen g0 gx
      have HGX := Lib.hid gx
      have HG1 := Lib.hid g1
      clear x1 x2 x3 f1 t1 d1 d2 hsl i1 i2 kB kBx gx g1 g0
      have a1 : (0 : Int) ≤ (k : Int) := by omega
      have a2 : (k : Int) < x.q.f.length := by omega
      have a3 : (k : Int) < x.q.t.length := by omega
      have a4 : (0 : Int) ≤ (nf : Int) := by omega
      have a5 : (nf : Int) < x.d.length := by omega
      have a6 : (0 : Int) ≤ (nt : Int) := by omega
      have a7 : (nt : Int) < x.d.length := by omega
      have a8 : (k : Int) < x.m.length := by omega
      rcases h4 : isMat x.p m with _ | _
      · have HF := Lib.hid (okMs_mono (x := x) (k := k + 1) (n := x.m.length) (by rw [HSU.out, h4]; rfl) (by omega))
        go_wp2
        (refine wp_region_inB (by kernel_rfl) (by kernel_rfl) ?_; (repeat (go_big_quiet_step ((go_at_call 167; exact InB.call (specIsMatrix_any _ _ m _ (HM.out _)))))); refine wpQuiet_nil ?_; intro w1 hw'; obtain ⟨s1, hw1⟩ := hw'; have hb1 := s1.below; rw [← hw1] at hb1; clear hw1 s1)
        go_wp2
        go_ret
        exact ⟨by rw [HF.out]; rfl, bthen HG1.out hb1⟩
      rcases h5 : decide (m.c = xdf) with _ | _
      · have HF := Lib.hid (okMs_mono (x := x) (k := k + 1) (n := x.m.length) (by rw [HSU.out, h5]; simp) (by omega))
        have e5 : (m.c != xdf) = true := by rw [bne_iff_ne]; exact of_decide_eq_false h5
        clear h5
        go_wp2
        (refine wp_region_inB (by kernel_rfl) (by kernel_rfl) ?_; (repeat (go_big_quiet_step ((go_at_call 167; exact InB.call (specIsMatrix_any _ _ m _ (HM.out _)))))); refine wpQuiet_nil ?_; intro w1 hw'; obtain ⟨s1, hw1⟩ := hw'; have hb1 := s1.below; rw [← hw1] at hb1; clear hw1 s1)
        go_wp2
        go_ret
        exact ⟨by rw [HF.out]; rfl, bthen HG1.out hb1⟩
      have e5 : (m.c != xdf) = false := by rw [bne_eq_false_iff_eq]; exact of_decide_eq_true h5
      rcases h6 : decide (m.r = xdt) with _ | _
      · have HF := Lib.hid (okMs_mono (x := x) (k := k + 1) (n := x.m.length) (by rw [HSU.out, h6]; simp) (by omega))
        have e6 : (m.r != xdt) = true := by rw [bne_iff_ne]; exact of_decide_eq_false h6
        clear h5 h6
        go_wp2
        (refine wp_region_inB (by kernel_rfl) (by kernel_rfl) ?_; (repeat (go_big_quiet_step ((go_at_call 167; exact InB.call (specIsMatrix_any _ _ m _ (HM.out _)))))); refine wpQuiet_nil ?_; intro w1 hw'; obtain ⟨s1, hw1⟩ := hw'; have hb1 := s1.below; rw [← hw1] at hb1; clear hw1 s1)
        go_wp2
        go_ret
        exact ⟨by rw [HF.out]; rfl, bthen HG1.out hb1⟩
      have e6 : (m.r != xdt) = false := by rw [bne_eq_false_iff_eq]; exact of_decide_eq_true h6
      have HF := Lib.hid (show okMs x (k + 1) = true by rw [HSU.out, h4, h5, h6]; rfl)
      clear h5 h6
      go_wp2
      (refine wp_region_inB (by kernel_rfl) (by kernel_rfl) ?_; (repeat (go_big_quiet_step ((go_at_call 167; exact InB.call (specIsMatrix_any _ _ m _ (HM.out _)))))); refine wpQuiet_nil ?_; intro w1 hw'; obtain ⟨s1, hw1⟩ := hw'; have hb1 := s1.below; rw [← hw1] at hb1; clear hw1 s1)
      go_wp2
      go_roundw
      case rel => exact ⟨k + 1, by omega, by go_num, bthen HGX.out hb1, HF.out⟩
      case measure => simp [intOf]; omega
    · have HF := Lib.hid (show okMs x x.m.length = true by have := hok.out; rwa [show k = x.m.length by omega] at this)
      have g1 := bthen g0 hbel
      go_wp2
      go_ret
      exact ⟨by rw [HF.out]; rfl, g1⟩
end Go.Proofs.Ytjlgijdkfihhlaa

/- Valid representations are small. -/
namespace Go.Proofs.Ytjlgijdkfihhlaa
set_option linter.unusedVariables false
set_option linter.unusedSimpArgs false
open Go.RowKit

theorem okMs_all {x : Rp} (h : okMs x x.m.length = true) : ∀ m ∈ x.m, isMat x.p m = true := by
  intro m hm
  obtain ⟨j, hj⟩ := List.getElem?_of_mem hm
  have hl := lt_of_some hj
  simp only [okMs, List.all_eq_true, List.mem_range] at h
  have := h j hl
  rw [List.getD_eq_getElem?_getD, hj, Option.getD_some] at this
  simp only [okM, Bool.and_eq_true] at this
  exact this.1.1
theorem isRep_t {x : Rp} : isRep x = true ↔ isFld x.p = true ∧ areDims x.q x.d = true ∧ x.m.length = x.q.f.length ∧ okMs x x.m.length = true := by
  simp only [isRep, Bool.and_eq_true, decide_eq_true_eq, and_assoc]
theorem totA_le {ms : List Mx} {n : Nat} (h : ∀ m ∈ ms, m.a.length ≤ n) : totA ms ≤ ms.length * n := by
  induction ms with
  | nil => simp [totA, tot]
  | cons m ms ih =>
    have h1 := h m (by simp)
    have h2 := ih (fun x hx => h x (by simp [hx]))
    simp only [totA, tot, List.map_cons, List.sum_cons, List.length_cons] at h2 ⊢
    rw [Nat.add_mul]
    omega
theorem isRep_size {x : Rp} (h : isRep x = true) : x.size ≤ 1000 := by
  obtain ⟨h1, h2, h3, h4⟩ := isRep_t.1 h
  obtain ⟨k1, k2, k3, k4⟩ := areDims_t.1 h2
  obtain ⟨q1, q2, q3, q4, q5⟩ := isQ_t.1 k1
  have h5 := totA_le (ms := x.m) (n := 64) (fun m hm => (isVec_t.1 (isMat_t.1 (okMs_all h4 m hm)).2.2.2).2.1)
  simp only [Rp.size, Qv.size, szM]
  have : x.m.length * 64 ≤ 6 * 64 := Nat.mul_le_mul_right _ (by omega)
  omega
theorem rp0_size : rp0.size = 0 := rfl
end Go.Proofs.Ytjlgijdkfihhlaa

/- A valid representation at an arrow. -/
namespace Go.Proofs.Ytjlgijdkfihhlaa
set_option linter.unusedVariables false
set_option linter.unusedSimpArgs false
open Go.RowKit

/-- a valid representation at an arrow -/
theorem isRep_at {x : Rp} (hx : isRep x = true) {k : Nat} (hk : k < x.q.f.length) : ∃ (m : Mx) (nf nt yf yt : Nat), x.m[k]? = some m ∧ x.q.f[k]? = some (nf : Int) ∧ x.q.t[k]? = some (nt : Int) ∧ x.d[nf]? = some (yf : Int) ∧ x.d[nt]? = some (yt : Int) ∧
    m = mxF yt yf (entry m.a yf) ∧ (∀ i j, i < yt → j < yf → 0 ≤ entry m.a yf i j ∧ entry m.a yf i j ≤ x.p - 1) ∧ yf ≤ 4 ∧ yt ≤ 4 ∧ nf ≤ 5 ∧ nt ≤ 5 ∧ nf < x.d.length ∧ nt < x.d.length ∧ k < x.q.t.length ∧ k < x.m.length := by
  obtain ⟨h1, h2, h3, h4⟩ := isRep_t.1 hx
  obtain ⟨nf, nt, yf, yt, ef, et, df, dt, lf, lt, l5, l6, l7⟩ := rep_at h2 hk
  have hd := (areDims_t.1 h2).2.2.1
  have bf := hd _ (List.mem_of_getElem? df)
  have bt := hd _ (List.mem_of_getElem? dt)
  have hkm : k < x.m.length := by omega
  have em := List.getElem?_eq_getElem hkm
  obtain ⟨m, hm⟩ : ∃ m, x.m[k] = m := ⟨_, rfl⟩
  rw [hm] at em
  have h5 := h4
  simp only [okMs, List.all_eq_true, List.mem_range] at h5
  have h6 := h5 k hkm
  simp only [List.getD_eq_getElem?_getD, em, ef, et, Option.getD_some] at h6
  simp only [okM, Bool.and_eq_true, decide_eq_true_eq] at h6
  obtain ⟨⟨hM, hc⟩, hr⟩ := h6
  rw [dAt_of df] at hc
  rw [dAt_of dt] at hr
  obtain ⟨_, _, hl, hv⟩ := isMat_t.1 hM
  obtain ⟨YF, rfl⟩ := Int.eq_ofNat_of_zero_le bf.1
  obtain ⟨YT, rfl⟩ := Int.eq_ofNat_of_zero_le bt.1
  have hl' : m.a.length = YT * YF := by
    rw [hr, hc] at hl
    exact_mod_cast hl
  have hrange := (isVec_t.1 hv).2.2
  refine ⟨m, nf, nt, YF, YT, em, ef, et, df, dt, ?_, fun i j hi hj => ?_, by omega, by omega, l5, l6, lf, lt, l7, hkm⟩
  · rw [mx_ext]
    exact ⟨hr, hc, flat_of hl'⟩
  · refine hrange _ ?_
    have := ix_lt hi hj
    rw [entry, List.getD_eq_getElem?_getD, List.getElem?_eq_getElem (by omega)]
    exact List.getElem_mem _
def mx0 : Mx := ⟨0, 0, []⟩
theorem MxO.zero (w : World) (lo hi : Nat) : MxO w lo hi (.agg #[.int .i64 0, .int .i64 0, .slice none 0 0]) mx0 := ⟨_, rfl, ⟨OwnI.nil _ _, by simp [Value.ownBlock]⟩, by simp [mx0, I64], by simp [mx0, I64]⟩
theorem MxO.setBlk {w : World} {lo hi g i : Nat} {v : Value} {m : Mx} {t : TypeId} {cs : Array Value} (h : MxO w lo hi v m) (hb : Blk w g t cs) (ht : 3 ≠ t) (u : Value) : MxO (w.setCell ⟨g, i, none⟩ u) lo hi v m := by
  obtain ⟨s, e, h1, h2⟩ := h
  exact ⟨s, e, ⟨h1.1.setCell (p := ⟨g, i, none⟩) (fun e => h1.1.blkne hb ht e.symm) u, h1.2⟩, h2⟩
end Go.Proofs.Ytjlgijdkfihhlaa

/- Rows of rows of the call's own: reading and writing one number; matrices told by a function. -/
namespace Go.Proofs.Ytjlgijdkfihhlaa
set_option linter.unusedVariables false
set_option linter.unusedSimpArgs false
open Go.RowKit

/-- a matrix told by a function -/
def rowF (V : Nat) (g : Nat → Int) : List Int := (List.range V).map g
def matF (V : Nat) (g : Nat → Nat → Int) : List (List Int) := (List.range V).map fun a => rowF V (g a)
theorem rowF_length (V : Nat) (g : Nat → Int) : (rowF V g).length = V := by simp [rowF]
theorem matF_length (V : Nat) (g : Nat → Nat → Int) : (matF V g).length = V := by simp [matF]
theorem rowF_get {V j : Nat} (g : Nat → Int) (h : j < V) : (rowF V g)[j]? = some (g j) := by simp [rowF, h]
theorem matF_get {V j : Nat} (g : Nat → Nat → Int) (h : j < V) : (matF V g)[j]? = some (rowF V (g j)) := by simp [matF, h]
theorem rowF_getD {V j : Nat} (g : Nat → Int) (h : j < V) : (rowF V g).getD j 0 = g j := by rw [List.getD_eq_getElem?_getD, rowF_get g h]; rfl
theorem rowF_congr {V : Nat} {g h : Nat → Int} (e : ∀ a, a < V → g a = h a) : rowF V g = rowF V h := by
  apply List.ext_getElem?
  intro i
  by_cases hi : i < V
  · rw [rowF_get g hi, rowF_get h hi, e i hi]
  · rw [List.getElem?_eq_none (by rw [rowF_length]; omega), List.getElem?_eq_none (by rw [rowF_length]; omega)]
theorem matF_congr {V : Nat} {g h : Nat → Nat → Int} (e : ∀ a b, a < V → b < V → g a b = h a b) : matF V g = matF V h := by
  apply List.ext_getElem?
  intro i
  by_cases hi : i < V
  · rw [matF_get g hi, matF_get h hi, rowF_congr (fun b hb => e i b hi hb)]
  · rw [List.getElem?_eq_none (by rw [matF_length]; omega), List.getElem?_eq_none (by rw [matF_length]; omega)]
theorem rowF_set {V j : Nat} (g : Nat → Int) (x : Int) : (rowF V g).set j x = rowF V fun b => if b = j then x else g b := by
  apply List.ext_getElem?
  intro i
  rw [List.getElem?_set, rowF_length]
  by_cases hi : i < V
  · rw [rowF_get (fun b => if b = j then x else g b) hi]
    by_cases e : j = i
    · rw [if_pos e, if_pos (by omega), if_pos e.symm]
    · rw [if_neg e, rowF_get _ hi, if_neg (fun h => e h.symm)]
  · rw [List.getElem?_eq_none (l := rowF V fun b => if b = j then x else g b) (by rw [rowF_length]; omega)]
    split
    · rw [if_neg (by omega)]
    · rw [List.getElem?_eq_none (by rw [rowF_length]; omega)]
theorem matF_set {V j : Nat} (g : Nat → Nat → Int) (h : Nat → Int) : (matF V g).set j (rowF V h) = matF V fun a b => if a = j then h b else g a b := by
  apply List.ext_getElem?
  intro i
  rw [List.getElem?_set, matF_length]
  by_cases hi : i < V
  · rw [matF_get (fun a b => if a = j then h b else g a b) hi]
    by_cases e : j = i
    · subst e
      rw [if_pos rfl, if_pos hi]
      simp
    · rw [if_neg e, matF_get _ hi]
      congr 1
      apply rowF_congr
      intro b _
      rw [if_neg (fun h => e h.symm)]
  · rw [List.getElem?_eq_none (l := matF V fun a b => if a = j then h b else g a b) (by rw [matF_length]; omega)]
    split
    · rw [if_neg (by omega)]
    · rw [List.getElem?_eq_none (by rw [matF_length]; omega)]

/-- A row of a row of rows. -/
theorem OutO.cellS {w : World} {lo hi g n c j : Nat} {vs : List Value} {v : Value} (ho : OutO w lo hi (.slice (some ⟨g, 0, none⟩) n c) vs) (hv : vs[j]? = some v) : w.cell? ⟨g, j, none⟩ = some v := by
  have hj := lt_of_some hv
  have hn : n = vs.length := by
    rcases ho.1.2 with ⟨e, _⟩ | ⟨g', cap', cur, e, _⟩
    · cases e
    · injection e with _ e _
  subst hn
  have hc := ho.1.cellAt j (by omega)
  rw [hc, hv]
theorem OutO.frozenS {w : World} {lo hi g n c : Nat} {vs : List Value} (ho : OutO w lo hi (.slice (some ⟨g, 0, none⟩) n c) vs) (j : Nat) : w.frozen? ⟨g, j, none⟩ = false := by
  have hn : n = vs.length := by
    rcases ho.1.2 with ⟨e, _⟩ | ⟨g', cap', cur, e, _⟩
    · cases e
    · injection e with _ e _
  subst hn
  exact ho.1.frozenAt j
theorem Fam.rowAt {w : World} {lo hi j : Nat} {vs : List Value} {ll : List (List Int)} {l : List Int} (hF : Fam w lo hi (vs.zip ll)) (hvl : vs.length = ll.length) (hl : ll[j]? = some l) (hne : 0 < l.length) :
    ∃ g c, vs[j]? = some (.slice (some ⟨g, 0, none⟩) l.length c) ∧ OwnI w lo (.slice (some ⟨g, 0, none⟩) l.length c) l ∧ l.length ≤ c ∧ c ≤ 9223372036854775807 ∧ lo ≤ g ∧ g < hi := by
  have hj := lt_of_some hl
  have hv : vs[j]? = some (vs[j]'(by omega)) := List.getElem?_eq_getElem (by omega)
  have h := hF.1 (vs[j]'(by omega), l) (by rw [zip_split hv hl]; simp)
  rcases h.1.1.2 with ⟨e, h0⟩ | ⟨g, cap, cur, e, hg, _, hnc, hcm, _⟩
  · simp only at h0
    omega
  · simp only at e
    refine ⟨g, cap, by rw [hv, e], by rw [← e]; exact h.1, hnc, by simp only [maxLen] at hcm; omega, hg, h.2 g (by simp [e, Value.ownBlock])⟩
theorem zip_set {vs : List Value} {ll : List (List Int)} {j : Nat} {v : Value} {l l' : List Int} (hv : vs[j]? = some v) (hl : ll[j]? = some l) : vs.zip (ll.set j l') = (vs.take j).zip (ll.take j) ++ (v, l') :: (vs.drop (j + 1)).zip (ll.drop (j + 1)) := by
  have hj := lt_of_some hl
  rw [zip_split hv (l := l') (by rw [List.getElem?_set, if_pos rfl, if_pos hj]), List.take_set_of_le (Nat.le_refl j), List.drop_set_of_lt (by omega)]
/-- One number turned. -/
theorem Fam.putAt {w : World} {lo hi j i g c : Nat} {vs : List Value} {ll : List (List Int)} {l : List Int} {x : Int} (hF : Fam w lo hi (vs.zip ll)) (hv : vs[j]? = some (.slice (some ⟨g, 0, none⟩) l.length c)) (hl : ll[j]? = some l)
    (ho : OwnI w lo (.slice (some ⟨g, 0, none⟩) l.length c) l) (hx : I64 x) : Fam (w.setCell ⟨g, i, none⟩ (.int .i64 x)) lo hi (vs.zip (ll.set j (l.set i x))) := by
  rw [zip_set hv hl]
  rw [zip_split hv hl] at hF
  have hp := ho.put (j := i) hx
  exact hF.turn hp.1 hp.2
end Go.Proofs.Ytjlgijdkfihhlaa

/- Writes into one block. -/
namespace Go.Proofs.Ytjlgijdkfihhlaa
set_option linter.unusedVariables false
set_option linter.unusedSimpArgs false
open Go.RowKit
theorem chg3 (w : World) (g : Nat) (u0 u1 u2 : Value) : Chg g (g + 1) w (((w.setCell ⟨g, 0, none⟩ u0).setCell ⟨g, 1, none⟩ u1).setCell ⟨g, 2, none⟩ u2) := by
  have s : ∀ (w : World) (i : Nat) (u : Value), Chg g (g + 1) w (w.setCell ⟨g, i, none⟩ u) := fun w i u => chg_set (Nat.le_refl _) (Nat.lt_succ_self _)
  exact ((s _ _ _).trans (s _ _ _)).trans (s _ _ _)

theorem chg6 (w : World) (g : Nat) (u0 u1 u2 u3 u4 u5 : Value) : Chg g (g + 1) w ((((((w.setCell ⟨g, 0, none⟩ u0).setCell ⟨g, 1, none⟩ u1).setCell ⟨g, 2, none⟩ u2).setCell ⟨g, 3, none⟩ u3).setCell ⟨g, 4, none⟩ u4).setCell ⟨g, 5, none⟩ u5) := by
  have s : ∀ (w : World) (i : Nat) (u : Value), Chg g (g + 1) w (w.setCell ⟨g, i, none⟩ u) := fun w i u => chg_set (Nat.le_refl _) (Nat.lt_succ_self _)
  exact (((((s _ _ _).trans (s _ _ _)).trans (s _ _ _)).trans (s _ _ _)).trans (s _ _ _)).trans (s _ _ _)

end Go.Proofs.Ytjlgijdkfihhlaa

/- Identity matrices: the program's and the reference's. -/
namespace Go.Proofs.Ytjlgijdkfihhlaa
set_option linter.unusedVariables false
set_option linter.unusedSimpArgs false
open Go.RowKit

theorem IntsO.at_ {w : World} {lo hi : Nat} {v : Value} {l : List Int} (h : IntsO w lo hi v l) (h0 : 0 < l.length) : ∃ g c, v = .slice (some ⟨g, 0, none⟩) l.length c ∧ lo ≤ g ∧ g < hi ∧ g < w.heap.size := by
  rcases h.1.1.2 with ⟨rfl, h1⟩ | ⟨g, cap, cur, rfl, hg, hh, _⟩
  · omega
  · exact ⟨g, cap, rfl, hg, h.2 g rfl, (Array.getElem?_eq_some_iff.1 hh).1⟩
theorem IntsO.put {w : World} {lo hi g n cap j : Nat} {l : List Int} {x : Int} (h : IntsO w lo hi (.slice (some ⟨g, 0, none⟩) n cap) l) (hx : I64 x) : IntsO (w.setCell ⟨g, j, none⟩ (.int .i64 x)) lo hi (.slice (some ⟨g, 0, none⟩) n cap) (l.set j x) := ⟨(h.1.put hx).1, h.2⟩
def idF (a b : Nat) : Int := if a = b then 1 else 0
def idK (k a b : Nat) : Int := if a = b ∧ a < k then 1 else 0
theorem idK_0 (n : Nat) : flat n n (fun _ _ => 0) = flat n n (idK 0) := flat_congr fun a b _ _ => by simp [idK]
theorem idK_succ {n k : Nat} (h : k < n) : (flat n n (idK k)).set (k * n + k) 1 = flat n n (idK (k + 1)) := by
  rw [flat_set _ _ h h]
  refine flat_congr fun a b _ _ => ?_
  simp only [idK]
  by_cases e : a = b
  · subst e
    by_cases e2 : a = k
    · simp [e2]
    · simp only [e2, true_and, if_false, false_and]
      congr 1
      simp; omega
  · rw [if_neg (by omega), if_neg (by omega), if_neg (by omega)]
theorem idK_n (n : Nat) : flat n n (idK n) = flat n n idF := flat_congr fun a b ha _ => by simp [idK, idF, ha]

set_option maxHeartbeats 800000 in
theorem identity_any (n : Nat) (w : World) (hn : n ≤ 100) :
    Calls Try.prog 88 #[.int .i64 n] w fun e w' => ∃ v, e = .returned v ∧ MxO w' w.heap.size w'.heap.size v (mxF n n idF) ∧ Below w.heap.size w w' := by
  obtain ⟨W, hW⟩ : ∃ W, W = w.alloc (.cells #[.int .i64 0, .int .i64 0, .slice none 0 0] 95) := ⟨_, rfl⟩
  have g0 : Below w.heap.size w W := by rw [hW]; exact below_alloc _ _
  have k2 : Blk W w.heap.size 95 #[.int .i64 0, .int .i64 0, .slice none 0 0] := by rw [hW]; exact Blk.new _ _ _
  have sz : W.heap.size = w.heap.size + 1 := by rw [hW]; simp
  have K2 := Lib.hid k2
  have SZ := Lib.hid sz
  clear k2 sz
  go_enter Try.func88, Try.ntmps88
  go_wp2_with fail
  rw [← hW]; clear hW
  refine (zero_any (n : Int) n W (by omega) (by omega) (by omega) (by omega)).mono ?_; rintro e w1 ⟨v1, rfl, ⟨sA, rfl, oA, hr, hc⟩, hb1⟩
  rw [zmx_flat] at oA hr hc ⊢
  simp only [mxF] at oA hr hc ⊢
  rw [idK_0] at oA
  obtain ⟨A1, c1, e1⟩ := oA.form
  obtain ⟨N, hN⟩ : ∃ N, n * n = N := ⟨_, rfl⟩
  rw [flat_length, hN] at e1
  subst e1
  have HN := Lib.hid hN
  clear hN
  have s1 := hb1.size
  obtain ⟨W4, hW4⟩ : ∃ W4, W4 = w1.alloc (.cells #[.int .i64 n, .int .i64 n, .slice A1 N c1] 95) := ⟨_, rfl⟩
  have b4 : Below w1.heap.size w1 W4 := by rw [hW4]; exact below_alloc _ _
  have k4 : Blk W4 w1.heap.size 95 #[.int .i64 n, .int .i64 n, .slice A1 N c1] := by rw [hW4]; exact Blk.new _ _ _
  have oA := oA.below b4
  have gW := bthen hb1 b4
  clear b4 hb1
  go_wp2
  rw [← hW4]; clear hW4
  go_loopw [9] (fun i wr => ∃ k : Nat, k ≤ n ∧ i = .int .i64 k ∧ Blk wr w1.heap.size 95 #[.int .i64 n, .int .i64 n, .slice A1 N c1] ∧ IntsO wr W.heap.size w1.heap.size (.slice A1 N c1) (flat n n (idK k)) ∧ Below W.heap.size W wr) (fun i _ => n - (intOf i).toNat)
  case atStart => exact ⟨0, Nat.zero_le _, rfl, k4, oA, gW⟩
  case round =>
    clear k4 oA gW
    obtain ⟨k, hk, rfl, k4, oA, gW⟩ := hrel
    have s6 := gW.size
    by_cases hlt : k < n
    · obtain ⟨P, J, hP, hPJ, hJ, hJN, hJb⟩ := ix_walk hlt hlt (show n ≤ 1000 by omega) (by omega)
      rw [HN.out] at hJN
      have hst := idK_succ hlt
      rw [← hJ] at hst
      subst hPJ
      obtain ⟨gA, cA, eA, a1, a2, a3⟩ := oA.at_ (by rw [flat_length, HN.out]; omega)
      rw [flat_length, HN.out] at eA
      injection eA with eA1 eA2 eA3
      subst eA1 eA3
      have r2 := k4.cell' (i := 2) rfl
      have fA := oA.1.frozenG (P + k)
      have cA := (oA.1.cellG (j := P + k) (by rw [flat_length, HN.out]; omega)).1
      have hc1 : Chg W.heap.size w1.heap.size wr (wr.setCell ⟨gA, P + k, none⟩ (.int .i64 1)) := chg_set a1 a2
      have oA2 := oA.put (j := P + k) (x := 1) (by simp [I64])
      rw [hst] at oA2
      have OA2 := Lib.hid oA2
      have K4 := Lib.hid (k4.chg hc1 (by omega))
      have GW := Lib.hid (gW.trans (hc1.below (Nat.le_refl _) s6))
      clear oA2 k4 oA gW hc1 hst hJ
      go_wp2
      go_roundw
      case rel => exact ⟨k + 1, by omega, by go_num, K4.out, OA2.out, GW.out⟩
      case measure => simp [intOf]; omega
    · obtain rfl : k = n := by omega
      have k2 := K2.out.below gW (by have := SZ.out; omega)
      have z0 := k4.cell' (i := 0) rfl
      have z1 := k4.cell' (i := 1) rfl
      have z2 := k4.cell' (i := 2) rfl
      have p0 := k2.cell' (i := 0) rfl
      have p1 := k2.cell' (i := 1) rfl
      have p2 := k2.cell' (i := 2) rfl
      have f2 := k2.frozen
      have h2 := chg3 wr w.heap.size (.int .i64 (k : Int)) (.int .i64 k) (.slice A1 N c1)
      rw [idK_n] at oA
      have gw : Below w.heap.size w wr := g0.trans (gW.mono g0.size)
      have gs := gw.size
      have oA2 := (oA.chg h2 (.inr (by have := SZ.out; omega))).wider (lo' := w.heap.size) (hi' := wr.heap.size) (by have := SZ.out; omega) (by have := k4.lt; omega)
      have fg := gw.trans (h2.below (Nat.le_refl _) gs)
      have OA2 := Lib.hid oA2
      have FG := Lib.hid fg
      clear oA oA2 fg gw h2 k2 k4 gW
      go_wp2
      exact bodyPost_ret (v := .agg #[.int .i64 (k : Int), .int .i64 k, .slice A1 N c1]) (by simp [results, go_sem, p0, p1, p2]) rfl ⟨_, rfl, ⟨_, rfl, by simpa [mxF] using OA2.out, by simp only [mxF, I64]; omega, by simp only [mxF, I64]; omega⟩, FG.out⟩
set_option maxHeartbeats 800000 in
theorem l3Identity_any (n : Nat) (w : World) (hn : n ≤ 100) :
    Calls Try.prog 118 #[.int .i64 n] w fun e w' => ∃ v, e = .returned v ∧ MxO w' w.heap.size w'.heap.size v (mxF n n idF) ∧ Below w.heap.size w w' := by
  obtain ⟨W, hW⟩ : ∃ W, W = w.alloc (.cells #[.int .i64 0, .int .i64 0, .slice none 0 0] 95) := ⟨_, rfl⟩
  have g0 : Below w.heap.size w W := by rw [hW]; exact below_alloc _ _
  have k2 : Blk W w.heap.size 95 #[.int .i64 0, .int .i64 0, .slice none 0 0] := by rw [hW]; exact Blk.new _ _ _
  have sz : W.heap.size = w.heap.size + 1 := by rw [hW]; simp
  have K2 := Lib.hid k2
  have SZ := Lib.hid sz
  clear k2 sz
  go_enter Try.func118, Try.ntmps118
  go_wp2_with fail
  rw [← hW]; clear hW
  refine (l3Zero_any (n : Int) n W (by omega) (by omega) (by omega) (by omega)).mono ?_; rintro e w1 ⟨v1, rfl, ⟨sA, rfl, oA, hr, hc⟩, hb1⟩
  rw [zmx_flat] at oA hr hc ⊢
  simp only [mxF] at oA hr hc ⊢
  rw [idK_0] at oA
  obtain ⟨A1, c1, e1⟩ := oA.form
  obtain ⟨N, hN⟩ : ∃ N, n * n = N := ⟨_, rfl⟩
  rw [flat_length, hN] at e1
  subst e1
  have HN := Lib.hid hN
  clear hN
  have s1 := hb1.size
  obtain ⟨W4, hW4⟩ : ∃ W4, W4 = w1.alloc (.cells #[.int .i64 n, .int .i64 n, .slice A1 N c1] 95) := ⟨_, rfl⟩
  have b4 : Below w1.heap.size w1 W4 := by rw [hW4]; exact below_alloc _ _
  have k4 : Blk W4 w1.heap.size 95 #[.int .i64 n, .int .i64 n, .slice A1 N c1] := by rw [hW4]; exact Blk.new _ _ _
  have oA := oA.below b4
  have gW := bthen hb1 b4
  clear b4 hb1
  go_wp2
  rw [← hW4]; clear hW4
  go_loopw [4] (fun i wr => ∃ k : Nat, k ≤ n ∧ i = .int .i64 k ∧ Blk wr w1.heap.size 95 #[.int .i64 n, .int .i64 n, .slice A1 N c1] ∧ IntsO wr W.heap.size w1.heap.size (.slice A1 N c1) (flat n n (idK k)) ∧ Below W.heap.size W wr) (fun i _ => n - (intOf i).toNat)
  case atStart => exact ⟨0, Nat.zero_le _, rfl, k4, oA, gW⟩
  case round =>
    clear k4 oA gW
    obtain ⟨k, hk, rfl, k4, oA, gW⟩ := hrel
    have s6 := gW.size
    by_cases hlt : k < n
    · obtain ⟨P, J, hP, hPJ, hJ, hJN, hJb⟩ := ix_walk hlt hlt (show n ≤ 1000 by omega) (by omega)
      rw [HN.out] at hJN
      have hst := idK_succ hlt
      rw [← hJ] at hst
      subst hPJ
      obtain ⟨gA, cA, eA, a1, a2, a3⟩ := oA.at_ (by rw [flat_length, HN.out]; omega)
      rw [flat_length, HN.out] at eA
      injection eA with eA1 eA2 eA3
      subst eA1 eA3
      have r2 := k4.cell' (i := 2) rfl
      have fA := oA.1.frozenG (P + k)
      have cA := (oA.1.cellG (j := P + k) (by rw [flat_length, HN.out]; omega)).1
      have hc1 : Chg W.heap.size w1.heap.size wr (wr.setCell ⟨gA, P + k, none⟩ (.int .i64 1)) := chg_set a1 a2
      have oA2 := oA.put (j := P + k) (x := 1) (by simp [I64])
      rw [hst] at oA2
      have OA2 := Lib.hid oA2
      have K4 := Lib.hid (k4.chg hc1 (by omega))
      have GW := Lib.hid (gW.trans (hc1.below (Nat.le_refl _) s6))
      clear oA2 k4 oA gW hc1 hst hJ
      go_wp2
      go_roundw
      case rel => exact ⟨k + 1, by omega, by go_num, K4.out, OA2.out, GW.out⟩
      case measure => simp [intOf]; omega
    · obtain rfl : k = n := by omega
      have k2 := K2.out.below gW (by have := SZ.out; omega)
      have z0 := k4.cell' (i := 0) rfl
      have z1 := k4.cell' (i := 1) rfl
      have z2 := k4.cell' (i := 2) rfl
      have p0 := k2.cell' (i := 0) rfl
      have p1 := k2.cell' (i := 1) rfl
      have p2 := k2.cell' (i := 2) rfl
      have f2 := k2.frozen
      have h2 := chg3 wr w.heap.size (.int .i64 (k : Int)) (.int .i64 k) (.slice A1 N c1)
      rw [idK_n] at oA
      have gw : Below w.heap.size w wr := g0.trans (gW.mono g0.size)
      have gs := gw.size
      have oA2 := (oA.chg h2 (.inr (by have := SZ.out; omega))).wider (lo' := w.heap.size) (hi' := wr.heap.size) (by have := SZ.out; omega) (by have := k4.lt; omega)
      have fg := gw.trans (h2.below (Nat.le_refl _) gs)
      have OA2 := Lib.hid oA2
      have FG := Lib.hid fg
      clear oA oA2 fg gw h2 k2 k4 gW
      go_wp2
      exact bodyPost_ret (v := .agg #[.int .i64 (k : Int), .int .i64 k, .slice A1 N c1]) (by simp [results, go_sem, p0, p1, p2]) rfl ⟨_, rfl, ⟨_, rfl, by simpa [mxF] using OA2.out, by simp only [mxF, I64]; omega, by simp only [mxF, I64]; omega⟩, FG.out⟩
end Go.Proofs.Ytjlgijdkfihhlaa

/- append of one row of ints onto a row of rows. -/
namespace Go.Proofs.Ytjlgijdkfihhlaa
set_option linter.unusedVariables false
set_option linter.unusedSimpArgs false
open Go.RowKit

theorem below_grown {B : Nat} {w w' : World} {row : Option Nat} (hg : w.grownBy w' row) (hB : ∀ k, row = some k → B ≤ k) (hs : B ≤ w.heap.size) : Below B w w' :=
  ⟨hg.os, hg.tape, hg.output, hg.size, fun k hk => hg.block k (by omega) (fun e => by have := hB k e.symm; omega)⟩
theorem wpList_appS {w : World} {ops : Array Oper} {rest : List Oper} {o : Oper} {a : Act} {Q : Exit → Act → World → Prop} (hgd : o.guard = none) (s x : Operand)
    (ho : o.op = .call { callee := .builtin .append, args := #[s, x], argTypes := #[42, 42] })
    (base : Nat) (v : Value) (vs : List Value) (hs : a.eval s = v) (hown : w.ownsRow base 22 1 v vs.length vs) (A : Option Addr) (c : Nat) (u : Value) (hx : a.eval x = .slice A 1 c) (hA : ∃ b o, A = some ⟨b, o, none⟩ ∧ w.cell? ⟨b, o, none⟩ = some u) (h1 : u.oneCell' = true)
    (hn : vs.length + 1 ≤ 1048576) (hbase : base ≤ w.heap.size)
    (h : ∀ v' w', w'.ownsRow base 22 1 v' (vs ++ [u]).length (vs ++ [u]) → w.grownBy w' v.ownBlock → (v'.ownBlock = v.ownBlock ∨ v'.ownBlock = some w.heap.size) → wpList Try.prog ops Q rest (a.put o.dst v') w') : wpList Try.prog ops Q (o :: rest) a w := by
  obtain ⟨i0, hi, hz0, hz1, hz2⟩ := info_parts infoInts
  obtain ⟨b, off, rfl, hc⟩ := hA
  refine wpList_append_G w hgd s x _ ho base 22 i0 _ 1 24 Try.underlying42 hi hz0 hz1 hz2 rfl (by decide) v vs.length _ hs hown (some ⟨b, off, none⟩) 1 c [u] hx ⟨by simp, .inr ⟨b, off, rfl, fun j u' hu => ?_⟩⟩ (by simpa using h1) (by simp only [maxLen]; omega) (by omega) hbase fun v' w' h2 h3 h4 => ?_
  · match j, hu with
    | 0, hu =>
      simp at hu
      subst hu
      exact hc
  · exact h v' w' (by simpa using h2) h3 h4
theorem Fam.grownO {w w' : World} {lo hi base n : Nat} {L : List (Value × List Int)} {v : Value} {vs : List Value} (hF : Fam w lo hi L) (ho : w.ownsRow base 22 1 v n vs) (hg : w.grownBy w' v.ownBlock) : Fam w' lo hi L := by
  refine ⟨fun p hp => ⟨(hF.1 p hp).1.kept hg ?_, (hF.1 p hp).2⟩, hF.2⟩
  rcases ho.2 with ⟨rfl, _⟩ | ⟨g, cap, cur, rfl, _, hh, _⟩
  · rcases hA : p.1.ownBlock with _ | x
    · exact .inl rfl
    · right
      simp [Value.ownBlock]
  · right
    exact fun e => (hF.1 p hp).1.blkne (g := g) (t := 22) (cs := cur) hh (by decide) (by rw [e]; rfl)

theorem OutO.blkne {w : World} {lo hi g : Nat} {v : Value} {vs : List Value} {t : TypeId} {cs : Array Value} (h : OutO w lo hi v vs) (hb : Blk w g t cs) (ht : 22 ≠ t) : some g ≠ v.ownBlock := by
  rcases h.1.2 with ⟨rfl, _⟩ | ⟨g', cap, cur, rfl, _, hh, _⟩
  · simp [Value.ownBlock]
  · intro he
    have : g = g' := by simpa [Value.ownBlock] using he
    subst this
    unfold Blk at hb
    rw [hh] at hb
    injection hb with hb
    injection hb with _ hb
    exact ht hb
end Go.Proofs.Ytjlgijdkfihhlaa

/- Lists of lists of ints of the call's own, taken as one thing: made, read, a row set, a number set, a row appended. -/
namespace Go.Proofs.Ytjlgijdkfihhlaa
set_option linter.unusedVariables false
set_option linter.unusedSimpArgs false
open Go.RowKit

theorem IntssO.wider {w : World} {lo hi lo' hi' : Nat} {v : Value} {ll : List (List Int)} (h : IntssO w lo hi v ll) (h1 : lo' ≤ lo) (h2 : hi ≤ hi') : IntssO w lo' hi' v ll := by
  obtain ⟨vs, a, b, c⟩ := h
  exact ⟨vs, a.mono h1 h2, b, c.mono h1 h2⟩
theorem IntssO.form2 {w : World} {lo hi : Nat} {v : Value} {ll : List (List Int)} (h : IntssO w lo hi v ll) : ∃ A c, v = .slice A ll.length c ∧ ll.length ≤ c ∧ c ≤ 9223372036854775807 ∧ ll.length ≤ 17592186044416 := by
  obtain ⟨vs, a, b, c⟩ := h
  obtain ⟨A, d, h1, h2, h3⟩ := a.form
  exact ⟨A, d, by rw [h1, b], by omega, h3, by have := a.2.2; omega⟩
theorem IntssO.nil (w : World) (lo hi : Nat) : IntssO w lo hi (.slice none 0 0) [] := ⟨[], ⟨World.ownsRow_nil _ _ _ _, by simp [Value.ownBlock], by simp⟩, rfl, ⟨fun p hp => by simp at hp, by simp⟩⟩
theorem IntssO.made0 (w : World) {lo : Nat} (h : lo ≤ w.heap.size) : IntssO (w.alloc (.cells #[] 22)) lo (w.alloc (.cells #[] 22)).heap.size (.slice (some ⟨w.heap.size, 0, none⟩) 0 0) [] :=
  ⟨[], ⟨World.ownsRow_made w #[] 0 h (by simp [maxLen]) (by simp), by simp [Value.ownBlock], by simp⟩, rfl, ⟨fun p hp => by simp at hp, by simp⟩⟩
theorem IntssO.made (w : World) {lo n : Nat} (h : lo ≤ w.heap.size) (hn : n ≤ 17592186044416) : IntssO (w.alloc (.cells (mkCells (.slice none 0 0) n) 22)) lo (w.alloc (.cells (mkCells (.slice none 0 0) n) 22)).heap.size (.slice (some ⟨w.heap.size, 0, none⟩) n n) (List.replicate n []) := by
  refine ⟨List.replicate n (.slice none 0 0), ?_, by simp, ⟨fun p hp => ?_, ?_⟩⟩
  · have h1 := (Blk.new w 22 (mkCells (.slice none 0 0) n)).own (base := lo) (n := n) (cap := n) (size := 1) h (Nat.le_refl _) (by simp only [maxLen]; omega) (by rw [mkCells_size]; omega)
    rw [show (mkCells (.slice none 0 0) n).toList = List.replicate n (.slice none 0 0) from toList_madeCells_one _ _, List.take_of_length_le (by simp)] at h1
    exact ⟨by simpa using h1, fun k hk => by simp [Value.ownBlock] at hk; simp; omega, by simpa using hn⟩
  · obtain ⟨a, b⟩ := p
    have h1 := List.of_mem_zip hp
    obtain ⟨_, rfl⟩ := List.mem_replicate.1 h1.1
    obtain ⟨_, rfl⟩ := List.mem_replicate.1 h1.2
    exact ⟨OwnI.nil _ _, by simp [Value.ownBlock]⟩
  · rw [List.pairwise_iff_getElem]
    intro i j hi hj hij
    left
    simp [Value.ownBlock]
theorem IntssO.at_ {w : World} {lo hi : Nat} {v : Value} {ll : List (List Int)} (h : IntssO w lo hi v ll) (h0 : 0 < ll.length) : ∃ g c, v = .slice (some ⟨g, 0, none⟩) ll.length c ∧ lo ≤ g ∧ g < hi ∧ g < w.heap.size ∧ ll.length ≤ c ∧ c ≤ 9223372036854775807 := by
  obtain ⟨vs, a, b, c⟩ := h
  rcases a.1.2 with ⟨_, h1⟩ | ⟨g, cap, cur, rfl, hg, hh, hnc, hcm, _⟩
  · omega
  · exact ⟨g, cap, by rw [b], hg, a.2.1 g (by simp [Value.ownBlock]), (Array.getElem?_eq_some_iff.1 hh).1, by omega, by simp only [maxLen] at hcm; omega⟩
theorem IntssO.row {w : World} {lo hi g n c j : Nat} {ll : List (List Int)} {l : List Int} (h : IntssO w lo hi (.slice (some ⟨g, 0, none⟩) n c) ll) (hj : ll[j]? = some l) : ∃ u, w.cell? ⟨g, j, none⟩ = some u ∧ IntsO w lo hi u l ∧ w.frozen? ⟨g, j, none⟩ = false := by
  obtain ⟨vs, a, b, F⟩ := h
  have hl := lt_of_some hj
  have hv : vs[j]? = some (vs[j]'(by omega)) := List.getElem?_eq_getElem (by omega)
  exact ⟨_, a.cellS hv, F.1 (vs[j]'(by omega), l) (by rw [zip_split hv hj]; simp), a.frozenS j⟩
theorem OutO.blk {w : World} {lo hi g n c : Nat} {vs : List Value} (h : OutO w lo hi (.slice (some ⟨g, 0, none⟩) n c) vs) : ∃ cs, Blk w g 22 cs ∧ n = vs.length := by
  rcases h.1.2 with ⟨e, _⟩ | ⟨g', cap', cur, e, _, hh, _⟩
  · cases e
  · injection e with e1 e2 _
    injection e1 with e1
    injection e1 with e1
    subst e1
    exact ⟨cur, hh, e2⟩
/-- a row set: of memory made later than the rest -/
theorem IntssO.setRow {w : World} {lo hi mi hi' g n c j : Nat} {ll : List (List Int)} {l : List Int} {u : Value} (h : IntssO w lo hi (.slice (some ⟨g, 0, none⟩) n c) ll) (hj : j < ll.length) (hu : IntsO w mi hi' u l) (h1 : hi ≤ mi) (h2 : mi ≤ hi') (h3 : lo ≤ mi) :
    IntssO (w.setCell ⟨g, j, none⟩ u) lo hi' (.slice (some ⟨g, 0, none⟩) n c) (ll.set j l) ∧ Chg g (g + 1) w (w.setCell ⟨g, j, none⟩ u) := by
  obtain ⟨vs, a, b, F⟩ := h
  obtain ⟨cs, hb, hn⟩ := a.blk
  refine ⟨⟨vs.set j u, ?_, by simp [b], ?_⟩, chg_set (Nat.le_refl _) (Nat.lt_succ_self _)⟩
  · have h4 := (hn ▸ a.1).stored j u
    rw [hn]
    exact ⟨by simpa using h4.1, fun k hk => Nat.lt_of_lt_of_le (a.2.1 k (by simpa [Value.ownBlock] using hk)) (by omega), by simpa using a.2.2⟩
  · have hv : vs[j]? = some (vs[j]'(by omega)) := List.getElem?_eq_getElem (by omega)
    have hl : ll[j]? = some (ll[j]'hj) := List.getElem?_eq_getElem hj
    have hsv : (vs.set j u)[j]? = some u := by rw [List.getElem?_set, if_pos rfl, if_pos (by omega)]
    have hsl : (ll.set j l)[j]? = some l := by rw [List.getElem?_set, if_pos rfl, if_pos hj]
    have F2 := F.setBlk (i := j) hb (by decide) u
    have hu2 : IntsO (w.setCell ⟨g, j, none⟩ u) mi hi' u l := ⟨hu.1.setCell (p := ⟨g, j, none⟩) (fun e => hu.1.blkne hb (by decide) e.symm) u, hu.2⟩
    rw [zip_split hsv hsl, List.take_set_of_le (Nat.le_refl j), List.drop_set_of_lt (by omega), List.take_set_of_le (Nat.le_refl j), List.drop_set_of_lt (by omega)]
    rw [zip_split hv hl] at F2
    obtain ⟨G1, G2⟩ := F2
    rw [List.pairwise_append] at G2
    obtain ⟨P1, P2, P3⟩ := G2
    rw [List.pairwise_cons] at P2
    refine ⟨fun p hp => ?_, ?_⟩
    · rcases List.mem_append.1 hp with hp | hp
      · exact (G1 p (by simp [hp])).wider (Nat.le_refl _) (by omega)
      · rcases List.mem_cons.1 hp with rfl | hp
        · exact hu2.wider h3 (Nat.le_refl _)
        · exact (G1 p (by simp [hp])).wider (Nat.le_refl _) (by omega)
    · rw [List.pairwise_append, List.pairwise_cons]
      refine ⟨P1, ⟨fun p hp => ?_, P2.2⟩, fun p hp q hq => ?_⟩
      · rcases hA : u.ownBlock with _ | x
        · exact .inl rfl
        · refine .inr fun e2 => ?_
          have h5 := (G1 p (by simp [hp])).2 x e2.symm
          have h6 := (hu2.1.lt x hA).1
          omega
      · rcases List.mem_cons.1 hq with rfl | hq
        · rcases hA : p.1.ownBlock with _ | x
          · exact .inl rfl
          · refine .inr fun e => ?_
            have h5 := (G1 p (by simp [hp])).2 x hA
            have h6 := (hu2.1.lt x e.symm).1
            omega
        · exact P3 p hp q (by simp [hq])
/-- a number set in a row -/
theorem IntssO.putAt {w : World} {lo hi gr n c j i : Nat} {v : Value} {ll : List (List Int)} {l : List Int} {x : Int} (h : IntssO w lo hi v ll) (hj : ll[j]? = some l) (hx : I64 x)
    (hrow : ∀ vs, vs.length = ll.length → OutO w lo hi v vs → Fam w lo hi (vs.zip ll) → vs[j]? = some (.slice (some ⟨gr, 0, none⟩) n c)) :
    IntssO (w.setCell ⟨gr, i, none⟩ (.int .i64 x)) lo hi v (ll.set j (l.set i x)) ∧ w.grownBy (w.setCell ⟨gr, i, none⟩ (.int .i64 x)) (some gr) := by
  obtain ⟨vs, a, b, F⟩ := h
  have hv := hrow vs b a F
  have ho := F.1 (.slice (some ⟨gr, 0, none⟩) n c, l) (by rw [zip_split hv hj]; simp)
  obtain ⟨_, _, e⟩ := ho.form
  injection e with _ e _
  replace e : n = l.length := e
  subst e
  have hp := ho.1.put (j := i) hx
  exact ⟨⟨vs, a.grown ho.1 hp.2, by simp [b], F.putAt hv hj ho.1 hx⟩, hp.2⟩
theorem IntssO.cellRow {w : World} {lo hi g n' c' gr n c j : Nat} {ll : List (List Int)} (hc : w.cell? ⟨g, j, none⟩ = some (.slice (some ⟨gr, 0, none⟩) n c)) :
    ∀ vs, j < vs.length → OutO w lo hi (.slice (some ⟨g, 0, none⟩) n' c') vs → Fam w lo hi (vs.zip ll) → vs[j]? = some (.slice (some ⟨gr, 0, none⟩) n c) := fun vs hl ho _ => by
  have hv : vs[j]? = some (vs[j]'hl) := List.getElem?_eq_getElem hl
  have := ho.cellS hv
  rw [hc] at this
  rw [hv, this]
/-- a number set in a row, the row's value read from its cell -/
theorem IntssO.put {w : World} {lo hi g n' c' gr n c j i : Nat} {ll : List (List Int)} {l : List Int} {x : Int} (h : IntssO w lo hi (.slice (some ⟨g, 0, none⟩) n' c') ll) (hj : ll[j]? = some l) (hc : w.cell? ⟨g, j, none⟩ = some (.slice (some ⟨gr, 0, none⟩) n c)) (hx : I64 x) :
    IntssO (w.setCell ⟨gr, i, none⟩ (.int .i64 x)) lo hi (.slice (some ⟨g, 0, none⟩) n' c') (ll.set j (l.set i x)) ∧ w.grownBy (w.setCell ⟨gr, i, none⟩ (.int .i64 x)) (some gr) :=
  h.putAt hj hx fun vs hl ho F => IntssO.cellRow hc vs (by have := lt_of_some hj; omega) ho F
/-- append of a row -/
theorem wpList_appR {w : World} {ops : Array Oper} {rest : List Oper} {o : Oper} {a : Act} {Q : Exit → Act → World → Prop} (hgd : o.guard = none) (s x : Operand)
    (ho : o.op = .call { callee := .builtin .append, args := #[s, x], argTypes := #[42, 42] })
    (lo hi mi hi' : Nat) (v : Value) (ll : List (List Int)) (l : List Int) (hs : a.eval s = v) (hown : IntssO w lo hi v ll) (A : Option Addr) (c : Nat) (u : Value) (hx : a.eval x = .slice A 1 c) (hA : ∃ b o, A = some ⟨b, o, none⟩ ∧ w.cell? ⟨b, o, none⟩ = some u) (hu : IntsO w mi hi' u l)
    (h1 : hi ≤ mi) (h2 : mi ≤ hi') (h3 : lo ≤ mi) (hn : ll.length + 1 ≤ 1048576) (hlo : lo ≤ w.heap.size) (hhi : hi' ≤ w.heap.size)
    (h : ∀ v' w', IntssO w' lo w'.heap.size v' (ll ++ [l]) → Below lo w w' → w.grownBy w' v.ownBlock → wpList Try.prog ops Q rest (a.put o.dst v') w') : wpList Try.prog ops Q (o :: rest) a w := by
  obtain ⟨vs, h4, h5, h6⟩ := hown
  refine wpList_appS hgd s x ho lo v vs hs h4.1 A c u hx hA (by obtain ⟨A', c', rfl, _⟩ := hu.1.form; rfl) (by omega) hlo fun v' w' k1 k2 k3 => ?_
  have hbg : Below lo w w' := below_grown k2 (fun k hk => (h4.1.lt k hk).1) hlo
  have F2 := ((h6.mono (Nat.le_refl _) h1).snoc hu h3 h2).mono (Nat.le_refl _) (Nat.le_trans hhi hbg.size)
  have F3 := Fam.grownO (by simpa using F2) h4.1 k2
  refine h v' w' ⟨vs ++ [u], ⟨k1, fun k hk => (k1.lt k hk).2, by simp; omega⟩, by simp [h5], ?_⟩ hbg k2
  rw [List.zip_append h5]
  exact F3
theorem chg_belowB {B : Nat} {w w' : World} (h : Below B w w') : Chg B w.heap.size w w' := ⟨h.os, h.tape, h.output, h.size, fun k hk hne => h.block k (by omega)⟩
end Go.Proofs.Ytjlgijdkfihhlaa

/- A row of a matrix of the program, in the matrix's own memory. -/
namespace Go.Proofs.Ytjlgijdkfihhlaa
set_option linter.unusedVariables false
set_option linter.unusedSimpArgs false
open Go.RowKit

theorem ix_next {i r c P : Nat} (hi : i < r) (hr : r ≤ 1000) (hc : c ≤ 1000) (hP : wrap64 ((i : Int) * (c : Int)) = (P : Int)) :
    P = i * c ∧ wrap64 (((i : Int) + 1) * (c : Int)) = ((P + c : Nat) : Int) ∧ P + c ≤ r * c ∧ P + c ≤ 1000000 := by
  have h1 : (i + 1) * c ≤ r * c := Nat.mul_le_mul_right _ hi
  have h2 : r * c ≤ 1000 * 1000 := Nat.mul_le_mul hr hc
  have h3 : (i + 1) * c = i * c + c := by rw [Nat.add_mul, Nat.one_mul]
  have e1 : P = i * c := by
    rw [show ((i : Int) * (c : Int)) = ((i * c : Nat) : Int) by simp, IntWalk.wrap64_in _ ⟨by omega, by omega⟩] at hP
    omega
  refine ⟨e1, ?_, by omega, by omega⟩
  rw [show (((i : Int) + 1) * (c : Int)) = (((i + 1) * c : Nat) : Int) by simp, h3, ← e1]
  exact IntWalk.wrap64_in _ ⟨by omega, by omega⟩
set_option maxHeartbeats 800000 in
theorem row_at (r : Int) (c i P N cap g : Nat) (w : World) (h1 : wrap64 ((i : Int) * (c : Int)) = (P : Int)) (h2 : wrap64 (((i : Int) + 1) * (c : Int)) = ((P + c : Nat) : Int))
    (hN : P + c ≤ N) (hcap : N ≤ cap) (hb : cap ≤ 9223372036854775807) (h0 : 0 < c) (hi : i ≤ 1000) :
    Calls Try.prog 148 #[.agg #[.int .i64 r, .int .i64 c, .slice (some ⟨g, 0, none⟩) N cap], .int .i64 i] w fun e w' => e = .returned (.slice (some ⟨g, P, none⟩) c (cap - P)) ∧ Below w.heap.size w w' := by
  go_enter Try.func148, Try.ntmps148
  go_wp2
  exact bodyPost_ret (v := .slice (some ⟨g, P, none⟩) c (cap - P)) (by simp [results, go_sem]) rfl ⟨rfl, below_alloc _ _⟩
end Go.Proofs.Ytjlgijdkfihhlaa

/- Rows of a matrix of the program, as lists. -/
namespace Go.Proofs.Ytjlgijdkfihhlaa
set_option linter.unusedVariables false
set_option linter.unusedSimpArgs false
open Go.RowKit
set_option maxHeartbeats 800000 in
theorem row_zero (r : Int) (i cap : Nat) (A : Option Addr) (w : World) (hb : cap ≤ 9223372036854775807) (hi : i ≤ 1000) :
    Calls Try.prog 148 #[.agg #[.int .i64 r, .int .i64 0, .slice A 0 cap], .int .i64 i] w fun e w' => ∃ A, e = .returned (.slice A 0 cap) ∧ Below w.heap.size w w' := by
  go_enter Try.func148, Try.ntmps148
  go_wp2
  exact bodyPost_ret (by simp [results, go_sem]; rfl) rfl ⟨_, rfl, below_alloc _ _⟩

def rowsF (r c : Nat) (f : Nat → Nat → Int) : List (List Int) := (List.range r).map fun i => rowF c (f i)
theorem rowsF_length (r c : Nat) (f : Nat → Nat → Int) : (rowsF r c f).length = r := by simp [rowsF]
theorem rowsF_get {r c j : Nat} (f : Nat → Nat → Int) (h : j < r) : (rowsF r c f)[j]? = some (rowF c (f j)) := by simp [rowsF, h]
theorem rowsF_succ (r c : Nat) (f : Nat → Nat → Int) : rowsF (r + 1) c f = rowsF r c f ++ [rowF c (f r)] := by simp [rowsF, List.range_succ]
theorem rowF_mem {c : Nat} {g : Nat → Int} {x : Int} (h : x ∈ rowF c g) : ∃ j, j < c ∧ x = g j := by
  simp only [rowF, List.mem_map, List.mem_range] at h
  obtain ⟨j, hj, rfl⟩ := h
  exact ⟨j, hj, rfl⟩
/-- a stretch of a slice of ints -/
theorem SlI.part {w : World} {B g o n cap P c : Nat} {l l' : List Int} (h : SlI w B (.slice (some ⟨g, o, none⟩) n cap) l) (hn : n = l.length) (hc : P + l'.length ≤ l.length) (hl : ∀ j x, l'[j]? = some x → l[P + j]? = some x) (hcn : c = cap - P) :
    SlI w B (.slice (some ⟨g, o + P, none⟩) l'.length c) l' := by
  subst hn hcn
  obtain ⟨A', c', e, h1, h2, h3, h4⟩ := h
  injection e with e1 e2 e3
  subst e1 e3
  refine ⟨_, _, rfl, by omega, by omega, by omega, fun hp => ?_⟩
  obtain ⟨b, o', e, hb, hx⟩ := h4 (by omega)
  injection e with e
  injection e with e1 e2
  subst e1 e2
  refine ⟨g, o + P, rfl, hb, fun j x hj => ?_⟩
  have := hx (P + j) x (hl j x hj)
  rw [show o + P + j * 1 = o + (P + j) * 1 by omega]
  exact this
set_option maxHeartbeats 800000 in
theorem row_atO (r : Int) (c i P N cap g o : Nat) (w : World) (h1 : wrap64 ((i : Int) * (c : Int)) = (P : Int)) (h2 : wrap64 (((i : Int) + 1) * (c : Int)) = ((P + c : Nat) : Int))
    (hN : P + c ≤ N) (hcap : N ≤ cap) (hb : cap ≤ 9223372036854775807) (h0 : 0 < c) (hi : i ≤ 1000) :
    Calls Try.prog 148 #[.agg #[.int .i64 r, .int .i64 c, .slice (some ⟨g, o, none⟩) N cap], .int .i64 i] w fun e w' => e = .returned (.slice (some ⟨g, o + P, none⟩) c (cap - P)) ∧ Below w.heap.size w w' := by
  go_enter Try.func148, Try.ntmps148
  go_wp2
  exact bodyPost_ret (v := .slice (some ⟨g, o + P, none⟩) c (cap - P)) (by simp [results, go_sem]) rfl ⟨rfl, below_alloc _ _⟩
theorem row_any (u : Value) (r c i : Nat) (f : Nat → Nat → Int) (w : World) (hu : MxR w w.heap.size u (mxF r c f)) (hr : r ≤ 1000) (hc : c ≤ 1000) (hi : i < r) :
    Calls Try.prog 148 #[u, .int .i64 i] w fun e w' => ∃ v, e = .returned v ∧ SlI w' w'.heap.size v (rowF c (f i)) ∧ Below w.heap.size w w' := by
  obtain ⟨A, cap, rfl, hs, _, _, hl⟩ := hu.open_
  simp only [mxF] at hs hl ⊢
  rcases Nat.eq_zero_or_pos c with rfl | h0
  · obtain ⟨_, _, e, h1, h2, _⟩ := hs
    injection e with e1 e2 e3
    subst e1 e3
    have e : (flat r 0 f).length = 0 := by rw [flat_length]; rfl
    rw [e]
    refine (row_zero r i cap A w h2 (by omega)).mono fun e w' ⟨A', h3, h4⟩ => ⟨_, h3, ?_, h4⟩
    exact ⟨A', cap, by simp [rowF], by simp [rowF], h2, by simp [rowF], fun h => by simp [rowF] at h⟩
  · obtain ⟨P, J, hP, _, _, _, _⟩ := ix_walk hi h0 hr hc
    obtain ⟨hPi, hP2, hPL, _⟩ := ix_next hi hr hc hP
    have hlt := ix_lt hi h0
    have hs' := hs
    obtain ⟨_, _, e, h1, h2, h3, h4⟩ := hs
    injection e with e1 e2 e3
    subst e1 e3
    obtain ⟨b, o, rfl, hb, hx⟩ := h4 (by rw [flat_length]; omega)
    refine (row_atO r c i P _ cap b o w hP hP2 (by rw [flat_length]; exact hPL) h1 h2 h0 (by omega)).mono fun e w' ⟨h5, h6⟩ => ⟨_, h5, ?_, h6⟩
    have := SlI.part (P := P) (l' := rowF c (f i)) (SlI.next h6 hs') rfl (by rw [rowF_length, flat_length]; exact hPL) (fun j x hj => ?_) rfl
    · rwa [rowF_length] at this
    · have hjc := lt_of_some hj
      rw [rowF_length] at hjc
      rw [rowF_get _ hjc] at hj
      rw [hPi, flat_get f hi hjc]
      exact hj

set_option maxHeartbeats 1600000 in
theorem rows_any (u : Value) (r c : Nat) (f : Nat → Nat → Int) (w0 : World) (hu : MxR w0 w0.heap.size u (mxF r c f)) (hr : r ≤ 1000) (hc : c ≤ 1000) :
    Calls Try.prog 89 #[u] w0 fun e w' => ∃ v, e = .returned v ∧ IntssO w' w0.heap.size w'.heap.size v (rowsF r c f) ∧ Below w0.heap.size w0 w' := by
  have hu' := hu
  obtain ⟨A, cap, rfl, hs, i1, i2, hl⟩ := hu.open_
  clear hu
  simp only [mxF] at hs hl i1 i2 ⊢
  obtain ⟨W, hW⟩ : ∃ W, W = w0.alloc (.cells #[.int .i64 r, .int .i64 c, .slice A (flat r c f).length cap] 95) := ⟨_, rfl⟩
  have g0 : Below w0.heap.size w0 W := by rw [hW]; exact below_alloc _ _
  have kB : Blk W w0.heap.size 95 #[.int .i64 r, .int .i64 c, .slice A (flat r c f).length cap] := by rw [hW]; exact Blk.new _ _ _
  obtain ⟨L, hL⟩ : ∃ L, (flat r c f).length = L := ⟨_, rfl⟩
  simp only [mxF] at hu'
  rw [hL] at hu' hs hl kB hW ⊢
  clear hL
  have c0 := kB.cell' (i := 0) rfl
  have c1 := kB.cell' (i := 1) rfl
  have c2 := kB.cell' (i := 2) rfl
  have HU := Lib.hid (MxR.next g0 hu')
  have sz : w0.heap.size < W.heap.size := kB.lt
  go_enter Try.func89, Try.ntmps89
  go_wp2
  rw [← hW]
  clear hW
  go_loopw [3, 7] (fun out i wr => ∃ (k : Nat) (vs : List Value), k ≤ r ∧ i = .int .i64 k ∧ Below W.heap.size W wr ∧ OutO wr W.heap.size wr.heap.size out vs ∧ vs.length = k ∧ Fam wr W.heap.size wr.heap.size (vs.zip (rowsF k c f))) (fun _ i _ => r - (intOf i).toNat)
  case atStart => exact ⟨0, [], Nat.zero_le _, rfl, Below.refl _ _, ⟨World.ownsRow_nil _ _ _ _, by simp [Value.ownBlock], by simp⟩, rfl, ⟨fun p hp => by simp at hp, by simp⟩⟩
  case round =>
    clear c0 c1 c2
    obtain ⟨k, vs, hk, rfl, hbel, hO, hvl, hF⟩ := hrel
    have kB2 := kB.call hbel
    have c0 := kB2.cell' (i := 0) rfl
    have c1 := kB2.cell' (i := 1) rfl
    have c2 := kB2.cell' (i := 2) rfl
    have HVL := Lib.hid hvl
    clear hvl
    by_cases hlt : k < r
    · have HUR := Lib.hid (MxR.more hbel.size (MxR.below hbel HU.out))
      have hws := hbel.size
      obtain ⟨OA, oc, rfl, _, _⟩ := hO.form
      have HO := Lib.hid hO
      have HF := Lib.hid hF
      clear hO hF
      go_wp2_with fail
      refine (row_any _ r c k f _ HUR.out hr hc hlt).mono ?_; rintro e w1 ⟨v1, rfl, hv1, hb1⟩
      have hb0 := hb1
      go_wp2_with fail
      refine (clone_own _ _ _ hv1).mono ?_; rintro e wC ⟨v2, rfl, hI, hb2⟩
      have hbC := bthen hb1 hb2
      have hlo := hb1.size
      clear hb2 hb0
      obtain ⟨VA, vc, ev⟩ := hI.form
      rw [rowF_length] at ev
      subst ev
      have hO2 := HO.out.below hbC
      have hF2 := HF.out.below hbC
      have hbs := hbC.size
      have HI := Lib.hid hI
      have HO2 := Lib.hid hO2
      have HF2 := Lib.hid hF2
      have HBC := Lib.hid hbC
      clear hI hO2 hF2 hbC hb1 hv1
      (go_wp2_with (at_builtin; refine Hold.stop ?_)); unfold Hold
      obtain ⟨X, hX⟩ : ∃ X, X = wC.alloc (.cells #[.slice VA c vc] 22) := ⟨_, rfl⟩
      have gn : Below wC.heap.size wC X := by rw [hX]; exact below_alloc _ _
      have kn : Blk X wC.heap.size 22 #[.slice VA c vc] := by rw [hX]; exact Blk.new _ _ _
      have hO3 := HO2.out.below gn
      have hF3 := (HF2.out.snoc (HI.out.wider (lo' := wr.heap.size) hlo (Nat.le_refl _)) hws (by omega)).below gn
      have hXs := gn.size
      rw [← hX]
      clear hX
      refine wpList_appS rfl (.tmp 10) (.tmp 15) rfl W.heap.size (.slice OA vs.length oc) vs rfl hO3.1 _ _ (.slice VA c vc) rfl ⟨wC.heap.size, 0, rfl, kn.cell' (i := 0) rfl⟩ rfl (by have := HVL.out; omega) (by omega) ?_
      intro v' w' hn' hg' hv'
      have hbg : Below W.heap.size X w' := below_grown hg' (fun k hk => (hO3.1.lt k hk).1) (by omega)
      have hbt := (hbel.trans ((HBC.out).mono hws)).trans ((gn.mono (by omega)).trans hbg)
      have hF4 := Fam.grownO hF3 hO3.1 hg'
      have hws' := hbg.size
      have hO4 : OutO w' W.heap.size w'.heap.size v' (vs ++ [.slice VA c vc]) := ⟨hn', fun k hk => (hn'.lt k hk).2, by simp; have := HVL.out; omega⟩
      have HF4 := Lib.hid hF4
      have HO4 := Lib.hid hO4
      have HBT := Lib.hid hbt
      clear hn' hg' hv' hbg hbt hF4 hO4 hO3 hF3 kn gn
      go_wp2
      go_roundw
      case rel =>
        refine ⟨k + 1, vs ++ [.slice VA c vc], by omega, by go_num, HBT.out, HO4.out, by simp [HVL.out], ?_⟩
        have := HF4.out.mono (Nat.le_refl _) (show wC.heap.size ≤ w'.heap.size by omega)
        have e : (vs ++ [Value.slice VA c vc]).zip (rowsF (k + 1) c f) = vs.zip (rowsF k c f) ++ [(Value.slice VA c vc, rowF c (f k))] := by
          rw [rowsF_succ, List.zip_append (by rw [HVL.out, rowsF_length])]; rfl
        rw [e]
        exact this
      case measure => simp [intOf]; omega
    · obtain rfl : k = r := by omega
      have hO' := hO
      have hF' := hF
      go_wp2
      go_ret
      exact ⟨_, rfl, ⟨vs, hO'.mono (by omega) (Nat.le_refl _), by rw [HVL.out, rowsF_length], hF'.mono (by omega) (Nat.le_refl _)⟩, g0.trans (hbel.mono (by omega))⟩
end Go.Proofs.Ytjlgijdkfihhlaa
