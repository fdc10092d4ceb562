/- FnExactPencilRanks: for every argument the program's function returns what the reference's returns. Part 2 of 7 of the proof: KitR, Chgs, OwnI, Net, Rev, Cln, Copy, Copy2, Zero, Flat, Ident, RowAt, SS. No condition. -/
import Derived.Test.YtjhllgldllbaaaaBPencilRanks1
import Derived.Orders
import Derived.Ground.NamesProg
import Derived.Ground.Names2Prog
import Derived.Shelf.Lay
import Derived.Shelf.Slices.Reverse
import Derived.Lib.OwnBridge
import Derived.Shelf.Slices.Clone
import Derived.ArgAppend
/- What every law goes through: representations. -/
namespace Go.Proofs.Ytjhllgldllbaaaa
set_option linter.unusedVariables false
set_option linter.unusedSimpArgs false
open Go.RowKit

theorem chg_set {w : World} {lo hi : Nat} {p : Addr} {u : Value} (h1 : lo ≤ p.block) (h2 : p.block < hi) : Chg lo hi w (w.setCell p u) :=
  ⟨rfl, rfl, rfl, by simp [World.setCell], fun k hk hne => Below.heap_setCell _ _ _ _ (by intro e; omega)⟩
/-- two families, the later one in later memory -/
theorem Fam.join {w : World} {lo mi hi : Nat} {L1 L2 : List (Value × List Int)} (h : Fam w lo mi L1) (k : Fam w mi hi L2) (h1 : lo ≤ mi) (h2 : mi ≤ hi) : Fam w lo hi (L1 ++ L2) := by
  refine ⟨fun p hp => ?_, ?_⟩
  · rcases List.mem_append.1 hp with hp | hp
    · exact (h.1 p hp).wider (Nat.le_refl _) h2
    · exact (k.1 p hp).wider h1 (Nat.le_refl _)
  · rw [List.pairwise_append]
    refine ⟨h.2, k.2, fun a ha b hb => ?_⟩
    rcases hA : a.1.ownBlock with _ | x
    · exact .inl rfl
    · right
      intro e
      have := (h.1 a ha).2 x hA
      have := ((k.1 b hb).1.lt x e.symm).1
      omega
theorem Fam.one {w : World} {lo hi : Nat} {v : Value} {l : List Int} (h : IntsO w lo hi v l) : Fam w lo hi [(v, l)] := ⟨fun p hp => by rw [List.mem_singleton] at hp; subst hp; exact h, by simp⟩

/-- A representation as data. -/
structure Rp where
  p : Int
  q : Qv
  d : List Int
  m : List Mx
deriving DecidableEq
theorem rp_ext (x y : Rp) : (x = y) ↔ (x.p = y.p ∧ x.q = y.q ∧ x.d = y.d ∧ x.m = y.m) := by
  cases x; cases y; simp
def Rp.size (x : Rp) : Nat := x.q.size + x.d.length + szM x.m

def RpR (w : World) (B : Nat) (val : Value) (x : Rp) : Prop := ∃ f t d m, val = .agg #[.int .i64 x.p, .int .i64 x.q.v, f, t, d, m] ∧ SlI w B f x.q.f ∧ SlI w B t x.q.t ∧ SlI w B d x.d ∧ SlM w B m x.m ∧ I64 x.p ∧ I64 x.q.v
theorem RpR.below {w w' : World} {B : Nat} {v : Value} {x : Rp} (hb : Below B w w') (h : RpR w B v x) : RpR w' B v x := by
  obtain ⟨f, t, d, m, e, h1, h2, h3, h4, h5⟩ := h
  exact ⟨f, t, d, m, e, SlI.below hb h1, SlI.below hb h2, SlI.below hb h3, SlM.below hb h4, h5⟩
theorem RpR.more {w : World} {B B' : Nat} {v : Value} {x : Rp} (hB : B ≤ B') (h : RpR w B v x) : RpR w B' v x := by
  obtain ⟨f, t, d, m, e, h1, h2, h3, h4, h5⟩ := h
  exact ⟨f, t, d, m, e, SlI.more hB h1, SlI.more hB h2, SlI.more hB h3, SlM.more hB h4, h5⟩
theorem RpR.next {w w' : World} {v : Value} {x : Rp} (hb : Below w.heap.size w w') (h : RpR w w.heap.size v x) : RpR w' w'.heap.size v x := RpR.more hb.size (RpR.below hb h)
theorem RpR.chg {w w' : World} {B lo hi : Nat} {v : Value} {x : Rp} (h : RpR w B v x) (hc : Chg lo hi w w') (hB : B ≤ lo) (hs : B ≤ w.heap.size) : RpR w' B v x := RpR.below (hc.below hB hs) h
theorem RpR.open_ {w : World} {B : Nat} {v : Value} {x : Rp} (h : RpR w B v x) : ∃ A a C c E e H h, v = .agg #[.int .i64 x.p, .int .i64 x.q.v, .slice A x.q.f.length a, .slice C x.q.t.length c, .slice E x.d.length e, .slice H x.m.length h] ∧
    QvR w B (.agg #[.int .i64 x.q.v, .slice A x.q.f.length a, .slice C x.q.t.length c]) x.q ∧ SlI w B (.slice E x.d.length e) x.d ∧ SlM w B (.slice H x.m.length h) x.m ∧ I64 x.p ∧ x.d.length ≤ 17592186044416 ∧ x.m.length ≤ 17592186044416 := by
  obtain ⟨f, t, d, m, rfl, h1, h2, h3, h4, h5, h6⟩ := h
  obtain ⟨A, a, rfl, _, _, _, h1⟩ := h1.open_
  obtain ⟨C, c, rfl, _, _, _, h2⟩ := h2.open_
  obtain ⟨E, e, rfl, _, _, l1, h3⟩ := h3.open_
  obtain ⟨H, h, rfl, _, _, l2, h4⟩ := h4.open_
  exact ⟨A, a, C, c, E, e, H, h, rfl, ⟨_, _, rfl, h1, h2, h6⟩, h3, h4, h5, l1, l2⟩
theorem RpR.form {w : World} {B : Nat} {v : Value} {x : Rp} (h : RpR w B v x) : ∃ A a C c E e H h, v = .agg #[.int .i64 x.p, .int .i64 x.q.v, .slice A x.q.f.length a, .slice C x.q.t.length c, .slice E x.d.length e, .slice H x.m.length h] := by
  obtain ⟨A, a, C, c, E, e, H, h, e, _⟩ := h.open_
  exact ⟨A, a, C, c, E, _, H, h, e⟩
theorem RpR.lens {w : World} {B : Nat} {v : Value} {x : Rp} (h : RpR w B v x) : x.q.f.length ≤ 17592186044416 ∧ x.q.t.length ≤ 17592186044416 ∧ x.d.length ≤ 17592186044416 ∧ x.m.length ≤ 17592186044416 := by
  obtain ⟨A, a, C, c, E, e, H, h, _, hq, _, _, _, l1, l2⟩ := h.open_
  obtain ⟨l3, l4⟩ := hq.lens
  exact ⟨l3, l4, l1, l2⟩

def RepO (w : World) (lo hi : Nat) (val : Value) (x : Rp) : Prop := ∃ f t d m vs, val = .agg #[.int .i64 x.p, .int .i64 x.q.v, f, t, d, m] ∧ OutM w lo hi m vs x.m ∧ vs.length = x.m.length ∧
  Fam w lo hi ([(f, x.q.f), (t, x.q.t), (d, x.d)] ++ vs.zip (x.m.map Mx.a)) ∧ (I64 x.p ∧ I64 x.q.v) ∧ ∀ m ∈ x.m, I64 m.r ∧ I64 m.c
theorem RepO.rd {w : World} {lo hi : Nat} {v : Value} {x : Rp} (h : RepO w lo hi v x) : RpR w w.heap.size v x := by
  obtain ⟨f, t, d, m, vs, e, h1, h2, h3, h4, h5⟩ := h
  exact ⟨f, t, d, m, e, (h3.1 (f, _) (by simp)).rd, (h3.1 (t, _) (by simp)).rd, (h3.1 (d, _) (by simp)).rd, OutM.rd h1 h2 (fun p hp => (h3.1 p (by simp [hp])).rd) h5, h4⟩
theorem RepO.form {w : World} {lo hi : Nat} {v : Value} {x : Rp} (h : RepO w lo hi v x) : ∃ A a C c E e H h, v = .agg #[.int .i64 x.p, .int .i64 x.q.v, .slice A x.q.f.length a, .slice C x.q.t.length c, .slice E x.d.length e, .slice H x.m.length h] := h.rd.form
theorem RepO.chg {w w' : World} {lo hi lo' hi' : Nat} {v : Value} {x : Rp} (h : RepO w lo hi v x) (hc : Chg lo' hi' w w') (hd : hi ≤ lo' ∨ hi' ≤ lo) : RepO w' lo hi v x := by
  obtain ⟨f, t, d, m, vs, e, h1, h2, h3, h4⟩ := h
  exact ⟨f, t, d, m, vs, e, h1.chg hc hd, h2, h3.chg hc hd, h4⟩
theorem RepO.below {w w' : World} {lo hi : Nat} {v : Value} {x : Rp} (h : RepO w lo hi v x) (hb : Below w.heap.size w w') : RepO w' lo hi v x := by
  obtain ⟨f, t, d, m, vs, e, h1, h2, h3, h4⟩ := h
  exact ⟨f, t, d, m, vs, e, h1.below hb, h2, h3.below hb, h4⟩
theorem RepO.wider {w : World} {lo hi lo' hi' : Nat} {v : Value} {x : Rp} (h : RepO w lo hi v x) (k1 : lo' ≤ lo) (k2 : hi ≤ hi') : RepO w lo' hi' v x := by
  obtain ⟨f, t, d, m, vs, e, h1, h2, h3, h4⟩ := h
  exact ⟨f, t, d, m, vs, e, h1.mono k1 k2, h2, h3.mono k1 k2, h4⟩
def RepO.mk (k : Int) (x : Rp) : Rp := ⟨x.p, QuivO.mk k x.q, mkI (k + x.q.size) x.d.length, mkMS (k + x.q.size + x.d.length) x.m⟩
def Rp.marks (x : Rp) : Nat := x.q.size + x.d.length + totM x.m
/-- the representation of nothing -/
def rp0 : Rp := ⟨0, ⟨0, [], []⟩, [], []⟩
theorem RepO.zero (w : World) (lo hi : Nat) : RepO w lo hi (.agg #[.int .i64 0, .int .i64 0, .slice none 0 0, .slice none 0 0, .slice none 0 0, .slice none 0 0]) rp0 :=
  ⟨_, _, _, _, [], rfl, RowO.nil _ w lo hi, rfl, ⟨fun p hp => by
    simp only [rp0, List.zip_nil_left, List.append_nil, List.mem_cons, List.not_mem_nil, or_false] at hp
    rcases hp with rfl | rfl | rfl <;> exact ⟨OwnI.nil _ _, by simp [Value.ownBlock]⟩, by simp [Value.ownBlock]⟩, by simp [rp0, I64], fun m hm => by simp [rp0] at hm⟩

set_option maxHeartbeats 800000 in
theorem heldMatrixS_any (v : Value) (ms : List Mx) (k : Int) (w : World) (hv : SlM w w.heap.size v (mkMS k ms)) (h0 : 0 ≤ k) (h1 : k ≤ 1125899906842624) (ht : totM ms ≤ 17592186044416) :
    Calls Try.prog 70 #[v, .int .i64 k] w fun e w' => e = .returned (.int .i64 (k + totM ms)) ∧ Below w.heap.size w w' := by
  obtain ⟨A, c, rfl, _, _, hn, hx⟩ := hv.open_
  have HL := Lib.hid (mkMS_length ms k)
  obtain ⟨n, hnl⟩ : ∃ n, (mkMS k ms).length = n := ⟨_, rfl⟩
  have HNL := Lib.hid hnl
  rw [hnl] at hn ⊢
  clear hv hnl
  go_enter Try.func70, Try.ntmps70
  go_wp2
  go_loopw [1, 5] (fun q i wr => ∃ (j : Nat), j ≤ n ∧ i = .int .i64 j ∧ q = .int .i64 (k + totM (ms.take j)) ∧ Below w.heap.size w wr) (fun _ i _ => n - (intOf i).toNat)
  case atStart => exact ⟨0, Nat.zero_le _, rfl, by simp [totM], Below.refl _ _⟩
  case round =>
    obtain ⟨j, hj, rfl, rfl, hbel⟩ := hrel
    obtain ⟨t, htt⟩ : ∃ t, totM (ms.take j) = t := ⟨_, rfl⟩
    have htle := totM_take_le ms j
    rw [htt] at htle ⊢
    by_cases hlt : j < n
    · obtain ⟨b, o, x, A', c', rfl, hb, HX, x1, x2, x3, hsl, _, _, _⟩ := SlM.at_ hx (by rw [HNL.out]; exact hlt)
      have hmj : ms[j]? = some (ms[j]'(by have := HL.out; have := HNL.out; omega)) := List.getElem?_eq_getElem _
      obtain ⟨m, hm⟩ : ∃ m, ms[j]'(by have := HL.out; have := HNL.out; omega) = m := ⟨_, rfl⟩
      rw [hm] at hmj
      clear hm
      have hx' := mkMS_get ms k j m hmj
      rw [HX.out] at hx'
      injection hx' with hx'
      rw [htt] at hx'
      subst hx'
      have HTS := Lib.hid (show totM (ms.take (j + 1)) = t + (2 + m.a.length) by rw [take_snoc hmj, totM_snoc, htt])
      have htle2 := totM_take_le ms (j + 1)
      rw [HTS.out] at htle2
      have d1 := bcell hbel hb x1
      have d2 := bcell hbel hb x2
      have d3 := bcell hbel hb x3
      have hs := SlI.more hbel.size (SlI.below hbel hsl)
      simp only at d1 d2 d3 hs
      have e1 : (k + (t : Int) != k + t) = false := by simp
      have e2 : (k + (t : Int) + 1 != k + t + 1) = false := by simp
      have e3 : ¬ (k + (t : Int) + 1 + 1 + m.a.length < 0) := by omega
      have HM := Lib.hid hmj
      clear x1 x2 x3 hx hsl htt hmj
      go_wp2_with fail
      refine (heldIntS_any _ m.a.length (k + t + 1 + 1) _ _ hs (by omega) (by omega)).mono ?_; rintro e w1 ⟨rfl, hb1⟩
      go_wp2
      go_roundw
      case rel => exact ⟨j + 1, by omega, by go_num, by rw [HTS.out]; congr 1; omega, hbel.trans (hb1.mono hbel.size)⟩
      case measure => simp [intOf]; omega
    · have HE := Lib.hid (show totM ms = t by rw [← htt, List.take_of_length_le (by have := HL.out; have := HNL.out; omega)])
      clear htt
      go_wp2
      go_ret
      exact ⟨by rw [HE.out]; rfl, hbel⟩

set_option maxHeartbeats 800000 in
theorem eqRep_any (u v : Value) (x y : Rp) (w : World) (hu : RpR w w.heap.size u x) (hv : RpR w w.heap.size v y) :
    Calls Try.prog 19 #[u, v] w fun e w' => e = .returned (.bool (decide (x = y))) ∧ Below w.heap.size w w' := by
  obtain ⟨A, a, C, c, E, e, H, h, rfl, hq, hd, hm, _, _, _⟩ := hu.open_
  obtain ⟨A', a', C', c', E', e', H', h', rfl, hq', hd', hm', _, _, _⟩ := hv.open_
  clear hu hv
  obtain ⟨W, hW⟩ : ∃ W, W = (w.alloc (.cells #[.int .i64 x.p, .int .i64 x.q.v, .slice A x.q.f.length a, .slice C x.q.t.length c, .slice E x.d.length e, .slice H x.m.length h] 29)).alloc (.cells #[.int .i64 y.p, .int .i64 y.q.v, .slice A' y.q.f.length a', .slice C' y.q.t.length c', .slice E' y.d.length e', .slice H' y.m.length h'] 29) := ⟨_, rfl⟩
  have g0 : Below w.heap.size w W := by rw [hW]; exact ((Below.refl _ _).alloc (Nat.le_refl _) _).alloc (by simp) _
  have k1 : Blk W w.heap.size 29 #[.int .i64 x.p, .int .i64 x.q.v, .slice A x.q.f.length a, .slice C x.q.t.length c, .slice E x.d.length e, .slice H x.m.length h] := by rw [hW]; exact (Blk.new _ _ _).alloc _
  have k2 : Blk W (w.heap.size + 1) 29 #[.int .i64 y.p, .int .i64 y.q.v, .slice A' y.q.f.length a', .slice C' y.q.t.length c', .slice E' y.d.length e', .slice H' y.m.length h'] := by
    rw [hW]
    have := Blk.new (w.alloc (.cells #[.int .i64 x.p, .int .i64 x.q.v, .slice A x.q.f.length a, .slice C x.q.t.length c, .slice E x.d.length e, .slice H x.m.length h] 29)) 29 #[.int .i64 y.p, .int .i64 y.q.v, .slice A' y.q.f.length a', .slice C' y.q.t.length c', .slice E' y.d.length e', .slice H' y.m.length h']
    simpa only [World.size_alloc] using this
  replace hq := QvR.next g0 hq
  replace hq' := QvR.next g0 hq'
  replace hd := SlI.next g0 hd
  replace hd' := SlI.next g0 hd'
  replace hm := SlM.next g0 hm
  replace hm' := SlM.next g0 hm'
  by_cases h1 : x.p = y.p
  · have e1 : (x.p != y.p) = false := by rw [h1]; simp
    have H1 := Lib.hid h1
    clear h1
    by_cases h2 : x.q = y.q
    · have e2 : decide (x.q = y.q) = true := by simpa using h2
      have H2 := Lib.hid h2
      clear h2
      by_cases h3 : x.d = y.d
      · have e3 : decide (x.d = y.d) = true := by simpa using h3
        have H3 := Lib.hid h3
        clear h3
        obtain ⟨B, hB⟩ : ∃ B, decide (x.m = y.m) = B := ⟨_, rfl⟩
        have hfin : decide (x = y) = B := by
          rw [← hB, decide_eq_decide, rp_ext]
          exact ⟨fun h => h.2.2.2, fun h => ⟨H1.out, H2.out, H3.out, h⟩⟩
        rw [hfin]
        have HB := Lib.hid hB
        clear hfin hB
        go_enter Try.func19, Try.ntmps19
        go_wp2_with fail
        rw [← hW]; clear hW
        refine (eqQuiver_any _ _ _ _ _ hq hq').mono ?_; rintro e w1 ⟨rfl, hb1⟩
        clear hq hq'
        replace g0 := bthen g0 hb1
        replace hd := SlI.next hb1 hd
        replace hd' := SlI.next hb1 hd'
        replace hm := SlM.next hb1 hm
        replace hm' := SlM.next hb1 hm'
        replace k1 := k1.call hb1
        replace c0 := k1.cell' (i := 0) rfl
        replace c1 := k1.cell' (i := 1) rfl
        replace c2 := k1.cell' (i := 2) rfl
        replace c3 := k1.cell' (i := 3) rfl
        replace c4 := k1.cell' (i := 4) rfl
        replace c5 := k1.cell' (i := 5) rfl
        replace k2 := k2.call hb1
        replace d0 := k2.cell' (i := 0) rfl
        replace d1 := k2.cell' (i := 1) rfl
        replace d2 := k2.cell' (i := 2) rfl
        replace d3 := k2.cell' (i := 3) rfl
        replace d4 := k2.cell' (i := 4) rfl
        replace d5 := k2.cell' (i := 5) rfl
        clear hb1
        go_wp2_with fail
        refine (eqIntS_any _ _ _ _ _ hd hd').mono ?_; rintro e w_1 ⟨rfl, hb_1⟩
        replace g0 := bthen g0 hb_1
        replace hd := SlI.next hb_1 hd
        replace hd' := SlI.next hb_1 hd'
        replace hm := SlM.next hb_1 hm
        replace hm' := SlM.next hb_1 hm'
        replace k1 := k1.call hb_1
        replace c0 := k1.cell' (i := 0) rfl
        replace c1 := k1.cell' (i := 1) rfl
        replace c2 := k1.cell' (i := 2) rfl
        replace c3 := k1.cell' (i := 3) rfl
        replace c4 := k1.cell' (i := 4) rfl
        replace c5 := k1.cell' (i := 5) rfl
        replace k2 := k2.call hb_1
        replace d0 := k2.cell' (i := 0) rfl
        replace d1 := k2.cell' (i := 1) rfl
        replace d2 := k2.cell' (i := 2) rfl
        replace d3 := k2.cell' (i := 3) rfl
        replace d4 := k2.cell' (i := 4) rfl
        replace d5 := k2.cell' (i := 5) rfl
        go_wp2_with fail
        refine (eqMatrixS_any _ _ _ _ _ hm hm').mono ?_; rintro e w_2 ⟨rfl, hb_2⟩
        replace g0 := bthen g0 hb_2
        replace hd := SlI.next hb_2 hd
        replace hd' := SlI.next hb_2 hd'
        replace hm := SlM.next hb_2 hm
        replace hm' := SlM.next hb_2 hm'
        replace k1 := k1.call hb_2
        replace c0 := k1.cell' (i := 0) rfl
        replace c1 := k1.cell' (i := 1) rfl
        replace c2 := k1.cell' (i := 2) rfl
        replace c3 := k1.cell' (i := 3) rfl
        replace c4 := k1.cell' (i := 4) rfl
        replace c5 := k1.cell' (i := 5) rfl
        replace k2 := k2.call hb_2
        replace d0 := k2.cell' (i := 0) rfl
        replace d1 := k2.cell' (i := 1) rfl
        replace d2 := k2.cell' (i := 2) rfl
        replace d3 := k2.cell' (i := 3) rfl
        replace d4 := k2.cell' (i := 4) rfl
        replace d5 := k2.cell' (i := 5) rfl
        rw [HB.out]
        clear hd hd' hm hm' k1 k2
        go_wp2
        all_goals (go_ret; simp_all)
      · have e3 : decide (x.d = y.d) = false := by simpa using h3
        have hfin : decide (x = y) = false := by
          simp only [decide_eq_false_iff_not, rp_ext]
          exact fun h => h3 h.2.2.1
        rw [hfin]
        clear hfin h3
        go_enter Try.func19, Try.ntmps19
        go_wp2_with fail
        rw [← hW]; clear hW
        refine (eqQuiver_any _ _ _ _ _ hq hq').mono ?_; rintro e w1 ⟨rfl, hb1⟩
        clear hq hq'
        replace g0 := bthen g0 hb1
        replace hd := SlI.next hb1 hd
        replace hd' := SlI.next hb1 hd'
        replace k1 := k1.call hb1
        replace c0 := k1.cell' (i := 0) rfl
        replace c1 := k1.cell' (i := 1) rfl
        replace c2 := k1.cell' (i := 2) rfl
        replace c3 := k1.cell' (i := 3) rfl
        replace c4 := k1.cell' (i := 4) rfl
        replace c5 := k1.cell' (i := 5) rfl
        replace k2 := k2.call hb1
        replace d0 := k2.cell' (i := 0) rfl
        replace d1 := k2.cell' (i := 1) rfl
        replace d2 := k2.cell' (i := 2) rfl
        replace d3 := k2.cell' (i := 3) rfl
        replace d4 := k2.cell' (i := 4) rfl
        replace d5 := k2.cell' (i := 5) rfl
        clear hb1
        go_wp2_with fail
        refine (eqIntS_any _ _ _ _ _ hd hd').mono ?_; rintro e w_3 ⟨rfl, hb_3⟩
        replace g0 := bthen g0 hb_3
        replace hd := SlI.next hb_3 hd
        replace hd' := SlI.next hb_3 hd'
        replace k1 := k1.call hb_3
        replace c0 := k1.cell' (i := 0) rfl
        replace c1 := k1.cell' (i := 1) rfl
        replace c2 := k1.cell' (i := 2) rfl
        replace c3 := k1.cell' (i := 3) rfl
        replace c4 := k1.cell' (i := 4) rfl
        replace c5 := k1.cell' (i := 5) rfl
        replace k2 := k2.call hb_3
        replace d0 := k2.cell' (i := 0) rfl
        replace d1 := k2.cell' (i := 1) rfl
        replace d2 := k2.cell' (i := 2) rfl
        replace d3 := k2.cell' (i := 3) rfl
        replace d4 := k2.cell' (i := 4) rfl
        replace d5 := k2.cell' (i := 5) rfl
        go_wp2
        go_ret
        exact ⟨rfl, g0⟩
    · have e2 : decide (x.q = y.q) = false := by simpa using h2
      have hfin : decide (x = y) = false := by
        simp only [decide_eq_false_iff_not, rp_ext]
        exact fun h => h2 h.2.1
      rw [hfin]
      clear hfin h2
      go_enter Try.func19, Try.ntmps19
      go_wp2_with fail
      rw [← hW]; clear hW
      refine (eqQuiver_any _ _ _ _ _ hq hq').mono ?_; rintro e w1 ⟨rfl, hb1⟩
      go_wp2
      go_ret
      exact ⟨rfl, bthen g0 hb1⟩
  · have e1 : (x.p != y.p) = true := by simpa using h1
    have hfin : decide (x = y) = false := by
      simp only [decide_eq_false_iff_not, rp_ext]
      exact fun h => h1 h.1
    rw [hfin]
    clear hfin h1
    go_enter Try.func19, Try.ntmps19
    go_wp2
    rw [← hW]
    go_ret
    exact ⟨rfl, g0⟩

set_option maxHeartbeats 800000 in
theorem szRep_any (u : Value) (x : Rp) (left : Int) (w : World) (hu : RpR w w.heap.size u x) (h0 : 0 ≤ left) (h1 : left ≤ 1048576) :
    Calls Try.prog 41 #[u, .int .i64 left] w fun e w' => e = .returned (.int .i64 (szLeft left x.size)) ∧ Below w.heap.size w w' := by
  obtain ⟨A, a, C, c, E, e, H, h, rfl, hq, hd, hm, _, ld, _⟩ := hu.open_
  clear hu
  obtain ⟨W, hW⟩ : ∃ W, W = w.alloc (.cells #[.int .i64 x.p, .int .i64 x.q.v, .slice A x.q.f.length a, .slice C x.q.t.length c, .slice E x.d.length e, .slice H x.m.length h] 55) := ⟨_, rfl⟩
  have g0 : Below w.heap.size w W := by rw [hW]; exact below_alloc _ _
  have k1 : Blk W w.heap.size 55 #[.int .i64 x.p, .int .i64 x.q.v, .slice A x.q.f.length a, .slice C x.q.t.length c, .slice E x.d.length e, .slice H x.m.length h] := by rw [hW]; exact Blk.new _ _ _
  replace hq := QvR.next g0 hq
  replace hm := SlM.next g0 hm
  by_cases h2 : left < x.q.size
  · have s1 : szLeft left x.q.size = -1 := by rw [szLeft, if_pos h2]
    have e : szLeft left x.size = -1 := by rw [szLeft, if_pos (by simp only [Rp.size]; omega)]
    rw [e]
    clear e
    go_enter Try.func41, Try.ntmps41
    go_wp2_with fail
    rw [← hW]; clear hW
    refine (szQuiver_any _ _ _ _ hq h0 h1).mono ?_; rintro e w1 ⟨rfl, hb1⟩
    rw [s1]
    go_wp2
    go_ret
    exact ⟨rfl, bthen g0 hb1⟩
  · have s1 : szLeft left x.q.size = left - x.q.size := by rw [szLeft, if_neg h2]
    have n1 : ¬ left - (x.q.size : Int) < 0 := by omega
    by_cases h3 : left - x.q.size < x.d.length
    · have s2 : szLeft (left - x.q.size) x.d.length = -1 := by rw [szLeft, if_pos h3]
      have e : szLeft left x.size = -1 := by rw [szLeft, if_pos (by simp only [Rp.size]; omega)]
      rw [e]
      clear e
      go_enter Try.func41, Try.ntmps41
      go_wp2_with fail
      rw [← hW]; clear hW
      refine (szQuiver_any _ _ _ _ hq h0 h1).mono ?_; rintro e w1 ⟨rfl, hb1⟩
      rw [s1]
      clear hq hm
      replace g0 := bthen g0 hb1
      replace k1 := k1.call hb1
      replace c0 := k1.cell' (i := 0) rfl
      replace c1 := k1.cell' (i := 1) rfl
      replace c2 := k1.cell' (i := 2) rfl
      replace c3 := k1.cell' (i := 3) rfl
      replace c4 := k1.cell' (i := 4) rfl
      replace c5 := k1.cell' (i := 5) rfl
      clear hb1
      go_wp2_with fail
      refine (szIntS_any _ _ _ _ _ ld (by omega) (by omega)).mono ?_; rintro e w' ⟨rfl, rfl⟩
      go_wp2
      go_ret
      exact ⟨rfl, g0⟩
    · have s2 : szLeft (left - x.q.size) x.d.length = left - x.q.size - x.d.length := by rw [szLeft, if_neg h3]
      have n2 : ¬ left - (x.q.size : Int) - x.d.length < 0 := by omega
      obtain ⟨z, hz⟩ : ∃ z, szM x.m = z := ⟨_, rfl⟩
      by_cases h4 : left - x.q.size - x.d.length < z
      · have s3 : szLeft (left - x.q.size - x.d.length) z = -1 := by rw [szLeft, if_pos h4]
        have e : szLeft left x.size = -1 := by rw [szLeft, if_pos (by simp only [Rp.size]; omega)]
        rw [e]
        clear e
        go_enter Try.func41, Try.ntmps41
        go_wp2_with fail
        rw [← hW]; clear hW
        refine (szQuiver_any _ _ _ _ hq h0 h1).mono ?_; rintro e w1 ⟨rfl, hb1⟩
        rw [s1]
        clear hq
        replace g0 := bthen g0 hb1
        replace hm := SlM.next hb1 hm
        replace k1 := k1.call hb1
        replace c0 := k1.cell' (i := 0) rfl
        replace c1 := k1.cell' (i := 1) rfl
        replace c2 := k1.cell' (i := 2) rfl
        replace c3 := k1.cell' (i := 3) rfl
        replace c4 := k1.cell' (i := 4) rfl
        replace c5 := k1.cell' (i := 5) rfl
        clear hb1
        go_wp2_with fail
        refine (szIntS_any _ _ _ _ _ ld (by omega) (by omega)).mono ?_; rintro e w' ⟨rfl, rfl⟩
        go_wp2_with fail
        refine (szMatrixS_any _ _ (left - x.q.size - x.d.length) _ hm (by omega) (by omega)).mono ?_; rintro e w2 ⟨rfl, hb2⟩
        rw [hz]
        go_wp2
        go_ret
        exact ⟨rfl, bthen g0 hb2⟩
      · have s3 : szLeft (left - x.q.size - x.d.length) z = left - x.q.size - x.d.length - z := by rw [szLeft, if_neg h4]
        have n3 : ¬ left - (x.q.size : Int) - x.d.length - z < 0 := by omega
        have e : szLeft left x.size = left - x.q.size - x.d.length - z := by rw [szLeft, if_neg (by simp only [Rp.size]; omega)]; simp only [Rp.size]; omega
        rw [e]
        clear e
        go_enter Try.func41, Try.ntmps41
        go_wp2_with fail
        rw [← hW]; clear hW
        refine (szQuiver_any _ _ _ _ hq h0 h1).mono ?_; rintro e w1 ⟨rfl, hb1⟩
        rw [s1]
        clear hq
        replace g0 := bthen g0 hb1
        replace hm := SlM.next hb1 hm
        replace k1 := k1.call hb1
        replace c0 := k1.cell' (i := 0) rfl
        replace c1 := k1.cell' (i := 1) rfl
        replace c2 := k1.cell' (i := 2) rfl
        replace c3 := k1.cell' (i := 3) rfl
        replace c4 := k1.cell' (i := 4) rfl
        replace c5 := k1.cell' (i := 5) rfl
        clear hb1
        go_wp2_with fail
        refine (szIntS_any _ _ _ _ _ ld (by omega) (by omega)).mono ?_; rintro e w' ⟨rfl, rfl⟩
        go_wp2_with fail
        refine (szMatrixS_any _ _ (left - x.q.size - x.d.length) _ hm (by omega) (by omega)).mono ?_; rintro e w2 ⟨rfl, hb2⟩
        rw [hz]
        go_wp2
        go_ret
        exact ⟨rfl, bthen g0 hb2⟩
end Go.Proofs.Ytjhllgldllbaaaa

/- Writes into one block. -/
namespace Go.Proofs.Ytjhllgldllbaaaa
set_option linter.unusedVariables false
set_option linter.unusedSimpArgs false
open Go.RowKit
theorem chg3 (w : World) (g : Nat) (u0 u1 u2 : Value) : Chg g (g + 1) w (((w.setCell ⟨g, 0, none⟩ u0).setCell ⟨g, 1, none⟩ u1).setCell ⟨g, 2, none⟩ u2) := by
  have s : ∀ (w : World) (i : Nat) (u : Value), Chg g (g + 1) w (w.setCell ⟨g, i, none⟩ u) := fun w i u => chg_set (Nat.le_refl _) (Nat.lt_succ_self _)
  exact ((s _ _ _).trans (s _ _ _)).trans (s _ _ _)

theorem chg6 (w : World) (g : Nat) (u0 u1 u2 u3 u4 u5 : Value) : Chg g (g + 1) w ((((((w.setCell ⟨g, 0, none⟩ u0).setCell ⟨g, 1, none⟩ u1).setCell ⟨g, 2, none⟩ u2).setCell ⟨g, 3, none⟩ u3).setCell ⟨g, 4, none⟩ u4).setCell ⟨g, 5, none⟩ u5) := by
  have s : ∀ (w : World) (i : Nat) (u : Value), Chg g (g + 1) w (w.setCell ⟨g, i, none⟩ u) := fun w i u => chg_set (Nat.le_refl _) (Nat.lt_succ_self _)
  exact (((((s _ _ _).trans (s _ _ _)).trans (s _ _ _)).trans (s _ _ _)).trans (s _ _ _)).trans (s _ _ _)

end Go.Proofs.Ytjhllgldllbaaaa

/- Rows of ints of the call's own: one number turned, read; made by make. -/
namespace Go.Proofs.Ytjhllgldllbaaaa
set_option linter.unusedVariables false
set_option linter.unusedSimpArgs false
open Go.RowKit

theorem OwnI.put {w : World} {base g n cap j : Nat} {l : List Int} {x : Int} (h : OwnI w base (.slice (some ⟨g, 0, none⟩) n cap) l) (hx : I64 x) : OwnI (w.setCell ⟨g, j, none⟩ (.int .i64 x)) base (.slice (some ⟨g, 0, none⟩) n cap) (l.set j x) ∧ w.grownBy (w.setCell ⟨g, j, none⟩ (.int .i64 x)) (some g) := by
  obtain ⟨h1, h2, h3⟩ := h
  have hn : n = l.length := by
    rcases h1.2 with ⟨e, _⟩ | ⟨g', cap', cur, e, _⟩
    · cases e
    · injection e with _ e _
  subst hn
  have hst := h1.stored j (.int .i64 x)
  refine ⟨⟨?_, by simpa using h2, fun y hy => ?_⟩, hst.2⟩
  · rw [List.map_set, List.length_set]
    exact hst.1
  · rcases List.mem_or_eq_of_mem_set hy with hy | rfl
    · exact h3 y hy
    · exact hx
theorem OwnI.cellG {w : World} {base g n cap j : Nat} {l : List Int} (h : OwnI w base (.slice (some ⟨g, 0, none⟩) n cap) l) (hj : j < l.length) : w.cell? ⟨g, j, none⟩ = some (.int .i64 (l.getD j 0)) ∧ I64 (l.getD j 0) := by
  obtain ⟨h1, h2, h3⟩ := h
  have hn : n = l.length := by
    rcases h1.2 with ⟨e, _⟩ | ⟨g', cap', cur, e, _⟩
    · cases e
    · injection e with _ e _
  subst hn
  have hc := h1.cellAt j (by omega)
  have e : l.getD j 0 = l[j] := by rw [List.getD_eq_getElem?_getD, List.getElem?_eq_getElem hj]; rfl
  rw [e]
  exact ⟨by rw [hc]; simp [hj], h3 _ (List.getElem_mem hj)⟩
theorem OwnI.frozenG {w : World} {base g n cap : Nat} {l : List Int} (h : OwnI w base (.slice (some ⟨g, 0, none⟩) n cap) l) (j : Nat) : w.frozen? ⟨g, j, none⟩ = false := by
  obtain ⟨h1, h2, h3⟩ := h
  have hn : n = l.length := by
    rcases h1.2 with ⟨e, _⟩ | ⟨g', cap', cur, e, _⟩
    · cases e
    · injection e with _ e _
  subst hn
  exact h1.frozenAt j
theorem OwnI.made0 {w : World} {base N : Nat} (hb : base ≤ w.heap.size) (hN : N ≤ 17592186044416) : OwnI (w.alloc (.cells (mkCells (.int .i64 0) N) 3)) base (.slice (some ⟨w.heap.size, 0, none⟩) N N) (List.replicate N 0) := by
  have e : (mkCells (.int .i64 0) N).toList.take (N * 1) = (List.replicate N (0 : Int)).map (Value.int .i64) := by
    have : (mkCells (.int .i64 0) N).toList = List.replicate N (.int .i64 0) := toList_madeCells_one _ _
    rw [this, Nat.mul_one, List.take_of_length_le (by simp), List.map_replicate]
  have h := (Blk.new w 3 (mkCells (.int .i64 0) N)).own (base := base) (n := N) (cap := N) (size := 1) hb (Nat.le_refl _) (by simp only [maxLen]; omega) (by rw [mkCells_size]; omega)
  rw [e] at h
  refine ⟨by simpa using h, by simpa using hN, fun x hx => ?_⟩
  obtain ⟨_, rfl⟩ := List.mem_replicate.1 hx
  exact ⟨by decide, by decide⟩
end Go.Proofs.Ytjhllgldllbaaaa

/- A region that draws its order and whose operations make memory: each operation is met once, in the order of the text, under what is known of those that it waits for; what it hands back is told by a relation that outlives growth of the memory. No order is branched over. No program's numbers stand here. -/
namespace Go.Proofs.Ytjhllgldllbaaaa
set_option linter.unusedVariables false
set_option linter.unusedSimpArgs false
open Go.RowKit

/-- What is said of an operation: an equation on its value, or a relation that outlives growth, on its value and on the stretch of memory that it made (its blocks lie from lo on, below hi). -/
structure Gh where
  v : Nat → Value
  lo : Nat → Nat
  hi : Nat → Nat
inductive NS where
  | eq (u : Value)
  | rel (R : Gh → World → Prop)
def restr (i : Nat) (D : List Nat) (x : Gh) : Gh := ⟨fun j => if j = i ∨ j ∈ D then x.v j else undef, fun j => if j = i ∨ j ∈ D then x.lo j else 0, fun j => if j = i ∨ j ∈ D then x.hi j else 0⟩
def NS.holds (s : NS) (i : Nat) (D : List Nat) (x : Gh) (w : World) : Prop :=
  match s with
  | .eq u => x.v i = u
  | .rel R => R (restr i D x) w
def NS.stable (s : NS) : Prop :=
  match s with
  | .eq _ => True
  | .rel R => ∀ x w w', R x w → Below w.heap.size w w' → R x w'
theorem NS.holds_stable {s : NS} (h : s.stable) {i : Nat} {D : List Nat} {x : Gh} {w w' : World} (hh : s.holds i D x w) (hb : Below w.heap.size w w') : s.holds i D x w' := by
  cases s with
  | eq f => exact hh
  | rel R => exact h _ _ _ hh hb
theorem NS.holds_congr {s : NS} {i : Nat} {D : List Nat} {x y : Gh} {w : World} (hv : ∀ j, j = i ∨ j ∈ D → x.v j = y.v j ∧ x.lo j = y.lo j ∧ x.hi j = y.hi j) (hh : s.holds i D x w) : s.holds i D y w := by
  have e : restr i D x = restr i D y := by
    unfold restr
    congr 1 <;> funext j <;> split
    · rename_i h; exact (hv j h).1
    · rfl
    · rename_i h; exact (hv j h).2.1
    · rfl
    · rename_i h; exact (hv j h).2.2
    · rfl
  cases s with
  | eq u => exact (hv i (.inl rfl)).1.symm.trans hh
  | rel R =>
    show R _ w
    rw [← e]
    exact hh
def Gh.set (x : Gh) (i : Nat) (u : Value) (a b : Nat) : Gh := ⟨fun j => if j = i then u else x.v j, fun j => if j = i then a else x.lo j, fun j => if j = i then b else x.hi j⟩

section
variable {P : Program}

theorem act_eval_put {a : Act} {dst : Option Tmp} {v : Value} {t : Tmp} : (a.put dst v).eval (.tmp t) = if dst = some t ∧ t < a.tmps.size then v else a.eval (.tmp t) := by
  cases dst with
  | none => simp [Act.put]
  | some d =>
    by_cases e : d = t
    · subst e
      by_cases hl : d < a.tmps.size
      · simp [Act.put, Act.eval, Array.getD_eq_getD_getElem?, Array.getElem?_setIfInBounds, hl]
      · simp [Act.put, Act.eval, Array.getD_eq_getD_getElem?, Array.getElem?_setIfInBounds, hl]
    · simp [Act.put, Act.eval, Array.getD_eq_getD_getElem?, Array.getElem?_setIfInBounds, e]
theorem act_put_size {a : Act} {dst : Option Tmp} {v : Value} : (a.put dst v).tmps.size = a.tmps.size := by
  cases dst <;> simp [Act.put]
theorem act_put_defers {a : Act} {dst : Option Tmp} {v : Value} : (a.put dst v).defers = a.defers := by
  cases dst <;> rfl
theorem act_put_eq {a b : Act} {dst : Option Tmp} {v u : Value} (h : a.put dst v = a.put dst u) (hs : a.tmps.size = b.tmps.size) : b.put dst v = b.put dst u := by
  cases dst with
  | none => rfl
  | some d =>
    by_cases hl : d < a.tmps.size
    · have h1 := congrArg (fun x : Act => x.eval (.tmp d)) h
      simp only [act_eval_put, hl, and_self, if_true] at h1
      rw [h1]
    · have hb : b.tmps.size ≤ d := hs ▸ Nat.le_of_not_lt hl
      simp only [Act.put]
      rw [Array.setIfInBounds_eq_of_size_le hb, Array.setIfInBounds_eq_of_size_le hb]

/-- One operation at another frame that agrees on what it looks at. -/
theorem wp_transfer {o : Oper} {a b : Act} {w : World} {K : Value → World → Prop} {Q1 Q2 : Exit → Act → World → Prop} (he : execOp b.eval o = execOp a.eval o) (hs : a.tmps.size = b.tmps.size)
    (hp : ∀ c a w, ¬ Q1 (.panic c) a w) (hl : ¬ LetsOut Q1) (h : o.wp P a w (fun a' w' => ∃ u, a' = a.put o.dst u ∧ K u w') Q1) : o.wp P b w (fun b' w' => ∃ u, b' = b.put o.dst u ∧ K u w') Q2 := by
  unfold Oper.wp at *
  rw [he]
  generalize (execOp a.eval o).run P w = r at *
  cases r with
  | ok n w' =>
    cases n <;> simp only [Oper.upon] at h ⊢
    case value v =>
      obtain ⟨u, e, k⟩ := h
      exact ⟨u, act_put_eq e hs, k⟩
    case skip =>
      obtain ⟨u, e, k⟩ := h
      exact ⟨u, act_put_eq e hs, k⟩
    case defer d =>
      obtain ⟨u, e, k⟩ := h
      have := congrArg (fun x : Act => x.defers.length) e
      simp [act_put_defers] at this
    case enter f args =>
      refine Calls.mono h fun e w'' he => ?_
      cases e with
      | returned v =>
        obtain ⟨u, e, k⟩ := he
        exact ⟨u, act_put_eq e hs, k⟩
      | panicked c => exact absurd he (hp _ _ _)
      | outgrown => exact absurd he hl
    case row row args =>
      refine Rows.mono h fun v w'' he => ?_
      obtain ⟨u, e, k⟩ := he
      exact ⟨u, act_put_eq e hs, k⟩
  | halt x w' =>
    cases x <;> simp only [Oper.upon] at h ⊢
    case panic u => exact absurd h (hp _ _ _)

def dstAt (ops : Array Oper) (k : Nat) : Option Tmp := (ops[k]?).bind (·.dst)
/-- the frame behind the operations below k of which p holds -/
def actP (ops : Array Oper) (a : Act) (v : Nat → Value) (p : Nat → Bool) : Nat → Act
  | 0 => a
  | k + 1 => if p k then (actP ops a v p k).put (dstAt ops k) (v k) else actP ops a v p k
/-- .. behind the first k operations -/
def netAct (ops : Array Oper) (a : Act) (v : Nat → Value) : Nat → Act
  | 0 => a
  | k + 1 => (netAct ops a v k).put (dstAt ops k) (v k)
section
variable {ops : Array Oper} {a : Act} {v v' : Nat → Value} {p q : Nat → Bool}
theorem actP_size : ∀ k, (actP ops a v p k).tmps.size = a.tmps.size
  | 0 => rfl
  | k + 1 => by
    unfold actP
    split
    · rw [act_put_size, actP_size k]
    · exact actP_size k
theorem actP_congr : ∀ k, (∀ j, j < k → p j = q j ∧ (p j = true → v j = v' j)) → actP ops a v p k = actP ops a v' q k
  | 0, _ => rfl
  | k + 1, h => by
    have ih := actP_congr k (fun j hj => h j (by omega))
    have hk := h k (by omega)
    unfold actP
    rw [← hk.1, ih]
    split
    · rename_i hp; rw [hk.2 hp]
    · rfl
theorem actP_net : ∀ k, (∀ j, j < k → p j = true) → actP ops a v p k = netAct ops a v k
  | 0, _ => rfl
  | k + 1, h => by
    have ih := actP_net k (fun j hj => h j (by omega))
    unfold actP netAct
    rw [h k (by omega), if_pos rfl, ih]
theorem actP_none : ∀ k i, i ≤ k → (∀ j, i ≤ j → j < k → p j = false) → actP ops a v p k = actP ops a v p i
  | 0, i, hi, _ => by
    have e : i = 0 := by omega
    rw [e]
  | k + 1, i, hi, h => by
    by_cases e : i = k + 1
    · rw [e]
    · have ih := actP_none k i (by omega) (fun j h1 h2 => h j h1 (by omega))
      rw [← ih]
      conv => lhs; unfold actP
      rw [h k (by omega) (by omega)]
      rfl
theorem actP_eval (t : Tmp) : ∀ k, (∀ j, j < k → dstAt ops j = some t → p j = q j) → (actP ops a v p k).eval (.tmp t) = (actP ops a v q k).eval (.tmp t)
  | 0, _ => rfl
  | k + 1, h => by
    have ih := actP_eval t k (fun j hj => h j (by omega))
    unfold actP
    by_cases e : dstAt ops k = some t
    · rw [← h k (by omega) e]
      split
      · rw [act_eval_put, act_eval_put, actP_size, actP_size, ih]
      · exact ih
    · have h1 : ∀ (b : Act) (u : Value), (b.put (dstAt ops k) u).eval (.tmp t) = b.eval (.tmp t) := fun b u => by rw [act_eval_put, if_neg (by intro x; exact e x.1)]
      split <;> split <;> simp only [h1, ih]
theorem actP_evalC (x : Operand) (hx : ∀ t, x ≠ .tmp t) (b c : Act) : b.eval x = c.eval x := by
  cases x with
  | tmp t => exact absurd rfl (hx t)
  | _ => rfl
/-- one operation more -/
theorem actP_add {i : Nat} {u : Value} (hv : ∀ j, j ≠ i → p j = true → v' j = v j) (hvi : v' i = u) (hp : p i = false) (hq : ∀ j, q j = (p j || j == i)) (hd : ∀ j d, i < j → p j = true → dstAt ops j = some d → dstAt ops i ≠ some d) :
    ∀ k, i < k → (actP ops a v p k).put (dstAt ops i) u = actP ops a v' q k
  | 0, h => absurd h (by omega)
  | k + 1, h => by
    by_cases e : i = k
    · subst e
      have h0 : actP ops a v p i = actP ops a v' q i := actP_congr i fun j hj => ⟨by rw [hq]; simp; omega, fun hj' => (hv j (by omega) hj').symm⟩
      conv => lhs; unfold actP
      conv => rhs; unfold actP
      rw [hp, hq, if_neg (by simp), if_pos (by simp), hvi, h0]
    · have ih := actP_add hv hvi hp hq hd k (by omega)
      conv => lhs; unfold actP
      conv => rhs; unfold actP
      have hqk : q k = p k := by rw [hq]; simp; omega
      rw [hqk, ← ih]
      split
      · rename_i hpk
        rw [hv k (by omega) hpk]
        rw [Act.put_comm _ (v k) u (fun d hdd => hd k d (by omega) hpk hdd)]
      · rfl
end

/-- the operations that one waits for at once -/
def directOf (o : Oper) : List Nat := (o.after.toList.filter fun e => Region.binds .any e).map (·.on)
/-- the test of a region: D tells what each operation waits for, m where the tail begins -/
def netAt (ops : Array Oper) (D : List (List Nat)) (m i : Nat) (o : Oper) : Bool :=
  o.guard.isNone && (directOf o).all (· < i) && (D.getD i []).all (fun j => decide (j < i) && ((directOf o).contains j || (directOf o).any fun k => (D.getD k []).contains j)) &&
  (List.range ops.size).all (fun k => match dstAt ops k with
    | none => true
    | some d => (!(o.looksAt ops).contains d || (D.getD i []).contains k || (D.getD k []).contains i) && (k == i || dstAt ops i != some d || (D.getD i []).contains k || (D.getD k []).contains i)) &&
  (decide (i < m) || (List.range i).all fun j => (D.getD i []).contains j)
def netFrom (ops : Array Oper) (D : List (List Nat)) (m : Nat) : Nat → List Oper → Bool
  | _, [] => true
  | i, o :: l => netAt ops D m i o && netFrom ops D m (i + 1) l
def netB (ops : Array Oper) (D : List (List Nat)) (m : Nat) : Bool := decide (m ≤ ops.size) && Region.noSelect ops && netFrom ops D m 0 ops.toList
theorem netFrom_spec {ops : Array Oper} {D : List (List Nat)} {m : Nat} : ∀ (l : List Oper) (k : Nat), netFrom ops D m k l = true → ∀ j o, l[j]? = some o → netAt ops D m (k + j) o = true
  | [], _, _, _, _, h => by simp at h
  | x :: l, k, h, 0, o, hj => by
    simp only [netFrom, Bool.and_eq_true] at h
    simp at hj
    subst hj
    exact h.1
  | x :: l, k, h, j + 1, o, hj => by
    simp only [netFrom, Bool.and_eq_true] at h
    have := netFrom_spec l (k + 1) h.2 j o (by simpa using hj)
    rwa [show k + 1 + j = k + (j + 1) by omega] at this

structure NetOk (ops : Array Oper) (D : List (List Nat)) (m i : Nat) (o : Oper) : Prop where
  guard : o.guard = none
  direct : ∀ e ∈ o.after, Region.binds .any e = true → e.on < i
  dlt : ∀ j ∈ D.getD i [], j < i
  danc : ∀ (S : Nat → Prop), (∀ e ∈ o.after, Region.binds .any e = true → S e.on) → (∀ k, S k → ∀ j ∈ D.getD k [], S j) → ∀ j ∈ D.getD i [], S j
  looks : ∀ k d, dstAt ops k = some d → d ∈ o.looksAt ops → k ∈ D.getD i [] ∨ i ∈ D.getD k []
  dsts : ∀ k d, k ≠ i → dstAt ops k = some d → dstAt ops i = some d → k ∈ D.getD i [] ∨ i ∈ D.getD k []
  tail : m ≤ i → ∀ j, j < i → j ∈ D.getD i []
theorem netAt_spec {ops : Array Oper} {D : List (List Nat)} {m i : Nat} {o : Oper} (h : netAt ops D m i o = true) : NetOk ops D m i o := by
  simp only [netAt, Bool.and_eq_true, List.all_eq_true, Bool.or_eq_true, decide_eq_true_eq, List.mem_range] at h
  obtain ⟨⟨⟨⟨h1, h2⟩, h3⟩, h4⟩, h5⟩ := h
  have hdir : ∀ e ∈ o.after, Region.binds .any e = true → e.on ∈ directOf o := fun e he hb => by
    unfold directOf
    rw [List.mem_map]
    exact ⟨e, by rw [List.mem_filter]; exact ⟨by simpa using he, hb⟩, rfl⟩
  have hk : ∀ {k : Nat} {d : Tmp}, dstAt ops k = some d → k < ops.size := fun {k d} hd => by
    rcases Nat.lt_or_ge k ops.size with h | h
    · exact h
    · simp [dstAt, Array.getElem?_eq_none h] at hd
  refine ⟨by simpa using h1, fun e he hb => h2 _ (hdir e he hb), fun j hj => (h3 j hj).1, fun S hS hc j hj => ?_, fun k d hd hl => ?_, fun k d hne hd hdi => ?_, fun hm j hj => ?_⟩
  · have hD : ∀ k ∈ directOf o, S k := fun k hk => by
      unfold directOf at hk
      rw [List.mem_map] at hk
      obtain ⟨e, he, rfl⟩ := hk
      rw [List.mem_filter] at he
      exact hS e (by simpa using he.1) he.2
    rcases (h3 j hj).2 with h | h
    · exact hD j (by simpa using h)
    · rw [List.any_eq_true] at h
      obtain ⟨k, hk, hkj⟩ := h
      exact hc k (hD k hk) j (by simpa using hkj)
  · have := h4 k (hk hd)
    rw [hd] at this
    simp only [Bool.and_eq_true, Bool.or_eq_true, Bool.not_eq_true', List.contains_iff_mem, List.contains_eq_mem, decide_eq_true_eq, decide_eq_false_iff_not] at this
    rcases this.1 with (h | h) | h
    · exact absurd hl h
    · exact .inl h
    · exact .inr h
  · have := h4 k (hk hd)
    rw [hd] at this
    simp only [Bool.and_eq_true, Bool.or_eq_true, List.contains_eq_mem, decide_eq_true_eq, beq_iff_eq, bne_iff_ne] at this
    rcases this.2 with ((h | h) | h) | h
    · exact absurd h hne
    · exact absurd hdi h
    · exact .inl h
    · exact .inr h
  · rcases h5 with h | h
    · omega
    · simpa using h j hj

section
variable {ops : Array Oper} {Q : Exit → Act → World → Prop} {sp : List NS} {D : List (List Nat)} {m : Nat} {a0 : Act} {w0 : World}

/-- what is known of operation i -/
def known (sp : List NS) (D : List (List Nat)) (x : Gh) (i : Nat) (w : World) : Prop := (sp.getD i (.eq undef)).holds i (D.getD i []) x w

/-- what is to be shown of operation i -/
def netDo (P : Program) (ops : Array Oper) (sp : List NS) (D : List (List Nat)) (a0 : Act) (w0 : World) (i : Nat) (o : Oper) : Prop :=
  ∀ (x : Gh) (w : World), Below w0.heap.size w0 w → (∀ j ∈ D.getD i [], known sp D x j w ∧ x.hi j ≤ w.heap.size) → ∀ Q' : Exit → Act → World → Prop,
    (∀ u w', Below w.heap.size w w' → (sp.getD i (.eq undef)).holds i (D.getD i []) (x.set i u w.heap.size w'.heap.size) w' → Q' .normal ((netAct ops a0 x.v i).put o.dst u) w') → wpList P ops Q' [o] (netAct ops a0 x.v i) w

/-- the tail, in the order of the text -/
theorem net_tail (hok : ∀ i o, ops[i]? = some o → NetOk ops D m i o) : ∀ (fuel k : Nat) (listed : Array Bool) (a : Act) (w : World), fuel + k = ops.size → m ≤ k → listed.size = ops.size → (∀ j, listed.getD j false = decide (j < k)) →
    wpList P ops Q (ops.toList.drop k) a w → wpAny P .any ops Q fuel listed a w
  | fuel, k, listed, a, w, hf, hm, hls, hl, h => by
    have hld : ∀ j, j < ops.size → listed.getD j true = decide (j < k) := fun j hj => by
      rw [← hl j]
      simp [Array.getD_eq_getD_getElem?, Array.getElem?_eq_getElem (show j < listed.size by omega)]
    have hr : ∀ i ∈ Region.ready .any ops listed, i = k ∧ k < ops.size := fun i hi => by
      obtain ⟨h0, o, ho, hall⟩ := mem_ready.1 hi
      have hin := (Array.getElem?_eq_some_iff.1 ho).1
      rw [hld i hin] at h0
      have hik : k ≤ i := by simpa using h0
      refine ⟨?_, by omega⟩
      have hcl := (hok i o ho).danc (fun j => j < k) (fun e he hb => by have := hall e he hb; rw [hl] at this; simpa using this) (fun j hj x hx => by
        have hjs : j < ops.size := by omega
        have := (hok j _ (Array.getElem?_eq_getElem hjs)).dlt x hx
        omega)
      rcases Nat.lt_or_ge k i with hlt | hge
      · have := hcl k ((hok i o ho).tail (by omega) k hlt)
        omega
      · omega
    cases fuel with
    | zero =>
      refine ⟨?_, ?_⟩
      · apply List.eq_nil_iff_forall_not_mem.2
        intro i hi
        have := hr i hi
        omega
      · rw [List.drop_of_length_le (by simp; omega)] at h
        exact h
    | succ fuel =>
      have hks : k < ops.size := by omega
      have hke := Array.getElem?_eq_getElem hks
      have hdrop : ops.toList.drop k = ops[k] :: ops.toList.drop (k + 1) := by
        rw [List.drop_eq_getElem_cons (by simpa using hks)]
        simp
      rw [hdrop] at h
      have hready : k ∈ Region.ready .any ops listed := mem_ready.2 ⟨by rw [hld k hks]; simp, _, hke, fun e he hb => by rw [hl]; simpa using (hok k _ hke).direct e he hb⟩
      refine ⟨fun h0 => (by rw [h0] at hready; cases hready), fun i hi => ?_⟩
      obtain ⟨rfl, _⟩ := hr i hi
      unfold wpOp
      simp only [hke]
      have hw : Region.wanted ops[i] (yielded ops a.tmps) = true := by simp [Region.wanted, (hok i _ hke).guard]
      simp only [wpList, hw, if_true] at h ⊢
      have nxt : ∀ a w, wpList P ops Q (ops.toList.drop (i + 1)) a w → wpAny P .any ops Q fuel (listed.setIfInBounds i true) a w := fun a w h =>
        net_tail hok fuel (i + 1) _ a w (by omega) (by omega) (by simpa using hls) (fun j => by
          by_cases e : i = j
          · subst e
            simp [Array.getD_eq_getD_getElem?, Array.getElem?_setIfInBounds, hls, hks]
          · rw [getD_set_ne _ e, hl]
            congr 1
            rw [eq_iff_iff]
            omega) h
      rcases h with h | h
      · exact .inl (Oper.wp_mono nxt h)
      · exact .inr h

theorem net_any (hB : netB ops D m = true) (hst : ∀ s ∈ sp, s.stable) (hdo : ∀ i o, i < m → ops[i]? = some o → netDo P ops sp D a0 w0 i o)
    (hend : ∀ x w, Below w0.heap.size w0 w → (∀ i, i < m → known sp D x i w) → (∀ i, i < m → w0.heap.size ≤ x.lo i ∧ x.lo i ≤ x.hi i ∧ x.hi i ≤ w.heap.size) → (∀ i j, i < m → j < m → i ≠ j → x.hi i ≤ x.lo j ∨ x.hi j ≤ x.lo i) → wpList P ops Q (ops.toList.drop m) (netAct ops a0 x.v m) w) :
    ∀ (fuel : Nat) (listed : Array Bool) (x : Gh) (w : World), ((List.range ops.size).filter fun j => !listed.getD j false).length = fuel → listed.size = ops.size → (∀ j, m ≤ j → listed.getD j false = false) →
      (∀ i, listed.getD i false = true → ∀ j ∈ D.getD i [], listed.getD j false = true) → Below w0.heap.size w0 w → (∀ i, listed.getD i false = true → known sp D x i w) → (∀ i, listed.getD i false = true → w0.heap.size ≤ x.lo i ∧ x.lo i ≤ x.hi i ∧ x.hi i ≤ w.heap.size) →
      (∀ i j, listed.getD i false = true → listed.getD j false = true → i ≠ j → x.hi i ≤ x.lo j ∨ x.hi j ≤ x.lo i) →
      wpAny P .any ops Q fuel listed (actP ops a0 x.v (fun j => listed.getD j false) ops.size) w := by
  simp only [netB, Bool.and_eq_true, decide_eq_true_eq] at hB
  obtain ⟨⟨hm, hns⟩, hnf⟩ := hB
  have hok : ∀ i o, ops[i]? = some o → NetOk ops D m i o := fun i o ho => netAt_spec (by
    have := netFrom_spec ops.toList 0 hnf i o (by simpa using ho)
    simpa using this)
  have hst' : ∀ i, (sp.getD i (.eq undef)).stable := fun i => by
    rw [List.getD_eq_getElem?_getD]
    rcases h : sp[i]? with _ | s
    · trivial
    · exact hst s (List.mem_of_getElem? h)
  intro fuel
  induction fuel with
  | zero =>
    intro listed x w hc hls hlm hcl hb hkn hiv hdj
    -- all are listed: then m is the region's size
    have hall : ∀ j, j < ops.size → listed.getD j false = true := fun j hj => by
      rw [List.length_eq_zero_iff, List.filter_eq_nil_iff] at hc
      have := hc j (List.mem_range.2 hj)
      simpa using this
    have hms : m = ops.size := by
      rcases Nat.lt_or_ge m ops.size with h | h
      · have := hall m h
        rw [hlm m (Nat.le_refl _)] at this
        cases this
      · omega
    refine net_tail hok 0 ops.size listed _ w (by omega) (by omega) hls (fun j => ?_) ?_
    · by_cases hj : j < ops.size
      · rw [hall j hj]; simp [hj]
      · rw [hlm j (by omega)]; simp [hj]
    · have := hend x w hb (fun i hi => hkn i (hall i (by omega))) (fun i hi => hiv i (hall i (by omega))) (fun i j hi hj => hdj i j (hall i (by omega)) (hall j (by omega)))
      rw [← actP_net (p := fun j => listed.getD j false) m (fun j hj => hall j (by omega))] at this
      rwa [hms] at this
  | succ fuel ih =>
    intro listed x w hc hls hlm hcl hb hkn hiv hdj
    by_cases hfull : ∀ j, j < m → listed.getD j false = true
    · -- the tail
      have hl : ∀ j, listed.getD j false = decide (j < m) := fun j => by
        by_cases hj : j < m
        · rw [hfull j hj]; simp [hj]
        · rw [hlm j (by omega)]; simp [hj]
      have hcnt : fuel + 1 + m = ops.size := by
        rw [← hc]
        have e : (List.range ops.size).filter (fun j => !listed.getD j false) = (List.range' m (ops.size - m)) := by
          have e1 : (List.range ops.size) = List.range m ++ List.range' m (ops.size - m) := by
            have h := List.range'_append_1 (s := 0) (m := m) (n := ops.size - m)
            rw [Nat.zero_add] at h
            rw [List.range_eq_range', List.range_eq_range', h]
            congr 1
            omega
          rw [e1, List.filter_append]
          rw [List.filter_eq_nil_iff.2 (fun j hj => by rw [hl]; simp at hj ⊢; exact hj), List.nil_append]
          rw [List.filter_eq_self.2 (fun j hj => by rw [hl]; simp [List.mem_range'] at hj ⊢; omega)]
        rw [e, List.length_range']
        omega
      refine net_tail hok (fuel + 1) m listed _ w (by omega) (Nat.le_refl _) hls hl ?_
      have := hend x w hb (fun i hi => hkn i (hfull i hi)) (fun i hi => hiv i (hfull i hi)) (fun i j hi hj => hdj i j (hfull i hi) (hfull j hj))
      rw [← actP_net (p := fun j => listed.getD j false) m hfull] at this
      rwa [actP_none (p := fun j => listed.getD j false) ops.size m hm (fun j h1 _ => hlm j h1)]
    · -- one of the net
      have hne : Region.ready .any ops listed ≠ [] := by
        intro h0
        -- the least that is not listed is ready
        have : ∀ n, ∀ j, j < n → j < m → listed.getD j false = true := by
          intro n
          induction n with
          | zero => intro j hj; omega
          | succ n ihn =>
            intro j hj hjm
            by_cases e : j < n
            · exact ihn j e hjm
            · rcases hlj : listed.getD j false with _ | _
              · exfalso
                have hjs : j < ops.size := by omega
                have hje := Array.getElem?_eq_getElem hjs
                have : j ∈ Region.ready .any ops listed := mem_ready.2 ⟨by
                  rw [← hlj]
                  simp [Array.getD_eq_getD_getElem?, Array.getElem?_eq_getElem (show j < listed.size by omega)], _, hje, fun e he hb => by
                  have := (hok j _ hje).direct e he hb
                  exact ihn e.on (by omega) (by omega)⟩
                rw [h0] at this
                cases this
              · rfl
        exact hfull fun j hj => this (j + 1) j (by omega) hj
      refine ⟨fun h0 => absurd h0 hne, fun i hi => ?_⟩
      obtain ⟨h0, o, ho, hall⟩ := mem_ready.1 hi
      have his := (Array.getElem?_eq_some_iff.1 ho).1
      have hO := hok i o ho
      have hDl : ∀ j ∈ D.getD i [], listed.getD j false = true := hO.danc (fun j => listed.getD j false = true) hall (fun k hk j hj => hcl k hk j hj)
      have him : i < m := by
        rcases Nat.lt_or_ge i m with h | h
        · exact h
        · exact absurd (fun j hj => hDl j (hO.tail h j (by omega))) hfull
      have hli : listed.getD i false = false := by
        rw [← h0]
        simp [Array.getD_eq_getD_getElem?, Array.getElem?_eq_getElem (show i < listed.size by omega)]
      have hpre := hdo i o him ho x w hb (fun j hj => ⟨hkn j (hDl j hj), (hiv j (hDl j hj)).2.2⟩) (fun e b w' => e = .normal ∧ ∃ u, b = (netAct ops a0 x.v i).put o.dst u ∧ (Below w.heap.size w w' ∧ (sp.getD i (.eq undef)).holds i (D.getD i []) (x.set i u w.heap.size w'.heap.size) w'))
        (fun u w' h1 h2 => ⟨rfl, u, rfl, h1, h2⟩)
      have hwant : ∀ b : Act, Region.wanted o (yielded ops b.tmps) = true := fun b => by simp [Region.wanted, hO.guard]
      have hnl : ¬ LetsOut (fun (e : Exit) (b : Act) (w' : World) => e = .normal ∧ ∃ u, b = (netAct ops a0 x.v i).put o.dst u ∧ (Below w.heap.size w w' ∧ (sp.getD i (.eq undef)).holds i (D.getD i []) (x.set i u w.heap.size w'.heap.size) w')) := by
        rintro ⟨b, w', h, _⟩
        cases h
      simp only [wpList, hwant, if_true] at hpre
      rcases hpre with hpre | hpre
      case inr => exact absurd hpre.2 hnl
      simp only [true_and] at hpre
      have hexec : execOp (actP ops a0 x.v (fun j => listed.getD j false) ops.size).eval o = execOp (netAct ops a0 x.v i).eval o := by
        refine execOp_congr o (fun cs b => Region.noSelect_spec hns i o cs b ho) fun y hx => ?_
        by_cases hxt : ∃ t, y = .tmp t
        · obtain ⟨t, rfl⟩ := hxt
          have hlook : t ∈ o.looksAt ops := List.mem_append_left _ (List.mem_filterMap.2 ⟨.tmp t, by simpa using hx, rfl⟩)
          have e1 : netAct ops a0 x.v i = actP ops a0 x.v (fun j => decide (j < i)) ops.size := by
            rw [actP_none (p := fun j => decide (j < i)) ops.size i (by omega) (fun j h1 _ => by simp; omega)]
            exact (actP_net (p := fun j => decide (j < i)) i (fun j hj => by simp [hj])).symm
          rw [e1]
          refine actP_eval t ops.size fun j hj hd => ?_
          rcases hO.looks j t hd hlook with h | h
          · rw [hDl j h]; have := hO.dlt j h; simp [this]
          · have hlt := (hok j _ (Array.getElem?_eq_getElem hj)).dlt i h
            have : listed.getD j false = false := by
              rcases hlj : listed.getD j false with _ | _
              · rfl
              · have := hcl j hlj i h
                rw [hli] at this
                cases this
            rw [this]; simp; omega
        · exact actP_evalC y (fun t h => hxt ⟨t, h⟩) _ _
      have hsz : (netAct ops a0 x.v i).tmps.size = (actP ops a0 x.v (fun j => listed.getD j false) ops.size).tmps.size := by
        rw [actP_size, ← actP_net (p := fun _ => true) i (fun _ _ => rfl), actP_size]
      have hT := wp_transfer (Q2 := Q) hexec hsz (fun c b w' h => by cases h.1) hnl hpre
      unfold wpOp
      simp only [ho, hwant, if_true]
      refine .inl (Oper.wp_mono ?_ hT)
      rintro b w' ⟨u, rfl, hbw, hh⟩
      have hdst : o.dst = dstAt ops i := by simp [dstAt, ho]
      have hlq : ∀ j, (listed.setIfInBounds i true).getD j false = (listed.getD j false || j == i) := fun j => by
        by_cases e : i = j
        · subst e
          simp [Array.getD_eq_getD_getElem?, Array.getElem?_setIfInBounds, hls, his]
        · rw [getD_set_ne _ e]
          simp [Ne.symm e]
      rw [hdst, actP_add (v' := (x.set i u w.heap.size w'.heap.size).v) (q := fun j => (listed.setIfInBounds i true).getD j false) (fun j hj _ => by simp [Gh.set, hj]) (by simp [Gh.set]) hli hlq (fun j d hij hlj hdj hdi => by
        rcases hO.dsts j d (by omega) hdj hdi with h | h
        · have := hO.dlt j h; omega
        · have := hcl j hlj i h
          rw [hli] at this
          cases this) ops.size his]
      refine ih _ _ _ ?_ (by simpa using hls) (fun j hj => by rw [hlq, hlm j hj]; simp; omega) (fun k hk j hj => ?_) (hb.trans (hbw.mono hb.size)) (fun k hk => ?_) (fun k hk => ?_) (fun k j hk hj hkj => ?_)
      · -- the count
        have hmem : i ∈ (List.range ops.size).filter fun j => !listed.getD j false := by
          rw [List.mem_filter]; exact ⟨List.mem_range.2 his, by rw [hli]; rfl⟩
        have e : (List.range ops.size).filter (fun j => !(listed.setIfInBounds i true).getD j false) = ((List.range ops.size).filter fun j => !listed.getD j false).filter (fun j => j != i) := by
          rw [List.filter_filter]
          congr 1
          funext j
          rw [hlq]
          simp [Bool.not_or, Bool.and_comm, bne]
        have hnd : ((List.range ops.size).filter fun j => !listed.getD j false).Nodup := List.nodup_range.filter _
        rw [e]
        have := List.length_erase_of_mem hmem
        rw [hnd.erase_eq_filter, hc] at this
        simpa using this
      · rw [hlq] at hk ⊢
        simp only [Bool.or_eq_true, beq_iff_eq] at hk ⊢
        rcases hk with hk | rfl
        · exact .inl (hcl k hk j hj)
        · exact .inl (hDl j hj)
      · rw [hlq] at hk
        simp only [Bool.or_eq_true, beq_iff_eq] at hk
        unfold known
        by_cases e : k = i
        · subst e
          exact hh
        · rcases hk with hk | hk
          · refine NS.holds_congr (x := x) (fun j hj => ?_) (NS.holds_stable (hst' k) (hkn k hk) hbw)
            have hji : j ≠ i := by
              rcases hj with rfl | hj
              · exact e
              · rintro rfl
                have := hcl k hk j hj
                rw [hli] at this
                cases this
            simp [Gh.set, hji]
          · exact absurd hk e
      · rw [hlq] at hk
        simp only [Bool.or_eq_true, beq_iff_eq] at hk
        by_cases e : k = i
        · subst e
          simp only [Gh.set, if_true]
          exact ⟨hb.size, hbw.size, Nat.le_refl _⟩
        · have := hiv k (hk.resolve_right e)
          have := hbw.size
          simp only [Gh.set, if_neg e]
          omega
      · rw [hlq] at hk hj
        simp only [Bool.or_eq_true, beq_iff_eq] at hk hj
        by_cases e : k = i
        · subst e
          have := hiv j (hj.resolve_right (Ne.symm hkj))
          simp only [Gh.set, if_true, if_neg (Ne.symm hkj)]
          exact .inr (by omega)
        · by_cases e' : j = i
          · subst e'
            have := hiv k (hk.resolve_right e)
            simp only [Gh.set, if_true, if_neg e]
            exact .inl (by omega)
          · simp only [Gh.set, if_neg e, if_neg e']
            exact hdj k j (hk.resolve_right e) (hj.resolve_right e') hkj

theorem repl_getD (n j : Nat) : (Array.replicate n false).getD j false = false := by
  rw [Array.getD_eq_getD_getElem?, Array.getElem?_replicate]
  split <;> rfl
def stableAll : List NS → Prop
  | [] => True
  | s :: l => s.stable ∧ stableAll l
theorem stableAll_spec : ∀ {l : List NS}, stableAll l → ∀ s ∈ l, s.stable
  | [], _, s, hs => by simp at hs
  | a :: l, h, s, hs => by
    rcases List.mem_cons.1 hs with rfl | hs
    · exact h.1
    · exact stableAll_spec h.2 s hs
def netAll (P : Program) (ops : Array Oper) (sp : List NS) (D : List (List Nat)) (a0 : Act) (w0 : World) : Nat → List Oper → Prop
  | _, [] => True
  | i, o :: l => netDo P ops sp D a0 w0 i o ∧ netAll P ops sp D a0 w0 (i + 1) l
theorem netAll_spec {ops : Array Oper} {sp : List NS} {D : List (List Nat)} {a0 : Act} {w0 : World} : ∀ (l : List Oper) (k : Nat), netAll P ops sp D a0 w0 k l → ∀ j o, l[j]? = some o → netDo P ops sp D a0 w0 (k + j) o
  | [], _, _, _, _, h => by simp at h
  | x :: l, k, h, 0, o, hj => by
    simp at hj
    subst hj
    exact h.1
  | x :: l, k, h, j + 1, o, hj => by
    have := netAll_spec l (k + 1) h.2 j o (by simpa using hj)
    rwa [show k + 1 + j = k + (j + 1) by omega] at this
/-- a relation on the value alone -/
def rel (i : Nat) (R : Value → Nat → Nat → World → Prop) : NS := .rel fun x w => R (x.v i) (x.lo i) (x.hi i) w
theorem rel_stable {i : Nat} {R : Value → Nat → Nat → World → Prop} (h : ∀ u lo hi w w', R u lo hi w → Below w.heap.size w w' → R u lo hi w') : (rel i R).stable := fun v w w' hr hb => h _ _ _ _ _ hr hb
/-- THE LAW. -/
theorem wp_region_net {id : Nat} {l : List Oper} {w : World} (hmo : P.follows .mixedOrders = true) (sp : List NS) (D : List (List Nat)) (m : Nat) (hB : netB l.toArray D m = true) (hst : stableAll sp)
    (hdo : netAll P l.toArray sp D a0 w 0 (l.take m))
    (hend : ∀ x w', Below w.heap.size w w' → (∀ i, i < m → known sp D x i w') → (∀ i, i < m → w.heap.size ≤ x.lo i ∧ x.lo i ≤ x.hi i ∧ x.hi i ≤ w'.heap.size) → (∀ i j, i < m → j < m → i ≠ j → x.hi i ≤ x.lo j ∨ x.hi j ≤ x.lo i) → wpList P l.toArray Q (l.drop m) (netAct l.toArray a0 x.v m) w') : (Code.region id l.toArray true).wp P Q a0 w := by
  replace hst := stableAll_spec hst
  have hdo : ∀ i o, i < m → l[i]? = some o → netDo P l.toArray sp D a0 w.drew i o := fun i o hi ho => by
    have := netAll_spec (l.take m) 0 hdo i o (by rw [List.getElem?_take, if_pos hi]; exact ho)
    rw [Nat.zero_add] at this
    exact fun v w1 hb => this v w1 ⟨hb.os, hb.tape, hb.output, hb.size, hb.block⟩
  refine wp_region_any hmo ?_
  have h := net_any (w0 := w.drew) (a0 := a0) (Q := Q) (P := P) (sp := sp) hB hst (fun i o hi ho => hdo i o hi (by simpa using ho)) (fun x w' hb hk hiv hdj => by simpa using hend x w' (show Below w.heap.size w w' from ⟨hb.os, hb.tape, hb.output, hb.size, hb.block⟩) hk hiv hdj)
    l.toArray.size (Array.replicate l.toArray.size false) ⟨fun _ => undef, fun _ => 0, fun _ => 0⟩ w.drew
    (by rw [List.filter_eq_self.2 (fun j _ => by rw [repl_getD]; rfl), List.length_range])
    (by simp) (fun j _ => repl_getD _ _)
    (fun i hi => by rw [repl_getD] at hi; cases hi)
    (Below.refl _ _)
    (fun i hi => by rw [repl_getD] at hi; cases hi)
    (fun i hi => by rw [repl_getD] at hi; cases hi)
    (fun i j hi => by rw [repl_getD] at hi; cases hi)
  have e : actP l.toArray a0 (fun _ => undef) (fun j => (Array.replicate l.toArray.size false).getD j false) l.toArray.size = a0 :=
    actP_none l.toArray.size 0 (by omega) (fun j _ _ => repl_getD _ _)
  rw [e] at h
  exact h
end
end
end Go.Proofs.Ytjhllgldllbaaaa

/- slices.Reverse at []int, on a row of the call's own: the shelf's contract. -/
namespace Go.Proofs
open Go.Shelf
def Try.laysReverse_ren : Go.Shelf.Ren := ⟨fun | 112 => 169 | n => n, fun | 28 => 22 | 3 => 3 | 4 => 4 | 0 => 0 | n => n, fun | n => n⟩
theorem Try.laysReverse : Go.Proofs.Lays.n112 Try.prog Try.laysReverse_ren := {
  mixed := by kernel_rfl
  f112 := Try.func169.trans (congrArg some (by kernel_rfl))
  t0 := Try.underlying0
  a0 := Try.isAgg0
  z0 := Try.sizeOf0
  v0 := Try.zeroValue0
  t3 := Try.underlying3
  a3 := Try.isAgg3
  z3 := Try.sizeOf3
  v3 := Try.zeroValue3
  t4 := Try.underlying4
  a4 := Try.isAgg4
  z4 := Try.sizeOf4
  v4 := Try.zeroValue4
  t28 := Try.underlying22
  a28 := Try.isAgg22
  z28 := Try.sizeOf22
  v28 := Try.zeroValue22 }
end Go.Proofs
namespace Go.Proofs.Ytjhllgldllbaaaa
set_option linter.unusedVariables false
set_option linter.unusedSimpArgs false
open Go.RowKit

theorem reverse_own (v : Value) (l : List Int) (base : Nat) (w : World) (hv : OwnI w base v l) :
    Calls Try.prog 169 #[v] w fun e w' => e = .returned (.tuple #[]) ∧ OwnI w' base v l.reverse ∧ w.grownBy w' v.ownBlock := by
  obtain ⟨ho, hn, hr⟩ := hv
  have hr' : ∀ x ∈ l.reverse, I64 x := fun x hx => hr x (List.mem_reverse.1 hx)
  by_cases hv0 : v = .slice none 0 0
  · subst hv0
    have hl0 : l = [] := by
      rcases ho.2 with ⟨_, h⟩ | ⟨g, cap, cur, h, _⟩
      · exact List.eq_nil_of_length_eq_zero h
      · cases h
    subst hl0
    exact (Any.slices_Reverse_int_empty Try.laysReverse none 0 w).mono fun e w' ⟨h1, h2⟩ => by
      subst h2
      exact ⟨h1, OwnI.nil _ _, World.grownBy.refl _ _⟩
  · obtain ⟨g, cap, rfl, hg, hgl, hnc, hcm, _, hH⟩ := Lib.holds_of_ownsRow ho hv0
    refine (Any.slices_Reverse_int Try.laysReverse g 0 cap l w hH (by omega)).mono ?_
    rintro e w' ⟨rfl, q, rfl⟩
    refine ⟨rfl, ⟨?_, by simpa using hn, hr'⟩, ⟨rfl, rfl, rfl, by simp [Sort.putRow, Sort.mapBlock, Sort.ahead], fun k hk hne => ?_⟩⟩
    · have h1 := Lib.ownsRow_putRow (q := q) (ys := l.reverse) ho (by simp) (Nat.le_refl l.length)
      rw [List.take_of_length_le (by simp)] at h1
      simpa using h1
    · have hgk : g ≠ k := fun e => hne (by simp [Value.ownBlock, e])
      simp [Sort.putRow, Sort.mapBlock, Sort.ahead, Array.getElem?_modify, hgk]
end Go.Proofs.Ytjhllgldllbaaaa

/- slices.Clone at []int: the shelf's contract. -/
namespace Go.Proofs
open Go.Shelf
def Try.laysClone_ren : Go.Shelf.Ren := ⟨fun | 15 => 124 | n => n, fun | 22 => 22 | 3 => 3 | 4 => 4 | n => n, fun | n => n⟩
theorem Try.laysClone : Go.Proofs.Lays2.n15 Try.prog Try.laysClone_ren := {
  mixed := by kernel_rfl
  f15 := Try.func124.trans (congrArg some (by kernel_rfl))
  t3 := Try.underlying3
  a3 := Try.isAgg3
  z3 := Try.sizeOf3
  v3 := Try.zeroValue3
  t4 := Try.underlying4
  a4 := Try.isAgg4
  z4 := Try.sizeOf4
  v4 := Try.zeroValue4
  t22 := Try.underlying22
  a22 := Try.isAgg22
  z22 := Try.sizeOf22
  v22 := Try.zeroValue22
  i3 := by kernel_rfl }
end Go.Proofs
namespace Go.Proofs.Ytjhllgldllbaaaa
set_option linter.unusedVariables false
set_option linter.unusedSimpArgs false
open Go.RowKit

theorem clone_own (u : Value) (xs : List Int) (w : World) (hu : SlI w w.heap.size u xs) :
    Calls Try.prog 124 #[u] w fun e w' => ∃ v, e = .returned v ∧ IntsO w' w.heap.size w'.heap.size v xs ∧ Below w.heap.size w w' := by
  have hr := SlI.i64 hu
  have hrd := hu
  obtain ⟨A, c, rfl, _, _, hn, hx⟩ := hu
  rcases A with _ | a
  · have h0 : xs = [] := by
      apply List.eq_nil_of_length_eq_zero
      rcases Nat.eq_zero_or_pos xs.length with h | h
      · exact h
      · obtain ⟨b, o, e, _⟩ := hx h
        cases e
    subst h0
    exact (Any.slices_Clone_int_nil Try.laysClone 0 c w).mono fun e w' ⟨h1, h2⟩ => ⟨_, h1, ⟨OwnI.nil _ _, by simp [Value.ownBlock]⟩, by rw [h2]; exact Below.refl _ _⟩
  rcases Nat.eq_zero_or_pos xs.length with h0 | hp
  · have h0 : xs = [] := List.eq_nil_of_length_eq_zero h0
    subst h0
    exact (Any.slices_Clone_int_zero Try.laysClone a c w).mono fun e w' ⟨v, h1, h2, _, hb⟩ => ⟨v, h1, IntsO.of_own ⟨h2, by simp, by simp⟩, hb⟩
  · obtain ⟨b, o, e, hb, hc⟩ := hx hp
    injection e with e
    subst e
    refine (Any.slices_Clone_int Try.laysClone b o xs.length c xs w (Nat.le_refl _) (by omega) (fun j hj => ?_)).mono ?_
    · have h := (hc j (xs.getD j 0) (by rw [List.getD_eq_getElem?_getD, List.getElem?_eq_getElem hj]; rfl)).1
      simpa using h
    · rintro e w' ⟨v', rfl, ho, hnn, hb⟩
      rw [List.take_of_length_le (Nat.le_refl _)] at ho
      exact ⟨v', rfl, IntsO.of_own ⟨ho, hn, hr⟩, hb⟩

end Go.Proofs.Ytjhllgldllbaaaa

/- Copies: slices.Clone at []int, append onto a fresh empty slice, copies of matrices and quivers on both sides. -/
namespace Go.Proofs.Ytjhllgldllbaaaa
set_option linter.unusedVariables false
set_option linter.unusedSimpArgs false
open Go.RowKit

/-- append of ints onto a slice that has just been made and holds nothing: what was there stands. -/
theorem wpList_append_fresh {w : World} {ops : Array Oper} {rest : List Oper} {o : Oper} {a : Act} {Q : Exit → Act → World → Prop} (hgd : o.guard = none) (s x : Operand)
    (ho : o.op = .call { callee := .builtin .append, args := #[s, x], argTypes := #[22, 22] })
    (g lo B : Nat) (cs : Array Value) (hs : a.eval s = .slice (some ⟨g, 0, none⟩) 0 0) (hg : Blk w g 3 cs) (hcs : cs.size = 0) (hlo : lo ≤ g) (A : Option Addr) (c : Nat) (news : List Int) (hx : a.eval x = .slice A news.length c) (hr : SlI w B (.slice A news.length c) news)
    (h : ∀ v' w', OwnI w' lo v' news → Below w.heap.size w w' → wpList Try.prog ops Q rest (a.put o.dst v') w') : wpList Try.prog ops Q (o :: rest) a w := by
  obtain ⟨i0, hi, hz0, hz1, hz2⟩ := info_parts infoInt
  have hn := hr
  obtain ⟨_, _, _, _, _, hn, hcell⟩ := hn
  have hI := SlI.i64 hr
  refine wpList_plain hgd fun K hK => ?_
  by_cases hp : 0 < news.length
  · obtain ⟨b, of, eA, hb, hc⟩ := hcell hp
    have hA := NewsAt.of_sl hr
    obtain ⟨hl, hnews⟩ := hA
    obtain ⟨b', of', eA', hc'⟩ := hnews.resolve_left (by omega)
    subst eA'
    have hadd : ∀ j, (⟨b', of', none⟩ : Addr).add j = ⟨b', of' + j, none⟩ := by intro j; unfold Addr.add; split <;> simp_all
    obtain ⟨v', w', hrun, hown, hgr⟩ := run_append_arg_grows (P := Try.prog) w 22 o.type 3 i0 _ 1 8 Try.underlying22 hi hz0 hz1 hz2 rfl (by decide) ⟨g, 0, none⟩ 0 0 [] (by simp) (by intro j u hj; simp at hj) ⟨b', of', none⟩ news.length c (news.map (Value.int .i64)) hl (fun j u hj => by rw [hadd]; exact hc' j u hj) (by omega) (by simp only [maxLen]; omega) (by omega)
    unfold Oper.wp execOp
    simp only [ho, resolve, invoke, builtin, Sem.run_bind, Sem.run_pure, Result.andThen_ok, List.map_toArray, List.map_cons, List.map_nil, hs, hx, hrun]
    refine hK _ _ (h v' w' ?_ ⟨hgr.os, hgr.tape, hgr.output, hgr.size, fun k hk => hgr.block k hk (by simp)⟩)
    have hgl := hg.lt
    exact OwnI.lower (base := w.heap.size) ⟨by simpa using hown, hn, hI⟩ (by omega)
  · have h0 : news = [] := List.eq_nil_of_length_eq_zero (by omega)
    subst h0
    have hrun : (Builtin.append_ #[22, 22] o.type #[.slice (some ⟨g, 0, none⟩) 0 0, .slice A 0 c]).run Try.prog w = .ok (.slice (some ⟨g, 0, none⟩) 0 0) w := by
      cases A <;> simp [Builtin.append_, run_underlying (P := Try.prog) Try.underlying22, sizeOf, typeInfo, hi, Builtin.lenOf, Builtin.firstCells, storeCells, loadCells, loadCellsFrom]
    simp only [List.length_nil] at hx
    unfold Oper.wp execOp
    simp only [ho, resolve, invoke, builtin, Sem.run_bind, Sem.run_pure, Result.andThen_ok, List.map_toArray, List.map_cons, List.map_nil, hs, hx, hrun]
    refine hK _ _ (h _ w ?_ (Below.refl _ _))
    have := hg.own (base := lo) (n := 0) (cap := 0) (size := 1) hlo (Nat.le_refl _) (by simp only [maxLen]; omega) (by omega)
    exact ⟨by simpa using this, by simp, by simp⟩

/-- a slice that has just been made and holds nothing -/
def Fresh (w : World) (lo : Nat) (u : Value) : Prop := ∃ g, u = .slice (some ⟨g, 0, none⟩) 0 0 ∧ lo ≤ g ∧ Blk w g 3 #[]
theorem Fresh.below {w w' : World} {lo : Nat} {u : Value} (h : Fresh w lo u) (hb : Below w.heap.size w w') : Fresh w' lo u := by
  obtain ⟨g, e, h1, h2⟩ := h
  exact ⟨g, e, h1, h2.call hb⟩
theorem Fresh.new (w : World) {lo : Nat} (h : lo ≤ w.heap.size) : Fresh (w.alloc (.cells #[] 3)) lo (.slice (some ⟨w.heap.size, 0, none⟩) 0 0) := ⟨_, rfl, h, Blk.new _ _ _⟩

set_option maxHeartbeats 3200000 in
theorem l3Copy_any (u : Value) (m : Mx) (w0 : World) (hu : MxR w0 w0.heap.size u m) :
    Calls Try.prog 150 #[u] w0 fun e w' => ∃ v, e = .returned v ∧ MxO w' w0.heap.size w'.heap.size v m ∧ Below w0.heap.size w0 w' := by
  obtain ⟨A, c, rfl, hf, hr, hc, lf⟩ := hu.open_
  clear hu
  obtain ⟨W, hW⟩ : ∃ W, W = (w0.alloc (.cells #[.int .i64 m.r, .int .i64 m.c, .slice A m.a.length c] 75)).alloc (.cells #[.int .i64 0, .int .i64 0, .slice none 0 0] 75) := ⟨_, rfl⟩
  have g0 : Below w0.heap.size w0 W := by rw [hW]; exact ((Below.refl _ _).alloc (Nat.le_refl _) _).alloc (by simp) _
  have k1 : Blk W w0.heap.size 75 #[.int .i64 m.r, .int .i64 m.c, .slice A m.a.length c] := by rw [hW]; exact (Blk.new _ _ _).alloc _
  have k2 : Blk W (w0.heap.size + 1) 75 #[.int .i64 0, .int .i64 0, .slice none 0 0] := by
    rw [hW]
    have := Blk.new (w0.alloc (.cells #[.int .i64 m.r, .int .i64 m.c, .slice A m.a.length c] 75)) 75 #[.int .i64 0, .int .i64 0, .slice none 0 0]
    simpa only [World.size_alloc] using this
  have sz : W.heap.size = w0.heap.size + 1 + 1 := by rw [hW]; simp
  have SZ := Lib.hid sz
  clear sz
  replace hf := SlI.next g0 hf
  go_enter Try.func150, Try.ntmps150
  go_wp2
  rw [← hW]; clear hW
  refine wp_region_net (by kernel_rfl) [.eq (.pointer (some ⟨w0.heap.size, 0, none⟩)), .eq (.int .i64 m.r), .eq (.pointer (some ⟨w0.heap.size, 1, none⟩)), .eq (.int .i64 m.c), rel 4 (fun u lo hi w => Fresh w W.heap.size u), .eq (.pointer (some ⟨w0.heap.size, 2, none⟩)), .eq (.slice A m.a.length c), rel 7 (fun u lo hi w => OwnI w W.heap.size u m.a), rel 8 (fun u lo hi w => ∃ s, u = .agg #[.int .i64 m.r, .int .i64 m.c, s] ∧ OwnI w W.heap.size s m.a)] [[], [0], [], [2], [], [], [5], [4, 5, 6], [0, 1, 2, 3, 4, 5, 6, 7], [0, 1, 2, 3, 4, 5, 6, 7, 8]] 9 (by kernel_rfl) ⟨trivial, trivial, trivial, trivial, rel_stable (fun u lo hi w w' h hb => h.below hb), trivial, trivial, rel_stable (fun u lo hi w w' h hb => h.below hb), rel_stable (fun u lo hi w w' ⟨s, e, h⟩ hb => ⟨s, e, h.below hb⟩), trivial⟩ ⟨?_, ?_, ?_, ?_, ?_, ?_, ?_, ?_, ?_, trivial⟩ ?_
  · intro x w hb hk Q' hQ
    clear hk
    simp only [netAct, dstAt, List.getElem?_toArray, List.getElem?_cons_zero, List.getElem?_cons_succ, Option.bind_some, Act.put, List.setIfInBounds_toArray, List.set_cons_zero, List.set_cons_succ] at hQ ⊢
    go_wp2
    exact hQ (.pointer (some ⟨w0.heap.size, 0, none⟩)) _ (Below.refl _ _) rfl
  · intro x w hb hk Q' hQ
    have h0 : x.v 0 = .pointer (some ⟨w0.heap.size, 0, none⟩) := (hk 0 (by decide)).1
    clear hk
    simp only [netAct, dstAt, List.getElem?_toArray, List.getElem?_cons_zero, List.getElem?_cons_succ, Option.bind_some, Act.put, List.setIfInBounds_toArray, List.set_cons_zero, List.set_cons_succ] at hQ ⊢
    simp only [h0] at hQ ⊢
    clear h0
    have c0 := (k1.call hb).cell' (i := 0) rfl
    go_wp2
    exact hQ (.int .i64 m.r) _ (Below.refl _ _) rfl
  · intro x w hb hk Q' hQ
    clear hk
    simp only [netAct, dstAt, List.getElem?_toArray, List.getElem?_cons_zero, List.getElem?_cons_succ, Option.bind_some, Act.put, List.setIfInBounds_toArray, List.set_cons_zero, List.set_cons_succ] at hQ ⊢
    go_wp2
    exact hQ (.pointer (some ⟨w0.heap.size, 1, none⟩)) _ (Below.refl _ _) rfl
  · intro x w hb hk Q' hQ
    have h2 : x.v 2 = .pointer (some ⟨w0.heap.size, 1, none⟩) := (hk 2 (by decide)).1
    clear hk
    simp only [netAct, dstAt, List.getElem?_toArray, List.getElem?_cons_zero, List.getElem?_cons_succ, Option.bind_some, Act.put, List.setIfInBounds_toArray, List.set_cons_zero, List.set_cons_succ] at hQ ⊢
    simp only [h2] at hQ ⊢
    clear h2
    have c1 := (k1.call hb).cell' (i := 1) rfl
    go_wp2
    exact hQ (.int .i64 m.c) _ (Below.refl _ _) rfl
  · intro x w hb hk Q' hQ
    clear hk
    simp only [netAct, dstAt, List.getElem?_toArray, List.getElem?_cons_zero, List.getElem?_cons_succ, Option.bind_some, Act.put, List.setIfInBounds_toArray, List.set_cons_zero, List.set_cons_succ] at hQ ⊢
    go_wp2
    exact hQ _ _ (below_alloc _ _) (Fresh.new _ hb.size)
  · intro x w hb hk Q' hQ
    clear hk
    simp only [netAct, dstAt, List.getElem?_toArray, List.getElem?_cons_zero, List.getElem?_cons_succ, Option.bind_some, Act.put, List.setIfInBounds_toArray, List.set_cons_zero, List.set_cons_succ] at hQ ⊢
    go_wp2
    exact hQ (.pointer (some ⟨w0.heap.size, 2, none⟩)) _ (Below.refl _ _) rfl
  · intro x w hb hk Q' hQ
    have h5 : x.v 5 = .pointer (some ⟨w0.heap.size, 2, none⟩) := (hk 5 (by decide)).1
    clear hk
    simp only [netAct, dstAt, List.getElem?_toArray, List.getElem?_cons_zero, List.getElem?_cons_succ, Option.bind_some, Act.put, List.setIfInBounds_toArray, List.set_cons_zero, List.set_cons_succ] at hQ ⊢
    simp only [h5] at hQ ⊢
    clear h5
    have c2 := (k1.call hb).cell' (i := 2) rfl
    go_wp2
    exact hQ (.slice A m.a.length c) _ (Below.refl _ _) rfl
  · intro x w hb hk Q' hQ
    have h4 : Fresh w W.heap.size (x.v 4) := (hk 4 (by decide)).1
    have h5 : x.v 5 = .pointer (some ⟨w0.heap.size, 2, none⟩) := (hk 5 (by decide)).1
    have h6 : x.v 6 = .slice A m.a.length c := (hk 6 (by decide)).1
    have s4 := (hk 4 (by decide)).2
    clear hk
    simp only [netAct, dstAt, List.getElem?_toArray, List.getElem?_cons_zero, List.getElem?_cons_succ, Option.bind_some, Act.put, List.setIfInBounds_toArray, List.set_cons_zero, List.set_cons_succ] at hQ ⊢
    simp only [h5, h6] at hQ ⊢
    clear h5 h6
    obtain ⟨g, e4, hg, hB⟩ := h4
    rw [e4] at hQ ⊢
    refine wpList_append_fresh (by rfl) (.tmp 7) (.tmp 9) (by rfl) g W.heap.size w.heap.size #[] (by rfl) hB rfl hg A c m.a (by rfl) (SlI.next hb hf) ?_
    intro v' w' ho hb'
    exact hQ _ _ hb' ho
  · intro x w hb hk Q' hQ
    have h0 : x.v 0 = .pointer (some ⟨w0.heap.size, 0, none⟩) := (hk 0 (by decide)).1
    have h1 : x.v 1 = .int .i64 m.r := (hk 1 (by decide)).1
    have h2 : x.v 2 = .pointer (some ⟨w0.heap.size, 1, none⟩) := (hk 2 (by decide)).1
    have h3 : x.v 3 = .int .i64 m.c := (hk 3 (by decide)).1
    have h4 : Fresh w W.heap.size (x.v 4) := (hk 4 (by decide)).1
    have h5 : x.v 5 = .pointer (some ⟨w0.heap.size, 2, none⟩) := (hk 5 (by decide)).1
    have h6 : x.v 6 = .slice A m.a.length c := (hk 6 (by decide)).1
    have h7 : OwnI w W.heap.size (x.v 7) m.a := (hk 7 (by decide)).1
    have s4 := (hk 4 (by decide)).2
    have s7 := (hk 7 (by decide)).2
    clear hk
    simp only [netAct, dstAt, List.getElem?_toArray, List.getElem?_cons_zero, List.getElem?_cons_succ, Option.bind_some, Act.put, List.setIfInBounds_toArray, List.set_cons_zero, List.set_cons_succ] at hQ ⊢
    simp only [h0, h1, h2, h3, h5, h6] at hQ ⊢
    clear h0 h1 h2 h3 h5 h6
    obtain ⟨A', c', e7, _, _⟩ := h7.form
    rw [e7] at h7
    rw [e7] at hQ ⊢
    go_wp2
    exact hQ (.agg #[.int .i64 m.r, .int .i64 m.c, .slice A' m.a.length c']) w (Below.refl _ _) ⟨_, rfl, h7⟩
  · intro x w hb hk hiv hdj
    have h0 : x.v 0 = .pointer (some ⟨w0.heap.size, 0, none⟩) := hk 0 (by decide)
    have h1 : x.v 1 = .int .i64 m.r := hk 1 (by decide)
    have h2 : x.v 2 = .pointer (some ⟨w0.heap.size, 1, none⟩) := hk 2 (by decide)
    have h3 : x.v 3 = .int .i64 m.c := hk 3 (by decide)
    have h4 : Fresh w W.heap.size (x.v 4) := hk 4 (by decide)
    have h5 : x.v 5 = .pointer (some ⟨w0.heap.size, 2, none⟩) := hk 5 (by decide)
    have h6 : x.v 6 = .slice A m.a.length c := hk 6 (by decide)
    have h7 : OwnI w W.heap.size (x.v 7) m.a := hk 7 (by decide)
    have h8 : ∃ s, (x.v 8) = .agg #[.int .i64 m.r, .int .i64 m.c, s] ∧ OwnI w W.heap.size s m.a := hk 8 (by decide)
    clear hk
    simp only [netAct, dstAt, List.getElem?_toArray, List.getElem?_cons_zero, List.getElem?_cons_succ, Option.bind_some, Act.put, List.setIfInBounds_toArray, List.set_cons_zero, List.set_cons_succ]
    simp only [List.drop_succ_cons, List.drop_zero, h0, h1, h2, h3, h5, h6]
    clear h0 h1 h2 h3 h5 h6
    obtain ⟨s, e8, ho⟩ := h8
    obtain ⟨A', c', es, _, _⟩ := ho.form
    subst es
    rw [e8]
    have k2' := k2.call hb
    have f2 := k2'.frozen
    have r0 := k2'.cell' (i := 0) rfl
    have r1 := k2'.cell' (i := 1) rfl
    have r2 := k2'.cell' (i := 2) rfl
    have hbs := hb.size
    have sz := SZ.out
    have gf := g0.trans (hb.mono g0.size)
    clear h4 h7 k1 k2 sz
    go_wp2
    have sz := SZ.out
    refine bodyPost_ret (v := .agg #[.int .i64 m.r, .int .i64 m.c, .slice A' m.a.length c']) (by simp [results, go_sem, r0, r1, r2]) rfl ⟨_, rfl, ⟨_, rfl, ?_, hr, hc⟩, ((gf.setCell (by simp) _).setCell (by simp) _).setCell (by simp) _⟩
    exact ((((IntsO.of_own ho).set (by simp; omega) _).set (by simp; omega) _).set (by simp; omega) _).wider (by omega) (by simp)
end Go.Proofs.Ytjhllgldllbaaaa

/- Copies of quivers on both sides, of matrices on the program's. -/
namespace Go.Proofs.Ytjhllgldllbaaaa
set_option linter.unusedVariables false
set_option linter.unusedSimpArgs false
open Go.RowKit

theorem IntsO.form {w : World} {lo hi : Nat} {v : Value} {l : List Int} (h : IntsO w lo hi v l) : ∃ A c, v = .slice A l.length c := by
  obtain ⟨A, c, e, _⟩ := h.1.form
  exact ⟨A, c, e⟩
theorem QuivO.setLow {w : World} {lo hi : Nat} {v : Value} {q : Qv} (h : QuivO w lo hi v q) {p : Addr} (hp : p.block < lo) (u : Value) : QuivO (w.setCell p u) lo hi v q :=
  h.chg (chg_set (lo := p.block) (hi := p.block + 1) (Nat.le_refl _) (by omega)) (.inr (by omega))
theorem QuivO.wider {w : World} {lo hi lo' hi' : Nat} {v : Value} {q : Qv} (h : QuivO w lo hi v q) (h1 : lo' ≤ lo) (h2 : hi ≤ hi') : QuivO w lo' hi' v q := by
  obtain ⟨a, b, e, hF, hr⟩ := h
  exact ⟨a, b, e, hF.mono h1 h2, hr⟩

set_option maxHeartbeats 800000 in
theorem mxClone_any (u : Value) (m : Mx) (w0 : World) (hu : MxR w0 w0.heap.size u m) :
    Calls Try.prog 199 #[u] w0 fun e w' => ∃ v, e = .returned v ∧ MxO w' w0.heap.size w'.heap.size v m ∧ Below w0.heap.size w0 w' := by
  obtain ⟨A, c, rfl, hf, hr, hc, lf⟩ := hu.open_
  clear hu
  obtain ⟨W, hW⟩ : ∃ W, W = (w0.alloc (.cells #[.int .i64 m.r, .int .i64 m.c, .slice A m.a.length c] 75)).alloc (.cells #[.int .i64 0, .int .i64 0, .slice none 0 0] 75) := ⟨_, rfl⟩
  have g0 : Below w0.heap.size w0 W := by rw [hW]; exact ((Below.refl _ _).alloc (Nat.le_refl _) _).alloc (by simp) _
  have k1 : Blk W w0.heap.size 75 #[.int .i64 m.r, .int .i64 m.c, .slice A m.a.length c] := by rw [hW]; exact (Blk.new _ _ _).alloc _
  have k2 : Blk W (w0.heap.size + 1) 75 #[.int .i64 0, .int .i64 0, .slice none 0 0] := by
    rw [hW]
    have := Blk.new (w0.alloc (.cells #[.int .i64 m.r, .int .i64 m.c, .slice A m.a.length c] 75)) 75 #[.int .i64 0, .int .i64 0, .slice none 0 0]
    simpa only [World.size_alloc] using this
  have sz : W.heap.size = w0.heap.size + 1 + 1 := by rw [hW]; simp
  have SZ := Lib.hid sz
  clear sz
  replace hf := SlI.next g0 hf
  go_enter Try.func199, Try.ntmps199
  go_wp2_with fail
  rw [← hW]; clear hW
  refine (clone_own _ m.a _ hf).mono ?_; rintro e w1 ⟨v, rfl, ho, hb1⟩
  obtain ⟨A', c', rfl⟩ := ho.form
  have k1' := k1.call hb1
  have k2' := k2.call hb1
  have f1 := k1'.frozen
  have f2 := k2'.frozen
  have q0 := k1'.cell' (i := 0) rfl
  have q1 := k1'.cell' (i := 1) rfl
  have q2 := k1'.cell' (i := 2) rfl
  have r0 := k2'.cell' (i := 0) rfl
  have r1 := k2'.cell' (i := 1) rfl
  have r2 := k2'.cell' (i := 2) rfl
  have gf := g0.trans (hb1.mono g0.size)
  have hbs := hb1.size
  have HBS := Lib.hid hbs
  clear k1 k2 hbs hb1 hf
  go_wp2
  have sz := SZ.out
  have hbs := HBS.out
  refine bodyPost_ret (v := .agg #[.int .i64 m.r, .int .i64 m.c, .slice A' m.a.length c']) (by simp [results, go_sem, r0, r1, r2]) rfl ⟨_, rfl, ⟨_, rfl, ?_, hr, hc⟩, (((gf.setCell (by simp) _).setCell (by simp) _).setCell (by simp) _).setCell (by simp) _⟩
  exact ((((ho.set (by simp; omega) _).set (by simp; omega) _).set (by simp; omega) _).set (by simp; omega) _).wider (by omega) (by simp)

/-- two rows of two stretches that are apart -/
theorem fam_apart {w : World} {lo hi l1 h1 l2 h2 : Nat} {a b : Value} {l m : List Int} (ha : IntsO w l1 h1 a l) (hb : IntsO w l2 h2 b m) (hd : h1 ≤ l2 ∨ h2 ≤ l1) (k1 : lo ≤ l1) (k2 : lo ≤ l2) (k3 : h1 ≤ hi) (k4 : h2 ≤ hi) : Fam w lo hi [(a, l), (b, m)] := by
  refine ⟨fun p hp => ?_, ?_⟩
  · simp only [List.mem_cons, List.not_mem_nil, or_false] at hp
    rcases hp with rfl | rfl
    · exact ha.wider k1 k3
    · exact hb.wider k2 k4
  · simp only [List.pairwise_cons, List.mem_cons, List.not_mem_nil, or_false, forall_eq, false_implies, implies_true, List.Pairwise.nil, and_true]
    rcases hA : a.ownBlock with _ | x
    · exact .inl rfl
    · right
      intro e
      have h3 := ha.2 x hA
      have h4 := (ha.1.lt x hA).1
      have h5 := hb.2 x e.symm
      have h6 := (hb.1.lt x e.symm).1
      omega

set_option maxHeartbeats 3200000 in
theorem qvClone_any (u : Value) (q : Qv) (w0 : World) (hu : QvR w0 w0.heap.size u q) :
    Calls Try.prog 123 #[u] w0 fun e w' => ∃ v, e = .returned v ∧ QuivO w' w0.heap.size w'.heap.size v q ∧ Below w0.heap.size w0 w' := by
  obtain ⟨A, c, C, d, rfl, hf, ht, hr, lf, lt⟩ := hu.open_
  clear hu
  obtain ⟨W, hW⟩ : ∃ W, W = (w0.alloc (.cells #[.int .i64 q.v, .slice A q.f.length c, .slice C q.t.length d] 26)).alloc (.cells #[.int .i64 0, .slice none 0 0, .slice none 0 0] 26) := ⟨_, rfl⟩
  have g0 : Below w0.heap.size w0 W := by rw [hW]; exact ((Below.refl _ _).alloc (Nat.le_refl _) _).alloc (by simp) _
  have k1 : Blk W w0.heap.size 26 #[.int .i64 q.v, .slice A q.f.length c, .slice C q.t.length d] := by rw [hW]; exact (Blk.new _ _ _).alloc _
  have k2 : Blk W (w0.heap.size + 1) 26 #[.int .i64 0, .slice none 0 0, .slice none 0 0] := by
    rw [hW]
    have := Blk.new (w0.alloc (.cells #[.int .i64 q.v, .slice A q.f.length c, .slice C q.t.length d] 26)) 26 #[.int .i64 0, .slice none 0 0, .slice none 0 0]
    simpa only [World.size_alloc] using this
  have sz : W.heap.size = w0.heap.size + 1 + 1 := by rw [hW]; simp
  have SZ := Lib.hid sz
  clear sz
  replace hf := SlI.next g0 hf
  replace ht := SlI.next g0 ht
  go_enter Try.func123, Try.ntmps123
  go_wp2
  rw [← hW]; clear hW
  refine wp_region_net (by kernel_rfl) [.eq (.pointer (some ⟨w0.heap.size, 0, none⟩)), .eq (.int .i64 q.v), .eq (.pointer (some ⟨w0.heap.size, 1, none⟩)), .eq (.slice A q.f.length c), rel 4 (fun u lo hi w => IntsO w lo hi u q.f), .eq (.pointer (some ⟨w0.heap.size, 2, none⟩)), .eq (.slice C q.t.length d), rel 7 (fun u lo hi w => IntsO w lo hi u q.t), .rel (fun x w => x.v 8 = .agg #[.int .i64 q.v, x.v 4, x.v 7])] [[], [0], [], [2], [2, 3], [], [5], [2, 3, 4, 5, 6], [0, 1, 2, 3, 4, 5, 6, 7], [0, 1, 2, 3, 4, 5, 6, 7, 8]] 9 (by kernel_rfl) ⟨trivial, trivial, trivial, trivial, rel_stable (fun u lo hi w w' h hb => h.below hb), trivial, trivial, rel_stable (fun u lo hi w w' h hb => h.below hb), fun x w w' h hb => h, trivial⟩ ⟨?_, ?_, ?_, ?_, ?_, ?_, ?_, ?_, ?_, trivial⟩ ?_
  · intro x w hb hk Q' hQ
    clear hk
    simp only [netAct, dstAt, List.getElem?_toArray, List.getElem?_cons_zero, List.getElem?_cons_succ, Option.bind_some, Act.put, List.setIfInBounds_toArray, List.set_cons_zero, List.set_cons_succ] at hQ ⊢
    go_wp2
    exact hQ (.pointer (some ⟨w0.heap.size, 0, none⟩)) _ (Below.refl _ _) rfl
  · intro x w hb hk Q' hQ
    have h0 : x.v 0 = .pointer (some ⟨w0.heap.size, 0, none⟩) := (hk 0 (by decide)).1
    clear hk
    simp only [netAct, dstAt, List.getElem?_toArray, List.getElem?_cons_zero, List.getElem?_cons_succ, Option.bind_some, Act.put, List.setIfInBounds_toArray, List.set_cons_zero, List.set_cons_succ] at hQ ⊢
    simp only [h0] at hQ ⊢
    clear h0
    have c0 := (k1.call hb).cell' (i := 0) rfl
    go_wp2
    exact hQ (.int .i64 q.v) _ (Below.refl _ _) rfl
  · intro x w hb hk Q' hQ
    clear hk
    simp only [netAct, dstAt, List.getElem?_toArray, List.getElem?_cons_zero, List.getElem?_cons_succ, Option.bind_some, Act.put, List.setIfInBounds_toArray, List.set_cons_zero, List.set_cons_succ] at hQ ⊢
    go_wp2
    exact hQ (.pointer (some ⟨w0.heap.size, 1, none⟩)) _ (Below.refl _ _) rfl
  · intro x w hb hk Q' hQ
    have h2 : x.v 2 = .pointer (some ⟨w0.heap.size, 1, none⟩) := (hk 2 (by decide)).1
    clear hk
    simp only [netAct, dstAt, List.getElem?_toArray, List.getElem?_cons_zero, List.getElem?_cons_succ, Option.bind_some, Act.put, List.setIfInBounds_toArray, List.set_cons_zero, List.set_cons_succ] at hQ ⊢
    simp only [h2] at hQ ⊢
    clear h2
    have c1 := (k1.call hb).cell' (i := 1) rfl
    go_wp2
    exact hQ (.slice A q.f.length c) _ (Below.refl _ _) rfl
  · intro x w hb hk Q' hQ
    have h2 : x.v 2 = .pointer (some ⟨w0.heap.size, 1, none⟩) := (hk 2 (by decide)).1
    have h3 : x.v 3 = .slice A q.f.length c := (hk 3 (by decide)).1
    clear hk
    simp only [netAct, dstAt, List.getElem?_toArray, List.getElem?_cons_zero, List.getElem?_cons_succ, Option.bind_some, Act.put, List.setIfInBounds_toArray, List.set_cons_zero, List.set_cons_succ] at hQ ⊢
    simp only [h2, h3] at hQ ⊢
    clear h2 h3
    go_wp2_with fail
    refine (clone_own _ q.f _ (SlI.next hb hf)).mono ?_; rintro e w1 ⟨v1, rfl, ho, hb1⟩
    go_wp2
    exact hQ _ _ hb1 ho
  · intro x w hb hk Q' hQ
    clear hk
    simp only [netAct, dstAt, List.getElem?_toArray, List.getElem?_cons_zero, List.getElem?_cons_succ, Option.bind_some, Act.put, List.setIfInBounds_toArray, List.set_cons_zero, List.set_cons_succ] at hQ ⊢
    go_wp2
    exact hQ (.pointer (some ⟨w0.heap.size, 2, none⟩)) _ (Below.refl _ _) rfl
  · intro x w hb hk Q' hQ
    have h5 : x.v 5 = .pointer (some ⟨w0.heap.size, 2, none⟩) := (hk 5 (by decide)).1
    clear hk
    simp only [netAct, dstAt, List.getElem?_toArray, List.getElem?_cons_zero, List.getElem?_cons_succ, Option.bind_some, Act.put, List.setIfInBounds_toArray, List.set_cons_zero, List.set_cons_succ] at hQ ⊢
    simp only [h5] at hQ ⊢
    clear h5
    have c2 := (k1.call hb).cell' (i := 2) rfl
    go_wp2
    exact hQ (.slice C q.t.length d) _ (Below.refl _ _) rfl
  · intro x w hb hk Q' hQ
    have h2 : x.v 2 = .pointer (some ⟨w0.heap.size, 1, none⟩) := (hk 2 (by decide)).1
    have h3 : x.v 3 = .slice A q.f.length c := (hk 3 (by decide)).1
    have h4 : IntsO w (x.lo 4) (x.hi 4) (x.v 4) q.f := (hk 4 (by decide)).1
    have h5 : x.v 5 = .pointer (some ⟨w0.heap.size, 2, none⟩) := (hk 5 (by decide)).1
    have h6 : x.v 6 = .slice C q.t.length d := (hk 6 (by decide)).1
    have s4 := (hk 4 (by decide)).2
    clear hk
    simp only [netAct, dstAt, List.getElem?_toArray, List.getElem?_cons_zero, List.getElem?_cons_succ, Option.bind_some, Act.put, List.setIfInBounds_toArray, List.set_cons_zero, List.set_cons_succ] at hQ ⊢
    simp only [h2, h3, h5, h6] at hQ ⊢
    clear h2 h3 h5 h6
    go_wp2_with fail
    refine (clone_own _ q.t _ (SlI.next hb ht)).mono ?_; rintro e w1 ⟨v1, rfl, ho, hb1⟩
    go_wp2
    exact hQ _ _ hb1 ho
  · intro x w hb hk Q' hQ
    have h0 : x.v 0 = .pointer (some ⟨w0.heap.size, 0, none⟩) := (hk 0 (by decide)).1
    have h1 : x.v 1 = .int .i64 q.v := (hk 1 (by decide)).1
    have h2 : x.v 2 = .pointer (some ⟨w0.heap.size, 1, none⟩) := (hk 2 (by decide)).1
    have h3 : x.v 3 = .slice A q.f.length c := (hk 3 (by decide)).1
    have h4 : IntsO w (x.lo 4) (x.hi 4) (x.v 4) q.f := (hk 4 (by decide)).1
    have h5 : x.v 5 = .pointer (some ⟨w0.heap.size, 2, none⟩) := (hk 5 (by decide)).1
    have h6 : x.v 6 = .slice C q.t.length d := (hk 6 (by decide)).1
    have h7 : IntsO w (x.lo 7) (x.hi 7) (x.v 7) q.t := (hk 7 (by decide)).1
    have s4 := (hk 4 (by decide)).2
    have s7 := (hk 7 (by decide)).2
    clear hk
    simp only [netAct, dstAt, List.getElem?_toArray, List.getElem?_cons_zero, List.getElem?_cons_succ, Option.bind_some, Act.put, List.setIfInBounds_toArray, List.set_cons_zero, List.set_cons_succ] at hQ ⊢
    simp only [h0, h1, h2, h3, h5, h6] at hQ ⊢
    clear h0 h1 h2 h3 h5 h6
    obtain ⟨s4A, s4c, e4⟩ := h4.form
    obtain ⟨s7A, s7c, e7⟩ := h7.form
    have hQ' := hQ (.agg #[.int .i64 q.v, x.v 4, x.v 7]) w (Below.refl _ _) rfl
    rw [e4, e7] at hQ' ⊢
    go_wp2
    exact hQ'
  · intro x w hb hk hiv hdj
    have h0 : x.v 0 = .pointer (some ⟨w0.heap.size, 0, none⟩) := hk 0 (by decide)
    have h1 : x.v 1 = .int .i64 q.v := hk 1 (by decide)
    have h2 : x.v 2 = .pointer (some ⟨w0.heap.size, 1, none⟩) := hk 2 (by decide)
    have h3 : x.v 3 = .slice A q.f.length c := hk 3 (by decide)
    have h4 : IntsO w (x.lo 4) (x.hi 4) (x.v 4) q.f := hk 4 (by decide)
    have h5 : x.v 5 = .pointer (some ⟨w0.heap.size, 2, none⟩) := hk 5 (by decide)
    have h6 : x.v 6 = .slice C q.t.length d := hk 6 (by decide)
    have h7 : IntsO w (x.lo 7) (x.hi 7) (x.v 7) q.t := hk 7 (by decide)
    have h8 : x.v 8 = .agg #[.int .i64 q.v, x.v 4, x.v 7] := hk 8 (by decide)
    clear hk
    simp only [netAct, dstAt, List.getElem?_toArray, List.getElem?_cons_zero, List.getElem?_cons_succ, Option.bind_some, Act.put, List.setIfInBounds_toArray, List.set_cons_zero, List.set_cons_succ]
    simp only [List.drop_succ_cons, List.drop_zero, h0, h1, h2, h3, h5, h6]
    clear h0 h1 h2 h3 h5 h6
    have hF := fam_apart h4 h7 (hdj 4 7 (by decide) (by decide) (by decide)) (hiv 4 (by decide)).1 (hiv 7 (by decide)).1 (hiv 4 (by decide)).2.2 (hiv 7 (by decide)).2.2
    have hQ : QuivO w W.heap.size w.heap.size (.agg #[.int .i64 q.v, x.v 4, x.v 7]) q := ⟨_, _, rfl, hF, hr⟩
    obtain ⟨s4A, s4c, e4⟩ := h4.form
    obtain ⟨s7A, s7c, e7⟩ := h7.form
    rw [e4, e7] at hQ h8
    rw [h8]
    have k2' := k2.call hb
    have f2 := k2'.frozen
    have r0 := k2'.cell' (i := 0) rfl
    have r1 := k2'.cell' (i := 1) rfl
    have r2 := k2'.cell' (i := 2) rfl
    have gf := g0.trans (hb.mono g0.size)
    have HBS := Lib.hid hb.size
    have HQ := Lib.hid hQ
    clear h4 h7 h8 e4 e7 k1 k2 hb hf ht hF hQ hdj hiv
    go_wp2
    have sz := SZ.out
    have hbs := HBS.out
    refine bodyPost_ret (v := .agg #[.int .i64 q.v, .slice s4A q.f.length s4c, .slice s7A q.t.length s7c]) (by simp [results, go_sem, r0, r1, r2]) rfl ⟨_, rfl, QuivO.wider (lo := W.heap.size) (hi := w.heap.size) ?_ (by omega) (by simp), ((gf.setCell (by simp) _).setCell (by simp) _).setCell (by simp) _⟩
    exact ((HQ.out.setLow (by simp; omega) _).setLow (by simp; omega) _).setLow (by simp; omega) _

/-- a quiver whose rows the call made; whether they are apart from one another is not said -/
def QuivI (w : World) (lo hi : Nat) (val : Value) (q : Qv) : Prop := ∃ a b, val = .agg #[.int .i64 q.v, a, b] ∧ IntsO w lo hi a q.f ∧ IntsO w lo hi b q.t ∧ I64 q.v
theorem QuivI.below {w w' : World} {lo hi : Nat} {v : Value} {q : Qv} (h : QuivI w lo hi v q) (hb : Below w.heap.size w w') : QuivI w' lo hi v q := by
  obtain ⟨a, b, e, h1, h2, h3⟩ := h
  exact ⟨a, b, e, h1.below hb, h2.below hb, h3⟩
theorem QuivI.rd {w : World} {lo hi : Nat} {v : Value} {q : Qv} (h : QuivI w lo hi v q) : QvR w w.heap.size v q := by
  obtain ⟨a, b, e, h1, h2, h3⟩ := h
  exact ⟨a, b, e, h1.rd, h2.rd, h3⟩
theorem QuivI.set {w : World} {lo hi : Nat} {v : Value} {q : Qv} (h : QuivI w lo hi v q) {p : Addr} (hp : p.block < lo) (u : Value) : QuivI (w.setCell p u) lo hi v q := by
  obtain ⟨a, b, e, h1, h2, h3⟩ := h
  exact ⟨a, b, e, h1.set hp u, h2.set hp u, h3⟩
theorem QuivI.wider {w : World} {lo hi lo' hi' : Nat} {v : Value} {q : Qv} (h : QuivI w lo hi v q) (k1 : lo' ≤ lo) (k2 : hi ≤ hi') : QuivI w lo' hi' v q := by
  obtain ⟨a, b, e, h1, h2, h3⟩ := h
  exact ⟨a, b, e, h1.wider k1 k2, h2.wider k1 k2, h3⟩

set_option maxHeartbeats 3200000 in
theorem l6Copy_any (u : Value) (q : Qv) (w0 : World) (hu : QvR w0 w0.heap.size u q) :
    Calls Try.prog 120 #[u] w0 fun e w' => ∃ v, e = .returned v ∧ QuivI w' w0.heap.size w'.heap.size v q ∧ Below w0.heap.size w0 w' := by
  obtain ⟨A, c, C, d, rfl, hf, ht, hr, lf, lt⟩ := hu.open_
  clear hu
  obtain ⟨W, hW⟩ : ∃ W, W = (w0.alloc (.cells #[.int .i64 q.v, .slice A q.f.length c, .slice C q.t.length d] 26)).alloc (.cells #[.int .i64 0, .slice none 0 0, .slice none 0 0] 26) := ⟨_, rfl⟩
  have g0 : Below w0.heap.size w0 W := by rw [hW]; exact ((Below.refl _ _).alloc (Nat.le_refl _) _).alloc (by simp) _
  have k1 : Blk W w0.heap.size 26 #[.int .i64 q.v, .slice A q.f.length c, .slice C q.t.length d] := by rw [hW]; exact (Blk.new _ _ _).alloc _
  have k2 : Blk W (w0.heap.size + 1) 26 #[.int .i64 0, .slice none 0 0, .slice none 0 0] := by
    rw [hW]
    have := Blk.new (w0.alloc (.cells #[.int .i64 q.v, .slice A q.f.length c, .slice C q.t.length d] 26)) 26 #[.int .i64 0, .slice none 0 0, .slice none 0 0]
    simpa only [World.size_alloc] using this
  have sz : W.heap.size = w0.heap.size + 1 + 1 := by rw [hW]; simp
  have SZ := Lib.hid sz
  clear sz
  replace hf := SlI.next g0 hf
  replace ht := SlI.next g0 ht
  go_enter Try.func120, Try.ntmps120
  go_wp2
  rw [← hW]; clear hW
  refine wp_region_net (by kernel_rfl) [.eq (.pointer (some ⟨w0.heap.size, 0, none⟩)), .eq (.int .i64 q.v), rel 2 (fun u lo hi w => Fresh w W.heap.size u), .eq (.pointer (some ⟨w0.heap.size, 1, none⟩)), .eq (.slice A q.f.length c), rel 5 (fun u lo hi w => OwnI w W.heap.size u q.f), rel 6 (fun u lo hi w => Fresh w W.heap.size u), .eq (.pointer (some ⟨w0.heap.size, 2, none⟩)), .eq (.slice C q.t.length d), rel 9 (fun u lo hi w => OwnI w W.heap.size u q.t), .rel (fun x w => x.v 10 = .agg #[.int .i64 q.v, x.v 5, x.v 9])] [[], [0], [], [], [3], [2, 3, 4], [], [], [7], [2, 3, 4, 5, 6, 7, 8], [0, 1, 2, 3, 4, 5, 6, 7, 8, 9], [0, 1, 2, 3, 4, 5, 6, 7, 8, 9, 10]] 11 (by kernel_rfl) ⟨trivial, trivial, rel_stable (fun u lo hi w w' h hb => h.below hb), trivial, trivial, rel_stable (fun u lo hi w w' h hb => h.below hb), rel_stable (fun u lo hi w w' h hb => h.below hb), trivial, trivial, rel_stable (fun u lo hi w w' h hb => h.below hb), fun x w w' h hb => h, trivial⟩ ⟨?_, ?_, ?_, ?_, ?_, ?_, ?_, ?_, ?_, ?_, ?_, trivial⟩ ?_
  · intro x w hb hk Q' hQ
    clear hk
    simp only [netAct, dstAt, List.getElem?_toArray, List.getElem?_cons_zero, List.getElem?_cons_succ, Option.bind_some, Act.put, List.setIfInBounds_toArray, List.set_cons_zero, List.set_cons_succ] at hQ ⊢
    go_wp2
    exact hQ (.pointer (some ⟨w0.heap.size, 0, none⟩)) _ (Below.refl _ _) rfl
  · intro x w hb hk Q' hQ
    have h0 : x.v 0 = .pointer (some ⟨w0.heap.size, 0, none⟩) := (hk 0 (by decide)).1
    clear hk
    simp only [netAct, dstAt, List.getElem?_toArray, List.getElem?_cons_zero, List.getElem?_cons_succ, Option.bind_some, Act.put, List.setIfInBounds_toArray, List.set_cons_zero, List.set_cons_succ] at hQ ⊢
    simp only [h0] at hQ ⊢
    clear h0
    have c0 := (k1.call hb).cell' (i := 0) rfl
    go_wp2
    exact hQ (.int .i64 q.v) _ (Below.refl _ _) rfl
  · intro x w hb hk Q' hQ
    clear hk
    simp only [netAct, dstAt, List.getElem?_toArray, List.getElem?_cons_zero, List.getElem?_cons_succ, Option.bind_some, Act.put, List.setIfInBounds_toArray, List.set_cons_zero, List.set_cons_succ] at hQ ⊢
    go_wp2
    exact hQ _ _ (below_alloc _ _) (Fresh.new _ hb.size)
  · intro x w hb hk Q' hQ
    clear hk
    simp only [netAct, dstAt, List.getElem?_toArray, List.getElem?_cons_zero, List.getElem?_cons_succ, Option.bind_some, Act.put, List.setIfInBounds_toArray, List.set_cons_zero, List.set_cons_succ] at hQ ⊢
    go_wp2
    exact hQ (.pointer (some ⟨w0.heap.size, 1, none⟩)) _ (Below.refl _ _) rfl
  · intro x w hb hk Q' hQ
    have h3 : x.v 3 = .pointer (some ⟨w0.heap.size, 1, none⟩) := (hk 3 (by decide)).1
    clear hk
    simp only [netAct, dstAt, List.getElem?_toArray, List.getElem?_cons_zero, List.getElem?_cons_succ, Option.bind_some, Act.put, List.setIfInBounds_toArray, List.set_cons_zero, List.set_cons_succ] at hQ ⊢
    simp only [h3] at hQ ⊢
    clear h3
    have c1 := (k1.call hb).cell' (i := 1) rfl
    go_wp2
    exact hQ (.slice A q.f.length c) _ (Below.refl _ _) rfl
  · intro x w hb hk Q' hQ
    have h2 : Fresh w W.heap.size (x.v 2) := (hk 2 (by decide)).1
    have h3 : x.v 3 = .pointer (some ⟨w0.heap.size, 1, none⟩) := (hk 3 (by decide)).1
    have h4 : x.v 4 = .slice A q.f.length c := (hk 4 (by decide)).1
    have s2 := (hk 2 (by decide)).2
    clear hk
    simp only [netAct, dstAt, List.getElem?_toArray, List.getElem?_cons_zero, List.getElem?_cons_succ, Option.bind_some, Act.put, List.setIfInBounds_toArray, List.set_cons_zero, List.set_cons_succ] at hQ ⊢
    simp only [h3, h4] at hQ ⊢
    clear h3 h4
    obtain ⟨g, e2, hg, hB⟩ := h2
    rw [e2] at hQ ⊢
    refine wpList_append_fresh (by rfl) (.tmp 5) (.tmp 7) (by rfl) g W.heap.size w.heap.size #[] (by rfl) hB rfl hg A c q.f (by rfl) (SlI.next hb hf) ?_
    intro v' w' ho hb'
    exact hQ _ _ hb' ho
  · intro x w hb hk Q' hQ
    clear hk
    simp only [netAct, dstAt, List.getElem?_toArray, List.getElem?_cons_zero, List.getElem?_cons_succ, Option.bind_some, Act.put, List.setIfInBounds_toArray, List.set_cons_zero, List.set_cons_succ] at hQ ⊢
    go_wp2
    exact hQ _ _ (below_alloc _ _) (Fresh.new _ hb.size)
  · intro x w hb hk Q' hQ
    clear hk
    simp only [netAct, dstAt, List.getElem?_toArray, List.getElem?_cons_zero, List.getElem?_cons_succ, Option.bind_some, Act.put, List.setIfInBounds_toArray, List.set_cons_zero, List.set_cons_succ] at hQ ⊢
    go_wp2
    exact hQ (.pointer (some ⟨w0.heap.size, 2, none⟩)) _ (Below.refl _ _) rfl
  · intro x w hb hk Q' hQ
    have h7 : x.v 7 = .pointer (some ⟨w0.heap.size, 2, none⟩) := (hk 7 (by decide)).1
    clear hk
    simp only [netAct, dstAt, List.getElem?_toArray, List.getElem?_cons_zero, List.getElem?_cons_succ, Option.bind_some, Act.put, List.setIfInBounds_toArray, List.set_cons_zero, List.set_cons_succ] at hQ ⊢
    simp only [h7] at hQ ⊢
    clear h7
    have c2 := (k1.call hb).cell' (i := 2) rfl
    go_wp2
    exact hQ (.slice C q.t.length d) _ (Below.refl _ _) rfl
  · intro x w hb hk Q' hQ
    have h2 : Fresh w W.heap.size (x.v 2) := (hk 2 (by decide)).1
    have h3 : x.v 3 = .pointer (some ⟨w0.heap.size, 1, none⟩) := (hk 3 (by decide)).1
    have h4 : x.v 4 = .slice A q.f.length c := (hk 4 (by decide)).1
    have h5 : OwnI w W.heap.size (x.v 5) q.f := (hk 5 (by decide)).1
    have h6 : Fresh w W.heap.size (x.v 6) := (hk 6 (by decide)).1
    have h7 : x.v 7 = .pointer (some ⟨w0.heap.size, 2, none⟩) := (hk 7 (by decide)).1
    have h8 : x.v 8 = .slice C q.t.length d := (hk 8 (by decide)).1
    have s2 := (hk 2 (by decide)).2
    have s5 := (hk 5 (by decide)).2
    have s6 := (hk 6 (by decide)).2
    clear hk
    simp only [netAct, dstAt, List.getElem?_toArray, List.getElem?_cons_zero, List.getElem?_cons_succ, Option.bind_some, Act.put, List.setIfInBounds_toArray, List.set_cons_zero, List.set_cons_succ] at hQ ⊢
    simp only [h3, h4, h7, h8] at hQ ⊢
    clear h3 h4 h7 h8
    obtain ⟨g, e6, hg, hB⟩ := h6
    rw [e6] at hQ ⊢
    refine wpList_append_fresh (by rfl) (.tmp 9) (.tmp 11) (by rfl) g W.heap.size w.heap.size #[] (by rfl) hB rfl hg C d q.t (by rfl) (SlI.next hb ht) ?_
    intro v' w' ho hb'
    exact hQ _ _ hb' ho
  · intro x w hb hk Q' hQ
    have h0 : x.v 0 = .pointer (some ⟨w0.heap.size, 0, none⟩) := (hk 0 (by decide)).1
    have h1 : x.v 1 = .int .i64 q.v := (hk 1 (by decide)).1
    have h2 : Fresh w W.heap.size (x.v 2) := (hk 2 (by decide)).1
    have h3 : x.v 3 = .pointer (some ⟨w0.heap.size, 1, none⟩) := (hk 3 (by decide)).1
    have h4 : x.v 4 = .slice A q.f.length c := (hk 4 (by decide)).1
    have h5 : OwnI w W.heap.size (x.v 5) q.f := (hk 5 (by decide)).1
    have h6 : Fresh w W.heap.size (x.v 6) := (hk 6 (by decide)).1
    have h7 : x.v 7 = .pointer (some ⟨w0.heap.size, 2, none⟩) := (hk 7 (by decide)).1
    have h8 : x.v 8 = .slice C q.t.length d := (hk 8 (by decide)).1
    have h9 : OwnI w W.heap.size (x.v 9) q.t := (hk 9 (by decide)).1
    have s2 := (hk 2 (by decide)).2
    have s5 := (hk 5 (by decide)).2
    have s6 := (hk 6 (by decide)).2
    have s9 := (hk 9 (by decide)).2
    clear hk
    simp only [netAct, dstAt, List.getElem?_toArray, List.getElem?_cons_zero, List.getElem?_cons_succ, Option.bind_some, Act.put, List.setIfInBounds_toArray, List.set_cons_zero, List.set_cons_succ] at hQ ⊢
    simp only [h0, h1, h3, h4, h7, h8] at hQ ⊢
    clear h0 h1 h3 h4 h7 h8
    obtain ⟨s4A, s4c, e4, _, _⟩ := h5.form
    obtain ⟨s7A, s7c, e7, _, _⟩ := h9.form
    have hQ' := hQ (.agg #[.int .i64 q.v, x.v 5, x.v 9]) w (Below.refl _ _) rfl
    rw [e4, e7] at hQ' ⊢
    go_wp2
    exact hQ'
  · intro x w hb hk hiv hdj
    have h0 : x.v 0 = .pointer (some ⟨w0.heap.size, 0, none⟩) := hk 0 (by decide)
    have h1 : x.v 1 = .int .i64 q.v := hk 1 (by decide)
    have h2 : Fresh w W.heap.size (x.v 2) := hk 2 (by decide)
    have h3 : x.v 3 = .pointer (some ⟨w0.heap.size, 1, none⟩) := hk 3 (by decide)
    have h4 : x.v 4 = .slice A q.f.length c := hk 4 (by decide)
    have h5 : OwnI w W.heap.size (x.v 5) q.f := hk 5 (by decide)
    have h6 : Fresh w W.heap.size (x.v 6) := hk 6 (by decide)
    have h7 : x.v 7 = .pointer (some ⟨w0.heap.size, 2, none⟩) := hk 7 (by decide)
    have h8 : x.v 8 = .slice C q.t.length d := hk 8 (by decide)
    have h9 : OwnI w W.heap.size (x.v 9) q.t := hk 9 (by decide)
    have h10 : x.v 10 = .agg #[.int .i64 q.v, x.v 5, x.v 9] := hk 10 (by decide)
    clear hk
    simp only [netAct, dstAt, List.getElem?_toArray, List.getElem?_cons_zero, List.getElem?_cons_succ, Option.bind_some, Act.put, List.setIfInBounds_toArray, List.set_cons_zero, List.set_cons_succ]
    simp only [List.drop_succ_cons, List.drop_zero, h0, h1, h3, h4, h7, h8]
    clear h0 h1 h3 h4 h7 h8
    have hQ : QuivI w W.heap.size w.heap.size (.agg #[.int .i64 q.v, x.v 5, x.v 9]) q := ⟨_, _, rfl, IntsO.of_own h5, IntsO.of_own h9, hr⟩
    obtain ⟨s4A, s4c, e4, _, _⟩ := h5.form
    obtain ⟨s7A, s7c, e7, _, _⟩ := h9.form
    rw [e4, e7] at hQ h10
    rw [h10]
    have k2' := k2.call hb
    have f2 := k2'.frozen
    have r0 := k2'.cell' (i := 0) rfl
    have r1 := k2'.cell' (i := 1) rfl
    have r2 := k2'.cell' (i := 2) rfl
    have gf := g0.trans (hb.mono g0.size)
    have HBS := Lib.hid hb.size
    have HQ := Lib.hid hQ
    clear h2 h5 h6 h9 h10 e4 e7 k1 k2 hb hf ht hQ hdj hiv
    go_wp2
    have sz := SZ.out
    have hbs := HBS.out
    refine bodyPost_ret (v := .agg #[.int .i64 q.v, .slice s4A q.f.length s4c, .slice s7A q.t.length s7c]) (by simp [results, go_sem, r0, r1, r2]) rfl ⟨_, rfl, QuivI.wider (lo := W.heap.size) (hi := w.heap.size) ?_ (by omega) (by simp), ((gf.setCell (by simp) _).setCell (by simp) _).setCell (by simp) _⟩
    exact ((HQ.out.set (by simp; omega) _).set (by simp; omega) _).set (by simp; omega) _
end Go.Proofs.Ytjhllgldllbaaaa

/- Matrices of zeros; append of a matrix onto a row of the call's own. -/
namespace Go.Proofs.Ytjhllgldllbaaaa
set_option linter.unusedVariables false
set_option linter.unusedSimpArgs false
open Go.RowKit

def zmx (r c : Int) : Mx := ⟨r, c, List.replicate (r * c).toNat 0⟩

set_option maxHeartbeats 800000 in
theorem zero_any (r c : Int) (w : World) (hr : 0 ≤ r) (hc : 0 ≤ c) (hr2 : r ≤ 1000) (hc2 : c ≤ 1000) :
    Calls Try.prog 125 #[.int .i64 r, .int .i64 c] w fun e w' => ∃ v, e = .returned v ∧ MxO w' w.heap.size w'.heap.size v (zmx r c) ∧ Below w.heap.size w w' := by
  obtain ⟨n, rfl⟩ := Int.eq_ofNat_of_zero_le hr
  obtain ⟨m, rfl⟩ := Int.eq_ofNat_of_zero_le hc
  obtain ⟨N, hN⟩ : ∃ N, n * m = N := ⟨_, rfl⟩
  have hNb : N ≤ 1000000 := by
    have : n * m ≤ 1000 * 1000 := Nat.mul_le_mul (by omega) (by omega)
    omega
  have hmul : (n : Int) * m = (N : Int) := by rw [← hN]; simp
  have hw : wrap64 ((n : Int) * m) = (N : Int) := by rw [hmul]; exact IntWalk.wrap64_in _ ⟨by omega, by omega⟩
  have hZ : zmx n m = ⟨n, m, List.replicate N 0⟩ := by rw [zmx, hmul]; rfl
  rw [hZ]
  obtain ⟨i0, hi, hz0, hz1, hz2⟩ := info_parts infoInt
  have hmk := run_mk (P := Try.prog) Try.underlying22 hi hz0 (n := N) (by rw [hz2]; omega) (by omega)
  rw [hz1] at hmk
  have hN1 : (0 : Int) ≤ (n : Int) * m := by omega
  have hN2 : (n : Int) * m ≤ 1000000 := by omega
  clear hi hz0 hz1 hz2 hN hZ
  obtain ⟨W, hW⟩ : ∃ W, W = (w.alloc (.cells #[.int .i64 n, .int .i64 m, .slice (some ⟨w.heap.size + 1, 0, none⟩) N N] 75)).alloc (.cells (mkCells (.int .i64 0) N) 3) := ⟨_, rfl⟩
  have g0 : Below w.heap.size w W := by rw [hW]; exact ((Below.refl _ _).alloc (Nat.le_refl _) _).alloc (by simp) _
  have k1 : Blk W w.heap.size 75 #[.int .i64 n, .int .i64 m, .slice (some ⟨w.heap.size + 1, 0, none⟩) N N] := by rw [hW]; exact (Blk.new _ _ _).alloc _
  have ho : OwnI W (w.heap.size + 1) (.slice (some ⟨w.heap.size + 1, 0, none⟩) N N) (List.replicate N 0) := by
    rw [hW]
    have := OwnI.made0 (w := w.alloc (.cells #[.int .i64 n, .int .i64 m, .slice (some ⟨w.heap.size + 1, 0, none⟩) N N] 75)) (base := w.heap.size + 1) (N := N) (by simp) (by omega)
    simpa only [World.size_alloc] using this
  have r0 := k1.cell' (i := 0) rfl
  have r1 := k1.cell' (i := 1) rfl
  have r2 := k1.cell' (i := 2) rfl
  have HO := Lib.hid ho
  clear ho k1
  rw [Nat.mul_one] at hmk
  go_enter Try.func125, Try.ntmps125
  go_wp2
  rw [← hW]
  exact bodyPost_ret (v := .agg #[.int .i64 n, .int .i64 m, .slice (some ⟨w.heap.size + 1, 0, none⟩) N N]) (by simp [results, go_sem, r0, r1, r2]) rfl ⟨_, rfl, ⟨_, by simp, (IntsO.of_own HO.out).wider (by omega) (Nat.le_refl _), by simp only [I64]; omega, by simp only [I64]; omega⟩, g0⟩
set_option maxHeartbeats 800000 in
theorem l3Zero_any (r c : Int) (w : World) (hr : 0 ≤ r) (hc : 0 ≤ c) (hr2 : r ≤ 1000) (hc2 : c ≤ 1000) :
    Calls Try.prog 121 #[.int .i64 r, .int .i64 c] w fun e w' => ∃ v, e = .returned v ∧ MxO w' w.heap.size w'.heap.size v (zmx r c) ∧ Below w.heap.size w w' := by
  obtain ⟨n, rfl⟩ := Int.eq_ofNat_of_zero_le hr
  obtain ⟨m, rfl⟩ := Int.eq_ofNat_of_zero_le hc
  obtain ⟨N, hN⟩ : ∃ N, n * m = N := ⟨_, rfl⟩
  have hNb : N ≤ 1000000 := by
    have : n * m ≤ 1000 * 1000 := Nat.mul_le_mul (by omega) (by omega)
    omega
  have hmul : (n : Int) * m = (N : Int) := by rw [← hN]; simp
  have hw : wrap64 ((n : Int) * m) = (N : Int) := by rw [hmul]; exact IntWalk.wrap64_in _ ⟨by omega, by omega⟩
  have hZ : zmx n m = ⟨n, m, List.replicate N 0⟩ := by rw [zmx, hmul]; rfl
  rw [hZ]
  obtain ⟨i0, hi, hz0, hz1, hz2⟩ := info_parts infoInt
  have hmk := run_mk (P := Try.prog) Try.underlying22 hi hz0 (n := N) (by rw [hz2]; omega) (by omega)
  rw [hz1] at hmk
  have hN1 : (0 : Int) ≤ (n : Int) * m := by omega
  have hN2 : (n : Int) * m ≤ 1000000 := by omega
  clear hi hz0 hz1 hz2 hN hZ
  obtain ⟨W, hW⟩ : ∃ W, W = (w.alloc (.cells #[.int .i64 n, .int .i64 m, .slice (some ⟨w.heap.size + 1, 0, none⟩) N N] 75)).alloc (.cells (mkCells (.int .i64 0) N) 3) := ⟨_, rfl⟩
  have g0 : Below w.heap.size w W := by rw [hW]; exact ((Below.refl _ _).alloc (Nat.le_refl _) _).alloc (by simp) _
  have k1 : Blk W w.heap.size 75 #[.int .i64 n, .int .i64 m, .slice (some ⟨w.heap.size + 1, 0, none⟩) N N] := by rw [hW]; exact (Blk.new _ _ _).alloc _
  have ho : OwnI W (w.heap.size + 1) (.slice (some ⟨w.heap.size + 1, 0, none⟩) N N) (List.replicate N 0) := by
    rw [hW]
    have := OwnI.made0 (w := w.alloc (.cells #[.int .i64 n, .int .i64 m, .slice (some ⟨w.heap.size + 1, 0, none⟩) N N] 75)) (base := w.heap.size + 1) (N := N) (by simp) (by omega)
    simpa only [World.size_alloc] using this
  have r0 := k1.cell' (i := 0) rfl
  have r1 := k1.cell' (i := 1) rfl
  have r2 := k1.cell' (i := 2) rfl
  have HO := Lib.hid ho
  clear ho k1
  rw [Nat.mul_one] at hmk
  go_enter Try.func121, Try.ntmps121
  go_wp2
  rw [← hW]
  exact bodyPost_ret (v := .agg #[.int .i64 n, .int .i64 m, .slice (some ⟨w.heap.size + 1, 0, none⟩) N N]) (by simp [results, go_sem, r0, r1, r2]) rfl ⟨_, rfl, ⟨_, by simp, (IntsO.of_own HO.out).wider (by omega) (Nat.le_refl _), by simp only [I64]; omega, by simp only [I64]; omega⟩, g0⟩

/-! ### an append onto a row of elements T: what it leaves alone -/
structure AppT (T : TypeId) (lo : Nat) (w w' : World) : Prop where
  os : w'.os = w.os
  tape : w'.tape = w.tape
  output : w'.output = w.output
  size : w.heap.size ≤ w'.heap.size
  low : ∀ k, k < lo → k < w.heap.size → w'.heap[k]? = w.heap[k]?
  other : ∀ g t cs, t ≠ T → Blk w g t cs → Blk w' g t cs
theorem AppT.of_below {T : TypeId} {lo : Nat} {w w' : World} (h : Below w.heap.size w w') : AppT T lo w w' := ⟨h.os, h.tape, h.output, h.size, fun k _ hk => h.block k hk, fun _ _ _ _ hb => hb.call h⟩
theorem AppT.trans {T : TypeId} {lo : Nat} {a b c : World} (h : AppT T lo a b) (k : AppT T lo b c) : AppT T lo a c :=
  ⟨k.os.trans h.os, k.tape.trans h.tape, k.output.trans h.output, Nat.le_trans h.size k.size, fun i hi hs => (k.low i hi (Nat.lt_of_lt_of_le hs h.size)).trans (h.low i hi hs), fun g t cs ht hb => k.other g t cs ht (h.other g t cs ht hb)⟩
theorem AppT.below {T : TypeId} {lo B : Nat} {w w' : World} (h : AppT T lo w w') (hB : B ≤ lo) (hs : B ≤ w.heap.size) : Below B w w' := ⟨h.os, h.tape, h.output, h.size, fun k hk => h.low k (by omega) (by omega)⟩
theorem OwnI.appT {T : TypeId} {lo base : Nat} {w w' : World} {v : Value} {l : List Int} (h : OwnI w base v l) (hT : 3 ≠ T) (ha : AppT T lo w w') : OwnI w' base v l := by
  refine ⟨⟨h.1.1, ?_⟩, h.2⟩
  rcases h.1.2 with h1 | ⟨g, cap, cur, e, hg, hh, rest⟩
  · exact .inl h1
  · exact .inr ⟨g, cap, cur, e, hg, ha.other g _ cur hT hh, rest⟩
theorem IntsO.appT {T : TypeId} {lo l1 h1 : Nat} {w w' : World} {v : Value} {l : List Int} (h : IntsO w l1 h1 v l) (hT : 3 ≠ T) (ha : AppT T lo w w') : IntsO w' l1 h1 v l := ⟨h.1.appT hT ha, h.2⟩
theorem Fam.appT {T : TypeId} {lo l1 h1 : Nat} {w w' : World} {L : List (Value × List Int)} (h : Fam w l1 h1 L) (hT : 3 ≠ T) (ha : AppT T lo w w') : Fam w' l1 h1 L := ⟨fun p hp => (h.1 p hp).appT hT ha, h.2⟩
theorem AppT.set {T T' : TypeId} {lo g i : Nat} {w : World} {cs : Array Value} {u : Value} (hb : Blk w g T' cs) (hT : T' = T) (hg : lo ≤ g) : AppT T lo w (w.setCell ⟨g, i, none⟩ u) := by
  subst hT
  refine ⟨rfl, rfl, rfl, by simp [World.setCell], fun k hk _ => Below.heap_setCell _ _ _ _ (by simp; omega), fun g' t cs' ht hb' => ?_⟩
  refine hb'.far ?_ u
  rintro rfl
  unfold Blk at hb hb'
  rw [hb] at hb'
  injection hb' with hb'
  injection hb' with _ hb'
  exact ht hb'.symm

/-- append of one matrix, out of the row of one element that Go lays first -/
theorem wpList_appM {w : World} {ops : Array Oper} {rest : List Oper} {o : Oper} {a : Act} {Q : Exit → Act → World → Prop} (hgd : o.guard = none) (s x : Operand)
    (ho : o.op = .call { callee := .builtin .append, args := #[s, x], argTypes := #[27, 27] })
    (lo hi : Nat) (v : Value) (vs : List Value) (ms : List Mx) (hs : a.eval s = v) (hown : OutM w lo hi v vs ms) (hl : vs.length = ms.length) (g c : Nat) (m : Mx) (u : Value) (hx : a.eval x = .slice (some ⟨g, 0, none⟩) 1 c) (hg : Blk w g 75 #[.int .i64 m.r, .int .i64 m.c, u]) (hu : u.oneCell' = true)
    (hn : ms.length ≤ 1000000) (hlo : lo ≤ w.heap.size)
    (h : ∀ v' w', OutM w' lo w'.heap.size v' (vs ++ [u]) (ms ++ [m]) → AppT 75 lo w w' → wpList Try.prog ops Q rest (a.put o.dst v') w') : wpList Try.prog ops Q (o :: rest) a w := by
  obtain ⟨i0, hi', hz0, hz1, hz2⟩ := info_parts infoMx
  have hcs := mxCs_snoc vs ms u m hl
  refine wpList_append_G w hgd s x _ ho lo 75 i0 _ 3 40 Try.underlying27 hi' hz0 hz1 hz2 rfl (by decide) v ms.length _ hs hown.1 _ 1 c [.int .i64 m.r, .int .i64 m.c, u] hx ⟨rfl, .inr ⟨g, 0, rfl, fun j y hj => ?_⟩⟩ ?_ (by simp only [maxLen]; omega) (by omega) hlo fun v' w' h1 h2 h3 => ?_
  · have hj3 := lt_of_some hj
    simp only [List.length_cons, List.length_nil] at hj3
    rw [Nat.zero_add]
    match j, hj with
    | 0, hj => rw [hg.cell]; exact hj
    | 1, hj => rw [hg.cell]; exact hj
    | 2, hj => rw [hg.cell]; exact hj
    | j + 3, hj => omega
  · intro y hy
    simp only [List.mem_cons, List.not_mem_nil, or_false] at hy
    rcases hy with rfl | rfl | rfl
    · rfl
    · rfl
    · exact hu
  · refine h v' w' ⟨?_, fun k hk => ?_, by simp; omega⟩ ⟨h2.os, h2.tape, h2.output, h2.size, fun k hk hks => h2.block k hks (fun e => ?_), fun g' t cs ht hb => hb.grown h2 (fun e => ?_)⟩
    · rw [hcs, List.length_append]
      exact h1
    · exact (h1.lt k hk).2
    · have := (hown.1.lt k e.symm).1
      omega
    · rcases hown.1.2 with ⟨rfl, _⟩ | ⟨g2, cap, cur, rfl, _, hh, _⟩
      · simp [Value.ownBlock] at e
      · have : g' = g2 := by simpa [Value.ownBlock] using e
        subst this
        unfold Blk at hb
        rw [hh] at hb
        injection hb with hb
        injection hb with _ hb
        exact ht hb.symm
end Go.Proofs.Ytjhllgldllbaaaa

/- Matrices told by a function of the two places: cells in one row. -/
namespace Go.Proofs.Ytjhllgldllbaaaa
set_option linter.unusedVariables false
set_option linter.unusedSimpArgs false
open Go.RowKit

theorem ix_div {i k c : Nat} (hk : k < c) : (i * c + k) / c = i := by
  rw [Nat.mul_comm, Nat.mul_add_div (by omega), Nat.div_eq_of_lt hk, Nat.add_zero]
theorem ix_mod {i k c : Nat} (hk : k < c) : (i * c + k) % c = k := by
  rw [Nat.mul_comm, Nat.mul_add_mod, Nat.mod_eq_of_lt hk]
theorem ix_lt {i k r c : Nat} (hi : i < r) (hk : k < c) : i * c + k < r * c := by
  have : (i + 1) * c ≤ r * c := Nat.mul_le_mul_right _ hi
  rw [Nat.add_mul] at this
  omega
theorem ix_of {j r c : Nat} (hj : j < r * c) : ∃ i k, i < r ∧ k < c ∧ j = i * c + k := by
  have hc : 0 < c := Nat.pos_of_ne_zero (by rintro rfl; simp at hj)
  refine ⟨j / c, j % c, (Nat.div_lt_iff_lt_mul hc).2 hj, Nat.mod_lt _ hc, ?_⟩
  rw [Nat.mul_comm]; exact (Nat.div_add_mod j c).symm
theorem ix_inj {i k i' k' c : Nat} (hk : k < c) (hk' : k' < c) (h : i * c + k = i' * c + k') : i = i' ∧ k = k' := by
  have h1 := ix_div (i := i) hk
  have h2 := ix_mod (i := i) hk
  rw [h, ix_div hk'] at h1
  rw [h, ix_mod hk'] at h2
  exact ⟨h1.symm, h2.symm⟩

def flat (r c : Nat) (f : Nat → Nat → Int) : List Int := (List.range (r * c)).map fun j => f (j / c) (j % c)
theorem flat_length (r c : Nat) (f : Nat → Nat → Int) : (flat r c f).length = r * c := by simp [flat]
theorem flat_get {r c i k : Nat} (f : Nat → Nat → Int) (hi : i < r) (hk : k < c) : (flat r c f)[i * c + k]? = some (f i k) := by
  simp [flat, ix_lt hi hk, ix_div hk, ix_mod hk]
theorem flat_getD {r c i k : Nat} (f : Nat → Nat → Int) (hi : i < r) (hk : k < c) : (flat r c f).getD (i * c + k) 0 = f i k := by
  rw [List.getD_eq_getElem?_getD, flat_get f hi hk]; rfl
theorem flat_ext {r c : Nat} {l : List Int} {f : Nat → Nat → Int} (hl : l.length = r * c) (h : ∀ i k, i < r → k < c → l[i * c + k]? = some (f i k)) : l = flat r c f := by
  apply List.ext_getElem?
  intro j
  by_cases hj : j < r * c
  · obtain ⟨i, k, hi, hk, rfl⟩ := ix_of hj
    rw [h i k hi hk, flat_get f hi hk]
  · rw [List.getElem?_eq_none (by omega), List.getElem?_eq_none (by rw [flat_length]; omega)]
theorem flat_congr {r c : Nat} {f g : Nat → Nat → Int} (h : ∀ a b, a < r → b < c → f a b = g a b) : flat r c f = flat r c g :=
  flat_ext (flat_length _ _ _) fun i k hi hk => by rw [flat_get f hi hk, h i k hi hk]
theorem flat_inj {r c : Nat} {f g : Nat → Nat → Int} (h : flat r c f = flat r c g) {a b : Nat} (ha : a < r) (hb : b < c) : f a b = g a b := by
  have := flat_get f ha hb
  rw [h, flat_get g ha hb] at this
  injection this with this
  exact this.symm
theorem flat_set {r c i k : Nat} (f : Nat → Nat → Int) (x : Int) (hi : i < r) (hk : k < c) : (flat r c f).set (i * c + k) x = flat r c fun a b => if a = i ∧ b = k then x else f a b := by
  refine flat_ext (by simp [flat_length]) fun a b ha hb => ?_
  rw [List.getElem?_set]
  by_cases e : i * c + k = a * c + b
  · obtain ⟨rfl, rfl⟩ := ix_inj hk hb e
    rw [if_pos rfl, if_pos (by rw [flat_length]; exact ix_lt hi hk), if_pos ⟨rfl, rfl⟩]
  · rw [if_neg e, flat_get f ha hb, if_neg]
    rintro ⟨rfl, rfl⟩
    exact e rfl
theorem flat_zero (r c : Nat) : flat r c (fun _ _ => 0) = List.replicate (r * c) 0 := by
  refine (flat_ext (by simp) fun i k hi hk => ?_).symm
  have := ix_lt hi hk
  simp [this]
theorem flat_mem {r c : Nat} {f : Nat → Nat → Int} {x : Int} (h : x ∈ flat r c f) : ∃ i k, i < r ∧ k < c ∧ x = f i k := by
  simp only [flat, List.mem_map, List.mem_range] at h
  obtain ⟨j, hj, rfl⟩ := h
  obtain ⟨i, k, hi, hk, rfl⟩ := ix_of hj
  exact ⟨i, k, hi, hk, by rw [ix_div hk, ix_mod hk]⟩
/-- a list of so many numbers is told by its entries -/
def entry (l : List Int) (c i k : Nat) : Int := l.getD (i * c + k) 0
theorem flat_of {l : List Int} {r c : Nat} (hl : l.length = r * c) : l = flat r c (entry l c) :=
  flat_ext hl fun i k hi hk => by
    have := ix_lt hi hk
    rw [entry, List.getD_eq_getElem?_getD, List.getElem?_eq_getElem (by omega)]; rfl

def mxF (r c : Nat) (f : Nat → Nat → Int) : Mx := ⟨r, c, flat r c f⟩
theorem zmx_flat (r c : Nat) : zmx r c = mxF r c fun _ _ => 0 := by
  rw [mxF, flat_zero, zmx]
  congr
theorem mxF_congr {r c : Nat} {f g : Nat → Nat → Int} (h : ∀ a b, a < r → b < c → f a b = g a b) : mxF r c f = mxF r c g := by rw [mxF, mxF, flat_congr h]

/-- what a walk needs of an index -/
theorem ix_walk {i k r c : Nat} (hi : i < r) (hk : k < c) (hr : r ≤ 1000) (hc : c ≤ 1000) :
    ∃ P J : Nat, wrap64 ((i : Int) * (c : Int)) = (P : Int) ∧ P + k = J ∧ J = i * c + k ∧ J < r * c ∧ J ≤ 1000000 := by
  have h1 := ix_lt hi hk
  have h2 : r * c ≤ 1000 * 1000 := Nat.mul_le_mul hr hc
  refine ⟨i * c, i * c + k, ?_, rfl, rfl, h1, by omega⟩
  rw [show ((i : Int) * (c : Int)) = ((i * c : Nat) : Int) by simp]
  exact IntWalk.wrap64_in _ ⟨by omega, by omega⟩
end Go.Proofs.Ytjhllgldllbaaaa

/- Identity matrices: the program's and the reference's. -/
namespace Go.Proofs.Ytjhllgldllbaaaa
set_option linter.unusedVariables false
set_option linter.unusedSimpArgs false
open Go.RowKit

theorem IntsO.at_ {w : World} {lo hi : Nat} {v : Value} {l : List Int} (h : IntsO w lo hi v l) (h0 : 0 < l.length) : ∃ g c, v = .slice (some ⟨g, 0, none⟩) l.length c ∧ lo ≤ g ∧ g < hi ∧ g < w.heap.size := by
  rcases h.1.1.2 with ⟨rfl, h1⟩ | ⟨g, cap, cur, rfl, hg, hh, _⟩
  · omega
  · exact ⟨g, cap, rfl, hg, h.2 g rfl, (Array.getElem?_eq_some_iff.1 hh).1⟩
theorem IntsO.put {w : World} {lo hi g n cap j : Nat} {l : List Int} {x : Int} (h : IntsO w lo hi (.slice (some ⟨g, 0, none⟩) n cap) l) (hx : I64 x) : IntsO (w.setCell ⟨g, j, none⟩ (.int .i64 x)) lo hi (.slice (some ⟨g, 0, none⟩) n cap) (l.set j x) := ⟨(h.1.put hx).1, h.2⟩
def idF (a b : Nat) : Int := if a = b then 1 else 0
def idK (k a b : Nat) : Int := if a = b ∧ a < k then 1 else 0
theorem idK_0 (n : Nat) : flat n n (fun _ _ => 0) = flat n n (idK 0) := flat_congr fun a b _ _ => by simp [idK]
theorem idK_succ {n k : Nat} (h : k < n) : (flat n n (idK k)).set (k * n + k) 1 = flat n n (idK (k + 1)) := by
  rw [flat_set _ _ h h]
  refine flat_congr fun a b _ _ => ?_
  simp only [idK]
  by_cases e : a = b
  · subst e
    by_cases e2 : a = k
    · simp [e2]
    · simp only [e2, true_and, if_false, false_and]
      congr 1
      simp; omega
  · rw [if_neg (by omega), if_neg (by omega), if_neg (by omega)]
theorem idK_n (n : Nat) : flat n n (idK n) = flat n n idF := flat_congr fun a b ha _ => by simp [idK, idF, ha]

set_option maxHeartbeats 800000 in
theorem identity_any (n : Nat) (w : World) (hn : n ≤ 100) :
    Calls Try.prog 106 #[.int .i64 n] w fun e w' => ∃ v, e = .returned v ∧ MxO w' w.heap.size w'.heap.size v (mxF n n idF) ∧ Below w.heap.size w w' := by
  obtain ⟨W, hW⟩ : ∃ W, W = w.alloc (.cells #[.int .i64 0, .int .i64 0, .slice none 0 0] 75) := ⟨_, rfl⟩
  have g0 : Below w.heap.size w W := by rw [hW]; exact below_alloc _ _
  have k2 : Blk W w.heap.size 75 #[.int .i64 0, .int .i64 0, .slice none 0 0] := by rw [hW]; exact Blk.new _ _ _
  have sz : W.heap.size = w.heap.size + 1 := by rw [hW]; simp
  have K2 := Lib.hid k2
  have SZ := Lib.hid sz
  clear k2 sz
  go_enter Try.func106, Try.ntmps106
  go_wp2_with fail
  rw [← hW]; clear hW
  refine (zero_any (n : Int) n W (by omega) (by omega) (by omega) (by omega)).mono ?_; rintro e w1 ⟨v1, rfl, ⟨sA, rfl, oA, hr, hc⟩, hb1⟩
  rw [zmx_flat] at oA hr hc ⊢
  simp only [mxF] at oA hr hc ⊢
  rw [idK_0] at oA
  obtain ⟨A1, c1, e1⟩ := oA.form
  obtain ⟨N, hN⟩ : ∃ N, n * n = N := ⟨_, rfl⟩
  rw [flat_length, hN] at e1
  subst e1
  have HN := Lib.hid hN
  clear hN
  have s1 := hb1.size
  obtain ⟨W4, hW4⟩ : ∃ W4, W4 = w1.alloc (.cells #[.int .i64 n, .int .i64 n, .slice A1 N c1] 75) := ⟨_, rfl⟩
  have b4 : Below w1.heap.size w1 W4 := by rw [hW4]; exact below_alloc _ _
  have k4 : Blk W4 w1.heap.size 75 #[.int .i64 n, .int .i64 n, .slice A1 N c1] := by rw [hW4]; exact Blk.new _ _ _
  have oA := oA.below b4
  have gW := bthen hb1 b4
  clear b4 hb1
  go_wp2
  rw [← hW4]; clear hW4
  go_loopw [9] (fun i wr => ∃ k : Nat, k ≤ n ∧ i = .int .i64 k ∧ Blk wr w1.heap.size 75 #[.int .i64 n, .int .i64 n, .slice A1 N c1] ∧ IntsO wr W.heap.size w1.heap.size (.slice A1 N c1) (flat n n (idK k)) ∧ Below W.heap.size W wr) (fun i _ => n - (intOf i).toNat)
  case atStart => exact ⟨0, Nat.zero_le _, rfl, k4, oA, gW⟩
  case round =>
    clear k4 oA gW
    obtain ⟨k, hk, rfl, k4, oA, gW⟩ := hrel
    have s6 := gW.size
    by_cases hlt : k < n
    · obtain ⟨P, J, hP, hPJ, hJ, hJN, hJb⟩ := ix_walk hlt hlt (show n ≤ 1000 by omega) (by omega)
      rw [HN.out] at hJN
      have hst := idK_succ hlt
      rw [← hJ] at hst
      subst hPJ
      obtain ⟨gA, cA, eA, a1, a2, a3⟩ := oA.at_ (by rw [flat_length, HN.out]; omega)
      rw [flat_length, HN.out] at eA
      injection eA with eA1 eA2 eA3
      subst eA1 eA3
      have r2 := k4.cell' (i := 2) rfl
      have fA := oA.1.frozenG (P + k)
      have cA := (oA.1.cellG (j := P + k) (by rw [flat_length, HN.out]; omega)).1
      have hc1 : Chg W.heap.size w1.heap.size wr (wr.setCell ⟨gA, P + k, none⟩ (.int .i64 1)) := chg_set a1 a2
      have oA2 := oA.put (j := P + k) (x := 1) (by simp [I64])
      rw [hst] at oA2
      have OA2 := Lib.hid oA2
      have K4 := Lib.hid (k4.chg hc1 (by omega))
      have GW := Lib.hid (gW.trans (hc1.below (Nat.le_refl _) s6))
      clear oA2 k4 oA gW hc1 hst hJ
      go_wp2
      go_roundw
      case rel => exact ⟨k + 1, by omega, by go_num, K4.out, OA2.out, GW.out⟩
      case measure => simp [intOf]; omega
    · obtain rfl : k = n := by omega
      have k2 := K2.out.below gW (by have := SZ.out; omega)
      have z0 := k4.cell' (i := 0) rfl
      have z1 := k4.cell' (i := 1) rfl
      have z2 := k4.cell' (i := 2) rfl
      have p0 := k2.cell' (i := 0) rfl
      have p1 := k2.cell' (i := 1) rfl
      have p2 := k2.cell' (i := 2) rfl
      have f2 := k2.frozen
      have h2 := chg3 wr w.heap.size (.int .i64 (k : Int)) (.int .i64 k) (.slice A1 N c1)
      rw [idK_n] at oA
      have gw : Below w.heap.size w wr := g0.trans (gW.mono g0.size)
      have gs := gw.size
      have oA2 := (oA.chg h2 (.inr (by have := SZ.out; omega))).wider (lo' := w.heap.size) (hi' := wr.heap.size) (by have := SZ.out; omega) (by have := k4.lt; omega)
      have fg := gw.trans (h2.below (Nat.le_refl _) gs)
      have OA2 := Lib.hid oA2
      have FG := Lib.hid fg
      clear oA oA2 fg gw h2 k2 k4 gW
      go_wp2
      exact bodyPost_ret (v := .agg #[.int .i64 (k : Int), .int .i64 k, .slice A1 N c1]) (by simp [results, go_sem, p0, p1, p2]) rfl ⟨_, rfl, ⟨_, rfl, by simpa [mxF] using OA2.out, by simp only [mxF, I64]; omega, by simp only [mxF, I64]; omega⟩, FG.out⟩
set_option maxHeartbeats 800000 in
theorem l3Identity_any (n : Nat) (w : World) (hn : n ≤ 100) :
    Calls Try.prog 115 #[.int .i64 n] w fun e w' => ∃ v, e = .returned v ∧ MxO w' w.heap.size w'.heap.size v (mxF n n idF) ∧ Below w.heap.size w w' := by
  obtain ⟨W, hW⟩ : ∃ W, W = w.alloc (.cells #[.int .i64 0, .int .i64 0, .slice none 0 0] 75) := ⟨_, rfl⟩
  have g0 : Below w.heap.size w W := by rw [hW]; exact below_alloc _ _
  have k2 : Blk W w.heap.size 75 #[.int .i64 0, .int .i64 0, .slice none 0 0] := by rw [hW]; exact Blk.new _ _ _
  have sz : W.heap.size = w.heap.size + 1 := by rw [hW]; simp
  have K2 := Lib.hid k2
  have SZ := Lib.hid sz
  clear k2 sz
  go_enter Try.func115, Try.ntmps115
  go_wp2_with fail
  rw [← hW]; clear hW
  refine (l3Zero_any (n : Int) n W (by omega) (by omega) (by omega) (by omega)).mono ?_; rintro e w1 ⟨v1, rfl, ⟨sA, rfl, oA, hr, hc⟩, hb1⟩
  rw [zmx_flat] at oA hr hc ⊢
  simp only [mxF] at oA hr hc ⊢
  rw [idK_0] at oA
  obtain ⟨A1, c1, e1⟩ := oA.form
  obtain ⟨N, hN⟩ : ∃ N, n * n = N := ⟨_, rfl⟩
  rw [flat_length, hN] at e1
  subst e1
  have HN := Lib.hid hN
  clear hN
  have s1 := hb1.size
  obtain ⟨W4, hW4⟩ : ∃ W4, W4 = w1.alloc (.cells #[.int .i64 n, .int .i64 n, .slice A1 N c1] 75) := ⟨_, rfl⟩
  have b4 : Below w1.heap.size w1 W4 := by rw [hW4]; exact below_alloc _ _
  have k4 : Blk W4 w1.heap.size 75 #[.int .i64 n, .int .i64 n, .slice A1 N c1] := by rw [hW4]; exact Blk.new _ _ _
  have oA := oA.below b4
  have gW := bthen hb1 b4
  clear b4 hb1
  go_wp2
  rw [← hW4]; clear hW4
  go_loopw [4] (fun i wr => ∃ k : Nat, k ≤ n ∧ i = .int .i64 k ∧ Blk wr w1.heap.size 75 #[.int .i64 n, .int .i64 n, .slice A1 N c1] ∧ IntsO wr W.heap.size w1.heap.size (.slice A1 N c1) (flat n n (idK k)) ∧ Below W.heap.size W wr) (fun i _ => n - (intOf i).toNat)
  case atStart => exact ⟨0, Nat.zero_le _, rfl, k4, oA, gW⟩
  case round =>
    clear k4 oA gW
    obtain ⟨k, hk, rfl, k4, oA, gW⟩ := hrel
    have s6 := gW.size
    by_cases hlt : k < n
    · obtain ⟨P, J, hP, hPJ, hJ, hJN, hJb⟩ := ix_walk hlt hlt (show n ≤ 1000 by omega) (by omega)
      rw [HN.out] at hJN
      have hst := idK_succ hlt
      rw [← hJ] at hst
      subst hPJ
      obtain ⟨gA, cA, eA, a1, a2, a3⟩ := oA.at_ (by rw [flat_length, HN.out]; omega)
      rw [flat_length, HN.out] at eA
      injection eA with eA1 eA2 eA3
      subst eA1 eA3
      have r2 := k4.cell' (i := 2) rfl
      have fA := oA.1.frozenG (P + k)
      have cA := (oA.1.cellG (j := P + k) (by rw [flat_length, HN.out]; omega)).1
      have hc1 : Chg W.heap.size w1.heap.size wr (wr.setCell ⟨gA, P + k, none⟩ (.int .i64 1)) := chg_set a1 a2
      have oA2 := oA.put (j := P + k) (x := 1) (by simp [I64])
      rw [hst] at oA2
      have OA2 := Lib.hid oA2
      have K4 := Lib.hid (k4.chg hc1 (by omega))
      have GW := Lib.hid (gW.trans (hc1.below (Nat.le_refl _) s6))
      clear oA2 k4 oA gW hc1 hst hJ
      go_wp2
      go_roundw
      case rel => exact ⟨k + 1, by omega, by go_num, K4.out, OA2.out, GW.out⟩
      case measure => simp [intOf]; omega
    · obtain rfl : k = n := by omega
      have k2 := K2.out.below gW (by have := SZ.out; omega)
      have z0 := k4.cell' (i := 0) rfl
      have z1 := k4.cell' (i := 1) rfl
      have z2 := k4.cell' (i := 2) rfl
      have p0 := k2.cell' (i := 0) rfl
      have p1 := k2.cell' (i := 1) rfl
      have p2 := k2.cell' (i := 2) rfl
      have f2 := k2.frozen
      have h2 := chg3 wr w.heap.size (.int .i64 (k : Int)) (.int .i64 k) (.slice A1 N c1)
      rw [idK_n] at oA
      have gw : Below w.heap.size w wr := g0.trans (gW.mono g0.size)
      have gs := gw.size
      have oA2 := (oA.chg h2 (.inr (by have := SZ.out; omega))).wider (lo' := w.heap.size) (hi' := wr.heap.size) (by have := SZ.out; omega) (by have := k4.lt; omega)
      have fg := gw.trans (h2.below (Nat.le_refl _) gs)
      have OA2 := Lib.hid oA2
      have FG := Lib.hid fg
      clear oA oA2 fg gw h2 k2 k4 gW
      go_wp2
      exact bodyPost_ret (v := .agg #[.int .i64 (k : Int), .int .i64 k, .slice A1 N c1]) (by simp [results, go_sem, p0, p1, p2]) rfl ⟨_, rfl, ⟨_, rfl, by simpa [mxF] using OA2.out, by simp only [mxF, I64]; omega, by simp only [mxF, I64]; omega⟩, FG.out⟩
end Go.Proofs.Ytjhllgldllbaaaa

/- A row of a matrix of the program, in the matrix's own memory. -/
namespace Go.Proofs.Ytjhllgldllbaaaa
set_option linter.unusedVariables false
set_option linter.unusedSimpArgs false
open Go.RowKit

theorem ix_next {i r c P : Nat} (hi : i < r) (hr : r ≤ 1000) (hc : c ≤ 1000) (hP : wrap64 ((i : Int) * (c : Int)) = (P : Int)) :
    P = i * c ∧ wrap64 (((i : Int) + 1) * (c : Int)) = ((P + c : Nat) : Int) ∧ P + c ≤ r * c ∧ P + c ≤ 1000000 := by
  have h1 : (i + 1) * c ≤ r * c := Nat.mul_le_mul_right _ hi
  have h2 : r * c ≤ 1000 * 1000 := Nat.mul_le_mul hr hc
  have h3 : (i + 1) * c = i * c + c := by rw [Nat.add_mul, Nat.one_mul]
  have e1 : P = i * c := by
    rw [show ((i : Int) * (c : Int)) = ((i * c : Nat) : Int) by simp, IntWalk.wrap64_in _ ⟨by omega, by omega⟩] at hP
    omega
  refine ⟨e1, ?_, by omega, by omega⟩
  rw [show (((i : Int) + 1) * (c : Int)) = (((i + 1) * c : Nat) : Int) by simp, h3, ← e1]
  exact IntWalk.wrap64_in _ ⟨by omega, by omega⟩
set_option maxHeartbeats 800000 in
theorem row_at (r : Int) (c i P N cap g : Nat) (w : World) (h1 : wrap64 ((i : Int) * (c : Int)) = (P : Int)) (h2 : wrap64 (((i : Int) + 1) * (c : Int)) = ((P + c : Nat) : Int))
    (hN : P + c ≤ N) (hcap : N ≤ cap) (hb : cap ≤ 9223372036854775807) (h0 : 0 < c) (hi : i ≤ 1000) :
    Calls Try.prog 167 #[.agg #[.int .i64 r, .int .i64 c, .slice (some ⟨g, 0, none⟩) N cap], .int .i64 i] w fun e w' => e = .returned (.slice (some ⟨g, P, none⟩) c (cap - P)) ∧ Below w.heap.size w w' := by
  go_enter Try.func167, Try.ntmps167
  go_wp2
  exact bodyPost_ret (v := .slice (some ⟨g, P, none⟩) c (cap - P)) (by simp [results, go_sem]) rfl ⟨rfl, below_alloc _ _⟩
end Go.Proofs.Ytjhllgldllbaaaa

/- Rows of rows of the call's own: reading and writing one number; matrices told by a function. -/
namespace Go.Proofs.Ytjhllgldllbaaaa
set_option linter.unusedVariables false
set_option linter.unusedSimpArgs false
open Go.RowKit

/-- a matrix told by a function -/
def rowF (V : Nat) (g : Nat → Int) : List Int := (List.range V).map g
def matF (V : Nat) (g : Nat → Nat → Int) : List (List Int) := (List.range V).map fun a => rowF V (g a)
theorem rowF_length (V : Nat) (g : Nat → Int) : (rowF V g).length = V := by simp [rowF]
theorem matF_length (V : Nat) (g : Nat → Nat → Int) : (matF V g).length = V := by simp [matF]
theorem rowF_get {V j : Nat} (g : Nat → Int) (h : j < V) : (rowF V g)[j]? = some (g j) := by simp [rowF, h]
theorem matF_get {V j : Nat} (g : Nat → Nat → Int) (h : j < V) : (matF V g)[j]? = some (rowF V (g j)) := by simp [matF, h]
theorem rowF_getD {V j : Nat} (g : Nat → Int) (h : j < V) : (rowF V g).getD j 0 = g j := by rw [List.getD_eq_getElem?_getD, rowF_get g h]; rfl
theorem rowF_congr {V : Nat} {g h : Nat → Int} (e : ∀ a, a < V → g a = h a) : rowF V g = rowF V h := by
  apply List.ext_getElem?
  intro i
  by_cases hi : i < V
  · rw [rowF_get g hi, rowF_get h hi, e i hi]
  · rw [List.getElem?_eq_none (by rw [rowF_length]; omega), List.getElem?_eq_none (by rw [rowF_length]; omega)]
theorem matF_congr {V : Nat} {g h : Nat → Nat → Int} (e : ∀ a b, a < V → b < V → g a b = h a b) : matF V g = matF V h := by
  apply List.ext_getElem?
  intro i
  by_cases hi : i < V
  · rw [matF_get g hi, matF_get h hi, rowF_congr (fun b hb => e i b hi hb)]
  · rw [List.getElem?_eq_none (by rw [matF_length]; omega), List.getElem?_eq_none (by rw [matF_length]; omega)]
theorem rowF_set {V j : Nat} (g : Nat → Int) (x : Int) : (rowF V g).set j x = rowF V fun b => if b = j then x else g b := by
  apply List.ext_getElem?
  intro i
  rw [List.getElem?_set, rowF_length]
  by_cases hi : i < V
  · rw [rowF_get (fun b => if b = j then x else g b) hi]
    by_cases e : j = i
    · rw [if_pos e, if_pos (by omega), if_pos e.symm]
    · rw [if_neg e, rowF_get _ hi, if_neg (fun h => e h.symm)]
  · rw [List.getElem?_eq_none (l := rowF V fun b => if b = j then x else g b) (by rw [rowF_length]; omega)]
    split
    · rw [if_neg (by omega)]
    · rw [List.getElem?_eq_none (by rw [rowF_length]; omega)]
theorem matF_set {V j : Nat} (g : Nat → Nat → Int) (h : Nat → Int) : (matF V g).set j (rowF V h) = matF V fun a b => if a = j then h b else g a b := by
  apply List.ext_getElem?
  intro i
  rw [List.getElem?_set, matF_length]
  by_cases hi : i < V
  · rw [matF_get (fun a b => if a = j then h b else g a b) hi]
    by_cases e : j = i
    · subst e
      rw [if_pos rfl, if_pos hi]
      simp
    · rw [if_neg e, matF_get _ hi]
      congr 1
      apply rowF_congr
      intro b _
      rw [if_neg (fun h => e h.symm)]
  · rw [List.getElem?_eq_none (l := matF V fun a b => if a = j then h b else g a b) (by rw [matF_length]; omega)]
    split
    · rw [if_neg (by omega)]
    · rw [List.getElem?_eq_none (by rw [matF_length]; omega)]

/-- A row of a row of rows. -/
theorem OutO.cellS {w : World} {lo hi g n c j : Nat} {vs : List Value} {v : Value} (ho : OutO w lo hi (.slice (some ⟨g, 0, none⟩) n c) vs) (hv : vs[j]? = some v) : w.cell? ⟨g, j, none⟩ = some v := by
  have hj := lt_of_some hv
  have hn : n = vs.length := by
    rcases ho.1.2 with ⟨e, _⟩ | ⟨g', cap', cur, e, _⟩
    · cases e
    · injection e with _ e _
  subst hn
  have hc := ho.1.cellAt j (by omega)
  rw [hc, hv]
theorem OutO.frozenS {w : World} {lo hi g n c : Nat} {vs : List Value} (ho : OutO w lo hi (.slice (some ⟨g, 0, none⟩) n c) vs) (j : Nat) : w.frozen? ⟨g, j, none⟩ = false := by
  have hn : n = vs.length := by
    rcases ho.1.2 with ⟨e, _⟩ | ⟨g', cap', cur, e, _⟩
    · cases e
    · injection e with _ e _
  subst hn
  exact ho.1.frozenAt j
theorem Fam.rowAt {w : World} {lo hi j : Nat} {vs : List Value} {ll : List (List Int)} {l : List Int} (hF : Fam w lo hi (vs.zip ll)) (hvl : vs.length = ll.length) (hl : ll[j]? = some l) (hne : 0 < l.length) :
    ∃ g c, vs[j]? = some (.slice (some ⟨g, 0, none⟩) l.length c) ∧ OwnI w lo (.slice (some ⟨g, 0, none⟩) l.length c) l ∧ l.length ≤ c ∧ c ≤ 9223372036854775807 ∧ lo ≤ g ∧ g < hi := by
  have hj := lt_of_some hl
  have hv : vs[j]? = some (vs[j]'(by omega)) := List.getElem?_eq_getElem (by omega)
  have h := hF.1 (vs[j]'(by omega), l) (by rw [zip_split hv hl]; simp)
  rcases h.1.1.2 with ⟨e, h0⟩ | ⟨g, cap, cur, e, hg, _, hnc, hcm, _⟩
  · simp only at h0
    omega
  · simp only at e
    refine ⟨g, cap, by rw [hv, e], by rw [← e]; exact h.1, hnc, by simp only [maxLen] at hcm; omega, hg, h.2 g (by simp [e, Value.ownBlock])⟩
theorem zip_set {vs : List Value} {ll : List (List Int)} {j : Nat} {v : Value} {l l' : List Int} (hv : vs[j]? = some v) (hl : ll[j]? = some l) : vs.zip (ll.set j l') = (vs.take j).zip (ll.take j) ++ (v, l') :: (vs.drop (j + 1)).zip (ll.drop (j + 1)) := by
  have hj := lt_of_some hl
  rw [zip_split hv (l := l') (by rw [List.getElem?_set, if_pos rfl, if_pos hj]), List.take_set_of_le (Nat.le_refl j), List.drop_set_of_lt (by omega)]
/-- One number turned. -/
theorem Fam.putAt {w : World} {lo hi j i g c : Nat} {vs : List Value} {ll : List (List Int)} {l : List Int} {x : Int} (hF : Fam w lo hi (vs.zip ll)) (hv : vs[j]? = some (.slice (some ⟨g, 0, none⟩) l.length c)) (hl : ll[j]? = some l)
    (ho : OwnI w lo (.slice (some ⟨g, 0, none⟩) l.length c) l) (hx : I64 x) : Fam (w.setCell ⟨g, i, none⟩ (.int .i64 x)) lo hi (vs.zip (ll.set j (l.set i x))) := by
  rw [zip_set hv hl]
  rw [zip_split hv hl] at hF
  have hp := ho.put (j := i) hx
  exact hF.turn hp.1 hp.2
end Go.Proofs.Ytjhllgldllbaaaa
