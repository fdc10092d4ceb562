/- What every law goes through: representations. -/
import Derived.Test.YtjhllgldllbaaaaKitM2
namespace Go.Proofs.Ytjhllgldllbaaaa
set_option linter.unusedVariables false
set_option linter.unusedSimpArgs false
open Go.RowKit

theorem chg_set {w : World} {lo hi : Nat} {p : Addr} {u : Value} (h1 : lo ≤ p.block) (h2 : p.block < hi) : Chg lo hi w (w.setCell p u) :=
  ⟨rfl, rfl, rfl, by simp [World.setCell], fun k hk hne => Below.heap_setCell _ _ _ _ (by intro e; omega)⟩
/-- two families, the later one in later memory -/
theorem Fam.join {w : World} {lo mi hi : Nat} {L1 L2 : List (Value × List Int)} (h : Fam w lo mi L1) (k : Fam w mi hi L2) (h1 : lo ≤ mi) (h2 : mi ≤ hi) : Fam w lo hi (L1 ++ L2) := by
  refine ⟨fun p hp => ?_, ?_⟩
  · rcases List.mem_append.1 hp with hp | hp
    · exact (h.1 p hp).wider (Nat.le_refl _) h2
    · exact (k.1 p hp).wider h1 (Nat.le_refl _)
  · rw [List.pairwise_append]
    refine ⟨h.2, k.2, fun a ha b hb => ?_⟩
    rcases hA : a.1.ownBlock with _ | x
    · exact .inl rfl
    · right
      intro e
      have := (h.1 a ha).2 x hA
      have := ((k.1 b hb).1.lt x e.symm).1
      omega
theorem Fam.one {w : World} {lo hi : Nat} {v : Value} {l : List Int} (h : IntsO w lo hi v l) : Fam w lo hi [(v, l)] := ⟨fun p hp => by rw [List.mem_singleton] at hp; subst hp; exact h, by simp⟩

/-- A representation as data. -/
structure Rp where
  p : Int
  q : Qv
  d : List Int
  m : List Mx
deriving DecidableEq
theorem rp_ext (x y : Rp) : (x = y) ↔ (x.p = y.p ∧ x.q = y.q ∧ x.d = y.d ∧ x.m = y.m) := by
  cases x; cases y; simp
def Rp.size (x : Rp) : Nat := x.q.size + x.d.length + szM x.m

def RpR (w : World) (B : Nat) (val : Value) (x : Rp) : Prop := ∃ f t d m, val = .agg #[.int .i64 x.p, .int .i64 x.q.v, f, t, d, m] ∧ SlI w B f x.q.f ∧ SlI w B t x.q.t ∧ SlI w B d x.d ∧ SlM w B m x.m ∧ I64 x.p ∧ I64 x.q.v
theorem RpR.below {w w' : World} {B : Nat} {v : Value} {x : Rp} (hb : Below B w w') (h : RpR w B v x) : RpR w' B v x := by
  obtain ⟨f, t, d, m, e, h1, h2, h3, h4, h5⟩ := h
  exact ⟨f, t, d, m, e, SlI.below hb h1, SlI.below hb h2, SlI.below hb h3, SlM.below hb h4, h5⟩
theorem RpR.more {w : World} {B B' : Nat} {v : Value} {x : Rp} (hB : B ≤ B') (h : RpR w B v x) : RpR w B' v x := by
  obtain ⟨f, t, d, m, e, h1, h2, h3, h4, h5⟩ := h
  exact ⟨f, t, d, m, e, SlI.more hB h1, SlI.more hB h2, SlI.more hB h3, SlM.more hB h4, h5⟩
theorem RpR.next {w w' : World} {v : Value} {x : Rp} (hb : Below w.heap.size w w') (h : RpR w w.heap.size v x) : RpR w' w'.heap.size v x := RpR.more hb.size (RpR.below hb h)
theorem RpR.chg {w w' : World} {B lo hi : Nat} {v : Value} {x : Rp} (h : RpR w B v x) (hc : Chg lo hi w w') (hB : B ≤ lo) (hs : B ≤ w.heap.size) : RpR w' B v x := RpR.below (hc.below hB hs) h
theorem RpR.open_ {w : World} {B : Nat} {v : Value} {x : Rp} (h : RpR w B v x) : ∃ A a C c E e H h, v = .agg #[.int .i64 x.p, .int .i64 x.q.v, .slice A x.q.f.length a, .slice C x.q.t.length c, .slice E x.d.length e, .slice H x.m.length h] ∧
    QvR w B (.agg #[.int .i64 x.q.v, .slice A x.q.f.length a, .slice C x.q.t.length c]) x.q ∧ SlI w B (.slice E x.d.length e) x.d ∧ SlM w B (.slice H x.m.length h) x.m ∧ I64 x.p ∧ x.d.length ≤ 17592186044416 ∧ x.m.length ≤ 17592186044416 := by
  obtain ⟨f, t, d, m, rfl, h1, h2, h3, h4, h5, h6⟩ := h
  obtain ⟨A, a, rfl, _, _, _, h1⟩ := h1.open_
  obtain ⟨C, c, rfl, _, _, _, h2⟩ := h2.open_
  obtain ⟨E, e, rfl, _, _, l1, h3⟩ := h3.open_
  obtain ⟨H, h, rfl, _, _, l2, h4⟩ := h4.open_
  exact ⟨A, a, C, c, E, e, H, h, rfl, ⟨_, _, rfl, h1, h2, h6⟩, h3, h4, h5, l1, l2⟩
theorem RpR.form {w : World} {B : Nat} {v : Value} {x : Rp} (h : RpR w B v x) : ∃ A a C c E e H h, v = .agg #[.int .i64 x.p, .int .i64 x.q.v, .slice A x.q.f.length a, .slice C x.q.t.length c, .slice E x.d.length e, .slice H x.m.length h] := by
  obtain ⟨A, a, C, c, E, e, H, h, e, _⟩ := h.open_
  exact ⟨A, a, C, c, E, _, H, h, e⟩
theorem RpR.lens {w : World} {B : Nat} {v : Value} {x : Rp} (h : RpR w B v x) : x.q.f.length ≤ 17592186044416 ∧ x.q.t.length ≤ 17592186044416 ∧ x.d.length ≤ 17592186044416 ∧ x.m.length ≤ 17592186044416 := by
  obtain ⟨A, a, C, c, E, e, H, h, _, hq, _, _, _, l1, l2⟩ := h.open_
  obtain ⟨l3, l4⟩ := hq.lens
  exact ⟨l3, l4, l1, l2⟩

def RepO (w : World) (lo hi : Nat) (val : Value) (x : Rp) : Prop := ∃ f t d m vs, val = .agg #[.int .i64 x.p, .int .i64 x.q.v, f, t, d, m] ∧ OutM w lo hi m vs x.m ∧ vs.length = x.m.length ∧
  Fam w lo hi ([(f, x.q.f), (t, x.q.t), (d, x.d)] ++ vs.zip (x.m.map Mx.a)) ∧ (I64 x.p ∧ I64 x.q.v) ∧ ∀ m ∈ x.m, I64 m.r ∧ I64 m.c
theorem RepO.rd {w : World} {lo hi : Nat} {v : Value} {x : Rp} (h : RepO w lo hi v x) : RpR w w.heap.size v x := by
  obtain ⟨f, t, d, m, vs, e, h1, h2, h3, h4, h5⟩ := h
  exact ⟨f, t, d, m, e, (h3.1 (f, _) (by simp)).rd, (h3.1 (t, _) (by simp)).rd, (h3.1 (d, _) (by simp)).rd, OutM.rd h1 h2 (fun p hp => (h3.1 p (by simp [hp])).rd) h5, h4⟩
theorem RepO.form {w : World} {lo hi : Nat} {v : Value} {x : Rp} (h : RepO w lo hi v x) : ∃ A a C c E e H h, v = .agg #[.int .i64 x.p, .int .i64 x.q.v, .slice A x.q.f.length a, .slice C x.q.t.length c, .slice E x.d.length e, .slice H x.m.length h] := h.rd.form
theorem RepO.chg {w w' : World} {lo hi lo' hi' : Nat} {v : Value} {x : Rp} (h : RepO w lo hi v x) (hc : Chg lo' hi' w w') (hd : hi ≤ lo' ∨ hi' ≤ lo) : RepO w' lo hi v x := by
  obtain ⟨f, t, d, m, vs, e, h1, h2, h3, h4⟩ := h
  exact ⟨f, t, d, m, vs, e, h1.chg hc hd, h2, h3.chg hc hd, h4⟩
theorem RepO.below {w w' : World} {lo hi : Nat} {v : Value} {x : Rp} (h : RepO w lo hi v x) (hb : Below w.heap.size w w') : RepO w' lo hi v x := by
  obtain ⟨f, t, d, m, vs, e, h1, h2, h3, h4⟩ := h
  exact ⟨f, t, d, m, vs, e, h1.below hb, h2, h3.below hb, h4⟩
theorem RepO.wider {w : World} {lo hi lo' hi' : Nat} {v : Value} {x : Rp} (h : RepO w lo hi v x) (k1 : lo' ≤ lo) (k2 : hi ≤ hi') : RepO w lo' hi' v x := by
  obtain ⟨f, t, d, m, vs, e, h1, h2, h3, h4⟩ := h
  exact ⟨f, t, d, m, vs, e, h1.mono k1 k2, h2, h3.mono k1 k2, h4⟩
def RepO.mk (k : Int) (x : Rp) : Rp := ⟨x.p, QuivO.mk k x.q, mkI (k + x.q.size) x.d.length, mkMS (k + x.q.size + x.d.length) x.m⟩
def Rp.marks (x : Rp) : Nat := x.q.size + x.d.length + totM x.m
/-- the representation of nothing -/
def rp0 : Rp := ⟨0, ⟨0, [], []⟩, [], []⟩
theorem RepO.zero (w : World) (lo hi : Nat) : RepO w lo hi (.agg #[.int .i64 0, .int .i64 0, .slice none 0 0, .slice none 0 0, .slice none 0 0, .slice none 0 0]) rp0 :=
  ⟨_, _, _, _, [], rfl, RowO.nil _ w lo hi, rfl, ⟨fun p hp => by
    simp only [rp0, List.zip_nil_left, List.append_nil, List.mem_cons, List.not_mem_nil, or_false] at hp
    rcases hp with rfl | rfl | rfl <;> exact ⟨OwnI.nil _ _, by simp [Value.ownBlock]⟩, by simp [Value.ownBlock]⟩, by simp [rp0, I64], fun m hm => by simp [rp0] at hm⟩

set_option maxHeartbeats 800000 in
theorem heldMatrixS_any (v : Value) (ms : List Mx) (k : Int) (w : World) (hv : SlM w w.heap.size v (mkMS k ms)) (h0 : 0 ≤ k) (h1 : k ≤ 1125899906842624) (ht : totM ms ≤ 17592186044416) :
    Calls Try.prog 70 #[v, .int .i64 k] w fun e w' => e = .returned (.int .i64 (k + totM ms)) ∧ Below w.heap.size w w' := by
  obtain ⟨A, c, rfl, _, _, hn, hx⟩ := hv.open_
  have HL := Lib.hid (mkMS_length ms k)
  obtain ⟨n, hnl⟩ : ∃ n, (mkMS k ms).length = n := ⟨_, rfl⟩
  have HNL := Lib.hid hnl
  rw [hnl] at hn ⊢
  clear hv hnl
  go_enter Try.func70, Try.ntmps70
  go_wp2
  go_loopw [1, 5] (fun q i wr => ∃ (j : Nat), j ≤ n ∧ i = .int .i64 j ∧ q = .int .i64 (k + totM (ms.take j)) ∧ Below w.heap.size w wr) (fun _ i _ => n - (intOf i).toNat)
  case atStart => exact ⟨0, Nat.zero_le _, rfl, by simp [totM], Below.refl _ _⟩
  case round =>
    obtain ⟨j, hj, rfl, rfl, hbel⟩ := hrel
    obtain ⟨t, htt⟩ : ∃ t, totM (ms.take j) = t := ⟨_, rfl⟩
    have htle := totM_take_le ms j
    rw [htt] at htle ⊢
    by_cases hlt : j < n
    · obtain ⟨b, o, x, A', c', rfl, hb, HX, x1, x2, x3, hsl, _, _, _⟩ := SlM.at_ hx (by rw [HNL.out]; exact hlt)
      have hmj : ms[j]? = some (ms[j]'(by have := HL.out; have := HNL.out; omega)) := List.getElem?_eq_getElem _
      obtain ⟨m, hm⟩ : ∃ m, ms[j]'(by have := HL.out; have := HNL.out; omega) = m := ⟨_, rfl⟩
      rw [hm] at hmj
      clear hm
      have hx' := mkMS_get ms k j m hmj
      rw [HX.out] at hx'
      injection hx' with hx'
      rw [htt] at hx'
      subst hx'
      have HTS := Lib.hid (show totM (ms.take (j + 1)) = t + (2 + m.a.length) by rw [take_snoc hmj, totM_snoc, htt])
      have htle2 := totM_take_le ms (j + 1)
      rw [HTS.out] at htle2
      have d1 := bcell hbel hb x1
      have d2 := bcell hbel hb x2
      have d3 := bcell hbel hb x3
      have hs := SlI.more hbel.size (SlI.below hbel hsl)
      simp only at d1 d2 d3 hs
      have e1 : (k + (t : Int) != k + t) = false := by simp
      have e2 : (k + (t : Int) + 1 != k + t + 1) = false := by simp
      have e3 : ¬ (k + (t : Int) + 1 + 1 + m.a.length < 0) := by omega
      have HM := Lib.hid hmj
      clear x1 x2 x3 hx hsl htt hmj
      go_wp2_with fail
      refine (heldIntS_any _ m.a.length (k + t + 1 + 1) _ _ hs (by omega) (by omega)).mono ?_; rintro e w1 ⟨rfl, hb1⟩
      go_wp2
      go_roundw
      case rel => exact ⟨j + 1, by omega, by go_num, by rw [HTS.out]; congr 1; omega, hbel.trans (hb1.mono hbel.size)⟩
      case measure => simp [intOf]; omega
    · have HE := Lib.hid (show totM ms = t by rw [← htt, List.take_of_length_le (by have := HL.out; have := HNL.out; omega)])
      clear htt
      go_wp2
      go_ret
      exact ⟨by rw [HE.out]; rfl, hbel⟩

set_option maxHeartbeats 800000 in
theorem eqRep_any (u v : Value) (x y : Rp) (w : World) (hu : RpR w w.heap.size u x) (hv : RpR w w.heap.size v y) :
    Calls Try.prog 19 #[u, v] w fun e w' => e = .returned (.bool (decide (x = y))) ∧ Below w.heap.size w w' := by
  obtain ⟨A, a, C, c, E, e, H, h, rfl, hq, hd, hm, _, _, _⟩ := hu.open_
  obtain ⟨A', a', C', c', E', e', H', h', rfl, hq', hd', hm', _, _, _⟩ := hv.open_
  clear hu hv
  obtain ⟨W, hW⟩ : ∃ W, W = (w.alloc (.cells #[.int .i64 x.p, .int .i64 x.q.v, .slice A x.q.f.length a, .slice C x.q.t.length c, .slice E x.d.length e, .slice H x.m.length h] 29)).alloc (.cells #[.int .i64 y.p, .int .i64 y.q.v, .slice A' y.q.f.length a', .slice C' y.q.t.length c', .slice E' y.d.length e', .slice H' y.m.length h'] 29) := ⟨_, rfl⟩
  have g0 : Below w.heap.size w W := by rw [hW]; exact ((Below.refl _ _).alloc (Nat.le_refl _) _).alloc (by simp) _
  have k1 : Blk W w.heap.size 29 #[.int .i64 x.p, .int .i64 x.q.v, .slice A x.q.f.length a, .slice C x.q.t.length c, .slice E x.d.length e, .slice H x.m.length h] := by rw [hW]; exact (Blk.new _ _ _).alloc _
  have k2 : Blk W (w.heap.size + 1) 29 #[.int .i64 y.p, .int .i64 y.q.v, .slice A' y.q.f.length a', .slice C' y.q.t.length c', .slice E' y.d.length e', .slice H' y.m.length h'] := by
    rw [hW]
    have := Blk.new (w.alloc (.cells #[.int .i64 x.p, .int .i64 x.q.v, .slice A x.q.f.length a, .slice C x.q.t.length c, .slice E x.d.length e, .slice H x.m.length h] 29)) 29 #[.int .i64 y.p, .int .i64 y.q.v, .slice A' y.q.f.length a', .slice C' y.q.t.length c', .slice E' y.d.length e', .slice H' y.m.length h']
    simpa only [World.size_alloc] using this
  replace hq := QvR.next g0 hq
  replace hq' := QvR.next g0 hq'
  replace hd := SlI.next g0 hd
  replace hd' := SlI.next g0 hd'
  replace hm := SlM.next g0 hm
  replace hm' := SlM.next g0 hm'
  by_cases h1 : x.p = y.p
  · have e1 : (x.p != y.p) = false := by rw [h1]; simp
    have H1 := Lib.hid h1
    clear h1
    by_cases h2 : x.q = y.q
    · have e2 : decide (x.q = y.q) = true := by simpa using h2
      have H2 := Lib.hid h2
      clear h2
      by_cases h3 : x.d = y.d
      · have e3 : decide (x.d = y.d) = true := by simpa using h3
        have H3 := Lib.hid h3
        clear h3
        obtain ⟨B, hB⟩ : ∃ B, decide (x.m = y.m) = B := ⟨_, rfl⟩
        have hfin : decide (x = y) = B := by
          rw [← hB, decide_eq_decide, rp_ext]
          exact ⟨fun h => h.2.2.2, fun h => ⟨H1.out, H2.out, H3.out, h⟩⟩
        rw [hfin]
        have HB := Lib.hid hB
        clear hfin hB
        go_enter Try.func19, Try.ntmps19
        go_wp2_with fail
        rw [← hW]; clear hW
        refine (eqQuiver_any _ _ _ _ _ hq hq').mono ?_; rintro e w1 ⟨rfl, hb1⟩
        clear hq hq'
        replace g0 := bthen g0 hb1
        replace hd := SlI.next hb1 hd
        replace hd' := SlI.next hb1 hd'
        replace hm := SlM.next hb1 hm
        replace hm' := SlM.next hb1 hm'
        replace k1 := k1.call hb1
        replace c0 := k1.cell' (i := 0) rfl
        replace c1 := k1.cell' (i := 1) rfl
        replace c2 := k1.cell' (i := 2) rfl
        replace c3 := k1.cell' (i := 3) rfl
        replace c4 := k1.cell' (i := 4) rfl
        replace c5 := k1.cell' (i := 5) rfl
        replace k2 := k2.call hb1
        replace d0 := k2.cell' (i := 0) rfl
        replace d1 := k2.cell' (i := 1) rfl
        replace d2 := k2.cell' (i := 2) rfl
        replace d3 := k2.cell' (i := 3) rfl
        replace d4 := k2.cell' (i := 4) rfl
        replace d5 := k2.cell' (i := 5) rfl
        clear hb1
        go_wp2_with fail
        refine (eqIntS_any _ _ _ _ _ hd hd').mono ?_; rintro e w_1 ⟨rfl, hb_1⟩
        replace g0 := bthen g0 hb_1
        replace hd := SlI.next hb_1 hd
        replace hd' := SlI.next hb_1 hd'
        replace hm := SlM.next hb_1 hm
        replace hm' := SlM.next hb_1 hm'
        replace k1 := k1.call hb_1
        replace c0 := k1.cell' (i := 0) rfl
        replace c1 := k1.cell' (i := 1) rfl
        replace c2 := k1.cell' (i := 2) rfl
        replace c3 := k1.cell' (i := 3) rfl
        replace c4 := k1.cell' (i := 4) rfl
        replace c5 := k1.cell' (i := 5) rfl
        replace k2 := k2.call hb_1
        replace d0 := k2.cell' (i := 0) rfl
        replace d1 := k2.cell' (i := 1) rfl
        replace d2 := k2.cell' (i := 2) rfl
        replace d3 := k2.cell' (i := 3) rfl
        replace d4 := k2.cell' (i := 4) rfl
        replace d5 := k2.cell' (i := 5) rfl
        go_wp2_with fail
        refine (eqMatrixS_any _ _ _ _ _ hm hm').mono ?_; rintro e w_2 ⟨rfl, hb_2⟩
        replace g0 := bthen g0 hb_2
        replace hd := SlI.next hb_2 hd
        replace hd' := SlI.next hb_2 hd'
        replace hm := SlM.next hb_2 hm
        replace hm' := SlM.next hb_2 hm'
        replace k1 := k1.call hb_2
        replace c0 := k1.cell' (i := 0) rfl
        replace c1 := k1.cell' (i := 1) rfl
        replace c2 := k1.cell' (i := 2) rfl
        replace c3 := k1.cell' (i := 3) rfl
        replace c4 := k1.cell' (i := 4) rfl
        replace c5 := k1.cell' (i := 5) rfl
        replace k2 := k2.call hb_2
        replace d0 := k2.cell' (i := 0) rfl
        replace d1 := k2.cell' (i := 1) rfl
        replace d2 := k2.cell' (i := 2) rfl
        replace d3 := k2.cell' (i := 3) rfl
        replace d4 := k2.cell' (i := 4) rfl
        replace d5 := k2.cell' (i := 5) rfl
        rw [HB.out]
        clear hd hd' hm hm' k1 k2
        go_wp2
        all_goals (go_ret; simp_all)
      · have e3 : decide (x.d = y.d) = false := by simpa using h3
        have hfin : decide (x = y) = false := by
          simp only [decide_eq_false_iff_not, rp_ext]
          exact fun h => h3 h.2.2.1
        rw [hfin]
        clear hfin h3
        go_enter Try.func19, Try.ntmps19
        go_wp2_with fail
        rw [← hW]; clear hW
        refine (eqQuiver_any _ _ _ _ _ hq hq').mono ?_; rintro e w1 ⟨rfl, hb1⟩
        clear hq hq'
        replace g0 := bthen g0 hb1
        replace hd := SlI.next hb1 hd
        replace hd' := SlI.next hb1 hd'
        replace k1 := k1.call hb1
        replace c0 := k1.cell' (i := 0) rfl
        replace c1 := k1.cell' (i := 1) rfl
        replace c2 := k1.cell' (i := 2) rfl
        replace c3 := k1.cell' (i := 3) rfl
        replace c4 := k1.cell' (i := 4) rfl
        replace c5 := k1.cell' (i := 5) rfl
        replace k2 := k2.call hb1
        replace d0 := k2.cell' (i := 0) rfl
        replace d1 := k2.cell' (i := 1) rfl
        replace d2 := k2.cell' (i := 2) rfl
        replace d3 := k2.cell' (i := 3) rfl
        replace d4 := k2.cell' (i := 4) rfl
        replace d5 := k2.cell' (i := 5) rfl
        clear hb1
        go_wp2_with fail
        refine (eqIntS_any _ _ _ _ _ hd hd').mono ?_; rintro e w_3 ⟨rfl, hb_3⟩
        replace g0 := bthen g0 hb_3
        replace hd := SlI.next hb_3 hd
        replace hd' := SlI.next hb_3 hd'
        replace k1 := k1.call hb_3
        replace c0 := k1.cell' (i := 0) rfl
        replace c1 := k1.cell' (i := 1) rfl
        replace c2 := k1.cell' (i := 2) rfl
        replace c3 := k1.cell' (i := 3) rfl
        replace c4 := k1.cell' (i := 4) rfl
        replace c5 := k1.cell' (i := 5) rfl
        replace k2 := k2.call hb_3
        replace d0 := k2.cell' (i := 0) rfl
        replace d1 := k2.cell' (i := 1) rfl
        replace d2 := k2.cell' (i := 2) rfl
        replace d3 := k2.cell' (i := 3) rfl
        replace d4 := k2.cell' (i := 4) rfl
        replace d5 := k2.cell' (i := 5) rfl
        go_wp2
        go_ret
        exact ⟨rfl, g0⟩
    · have e2 : decide (x.q = y.q) = false := by simpa using h2
      have hfin : decide (x = y) = false := by
        simp only [decide_eq_false_iff_not, rp_ext]
        exact fun h => h2 h.2.1
      rw [hfin]
      clear hfin h2
      go_enter Try.func19, Try.ntmps19
      go_wp2_with fail
      rw [← hW]; clear hW
      refine (eqQuiver_any _ _ _ _ _ hq hq').mono ?_; rintro e w1 ⟨rfl, hb1⟩
      go_wp2
      go_ret
      exact ⟨rfl, bthen g0 hb1⟩
  · have e1 : (x.p != y.p) = true := by simpa using h1
    have hfin : decide (x = y) = false := by
      simp only [decide_eq_false_iff_not, rp_ext]
      exact fun h => h1 h.1
    rw [hfin]
    clear hfin h1
    go_enter Try.func19, Try.ntmps19
    go_wp2
    rw [← hW]
    go_ret
    exact ⟨rfl, g0⟩

set_option maxHeartbeats 800000 in
theorem szRep_any (u : Value) (x : Rp) (left : Int) (w : World) (hu : RpR w w.heap.size u x) (h0 : 0 ≤ left) (h1 : left ≤ 1048576) :
    Calls Try.prog 41 #[u, .int .i64 left] w fun e w' => e = .returned (.int .i64 (szLeft left x.size)) ∧ Below w.heap.size w w' := by
  obtain ⟨A, a, C, c, E, e, H, h, rfl, hq, hd, hm, _, ld, _⟩ := hu.open_
  clear hu
  obtain ⟨W, hW⟩ : ∃ W, W = w.alloc (.cells #[.int .i64 x.p, .int .i64 x.q.v, .slice A x.q.f.length a, .slice C x.q.t.length c, .slice E x.d.length e, .slice H x.m.length h] 55) := ⟨_, rfl⟩
  have g0 : Below w.heap.size w W := by rw [hW]; exact below_alloc _ _
  have k1 : Blk W w.heap.size 55 #[.int .i64 x.p, .int .i64 x.q.v, .slice A x.q.f.length a, .slice C x.q.t.length c, .slice E x.d.length e, .slice H x.m.length h] := by rw [hW]; exact Blk.new _ _ _
  replace hq := QvR.next g0 hq
  replace hm := SlM.next g0 hm
  by_cases h2 : left < x.q.size
  · have s1 : szLeft left x.q.size = -1 := by rw [szLeft, if_pos h2]
    have e : szLeft left x.size = -1 := by rw [szLeft, if_pos (by simp only [Rp.size]; omega)]
    rw [e]
    clear e
    go_enter Try.func41, Try.ntmps41
    go_wp2_with fail
    rw [← hW]; clear hW
    refine (szQuiver_any _ _ _ _ hq h0 h1).mono ?_; rintro e w1 ⟨rfl, hb1⟩
    rw [s1]
    go_wp2
    go_ret
    exact ⟨rfl, bthen g0 hb1⟩
  · have s1 : szLeft left x.q.size = left - x.q.size := by rw [szLeft, if_neg h2]
    have n1 : ¬ left - (x.q.size : Int) < 0 := by omega
    by_cases h3 : left - x.q.size < x.d.length
    · have s2 : szLeft (left - x.q.size) x.d.length = -1 := by rw [szLeft, if_pos h3]
      have e : szLeft left x.size = -1 := by rw [szLeft, if_pos (by simp only [Rp.size]; omega)]
      rw [e]
      clear e
      go_enter Try.func41, Try.ntmps41
      go_wp2_with fail
      rw [← hW]; clear hW
      refine (szQuiver_any _ _ _ _ hq h0 h1).mono ?_; rintro e w1 ⟨rfl, hb1⟩
      rw [s1]
      clear hq hm
      replace g0 := bthen g0 hb1
      replace k1 := k1.call hb1
      replace c0 := k1.cell' (i := 0) rfl
      replace c1 := k1.cell' (i := 1) rfl
      replace c2 := k1.cell' (i := 2) rfl
      replace c3 := k1.cell' (i := 3) rfl
      replace c4 := k1.cell' (i := 4) rfl
      replace c5 := k1.cell' (i := 5) rfl
      clear hb1
      go_wp2_with fail
      refine (szIntS_any _ _ _ _ _ ld (by omega) (by omega)).mono ?_; rintro e w' ⟨rfl, rfl⟩
      go_wp2
      go_ret
      exact ⟨rfl, g0⟩
    · have s2 : szLeft (left - x.q.size) x.d.length = left - x.q.size - x.d.length := by rw [szLeft, if_neg h3]
      have n2 : ¬ left - (x.q.size : Int) - x.d.length < 0 := by omega
      obtain ⟨z, hz⟩ : ∃ z, szM x.m = z := ⟨_, rfl⟩
      by_cases h4 : left - x.q.size - x.d.length < z
      · have s3 : szLeft (left - x.q.size - x.d.length) z = -1 := by rw [szLeft, if_pos h4]
        have e : szLeft left x.size = -1 := by rw [szLeft, if_pos (by simp only [Rp.size]; omega)]
        rw [e]
        clear e
        go_enter Try.func41, Try.ntmps41
        go_wp2_with fail
        rw [← hW]; clear hW
        refine (szQuiver_any _ _ _ _ hq h0 h1).mono ?_; rintro e w1 ⟨rfl, hb1⟩
        rw [s1]
        clear hq
        replace g0 := bthen g0 hb1
        replace hm := SlM.next hb1 hm
        replace k1 := k1.call hb1
        replace c0 := k1.cell' (i := 0) rfl
        replace c1 := k1.cell' (i := 1) rfl
        replace c2 := k1.cell' (i := 2) rfl
        replace c3 := k1.cell' (i := 3) rfl
        replace c4 := k1.cell' (i := 4) rfl
        replace c5 := k1.cell' (i := 5) rfl
        clear hb1
        go_wp2_with fail
        refine (szIntS_any _ _ _ _ _ ld (by omega) (by omega)).mono ?_; rintro e w' ⟨rfl, rfl⟩
        go_wp2_with fail
        refine (szMatrixS_any _ _ (left - x.q.size - x.d.length) _ hm (by omega) (by omega)).mono ?_; rintro e w2 ⟨rfl, hb2⟩
        rw [hz]
        go_wp2
        go_ret
        exact ⟨rfl, bthen g0 hb2⟩
      · have s3 : szLeft (left - x.q.size - x.d.length) z = left - x.q.size - x.d.length - z := by rw [szLeft, if_neg h4]
        have n3 : ¬ left - (x.q.size : Int) - x.d.length - z < 0 := by omega
        have e : szLeft left x.size = left - x.q.size - x.d.length - z := by rw [szLeft, if_neg (by simp only [Rp.size]; omega)]; simp only [Rp.size]; omega
        rw [e]
        clear e
        go_enter Try.func41, Try.ntmps41
        go_wp2_with fail
        rw [← hW]; clear hW
        refine (szQuiver_any _ _ _ _ hq h0 h1).mono ?_; rintro e w1 ⟨rfl, hb1⟩
        rw [s1]
        clear hq
        replace g0 := bthen g0 hb1
        replace hm := SlM.next hb1 hm
        replace k1 := k1.call hb1
        replace c0 := k1.cell' (i := 0) rfl
        replace c1 := k1.cell' (i := 1) rfl
        replace c2 := k1.cell' (i := 2) rfl
        replace c3 := k1.cell' (i := 3) rfl
        replace c4 := k1.cell' (i := 4) rfl
        replace c5 := k1.cell' (i := 5) rfl
        clear hb1
        go_wp2_with fail
        refine (szIntS_any _ _ _ _ _ ld (by omega) (by omega)).mono ?_; rintro e w' ⟨rfl, rfl⟩
        go_wp2_with fail
        refine (szMatrixS_any _ _ (left - x.q.size - x.d.length) _ hm (by omega) (by omega)).mono ?_; rintro e w2 ⟨rfl, hb2⟩
        rw [hz]
        go_wp2
        go_ret
        exact ⟨rfl, bthen g0 hb2⟩
end Go.Proofs.Ytjhllgldllbaaaa
