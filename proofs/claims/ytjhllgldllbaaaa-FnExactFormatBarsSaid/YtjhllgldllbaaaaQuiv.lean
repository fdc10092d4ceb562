/- Quivers as values: the law's copies, comparisons, marks. -/
import Derived.Test.YtjhllgldllbaaaaApp
namespace Go.Proofs.Ytjhllgldllbaaaa
set_option linter.unusedVariables false
set_option linter.unusedSimpArgs false
open Go.RowKit

/-- A quiver as data. -/
structure Qv where
  v : Int
  f : List Int
  t : List Int
deriving DecidableEq

/-- The value reads as the quiver q, below block B. -/
def QvR (w : World) (B : Nat) (val : Value) (q : Qv) : Prop := ∃ a b, val = .agg #[.int .i64 q.v, a, b] ∧ SlI w B a q.f ∧ SlI w B b q.t ∧ I64 q.v
/-- .. and owns its two rows, which are apart. -/
def QvO (w : World) (base : Nat) (val : Value) (q : Qv) : Prop := ∃ a b, val = .agg #[.int .i64 q.v, a, b] ∧ OwnI w base a q.f ∧ OwnI w base b q.t ∧ (a.ownBlock = none ∨ a.ownBlock ≠ b.ownBlock) ∧ I64 q.v
theorem QvR.next {w w' : World} {v : Value} {q : Qv} (hb : Below w.heap.size w w') (h : QvR w w.heap.size v q) : QvR w' w'.heap.size v q := by
  obtain ⟨a, b, e, h1, h2, h3⟩ := h
  exact ⟨a, b, e, SlI.next hb h1, SlI.next hb h2, h3⟩
theorem QvR.below {w w' : World} {B : Nat} {v : Value} {q : Qv} (hb : Below B w w') (h : QvR w B v q) : QvR w' B v q := by
  obtain ⟨a, b, e, h1, h2, h3⟩ := h
  exact ⟨a, b, e, SlI.below hb h1, SlI.below hb h2, h3⟩
theorem QvR.more {w : World} {B B' : Nat} {v : Value} {q : Qv} (hB : B ≤ B') (h : QvR w B v q) : QvR w B' v q := by
  obtain ⟨a, b, e, h1, h2, h3⟩ := h
  exact ⟨a, b, e, SlI.more hB h1, SlI.more hB h2, h3⟩
theorem QvO.rd {w : World} {base : Nat} {v : Value} {q : Qv} (h : QvO w base v q) : QvR w w.heap.size v q := by
  obtain ⟨a, b, e, h1, h2, _, h3⟩ := h
  exact ⟨a, b, e, h1.rd, h2.rd, h3⟩
theorem QvO.below {w w' : World} {base : Nat} {v : Value} {q : Qv} (h : QvO w base v q) (hb : Below w.heap.size w w') : QvO w' base v q := by
  obtain ⟨a, b, e, h1, h2, h4, h3⟩ := h
  exact ⟨a, b, e, h1.below hb, h2.below hb, h4, h3⟩
theorem QvO.lower {w : World} {base base' : Nat} {v : Value} {q : Qv} (h : QvO w base v q) (hb : base' ≤ base) : QvO w base' v q := by
  obtain ⟨a, b, e, h1, h2, h4, h3⟩ := h
  exact ⟨a, b, e, h1.lower hb, h2.lower hb, h4, h3⟩
/-- What a walk takes of a quiver. -/
theorem QvR.open_ {w : World} {B : Nat} {v : Value} {q : Qv} (h : QvR w B v q) : ∃ A c C d, v = .agg #[.int .i64 q.v, .slice A q.f.length c, .slice C q.t.length d] ∧ SlI w B (.slice A q.f.length c) q.f ∧ SlI w B (.slice C q.t.length d) q.t ∧ I64 q.v ∧ q.f.length ≤ 17592186044416 ∧ q.t.length ≤ 17592186044416 := by
  obtain ⟨a, b, rfl, h1, h2, h3⟩ := h
  obtain ⟨A, c, rfl, _, _, h4, h1⟩ := h1.open_
  obtain ⟨C, d, rfl, _, _, h5, h2⟩ := h2.open_
  exact ⟨A, c, C, d, rfl, h1, h2, h3, h4, h5⟩

theorem qv_ext (p q : Qv) : (p = q) ↔ (p.v = q.v ∧ p.f = q.f ∧ p.t = q.t) := by
  cases p; cases q; simp

set_option maxHeartbeats 400000 in
theorem eqQuiver_any (u v : Value) (p q : Qv) (w : World) (hu : QvR w w.heap.size u p) (hv : QvR w w.heap.size v q) :
    Calls Try.prog 20 #[u, v] w fun e w' => e = .returned (.bool (decide (p = q))) ∧ Below w.heap.size w w' := by
  obtain ⟨A, c, C, d, rfl, hf, ht, _, _, _⟩ := hu.open_
  obtain ⟨A', c', C', d', rfl, hf', ht', _, _, _⟩ := hv.open_
  clear hu hv
  have g0 : Below w.heap.size w ((w.alloc (.cells #[.int .i64 p.v, .slice A p.f.length c, .slice C p.t.length d] 26)).alloc (.cells #[.int .i64 q.v, .slice A' q.f.length c', .slice C' q.t.length d'] 26)) := ((Below.refl _ _).alloc (Nat.le_refl _) _).alloc (by simp) _
  by_cases h1 : p.v = q.v
  · have e1 : (p.v != q.v) = false := by rw [h1]; simp
    have H1 := Lib.hid h1
    clear h1
    by_cases h2 : p.f = q.f
    · have e2 : decide (p.f = q.f) = true := by simpa using h2
      have H2 := Lib.hid h2
      clear h2
      obtain ⟨B, hB⟩ : ∃ B, decide (p.t = q.t) = B := ⟨_, rfl⟩
      have HB := Lib.hid hB
      have hfin : decide (p = q) = B := by
        rw [← hB, decide_eq_decide, qv_ext]
        exact ⟨fun h => h.2.2, fun h => ⟨H1.out, H2.out, h⟩⟩
      rw [hfin]
      clear hfin
      go_enter Try.func20, Try.ntmps20
      go_wp2_with fail
      refine (eqIntS_any _ _ _ _ _ (SlI.next g0 hf) (SlI.next g0 hf')).mono ?_; rintro e w1 ⟨rfl, hb1⟩
      have g1 := bthen g0 hb1
      have bc := (((Blk.new w 26 #[.int .i64 p.v, .slice A p.f.length c, .slice C p.t.length d]).alloc _).call hb1).cell' (i := 2) rfl
      have bd := ((Blk.new (w.alloc _) 26 #[.int .i64 q.v, .slice A' q.f.length c', .slice C' q.t.length d']).call hb1).cell' (i := 2) rfl
      simp only [World.size_alloc] at bd
      go_wp2_with fail
      refine (eqIntS_any _ _ _ _ _ (SlI.next g1 ht) (SlI.next g1 ht')).mono ?_; rintro e w2 ⟨rfl, hb2⟩
      rw [hB]
      clear hB
      go_wp2
      all_goals (go_ret; simp_all; exact bthen g1 hb2)
    · have e2 : decide (p.f = q.f) = false := by simpa using h2
      have hfin : decide (p = q) = false := by
        simp only [decide_eq_false_iff_not, qv_ext]
        exact fun h => h2 h.2.1
      rw [hfin]
      clear hfin h2
      go_enter Try.func20, Try.ntmps20
      go_wp2_with fail
      refine (eqIntS_any _ _ _ _ _ (SlI.next g0 hf) (SlI.next g0 hf')).mono ?_; rintro e w1 ⟨rfl, hb1⟩
      go_wp2
      go_ret
      exact ⟨rfl, bthen g0 hb1⟩
  · have e1 : (p.v != q.v) = true := by simpa using h1
    have hfin : decide (p = q) = false := by
      simp only [decide_eq_false_iff_not, qv_ext]
      exact fun h => h1 h.1
    rw [hfin]
    clear hfin h1
    go_enter Try.func20, Try.ntmps20
    go_wp2
    go_ret
    exact ⟨rfl, g0⟩
end Go.Proofs.Ytjhllgldllbaaaa
