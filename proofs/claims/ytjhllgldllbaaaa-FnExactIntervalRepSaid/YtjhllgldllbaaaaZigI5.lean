/- Intervals: the program's IntervalRep. -/
import Derived.Test.YtjhllgldllbaaaaZigI4
namespace Go.Proofs.Ytjhllgldllbaaaa
set_option linter.unusedVariables false
set_option linter.unusedSimpArgs false
open Go.RowKit

set_option maxHeartbeats 3200000 in
set_option maxRecDepth 100000 in
theorem implIntervalRep_any (p : Int) (u : Value) (q : Qv) (a b : Int) (w0 : World) (hp : I64 p) (hu : QvR w0 w0.heap.size u q) (ha : I64 a) (hb : I64 b) :
    Calls Try.prog 25 #[.int .i64 p, u, .int .i64 a, .int .i64 b] w0 fun e w' => ∃ r, e = .returned (.tuple #[r, .bool (ziP (isL q) p q a b).2]) ∧ RepO w' w0.heap.size w'.heap.size r (ziP (isL q) p q a b).1 ∧ Below w0.heap.size w0 w' := by
  have hu' := hu
  obtain ⟨A, c, C, c', rfl, hf, ht, hr, lf, lt⟩ := hu.open_
  clear hu hf ht
  obtain ⟨W, hW⟩ : ∃ W, W = (w0.alloc (.cells #[.int .i64 q.v, .slice A q.f.length c, .slice C q.t.length c'] 26)).alloc (.cells #[.int .i64 0, .int .i64 0, .slice none 0 0, .slice none 0 0, .slice none 0 0, .slice none 0 0] 29) := ⟨_, rfl⟩
  have g0 : Below w0.heap.size w0 W := by rw [hW]; exact ((Below.refl _ _).alloc (Nat.le_refl _) _).alloc (by simp) _
  have kq : Blk W w0.heap.size 26 #[.int .i64 q.v, .slice A q.f.length c, .slice C q.t.length c'] := by rw [hW]; exact (Blk.new _ _ _).alloc _
  have kR : Blk W (w0.heap.size + 1) 29 #[.int .i64 0, .int .i64 0, .slice none 0 0, .slice none 0 0, .slice none 0 0, .slice none 0 0] := by
    rw [hW]
    have := Blk.new (w0.alloc (.cells #[.int .i64 q.v, .slice A q.f.length c, .slice C q.t.length c'] 26)) 29 #[.int .i64 0, .int .i64 0, .slice none 0 0, .slice none 0 0, .slice none 0 0, .slice none 0 0]
    simpa only [World.size_alloc] using this
  have sz : W.heap.size = w0.heap.size + 1 + 1 := by rw [hW]; simp
  have SZ := Lib.hid sz
  have hq := QvR.next g0 hu'
  clear sz hu'
  rcases h2 : isL q with _ | _
  · rw [ziP_no (ok := false) (by cases h : isFld p <;> simp [ziOk, h])]
    have H2 := Lib.hid h2
    clear h2
    have c0 := kq.cell' (i := 0) rfl
    have c1 := kq.cell' (i := 1) rfl
    have c2 := kq.cell' (i := 2) rfl
    go_enter Try.func25, Try.ntmps25
    go_wp2_with fail
    rw [← hW]; clear hW
    refine (implIsLine_any _ _ _ hq).mono ?_; rintro e w1 ⟨rfl, hb1⟩
    rw [H2.out]
    replace g0 := bthen g0 hb1
    replace kR := kR.call hb1
    clear hb1 c0 c1 c2 kq
    have KR := Lib.hid kR
    have G0 := Lib.hid g0
    clear kR g0
    have kR := KR.out
    have fr := kR.frozen
    have s0 := kR.cell' (i := 0) rfl
    have s1 := kR.cell' (i := 1) rfl
    have s2 := kR.cell' (i := 2) rfl
    have s3 := kR.cell' (i := 3) rfl
    have s4 := kR.cell' (i := 4) rfl
    have s5 := kR.cell' (i := 5) rfl
    clear kR
    go_wp2
    have sz := SZ.out
    have g1 := G0.out
    refine bodyPost_ret (v := .tuple #[.agg #[.int .i64 0, .int .i64 0, .slice none 0 0, .slice none 0 0, .slice none 0 0, .slice none 0 0], .bool false]) (by simp [results, go_sem, s0, s1, s2, s3, s4, s5]) rfl ⟨_, rfl, RepO.zero _ _ _, (((((g1.setCell (by simp) _).setCell (by simp) _).setCell (by simp) _).setCell (by simp) _).setCell (by simp) _).setCell (by simp) _⟩
  · have hz := (isL_t h2).2
    have H2 := Lib.hid h2
    have hF : Hid (ziP true p q a b = ziP (isZ q) p q a b) := by show _ = _; rw [hz]
    clear h2 hz
    have c0 := kq.cell' (i := 0) rfl
    have c1 := kq.cell' (i := 1) rfl
    have c2 := kq.cell' (i := 2) rfl
    go_enter Try.func25, Try.ntmps25
    go_wp2_with fail
    rw [← hW]; clear hW
    refine (implIsLine_any _ _ _ hq).mono ?_; rintro e w1 ⟨rfl, hb1⟩
    rw [H2.out]
    have g1 := bthen g0 hb1
    have kR1 := kR.call hb1
    have kq1 := kq.call hb1
    have hq1 := QvR.next hb1 hq
    clear c0 c1 c2 kq kR g0 hq
    have c0 := kq1.cell' (i := 0) rfl
    have c1 := kq1.cell' (i := 1) rfl
    have c2 := kq1.cell' (i := 2) rfl
    go_wp2_with fail
    refine (implZigzagInterval_any p _ q a b _ hp hq1 ha hb).mono ?_; rintro e w2 ⟨r, rfl, ho, hb3⟩
    generalize ziP (isZ q) p q a b = R at *
    have kR2 := kR1.call hb3
    have g2 := bthen g1 hb3
    have s3 := hb3.size
    have s1 := g1.size
    have sz := SZ.out
    have sb := hb1.size
    obtain ⟨RA, ra, RC, rc, RE, re, RH, rh, er⟩ := ho.form
    subst er
    have fr := kR2.frozen
    have p0 := kR2.cell' (i := 0) rfl
    have p1 := kR2.cell' (i := 1) rfl
    have p2 := kR2.cell' (i := 2) rfl
    have p3 := kR2.cell' (i := 3) rfl
    have p4 := kR2.cell' (i := 4) rfl
    have p5 := kR2.cell' (i := 5) rfl
    have hc := chg6 w2 (w0.heap.size + 1) (.int .i64 R.1.p) (.int .i64 R.1.q.v) (.slice RA R.1.q.f.length ra) (.slice RC R.1.q.t.length rc) (.slice RE R.1.d.length re) (.slice RH R.1.m.length rh)
    have OF := Lib.hid (RepO.wider (ho.chg hc (.inr (by omega))) (lo' := w0.heap.size) (by omega) (hi' := w2.heap.size) (by omega))
    have GF := Lib.hid (g2.trans (hc.below (by omega) g2.size))
    clear ho hc g2 kR2 kR1 hb1 hb3 s1 s3 c0 c1 c2 kq1 hq1 g1 sz sb
    go_wp2
    exact bodyPost_ret (v := .tuple #[.agg #[.int .i64 R.1.p, .int .i64 R.1.q.v, .slice RA R.1.q.f.length ra, .slice RC R.1.q.t.length rc, .slice RE R.1.d.length re, .slice RH R.1.m.length rh], .bool R.2]) (by simp [results, go_sem, p0, p1, p2, p3, p4, p5]) rfl ⟨_, by rw [hF.out], by rw [hF.out]; exact RepO.wider OF.out (Nat.le_refl _) (by simp), GF.out⟩
theorem ziPZ_size (p : Int) (q : Qv) (a b : Int) : (ziP (isZ q) p q a b).1.size ≤ 1000 := ziP_size p q a b id
theorem ziPL_size (p : Int) (q : Qv) (a b : Int) : (ziP (isL q) p q a b).1.size ≤ 1000 := ziP_size p q a b fun h => (isL_t h).2
end Go.Proofs.Ytjhllgldllbaaaa
