/- Intervals: the references' ZigzagInterval and IntervalRep. -/
import Derived.Test.YtjhllgldllbaaaaZigI
namespace Go.Proofs.Ytjhllgldllbaaaa
set_option linter.unusedVariables false
set_option linter.unusedSimpArgs false
open Go.RowKit

theorem isL_t {q : Qv} (h : isL q = true) : isQ q = true ∧ isZ q = true := by
  rcases hz : isZ q with _ | _
  · rw [isL_noZ hz] at h; cases h
  · exact ⟨(isZ_t hz).1, rfl⟩
set_option maxHeartbeats 3200000 in
set_option maxRecDepth 100000 in
theorem specZigzagIntervalN (p a b : Int) (u : Value) (q : Qv) (w0 : World) (hp : I64 p) (hu : QvR w0 w0.heap.size u q) (ha : I64 a) (hb : I64 b) (hno : ziOk (isZ q) p q a b = false) :
    Calls Try.prog 16 #[.int .i64 p, u, .int .i64 a, .int .i64 b] w0 fun e w' => ∃ r, e = .returned (.tuple #[r, .bool (ziP (isZ q) p q a b).2]) ∧ RpR w' w'.heap.size r (ziP (isZ q) p q a b).1 ∧ Below w0.heap.size w0 w' := by
  have hu' := hu
  obtain ⟨A, c, C, c', rfl, hf, ht, hr, lf, lt⟩ := hu.open_
  clear hu hf ht
  obtain ⟨W, hW⟩ : ∃ W, W = (w0.alloc (.cells #[.int .i64 q.v, .slice A q.f.length c, .slice C q.t.length c'] 26)).alloc (.cells #[.int .i64 0, .int .i64 0, .slice none 0 0, .slice none 0 0, .slice none 0 0, .slice none 0 0] 29) := ⟨_, rfl⟩
  have g0 : Below w0.heap.size w0 W := by rw [hW]; exact ((Below.refl _ _).alloc (Nat.le_refl _) _).alloc (by simp) _
  have kq : Blk W w0.heap.size 26 #[.int .i64 q.v, .slice A q.f.length c, .slice C q.t.length c'] := by rw [hW]; exact (Blk.new _ _ _).alloc _
  have kR : Blk W (w0.heap.size + 1) 29 #[.int .i64 0, .int .i64 0, .slice none 0 0, .slice none 0 0, .slice none 0 0, .slice none 0 0] := by
    rw [hW]
    have := Blk.new (w0.alloc (.cells #[.int .i64 q.v, .slice A q.f.length c, .slice C q.t.length c'] 26)) 29 #[.int .i64 0, .int .i64 0, .slice none 0 0, .slice none 0 0, .slice none 0 0, .slice none 0 0]
    simpa only [World.size_alloc] using this
  have sz : W.heap.size = w0.heap.size + 1 + 1 := by rw [hW]; simp
  have SZ := Lib.hid sz
  have hq := QvR.next g0 hu'
  clear sz hu'
  rw [ziP_no hno]
  simp only [ziOk] at hno
  rcases h1 : isFld p with _ | _
  · have H1 := Lib.hid h1
    clear h1 hno
    have c0 := kq.cell' (i := 0) rfl
    have c1 := kq.cell' (i := 1) rfl
    have c2 := kq.cell' (i := 2) rfl
    go_enter Try.func16, Try.ntmps16
    go_wp2_with fail
    rw [← hW]; clear hW
    refine (specIsField_any _ _).mono ?_; rintro e w1' ⟨rfl, rfl⟩
    rw [H1.out]
    have KR := Lib.hid kR
    have G0 := Lib.hid g0
    clear kR g0
    have kR := KR.out
    have fr := kR.frozen
    have s0 := kR.cell' (i := 0) rfl
    have s1 := kR.cell' (i := 1) rfl
    have s2 := kR.cell' (i := 2) rfl
    have s3 := kR.cell' (i := 3) rfl
    have s4 := kR.cell' (i := 4) rfl
    have s5 := kR.cell' (i := 5) rfl
    clear kR
    go_wp2
    have sz := SZ.out
    have g1 := G0.out
    refine bodyPost_ret (v := .tuple #[.agg #[.int .i64 0, .int .i64 0, .slice none 0 0, .slice none 0 0, .slice none 0 0, .slice none 0 0], .bool false]) (by simp [results, go_sem, s0, s1, s2, s3, s4, s5]) rfl ⟨_, rfl, (RepO.zero _ 0 0).rd, (((((g1.setCell (by simp) _).setCell (by simp) _).setCell (by simp) _).setCell (by simp) _).setCell (by simp) _).setCell (by simp) _⟩
  rcases h2 : isZ q with _ | _
  · have H1 := Lib.hid h1
    have H2 := Lib.hid h2
    clear h1 h2 hno
    have c0 := kq.cell' (i := 0) rfl
    have c1 := kq.cell' (i := 1) rfl
    have c2 := kq.cell' (i := 2) rfl
    go_enter Try.func16, Try.ntmps16
    go_wp2_with fail
    rw [← hW]; clear hW
    refine (specIsField_any _ _).mono ?_; rintro e w1' ⟨rfl, rfl⟩
    rw [H1.out]
    go_wp2_with fail
    refine (specIsZigzag_any _ _ _ hq).mono ?_; rintro e w1 ⟨rfl, hb1⟩
    rw [H2.out]
    replace hq := QvR.next hb1 hq
    replace g0 := bthen g0 hb1
    replace kq := kq.call hb1
    replace kR := kR.call hb1
    have gW := hb1
    clear hb1 c0 c1 c2
    have c0 := kq.cell' (i := 0) rfl
    have c1 := kq.cell' (i := 1) rfl
    have c2 := kq.cell' (i := 2) rfl
    have KR := Lib.hid kR
    have G0 := Lib.hid g0
    clear kR g0
    have kR := KR.out
    have fr := kR.frozen
    have s0 := kR.cell' (i := 0) rfl
    have s1 := kR.cell' (i := 1) rfl
    have s2 := kR.cell' (i := 2) rfl
    have s3 := kR.cell' (i := 3) rfl
    have s4 := kR.cell' (i := 4) rfl
    have s5 := kR.cell' (i := 5) rfl
    clear kR
    go_wp2
    have sz := SZ.out
    have g1 := G0.out
    refine bodyPost_ret (v := .tuple #[.agg #[.int .i64 0, .int .i64 0, .slice none 0 0, .slice none 0 0, .slice none 0 0, .slice none 0 0], .bool false]) (by simp [results, go_sem, s0, s1, s2, s3, s4, s5]) rfl ⟨_, rfl, (RepO.zero _ 0 0).rd, (((((g1.setCell (by simp) _).setCell (by simp) _).setCell (by simp) _).setCell (by simp) _).setCell (by simp) _).setCell (by simp) _⟩
  have hqv : I64 q.v := hr
  have hv1 := (isQ_t.1 (by first | exact (isZ_t h2).1 | exact (isL_t h2).1)).1
  rcases h3 : inR a 0 (q.v - 1) with _ | _
  · have H1 := Lib.hid h1
    have H2 := Lib.hid h2
    have H3 := Lib.hid h3
    clear h1 h2 h3 hno
    have c0 := kq.cell' (i := 0) rfl
    have c1 := kq.cell' (i := 1) rfl
    have c2 := kq.cell' (i := 2) rfl
    go_enter Try.func16, Try.ntmps16
    go_wp2_with fail
    rw [← hW]; clear hW
    refine (specIsField_any _ _).mono ?_; rintro e w1' ⟨rfl, rfl⟩
    rw [H1.out]
    go_wp2_with fail
    refine (specIsZigzag_any _ _ _ hq).mono ?_; rintro e w1 ⟨rfl, hb1⟩
    rw [H2.out]
    replace hq := QvR.next hb1 hq
    replace g0 := bthen g0 hb1
    replace kq := kq.call hb1
    replace kR := kR.call hb1
    have gW := hb1
    clear hb1 c0 c1 c2
    have c0 := kq.cell' (i := 0) rfl
    have c1 := kq.cell' (i := 1) rfl
    have c2 := kq.cell' (i := 2) rfl
    go_wp2_with fail
    refine (l1In_any _ _ _ _).mono ?_; rintro e w2' ⟨rfl, hww⟩
    replace hww := hww.symm
    subst hww
    rw [H3.out]
    have KR := Lib.hid kR
    have G0 := Lib.hid g0
    clear kR g0
    have kR := KR.out
    have fr := kR.frozen
    have s0 := kR.cell' (i := 0) rfl
    have s1 := kR.cell' (i := 1) rfl
    have s2 := kR.cell' (i := 2) rfl
    have s3 := kR.cell' (i := 3) rfl
    have s4 := kR.cell' (i := 4) rfl
    have s5 := kR.cell' (i := 5) rfl
    clear kR
    go_wp2
    have sz := SZ.out
    have g1 := G0.out
    refine bodyPost_ret (v := .tuple #[.agg #[.int .i64 0, .int .i64 0, .slice none 0 0, .slice none 0 0, .slice none 0 0, .slice none 0 0], .bool false]) (by simp [results, go_sem, s0, s1, s2, s3, s4, s5]) rfl ⟨_, rfl, (RepO.zero _ 0 0).rd, (((((g1.setCell (by simp) _).setCell (by simp) _).setCell (by simp) _).setCell (by simp) _).setCell (by simp) _).setCell (by simp) _⟩
  rcases h4 : inR b a (q.v - 1) with _ | _
  · have H1 := Lib.hid h1
    have H2 := Lib.hid h2
    have H3 := Lib.hid h3
    have H4 := Lib.hid h4
    clear h1 h2 h3 h4 hno
    have c0 := kq.cell' (i := 0) rfl
    have c1 := kq.cell' (i := 1) rfl
    have c2 := kq.cell' (i := 2) rfl
    go_enter Try.func16, Try.ntmps16
    go_wp2_with fail
    rw [← hW]; clear hW
    refine (specIsField_any _ _).mono ?_; rintro e w1' ⟨rfl, rfl⟩
    rw [H1.out]
    go_wp2_with fail
    refine (specIsZigzag_any _ _ _ hq).mono ?_; rintro e w1 ⟨rfl, hb1⟩
    rw [H2.out]
    replace hq := QvR.next hb1 hq
    replace g0 := bthen g0 hb1
    replace kq := kq.call hb1
    replace kR := kR.call hb1
    have gW := hb1
    clear hb1 c0 c1 c2
    have c0 := kq.cell' (i := 0) rfl
    have c1 := kq.cell' (i := 1) rfl
    have c2 := kq.cell' (i := 2) rfl
    go_wp2_with fail
    refine (l1In_any _ _ _ _).mono ?_; rintro e w2' ⟨rfl, hww⟩
    replace hww := hww.symm
    subst hww
    rw [H3.out]
    go_wp2_with fail
    refine (l1In_any _ _ _ _).mono ?_; rintro e w2' ⟨rfl, hww⟩
    replace hww := hww.symm
    subst hww
    rw [H4.out]
    have KR := Lib.hid kR
    have G0 := Lib.hid g0
    clear kR g0
    have kR := KR.out
    have fr := kR.frozen
    have s0 := kR.cell' (i := 0) rfl
    have s1 := kR.cell' (i := 1) rfl
    have s2 := kR.cell' (i := 2) rfl
    have s3 := kR.cell' (i := 3) rfl
    have s4 := kR.cell' (i := 4) rfl
    have s5 := kR.cell' (i := 5) rfl
    clear kR
    go_wp2
    have sz := SZ.out
    have g1 := G0.out
    refine bodyPost_ret (v := .tuple #[.agg #[.int .i64 0, .int .i64 0, .slice none 0 0, .slice none 0 0, .slice none 0 0, .slice none 0 0], .bool false]) (by simp [results, go_sem, s0, s1, s2, s3, s4, s5]) rfl ⟨_, rfl, (RepO.zero _ 0 0).rd, (((((g1.setCell (by simp) _).setCell (by simp) _).setCell (by simp) _).setCell (by simp) _).setCell (by simp) _).setCell (by simp) _⟩
  rw [h1, h2, h3, h4] at hno
  exact absurd hno (by decide)
set_option maxHeartbeats 3200000 in
set_option maxRecDepth 100000 in
theorem specIntervalRepN (p a b : Int) (u : Value) (q : Qv) (w0 : World) (hp : I64 p) (hu : QvR w0 w0.heap.size u q) (ha : I64 a) (hb : I64 b) (hno : ziOk (isL q) p q a b = false) :
    Calls Try.prog 24 #[.int .i64 p, u, .int .i64 a, .int .i64 b] w0 fun e w' => ∃ r, e = .returned (.tuple #[r, .bool (ziP (isL q) p q a b).2]) ∧ RpR w' w'.heap.size r (ziP (isL q) p q a b).1 ∧ Below w0.heap.size w0 w' := by
  have hu' := hu
  obtain ⟨A, c, C, c', rfl, hf, ht, hr, lf, lt⟩ := hu.open_
  clear hu hf ht
  obtain ⟨W, hW⟩ : ∃ W, W = (w0.alloc (.cells #[.int .i64 q.v, .slice A q.f.length c, .slice C q.t.length c'] 26)).alloc (.cells #[.int .i64 0, .int .i64 0, .slice none 0 0, .slice none 0 0, .slice none 0 0, .slice none 0 0] 29) := ⟨_, rfl⟩
  have g0 : Below w0.heap.size w0 W := by rw [hW]; exact ((Below.refl _ _).alloc (Nat.le_refl _) _).alloc (by simp) _
  have kq : Blk W w0.heap.size 26 #[.int .i64 q.v, .slice A q.f.length c, .slice C q.t.length c'] := by rw [hW]; exact (Blk.new _ _ _).alloc _
  have kR : Blk W (w0.heap.size + 1) 29 #[.int .i64 0, .int .i64 0, .slice none 0 0, .slice none 0 0, .slice none 0 0, .slice none 0 0] := by
    rw [hW]
    have := Blk.new (w0.alloc (.cells #[.int .i64 q.v, .slice A q.f.length c, .slice C q.t.length c'] 26)) 29 #[.int .i64 0, .int .i64 0, .slice none 0 0, .slice none 0 0, .slice none 0 0, .slice none 0 0]
    simpa only [World.size_alloc] using this
  have sz : W.heap.size = w0.heap.size + 1 + 1 := by rw [hW]; simp
  have SZ := Lib.hid sz
  have hq := QvR.next g0 hu'
  clear sz hu'
  rw [ziP_no hno]
  simp only [ziOk] at hno
  rcases h1 : isFld p with _ | _
  · have H1 := Lib.hid h1
    clear h1 hno
    have c0 := kq.cell' (i := 0) rfl
    have c1 := kq.cell' (i := 1) rfl
    have c2 := kq.cell' (i := 2) rfl
    go_enter Try.func24, Try.ntmps24
    go_wp2_with fail
    rw [← hW]; clear hW
    refine (specIsField_any _ _).mono ?_; rintro e w1' ⟨rfl, rfl⟩
    rw [H1.out]
    have KR := Lib.hid kR
    have G0 := Lib.hid g0
    clear kR g0
    have kR := KR.out
    have fr := kR.frozen
    have s0 := kR.cell' (i := 0) rfl
    have s1 := kR.cell' (i := 1) rfl
    have s2 := kR.cell' (i := 2) rfl
    have s3 := kR.cell' (i := 3) rfl
    have s4 := kR.cell' (i := 4) rfl
    have s5 := kR.cell' (i := 5) rfl
    clear kR
    go_wp2
    have sz := SZ.out
    have g1 := G0.out
    refine bodyPost_ret (v := .tuple #[.agg #[.int .i64 0, .int .i64 0, .slice none 0 0, .slice none 0 0, .slice none 0 0, .slice none 0 0], .bool false]) (by simp [results, go_sem, s0, s1, s2, s3, s4, s5]) rfl ⟨_, rfl, (RepO.zero _ 0 0).rd, (((((g1.setCell (by simp) _).setCell (by simp) _).setCell (by simp) _).setCell (by simp) _).setCell (by simp) _).setCell (by simp) _⟩
  rcases h2 : isL q with _ | _
  · have H1 := Lib.hid h1
    have H2 := Lib.hid h2
    clear h1 h2 hno
    have c0 := kq.cell' (i := 0) rfl
    have c1 := kq.cell' (i := 1) rfl
    have c2 := kq.cell' (i := 2) rfl
    go_enter Try.func24, Try.ntmps24
    go_wp2_with fail
    rw [← hW]; clear hW
    refine (specIsField_any _ _).mono ?_; rintro e w1' ⟨rfl, rfl⟩
    rw [H1.out]
    go_wp2_with fail
    refine (specIsLine_any _ _ _ hq).mono ?_; rintro e w1 ⟨rfl, hb1⟩
    rw [H2.out]
    replace hq := QvR.next hb1 hq
    replace g0 := bthen g0 hb1
    replace kq := kq.call hb1
    replace kR := kR.call hb1
    have gW := hb1
    clear hb1 c0 c1 c2
    have c0 := kq.cell' (i := 0) rfl
    have c1 := kq.cell' (i := 1) rfl
    have c2 := kq.cell' (i := 2) rfl
    have KR := Lib.hid kR
    have G0 := Lib.hid g0
    clear kR g0
    have kR := KR.out
    have fr := kR.frozen
    have s0 := kR.cell' (i := 0) rfl
    have s1 := kR.cell' (i := 1) rfl
    have s2 := kR.cell' (i := 2) rfl
    have s3 := kR.cell' (i := 3) rfl
    have s4 := kR.cell' (i := 4) rfl
    have s5 := kR.cell' (i := 5) rfl
    clear kR
    go_wp2
    have sz := SZ.out
    have g1 := G0.out
    refine bodyPost_ret (v := .tuple #[.agg #[.int .i64 0, .int .i64 0, .slice none 0 0, .slice none 0 0, .slice none 0 0, .slice none 0 0], .bool false]) (by simp [results, go_sem, s0, s1, s2, s3, s4, s5]) rfl ⟨_, rfl, (RepO.zero _ 0 0).rd, (((((g1.setCell (by simp) _).setCell (by simp) _).setCell (by simp) _).setCell (by simp) _).setCell (by simp) _).setCell (by simp) _⟩
  have hqv : I64 q.v := hr
  have hv1 := (isQ_t.1 (by first | exact (isZ_t h2).1 | exact (isL_t h2).1)).1
  rcases h3 : inR a 0 (q.v - 1) with _ | _
  · have H1 := Lib.hid h1
    have H2 := Lib.hid h2
    have H3 := Lib.hid h3
    clear h1 h2 h3 hno
    have c0 := kq.cell' (i := 0) rfl
    have c1 := kq.cell' (i := 1) rfl
    have c2 := kq.cell' (i := 2) rfl
    go_enter Try.func24, Try.ntmps24
    go_wp2_with fail
    rw [← hW]; clear hW
    refine (specIsField_any _ _).mono ?_; rintro e w1' ⟨rfl, rfl⟩
    rw [H1.out]
    go_wp2_with fail
    refine (specIsLine_any _ _ _ hq).mono ?_; rintro e w1 ⟨rfl, hb1⟩
    rw [H2.out]
    replace hq := QvR.next hb1 hq
    replace g0 := bthen g0 hb1
    replace kq := kq.call hb1
    replace kR := kR.call hb1
    have gW := hb1
    clear hb1 c0 c1 c2
    have c0 := kq.cell' (i := 0) rfl
    have c1 := kq.cell' (i := 1) rfl
    have c2 := kq.cell' (i := 2) rfl
    go_wp2_with fail
    refine (l1In_any _ _ _ _).mono ?_; rintro e w2' ⟨rfl, hww⟩
    replace hww := hww.symm
    subst hww
    rw [H3.out]
    have KR := Lib.hid kR
    have G0 := Lib.hid g0
    clear kR g0
    have kR := KR.out
    have fr := kR.frozen
    have s0 := kR.cell' (i := 0) rfl
    have s1 := kR.cell' (i := 1) rfl
    have s2 := kR.cell' (i := 2) rfl
    have s3 := kR.cell' (i := 3) rfl
    have s4 := kR.cell' (i := 4) rfl
    have s5 := kR.cell' (i := 5) rfl
    clear kR
    go_wp2
    have sz := SZ.out
    have g1 := G0.out
    refine bodyPost_ret (v := .tuple #[.agg #[.int .i64 0, .int .i64 0, .slice none 0 0, .slice none 0 0, .slice none 0 0, .slice none 0 0], .bool false]) (by simp [results, go_sem, s0, s1, s2, s3, s4, s5]) rfl ⟨_, rfl, (RepO.zero _ 0 0).rd, (((((g1.setCell (by simp) _).setCell (by simp) _).setCell (by simp) _).setCell (by simp) _).setCell (by simp) _).setCell (by simp) _⟩
  rcases h4 : inR b a (q.v - 1) with _ | _
  · have H1 := Lib.hid h1
    have H2 := Lib.hid h2
    have H3 := Lib.hid h3
    have H4 := Lib.hid h4
    clear h1 h2 h3 h4 hno
    have c0 := kq.cell' (i := 0) rfl
    have c1 := kq.cell' (i := 1) rfl
    have c2 := kq.cell' (i := 2) rfl
    go_enter Try.func24, Try.ntmps24
    go_wp2_with fail
    rw [← hW]; clear hW
    refine (specIsField_any _ _).mono ?_; rintro e w1' ⟨rfl, rfl⟩
    rw [H1.out]
    go_wp2_with fail
    refine (specIsLine_any _ _ _ hq).mono ?_; rintro e w1 ⟨rfl, hb1⟩
    rw [H2.out]
    replace hq := QvR.next hb1 hq
    replace g0 := bthen g0 hb1
    replace kq := kq.call hb1
    replace kR := kR.call hb1
    have gW := hb1
    clear hb1 c0 c1 c2
    have c0 := kq.cell' (i := 0) rfl
    have c1 := kq.cell' (i := 1) rfl
    have c2 := kq.cell' (i := 2) rfl
    go_wp2_with fail
    refine (l1In_any _ _ _ _).mono ?_; rintro e w2' ⟨rfl, hww⟩
    replace hww := hww.symm
    subst hww
    rw [H3.out]
    go_wp2_with fail
    refine (l1In_any _ _ _ _).mono ?_; rintro e w2' ⟨rfl, hww⟩
    replace hww := hww.symm
    subst hww
    rw [H4.out]
    have KR := Lib.hid kR
    have G0 := Lib.hid g0
    clear kR g0
    have kR := KR.out
    have fr := kR.frozen
    have s0 := kR.cell' (i := 0) rfl
    have s1 := kR.cell' (i := 1) rfl
    have s2 := kR.cell' (i := 2) rfl
    have s3 := kR.cell' (i := 3) rfl
    have s4 := kR.cell' (i := 4) rfl
    have s5 := kR.cell' (i := 5) rfl
    clear kR
    go_wp2
    have sz := SZ.out
    have g1 := G0.out
    refine bodyPost_ret (v := .tuple #[.agg #[.int .i64 0, .int .i64 0, .slice none 0 0, .slice none 0 0, .slice none 0 0, .slice none 0 0], .bool false]) (by simp [results, go_sem, s0, s1, s2, s3, s4, s5]) rfl ⟨_, rfl, (RepO.zero _ 0 0).rd, (((((g1.setCell (by simp) _).setCell (by simp) _).setCell (by simp) _).setCell (by simp) _).setCell (by simp) _).setCell (by simp) _⟩
  rw [h1, h2, h3, h4] at hno
  exact absurd hno (by decide)
set_option maxHeartbeats 3200000 in
set_option maxRecDepth 100000 in
theorem implZigzagIntervalN (p a b : Int) (u : Value) (q : Qv) (w0 : World) (hp : I64 p) (hu : QvR w0 w0.heap.size u q) (ha : I64 a) (hb : I64 b) (hno : ziOk (isZ q) p q a b = false) :
    Calls Try.prog 18 #[.int .i64 p, u, .int .i64 a, .int .i64 b] w0 fun e w' => ∃ r, e = .returned (.tuple #[r, .bool (ziP (isZ q) p q a b).2]) ∧ RepO w' w0.heap.size w'.heap.size r (ziP (isZ q) p q a b).1 ∧ Below w0.heap.size w0 w' := by
  have hu' := hu
  obtain ⟨A, c, C, c', rfl, hf, ht, hr, lf, lt⟩ := hu.open_
  clear hu hf ht
  obtain ⟨W, hW⟩ : ∃ W, W = (w0.alloc (.cells #[.int .i64 q.v, .slice A q.f.length c, .slice C q.t.length c'] 26)).alloc (.cells #[.int .i64 0, .int .i64 0, .slice none 0 0, .slice none 0 0, .slice none 0 0, .slice none 0 0] 29) := ⟨_, rfl⟩
  have g0 : Below w0.heap.size w0 W := by rw [hW]; exact ((Below.refl _ _).alloc (Nat.le_refl _) _).alloc (by simp) _
  have kq : Blk W w0.heap.size 26 #[.int .i64 q.v, .slice A q.f.length c, .slice C q.t.length c'] := by rw [hW]; exact (Blk.new _ _ _).alloc _
  have kR : Blk W (w0.heap.size + 1) 29 #[.int .i64 0, .int .i64 0, .slice none 0 0, .slice none 0 0, .slice none 0 0, .slice none 0 0] := by
    rw [hW]
    have := Blk.new (w0.alloc (.cells #[.int .i64 q.v, .slice A q.f.length c, .slice C q.t.length c'] 26)) 29 #[.int .i64 0, .int .i64 0, .slice none 0 0, .slice none 0 0, .slice none 0 0, .slice none 0 0]
    simpa only [World.size_alloc] using this
  have sz : W.heap.size = w0.heap.size + 1 + 1 := by rw [hW]; simp
  have SZ := Lib.hid sz
  have hq := QvR.next g0 hu'
  clear sz hu'
  rw [ziP_no hno]
  simp only [ziOk] at hno
  rcases h1 : isFld p with _ | _
  · have H1 := Lib.hid h1
    clear h1 hno
    have c0 := kq.cell' (i := 0) rfl
    have c1 := kq.cell' (i := 1) rfl
    have c2 := kq.cell' (i := 2) rfl
    go_enter Try.func18, Try.ntmps18
    go_wp2_with fail
    rw [← hW]; clear hW
    refine (implIsField_any _ _).mono ?_; rintro e w1' ⟨rfl, rfl⟩
    rw [H1.out]
    have KR := Lib.hid kR
    have G0 := Lib.hid g0
    clear kR g0
    have kR := KR.out
    have fr := kR.frozen
    have s0 := kR.cell' (i := 0) rfl
    have s1 := kR.cell' (i := 1) rfl
    have s2 := kR.cell' (i := 2) rfl
    have s3 := kR.cell' (i := 3) rfl
    have s4 := kR.cell' (i := 4) rfl
    have s5 := kR.cell' (i := 5) rfl
    clear kR
    go_wp2
    have sz := SZ.out
    have g1 := G0.out
    refine bodyPost_ret (v := .tuple #[.agg #[.int .i64 0, .int .i64 0, .slice none 0 0, .slice none 0 0, .slice none 0 0, .slice none 0 0], .bool false]) (by simp [results, go_sem, s0, s1, s2, s3, s4, s5]) rfl ⟨_, rfl, RepO.zero _ _ _, (((((g1.setCell (by simp) _).setCell (by simp) _).setCell (by simp) _).setCell (by simp) _).setCell (by simp) _).setCell (by simp) _⟩
  rcases h2 : isZ q with _ | _
  · have H1 := Lib.hid h1
    have H2 := Lib.hid h2
    clear h1 h2 hno
    have c0 := kq.cell' (i := 0) rfl
    have c1 := kq.cell' (i := 1) rfl
    have c2 := kq.cell' (i := 2) rfl
    go_enter Try.func18, Try.ntmps18
    go_wp2_with fail
    rw [← hW]; clear hW
    refine (implIsField_any _ _).mono ?_; rintro e w1' ⟨rfl, rfl⟩
    rw [H1.out]
    go_wp2_with fail
    refine (implIsZigzag_any _ _ _ hq).mono ?_; rintro e w1 ⟨rfl, hb1⟩
    rw [H2.out]
    replace hq := QvR.next hb1 hq
    replace g0 := bthen g0 hb1
    replace kq := kq.call hb1
    replace kR := kR.call hb1
    have gW := hb1
    clear hb1 c0 c1 c2
    have c0 := kq.cell' (i := 0) rfl
    have c1 := kq.cell' (i := 1) rfl
    have c2 := kq.cell' (i := 2) rfl
    have KR := Lib.hid kR
    have G0 := Lib.hid g0
    clear kR g0
    have kR := KR.out
    have fr := kR.frozen
    have s0 := kR.cell' (i := 0) rfl
    have s1 := kR.cell' (i := 1) rfl
    have s2 := kR.cell' (i := 2) rfl
    have s3 := kR.cell' (i := 3) rfl
    have s4 := kR.cell' (i := 4) rfl
    have s5 := kR.cell' (i := 5) rfl
    clear kR
    go_wp2
    have sz := SZ.out
    have g1 := G0.out
    refine bodyPost_ret (v := .tuple #[.agg #[.int .i64 0, .int .i64 0, .slice none 0 0, .slice none 0 0, .slice none 0 0, .slice none 0 0], .bool false]) (by simp [results, go_sem, s0, s1, s2, s3, s4, s5]) rfl ⟨_, rfl, RepO.zero _ _ _, (((((g1.setCell (by simp) _).setCell (by simp) _).setCell (by simp) _).setCell (by simp) _).setCell (by simp) _).setCell (by simp) _⟩
  have hqv : I64 q.v := hr
  have hv1 := (isQ_t.1 (by first | exact (isZ_t h2).1 | exact (isL_t h2).1)).1
  rcases h3 : inR a 0 (q.v - 1) with _ | _
  · have H1 := Lib.hid h1
    have H2 := Lib.hid h2
    have H3 := Lib.hid h3
    clear h1 h2 h3 hno
    have c0 := kq.cell' (i := 0) rfl
    have c1 := kq.cell' (i := 1) rfl
    have c2 := kq.cell' (i := 2) rfl
    go_enter Try.func18, Try.ntmps18
    go_wp2_with fail
    rw [← hW]; clear hW
    refine (implIsField_any _ _).mono ?_; rintro e w1' ⟨rfl, rfl⟩
    rw [H1.out]
    go_wp2_with fail
    refine (implIsZigzag_any _ _ _ hq).mono ?_; rintro e w1 ⟨rfl, hb1⟩
    rw [H2.out]
    replace hq := QvR.next hb1 hq
    replace g0 := bthen g0 hb1
    replace kq := kq.call hb1
    replace kR := kR.call hb1
    have gW := hb1
    clear hb1 c0 c1 c2
    have c0 := kq.cell' (i := 0) rfl
    have c1 := kq.cell' (i := 1) rfl
    have c2 := kq.cell' (i := 2) rfl
    go_wp2_with fail
    refine (within_any _ _ _ _).mono ?_; rintro e w2' ⟨rfl, hww⟩
    replace hww := hww.symm
    subst hww
    rw [H3.out]
    have KR := Lib.hid kR
    have G0 := Lib.hid g0
    clear kR g0
    have kR := KR.out
    have fr := kR.frozen
    have s0 := kR.cell' (i := 0) rfl
    have s1 := kR.cell' (i := 1) rfl
    have s2 := kR.cell' (i := 2) rfl
    have s3 := kR.cell' (i := 3) rfl
    have s4 := kR.cell' (i := 4) rfl
    have s5 := kR.cell' (i := 5) rfl
    clear kR
    go_wp2
    have sz := SZ.out
    have g1 := G0.out
    refine bodyPost_ret (v := .tuple #[.agg #[.int .i64 0, .int .i64 0, .slice none 0 0, .slice none 0 0, .slice none 0 0, .slice none 0 0], .bool false]) (by simp [results, go_sem, s0, s1, s2, s3, s4, s5]) rfl ⟨_, rfl, RepO.zero _ _ _, (((((g1.setCell (by simp) _).setCell (by simp) _).setCell (by simp) _).setCell (by simp) _).setCell (by simp) _).setCell (by simp) _⟩
  rcases h4 : inR b a (q.v - 1) with _ | _
  · have H1 := Lib.hid h1
    have H2 := Lib.hid h2
    have H3 := Lib.hid h3
    have H4 := Lib.hid h4
    clear h1 h2 h3 h4 hno
    have c0 := kq.cell' (i := 0) rfl
    have c1 := kq.cell' (i := 1) rfl
    have c2 := kq.cell' (i := 2) rfl
    go_enter Try.func18, Try.ntmps18
    go_wp2_with fail
    rw [← hW]; clear hW
    refine (implIsField_any _ _).mono ?_; rintro e w1' ⟨rfl, rfl⟩
    rw [H1.out]
    go_wp2_with fail
    refine (implIsZigzag_any _ _ _ hq).mono ?_; rintro e w1 ⟨rfl, hb1⟩
    rw [H2.out]
    replace hq := QvR.next hb1 hq
    replace g0 := bthen g0 hb1
    replace kq := kq.call hb1
    replace kR := kR.call hb1
    have gW := hb1
    clear hb1 c0 c1 c2
    have c0 := kq.cell' (i := 0) rfl
    have c1 := kq.cell' (i := 1) rfl
    have c2 := kq.cell' (i := 2) rfl
    go_wp2_with fail
    refine (within_any _ _ _ _).mono ?_; rintro e w2' ⟨rfl, hww⟩
    replace hww := hww.symm
    subst hww
    rw [H3.out]
    go_wp2_with fail
    refine (within_any _ _ _ _).mono ?_; rintro e w2' ⟨rfl, hww⟩
    replace hww := hww.symm
    subst hww
    rw [H4.out]
    have KR := Lib.hid kR
    have G0 := Lib.hid g0
    clear kR g0
    have kR := KR.out
    have fr := kR.frozen
    have s0 := kR.cell' (i := 0) rfl
    have s1 := kR.cell' (i := 1) rfl
    have s2 := kR.cell' (i := 2) rfl
    have s3 := kR.cell' (i := 3) rfl
    have s4 := kR.cell' (i := 4) rfl
    have s5 := kR.cell' (i := 5) rfl
    clear kR
    go_wp2
    have sz := SZ.out
    have g1 := G0.out
    refine bodyPost_ret (v := .tuple #[.agg #[.int .i64 0, .int .i64 0, .slice none 0 0, .slice none 0 0, .slice none 0 0, .slice none 0 0], .bool false]) (by simp [results, go_sem, s0, s1, s2, s3, s4, s5]) rfl ⟨_, rfl, RepO.zero _ _ _, (((((g1.setCell (by simp) _).setCell (by simp) _).setCell (by simp) _).setCell (by simp) _).setCell (by simp) _).setCell (by simp) _⟩
  rw [h1, h2, h3, h4] at hno
  exact absurd hno (by decide)
end Go.Proofs.Ytjhllgldllbaaaa
