/- OutgoingMatrix, IncomingMatrix: where the answer is no. -/
import Derived.Test.YtbgjhnolnccnnaaInOut
namespace Go.Proofs.Ytbgjhnolnccnnaa
set_option linter.unusedVariables false
set_option linter.unusedSimpArgs false
open Go.RowKit
set_option maxHeartbeats 3200000 in
set_option maxRecDepth 100000 in
theorem implOut_no (u : Value) (x : Rp) (v : Int) (w0 : World) (hu : RpR w0 w0.heap.size u x) (hno : outOk x v = false) :
    Calls Try.prog 51 #[u, .int .i64 v] w0 fun e w' => ∃ r, e = .returned (.tuple #[r, .bool (outP x v).2]) ∧ MxO w' w0.heap.size w'.heap.size r (outP x v).1 ∧ Below w0.heap.size w0 w' := by
  have hu' := hu
  obtain ⟨A, a, C, c, E, e, H, h, rfl, hq, hd, hm, hp, ld, lm⟩ := hu.open_
  clear hu
  obtain ⟨W, hW⟩ : ∃ W, W = (w0.alloc (.cells #[.int .i64 x.p, .int .i64 x.q.v, .slice A x.q.f.length a, .slice C x.q.t.length c, .slice E x.d.length e, .slice H x.m.length h] 40)).alloc (.cells #[.int .i64 0, .int .i64 0, .slice none 0 0] 60) := ⟨_, rfl⟩
  have g0 : Below w0.heap.size w0 W := by rw [hW]; exact ((Below.refl _ _).alloc (Nat.le_refl _) _).alloc (by simp) _
  have kB : Blk W w0.heap.size 40 #[.int .i64 x.p, .int .i64 x.q.v, .slice A x.q.f.length a, .slice C x.q.t.length c, .slice E x.d.length e, .slice H x.m.length h] := by rw [hW]; exact (Blk.new _ _ _).alloc _
  have kR : Blk W (w0.heap.size + 1) 60 #[.int .i64 0, .int .i64 0, .slice none 0 0] := by
    rw [hW]
    have := Blk.new (w0.alloc (.cells #[.int .i64 x.p, .int .i64 x.q.v, .slice A x.q.f.length a, .slice C x.q.t.length c, .slice E x.d.length e, .slice H x.m.length h] 40)) 60 #[.int .i64 0, .int .i64 0, .slice none 0 0]
    simpa only [World.size_alloc] using this
  have sz : W.heap.size = w0.heap.size + 1 + 1 := by rw [hW]; simp
  replace hq := QvR.next g0 hq
  replace hd := SlI.next g0 hd
  replace hm := SlM.next g0 hm
  rcases h1 : isRep x with _ | _
  · have HF := Lib.hid (show outP x v = (mx0, false) by simp [outP, outOk, h1])
    have H1 := Lib.hid h1
    have SZ := Lib.hid sz
    have hxr : RpR W W.heap.size (.agg #[.int .i64 x.p, .int .i64 x.q.v, .slice A x.q.f.length a, .slice C x.q.t.length c, .slice E x.d.length e, .slice H x.m.length h]) x := RpR.next g0 hu'
    have HXR := Lib.hid hxr
    clear h1 sz hxr hq hd hm
    have c0 := kB.cell' (i := 0) rfl
    have c1 := kB.cell' (i := 1) rfl
    have c2 := kB.cell' (i := 2) rfl
    have c3 := kB.cell' (i := 3) rfl
    have c4 := kB.cell' (i := 4) rfl
    have c5 := kB.cell' (i := 5) rfl
    go_enter Try.func51, Try.ntmps51
    go_wp2_with fail
    rw [← hW]; clear hW
    refine (implIsRep_any _ x _ HXR.out).mono ?_; rintro e w1 ⟨rfl, hb1⟩
    rw [H1.out]
    replace kR := kR.call hb1
    replace kB := kB.call hb1
    replace g0 := bthen g0 hb1
    have hs1 := hb1.size
    clear c0 c1 c2 c3 c4 c5 hb1
    have hF := HF.out
    have sz := SZ.out
    have kZ := kR
    have p0 := kZ.cell' (i := 0) rfl
    have p1 := kZ.cell' (i := 1) rfl
    have p2 := kZ.cell' (i := 2) rfl
    have fr := kZ.frozen
    clear hF kR kB
    go_wp2
    have hF := HF.out
    exact bodyPost_ret (v := .tuple #[.agg #[.int .i64 0, .int .i64 0, .slice none 0 0], .bool false]) (by simp [results, go_sem, p0, p1, p2]) rfl ⟨_, by rw [hF], by rw [hF]; exact MxO.zero _ _ _, ((g0.setCell (by simp) _).setCell (by simp) _).setCell (by simp) _⟩
  · have HF := Lib.hid (show outP x v = (mx0, false) by simp [outP, hno])
    have hq1 : isQ x.q = true := (areDims_t.1 (isRep_t.1 h1).2.1).1
    have h2 : endV x.q.t x.q v = false := by simpa [outOk, h1] using hno
    have H1 := Lib.hid h1
    have H2 := Lib.hid h2
    have HQ1 := Lib.hid hq1
    have SZ := Lib.hid sz
    have hxr : RpR W W.heap.size (.agg #[.int .i64 x.p, .int .i64 x.q.v, .slice A x.q.f.length a, .slice C x.q.t.length c, .slice E x.d.length e, .slice H x.m.length h]) x := RpR.next g0 hu'
    have HXR := Lib.hid hxr
    clear h1 h2 hq1 hno sz hxr hd hm
    have c0 := kB.cell' (i := 0) rfl
    have c1 := kB.cell' (i := 1) rfl
    have c2 := kB.cell' (i := 2) rfl
    have c3 := kB.cell' (i := 3) rfl
    have c4 := kB.cell' (i := 4) rfl
    have c5 := kB.cell' (i := 5) rfl
    go_enter Try.func51, Try.ntmps51
    go_wp2_with fail
    rw [← hW]; clear hW
    refine (implIsRep_any _ x _ HXR.out).mono ?_; rintro e w1 ⟨rfl, hb1⟩
    rw [H1.out]
    replace kR := kR.call hb1
    replace kB := kB.call hb1
    replace g0 := bthen g0 hb1
    replace hq := QvR.next hb1 hq
    have hs1 := hb1.size
    clear c0 c1 c2 c3 c4 c5 hb1
    have c0 := kB.cell' (i := 0) rfl
    have c1 := kB.cell' (i := 1) rfl
    have c2 := kB.cell' (i := 2) rfl
    have c3 := kB.cell' (i := 3) rfl
    have c4 := kB.cell' (i := 4) rfl
    have c5 := kB.cell' (i := 5) rfl
    go_wp2_with fail
    refine (isSource_any _ x.q v _ hq HQ1.out).mono ?_; rintro e w2 ⟨rfl, hb1⟩
    rw [H2.out]
    replace kR := kR.call hb1
    replace kB := kB.call hb1
    replace g0 := bthen g0 hb1
    have hs2 := hb1.size
    clear c0 c1 c2 c3 c4 c5 hb1 hq
    have hF := HF.out
    have sz := SZ.out
    have kZ := kR
    have p0 := kZ.cell' (i := 0) rfl
    have p1 := kZ.cell' (i := 1) rfl
    have p2 := kZ.cell' (i := 2) rfl
    have fr := kZ.frozen
    clear hF kR kB
    go_wp2
    have hF := HF.out
    exact bodyPost_ret (v := .tuple #[.agg #[.int .i64 0, .int .i64 0, .slice none 0 0], .bool false]) (by simp [results, go_sem, p0, p1, p2]) rfl ⟨_, by rw [hF], by rw [hF]; exact MxO.zero _ _ _, ((g0.setCell (by simp) _).setCell (by simp) _).setCell (by simp) _⟩
set_option maxHeartbeats 3200000 in
set_option maxRecDepth 100000 in
theorem implIn_no (u : Value) (x : Rp) (v : Int) (w0 : World) (hu : RpR w0 w0.heap.size u x) (hno : inOk x v = false) :
    Calls Try.prog 46 #[u, .int .i64 v] w0 fun e w' => ∃ r, e = .returned (.tuple #[r, .bool (inP x v).2]) ∧ MxO w' w0.heap.size w'.heap.size r (inP x v).1 ∧ Below w0.heap.size w0 w' := by
  have hu' := hu
  obtain ⟨A, a, C, c, E, e, H, h, rfl, hq, hd, hm, hp, ld, lm⟩ := hu.open_
  clear hu
  obtain ⟨W, hW⟩ : ∃ W, W = (w0.alloc (.cells #[.int .i64 x.p, .int .i64 x.q.v, .slice A x.q.f.length a, .slice C x.q.t.length c, .slice E x.d.length e, .slice H x.m.length h] 40)).alloc (.cells #[.int .i64 0, .int .i64 0, .slice none 0 0] 60) := ⟨_, rfl⟩
  have g0 : Below w0.heap.size w0 W := by rw [hW]; exact ((Below.refl _ _).alloc (Nat.le_refl _) _).alloc (by simp) _
  have kB : Blk W w0.heap.size 40 #[.int .i64 x.p, .int .i64 x.q.v, .slice A x.q.f.length a, .slice C x.q.t.length c, .slice E x.d.length e, .slice H x.m.length h] := by rw [hW]; exact (Blk.new _ _ _).alloc _
  have kR : Blk W (w0.heap.size + 1) 60 #[.int .i64 0, .int .i64 0, .slice none 0 0] := by
    rw [hW]
    have := Blk.new (w0.alloc (.cells #[.int .i64 x.p, .int .i64 x.q.v, .slice A x.q.f.length a, .slice C x.q.t.length c, .slice E x.d.length e, .slice H x.m.length h] 40)) 60 #[.int .i64 0, .int .i64 0, .slice none 0 0]
    simpa only [World.size_alloc] using this
  have sz : W.heap.size = w0.heap.size + 1 + 1 := by rw [hW]; simp
  replace hq := QvR.next g0 hq
  replace hd := SlI.next g0 hd
  replace hm := SlM.next g0 hm
  rcases h1 : isRep x with _ | _
  · have HF := Lib.hid (show inP x v = (mx0, false) by simp [inP, inOk, h1])
    have H1 := Lib.hid h1
    have SZ := Lib.hid sz
    have hxr : RpR W W.heap.size (.agg #[.int .i64 x.p, .int .i64 x.q.v, .slice A x.q.f.length a, .slice C x.q.t.length c, .slice E x.d.length e, .slice H x.m.length h]) x := RpR.next g0 hu'
    have HXR := Lib.hid hxr
    clear h1 sz hxr hq hd hm
    have c0 := kB.cell' (i := 0) rfl
    have c1 := kB.cell' (i := 1) rfl
    have c2 := kB.cell' (i := 2) rfl
    have c3 := kB.cell' (i := 3) rfl
    have c4 := kB.cell' (i := 4) rfl
    have c5 := kB.cell' (i := 5) rfl
    go_enter Try.func46, Try.ntmps46
    go_wp2_with fail
    rw [← hW]; clear hW
    refine (implIsRep_any _ x _ HXR.out).mono ?_; rintro e w1 ⟨rfl, hb1⟩
    rw [H1.out]
    replace kR := kR.call hb1
    replace kB := kB.call hb1
    replace g0 := bthen g0 hb1
    have hs1 := hb1.size
    clear c0 c1 c2 c3 c4 c5 hb1
    have hF := HF.out
    have sz := SZ.out
    have kZ := kR
    have p0 := kZ.cell' (i := 0) rfl
    have p1 := kZ.cell' (i := 1) rfl
    have p2 := kZ.cell' (i := 2) rfl
    have fr := kZ.frozen
    clear hF kR kB
    go_wp2
    have hF := HF.out
    exact bodyPost_ret (v := .tuple #[.agg #[.int .i64 0, .int .i64 0, .slice none 0 0], .bool false]) (by simp [results, go_sem, p0, p1, p2]) rfl ⟨_, by rw [hF], by rw [hF]; exact MxO.zero _ _ _, ((g0.setCell (by simp) _).setCell (by simp) _).setCell (by simp) _⟩
  · have HF := Lib.hid (show inP x v = (mx0, false) by simp [inP, hno])
    have hq1 : isQ x.q = true := (areDims_t.1 (isRep_t.1 h1).2.1).1
    have h2 : endV x.q.f x.q v = false := by simpa [inOk, h1] using hno
    have H1 := Lib.hid h1
    have H2 := Lib.hid h2
    have HQ1 := Lib.hid hq1
    have SZ := Lib.hid sz
    have hxr : RpR W W.heap.size (.agg #[.int .i64 x.p, .int .i64 x.q.v, .slice A x.q.f.length a, .slice C x.q.t.length c, .slice E x.d.length e, .slice H x.m.length h]) x := RpR.next g0 hu'
    have HXR := Lib.hid hxr
    clear h1 h2 hq1 hno sz hxr hd hm
    have c0 := kB.cell' (i := 0) rfl
    have c1 := kB.cell' (i := 1) rfl
    have c2 := kB.cell' (i := 2) rfl
    have c3 := kB.cell' (i := 3) rfl
    have c4 := kB.cell' (i := 4) rfl
    have c5 := kB.cell' (i := 5) rfl
    go_enter Try.func46, Try.ntmps46
    go_wp2_with fail
    rw [← hW]; clear hW
    refine (implIsRep_any _ x _ HXR.out).mono ?_; rintro e w1 ⟨rfl, hb1⟩
    rw [H1.out]
    replace kR := kR.call hb1
    replace kB := kB.call hb1
    replace g0 := bthen g0 hb1
    replace hq := QvR.next hb1 hq
    have hs1 := hb1.size
    clear c0 c1 c2 c3 c4 c5 hb1
    have c0 := kB.cell' (i := 0) rfl
    have c1 := kB.cell' (i := 1) rfl
    have c2 := kB.cell' (i := 2) rfl
    have c3 := kB.cell' (i := 3) rfl
    have c4 := kB.cell' (i := 4) rfl
    have c5 := kB.cell' (i := 5) rfl
    go_wp2_with fail
    refine (isSink_any _ x.q v _ hq HQ1.out).mono ?_; rintro e w2 ⟨rfl, hb1⟩
    rw [H2.out]
    replace kR := kR.call hb1
    replace kB := kB.call hb1
    replace g0 := bthen g0 hb1
    have hs2 := hb1.size
    clear c0 c1 c2 c3 c4 c5 hb1 hq
    have hF := HF.out
    have sz := SZ.out
    have kZ := kR
    have p0 := kZ.cell' (i := 0) rfl
    have p1 := kZ.cell' (i := 1) rfl
    have p2 := kZ.cell' (i := 2) rfl
    have fr := kZ.frozen
    clear hF kR kB
    go_wp2
    have hF := HF.out
    exact bodyPost_ret (v := .tuple #[.agg #[.int .i64 0, .int .i64 0, .slice none 0 0], .bool false]) (by simp [results, go_sem, p0, p1, p2]) rfl ⟨_, by rw [hF], by rw [hF]; exact MxO.zero _ _ _, ((g0.setCell (by simp) _).setCell (by simp) _).setCell (by simp) _⟩
set_option maxHeartbeats 3200000 in
set_option maxRecDepth 100000 in
theorem specOut_no (u : Value) (x : Rp) (v : Int) (w0 : World) (hu : RpR w0 w0.heap.size u x) (hno : outOk x v = false) :
    Calls Try.prog 50 #[u, .int .i64 v] w0 fun e w' => ∃ r, e = .returned (.tuple #[r, .bool (outP x v).2]) ∧ MxO w' w0.heap.size w'.heap.size r (outP x v).1 ∧ Below w0.heap.size w0 w' := by
  have hu' := hu
  obtain ⟨A, a, C, c, E, e, H, h, rfl, hq, hd, hm, hp, ld, lm⟩ := hu.open_
  clear hu
  obtain ⟨W, hW⟩ : ∃ W, W = (w0.alloc (.cells #[.int .i64 x.p, .int .i64 x.q.v, .slice A x.q.f.length a, .slice C x.q.t.length c, .slice E x.d.length e, .slice H x.m.length h] 40)).alloc (.cells #[.int .i64 0, .int .i64 0, .slice none 0 0] 60) := ⟨_, rfl⟩
  have g0 : Below w0.heap.size w0 W := by rw [hW]; exact ((Below.refl _ _).alloc (Nat.le_refl _) _).alloc (by simp) _
  have kB : Blk W w0.heap.size 40 #[.int .i64 x.p, .int .i64 x.q.v, .slice A x.q.f.length a, .slice C x.q.t.length c, .slice E x.d.length e, .slice H x.m.length h] := by rw [hW]; exact (Blk.new _ _ _).alloc _
  have kR : Blk W (w0.heap.size + 1) 60 #[.int .i64 0, .int .i64 0, .slice none 0 0] := by
    rw [hW]
    have := Blk.new (w0.alloc (.cells #[.int .i64 x.p, .int .i64 x.q.v, .slice A x.q.f.length a, .slice C x.q.t.length c, .slice E x.d.length e, .slice H x.m.length h] 40)) 60 #[.int .i64 0, .int .i64 0, .slice none 0 0]
    simpa only [World.size_alloc] using this
  have sz : W.heap.size = w0.heap.size + 1 + 1 := by rw [hW]; simp
  replace hq := QvR.next g0 hq
  replace hd := SlI.next g0 hd
  replace hm := SlM.next g0 hm
  rcases h1 : isRep x with _ | _
  · have HF := Lib.hid (show outP x v = (mx0, false) by simp [outP, outOk, h1])
    have H1 := Lib.hid h1
    have SZ := Lib.hid sz
    have hxr : RpR W W.heap.size (.agg #[.int .i64 x.p, .int .i64 x.q.v, .slice A x.q.f.length a, .slice C x.q.t.length c, .slice E x.d.length e, .slice H x.m.length h]) x := RpR.next g0 hu'
    have HXR := Lib.hid hxr
    clear h1 sz hxr hq hd hm
    have c0 := kB.cell' (i := 0) rfl
    have c1 := kB.cell' (i := 1) rfl
    have c2 := kB.cell' (i := 2) rfl
    have c3 := kB.cell' (i := 3) rfl
    have c4 := kB.cell' (i := 4) rfl
    have c5 := kB.cell' (i := 5) rfl
    go_enter Try.func50, Try.ntmps50
    go_wp2_with fail
    rw [← hW]; clear hW
    refine (specIsRep_any _ x _ HXR.out).mono ?_; rintro e w1 ⟨rfl, hb1⟩
    rw [H1.out]
    replace kR := kR.call hb1
    replace kB := kB.call hb1
    replace g0 := bthen g0 hb1
    have hs1 := hb1.size
    clear c0 c1 c2 c3 c4 c5 hb1
    have hF := HF.out
    have sz := SZ.out
    have kZ := kR
    have p0 := kZ.cell' (i := 0) rfl
    have p1 := kZ.cell' (i := 1) rfl
    have p2 := kZ.cell' (i := 2) rfl
    have fr := kZ.frozen
    clear hF kR kB
    go_wp2
    have hF := HF.out
    exact bodyPost_ret (v := .tuple #[.agg #[.int .i64 0, .int .i64 0, .slice none 0 0], .bool false]) (by simp [results, go_sem, p0, p1, p2]) rfl ⟨_, by rw [hF], by rw [hF]; exact MxO.zero _ _ _, ((g0.setCell (by simp) _).setCell (by simp) _).setCell (by simp) _⟩
  · have HF := Lib.hid (show outP x v = (mx0, false) by simp [outP, hno])
    have hq1 : isQ x.q = true := (areDims_t.1 (isRep_t.1 h1).2.1).1
    have h2 : endV x.q.t x.q v = false := by simpa [outOk, h1] using hno
    have hV : x.q.v = (x.q.v.toNat : Int) := by have := (isQ_t.1 hq1).1; omega
    have h3 : decide (v ∈ freeV x.q.t x.q.v.toNat) = false := by rw [freeV_mem _ _ _ _ hV]; exact h2
    have H1 := Lib.hid h1
    have H3 := Lib.hid h3
    have HQ1 := Lib.hid hq1
    have SZ := Lib.hid sz
    have hxr : RpR W W.heap.size (.agg #[.int .i64 x.p, .int .i64 x.q.v, .slice A x.q.f.length a, .slice C x.q.t.length c, .slice E x.d.length e, .slice H x.m.length h]) x := RpR.next g0 hu'
    have HXR := Lib.hid hxr
    clear h1 h2 h3 hq1 hno sz hxr hd hm hV
    have c0 := kB.cell' (i := 0) rfl
    have c1 := kB.cell' (i := 1) rfl
    have c2 := kB.cell' (i := 2) rfl
    have c3 := kB.cell' (i := 3) rfl
    have c4 := kB.cell' (i := 4) rfl
    have c5 := kB.cell' (i := 5) rfl
    go_enter Try.func50, Try.ntmps50
    go_wp2_with fail
    rw [← hW]; clear hW
    refine (specIsRep_any _ x _ HXR.out).mono ?_; rintro e w1 ⟨rfl, hb1⟩
    rw [H1.out]
    replace kR := kR.call hb1
    replace kB := kB.call hb1
    replace g0 := bthen g0 hb1
    replace hq := QvR.next hb1 hq
    have hs1 := hb1.size
    clear c0 c1 c2 c3 c4 c5 hb1
    have c0 := kB.cell' (i := 0) rfl
    have c1 := kB.cell' (i := 1) rfl
    have c2 := kB.cell' (i := 2) rfl
    have c3 := kB.cell' (i := 3) rfl
    have c4 := kB.cell' (i := 4) rfl
    have c5 := kB.cell' (i := 5) rfl
    go_wp2_with fail
    refine (sourcesOf_any _ x.q _ hq HQ1.out).mono ?_; rintro e w2 ⟨sv, rfl, hsv, hb1⟩
    replace kR := kR.call hb1
    replace kB := kB.call hb1
    replace g0 := bthen g0 hb1
    have hs2 := hb1.size
    clear c0 c1 c2 c3 c4 c5 hb1 hq
    go_wp2_with fail
    refine (l4Has_any _ _ v _ hsv).mono ?_; rintro e w3 ⟨rfl, hb1⟩
    rw [H3.out]
    replace kR := kR.call hb1
    replace kB := kB.call hb1
    replace g0 := bthen g0 hb1
    have hs3 := hb1.size
    clear hb1 hsv
    have hF := HF.out
    have sz := SZ.out
    have kZ := kR
    have p0 := kZ.cell' (i := 0) rfl
    have p1 := kZ.cell' (i := 1) rfl
    have p2 := kZ.cell' (i := 2) rfl
    have fr := kZ.frozen
    clear hF kR kB
    go_wp2
    have hF := HF.out
    exact bodyPost_ret (v := .tuple #[.agg #[.int .i64 0, .int .i64 0, .slice none 0 0], .bool false]) (by simp [results, go_sem, p0, p1, p2]) rfl ⟨_, by rw [hF], by rw [hF]; exact MxO.zero _ _ _, ((g0.setCell (by simp) _).setCell (by simp) _).setCell (by simp) _⟩
set_option maxHeartbeats 3200000 in
set_option maxRecDepth 100000 in
theorem specIn_no (u : Value) (x : Rp) (v : Int) (w0 : World) (hu : RpR w0 w0.heap.size u x) (hno : inOk x v = false) :
    Calls Try.prog 44 #[u, .int .i64 v] w0 fun e w' => ∃ r, e = .returned (.tuple #[r, .bool (inP x v).2]) ∧ MxO w' w0.heap.size w'.heap.size r (inP x v).1 ∧ Below w0.heap.size w0 w' := by
  have hu' := hu
  obtain ⟨A, a, C, c, E, e, H, h, rfl, hq, hd, hm, hp, ld, lm⟩ := hu.open_
  clear hu
  obtain ⟨W, hW⟩ : ∃ W, W = (w0.alloc (.cells #[.int .i64 x.p, .int .i64 x.q.v, .slice A x.q.f.length a, .slice C x.q.t.length c, .slice E x.d.length e, .slice H x.m.length h] 40)).alloc (.cells #[.int .i64 0, .int .i64 0, .slice none 0 0] 60) := ⟨_, rfl⟩
  have g0 : Below w0.heap.size w0 W := by rw [hW]; exact ((Below.refl _ _).alloc (Nat.le_refl _) _).alloc (by simp) _
  have kB : Blk W w0.heap.size 40 #[.int .i64 x.p, .int .i64 x.q.v, .slice A x.q.f.length a, .slice C x.q.t.length c, .slice E x.d.length e, .slice H x.m.length h] := by rw [hW]; exact (Blk.new _ _ _).alloc _
  have kR : Blk W (w0.heap.size + 1) 60 #[.int .i64 0, .int .i64 0, .slice none 0 0] := by
    rw [hW]
    have := Blk.new (w0.alloc (.cells #[.int .i64 x.p, .int .i64 x.q.v, .slice A x.q.f.length a, .slice C x.q.t.length c, .slice E x.d.length e, .slice H x.m.length h] 40)) 60 #[.int .i64 0, .int .i64 0, .slice none 0 0]
    simpa only [World.size_alloc] using this
  have sz : W.heap.size = w0.heap.size + 1 + 1 := by rw [hW]; simp
  replace hq := QvR.next g0 hq
  replace hd := SlI.next g0 hd
  replace hm := SlM.next g0 hm
  rcases h1 : isRep x with _ | _
  · have HF := Lib.hid (show inP x v = (mx0, false) by simp [inP, inOk, h1])
    have H1 := Lib.hid h1
    have SZ := Lib.hid sz
    have hxr : RpR W W.heap.size (.agg #[.int .i64 x.p, .int .i64 x.q.v, .slice A x.q.f.length a, .slice C x.q.t.length c, .slice E x.d.length e, .slice H x.m.length h]) x := RpR.next g0 hu'
    have HXR := Lib.hid hxr
    clear h1 sz hxr hq hd hm
    have c0 := kB.cell' (i := 0) rfl
    have c1 := kB.cell' (i := 1) rfl
    have c2 := kB.cell' (i := 2) rfl
    have c3 := kB.cell' (i := 3) rfl
    have c4 := kB.cell' (i := 4) rfl
    have c5 := kB.cell' (i := 5) rfl
    go_enter Try.func44, Try.ntmps44
    go_wp2_with fail
    rw [← hW]; clear hW
    refine (specIsRep_any _ x _ HXR.out).mono ?_; rintro e w1 ⟨rfl, hb1⟩
    rw [H1.out]
    replace kR := kR.call hb1
    replace kB := kB.call hb1
    replace g0 := bthen g0 hb1
    have hs1 := hb1.size
    clear c0 c1 c2 c3 c4 c5 hb1
    have hF := HF.out
    have sz := SZ.out
    have kZ := kR
    have p0 := kZ.cell' (i := 0) rfl
    have p1 := kZ.cell' (i := 1) rfl
    have p2 := kZ.cell' (i := 2) rfl
    have fr := kZ.frozen
    clear hF kR kB
    go_wp2
    have hF := HF.out
    exact bodyPost_ret (v := .tuple #[.agg #[.int .i64 0, .int .i64 0, .slice none 0 0], .bool false]) (by simp [results, go_sem, p0, p1, p2]) rfl ⟨_, by rw [hF], by rw [hF]; exact MxO.zero _ _ _, ((g0.setCell (by simp) _).setCell (by simp) _).setCell (by simp) _⟩
  · have HF := Lib.hid (show inP x v = (mx0, false) by simp [inP, hno])
    have hq1 : isQ x.q = true := (areDims_t.1 (isRep_t.1 h1).2.1).1
    have h2 : endV x.q.f x.q v = false := by simpa [inOk, h1] using hno
    have hV : x.q.v = (x.q.v.toNat : Int) := by have := (isQ_t.1 hq1).1; omega
    have h3 : decide (v ∈ freeV x.q.f x.q.v.toNat) = false := by rw [freeV_mem _ _ _ _ hV]; exact h2
    have H1 := Lib.hid h1
    have H3 := Lib.hid h3
    have HQ1 := Lib.hid hq1
    have SZ := Lib.hid sz
    have hxr : RpR W W.heap.size (.agg #[.int .i64 x.p, .int .i64 x.q.v, .slice A x.q.f.length a, .slice C x.q.t.length c, .slice E x.d.length e, .slice H x.m.length h]) x := RpR.next g0 hu'
    have HXR := Lib.hid hxr
    clear h1 h2 h3 hq1 hno sz hxr hd hm hV
    have c0 := kB.cell' (i := 0) rfl
    have c1 := kB.cell' (i := 1) rfl
    have c2 := kB.cell' (i := 2) rfl
    have c3 := kB.cell' (i := 3) rfl
    have c4 := kB.cell' (i := 4) rfl
    have c5 := kB.cell' (i := 5) rfl
    go_enter Try.func44, Try.ntmps44
    go_wp2_with fail
    rw [← hW]; clear hW
    refine (specIsRep_any _ x _ HXR.out).mono ?_; rintro e w1 ⟨rfl, hb1⟩
    rw [H1.out]
    replace kR := kR.call hb1
    replace kB := kB.call hb1
    replace g0 := bthen g0 hb1
    replace hq := QvR.next hb1 hq
    have hs1 := hb1.size
    clear c0 c1 c2 c3 c4 c5 hb1
    have c0 := kB.cell' (i := 0) rfl
    have c1 := kB.cell' (i := 1) rfl
    have c2 := kB.cell' (i := 2) rfl
    have c3 := kB.cell' (i := 3) rfl
    have c4 := kB.cell' (i := 4) rfl
    have c5 := kB.cell' (i := 5) rfl
    go_wp2_with fail
    refine (sinksOf_any _ x.q _ hq HQ1.out).mono ?_; rintro e w2 ⟨sv, rfl, hsv, hb1⟩
    replace kR := kR.call hb1
    replace kB := kB.call hb1
    replace g0 := bthen g0 hb1
    have hs2 := hb1.size
    clear c0 c1 c2 c3 c4 c5 hb1 hq
    go_wp2_with fail
    refine (l4Has_any _ _ v _ hsv).mono ?_; rintro e w3 ⟨rfl, hb1⟩
    rw [H3.out]
    replace kR := kR.call hb1
    replace kB := kB.call hb1
    replace g0 := bthen g0 hb1
    have hs3 := hb1.size
    clear hb1 hsv
    have hF := HF.out
    have sz := SZ.out
    have kZ := kR
    have p0 := kZ.cell' (i := 0) rfl
    have p1 := kZ.cell' (i := 1) rfl
    have p2 := kZ.cell' (i := 2) rfl
    have fr := kZ.frozen
    clear hF kR kB
    go_wp2
    have hF := HF.out
    exact bodyPost_ret (v := .tuple #[.agg #[.int .i64 0, .int .i64 0, .slice none 0 0], .bool false]) (by simp [results, go_sem, p0, p1, p2]) rfl ⟨_, by rw [hF], by rw [hF]; exact MxO.zero _ _ _, ((g0.setCell (by simp) _).setCell (by simp) _).setCell (by simp) _⟩
end Go.Proofs.Ytbgjhnolnccnnaa
