/- FnExactReflectSource: for every argument the program's function returns what the reference's returns. Part 10 of 14 of the proof: InOut2, InOut3, Red2, L16, InOut4. No condition. -/
import Derived.Test.YtaefpblpfjhgoaaGreatBReflectSource9
/- OutgoingMatrix, IncomingMatrix: where the answer is no. -/
namespace Go.Proofs.YtaefpblpfjhgoaaGreat
set_option linter.unusedVariables false
set_option linter.unusedSimpArgs false
open Go.RowKit
set_option maxHeartbeats 3200000 in
set_option maxRecDepth 100000 in
theorem implOut_no (u : Value) (x : Rp) (v : Int) (w0 : World) (hu : RpR w0 w0.heap.size u x) (hno : outOk x v = false) :
    Calls Tryz.prog 32 #[u, .int .i64 v] w0 fun e w' => ∃ r, e = .returned (.tuple #[r, .bool (outP x v).2]) ∧ MxO w' w0.heap.size w'.heap.size r (outP x v).1 ∧ Below w0.heap.size w0 w' := by
  have hu' := hu
  obtain ⟨A, a, C, c, E, e, H, h, rfl, hq, hd, hm, hp, ld, lm⟩ := hu.open_
  clear hu
  obtain ⟨W, hW⟩ : ∃ W, W = (w0.alloc (.cells #[.int .i64 x.p, .int .i64 x.q.v, .slice A x.q.f.length a, .slice C x.q.t.length c, .slice E x.d.length e, .slice H x.m.length h] 32)).alloc (.cells #[.int .i64 0, .int .i64 0, .slice none 0 0] 50) := ⟨_, rfl⟩
  have g0 : Below w0.heap.size w0 W := by rw [hW]; exact ((Below.refl _ _).alloc (Nat.le_refl _) _).alloc (by simp) _
  have kB : Blk W w0.heap.size 32 #[.int .i64 x.p, .int .i64 x.q.v, .slice A x.q.f.length a, .slice C x.q.t.length c, .slice E x.d.length e, .slice H x.m.length h] := by rw [hW]; exact (Blk.new _ _ _).alloc _
  have kR : Blk W (w0.heap.size + 1) 50 #[.int .i64 0, .int .i64 0, .slice none 0 0] := by
    rw [hW]
    have := Blk.new (w0.alloc (.cells #[.int .i64 x.p, .int .i64 x.q.v, .slice A x.q.f.length a, .slice C x.q.t.length c, .slice E x.d.length e, .slice H x.m.length h] 32)) 50 #[.int .i64 0, .int .i64 0, .slice none 0 0]
    simpa only [World.size_alloc] using this
  have sz : W.heap.size = w0.heap.size + 1 + 1 := by rw [hW]; simp
  replace hq := QvR.next g0 hq
  replace hd := SlI.next g0 hd
  replace hm := SlM.next g0 hm
  rcases h1 : isRep x with _ | _
  · have HF := Lib.hid (show outP x v = (mx0, false) by simp [outP, outOk, h1])
    have H1 := Lib.hid h1
    have SZ := Lib.hid sz
    have hxr : RpR W W.heap.size (.agg #[.int .i64 x.p, .int .i64 x.q.v, .slice A x.q.f.length a, .slice C x.q.t.length c, .slice E x.d.length e, .slice H x.m.length h]) x := RpR.next g0 hu'
    have HXR := Lib.hid hxr
    clear h1 sz hxr hq hd hm
    have c0 := kB.cell' (i := 0) rfl
    have c1 := kB.cell' (i := 1) rfl
    have c2 := kB.cell' (i := 2) rfl
    have c3 := kB.cell' (i := 3) rfl
    have c4 := kB.cell' (i := 4) rfl
    have c5 := kB.cell' (i := 5) rfl
    go_enter Tryz.func32, Tryz.ntmps32
    go_wp2_with fail
    rw [← hW]; clear hW
    refine (implIsRep_any _ x _ HXR.out).mono ?_; rintro e w1 ⟨rfl, hb1⟩
    rw [H1.out]
    replace kR := kR.call hb1
    replace kB := kB.call hb1
    replace g0 := bthen g0 hb1
    have hs1 := hb1.size
    clear c0 c1 c2 c3 c4 c5 hb1
    have hF := HF.out
    have sz := SZ.out
    have kZ := kR
    have p0 := kZ.cell' (i := 0) rfl
    have p1 := kZ.cell' (i := 1) rfl
    have p2 := kZ.cell' (i := 2) rfl
    have fr := kZ.frozen
    clear hF kR kB
    go_wp2
    have hF := HF.out
    exact bodyPost_ret (v := .tuple #[.agg #[.int .i64 0, .int .i64 0, .slice none 0 0], .bool false]) (by simp [results, go_sem, p0, p1, p2]) rfl ⟨_, by rw [hF], by rw [hF]; exact MxO.zero _ _ _, ((g0.setCell (by simp) _).setCell (by simp) _).setCell (by simp) _⟩
  · have HF := Lib.hid (show outP x v = (mx0, false) by simp [outP, hno])
    have hq1 : isQ x.q = true := (areDims_t.1 (isRep_t.1 h1).2.1).1
    have h2 : endV x.q.t x.q v = false := by simpa [outOk, h1] using hno
    have H1 := Lib.hid h1
    have H2 := Lib.hid h2
    have HQ1 := Lib.hid hq1
    have SZ := Lib.hid sz
    have hxr : RpR W W.heap.size (.agg #[.int .i64 x.p, .int .i64 x.q.v, .slice A x.q.f.length a, .slice C x.q.t.length c, .slice E x.d.length e, .slice H x.m.length h]) x := RpR.next g0 hu'
    have HXR := Lib.hid hxr
    clear h1 h2 hq1 hno sz hxr hd hm
    have c0 := kB.cell' (i := 0) rfl
    have c1 := kB.cell' (i := 1) rfl
    have c2 := kB.cell' (i := 2) rfl
    have c3 := kB.cell' (i := 3) rfl
    have c4 := kB.cell' (i := 4) rfl
    have c5 := kB.cell' (i := 5) rfl
    go_enter Tryz.func32, Tryz.ntmps32
    go_wp2_with fail
    rw [← hW]; clear hW
    refine (implIsRep_any _ x _ HXR.out).mono ?_; rintro e w1 ⟨rfl, hb1⟩
    rw [H1.out]
    replace kR := kR.call hb1
    replace kB := kB.call hb1
    replace g0 := bthen g0 hb1
    replace hq := QvR.next hb1 hq
    have hs1 := hb1.size
    clear c0 c1 c2 c3 c4 c5 hb1
    have c0 := kB.cell' (i := 0) rfl
    have c1 := kB.cell' (i := 1) rfl
    have c2 := kB.cell' (i := 2) rfl
    have c3 := kB.cell' (i := 3) rfl
    have c4 := kB.cell' (i := 4) rfl
    have c5 := kB.cell' (i := 5) rfl
    go_wp2_with fail
    refine (isSource_any _ x.q v _ hq HQ1.out).mono ?_; rintro e w2 ⟨rfl, hb1⟩
    rw [H2.out]
    replace kR := kR.call hb1
    replace kB := kB.call hb1
    replace g0 := bthen g0 hb1
    have hs2 := hb1.size
    clear c0 c1 c2 c3 c4 c5 hb1 hq
    have hF := HF.out
    have sz := SZ.out
    have kZ := kR
    have p0 := kZ.cell' (i := 0) rfl
    have p1 := kZ.cell' (i := 1) rfl
    have p2 := kZ.cell' (i := 2) rfl
    have fr := kZ.frozen
    clear hF kR kB
    go_wp2
    have hF := HF.out
    exact bodyPost_ret (v := .tuple #[.agg #[.int .i64 0, .int .i64 0, .slice none 0 0], .bool false]) (by simp [results, go_sem, p0, p1, p2]) rfl ⟨_, by rw [hF], by rw [hF]; exact MxO.zero _ _ _, ((g0.setCell (by simp) _).setCell (by simp) _).setCell (by simp) _⟩
set_option maxHeartbeats 3200000 in
set_option maxRecDepth 100000 in
theorem specOut_no (u : Value) (x : Rp) (v : Int) (w0 : World) (hu : RpR w0 w0.heap.size u x) (hno : outOk x v = false) :
    Calls Tryz.prog 23 #[u, .int .i64 v] w0 fun e w' => ∃ r, e = .returned (.tuple #[r, .bool (outP x v).2]) ∧ MxO w' w0.heap.size w'.heap.size r (outP x v).1 ∧ Below w0.heap.size w0 w' := by
  have hu' := hu
  obtain ⟨A, a, C, c, E, e, H, h, rfl, hq, hd, hm, hp, ld, lm⟩ := hu.open_
  clear hu
  obtain ⟨W, hW⟩ : ∃ W, W = (w0.alloc (.cells #[.int .i64 x.p, .int .i64 x.q.v, .slice A x.q.f.length a, .slice C x.q.t.length c, .slice E x.d.length e, .slice H x.m.length h] 32)).alloc (.cells #[.int .i64 0, .int .i64 0, .slice none 0 0] 50) := ⟨_, rfl⟩
  have g0 : Below w0.heap.size w0 W := by rw [hW]; exact ((Below.refl _ _).alloc (Nat.le_refl _) _).alloc (by simp) _
  have kB : Blk W w0.heap.size 32 #[.int .i64 x.p, .int .i64 x.q.v, .slice A x.q.f.length a, .slice C x.q.t.length c, .slice E x.d.length e, .slice H x.m.length h] := by rw [hW]; exact (Blk.new _ _ _).alloc _
  have kR : Blk W (w0.heap.size + 1) 50 #[.int .i64 0, .int .i64 0, .slice none 0 0] := by
    rw [hW]
    have := Blk.new (w0.alloc (.cells #[.int .i64 x.p, .int .i64 x.q.v, .slice A x.q.f.length a, .slice C x.q.t.length c, .slice E x.d.length e, .slice H x.m.length h] 32)) 50 #[.int .i64 0, .int .i64 0, .slice none 0 0]
    simpa only [World.size_alloc] using this
  have sz : W.heap.size = w0.heap.size + 1 + 1 := by rw [hW]; simp
  replace hq := QvR.next g0 hq
  replace hd := SlI.next g0 hd
  replace hm := SlM.next g0 hm
  rcases h1 : isRep x with _ | _
  · have HF := Lib.hid (show outP x v = (mx0, false) by simp [outP, outOk, h1])
    have H1 := Lib.hid h1
    have SZ := Lib.hid sz
    have hxr : RpR W W.heap.size (.agg #[.int .i64 x.p, .int .i64 x.q.v, .slice A x.q.f.length a, .slice C x.q.t.length c, .slice E x.d.length e, .slice H x.m.length h]) x := RpR.next g0 hu'
    have HXR := Lib.hid hxr
    clear h1 sz hxr hq hd hm
    have c0 := kB.cell' (i := 0) rfl
    have c1 := kB.cell' (i := 1) rfl
    have c2 := kB.cell' (i := 2) rfl
    have c3 := kB.cell' (i := 3) rfl
    have c4 := kB.cell' (i := 4) rfl
    have c5 := kB.cell' (i := 5) rfl
    go_enter Tryz.func23, Tryz.ntmps23
    go_wp2_with fail
    rw [← hW]; clear hW
    refine (specIsRep_any _ x _ HXR.out).mono ?_; rintro e w1 ⟨rfl, hb1⟩
    rw [H1.out]
    replace kR := kR.call hb1
    replace kB := kB.call hb1
    replace g0 := bthen g0 hb1
    have hs1 := hb1.size
    clear c0 c1 c2 c3 c4 c5 hb1
    have hF := HF.out
    have sz := SZ.out
    have kZ := kR
    have p0 := kZ.cell' (i := 0) rfl
    have p1 := kZ.cell' (i := 1) rfl
    have p2 := kZ.cell' (i := 2) rfl
    have fr := kZ.frozen
    clear hF kR kB
    go_wp2
    have hF := HF.out
    exact bodyPost_ret (v := .tuple #[.agg #[.int .i64 0, .int .i64 0, .slice none 0 0], .bool false]) (by simp [results, go_sem, p0, p1, p2]) rfl ⟨_, by rw [hF], by rw [hF]; exact MxO.zero _ _ _, ((g0.setCell (by simp) _).setCell (by simp) _).setCell (by simp) _⟩
  · have HF := Lib.hid (show outP x v = (mx0, false) by simp [outP, hno])
    have hq1 : isQ x.q = true := (areDims_t.1 (isRep_t.1 h1).2.1).1
    have h2 : endV x.q.t x.q v = false := by simpa [outOk, h1] using hno
    have hV : x.q.v = (x.q.v.toNat : Int) := by have := (isQ_t.1 hq1).1; omega
    have h3 : decide (v ∈ freeV x.q.t x.q.v.toNat) = false := by rw [freeV_mem _ _ _ _ hV]; exact h2
    have H1 := Lib.hid h1
    have H3 := Lib.hid h3
    have HQ1 := Lib.hid hq1
    have SZ := Lib.hid sz
    have hxr : RpR W W.heap.size (.agg #[.int .i64 x.p, .int .i64 x.q.v, .slice A x.q.f.length a, .slice C x.q.t.length c, .slice E x.d.length e, .slice H x.m.length h]) x := RpR.next g0 hu'
    have HXR := Lib.hid hxr
    clear h1 h2 h3 hq1 hno sz hxr hd hm hV
    have c0 := kB.cell' (i := 0) rfl
    have c1 := kB.cell' (i := 1) rfl
    have c2 := kB.cell' (i := 2) rfl
    have c3 := kB.cell' (i := 3) rfl
    have c4 := kB.cell' (i := 4) rfl
    have c5 := kB.cell' (i := 5) rfl
    go_enter Tryz.func23, Tryz.ntmps23
    go_wp2_with fail
    rw [← hW]; clear hW
    refine (specIsRep_any _ x _ HXR.out).mono ?_; rintro e w1 ⟨rfl, hb1⟩
    rw [H1.out]
    replace kR := kR.call hb1
    replace kB := kB.call hb1
    replace g0 := bthen g0 hb1
    replace hq := QvR.next hb1 hq
    have hs1 := hb1.size
    clear c0 c1 c2 c3 c4 c5 hb1
    have c0 := kB.cell' (i := 0) rfl
    have c1 := kB.cell' (i := 1) rfl
    have c2 := kB.cell' (i := 2) rfl
    have c3 := kB.cell' (i := 3) rfl
    have c4 := kB.cell' (i := 4) rfl
    have c5 := kB.cell' (i := 5) rfl
    go_wp2_with fail
    refine (sourcesOf_any _ x.q _ hq HQ1.out).mono ?_; rintro e w2 ⟨sv, rfl, hsv, hb1⟩
    replace kR := kR.call hb1
    replace kB := kB.call hb1
    replace g0 := bthen g0 hb1
    have hs2 := hb1.size
    clear c0 c1 c2 c3 c4 c5 hb1 hq
    go_wp2_with fail
    refine (l4Has_any _ _ v _ hsv).mono ?_; rintro e w3 ⟨rfl, hb1⟩
    rw [H3.out]
    replace kR := kR.call hb1
    replace kB := kB.call hb1
    replace g0 := bthen g0 hb1
    have hs3 := hb1.size
    clear hb1 hsv
    have hF := HF.out
    have sz := SZ.out
    have kZ := kR
    have p0 := kZ.cell' (i := 0) rfl
    have p1 := kZ.cell' (i := 1) rfl
    have p2 := kZ.cell' (i := 2) rfl
    have fr := kZ.frozen
    clear hF kR kB
    go_wp2
    have hF := HF.out
    exact bodyPost_ret (v := .tuple #[.agg #[.int .i64 0, .int .i64 0, .slice none 0 0], .bool false]) (by simp [results, go_sem, p0, p1, p2]) rfl ⟨_, by rw [hF], by rw [hF]; exact MxO.zero _ _ _, ((g0.setCell (by simp) _).setCell (by simp) _).setCell (by simp) _⟩
end Go.Proofs.YtaefpblpfjhgoaaGreat

/- OutgoingMatrix, IncomingMatrix of the program. -/
namespace Go.Proofs.YtaefpblpfjhgoaaGreat
set_option linter.unusedVariables false
set_option linter.unusedSimpArgs false
open Go.RowKit
set_option maxHeartbeats 6400000 in
set_option maxRecDepth 100000 in
theorem implOut_yes (u : Value) (x : Rp) (v : Int) (w0 : World) (hu : RpR w0 w0.heap.size u x) (hyes : outOk x v = true) :
    Calls Tryz.prog 32 #[u, .int .i64 v] w0 fun e w' => ∃ r, e = .returned (.tuple #[r, .bool (outP x v).2]) ∧ MxO w' w0.heap.size w'.heap.size r (outP x v).1 ∧ Below w0.heap.size w0 w' := by
  have hu' := hu
  obtain ⟨A, a, C, c, E, e, H, h, rfl, hq, hd, hm, hp, ld, lm⟩ := hu.open_
  clear hu
  obtain ⟨W, hW⟩ : ∃ W, W = (w0.alloc (.cells #[.int .i64 x.p, .int .i64 x.q.v, .slice A x.q.f.length a, .slice C x.q.t.length c, .slice E x.d.length e, .slice H x.m.length h] 32)).alloc (.cells #[.int .i64 0, .int .i64 0, .slice none 0 0] 50) := ⟨_, rfl⟩
  have g0 : Below w0.heap.size w0 W := by rw [hW]; exact ((Below.refl _ _).alloc (Nat.le_refl _) _).alloc (by simp) _
  have kB : Blk W w0.heap.size 32 #[.int .i64 x.p, .int .i64 x.q.v, .slice A x.q.f.length a, .slice C x.q.t.length c, .slice E x.d.length e, .slice H x.m.length h] := by rw [hW]; exact (Blk.new _ _ _).alloc _
  have kR : Blk W (w0.heap.size + 1) 50 #[.int .i64 0, .int .i64 0, .slice none 0 0] := by
    rw [hW]
    have := Blk.new (w0.alloc (.cells #[.int .i64 x.p, .int .i64 x.q.v, .slice A x.q.f.length a, .slice C x.q.t.length c, .slice E x.d.length e, .slice H x.m.length h] 32)) 50 #[.int .i64 0, .int .i64 0, .slice none 0 0]
    simpa only [World.size_alloc] using this
  have sz : W.heap.size = w0.heap.size + 1 + 1 := by rw [hW]; simp
  replace hq := QvR.next g0 hq
  replace hd := SlI.next g0 hd
  replace hm := SlM.next g0 hm
  have h1 : isRep x = true := by simp only [outOk, Bool.and_eq_true] at hyes; exact hyes.1
  have h2 : endV x.q.t x.q v = true := by simp only [outOk, Bool.and_eq_true] at hyes; exact hyes.2
  have hq1 : isQ x.q = true := (areDims_t.1 (isRep_t.1 h1).2.1).1
  obtain ⟨n, D, rfl, hn, dn, hD, hD4, hn5⟩ := vert_at h1 h2
  have HF := Lib.hid (outP_yes hyes hD)
  have DN := Lib.hid dn
  have H1 := Lib.hid h1
  have H2 := Lib.hid h2
  have HQ1 := Lib.hid hq1
  have SZ := Lib.hid sz
  have hl6 : x.q.f.length ≤ 6 := (isQ_t.1 hq1).2.2.1
  have HXR := Lib.hid (show RpR W W.heap.size (.agg #[.int .i64 x.p, .int .i64 x.q.v, .slice A x.q.f.length a, .slice C x.q.t.length c, .slice E x.d.length e, .slice H x.m.length h]) x from RpR.next g0 hu')
  have HQ := Lib.hid hq
  have HD := Lib.hid hd
  have HM := Lib.hid hm
  have KB := Lib.hid kB
  have KR := Lib.hid kR
  have G0 := Lib.hid g0
  clear h1 h2 hq1 sz hD hyes hu' hm
  have c0 := kB.cell' (i := 0) rfl
  have c1 := kB.cell' (i := 1) rfl
  have c2 := kB.cell' (i := 2) rfl
  have c3 := kB.cell' (i := 3) rfl
  have c4 := kB.cell' (i := 4) rfl
  have c5 := kB.cell' (i := 5) rfl
  go_enter Tryz.func32, Tryz.ntmps32
  go_wp2_with fail
  rw [← hW]; clear hW
  refine (implIsRep_any _ x _ HXR.out).mono ?_; rintro e w1 ⟨rfl, hb1⟩
  rw [H1.out]
  replace kB := kB.call hb1
  replace hq := QvR.next hb1 hq
  have gW := hb1
  clear c0 c1 c2 c3 c4 c5 hb1
  have c0 := kB.cell' (i := 0) rfl
  have c1 := kB.cell' (i := 1) rfl
  have c2 := kB.cell' (i := 2) rfl
  have c3 := kB.cell' (i := 3) rfl
  have c4 := kB.cell' (i := 4) rfl
  have c5 := kB.cell' (i := 5) rfl
  go_wp2_with fail
  refine (isSource_any _ x.q n _ hq HQ1.out).mono ?_; rintro e w2 ⟨rfl, hb1⟩
  rw [H2.out]
  replace kB := kB.call hb1
  replace gW := bthen gW hb1
  clear c0 c1 c2 c3 c4 c5 hb1 hq
  have c0 := kB.cell' (i := 0) rfl
  have c1 := kB.cell' (i := 1) rfl
  have c2 := kB.cell' (i := 2) rfl
  have c3 := kB.cell' (i := 3) rfl
  have c4 := kB.cell' (i := 4) rfl
  have c5 := kB.cell' (i := 5) rfl
  have hd2 := SlI.more gW.size (SlI.below gW hd)
  obtain ⟨be, oe, xe, rfl, hbe, HXE, xc, _⟩ := SlI.at_ hd2 hn
  have ex := HXE.out
  rw [dn] at ex
  injection ex with ex
  subst ex
  clear hd hd2 HXE hbe
  go_wp2_with fail
  refine (zero_any 0 (D : Int) _ (by omega) (by omega) (by omega) (by omega)).mono ?_; rintro e w3 ⟨v3, rfl, hZ, hb3⟩
  rw [outM_0 x n D] at hZ
  obtain ⟨MA, mc, e3⟩ := hZ.form
  subst e3
  have gW3 := bthen gW hb3
  have hs3 := hb3.size
  have hs2 := gW.size
  obtain ⟨N3, hN3⟩ : ∃ nn, (outM x n D 0).a.length = nn := ⟨_, rfl⟩
  rw [hN3] at hZ ⊢
  obtain ⟨W4, hW4⟩ : ∃ W4, W4 = w3.alloc (.cells #[.int .i64 (outM x n D 0).r, .int .i64 (outM x n D 0).c, .slice MA N3 mc] 50) := ⟨_, rfl⟩
  have b4 : Below w3.heap.size w3 W4 := by rw [hW4]; exact below_alloc _ _
  have k4 : Blk W4 w3.heap.size 50 #[.int .i64 (outM x n D 0).r, .int .i64 (outM x n D 0).c, .slice MA N3 mc] := by rw [hW4]; exact Blk.new _ _ _
  have l4 : w3.heap.size < W4.heap.size := k4.lt
  have kB4 := (kB.call hb3).call b4
  have gW4 := bthen gW3 b4
  have hO := (hZ.below b4).wider (lo' := W.heap.size) (hi' := W4.heap.size) (by omega) (by omega)
  clear c0 c1 c2 c3 c4 c5 xc hZ hb3 b4 gW gW3 kB hN3
  have c0 := kB4.cell' (i := 0) rfl
  have c1 := kB4.cell' (i := 1) rfl
  have c2 := kB4.cell' (i := 2) rfl
  have c3 := kB4.cell' (i := 3) rfl
  have c4 := kB4.cell' (i := 4) rfl
  have c5 := kB4.cell' (i := 5) rfl
  rw [hW4] at c0 c1 c2 c3 c4 c5
  go_wp2
  rw [← hW4]
  clear hW4 c0 c1 c2 c3 c4 c5 kB4
  go_loopw [30] (fun i wr => ∃ (k N mc : Nat) (MA : Option Addr), k ≤ x.q.f.length ∧ i = .int .i64 k ∧ Below W.heap.size W wr ∧ Blk wr w3.heap.size 50 #[.int .i64 (outM x n D k).r, .int .i64 (outM x n D k).c, .slice MA N mc] ∧ MxO wr W.heap.size wr.heap.size (.agg #[.int .i64 (outM x n D k).r, .int .i64 (outM x n D k).c, .slice MA N mc]) (outM x n D k)) (fun i _ => x.q.f.length - (intOf i).toNat)
  case atStart => exact ⟨0, _, _, _, Nat.zero_le _, rfl, gW4, k4, hO⟩
  case round =>
    clear k4 hO gW4
    obtain ⟨k, N, mc, MA, hk, rfl, gW, k4, hO⟩ := hrel
    have s6 := gW.size
    by_cases hlt : k < x.q.f.length
    · obtain ⟨m, nf, nt, yf, yt, em, ef, et, df, dt, eM, _, b1, b2, b3, b4, b5, b6, b7, b8⟩ := isRep_at H1.out hlt
      obtain ⟨hsf, hst⟩ := QvR.sl HQ.out
      obtain ⟨bf, of_, xf, rfl, hbf, HXF, f1, _⟩ := SlI.at_ hsf hlt
      have q1 := HXF.out
      rw [ef] at q1
      injection q1 with q1
      subst q1
      have f2 := bcell gW hbf f1
      have hm := HM.out
      obtain ⟨bm, om, m', MB, mb, rfl, hbm, HXM, x0, x1, x2, hsl, hr1, hr2, _⟩ := SlM.at_ hm b8
      have q2 := HXM.out
      rw [em] at q2
      injection q2 with q2
      subst q2
      have HMR : Hid (MxR W W.heap.size (.agg #[.int .i64 m.r, .int .i64 m.c, .slice MB m.a.length mb]) m) := ⟨_, rfl, hsl, hr1, hr2⟩
      have kBr := (KB.out).below gW (KB.out).lt
      have EF := Lib.hid ef
      have DF := Lib.hid df
      have EM := Lib.hid em
      have EMX := Lib.hid eM
      clear HXF HXM hsf hst hm hsl hr1 hr2 f1 em ef et df dt eM
      by_cases hv : nf = n
      · subst hv
        have hR := outS_le (v := (nf : Int)) (C := D) H1.out k hk
        have hyD : yf = D := by have := DN.out; rw [DF.out] at this; injection this with this; omega
        subst hyD
        have e1 := outS_yes (C := yf) EF.out EM.out (yt := yt) (by rw [EMX.out]; rfl)
        have e2 : outM x nf yf (k + 1) = mxF ((outS x nf yf k).1 + yt) yf (blF (outS x nf yf k).1 (outS x nf yf k).2 (entry m.a yf)) := by unfold outM; rw [e1]
        have E2 := Lib.hid e2
        have HR := Lib.hid hR
        have gws := gW.size
        have hHO := Lib.hid hO
        have x0' := bcell gW hbm x0
        have x1' := bcell gW hbm x1
        have x2' := bcell gW hbm x2
        have hbmw : bm < wr.heap.size := by omega
        clear e1 e2 hR x0 x1 x2 hO
        go_wp2
        obtain ⟨y, hy⟩ : ∃ y, y = x := ⟨_, rfl⟩
        subst hy
        refine wp_region_net (by kernel_rfl) [.eq (.agg #[.int .i64 (outM y nf yf k).r, .int .i64 (outM y nf yf k).c, .slice MA N mc]), .eq (.pointer (some ⟨w0.heap.size, 5, none⟩)), .eq (.slice (some ⟨bm, om, none⟩) y.m.length h), .eq (.int .i64 k), .eq (.pointer (some ⟨bm, om + k * 3, none⟩)), .eq (.agg #[.int .i64 m.r, .int .i64 m.c, .slice MB m.a.length mb]), rel 6 (fun u lo hi w => MxO w lo hi u (outM y nf yf (k + 1)))] [[], [], [1], [], [1, 2, 3], [1, 2, 3, 4], [0, 1, 2, 3, 4, 5], [0, 1, 2, 3, 4, 5, 6]] 7 (by kernel_rfl) ⟨trivial, trivial, trivial, trivial, trivial, trivial, rel_stable (fun u lo hi w w' h hb => h.below hb), trivial⟩ ⟨?_, ?_, ?_, ?_, ?_, ?_, ?_, trivial⟩ ?_
        · intro x w hb hk Q' hQ
          clear hk
          simp only [netAct, dstAt, List.getElem?_toArray, List.getElem?_cons_zero, List.getElem?_cons_succ, Option.bind_some, Act.put, List.setIfInBounds_toArray, List.set_cons_zero, List.set_cons_succ] at hQ ⊢
          have z0 := (k4.call hb).cell' (i := 0) rfl
          have z1 := (k4.call hb).cell' (i := 1) rfl
          have z2 := (k4.call hb).cell' (i := 2) rfl
          go_wp2
          exact hQ (.agg #[.int .i64 (outM y nf yf k).r, .int .i64 (outM y nf yf k).c, .slice MA N mc]) _ (Below.refl _ _) rfl
        · intro x w hb hk Q' hQ
          clear hk
          simp only [netAct, dstAt, List.getElem?_toArray, List.getElem?_cons_zero, List.getElem?_cons_succ, Option.bind_some, Act.put, List.setIfInBounds_toArray, List.set_cons_zero, List.set_cons_succ] at hQ ⊢
          go_wp2
          exact hQ (.pointer (some ⟨w0.heap.size, 5, none⟩)) _ (Below.refl _ _) rfl
        · intro x w hb hk Q' hQ
          have h1 : x.v 1 = .pointer (some ⟨w0.heap.size, 5, none⟩) := (hk 1 (by decide)).1
          clear hk
          simp only [netAct, dstAt, List.getElem?_toArray, List.getElem?_cons_zero, List.getElem?_cons_succ, Option.bind_some, Act.put, List.setIfInBounds_toArray, List.set_cons_zero, List.set_cons_succ] at hQ ⊢
          simp only [h1] at hQ ⊢
          clear h1
          have z5 := (kBr.call hb).cell' (i := 5) rfl
          go_wp2
          exact hQ (.slice (some ⟨bm, om, none⟩) y.m.length h) _ (Below.refl _ _) rfl
        · intro x w hb hk Q' hQ
          clear hk
          simp only [netAct, dstAt, List.getElem?_toArray, List.getElem?_cons_zero, List.getElem?_cons_succ, Option.bind_some, Act.put, List.setIfInBounds_toArray, List.set_cons_zero, List.set_cons_succ] at hQ ⊢
          go_wp2
          exact hQ (.int .i64 k) _ (Below.refl _ _) rfl
        · intro x w hb hk Q' hQ
          have h2 : x.v 2 = .slice (some ⟨bm, om, none⟩) y.m.length h := (hk 2 (by decide)).1
          have h3 : x.v 3 = .int .i64 k := (hk 3 (by decide)).1
          clear hk
          simp only [netAct, dstAt, List.getElem?_toArray, List.getElem?_cons_zero, List.getElem?_cons_succ, Option.bind_some, Act.put, List.setIfInBounds_toArray, List.set_cons_zero, List.set_cons_succ] at hQ ⊢
          simp only [h2, h3] at hQ ⊢
          clear h2 h3
          go_wp2
          exact hQ (.pointer (some ⟨bm, om + k * 3, none⟩)) _ (Below.refl _ _) rfl
        · intro x w hb hk Q' hQ
          have h4 : x.v 4 = .pointer (some ⟨bm, om + k * 3, none⟩) := (hk 4 (by decide)).1
          clear hk
          simp only [netAct, dstAt, List.getElem?_toArray, List.getElem?_cons_zero, List.getElem?_cons_succ, Option.bind_some, Act.put, List.setIfInBounds_toArray, List.set_cons_zero, List.set_cons_succ] at hQ ⊢
          simp only [h4] at hQ ⊢
          clear h4
          have z0 := bcell hb hbmw x0'
          have z1 := bcell hb hbmw x1'
          have z2 := bcell hb hbmw x2'
          go_wp2
          exact hQ (.agg #[.int .i64 m.r, .int .i64 m.c, .slice MB m.a.length mb]) _ (Below.refl _ _) rfl
        · intro x w hb hk Q' hQ
          have h0 : x.v 0 = .agg #[.int .i64 (outM y nf yf k).r, .int .i64 (outM y nf yf k).c, .slice MA N mc] := (hk 0 (by decide)).1
          have h1 : x.v 1 = .pointer (some ⟨w0.heap.size, 5, none⟩) := (hk 1 (by decide)).1
          have h2 : x.v 2 = .slice (some ⟨bm, om, none⟩) y.m.length h := (hk 2 (by decide)).1
          have h3 : x.v 3 = .int .i64 k := (hk 3 (by decide)).1
          have h4 : x.v 4 = .pointer (some ⟨bm, om + k * 3, none⟩) := (hk 4 (by decide)).1
          have h5 : x.v 5 = .agg #[.int .i64 m.r, .int .i64 m.c, .slice MB m.a.length mb] := (hk 5 (by decide)).1
          clear hk
          simp only [netAct, dstAt, List.getElem?_toArray, List.getElem?_cons_zero, List.getElem?_cons_succ, Option.bind_some, Act.put, List.setIfInBounds_toArray, List.set_cons_zero, List.set_cons_succ] at hQ ⊢
          simp only [h0, h1, h2, h3, h4, h5] at hQ ⊢
          clear h0 h1 h2 h3 h4 h5
          have hmr : MxR w w.heap.size (.agg #[.int .i64 m.r, .int .i64 m.c, .slice MB m.a.length mb]) (mxF yt yf (entry m.a yf)) := by rw [← EMX.out]; exact MxR.more (by have := hb.size; omega) (MxR.below (gW.trans (hb.mono gws)) HMR.out)
          have HMRw := Lib.hid hmr
          have HOw := Lib.hid ((hHO.out).below hb).rd
          clear hmr
          go_wp2_with fail
          refine (below_any _ _ yf (outS y nf yf k).1 yt (outS y nf yf k).2 (entry m.a yf) _ HOw.out HMRw.out (by have := HR.out; omega) (by omega) (by omega)).mono ?_; rintro e w5 ⟨v5, rfl, hO5, hb5⟩
          rw [← E2.out] at hO5
          go_wp2
          exact hQ _ _ hb5 hO5
        · intro x w hb hk hiv hdj
          have h0 : x.v 0 = .agg #[.int .i64 (outM y nf yf k).r, .int .i64 (outM y nf yf k).c, .slice MA N mc] := hk 0 (by decide)
          have h1 : x.v 1 = .pointer (some ⟨w0.heap.size, 5, none⟩) := hk 1 (by decide)
          have h2 : x.v 2 = .slice (some ⟨bm, om, none⟩) y.m.length h := hk 2 (by decide)
          have h3 : x.v 3 = .int .i64 k := hk 3 (by decide)
          have h4 : x.v 4 = .pointer (some ⟨bm, om + k * 3, none⟩) := hk 4 (by decide)
          have h5 : x.v 5 = .agg #[.int .i64 m.r, .int .i64 m.c, .slice MB m.a.length mb] := hk 5 (by decide)
          have h6 : MxO w (x.lo 6) (x.hi 6) (x.v 6) (outM y nf yf (k + 1)) := hk 6 (by decide)
          clear hk
          simp only [netAct, dstAt, List.getElem?_toArray, List.getElem?_cons_zero, List.getElem?_cons_succ, Option.bind_some, Act.put, List.setIfInBounds_toArray, List.set_cons_zero, List.set_cons_succ]
          simp only [List.drop_succ_cons, List.drop_zero, h0, h1, h2, h3, h4, h5]
          clear h0 h1 h2 h3 h4 h5
          obtain ⟨l6, _, l6h⟩ := hiv 6 (by decide)
          obtain ⟨MA', mc', e6⟩ := h6.form
          rw [e6] at h6 ⊢
          obtain ⟨N', hN'⟩ : ∃ nn, (outM y nf yf (k + 1)).a.length = nn := ⟨_, rfl⟩
          rw [hN'] at h6 ⊢
          have k4w := k4.call hb
          have p0 := k4w.cell' (i := 0) rfl
          have p1 := k4w.cell' (i := 1) rfl
          have p2 := k4w.cell' (i := 2) rfl
          have fr := k4w.frozen
          have hbs := hb.size
          have K5 := Lib.hid (((k4w.set_ 0 (.int .i64 (outM y nf yf (k + 1)).r)).set_ 1 (.int .i64 (outM y nf yf (k + 1)).c)).set_ 2 (.slice MA' N' mc'))
          have O5 := Lib.hid ((((h6.setBlk (i := 0) k4w (by decide) (.int .i64 (outM y nf yf (k + 1)).r)).setBlk (i := 1) (k4w.set_ 0 _) (by decide) (.int .i64 (outM y nf yf (k + 1)).c)).setBlk (i := 2) ((k4w.set_ 0 _).set_ 1 _) (by decide) (.slice MA' N' mc')).wider (lo' := W.heap.size) (hi' := w.heap.size) (by omega) (by omega))
          have hc3 := chg3 w w3.heap.size (.int .i64 (outM y nf yf (k + 1)).r) (.int .i64 (outM y nf yf (k + 1)).c) (.slice MA' N' mc')
          have GW := Lib.hid ((gW.trans (hb.mono gws)).trans (hc3.below (B := W.heap.size) (by omega) (by omega)))
          clear hiv hdj e6 h6 hc3 k4w hb gW kBr k4 hN'
          go_wp2
          go_roundw
          case rel => exact ⟨k + 1, N', mc', MA', by omega, by go_num, GW.out, K5.out, O5.out.wider (Nat.le_refl _) (by simp)⟩
          case measure => simp [intOf]; omega
      · have hne : ((nf : Int) == n) = false := by rw [beq_eq_false_iff_ne]; omega
        have e1 := outS_no (C := D) EF.out (show (nf : Int) ≠ n by omega)
        have e2 : outM x n D (k + 1) = outM x n D k := by unfold outM; rw [e1]
        have E2 := Lib.hid e2
        have K4 := Lib.hid k4
        have HO := Lib.hid hO
        have GW := Lib.hid gW
        clear e1 e2 k4 hO gW kBr
        go_wp2
        go_roundw
        case rel => exact ⟨k + 1, N, mc, MA, by omega, by go_num, GW.out, by rw [E2.out]; exact K4.out, by rw [E2.out]; exact HO.out⟩
        case measure => simp [intOf]; omega
    · obtain rfl : k = x.q.f.length := by omega
      have HF' := HF.out
      have k2 := (KR.out).below gW (by have := SZ.out; omega)
      have z0 := k4.cell' (i := 0) rfl
      have z1 := k4.cell' (i := 1) rfl
      have z2 := k4.cell' (i := 2) rfl
      have p0 := k2.cell' (i := 0) rfl
      have p1 := k2.cell' (i := 1) rfl
      have p2 := k2.cell' (i := 2) rfl
      have f2 := k2.frozen
      have h2 := chg3 wr (w0.heap.size + 1) (.int .i64 (outM x n D x.q.f.length).r) (.int .i64 (outM x n D x.q.f.length).c) (.slice MA N mc)
      have gw : Below w0.heap.size w0 wr := (G0.out).trans (gW.mono (G0.out).size)
      have gs := gw.size
      have gws := gW.size
      have sz := SZ.out
      have oA2 := (hO.chg h2 (.inr (by omega))).wider (lo' := w0.heap.size) (hi' := wr.heap.size) (by omega) (Nat.le_refl _)
      have fg := gw.trans (h2.below (by omega) gs)
      have OA2 := Lib.hid oA2
      have FG := Lib.hid fg
      have HFF := Lib.hid HF'
      clear hO oA2 fg gw h2 k2 k4 gW sz gws HF'
      go_wp2
      exact bodyPost_ret (v := .tuple #[.agg #[.int .i64 (outM x n D x.q.f.length).r, .int .i64 (outM x n D x.q.f.length).c, .slice MA N mc], .bool true]) (by simp [results, go_sem, p0, p1, p2]) rfl ⟨_, by rw [(HFF.out : _)], by rw [(HFF.out : _)]; exact OA2.out.wider (Nat.le_refl _) (by simp), FG.out⟩
theorem implOutgoingMatrix_any (u : Value) (x : Rp) (v : Int) (w0 : World) (hu : RpR w0 w0.heap.size u x) (hv : I64 v) :
    Calls Tryz.prog 32 #[u, .int .i64 v] w0 fun e w' => ∃ r, e = .returned (.tuple #[r, .bool (outP x v).2]) ∧ MxO w' w0.heap.size w'.heap.size r (outP x v).1 ∧ Below w0.heap.size w0 w' := by
  rcases h : outOk x v with _ | _
  · exact implOut_no u x v w0 hu h
  · exact implOut_yes u x v w0 hu h
end Go.Proofs.YtaefpblpfjhgoaaGreat

/- Elimination: the reference's l4Reduce. -/
namespace Go.Proofs.YtaefpblpfjhgoaaGreat
set_option linter.unusedVariables false
set_option linter.unusedSimpArgs false
open Go.RowKit

/-- the loops' state, and a matrix variable -/
def RT (bm B : Nat) (w1 : World) (A : Option Addr) (r c L cap : Nat) (w : World) (f : Nat → Nat → Int) (pv : Value) (ps : List Int) : Prop :=
  RS B w1 A r c L cap w f pv ps ∧ Blk w bm 50 #[.int .i64 r, .int .i64 c, .slice A L cap]
section
variable {bm B : Nat} {w1 w w' : World} {A : Option Addr} {r c L cap : Nat} {f : Nat → Nat → Int} {pv : Value} {ps : List Int}
theorem RT.call (h : RT bm B w1 A r c L cap w f pv ps) (hB : B ≤ w1.heap.size) (hb : Below w.heap.size w w') : RT bm B w1 A r c L cap w' f pv ps := ⟨h.1.call hB hb, h.2.call hb⟩
theorem RT.congr {f2 : Nat → Nat → Int} (h : RT bm B w1 A r c L cap w f pv ps) (e : flat r c f = flat r c f2) : RT bm B w1 A r c L cap w f2 pv ps := ⟨h.1.congr e, h.2⟩
theorem RT.put {g J : Nat} {x : Int} {f2 : Nat → Nat → Int} (h : RT bm B w1 (some ⟨g, 0, none⟩) r c L cap w f pv ps) (hg : B ≤ g) (hs : B ≤ w.heap.size) (hx : I64 x) (e : (flat r c f).set J x = flat r c f2) :
    RT bm B w1 (some ⟨g, 0, none⟩) r c L cap (w.setCell ⟨g, J, none⟩ (.int .i64 x)) f2 pv ps := by
  refine ⟨h.1.put hg hs hx e, h.2.far ?_ _⟩
  have := h.1.own.blkne h.2 (by decide)
  intro e2
  exact this (by simp [Value.ownBlock, e2])
theorem RT.app {pv' : Value} {ps' : List Int} (h : RT bm B w1 A r c L cap w f pv ps) (hs : B ≤ w.heap.size) (ho : OwnI w' B pv' ps') (hg : w.grownBy w' pv.ownBlock) (hv : pv'.ownBlock = pv.ownBlock ∨ pv'.ownBlock = some w.heap.size) :
    RT bm B w1 A r c L cap w' f pv' ps' := ⟨h.1.app hs ho hg hv, h.2.grown hg (h.1.ownP.1.blkne h.2 (by decide))⟩
end
theorem ixP {i k r c P : Nat} (hi : i < r) (hk : k < c) (hr : r ≤ 1000) (hc : c ≤ 1000) (hP : P = i * c) : wrap64 ((i : Int) * (c : Int)) = (P : Int) := by
  obtain ⟨P', J, h1, _⟩ := ix_walk hi hk hr hc
  have := (ix_next hi hr hc h1).1
  rw [h1, this, hP]
theorem nzF_next {f : Nat → Nat → Int} {k m r : Nat} (h : m < r) : nzF f k m r = if f m k = 0 then nzF f k (m + 1) r else m := by
  unfold nzF
  rw [show r - m = (r - (m + 1)) + 1 by omega, nzGo]
theorem nzF_self (f : Nat → Nat → Int) (k r : Nat) : nzF f k r r = r := by unfold nzF; rw [Nat.sub_self, nzGo]
/-- what the reference's search has found -/
def atI (f : Nat → Nat → Int) (k m r : Nat) : Int := if nzF f k m r = r then -1 else (nzF f k m r : Int)
theorem atI_self (f : Nat → Nat → Int) (k r : Nat) : atI f k r r = -1 := by rw [atI, if_pos (nzF_self f k r)]
theorem atI_zero {f : Nat → Nat → Int} {k m r : Nat} (h : m < r) (h0 : f m k = 0) : atI f k m r = atI f k (m + 1) r := by rw [atI, atI, nzF_next h, if_pos h0]
theorem atI_ne {f : Nat → Nat → Int} {k m r : Nat} (h : m < r) (h0 : f m k ≠ 0) : atI f k m r = m := by rw [atI, nzF_next h, if_neg h0, if_neg (by omega)]

set_option maxHeartbeats 12800000 in
set_option maxRecDepth 100000 in
theorem l4Reduce_any (p : Int) (u : Value) (r c : Nat) (f : Nat → Nat → Int) (w0 : World) (hp : isFld p = true) (hr : r ≤ 1000) (hc : c ≤ 1000) (hu : MxR w0 w0.heap.size u (mxF r c f)) (hf : InF p r c f) :
    Calls Tryz.prog 66 #[.int .i64 p, u] w0 fun e w' => ∃ m v, e = .returned (.tuple #[m, v]) ∧ MxO w' w0.heap.size w'.heap.size m (mxF r c (rdTo p r f c).1) ∧ IntsO w' w0.heap.size w'.heap.size v (rdTo p r f c).2 ∧ Below w0.heap.size w0 w' := by
  have hpr := isFld_r hp
  have hu' := hu
  obtain ⟨UA, uc, rfl⟩ := hu.form
  simp only [mxF] at hu hu' ⊢
  rw [flat_length] at hu hu' ⊢
  obtain ⟨UL, hUL⟩ : ∃ n, r * c = n := ⟨_, rfl⟩
  rw [hUL] at hu hu' ⊢
  have HUL := Lib.hid hUL
  clear hUL hu
  obtain ⟨W, hW⟩ : ∃ W, W = (w0.alloc (.cells #[.int .i64 r, .int .i64 c, .slice UA UL uc] 50)).alloc (.cells #[.int .i64 0, .int .i64 0, .slice none 0 0] 50) := ⟨_, rfl⟩
  have g0 : Below w0.heap.size w0 W := by rw [hW]; exact ((Below.refl _ _).alloc (Nat.le_refl _) _).alloc (by simp) _
  have kB : Blk W w0.heap.size 50 #[.int .i64 r, .int .i64 c, .slice UA UL uc] := by rw [hW]; exact (Blk.new _ _ _).alloc _
  have kR : Blk W (w0.heap.size + 1) 50 #[.int .i64 0, .int .i64 0, .slice none 0 0] := by
    rw [hW]
    have := Blk.new (w0.alloc (.cells #[.int .i64 r, .int .i64 c, .slice UA UL uc] 50)) 50 #[.int .i64 0, .int .i64 0, .slice none 0 0]
    simpa only [World.size_alloc] using this
  have sz : W.heap.size = w0.heap.size + 1 + 1 := by rw [hW]; simp
  have SZ := Lib.hid sz
  have HU := Lib.hid (MxR.next g0 hu')
  have HF := Lib.hid hf
  have HP := Lib.hid hp
  have c0 := kB.cell' (i := 0) rfl
  have c1 := kB.cell' (i := 1) rfl
  have c2 := kB.cell' (i := 2) rfl
  clear hu' sz hf hp
  go_enter Tryz.func66, Tryz.ntmps66
  go_wp2_with fail
  rw [← hW]; clear hW
  refine (l3Copy_any _ _ _ HU.out).mono ?_; rintro e w1 ⟨v1, rfl, hM, hb1⟩
  obtain ⟨A, cap, ev⟩ := hM.form
  subst ev
  simp only [flat_length] at hM ⊢
  obtain ⟨L, hL⟩ : ∃ n, r * c = n := ⟨_, rfl⟩
  rw [hL] at hM ⊢
  have HL := Lib.hid hL
  clear hL
  have kR1 := kR.call hb1
  have g1 := bthen g0 hb1
  clear c0 c1 c2
  have s1 := hb1.size
  have sz := SZ.out
  obtain ⟨w2, hw2⟩ : ∃ w2, w2 = (w1.alloc (.cells #[.int .i64 r, .int .i64 c, .slice A L cap] 50)).alloc (.cells #[] 3) := ⟨_, rfl⟩
  have b2 : Below w1.heap.size w1 w2 := by rw [hw2]; exact ((Below.refl _ _).alloc (Nat.le_refl _) _).alloc (by simp) _
  have kA2 : Blk w2 w1.heap.size 50 #[.int .i64 r, .int .i64 c, .slice A L cap] := by rw [hw2]; exact (Blk.new _ _ _).alloc _
  have kR2 := kR1.call b2
  have g2 := bthen g1 b2
  have s2 : w2.heap.size = w1.heap.size + 1 + 1 := by rw [hw2]; simp
  obtain ⟨sA, esA, hIA, _, _⟩ := hM
  simp only [Value.agg.injEq, Array.mk.injEq, List.cons.injEq, and_true, true_and] at esA
  subst esA
  have hI2 := hIA.below b2
  have hPv : IntsO w2 w1.heap.size w2.heap.size (.slice (some ⟨w1.heap.size + 1, 0, none⟩) 0 0) [] := by
    have := OwnI.made (w := w1.alloc (.cells #[.int .i64 r, .int .i64 c, .slice A L cap] 50)) (base := w1.heap.size) 3 rfl (by simp)
    rw [← hw2] at this
    simp only [World.size_alloc] at this
    exact IntsO.of_own this
  have hS0 : RT w1.heap.size W.heap.size w2 A r c L cap w2 (rdTo p r f 0).1 (.slice (some ⟨w1.heap.size + 1, 0, none⟩) 0 0) (rdTo p r f 0).2 :=
    ⟨⟨Below.refl _ _, fam_two hI2 hPv s1 (by omega)⟩, kA2⟩
  have KR := Lib.hid kR2
  have G2 := Lib.hid g2
  have hWB : W.heap.size ≤ w2.heap.size := by omega
  have HB0 : Hid (w0.heap.size < W.heap.size) := by show _ < _; omega
  have HWB := Lib.hid hWB
  clear kB kR kR1 g0 g1 hIA hI2 kR2 kA2 g2 s1 s2 sz hb1 hWB b2 hPv
  go_wp2
  rw [← hw2]; clear hw2
  go_loopw [7, 8, 9] (fun pv nv i wr => ∃ k : Nat, k ≤ c ∧ i = .int .i64 k ∧ nv = .int .i64 ((rdTo p r f k).2.length : Int) ∧ RT w1.heap.size W.heap.size w2 A r c L cap wr (rdTo p r f k).1 pv (rdTo p r f k).2) (fun _ _ i _ => c - (intOf i).toNat)
  case atStart => exact ⟨0, Nat.zero_le _, rfl, rfl, hS0⟩
  case round =>
    clear hS0
    obtain ⟨k, hk, rfl, rfl, S⟩ := hrel
    obtain ⟨PA, pc, ev, _, _⟩ := S.1.ownP.1.form
    subst ev
    have hln := rdTo_len p r f k
    have hin := inF_to hpr.1 HF.out k
    have hrs := rdTo_succ p r f k
    have hrest := Lib.hid (fun h => rdTo_rest (p := p) (r := r) (f := f) (k := k) h (c - k))
    obtain ⟨F, hFF⟩ : ∃ F, (rdTo p r f k).1 = F := ⟨_, rfl⟩
    obtain ⟨ps, hps⟩ : ∃ ps, (rdTo p r f k).2 = ps := ⟨_, rfl⟩
    rw [hFF, hps] at S hrs
    rw [hps] at hln
    rw [hFF] at hin
    rw [hps]
    obtain ⟨n, hn⟩ : ∃ n, ps.length = n := ⟨_, rfl⟩
    rw [hn] at hln hrs S ⊢
    have HRS := Lib.hid hrs
    have HN := Lib.hid hn
    have HIN := Lib.hid hin
    have HFF := Lib.hid hFF
    have HPS := Lib.hid hps
    clear hFF hps hn hin hrs
    by_cases hgo : k < c ∧ n < r
    · obtain ⟨hlt, hnr⟩ := hgo
      have kb := (S).2
      have c0 := kb.cell' (i := 0) rfl
      have c1 := kb.cell' (i := 1) rfl
      have c2 := kb.cell' (i := 2) rfl
      go_wp2
      clear kb c0 c1 c2
      have ha0 := atI_self F k r
      go_loopw [10, 11] (fun a i wr => ∃ m : Nat, n ≤ m ∧ m ≤ r ∧ i = .int .i64 ((m : Int) - 1) ∧ a = .int .i64 (atI F k m r) ∧ RT w1.heap.size W.heap.size w2 A r c L cap wr F (.slice PA n pc) ps) (fun _ i _ => (intOf i + 1).toNat)
      case atStart => exact ⟨r, by omega, Nat.le_refl _, rfl, by rw [ha0], S⟩
      case round =>
        clear S ha0
        obtain ⟨m, hnm, hmr, rfl, rfl, S⟩ := hrel
        obtain ⟨g, eA, eL, hLc, hcb, hBg, hgw⟩ := S.1.addr (Nat.mul_pos (by omega) (by omega))
        subst eA
        have EL := Lib.hid eL
        clear eL
        by_cases hlm : n < m
        · obtain ⟨m', rfl⟩ : ∃ m', m = m' + 1 := ⟨m - 1, by omega⟩
          have em : ((m' + 1 : Nat) : Int) - 1 = (m' : Int) := by omega
          rw [em]
          clear em
          have hlr : m' < r := by omega
          obtain ⟨Q, hQ⟩ : ∃ Q, Q = m' * c := ⟨_, rfl⟩
          have hQw : ∀ [Inhabited Unit], wrap64 ((m' : Int) * (c : Int)) = (Q : Int) := fun {_} => ixP hlr hlt hr hc hQ
          obtain ⟨a1, a2, a3⟩ := rowP hlr hlt hr hc hQ
          rw [← EL.out] at a1 a2 a3
          obtain ⟨z1, _, _⟩ := S.1.cellP hlr hlt hQ
          clear hQ
          have kb := (S).2
          have c0 := kb.cell' (i := 0) rfl
          have c1 := kb.cell' (i := 1) rfl
          have c2 := kb.cell' (i := 2) rfl
          by_cases hz0 : F m' k = 0
          · rw [hz0] at z1
            have HA := Lib.hid (atI_zero hlr hz0)
            clear hz0
            go_wp2
            go_roundw
            case rel => exact ⟨m', by omega, by omega, by go_num, by rw [HA.out], S⟩
            case measure => simp [intOf]
          · have hzb : (F m' k != 0) = true := by simpa using hz0
            have HA := Lib.hid (atI_ne hlr hz0)
            clear hz0
            go_wp2
            go_roundw
            case rel => exact ⟨m', by omega, by omega, by go_num, by rw [HA.out], S⟩
            case measure => simp [intOf]
        · have hmn : m = n := by omega
          subst hmn
          by_cases hfull : nzF F k m r = r
          · have HRS2 := Lib.hid (HRS.out.trans (if_neg (by rw [hfull]; omega)))
            have hat : atI F k m r = -1 := by rw [atI, if_pos hfull]
            rw [hat]
            clear hat hfull
            go_wp2
            go_roundw
            case rel => exact ⟨k + 1, by omega, by go_num, by rw [HRS2.out, HN.out], by rw [HRS2.out]; exact S⟩
            case measure => simp [intOf]; omega
          · have hle := nzF_le (f := F) (k := k) hmr
            have hlr0 : nzF F k m r < r := by omega
            have HRS2 := Lib.hid (HRS.out.trans (if_pos hlr0))
            have hne := nzF_ne hmr hlr0
            have hat : atI F k m r = (nzF F k m r : Int) := by rw [atI, if_neg hfull]
            rw [hat]
            clear hat hfull
            obtain ⟨n, hnn⟩ : ∃ n, n = m := ⟨_, rfl⟩
            subst hnn
            obtain ⟨a, ha⟩ : ∃ a, nzF F k n r = a := ⟨_, rfl⟩
            rw [ha] at hle hlr0 hne ⊢
            have HZA := Lib.hid ha
            have HNE := Lib.hid hne
            clear ha hne
            obtain ⟨P, hP⟩ : ∃ P, P = n * c := ⟨_, rfl⟩
            obtain ⟨Q, hQ⟩ : ∃ Q, Q = a * c := ⟨_, rfl⟩
            have hPw := Lib.hid (ixP hnr hlt hr hc hP)
            have hQw := Lib.hid (ixP hlr0 hlt hr hc hQ)
            have hrp := rowP hnr hlt hr hc hP
            rw [← EL.out] at hrp
            have HPP := Lib.hid hP
            have HQQ := Lib.hid hQ
            clear hP hQ
            rw [← sw_0 n a F] at S
            have hdn : decide ((n : Int) ≤ (n : Int) - 1) = false := decide_eq_false (by omega)
            go_wp2
            clear hdn
            go_loopw [12] (fun i wr => ∃ j : Nat, j ≤ c ∧ i = .int .i64 j ∧ RT w1.heap.size W.heap.size w2 (some ⟨g, 0, none⟩) r c L cap wr (swJ n a j F) (.slice PA n pc) ps) (fun i _ => c - (intOf i).toNat)
            case atStart => exact ⟨0, Nat.zero_le _, rfl, S⟩
            case round =>
              clear S
              obtain ⟨j, hj, rfl, S⟩ := hrel
              have kb := (S).2
              have c0 := kb.cell' (i := 0) rfl
              have c1 := kb.cell' (i := 1) rfl
              have c2 := kb.cell' (i := 2) rfl
              by_cases hljc : j < c
              · obtain ⟨a1, a2, a3⟩ := rowP hlr0 hljc hr hc HQQ.out
                obtain ⟨b1, b2, b3⟩ := rowP hnr hljc hr hc HPP.out
                rw [← EL.out] at a1 a2 a3 b1 b2 b3
                have hst := sw_step F hnr hlr0 hljc
                rw [← HQQ.out, ← HPP.out] at hst
                have HST := Lib.hid hst
                obtain ⟨z1, _, z2⟩ := S.1.cellP hnr hljc HPP.out
                rw [sw_rest] at z1
                have hSS := Lib.hid S
                have hpw : ∀ [Inhabited Unit], wrap64 ((n : Int) * (c : Int)) = (P : Int) := fun {_} => hPw.out
                clear hst S kb
                go_wp2
                rw [hPw.out]
                clear c0 c1 c2 z1 z2 hpw
                refine wp_region_net (by kernel_rfl) [.eq (.pointer (some ⟨w1.heap.size, 2, none⟩)), .eq (.slice (some ⟨g, 0, none⟩) L cap), .eq (.int .i64 n), .eq (.pointer (some ⟨w1.heap.size, 1, none⟩)), .eq (.int .i64 c), .eq (.int .i64 P), .eq (.int .i64 j), .eq (.int .i64 ((P : Int) + j)), .eq (.pointer (some ⟨w1.heap.size, 2, none⟩)), .eq (.slice (some ⟨g, 0, none⟩) L cap), .eq (.int .i64 a), .eq (.pointer (some ⟨w1.heap.size, 1, none⟩)), .eq (.int .i64 c), .eq (.int .i64 Q), .eq (.int .i64 j), .eq (.int .i64 ((Q : Int) + j)), .eq (.pointer (some ⟨g, Q + j, none⟩)), .eq (.int .i64 (F a j)), .eq (.pointer (some ⟨g, P + j, none⟩))] [[], [0], [], [], [3], [2, 3, 4], [], [2, 3, 4, 5, 6], [], [8], [], [], [11], [10, 11, 12], [], [10, 11, 12, 13, 14], [8, 9, 10, 11, 12, 13, 14, 15], [8, 9, 10, 11, 12, 13, 14, 15, 16], [0, 1, 2, 3, 4, 5, 6, 7, 8, 9, 10, 11, 12, 13, 14, 15, 16, 17], [0, 1, 2, 3, 4, 5, 6, 7, 8, 9, 10, 11, 12, 13, 14, 15, 16, 17, 18]] 19 (by kernel_rfl) ⟨trivial, trivial, trivial, trivial, trivial, trivial, trivial, trivial, trivial, trivial, trivial, trivial, trivial, trivial, trivial, trivial, trivial, trivial, trivial, trivial⟩ ⟨?_, ?_, ?_, ?_, ?_, ?_, ?_, ?_, ?_, ?_, ?_, ?_, ?_, ?_, ?_, ?_, ?_, ?_, ?_, trivial⟩ ?_
                · intro x w hb hk Q' hQ
                  clear hk
                  simp only [netAct, dstAt, List.getElem?_toArray, List.getElem?_cons_zero, List.getElem?_cons_succ, Option.bind_some, Act.put, List.setIfInBounds_toArray, List.set_cons_zero, List.set_cons_succ] at hQ ⊢
                  go_wp2
                  exact hQ (.pointer (some ⟨w1.heap.size, 2, none⟩)) _ (Below.refl _ _) rfl
                · intro x w hb hk Q' hQ
                  have h0 : x.v 0 = .pointer (some ⟨w1.heap.size, 2, none⟩) := (hk 0 (by decide)).1
                  clear hk
                  simp only [netAct, dstAt, List.getElem?_toArray, List.getElem?_cons_zero, List.getElem?_cons_succ, Option.bind_some, Act.put, List.setIfInBounds_toArray, List.set_cons_zero, List.set_cons_succ] at hQ ⊢
                  simp only [h0] at hQ ⊢
                  clear h0
                  have q := (hSS.out.call HWB.out hb).2.cell' (i := 2) rfl
                  go_wp2
                  exact hQ (.slice (some ⟨g, 0, none⟩) L cap) _ (Below.refl _ _) rfl
                · intro x w hb hk Q' hQ
                  clear hk
                  simp only [netAct, dstAt, List.getElem?_toArray, List.getElem?_cons_zero, List.getElem?_cons_succ, Option.bind_some, Act.put, List.setIfInBounds_toArray, List.set_cons_zero, List.set_cons_succ] at hQ ⊢
                  go_wp2
                  exact hQ (.int .i64 n) _ (Below.refl _ _) rfl
                · intro x w hb hk Q' hQ
                  clear hk
                  simp only [netAct, dstAt, List.getElem?_toArray, List.getElem?_cons_zero, List.getElem?_cons_succ, Option.bind_some, Act.put, List.setIfInBounds_toArray, List.set_cons_zero, List.set_cons_succ] at hQ ⊢
                  go_wp2
                  exact hQ (.pointer (some ⟨w1.heap.size, 1, none⟩)) _ (Below.refl _ _) rfl
                · intro x w hb hk Q' hQ
                  have h3 : x.v 3 = .pointer (some ⟨w1.heap.size, 1, none⟩) := (hk 3 (by decide)).1
                  clear hk
                  simp only [netAct, dstAt, List.getElem?_toArray, List.getElem?_cons_zero, List.getElem?_cons_succ, Option.bind_some, Act.put, List.setIfInBounds_toArray, List.set_cons_zero, List.set_cons_succ] at hQ ⊢
                  simp only [h3] at hQ ⊢
                  clear h3
                  have q := (hSS.out.call HWB.out hb).2.cell' (i := 1) rfl
                  go_wp2
                  exact hQ (.int .i64 c) _ (Below.refl _ _) rfl
                · intro x w hb hk Q' hQ
                  have h2 : x.v 2 = .int .i64 n := (hk 2 (by decide)).1
                  have h4 : x.v 4 = .int .i64 c := (hk 4 (by decide)).1
                  clear hk
                  simp only [netAct, dstAt, List.getElem?_toArray, List.getElem?_cons_zero, List.getElem?_cons_succ, Option.bind_some, Act.put, List.setIfInBounds_toArray, List.set_cons_zero, List.set_cons_succ] at hQ ⊢
                  simp only [h2, h4] at hQ ⊢
                  clear h2 h4
                  go_wp2
                  rw [hPw.out]
                  exact hQ (.int .i64 P) _ (Below.refl _ _) rfl
                · intro x w hb hk Q' hQ
                  clear hk
                  simp only [netAct, dstAt, List.getElem?_toArray, List.getElem?_cons_zero, List.getElem?_cons_succ, Option.bind_some, Act.put, List.setIfInBounds_toArray, List.set_cons_zero, List.set_cons_succ] at hQ ⊢
                  go_wp2
                  exact hQ (.int .i64 j) _ (Below.refl _ _) rfl
                · intro x w hb hk Q' hQ
                  have h5 : x.v 5 = .int .i64 P := (hk 5 (by decide)).1
                  have h6 : x.v 6 = .int .i64 j := (hk 6 (by decide)).1
                  clear hk
                  simp only [netAct, dstAt, List.getElem?_toArray, List.getElem?_cons_zero, List.getElem?_cons_succ, Option.bind_some, Act.put, List.setIfInBounds_toArray, List.set_cons_zero, List.set_cons_succ] at hQ ⊢
                  simp only [h5, h6] at hQ ⊢
                  clear h5 h6
                  go_wp2
                  exact hQ (.int .i64 ((P : Int) + j)) _ (Below.refl _ _) rfl
                · intro x w hb hk Q' hQ
                  clear hk
                  simp only [netAct, dstAt, List.getElem?_toArray, List.getElem?_cons_zero, List.getElem?_cons_succ, Option.bind_some, Act.put, List.setIfInBounds_toArray, List.set_cons_zero, List.set_cons_succ] at hQ ⊢
                  go_wp2
                  exact hQ (.pointer (some ⟨w1.heap.size, 2, none⟩)) _ (Below.refl _ _) rfl
                · intro x w hb hk Q' hQ
                  have h8 : x.v 8 = .pointer (some ⟨w1.heap.size, 2, none⟩) := (hk 8 (by decide)).1
                  clear hk
                  simp only [netAct, dstAt, List.getElem?_toArray, List.getElem?_cons_zero, List.getElem?_cons_succ, Option.bind_some, Act.put, List.setIfInBounds_toArray, List.set_cons_zero, List.set_cons_succ] at hQ ⊢
                  simp only [h8] at hQ ⊢
                  clear h8
                  have q := (hSS.out.call HWB.out hb).2.cell' (i := 2) rfl
                  go_wp2
                  exact hQ (.slice (some ⟨g, 0, none⟩) L cap) _ (Below.refl _ _) rfl
                · intro x w hb hk Q' hQ
                  clear hk
                  simp only [netAct, dstAt, List.getElem?_toArray, List.getElem?_cons_zero, List.getElem?_cons_succ, Option.bind_some, Act.put, List.setIfInBounds_toArray, List.set_cons_zero, List.set_cons_succ] at hQ ⊢
                  go_wp2
                  exact hQ (.int .i64 a) _ (Below.refl _ _) rfl
                · intro x w hb hk Q' hQ
                  clear hk
                  simp only [netAct, dstAt, List.getElem?_toArray, List.getElem?_cons_zero, List.getElem?_cons_succ, Option.bind_some, Act.put, List.setIfInBounds_toArray, List.set_cons_zero, List.set_cons_succ] at hQ ⊢
                  go_wp2
                  exact hQ (.pointer (some ⟨w1.heap.size, 1, none⟩)) _ (Below.refl _ _) rfl
                · intro x w hb hk Q' hQ
                  have h11 : x.v 11 = .pointer (some ⟨w1.heap.size, 1, none⟩) := (hk 11 (by decide)).1
                  clear hk
                  simp only [netAct, dstAt, List.getElem?_toArray, List.getElem?_cons_zero, List.getElem?_cons_succ, Option.bind_some, Act.put, List.setIfInBounds_toArray, List.set_cons_zero, List.set_cons_succ] at hQ ⊢
                  simp only [h11] at hQ ⊢
                  clear h11
                  have q := (hSS.out.call HWB.out hb).2.cell' (i := 1) rfl
                  go_wp2
                  exact hQ (.int .i64 c) _ (Below.refl _ _) rfl
                · intro x w hb hk Q' hQ
                  have h10 : x.v 10 = .int .i64 a := (hk 10 (by decide)).1
                  have h12 : x.v 12 = .int .i64 c := (hk 12 (by decide)).1
                  clear hk
                  simp only [netAct, dstAt, List.getElem?_toArray, List.getElem?_cons_zero, List.getElem?_cons_succ, Option.bind_some, Act.put, List.setIfInBounds_toArray, List.set_cons_zero, List.set_cons_succ] at hQ ⊢
                  simp only [h10, h12] at hQ ⊢
                  clear h10 h12
                  go_wp2
                  rw [hQw.out]
                  exact hQ (.int .i64 Q) _ (Below.refl _ _) rfl
                · intro x w hb hk Q' hQ
                  clear hk
                  simp only [netAct, dstAt, List.getElem?_toArray, List.getElem?_cons_zero, List.getElem?_cons_succ, Option.bind_some, Act.put, List.setIfInBounds_toArray, List.set_cons_zero, List.set_cons_succ] at hQ ⊢
                  go_wp2
                  exact hQ (.int .i64 j) _ (Below.refl _ _) rfl
                · intro x w hb hk Q' hQ
                  have h13 : x.v 13 = .int .i64 Q := (hk 13 (by decide)).1
                  have h14 : x.v 14 = .int .i64 j := (hk 14 (by decide)).1
                  clear hk
                  simp only [netAct, dstAt, List.getElem?_toArray, List.getElem?_cons_zero, List.getElem?_cons_succ, Option.bind_some, Act.put, List.setIfInBounds_toArray, List.set_cons_zero, List.set_cons_succ] at hQ ⊢
                  simp only [h13, h14] at hQ ⊢
                  clear h13 h14
                  go_wp2
                  exact hQ (.int .i64 ((Q : Int) + j)) _ (Below.refl _ _) rfl
                · intro x w hb hk Q' hQ
                  have h9 : x.v 9 = .slice (some ⟨g, 0, none⟩) L cap := (hk 9 (by decide)).1
                  have h15 : x.v 15 = .int .i64 ((Q : Int) + j) := (hk 15 (by decide)).1
                  clear hk
                  simp only [netAct, dstAt, List.getElem?_toArray, List.getElem?_cons_zero, List.getElem?_cons_succ, Option.bind_some, Act.put, List.setIfInBounds_toArray, List.set_cons_zero, List.set_cons_succ] at hQ ⊢
                  simp only [h9, h15] at hQ ⊢
                  clear h9 h15
                  go_wp2
                  exact hQ (.pointer (some ⟨g, Q + j, none⟩)) _ (Below.refl _ _) rfl
                · intro x w hb hk Q' hQ
                  have h16 : x.v 16 = .pointer (some ⟨g, Q + j, none⟩) := (hk 16 (by decide)).1
                  clear hk
                  simp only [netAct, dstAt, List.getElem?_toArray, List.getElem?_cons_zero, List.getElem?_cons_succ, Option.bind_some, Act.put, List.setIfInBounds_toArray, List.set_cons_zero, List.set_cons_succ] at hQ ⊢
                  simp only [h16] at hQ ⊢
                  clear h16
                  have z := ((hSS.out.call HWB.out hb).1.cellP hlr0 hljc HQQ.out).1
                  rw [sw_rest] at z
                  go_wp2
                  exact hQ (.int .i64 (F a j)) _ (Below.refl _ _) rfl
                · intro x w hb hk Q' hQ
                  have h1 : x.v 1 = .slice (some ⟨g, 0, none⟩) L cap := (hk 1 (by decide)).1
                  have h7 : x.v 7 = .int .i64 ((P : Int) + j) := (hk 7 (by decide)).1
                  clear hk
                  simp only [netAct, dstAt, List.getElem?_toArray, List.getElem?_cons_zero, List.getElem?_cons_succ, Option.bind_some, Act.put, List.setIfInBounds_toArray, List.set_cons_zero, List.set_cons_succ] at hQ ⊢
                  simp only [h1, h7] at hQ ⊢
                  clear h1 h7
                  go_wp2
                  exact hQ (.pointer (some ⟨g, P + j, none⟩)) _ (Below.refl _ _) rfl
                · intro x w hb hk hiv hdj
                  have h0 : x.v 0 = .pointer (some ⟨w1.heap.size, 2, none⟩) := hk 0 (by decide)
                  have h1 : x.v 1 = .slice (some ⟨g, 0, none⟩) L cap := hk 1 (by decide)
                  have h2 : x.v 2 = .int .i64 n := hk 2 (by decide)
                  have h3 : x.v 3 = .pointer (some ⟨w1.heap.size, 1, none⟩) := hk 3 (by decide)
                  have h4 : x.v 4 = .int .i64 c := hk 4 (by decide)
                  have h5 : x.v 5 = .int .i64 P := hk 5 (by decide)
                  have h6 : x.v 6 = .int .i64 j := hk 6 (by decide)
                  have h7 : x.v 7 = .int .i64 ((P : Int) + j) := hk 7 (by decide)
                  have h8 : x.v 8 = .pointer (some ⟨w1.heap.size, 2, none⟩) := hk 8 (by decide)
                  have h9 : x.v 9 = .slice (some ⟨g, 0, none⟩) L cap := hk 9 (by decide)
                  have h10 : x.v 10 = .int .i64 a := hk 10 (by decide)
                  have h11 : x.v 11 = .pointer (some ⟨w1.heap.size, 1, none⟩) := hk 11 (by decide)
                  have h12 : x.v 12 = .int .i64 c := hk 12 (by decide)
                  have h13 : x.v 13 = .int .i64 Q := hk 13 (by decide)
                  have h14 : x.v 14 = .int .i64 j := hk 14 (by decide)
                  have h15 : x.v 15 = .int .i64 ((Q : Int) + j) := hk 15 (by decide)
                  have h16 : x.v 16 = .pointer (some ⟨g, Q + j, none⟩) := hk 16 (by decide)
                  have h17 : x.v 17 = .int .i64 (F a j) := hk 17 (by decide)
                  have h18 : x.v 18 = .pointer (some ⟨g, P + j, none⟩) := hk 18 (by decide)
                  clear hk
                  simp only [netAct, dstAt, List.getElem?_toArray, List.getElem?_cons_zero, List.getElem?_cons_succ, Option.bind_some, Act.put, List.setIfInBounds_toArray, List.set_cons_zero, List.set_cons_succ]
                  simp only [List.drop_succ_cons, List.drop_zero, h0, h1, h2, h3, h4, h5, h6, h7, h8, h9, h10, h11, h12, h13, h14, h15, h16, h17, h18]
                  clear h0 h1 h2 h3 h4 h5 h6 h7 h8 h9 h10 h11 h12 h13 h14 h15 h16 h17 h18
                  have S := hSS.out.call HWB.out hb
                  have ia := (S.1.cellP hlr0 hljc HQQ.out)
                  have ib := (S.1.cellP hnr hljc HPP.out)
                  rw [sw_rest] at ia ib
                  have hst1 : (flat r c (swJ n a j F)).set (P + j) (F a j) = flat r c (fun x b => if x = n ∧ b = j then F a j else swJ n a j F x b) := by rw [HPP.out]; exact flat_set _ _ hnr hljc
                  have hst2 := HST.out
                  rw [hst1] at hst2
                  have S1 := S.put (J := P + j) (x := F a j) hBg (S.1.size HWB.out) ia.2.1 hst1
                  have S2 := S1.put (J := Q + j) (x := F n j) hBg (S1.1.size HWB.out) ib.2.1 hst2
                  obtain ⟨q1, _, q2⟩ := S1.1.cellP hlr0 hljc HQQ.out
                  obtain ⟨p1, _, p2⟩ := ib
                  have kb := S1.2
                  have c0 := kb.cell' (i := 0) rfl
                  have c1 := kb.cell' (i := 1) rfl
                  have c2 := kb.cell' (i := 2) rfl
                  have HS2 := Lib.hid S2
                  have hqw : ∀ [Inhabited Unit], wrap64 ((a : Int) * (c : Int)) = (Q : Int) := fun {_} => hQw.out
                  clear ia S S1 S2 hiv hdj hst1 hst2 kb
                  go_wp2
                  go_roundw
                  case rel => exact ⟨j + 1, by omega, by go_num, HS2.out⟩
                  case measure => simp [intOf]; omega
              · have hjc : j = c := by omega
                subst hjc
                have S := S.congr (sw_end n a r j F)
                have hin1 := inF_sw HIN.out hnr hlr0
                have hx0 : swA n a F n k = F a k := by rw [swA, if_pos rfl]
                obtain ⟨F1, hF1⟩ : ∃ F1, swA n a F = F1 := ⟨_, rfl⟩
                rw [hF1] at S hin1 hx0
                obtain ⟨x, hx⟩ : ∃ x, F1 n k = x := ⟨_, rfl⟩
                obtain ⟨z1, hxI, _⟩ := S.1.cellP hnr hlt HPP.out
                have hxr := hin1 n k hnr hlt
                rw [hx] at z1 hxr hx0
                have hxn : 1 ≤ x := by
                  have := HNE.out
                  rw [← hx0] at this
                  omega
                obtain ⟨s, hs⟩ : ∃ s, invP p x = s := ⟨_, rfl⟩
                have hsr := invP_r (x := x) hpr
                rw [hs] at hsr
                have HS := Lib.hid hs
                have HX := Lib.hid hx
                have HF1 := Lib.hid hF1
                have HIN1 := Lib.hid hin1
                have hSS := Lib.hid S
                have hpw : ∀ [Inhabited Unit], wrap64 ((n : Int) * (j : Int)) = (P : Int) := fun {_} => hPw.out
                clear hs hx hxI hF1 hin1 hx0 S kb c0 c1 c2
                have c0 := hSS.out.2.cell' (i := 0) rfl
                have c1 := hSS.out.2.cell' (i := 1) rfl
                have c2 := hSS.out.2.cell' (i := 2) rfl
                obtain ⟨b1, b2, b3⟩ := hrp
                go_wp2_with fail
                refine (specInverseMod_any p x _ HP.out hxn hxr.2).mono ?_; rintro e w5 ⟨rfl, hww⟩; replace hww := hww.symm; subst hww
                rw [HS.out]
                have S := hSS.out
                rw [← sc_0 p n s F1] at S
                clear c0 c1 c2 z1
                go_wp2
                try rw [hPw.out]
                clear hpw
                go_loopw [15] (fun i wr => ∃ j' : Nat, j' ≤ j ∧ i = .int .i64 j' ∧ RT w1.heap.size W.heap.size w2 (some ⟨g, 0, none⟩) r j L cap wr (scJ p n s j' F1) (.slice PA n pc) ps) (fun i _ => j - (intOf i).toNat)
                case atStart => exact ⟨0, Nat.zero_le _, rfl, S⟩
                case round =>
                  clear S hSS
                  obtain ⟨j', hj', rfl, S⟩ := hrel
                  have kb := (S).2
                  have c0 := kb.cell' (i := 0) rfl
                  have c1 := kb.cell' (i := 1) rfl
                  have c2 := kb.cell' (i := 2) rfl
                  by_cases hl4 : j' < j
                  · obtain ⟨b1, b2, b3⟩ := rowP hnr hl4 hr hc HPP.out
                    rw [← EL.out] at b1 b2 b3
                    have hi1 := HIN1.out n j' hnr hl4
                    have hst := sc_step (p := p) (s := s) F1 hnr hl4
                    obtain ⟨a4, ha4⟩ : ∃ a4, F1 n j' = a4 := ⟨_, rfl⟩
                    rw [ha4] at hi1 hst
                    rw [← HPP.out] at hst
                    have k0 : 0 ≤ a4 * s := Int.mul_nonneg hi1.1 hsr.1
                    have k1 : a4 * s ≤ 4 * 4 := Int.mul_le_mul (by omega) hsr.2 hsr.1 (by omega)
                    obtain ⟨K, hK⟩ : ∃ K, a4 * s = K := ⟨_, rfl⟩
                    rw [hK] at k0 k1 hst
                    have hKw := Lib.hid (show wrap64 (s * a4) = K by rw [Int.mul_comm, hK]; exact IntWalk.wrap64_in _ ⟨by omega, by omega⟩)
                    have hr1 := emod_rng (x := K) hpr.1
                    have HST := Lib.hid hst
                    have HA4 := Lib.hid ha4
                    have hSS := Lib.hid S
                    have hKI : Hid (I64 K) := by show _ ∧ _; omega
                    have hRI : Hid (I64 (K % p)) := by show _ ∧ _; omega
                    clear ha4 hK hst S kb hi1 k0 k1
                    go_wp2
                    clear c0 c1 c2
                    refine wp_region_net (by kernel_rfl) [.eq (.pointer (some ⟨w1.heap.size, 2, none⟩)), .eq (.slice (some ⟨g, 0, none⟩) L cap), .eq (.int .i64 n), .eq (.pointer (some ⟨w1.heap.size, 1, none⟩)), .eq (.int .i64 j), .eq (.int .i64 P), .eq (.int .i64 j'), .eq (.int .i64 ((P : Int) + j')), .eq (.int .i64 p), .eq (.int .i64 s), .eq (.pointer (some ⟨w1.heap.size, 2, none⟩)), .eq (.slice (some ⟨g, 0, none⟩) L cap), .eq (.int .i64 n), .eq (.pointer (some ⟨w1.heap.size, 1, none⟩)), .eq (.int .i64 j), .eq (.int .i64 P), .eq (.int .i64 j'), .eq (.int .i64 ((P : Int) + j')), .eq (.pointer (some ⟨g, P + j', none⟩)), .eq (.int .i64 a4), .eq (.int .i64 K), .eq (.int .i64 (K % p)), .eq (.pointer (some ⟨g, P + j', none⟩))] [[], [0], [], [], [3], [2, 3, 4], [], [2, 3, 4, 5, 6], [], [], [], [10], [], [], [13], [12, 13, 14], [], [12, 13, 14, 15, 16], [10, 11, 12, 13, 14, 15, 16, 17], [10, 11, 12, 13, 14, 15, 16, 17, 18], [9, 10, 11, 12, 13, 14, 15, 16, 17, 18, 19], [8, 9, 10, 11, 12, 13, 14, 15, 16, 17, 18, 19, 20], [0, 1, 2, 3, 4, 5, 6, 7, 8, 9, 10, 11, 12, 13, 14, 15, 16, 17, 18, 19, 20, 21], [0, 1, 2, 3, 4, 5, 6, 7, 8, 9, 10, 11, 12, 13, 14, 15, 16, 17, 18, 19, 20, 21, 22]] 23 (by kernel_rfl) ⟨trivial, trivial, trivial, trivial, trivial, trivial, trivial, trivial, trivial, trivial, trivial, trivial, trivial, trivial, trivial, trivial, trivial, trivial, trivial, trivial, trivial, trivial, trivial, trivial⟩ ⟨?_, ?_, ?_, ?_, ?_, ?_, ?_, ?_, ?_, ?_, ?_, ?_, ?_, ?_, ?_, ?_, ?_, ?_, ?_, ?_, ?_, ?_, ?_, trivial⟩ ?_
                    · intro x w hb hk Q' hQ
                      clear hk
                      simp only [netAct, dstAt, List.getElem?_toArray, List.getElem?_cons_zero, List.getElem?_cons_succ, Option.bind_some, Act.put, List.setIfInBounds_toArray, List.set_cons_zero, List.set_cons_succ] at hQ ⊢
                      go_wp2
                      exact hQ (.pointer (some ⟨w1.heap.size, 2, none⟩)) _ (Below.refl _ _) rfl
                    · intro x w hb hk Q' hQ
                      have h0 : x.v 0 = .pointer (some ⟨w1.heap.size, 2, none⟩) := (hk 0 (by decide)).1
                      clear hk
                      simp only [netAct, dstAt, List.getElem?_toArray, List.getElem?_cons_zero, List.getElem?_cons_succ, Option.bind_some, Act.put, List.setIfInBounds_toArray, List.set_cons_zero, List.set_cons_succ] at hQ ⊢
                      simp only [h0] at hQ ⊢
                      clear h0
                      have q := (hSS.out.call HWB.out hb).2.cell' (i := 2) rfl
                      go_wp2
                      exact hQ (.slice (some ⟨g, 0, none⟩) L cap) _ (Below.refl _ _) rfl
                    · intro x w hb hk Q' hQ
                      clear hk
                      simp only [netAct, dstAt, List.getElem?_toArray, List.getElem?_cons_zero, List.getElem?_cons_succ, Option.bind_some, Act.put, List.setIfInBounds_toArray, List.set_cons_zero, List.set_cons_succ] at hQ ⊢
                      go_wp2
                      exact hQ (.int .i64 n) _ (Below.refl _ _) rfl
                    · intro x w hb hk Q' hQ
                      clear hk
                      simp only [netAct, dstAt, List.getElem?_toArray, List.getElem?_cons_zero, List.getElem?_cons_succ, Option.bind_some, Act.put, List.setIfInBounds_toArray, List.set_cons_zero, List.set_cons_succ] at hQ ⊢
                      go_wp2
                      exact hQ (.pointer (some ⟨w1.heap.size, 1, none⟩)) _ (Below.refl _ _) rfl
                    · intro x w hb hk Q' hQ
                      have h3 : x.v 3 = .pointer (some ⟨w1.heap.size, 1, none⟩) := (hk 3 (by decide)).1
                      clear hk
                      simp only [netAct, dstAt, List.getElem?_toArray, List.getElem?_cons_zero, List.getElem?_cons_succ, Option.bind_some, Act.put, List.setIfInBounds_toArray, List.set_cons_zero, List.set_cons_succ] at hQ ⊢
                      simp only [h3] at hQ ⊢
                      clear h3
                      have q := (hSS.out.call HWB.out hb).2.cell' (i := 1) rfl
                      go_wp2
                      exact hQ (.int .i64 j) _ (Below.refl _ _) rfl
                    · intro x w hb hk Q' hQ
                      have h2 : x.v 2 = .int .i64 n := (hk 2 (by decide)).1
                      have h4 : x.v 4 = .int .i64 j := (hk 4 (by decide)).1
                      clear hk
                      simp only [netAct, dstAt, List.getElem?_toArray, List.getElem?_cons_zero, List.getElem?_cons_succ, Option.bind_some, Act.put, List.setIfInBounds_toArray, List.set_cons_zero, List.set_cons_succ] at hQ ⊢
                      simp only [h2, h4] at hQ ⊢
                      clear h2 h4
                      go_wp2
                      rw [hPw.out]
                      exact hQ (.int .i64 P) _ (Below.refl _ _) rfl
                    · intro x w hb hk Q' hQ
                      clear hk
                      simp only [netAct, dstAt, List.getElem?_toArray, List.getElem?_cons_zero, List.getElem?_cons_succ, Option.bind_some, Act.put, List.setIfInBounds_toArray, List.set_cons_zero, List.set_cons_succ] at hQ ⊢
                      go_wp2
                      exact hQ (.int .i64 j') _ (Below.refl _ _) rfl
                    · intro x w hb hk Q' hQ
                      have h5 : x.v 5 = .int .i64 P := (hk 5 (by decide)).1
                      have h6 : x.v 6 = .int .i64 j' := (hk 6 (by decide)).1
                      clear hk
                      simp only [netAct, dstAt, List.getElem?_toArray, List.getElem?_cons_zero, List.getElem?_cons_succ, Option.bind_some, Act.put, List.setIfInBounds_toArray, List.set_cons_zero, List.set_cons_succ] at hQ ⊢
                      simp only [h5, h6] at hQ ⊢
                      clear h5 h6
                      go_wp2
                      exact hQ (.int .i64 ((P : Int) + j')) _ (Below.refl _ _) rfl
                    · intro x w hb hk Q' hQ
                      clear hk
                      simp only [netAct, dstAt, List.getElem?_toArray, List.getElem?_cons_zero, List.getElem?_cons_succ, Option.bind_some, Act.put, List.setIfInBounds_toArray, List.set_cons_zero, List.set_cons_succ] at hQ ⊢
                      go_wp2
                      exact hQ (.int .i64 p) _ (Below.refl _ _) rfl
                    · intro x w hb hk Q' hQ
                      clear hk
                      simp only [netAct, dstAt, List.getElem?_toArray, List.getElem?_cons_zero, List.getElem?_cons_succ, Option.bind_some, Act.put, List.setIfInBounds_toArray, List.set_cons_zero, List.set_cons_succ] at hQ ⊢
                      go_wp2
                      exact hQ (.int .i64 s) _ (Below.refl _ _) rfl
                    · intro x w hb hk Q' hQ
                      clear hk
                      simp only [netAct, dstAt, List.getElem?_toArray, List.getElem?_cons_zero, List.getElem?_cons_succ, Option.bind_some, Act.put, List.setIfInBounds_toArray, List.set_cons_zero, List.set_cons_succ] at hQ ⊢
                      go_wp2
                      exact hQ (.pointer (some ⟨w1.heap.size, 2, none⟩)) _ (Below.refl _ _) rfl
                    · intro x w hb hk Q' hQ
                      have h10 : x.v 10 = .pointer (some ⟨w1.heap.size, 2, none⟩) := (hk 10 (by decide)).1
                      clear hk
                      simp only [netAct, dstAt, List.getElem?_toArray, List.getElem?_cons_zero, List.getElem?_cons_succ, Option.bind_some, Act.put, List.setIfInBounds_toArray, List.set_cons_zero, List.set_cons_succ] at hQ ⊢
                      simp only [h10] at hQ ⊢
                      clear h10
                      have q := (hSS.out.call HWB.out hb).2.cell' (i := 2) rfl
                      go_wp2
                      exact hQ (.slice (some ⟨g, 0, none⟩) L cap) _ (Below.refl _ _) rfl
                    · intro x w hb hk Q' hQ
                      clear hk
                      simp only [netAct, dstAt, List.getElem?_toArray, List.getElem?_cons_zero, List.getElem?_cons_succ, Option.bind_some, Act.put, List.setIfInBounds_toArray, List.set_cons_zero, List.set_cons_succ] at hQ ⊢
                      go_wp2
                      exact hQ (.int .i64 n) _ (Below.refl _ _) rfl
                    · intro x w hb hk Q' hQ
                      clear hk
                      simp only [netAct, dstAt, List.getElem?_toArray, List.getElem?_cons_zero, List.getElem?_cons_succ, Option.bind_some, Act.put, List.setIfInBounds_toArray, List.set_cons_zero, List.set_cons_succ] at hQ ⊢
                      go_wp2
                      exact hQ (.pointer (some ⟨w1.heap.size, 1, none⟩)) _ (Below.refl _ _) rfl
                    · intro x w hb hk Q' hQ
                      have h13 : x.v 13 = .pointer (some ⟨w1.heap.size, 1, none⟩) := (hk 13 (by decide)).1
                      clear hk
                      simp only [netAct, dstAt, List.getElem?_toArray, List.getElem?_cons_zero, List.getElem?_cons_succ, Option.bind_some, Act.put, List.setIfInBounds_toArray, List.set_cons_zero, List.set_cons_succ] at hQ ⊢
                      simp only [h13] at hQ ⊢
                      clear h13
                      have q := (hSS.out.call HWB.out hb).2.cell' (i := 1) rfl
                      go_wp2
                      exact hQ (.int .i64 j) _ (Below.refl _ _) rfl
                    · intro x w hb hk Q' hQ
                      have h12 : x.v 12 = .int .i64 n := (hk 12 (by decide)).1
                      have h14 : x.v 14 = .int .i64 j := (hk 14 (by decide)).1
                      clear hk
                      simp only [netAct, dstAt, List.getElem?_toArray, List.getElem?_cons_zero, List.getElem?_cons_succ, Option.bind_some, Act.put, List.setIfInBounds_toArray, List.set_cons_zero, List.set_cons_succ] at hQ ⊢
                      simp only [h12, h14] at hQ ⊢
                      clear h12 h14
                      go_wp2
                      rw [hPw.out]
                      exact hQ (.int .i64 P) _ (Below.refl _ _) rfl
                    · intro x w hb hk Q' hQ
                      clear hk
                      simp only [netAct, dstAt, List.getElem?_toArray, List.getElem?_cons_zero, List.getElem?_cons_succ, Option.bind_some, Act.put, List.setIfInBounds_toArray, List.set_cons_zero, List.set_cons_succ] at hQ ⊢
                      go_wp2
                      exact hQ (.int .i64 j') _ (Below.refl _ _) rfl
                    · intro x w hb hk Q' hQ
                      have h15 : x.v 15 = .int .i64 P := (hk 15 (by decide)).1
                      have h16 : x.v 16 = .int .i64 j' := (hk 16 (by decide)).1
                      clear hk
                      simp only [netAct, dstAt, List.getElem?_toArray, List.getElem?_cons_zero, List.getElem?_cons_succ, Option.bind_some, Act.put, List.setIfInBounds_toArray, List.set_cons_zero, List.set_cons_succ] at hQ ⊢
                      simp only [h15, h16] at hQ ⊢
                      clear h15 h16
                      go_wp2
                      exact hQ (.int .i64 ((P : Int) + j')) _ (Below.refl _ _) rfl
                    · intro x w hb hk Q' hQ
                      have h11 : x.v 11 = .slice (some ⟨g, 0, none⟩) L cap := (hk 11 (by decide)).1
                      have h17 : x.v 17 = .int .i64 ((P : Int) + j') := (hk 17 (by decide)).1
                      clear hk
                      simp only [netAct, dstAt, List.getElem?_toArray, List.getElem?_cons_zero, List.getElem?_cons_succ, Option.bind_some, Act.put, List.setIfInBounds_toArray, List.set_cons_zero, List.set_cons_succ] at hQ ⊢
                      simp only [h11, h17] at hQ ⊢
                      clear h11 h17
                      go_wp2
                      exact hQ (.pointer (some ⟨g, P + j', none⟩)) _ (Below.refl _ _) rfl
                    · intro x w hb hk Q' hQ
                      have h18 : x.v 18 = .pointer (some ⟨g, P + j', none⟩) := (hk 18 (by decide)).1
                      clear hk
                      simp only [netAct, dstAt, List.getElem?_toArray, List.getElem?_cons_zero, List.getElem?_cons_succ, Option.bind_some, Act.put, List.setIfInBounds_toArray, List.set_cons_zero, List.set_cons_succ] at hQ ⊢
                      simp only [h18] at hQ ⊢
                      clear h18
                      have z := ((hSS.out.call HWB.out hb).1.cellP hnr hl4 HPP.out).1
                      rw [sc_rest, HA4.out] at z
                      go_wp2
                      exact hQ (.int .i64 a4) _ (Below.refl _ _) rfl
                    · intro x w hb hk Q' hQ
                      have h9 : x.v 9 = .int .i64 s := (hk 9 (by decide)).1
                      have h19 : x.v 19 = .int .i64 a4 := (hk 19 (by decide)).1
                      clear hk
                      simp only [netAct, dstAt, List.getElem?_toArray, List.getElem?_cons_zero, List.getElem?_cons_succ, Option.bind_some, Act.put, List.setIfInBounds_toArray, List.set_cons_zero, List.set_cons_succ] at hQ ⊢
                      simp only [h9, h19] at hQ ⊢
                      clear h9 h19
                      go_wp2
                      rw [hKw.out]
                      exact hQ (.int .i64 K) _ (Below.refl _ _) rfl
                    · intro x w hb hk Q' hQ
                      have h8 : x.v 8 = .int .i64 p := (hk 8 (by decide)).1
                      have h20 : x.v 20 = .int .i64 K := (hk 20 (by decide)).1
                      clear hk
                      simp only [netAct, dstAt, List.getElem?_toArray, List.getElem?_cons_zero, List.getElem?_cons_succ, Option.bind_some, Act.put, List.setIfInBounds_toArray, List.set_cons_zero, List.set_cons_succ] at hQ ⊢
                      simp only [h8, h20] at hQ ⊢
                      clear h8 h20
                      go_wp2_with fail
                      refine (l2Mod_any p K _ hpr hKI.out).mono ?_; rintro e w5 ⟨rfl, hww⟩; replace hww := hww.symm; subst hww
                      go_wp2
                      exact hQ (.int .i64 (K % p)) _ (Below.refl _ _) rfl
                    · intro x w hb hk Q' hQ
                      have h1 : x.v 1 = .slice (some ⟨g, 0, none⟩) L cap := (hk 1 (by decide)).1
                      have h7 : x.v 7 = .int .i64 ((P : Int) + j') := (hk 7 (by decide)).1
                      clear hk
                      simp only [netAct, dstAt, List.getElem?_toArray, List.getElem?_cons_zero, List.getElem?_cons_succ, Option.bind_some, Act.put, List.setIfInBounds_toArray, List.set_cons_zero, List.set_cons_succ] at hQ ⊢
                      simp only [h1, h7] at hQ ⊢
                      clear h1 h7
                      go_wp2
                      exact hQ (.pointer (some ⟨g, P + j', none⟩)) _ (Below.refl _ _) rfl
                    · intro x w hb hk hiv hdj
                      have h0 : x.v 0 = .pointer (some ⟨w1.heap.size, 2, none⟩) := hk 0 (by decide)
                      have h1 : x.v 1 = .slice (some ⟨g, 0, none⟩) L cap := hk 1 (by decide)
                      have h2 : x.v 2 = .int .i64 n := hk 2 (by decide)
                      have h3 : x.v 3 = .pointer (some ⟨w1.heap.size, 1, none⟩) := hk 3 (by decide)
                      have h4 : x.v 4 = .int .i64 j := hk 4 (by decide)
                      have h5 : x.v 5 = .int .i64 P := hk 5 (by decide)
                      have h6 : x.v 6 = .int .i64 j' := hk 6 (by decide)
                      have h7 : x.v 7 = .int .i64 ((P : Int) + j') := hk 7 (by decide)
                      have h8 : x.v 8 = .int .i64 p := hk 8 (by decide)
                      have h9 : x.v 9 = .int .i64 s := hk 9 (by decide)
                      have h10 : x.v 10 = .pointer (some ⟨w1.heap.size, 2, none⟩) := hk 10 (by decide)
                      have h11 : x.v 11 = .slice (some ⟨g, 0, none⟩) L cap := hk 11 (by decide)
                      have h12 : x.v 12 = .int .i64 n := hk 12 (by decide)
                      have h13 : x.v 13 = .pointer (some ⟨w1.heap.size, 1, none⟩) := hk 13 (by decide)
                      have h14 : x.v 14 = .int .i64 j := hk 14 (by decide)
                      have h15 : x.v 15 = .int .i64 P := hk 15 (by decide)
                      have h16 : x.v 16 = .int .i64 j' := hk 16 (by decide)
                      have h17 : x.v 17 = .int .i64 ((P : Int) + j') := hk 17 (by decide)
                      have h18 : x.v 18 = .pointer (some ⟨g, P + j', none⟩) := hk 18 (by decide)
                      have h19 : x.v 19 = .int .i64 a4 := hk 19 (by decide)
                      have h20 : x.v 20 = .int .i64 K := hk 20 (by decide)
                      have h21 : x.v 21 = .int .i64 (K % p) := hk 21 (by decide)
                      have h22 : x.v 22 = .pointer (some ⟨g, P + j', none⟩) := hk 22 (by decide)
                      clear hk
                      simp only [netAct, dstAt, List.getElem?_toArray, List.getElem?_cons_zero, List.getElem?_cons_succ, Option.bind_some, Act.put, List.setIfInBounds_toArray, List.set_cons_zero, List.set_cons_succ]
                      simp only [List.drop_succ_cons, List.drop_zero, h0, h1, h2, h3, h4, h5, h6, h7, h8, h9, h10, h11, h12, h13, h14, h15, h16, h17, h18, h19, h20, h21, h22]
                      clear h0 h1 h2 h3 h4 h5 h6 h7 h8 h9 h10 h11 h12 h13 h14 h15 h16 h17 h18 h19 h20 h21 h22
                      have S := hSS.out.call HWB.out hb
                      obtain ⟨p1, _, p2⟩ := S.1.cellP hnr hl4 HPP.out
                      have S2 := S.put (J := P + j') (x := K % p) hBg (S.1.size HWB.out) hRI.out HST.out
                      have HS2 := Lib.hid S2
                      clear S S2 hiv hdj
                      go_wp2
                      go_roundw
                      case rel => exact ⟨j' + 1, by omega, by go_num, HS2.out⟩
                      case measure => simp [intOf]; omega
                  · have hje : j' = j := by omega
                    subst hje
                    have S := S.congr (sc_end p n r j' s F1)
                    have hin2 := inF_sc (s := s) (n := n) hpr.1 HIN1.out
                    obtain ⟨F2, hF2⟩ : ∃ F2, scA p n s F1 = F2 := ⟨_, rfl⟩
                    rw [hF2] at S hin2
                    have hfin : Hid (rdF p r F n k = elA p n k F2) := by
                      show _ = _
                      rw [rdF, HZA.out, HF1.out, HX.out, HS.out, hF2]
                    have HIN2 := Lib.hid hin2
                    clear hF2 hin2 kb
                    rw [← el_0 p n k F2] at S
                    go_wp2
                    clear c0 c1 c2
                    go_loopw [16] (fun i wr => ∃ i' : Nat, i' ≤ r ∧ i = .int .i64 i' ∧ RT w1.heap.size W.heap.size w2 (some ⟨g, 0, none⟩) r j' L cap wr (elI p n k i' F2) (.slice PA n pc) ps) (fun i _ => r - (intOf i).toNat)
                    case atStart => exact ⟨0, Nat.zero_le _, rfl, S⟩
                    case round =>
                      clear S
                      obtain ⟨i, hi, rfl, S⟩ := hrel
                      have kb := (S).2
                      have c0 := kb.cell' (i := 0) rfl
                      have c1 := kb.cell' (i := 1) rfl
                      have c2 := kb.cell' (i := 2) rfl
                      by_cases hl5 : i < r
                      · obtain ⟨R, hR⟩ : ∃ R, R = i * j' := ⟨_, rfl⟩
                        have hRw := Lib.hid (ixP hl5 hlt hr hc hR)
                        obtain ⟨a1, a2, a3⟩ := rowP hl5 hlt hr hc hR
                        rw [← EL.out] at a1 a2 a3
                        obtain ⟨z1, _, _⟩ := S.1.cellP hl5 hlt hR
                        rw [el_rest] at z1
                        have hr5 := HIN2.out i k hl5 hlt
                        obtain ⟨q, hq⟩ : ∃ q, F2 i k = q := ⟨_, rfl⟩
                        rw [hq] at hr5 z1
                        have HR := Lib.hid hR
                        have HQ5 := Lib.hid hq
                        have hrw : ∀ [Inhabited Unit], wrap64 ((i : Int) * (j' : Int)) = (R : Int) := fun {_} => hRw.out
                        clear hR hq
                        rw [← elJ_0] at S
                        go_wp2
                        try rw [hRw.out]
                        clear z1 c0 c1 c2 kb hrw
                        go_loopw [18] (fun x wr => ∃ y : Nat, y ≤ j' ∧ x = .int .i64 y ∧ RT w1.heap.size W.heap.size w2 (some ⟨g, 0, none⟩) r j' L cap wr (elJ p n k i y F2) (.slice PA n pc) ps ∧ (i = n → y = 0)) (fun x _ => j' - (intOf x).toNat)
                        case atStart => exact ⟨0, Nat.zero_le _, rfl, S, fun _ => rfl⟩
                        case round =>
                          clear S
                          obtain ⟨y, hy, rfl, S, hyn⟩ := hrel
                          have kb := (S).2
                          have c0 := kb.cell' (i := 0) rfl
                          have c1 := kb.cell' (i := 1) rfl
                          have c2 := kb.cell' (i := 2) rfl
                          by_cases hin : i = n
                          · have hy0 := hyn hin
                            subst hy0
                            have hne : ((i : Int) != n) = false := by rw [bne_eq_false_iff_eq]; omega
                            have S := S.congr (show flat r j' (elJ p n k i 0 F2) = flat r j' (elI p n k (i + 1) F2) by rw [elJ_0, hin, el_skip])
                            have hS2 := Lib.hid S
                            have hk0 : 0 < j' := by omega
                            clear hin hyn S
                            go_wp2
                            go_roundw
                            case rel => exact ⟨i + 1, by omega, by go_num, hS2.out⟩
                            case measure => simp [intOf]; omega
                          · have hne : ((i : Int) != n) = true := by rw [bne_iff_ne]; omega
                            clear hyn
                            by_cases hl6 : y < j'
                            · obtain ⟨d1, d2, d3⟩ := rowP hl5 hl6 hr hc HR.out
                              obtain ⟨b1, b2, b3⟩ := rowP hnr hl6 hr hc HPP.out
                              rw [← EL.out] at d1 d2 d3 b1 b2 b3
                              have hiy := HIN2.out i y hl5 hl6
                              have hny := HIN2.out n y hnr hl6
                              have hst := elJ_step (p := p) (n := n) (k := k) (i := i) (j := y) F2 hl5 hl6
                              rw [← el_sub] at hst
                              obtain ⟨v, hv⟩ : ∃ v, F2 i y = v := ⟨_, rfl⟩
                              obtain ⟨t, ht⟩ : ∃ t, F2 n y = t := ⟨_, rfl⟩
                              rw [hv, ht, HQ5.out, ← HR.out] at hst
                              rw [hv] at hiy
                              rw [ht] at hny
                              have k0 : 0 ≤ q * t := Int.mul_nonneg hr5.1 hny.1
                              have k1 : q * t ≤ 4 * 4 := Int.mul_le_mul (by omega) (by omega) hny.1 (by omega)
                              obtain ⟨K, hK⟩ : ∃ K, q * t = K := ⟨_, rfl⟩
                              rw [hK] at k0 k1 hst
                              have hKw := Lib.hid (show wrap64 (q * t) = K by rw [hK]; exact IntWalk.wrap64_in _ ⟨by omega, by omega⟩)
                              have hr1 := emod_rng (x := v - K) hpr.1
                              have HST := Lib.hid hst
                              have HV := Lib.hid hv
                              have HT := Lib.hid ht
                              have HNI := Lib.hid hin
                              have hSS := Lib.hid S
                              have hKI : Hid (I64 (v - K)) := by show _ ∧ _; omega
                              have hRI : Hid (I64 ((v - K) % p)) := by show _ ∧ _; omega
                              clear hv ht hK hst S kb hin
                              go_wp2
                              clear c0 c1 c2
                              refine wp_region_net (by kernel_rfl) (.eq (.pointer (some ⟨w1.heap.size, 2, none⟩)) :: .eq (.slice (some ⟨g, 0, none⟩) L cap) :: .eq (.int .i64 i) :: .eq (.pointer (some ⟨w1.heap.size, 1, none⟩)) :: .eq (.int .i64 j') :: .eq (.int .i64 R) :: .eq (.int .i64 y) :: .eq (.int .i64 ((R : Int) + y)) :: .eq (.int .i64 p) :: .eq (.pointer (some ⟨w1.heap.size, 2, none⟩)) :: .eq (.slice (some ⟨g, 0, none⟩) L cap) :: .eq (.int .i64 i) :: .eq (.pointer (some ⟨w1.heap.size, 1, none⟩)) :: .eq (.int .i64 j') :: .eq (.int .i64 R) :: .eq (.int .i64 y) :: .eq (.int .i64 ((R : Int) + y)) :: .eq (.pointer (some ⟨g, R + y, none⟩)) :: .eq (.int .i64 v) :: .eq (.int .i64 q) :: .eq (.pointer (some ⟨w1.heap.size, 2, none⟩)) :: .eq (.slice (some ⟨g, 0, none⟩) L cap) :: .eq (.int .i64 n) :: .eq (.pointer (some ⟨w1.heap.size, 1, none⟩)) :: .eq (.int .i64 j') :: .eq (.int .i64 P) :: .eq (.int .i64 y) :: .eq (.int .i64 ((P : Int) + y)) :: .eq (.pointer (some ⟨g, P + y, none⟩)) :: .eq (.int .i64 t) :: .eq (.int .i64 K) :: .eq (.int .i64 (v - K)) :: .eq (.int .i64 ((v - K) % p)) :: .eq (.pointer (some ⟨g, R + y, none⟩)) :: []) [[], [0], [], [], [3], [2, 3, 4], [], [2, 3, 4, 5, 6], [], [], [9], [], [], [12], [11, 12, 13], [], [11, 12, 13, 14, 15], [9, 10, 11, 12, 13, 14, 15, 16], [9, 10, 11, 12, 13, 14, 15, 16, 17], [], [], [20], [], [], [23], [22, 23, 24], [], [22, 23, 24, 25, 26], [20, 21, 22, 23, 24, 25, 26, 27], [20, 21, 22, 23, 24, 25, 26, 27, 28], [19, 20, 21, 22, 23, 24, 25, 26, 27, 28, 29], [9, 10, 11, 12, 13, 14, 15, 16, 17, 18, 19, 20, 21, 22, 23, 24, 25, 26, 27, 28, 29, 30], [8, 9, 10, 11, 12, 13, 14, 15, 16, 17, 18, 19, 20, 21, 22, 23, 24, 25, 26, 27, 28, 29, 30, 31], [0, 1, 2, 3, 4, 5, 6, 7, 8, 9, 10, 11, 12, 13, 14, 15, 16, 17, 18, 19, 20, 21, 22, 23, 24, 25, 26, 27, 28, 29, 30, 31, 32], [0, 1, 2, 3, 4, 5, 6, 7, 8, 9, 10, 11, 12, 13, 14, 15, 16, 17, 18, 19, 20, 21, 22, 23, 24, 25, 26, 27, 28, 29, 30, 31, 32, 33]] 34 (by kernel_rfl) ⟨trivial, trivial, trivial, trivial, trivial, trivial, trivial, trivial, trivial, trivial, trivial, trivial, trivial, trivial, trivial, trivial, trivial, trivial, trivial, trivial, trivial, trivial, trivial, trivial, trivial, trivial, trivial, trivial, trivial, trivial, trivial, trivial, trivial, trivial, trivial⟩ ⟨?_, ?_, ?_, ?_, ?_, ?_, ?_, ?_, ?_, ?_, ?_, ?_, ?_, ?_, ?_, ?_, ?_, ?_, ?_, ?_, ?_, ?_, ?_, ?_, ?_, ?_, ?_, ?_, ?_, ?_, ?_, ?_, ?_, ?_, trivial⟩ ?_
                              · intro x w hb hk Q' hQ
                                clear hk
                                simp only [netAct, dstAt, List.getElem?_toArray, List.getElem?_cons_zero, List.getElem?_cons_succ, Option.bind_some, Act.put, List.setIfInBounds_toArray, List.set_cons_zero, List.set_cons_succ] at hQ ⊢
                                go_wp2
                                exact hQ (.pointer (some ⟨w1.heap.size, 2, none⟩)) _ (Below.refl _ _) rfl
                              · intro x w hb hk Q' hQ
                                have h0 : x.v 0 = .pointer (some ⟨w1.heap.size, 2, none⟩) := (hk 0 (by decide)).1
                                clear hk
                                simp only [netAct, dstAt, List.getElem?_toArray, List.getElem?_cons_zero, List.getElem?_cons_succ, Option.bind_some, Act.put, List.setIfInBounds_toArray, List.set_cons_zero, List.set_cons_succ] at hQ ⊢
                                simp only [h0] at hQ ⊢
                                clear h0
                                have q9 := (hSS.out.call HWB.out hb).2.cell' (i := 2) rfl
                                go_wp2
                                exact hQ (.slice (some ⟨g, 0, none⟩) L cap) _ (Below.refl _ _) rfl
                              · intro x w hb hk Q' hQ
                                clear hk
                                simp only [netAct, dstAt, List.getElem?_toArray, List.getElem?_cons_zero, List.getElem?_cons_succ, Option.bind_some, Act.put, List.setIfInBounds_toArray, List.set_cons_zero, List.set_cons_succ] at hQ ⊢
                                go_wp2
                                exact hQ (.int .i64 i) _ (Below.refl _ _) rfl
                              · intro x w hb hk Q' hQ
                                clear hk
                                simp only [netAct, dstAt, List.getElem?_toArray, List.getElem?_cons_zero, List.getElem?_cons_succ, Option.bind_some, Act.put, List.setIfInBounds_toArray, List.set_cons_zero, List.set_cons_succ] at hQ ⊢
                                go_wp2
                                exact hQ (.pointer (some ⟨w1.heap.size, 1, none⟩)) _ (Below.refl _ _) rfl
                              · intro x w hb hk Q' hQ
                                have h3 : x.v 3 = .pointer (some ⟨w1.heap.size, 1, none⟩) := (hk 3 (by decide)).1
                                clear hk
                                simp only [netAct, dstAt, List.getElem?_toArray, List.getElem?_cons_zero, List.getElem?_cons_succ, Option.bind_some, Act.put, List.setIfInBounds_toArray, List.set_cons_zero, List.set_cons_succ] at hQ ⊢
                                simp only [h3] at hQ ⊢
                                clear h3
                                have q9 := (hSS.out.call HWB.out hb).2.cell' (i := 1) rfl
                                go_wp2
                                exact hQ (.int .i64 j') _ (Below.refl _ _) rfl
                              · intro x w hb hk Q' hQ
                                have h2 : x.v 2 = .int .i64 i := (hk 2 (by decide)).1
                                have h4 : x.v 4 = .int .i64 j' := (hk 4 (by decide)).1
                                clear hk
                                simp only [netAct, dstAt, List.getElem?_toArray, List.getElem?_cons_zero, List.getElem?_cons_succ, Option.bind_some, Act.put, List.setIfInBounds_toArray, List.set_cons_zero, List.set_cons_succ] at hQ ⊢
                                simp only [h2, h4] at hQ ⊢
                                clear h2 h4
                                go_wp2
                                rw [hRw.out]
                                exact hQ (.int .i64 R) _ (Below.refl _ _) rfl
                              · intro x w hb hk Q' hQ
                                clear hk
                                simp only [netAct, dstAt, List.getElem?_toArray, List.getElem?_cons_zero, List.getElem?_cons_succ, Option.bind_some, Act.put, List.setIfInBounds_toArray, List.set_cons_zero, List.set_cons_succ] at hQ ⊢
                                go_wp2
                                exact hQ (.int .i64 y) _ (Below.refl _ _) rfl
                              · intro x w hb hk Q' hQ
                                have h5 : x.v 5 = .int .i64 R := (hk 5 (by decide)).1
                                have h6 : x.v 6 = .int .i64 y := (hk 6 (by decide)).1
                                clear hk
                                simp only [netAct, dstAt, List.getElem?_toArray, List.getElem?_cons_zero, List.getElem?_cons_succ, Option.bind_some, Act.put, List.setIfInBounds_toArray, List.set_cons_zero, List.set_cons_succ] at hQ ⊢
                                simp only [h5, h6] at hQ ⊢
                                clear h5 h6
                                go_wp2
                                exact hQ (.int .i64 ((R : Int) + y)) _ (Below.refl _ _) rfl
                              · intro x w hb hk Q' hQ
                                clear hk
                                simp only [netAct, dstAt, List.getElem?_toArray, List.getElem?_cons_zero, List.getElem?_cons_succ, Option.bind_some, Act.put, List.setIfInBounds_toArray, List.set_cons_zero, List.set_cons_succ] at hQ ⊢
                                go_wp2
                                exact hQ (.int .i64 p) _ (Below.refl _ _) rfl
                              · intro x w hb hk Q' hQ
                                clear hk
                                simp only [netAct, dstAt, List.getElem?_toArray, List.getElem?_cons_zero, List.getElem?_cons_succ, Option.bind_some, Act.put, List.setIfInBounds_toArray, List.set_cons_zero, List.set_cons_succ] at hQ ⊢
                                go_wp2
                                exact hQ (.pointer (some ⟨w1.heap.size, 2, none⟩)) _ (Below.refl _ _) rfl
                              · intro x w hb hk Q' hQ
                                have h9 : x.v 9 = .pointer (some ⟨w1.heap.size, 2, none⟩) := (hk 9 (by decide)).1
                                clear hk
                                simp only [netAct, dstAt, List.getElem?_toArray, List.getElem?_cons_zero, List.getElem?_cons_succ, Option.bind_some, Act.put, List.setIfInBounds_toArray, List.set_cons_zero, List.set_cons_succ] at hQ ⊢
                                simp only [h9] at hQ ⊢
                                clear h9
                                have q9 := (hSS.out.call HWB.out hb).2.cell' (i := 2) rfl
                                go_wp2
                                exact hQ (.slice (some ⟨g, 0, none⟩) L cap) _ (Below.refl _ _) rfl
                              · intro x w hb hk Q' hQ
                                clear hk
                                simp only [netAct, dstAt, List.getElem?_toArray, List.getElem?_cons_zero, List.getElem?_cons_succ, Option.bind_some, Act.put, List.setIfInBounds_toArray, List.set_cons_zero, List.set_cons_succ] at hQ ⊢
                                go_wp2
                                exact hQ (.int .i64 i) _ (Below.refl _ _) rfl
                              · intro x w hb hk Q' hQ
                                clear hk
                                simp only [netAct, dstAt, List.getElem?_toArray, List.getElem?_cons_zero, List.getElem?_cons_succ, Option.bind_some, Act.put, List.setIfInBounds_toArray, List.set_cons_zero, List.set_cons_succ] at hQ ⊢
                                go_wp2
                                exact hQ (.pointer (some ⟨w1.heap.size, 1, none⟩)) _ (Below.refl _ _) rfl
                              · intro x w hb hk Q' hQ
                                have h12 : x.v 12 = .pointer (some ⟨w1.heap.size, 1, none⟩) := (hk 12 (by decide)).1
                                clear hk
                                simp only [netAct, dstAt, List.getElem?_toArray, List.getElem?_cons_zero, List.getElem?_cons_succ, Option.bind_some, Act.put, List.setIfInBounds_toArray, List.set_cons_zero, List.set_cons_succ] at hQ ⊢
                                simp only [h12] at hQ ⊢
                                clear h12
                                have q9 := (hSS.out.call HWB.out hb).2.cell' (i := 1) rfl
                                go_wp2
                                exact hQ (.int .i64 j') _ (Below.refl _ _) rfl
                              · intro x w hb hk Q' hQ
                                have h11 : x.v 11 = .int .i64 i := (hk 11 (by decide)).1
                                have h13 : x.v 13 = .int .i64 j' := (hk 13 (by decide)).1
                                clear hk
                                simp only [netAct, dstAt, List.getElem?_toArray, List.getElem?_cons_zero, List.getElem?_cons_succ, Option.bind_some, Act.put, List.setIfInBounds_toArray, List.set_cons_zero, List.set_cons_succ] at hQ ⊢
                                simp only [h11, h13] at hQ ⊢
                                clear h11 h13
                                go_wp2
                                rw [hRw.out]
                                exact hQ (.int .i64 R) _ (Below.refl _ _) rfl
                              · intro x w hb hk Q' hQ
                                clear hk
                                simp only [netAct, dstAt, List.getElem?_toArray, List.getElem?_cons_zero, List.getElem?_cons_succ, Option.bind_some, Act.put, List.setIfInBounds_toArray, List.set_cons_zero, List.set_cons_succ] at hQ ⊢
                                go_wp2
                                exact hQ (.int .i64 y) _ (Below.refl _ _) rfl
                              · intro x w hb hk Q' hQ
                                have h14 : x.v 14 = .int .i64 R := (hk 14 (by decide)).1
                                have h15 : x.v 15 = .int .i64 y := (hk 15 (by decide)).1
                                clear hk
                                simp only [netAct, dstAt, List.getElem?_toArray, List.getElem?_cons_zero, List.getElem?_cons_succ, Option.bind_some, Act.put, List.setIfInBounds_toArray, List.set_cons_zero, List.set_cons_succ] at hQ ⊢
                                simp only [h14, h15] at hQ ⊢
                                clear h14 h15
                                go_wp2
                                exact hQ (.int .i64 ((R : Int) + y)) _ (Below.refl _ _) rfl
                              · intro x w hb hk Q' hQ
                                have h10 : x.v 10 = .slice (some ⟨g, 0, none⟩) L cap := (hk 10 (by decide)).1
                                have h16 : x.v 16 = .int .i64 ((R : Int) + y) := (hk 16 (by decide)).1
                                clear hk
                                simp only [netAct, dstAt, List.getElem?_toArray, List.getElem?_cons_zero, List.getElem?_cons_succ, Option.bind_some, Act.put, List.setIfInBounds_toArray, List.set_cons_zero, List.set_cons_succ] at hQ ⊢
                                simp only [h10, h16] at hQ ⊢
                                clear h10 h16
                                go_wp2
                                exact hQ (.pointer (some ⟨g, R + y, none⟩)) _ (Below.refl _ _) rfl
                              · intro x w hb hk Q' hQ
                                have h17 : x.v 17 = .pointer (some ⟨g, R + y, none⟩) := (hk 17 (by decide)).1
                                clear hk
                                simp only [netAct, dstAt, List.getElem?_toArray, List.getElem?_cons_zero, List.getElem?_cons_succ, Option.bind_some, Act.put, List.setIfInBounds_toArray, List.set_cons_zero, List.set_cons_succ] at hQ ⊢
                                simp only [h17] at hQ ⊢
                                clear h17
                                have z := ((hSS.out.call HWB.out hb).1.cellP hl5 hl6 HR.out).1
                                rw [elJ_rest, HV.out] at z
                                go_wp2
                                exact hQ (.int .i64 v) _ (Below.refl _ _) rfl
                              · intro x w hb hk Q' hQ
                                clear hk
                                simp only [netAct, dstAt, List.getElem?_toArray, List.getElem?_cons_zero, List.getElem?_cons_succ, Option.bind_some, Act.put, List.setIfInBounds_toArray, List.set_cons_zero, List.set_cons_succ] at hQ ⊢
                                go_wp2
                                exact hQ (.int .i64 q) _ (Below.refl _ _) rfl
                              · intro x w hb hk Q' hQ
                                clear hk
                                simp only [netAct, dstAt, List.getElem?_toArray, List.getElem?_cons_zero, List.getElem?_cons_succ, Option.bind_some, Act.put, List.setIfInBounds_toArray, List.set_cons_zero, List.set_cons_succ] at hQ ⊢
                                go_wp2
                                exact hQ (.pointer (some ⟨w1.heap.size, 2, none⟩)) _ (Below.refl _ _) rfl
                              · intro x w hb hk Q' hQ
                                have h20 : x.v 20 = .pointer (some ⟨w1.heap.size, 2, none⟩) := (hk 20 (by decide)).1
                                clear hk
                                simp only [netAct, dstAt, List.getElem?_toArray, List.getElem?_cons_zero, List.getElem?_cons_succ, Option.bind_some, Act.put, List.setIfInBounds_toArray, List.set_cons_zero, List.set_cons_succ] at hQ ⊢
                                simp only [h20] at hQ ⊢
                                clear h20
                                have q9 := (hSS.out.call HWB.out hb).2.cell' (i := 2) rfl
                                go_wp2
                                exact hQ (.slice (some ⟨g, 0, none⟩) L cap) _ (Below.refl _ _) rfl
                              · intro x w hb hk Q' hQ
                                clear hk
                                simp only [netAct, dstAt, List.getElem?_toArray, List.getElem?_cons_zero, List.getElem?_cons_succ, Option.bind_some, Act.put, List.setIfInBounds_toArray, List.set_cons_zero, List.set_cons_succ] at hQ ⊢
                                go_wp2
                                exact hQ (.int .i64 n) _ (Below.refl _ _) rfl
                              · intro x w hb hk Q' hQ
                                clear hk
                                simp only [netAct, dstAt, List.getElem?_toArray, List.getElem?_cons_zero, List.getElem?_cons_succ, Option.bind_some, Act.put, List.setIfInBounds_toArray, List.set_cons_zero, List.set_cons_succ] at hQ ⊢
                                go_wp2
                                exact hQ (.pointer (some ⟨w1.heap.size, 1, none⟩)) _ (Below.refl _ _) rfl
                              · intro x w hb hk Q' hQ
                                have h23 : x.v 23 = .pointer (some ⟨w1.heap.size, 1, none⟩) := (hk 23 (by decide)).1
                                clear hk
                                simp only [netAct, dstAt, List.getElem?_toArray, List.getElem?_cons_zero, List.getElem?_cons_succ, Option.bind_some, Act.put, List.setIfInBounds_toArray, List.set_cons_zero, List.set_cons_succ] at hQ ⊢
                                simp only [h23] at hQ ⊢
                                clear h23
                                have q9 := (hSS.out.call HWB.out hb).2.cell' (i := 1) rfl
                                go_wp2
                                exact hQ (.int .i64 j') _ (Below.refl _ _) rfl
                              · intro x w hb hk Q' hQ
                                have h22 : x.v 22 = .int .i64 n := (hk 22 (by decide)).1
                                have h24 : x.v 24 = .int .i64 j' := (hk 24 (by decide)).1
                                clear hk
                                simp only [netAct, dstAt, List.getElem?_toArray, List.getElem?_cons_zero, List.getElem?_cons_succ, Option.bind_some, Act.put, List.setIfInBounds_toArray, List.set_cons_zero, List.set_cons_succ] at hQ ⊢
                                simp only [h22, h24] at hQ ⊢
                                clear h22 h24
                                go_wp2
                                rw [hPw.out]
                                exact hQ (.int .i64 P) _ (Below.refl _ _) rfl
                              · intro x w hb hk Q' hQ
                                clear hk
                                simp only [netAct, dstAt, List.getElem?_toArray, List.getElem?_cons_zero, List.getElem?_cons_succ, Option.bind_some, Act.put, List.setIfInBounds_toArray, List.set_cons_zero, List.set_cons_succ] at hQ ⊢
                                go_wp2
                                exact hQ (.int .i64 y) _ (Below.refl _ _) rfl
                              · intro x w hb hk Q' hQ
                                have h25 : x.v 25 = .int .i64 P := (hk 25 (by decide)).1
                                have h26 : x.v 26 = .int .i64 y := (hk 26 (by decide)).1
                                clear hk
                                simp only [netAct, dstAt, List.getElem?_toArray, List.getElem?_cons_zero, List.getElem?_cons_succ, Option.bind_some, Act.put, List.setIfInBounds_toArray, List.set_cons_zero, List.set_cons_succ] at hQ ⊢
                                simp only [h25, h26] at hQ ⊢
                                clear h25 h26
                                go_wp2
                                exact hQ (.int .i64 ((P : Int) + y)) _ (Below.refl _ _) rfl
                              · intro x w hb hk Q' hQ
                                have h21 : x.v 21 = .slice (some ⟨g, 0, none⟩) L cap := (hk 21 (by decide)).1
                                have h27 : x.v 27 = .int .i64 ((P : Int) + y) := (hk 27 (by decide)).1
                                clear hk
                                simp only [netAct, dstAt, List.getElem?_toArray, List.getElem?_cons_zero, List.getElem?_cons_succ, Option.bind_some, Act.put, List.setIfInBounds_toArray, List.set_cons_zero, List.set_cons_succ] at hQ ⊢
                                simp only [h21, h27] at hQ ⊢
                                clear h21 h27
                                go_wp2
                                exact hQ (.pointer (some ⟨g, P + y, none⟩)) _ (Below.refl _ _) rfl
                              · intro x w hb hk Q' hQ
                                have h28 : x.v 28 = .pointer (some ⟨g, P + y, none⟩) := (hk 28 (by decide)).1
                                clear hk
                                simp only [netAct, dstAt, List.getElem?_toArray, List.getElem?_cons_zero, List.getElem?_cons_succ, Option.bind_some, Act.put, List.setIfInBounds_toArray, List.set_cons_zero, List.set_cons_succ] at hQ ⊢
                                simp only [h28] at hQ ⊢
                                clear h28
                                have z := ((hSS.out.call HWB.out hb).1.cellP hnr hl6 HPP.out).1
                                rw [elJ_n _ HNI.out, HT.out] at z
                                go_wp2
                                exact hQ (.int .i64 t) _ (Below.refl _ _) rfl
                              · intro x w hb hk Q' hQ
                                have h19 : x.v 19 = .int .i64 q := (hk 19 (by decide)).1
                                have h29 : x.v 29 = .int .i64 t := (hk 29 (by decide)).1
                                clear hk
                                simp only [netAct, dstAt, List.getElem?_toArray, List.getElem?_cons_zero, List.getElem?_cons_succ, Option.bind_some, Act.put, List.setIfInBounds_toArray, List.set_cons_zero, List.set_cons_succ] at hQ ⊢
                                simp only [h19, h29] at hQ ⊢
                                clear h19 h29
                                go_wp2
                                rw [hKw.out]
                                exact hQ (.int .i64 K) _ (Below.refl _ _) rfl
                              · intro x w hb hk Q' hQ
                                have h18 : x.v 18 = .int .i64 v := (hk 18 (by decide)).1
                                have h30 : x.v 30 = .int .i64 K := (hk 30 (by decide)).1
                                clear hk
                                simp only [netAct, dstAt, List.getElem?_toArray, List.getElem?_cons_zero, List.getElem?_cons_succ, Option.bind_some, Act.put, List.setIfInBounds_toArray, List.set_cons_zero, List.set_cons_succ] at hQ ⊢
                                simp only [h18, h30] at hQ ⊢
                                clear h18 h30
                                go_wp2
                                exact hQ (.int .i64 (v - K)) _ (Below.refl _ _) rfl
                              · intro x w hb hk Q' hQ
                                have h8 : x.v 8 = .int .i64 p := (hk 8 (by decide)).1
                                have h31 : x.v 31 = .int .i64 (v - K) := (hk 31 (by decide)).1
                                clear hk
                                simp only [netAct, dstAt, List.getElem?_toArray, List.getElem?_cons_zero, List.getElem?_cons_succ, Option.bind_some, Act.put, List.setIfInBounds_toArray, List.set_cons_zero, List.set_cons_succ] at hQ ⊢
                                simp only [h8, h31] at hQ ⊢
                                clear h8 h31
                                go_wp2_with fail
                                refine (l2Mod_any p (v - K) _ hpr hKI.out).mono ?_; rintro e w5 ⟨rfl, hww⟩; replace hww := hww.symm; subst hww
                                go_wp2
                                exact hQ (.int .i64 ((v - K) % p)) _ (Below.refl _ _) rfl
                              · intro x w hb hk Q' hQ
                                have h1 : x.v 1 = .slice (some ⟨g, 0, none⟩) L cap := (hk 1 (by decide)).1
                                have h7 : x.v 7 = .int .i64 ((R : Int) + y) := (hk 7 (by decide)).1
                                clear hk
                                simp only [netAct, dstAt, List.getElem?_toArray, List.getElem?_cons_zero, List.getElem?_cons_succ, Option.bind_some, Act.put, List.setIfInBounds_toArray, List.set_cons_zero, List.set_cons_succ] at hQ ⊢
                                simp only [h1, h7] at hQ ⊢
                                clear h1 h7
                                go_wp2
                                exact hQ (.pointer (some ⟨g, R + y, none⟩)) _ (Below.refl _ _) rfl
                              · intro x w hb hk hiv hdj
                                have h0 : x.v 0 = .pointer (some ⟨w1.heap.size, 2, none⟩) := hk 0 (by decide)
                                have h1 : x.v 1 = .slice (some ⟨g, 0, none⟩) L cap := hk 1 (by decide)
                                have h2 : x.v 2 = .int .i64 i := hk 2 (by decide)
                                have h3 : x.v 3 = .pointer (some ⟨w1.heap.size, 1, none⟩) := hk 3 (by decide)
                                have h4 : x.v 4 = .int .i64 j' := hk 4 (by decide)
                                have h5 : x.v 5 = .int .i64 R := hk 5 (by decide)
                                have h6 : x.v 6 = .int .i64 y := hk 6 (by decide)
                                have h7 : x.v 7 = .int .i64 ((R : Int) + y) := hk 7 (by decide)
                                have h8 : x.v 8 = .int .i64 p := hk 8 (by decide)
                                have h9 : x.v 9 = .pointer (some ⟨w1.heap.size, 2, none⟩) := hk 9 (by decide)
                                have h10 : x.v 10 = .slice (some ⟨g, 0, none⟩) L cap := hk 10 (by decide)
                                have h11 : x.v 11 = .int .i64 i := hk 11 (by decide)
                                have h12 : x.v 12 = .pointer (some ⟨w1.heap.size, 1, none⟩) := hk 12 (by decide)
                                have h13 : x.v 13 = .int .i64 j' := hk 13 (by decide)
                                have h14 : x.v 14 = .int .i64 R := hk 14 (by decide)
                                have h15 : x.v 15 = .int .i64 y := hk 15 (by decide)
                                have h16 : x.v 16 = .int .i64 ((R : Int) + y) := hk 16 (by decide)
                                have h17 : x.v 17 = .pointer (some ⟨g, R + y, none⟩) := hk 17 (by decide)
                                have h18 : x.v 18 = .int .i64 v := hk 18 (by decide)
                                have h19 : x.v 19 = .int .i64 q := hk 19 (by decide)
                                have h20 : x.v 20 = .pointer (some ⟨w1.heap.size, 2, none⟩) := hk 20 (by decide)
                                have h21 : x.v 21 = .slice (some ⟨g, 0, none⟩) L cap := hk 21 (by decide)
                                have h22 : x.v 22 = .int .i64 n := hk 22 (by decide)
                                have h23 : x.v 23 = .pointer (some ⟨w1.heap.size, 1, none⟩) := hk 23 (by decide)
                                have h24 : x.v 24 = .int .i64 j' := hk 24 (by decide)
                                have h25 : x.v 25 = .int .i64 P := hk 25 (by decide)
                                have h26 : x.v 26 = .int .i64 y := hk 26 (by decide)
                                have h27 : x.v 27 = .int .i64 ((P : Int) + y) := hk 27 (by decide)
                                have h28 : x.v 28 = .pointer (some ⟨g, P + y, none⟩) := hk 28 (by decide)
                                have h29 : x.v 29 = .int .i64 t := hk 29 (by decide)
                                have h30 : x.v 30 = .int .i64 K := hk 30 (by decide)
                                have h31 : x.v 31 = .int .i64 (v - K) := hk 31 (by decide)
                                have h32 : x.v 32 = .int .i64 ((v - K) % p) := hk 32 (by decide)
                                have h33 : x.v 33 = .pointer (some ⟨g, R + y, none⟩) := hk 33 (by decide)
                                clear hk
                                simp only [netAct, dstAt, List.getElem?_toArray, List.getElem?_cons_zero, List.getElem?_cons_succ, Option.bind_some, Act.put, List.setIfInBounds_toArray, List.set_cons_zero, List.set_cons_succ]
                                simp only [List.drop_succ_cons, List.drop_zero, h0, h1, h2, h3, h4, h5, h6, h7, h8, h9, h10, h11, h12, h13, h14, h15, h16, h17, h18, h19, h20, h21, h22, h23, h24, h25, h26, h27, h28, h29, h30, h31, h32, h33]
                                clear h0 h1 h2 h3 h4 h5 h6 h7 h8 h9 h10 h11 h12 h13 h14 h15 h16 h17 h18 h19 h20 h21 h22 h23 h24 h25 h26 h27 h28 h29 h30 h31 h32 h33
                                have S := hSS.out.call HWB.out hb
                                obtain ⟨p1, _, p2⟩ := S.1.cellP hl5 hl6 HR.out
                                have S2 := S.put (J := R + y) (x := (v - K) % p) hBg (S.1.size HWB.out) hRI.out HST.out
                                have HS2 := Lib.hid S2
                                have hni := HNI.out
                                clear S S2 hiv hdj
                                go_wp2
                                go_roundw
                                case rel => exact ⟨y + 1, by omega, by go_num, HS2.out, fun h => absurd h hni⟩
                                case measure => simp [intOf]; omega
                            · have hyj : y = j' := by omega
                              have S := S.congr (show flat r j' (elJ p n k i y F2) = flat r j' (elI p n k (i + 1) F2) by rw [hyj, elJ_end F2 hin])
                              have hS2 := Lib.hid S
                              clear hin S hyj
                              go_wp2
                              go_roundw
                              case rel => exact ⟨i + 1, by omega, by go_num, hS2.out⟩
                              case measure => simp [intOf]; omega
                      · have hir : i = r := by omega
                        subst hir
                        have S := S.congr (el_end p n k i j' F2)
                        rw [← hfin.out] at S
                        have hS8 := S.call HWB.out (below_alloc wr (.cells #[.int .i64 k] 3))
                        have hsz8 := hS8.1.size HWB.out
                        have HS8 := Lib.hid hS8
                        clear S hS8 kb
                        (go_wp2_with (at_builtin; refine Hold.stop ?_)); unfold Hold
                        refine wpList_appI rfl (.tmp 203) (.tmp 205) rfl W.heap.size _ (.slice PA n pc) ps rfl HS8.out.1.ownP.1 _ _ _ [(k : Int)] rfl rfl (SlI.one wr _ k ⟨by omega, by omega⟩) (by rw [HN.out]; simp; omega) hsz8 ?_
                        intro v9 w9 ho9 hg9 hv9
                        have S9 := HS8.out.app hsz8 ho9 hg9 hv9
                        clear ho9 hg9 hv9
                        go_wp2
                        go_roundw
                        case rel => exact ⟨k + 1, by omega, by go_num, by rw [HRS2.out, List.length_append, HN.out]; go_num, by rw [HRS2.out]; exact S9⟩
                        case measure => simp [intOf]; omega
    · have hend : Hid (rdTo p r f c = (F, ps)) := by
        show _ = _
        by_cases hkc : k < c
        · have hnr : n = r := by omega
          have h1 := hrest.out (by rw [HPS.out, HN.out, hnr])
          rw [show k + (c - k) = c by omega] at h1
          rw [h1, ← HFF.out, ← HPS.out]
        · rw [show c = k by omega, ← HFF.out, ← HPS.out]
      have sz := SZ.out
      have sB := S.1.size HWB.out
      have k4 := S.2
      have k3' := KR.out.below S.1.bel (by omega)
      have z0 := k4.cell' (i := 0) rfl
      have z1 := k4.cell' (i := 1) rfl
      have z2 := k4.cell' (i := 2) rfl
      have p0 := k3'.cell' (i := 0) rfl
      have p1 := k3'.cell' (i := 1) rfl
      have p2 := k3'.cell' (i := 2) rfl
      have f2 := k3'.frozen
      have h2 := chg3 wr (w0.heap.size + 1) (.int .i64 (r : Int)) (.int .i64 c) (.slice A L cap)
      have gw : Below w0.heap.size w0 wr := (G2.out).trans (S.1.bel.mono (by omega))
      have gs := gw.size
      have oA : IntsO wr W.heap.size wr.heap.size (.slice A L cap) (flat r c F) := S.1.fam.1 (_, flat r c F) (by simp)
      have oA2 := (oA.chg h2 (.inr (by omega))).wider (lo' := w0.heap.size) (hi' := wr.heap.size) (by omega) (Nat.le_refl _)
      have oP2 := (S.1.ownP.chg h2 (.inr (by omega))).wider (lo' := w0.heap.size) (hi' := wr.heap.size) (by omega) (Nat.le_refl _)
      have fg := gw.trans (h2.below (by omega) gs)
      have OA2 := Lib.hid oA2
      have OP2 := Lib.hid oP2
      have FG := Lib.hid fg
      clear oA oA2 oP2 fg gw h2 k3' k4 S
      by_cases hkc : k < c
      · have hnr : ¬ n < r := by omega
        clear hgo
        go_wp2
        refine bodyPost_ret (v := .tuple #[.agg #[.int .i64 (r : Int), .int .i64 c, .slice A L cap], .slice PA n pc]) (by simp [results, go_sem, p0, p1, p2]) rfl ⟨_, _, rfl, ?_, ?_, FG.out⟩
        · refine ⟨_, rfl, ?_, by simp only [I64]; omega, by simp only [I64]; omega⟩
          rw [hend.out]
          exact (OA2.out).wider (Nat.le_refl _) (by simp)
        · rw [hend.out]
          exact (OP2.out).wider (Nat.le_refl _) (by simp)
      · clear hgo
        go_wp2
        refine bodyPost_ret (v := .tuple #[.agg #[.int .i64 (r : Int), .int .i64 c, .slice A L cap], .slice PA n pc]) (by simp [results, go_sem, p0, p1, p2]) rfl ⟨_, _, rfl, ?_, ?_, FG.out⟩
        · refine ⟨_, rfl, ?_, by simp only [I64]; omega, by simp only [I64]; omega⟩
          rw [hend.out]
          exact (OA2.out).wider (Nat.le_refl _) (by simp)
        · rw [hend.out]
          exact (OP2.out).wider (Nat.le_refl _) (by simp)
end Go.Proofs.YtaefpblpfjhgoaaGreat

/- The reference's l16Beside. -/
namespace Go.Proofs.YtaefpblpfjhgoaaGreat
set_option linter.unusedVariables false
set_option linter.unusedSimpArgs false
open Go.RowKit

theorem flat_app (r s c : Nat) (f g : Nat → Nat → Int) : flat r c f ++ flat s c g = flat (r + s) c (blF r f g) := by
  rw [← rowsF_flatten, ← rowsF_flatten, ← rowsF_flatten, ← rowsF_app, List.flatten_append]
theorem SlI.app_len {w : World} {B : Nat} {v : Value} {l : List Int} (h : SlI w B v l) : ∃ A c, v = .slice A l.length c := by
  obtain ⟨A, c, e, _⟩ := h
  exact ⟨A, c, e⟩

end Go.Proofs.YtaefpblpfjhgoaaGreat

/- The reference's IncomingMatrix. -/
namespace Go.Proofs.YtaefpblpfjhgoaaGreat
set_option linter.unusedVariables false
set_option linter.unusedSimpArgs false
open Go.RowKit
end Go.Proofs.YtaefpblpfjhgoaaGreat
