/- FnExactRepOfZigzag: for every argument the program's function returns what the reference's returns. Part 12 of 12 of the proof: RzT, RzZ, LawRepOfZigzag, LawRepOfZigzagRow. No condition. -/
import Derived.Test.YtcmlflppndfdcaaBRepOfZigzag11
/- The reference's RepOfZigzag and RepOfBars: contracts. -/
namespace Go.Proofs.Ytcmlflppndfdcaa
set_option linter.unusedVariables false
set_option linter.unusedSimpArgs false
open Go.RowKit

set_option maxHeartbeats 3200000 in
set_option maxRecDepth 100000 in
theorem specRepOfZigzagN (p : Int) (u : Value) (q : Qv) (v : Value) (l : List Bar) (w0 : World) (hu : QvR w0 w0.heap.size u q) (hv : SlB w0 w0.heap.size v l) (hno : rzOk p q l = false) :
    Calls Try.prog 20 #[.int .i64 p, u, v] w0 fun e w' => ∃ r, e = .returned (.tuple #[r, .bool (rzP p q l).2]) ∧ RepI w' w0.heap.size w'.heap.size r (rzP p q l).1 ∧ Below w0.heap.size w0 w' := by
  have HE := Lib.hid (rzP_no hno)
  have hu' := hu
  obtain ⟨A, c, C, c', rfl, _, _, hr, lf, lt⟩ := hu.open_
  obtain ⟨BA, bc, rfl, _, _, _, hbx⟩ := hv.open_
  clear hu hv
  obtain ⟨W, hW⟩ : ∃ W, W = (w0.alloc (.cells #[.int .i64 q.v, .slice A q.f.length c, .slice C q.t.length c'] 28)).alloc (.cells #[.int .i64 0, .int .i64 0, .slice none 0 0, .slice none 0 0, .slice none 0 0, .slice none 0 0] 31) := ⟨_, rfl⟩
  have g0 : Below w0.heap.size w0 W := by rw [hW]; exact ((Below.refl _ _).alloc (Nat.le_refl _) _).alloc (by simp) _
  have k1 : Blk W w0.heap.size 28 #[.int .i64 q.v, .slice A q.f.length c, .slice C q.t.length c'] := by rw [hW]; exact (Blk.new _ _ _).alloc _
  have k2 : Blk W (w0.heap.size + 1) 31 #[.int .i64 0, .int .i64 0, .slice none 0 0, .slice none 0 0, .slice none 0 0, .slice none 0 0] := by
    rw [hW]
    have := Blk.new (w0.alloc (.cells #[.int .i64 q.v, .slice A q.f.length c, .slice C q.t.length c'] 28)) 31 #[.int .i64 0, .int .i64 0, .slice none 0 0, .slice none 0 0, .slice none 0 0, .slice none 0 0]
    simpa only [World.size_alloc] using this
  have sz : W.heap.size = w0.heap.size + 1 + 1 := by rw [hW]; simp
  have SZ := Lib.hid sz
  have HQV := Lib.hid (QvR.next g0 hu')
  have HBX := Lib.hid (SlB.next g0 hbx)
  clear sz hu' hbx
  have c0 := k1.cell' (i := 0) rfl
  have c1 := k1.cell' (i := 1) rfl
  have c2 := k1.cell' (i := 2) rfl
  rcases h1 : isFld p with _ | _
  · have H1 := Lib.hid h1
    clear h1 hno
    have GW := Lib.hid (Below.refl W.heap.size W)
    go_enter Try.func20, Try.ntmps20
    go_wp2_with fail
    rw [← hW]; clear hW
    refine (specIsField_any _ _).mono ?_; rintro e w3 ⟨rfl, hww⟩
    replace hww := hww.symm
    subst hww
    rw [H1.out]
    have kz := k2.call GW.out
    have fr := kz.frozen
    have s0 := kz.cell' (i := 0) rfl
    have s1 := kz.cell' (i := 1) rfl
    have s2 := kz.cell' (i := 2) rfl
    have s3 := kz.cell' (i := 3) rfl
    have s4 := kz.cell' (i := 4) rfl
    have s5 := kz.cell' (i := 5) rfl
    have gf := g0.trans (GW.out.mono g0.size)
    have GF := Lib.hid gf
    clear kz gf
    go_wp2
    have gf := GF.out
    have hE := HE.out
    have sz := SZ.out
    have gfs := gf.size
    exact bodyPost_ret (v := .tuple #[.agg #[.int .i64 0, .int .i64 0, .slice none 0 0, .slice none 0 0, .slice none 0 0, .slice none 0 0], .bool false]) (by simp [results, go_sem, s0, s1, s2, s3, s4, s5]) rfl ⟨_, by rw [hE], by rw [hE]; exact RepI.zero _ (by simp; exact gfs), (((((gf.setCell (by simp) _).setCell (by simp) _).setCell (by simp) _).setCell (by simp) _).setCell (by simp) _).setCell (by simp) _⟩
  rcases h2 : isZ q with _ | _
  · have H1 := Lib.hid h1
    have H2 := Lib.hid h2
    clear h1 h2 hno
    go_enter Try.func20, Try.ntmps20
    go_wp2_with fail
    rw [← hW]; clear hW
    refine (specIsField_any _ _).mono ?_; rintro e w3 ⟨rfl, hww⟩
    replace hww := hww.symm
    subst hww
    rw [H1.out]
    go_wp2_with fail
    refine (specIsZigzag_any _ q _ HQV.out).mono ?_; rintro e w3 ⟨rfl, hb3⟩
    rw [H2.out]
    have GW := Lib.hid hb3
    clear c0 c1 c2 hb3
    have kz := k2.call GW.out
    have fr := kz.frozen
    have s0 := kz.cell' (i := 0) rfl
    have s1 := kz.cell' (i := 1) rfl
    have s2 := kz.cell' (i := 2) rfl
    have s3 := kz.cell' (i := 3) rfl
    have s4 := kz.cell' (i := 4) rfl
    have s5 := kz.cell' (i := 5) rfl
    have gf := g0.trans (GW.out.mono g0.size)
    have GF := Lib.hid gf
    clear kz gf
    go_wp2
    have gf := GF.out
    have hE := HE.out
    have sz := SZ.out
    have gfs := gf.size
    exact bodyPost_ret (v := .tuple #[.agg #[.int .i64 0, .int .i64 0, .slice none 0 0, .slice none 0 0, .slice none 0 0, .slice none 0 0], .bool false]) (by simp [results, go_sem, s0, s1, s2, s3, s4, s5]) rfl ⟨_, by rw [hE], by rw [hE]; exact RepI.zero _ (by simp; exact gfs), (((((gf.setCell (by simp) _).setCell (by simp) _).setCell (by simp) _).setCell (by simp) _).setCell (by simp) _).setCell (by simp) _⟩
  rcases h3 : areB (lineQ q.v) l with _ | _
  · have H1 := Lib.hid h1
    have H2 := Lib.hid h2
    have H3 := Lib.hid h3
    clear h1 h2 h3 hno
    go_enter Try.func20, Try.ntmps20
    go_wp2_with fail
    rw [← hW]; clear hW
    refine (specIsField_any _ _).mono ?_; rintro e w3 ⟨rfl, hww⟩
    replace hww := hww.symm
    subst hww
    rw [H1.out]
    go_wp2_with fail
    refine (specIsZigzag_any _ q _ HQV.out).mono ?_; rintro e w3 ⟨rfl, hb3⟩
    rw [H2.out]
    have k13 := k1.call hb3
    clear c0 c1 c2
    have c0 := k13.cell' (i := 0) rfl
    have GW3 := Lib.hid hb3
    clear k13 hb3
    go_wp2_with fail
    refine (specLineOf_any q.v _ hr).mono ?_; rintro e w1 ⟨v1, rfl, hL, hb1⟩
    obtain ⟨A1, a1, C1, c1, rfl⟩ := hL.form
    obtain ⟨W2, hW2⟩ : ∃ W2, w1.alloc (.cells #[.int .i64 (lineQ q.v).v, .slice A1 (lineQ q.v).f.length a1, .slice C1 (lineQ q.v).t.length c1] 28) = W2 := ⟨_, rfl⟩
    have ga : Below w1.heap.size w1 W2 := by rw [← hW2]; exact below_alloc _ _
    have kL : Blk W2 w1.heap.size 28 #[.int .i64 (lineQ q.v).v, .slice A1 (lineQ q.v).f.length a1, .slice C1 (lineQ q.v).t.length c1] := by rw [← hW2]; exact Blk.new _ _ _
    have gW2 : Below W.heap.size W W2 := GW3.out.trans ((hb1.trans (ga.mono hb1.size)).mono GW3.out.size)
    have HL := Lib.hid ((hL.below ga).rd)
    have l0 := kL.cell' (i := 0) rfl
    have l1 := kL.cell' (i := 1) rfl
    have l2 := kL.cell' (i := 2) rfl
    have GW2 := Lib.hid gW2
    clear hL ga hb1 gW2 c0
    go_wp2_with fail
    clear hW2
    refine (specAreBars_any _ _ _ l _ HL.out (SlB.next GW2.out HBX.out)).mono ?_; rintro e w4 ⟨rfl, hb4⟩
    rw [H3.out]
    have GW := Lib.hid (GW2.out.trans (hb4.mono GW2.out.size))
    clear hb4 l0 l1 l2 kL
    have kz := k2.call GW.out
    have fr := kz.frozen
    have s0 := kz.cell' (i := 0) rfl
    have s1 := kz.cell' (i := 1) rfl
    have s2 := kz.cell' (i := 2) rfl
    have s3 := kz.cell' (i := 3) rfl
    have s4 := kz.cell' (i := 4) rfl
    have s5 := kz.cell' (i := 5) rfl
    have gf := g0.trans (GW.out.mono g0.size)
    have GF := Lib.hid gf
    clear kz gf
    go_wp2
    have gf := GF.out
    have hE := HE.out
    have sz := SZ.out
    have gfs := gf.size
    exact bodyPost_ret (v := .tuple #[.agg #[.int .i64 0, .int .i64 0, .slice none 0 0, .slice none 0 0, .slice none 0 0, .slice none 0 0], .bool false]) (by simp [results, go_sem, s0, s1, s2, s3, s4, s5]) rfl ⟨_, by rw [hE], by rw [hE]; exact RepI.zero _ (by simp; exact gfs), (((((gf.setCell (by simp) _).setCell (by simp) _).setCell (by simp) _).setCell (by simp) _).setCell (by simp) _).setCell (by simp) _⟩
  rw [rzOk, h1, h2, h3] at hno
  exact absurd hno (by decide)
theorem specRepOfZigzag_any (p : Int) (u : Value) (q : Qv) (v : Value) (l : List Bar) (w0 : World) (_ : I64 p) (hu : QvR w0 w0.heap.size u q) (hv : SlB w0 w0.heap.size v l) :
    Calls Try.prog 20 #[.int .i64 p, u, v] w0 fun e w' => ∃ r, e = .returned (.tuple #[r, .bool (rzP p q l).2]) ∧ RpR w' w'.heap.size r (rzP p q l).1 ∧ Below w0.heap.size w0 w' := by
  rcases h : rzOk p q l with _ | _
  · exact (specRepOfZigzagN p u q v l w0 hu hv h).mono fun e w' ⟨r, h1, h2, h3⟩ => ⟨r, h1, h2.rd, h3⟩
  · exact (specRepOfZigzagY p u q v l w0 hu hv h).mono fun e w' ⟨r, h1, h2, h3⟩ => ⟨r, h1, h2.rd, h3⟩
theorem lineQ_L {n : Int} (h : inR n 1 5 = true) : isL (lineQ n) = true := by
  have := inR_t.1 h
  have : n = 1 ∨ n = 2 ∨ n = 3 ∨ n = 4 ∨ n = 5 := by omega
  rcases this with rfl | rfl | rfl | rfl | rfl <;> decide
theorem areB_line {q : Qv} (h : isL q = true) (l : List Bar) : areB (lineQ q.v) l = areB q l := by
  have hv := inR_t.2 (isQ_t.1 (isL_t h).1).1
  rw [areB, areB, lineQ_L hv, h, lineQ_v hv]
theorem rb_ok {p : Int} {q : Qv} {l : List Bar} (h1 : isFld p = true) (h2 : areB q l = true) : rzOk p q l = true := by
  have h := (areB_t h2).1
  rw [rzOk, h1, (isL_t h).2, areB_line h, h2]; rfl
theorem rbP_no {p : Int} {q : Qv} {l : List Bar} (h : (isFld p && areB q l) = false) : rbP p q l = (rp0, false) := by
  rw [rbP]
  split
  · rename_i hL
    apply rzP_no
    rw [rzOk, areB_line hL]
    simp only [Bool.and_eq_false_iff] at h ⊢
    rcases h with h | h
    · exact .inl h
    · exact .inr (.inr h)
  · rfl
set_option maxHeartbeats 3200000 in
set_option maxRecDepth 100000 in
theorem specRepOfBarsN (p : Int) (u : Value) (q : Qv) (v : Value) (l : List Bar) (w0 : World) (hu : QvR w0 w0.heap.size u q) (hv : SlB w0 w0.heap.size v l) (hno : (isFld p && areB q l) = false) :
    Calls Try.prog 9 #[.int .i64 p, u, v] w0 fun e w' => ∃ r, e = .returned (.tuple #[r, .bool (rbP p q l).2]) ∧ RepI w' w0.heap.size w'.heap.size r (rbP p q l).1 ∧ Below w0.heap.size w0 w' := by
  have HE := Lib.hid (rbP_no hno)
  have hu' := hu
  obtain ⟨A, c, C, c', rfl, _, _, hr, lf, lt⟩ := hu.open_
  obtain ⟨BA, bc, rfl, _, _, _, hbx⟩ := hv.open_
  clear hu hv
  obtain ⟨W, hW⟩ : ∃ W, W = (w0.alloc (.cells #[.int .i64 q.v, .slice A q.f.length c, .slice C q.t.length c'] 28)).alloc (.cells #[.int .i64 0, .int .i64 0, .slice none 0 0, .slice none 0 0, .slice none 0 0, .slice none 0 0] 31) := ⟨_, rfl⟩
  have g0 : Below w0.heap.size w0 W := by rw [hW]; exact ((Below.refl _ _).alloc (Nat.le_refl _) _).alloc (by simp) _
  have k1 : Blk W w0.heap.size 28 #[.int .i64 q.v, .slice A q.f.length c, .slice C q.t.length c'] := by rw [hW]; exact (Blk.new _ _ _).alloc _
  have k2 : Blk W (w0.heap.size + 1) 31 #[.int .i64 0, .int .i64 0, .slice none 0 0, .slice none 0 0, .slice none 0 0, .slice none 0 0] := by
    rw [hW]
    have := Blk.new (w0.alloc (.cells #[.int .i64 q.v, .slice A q.f.length c, .slice C q.t.length c'] 28)) 31 #[.int .i64 0, .int .i64 0, .slice none 0 0, .slice none 0 0, .slice none 0 0, .slice none 0 0]
    simpa only [World.size_alloc] using this
  have sz : W.heap.size = w0.heap.size + 1 + 1 := by rw [hW]; simp
  have SZ := Lib.hid sz
  have HQV := Lib.hid (QvR.next g0 hu')
  have HBX := Lib.hid (SlB.next g0 hbx)
  clear sz hu' hbx
  have c0 := k1.cell' (i := 0) rfl
  have c1 := k1.cell' (i := 1) rfl
  have c2 := k1.cell' (i := 2) rfl
  rcases h1 : isFld p with _ | _
  · have H1 := Lib.hid h1
    clear h1 hno
    have GW := Lib.hid (Below.refl W.heap.size W)
    go_enter Try.func9, Try.ntmps9
    go_wp2_with fail
    rw [← hW]; clear hW
    refine (specIsField_any _ _).mono ?_; rintro e w3 ⟨rfl, hww⟩
    replace hww := hww.symm
    subst hww
    rw [H1.out]
    have kz := k2.call GW.out
    have fr := kz.frozen
    have s0 := kz.cell' (i := 0) rfl
    have s1 := kz.cell' (i := 1) rfl
    have s2 := kz.cell' (i := 2) rfl
    have s3 := kz.cell' (i := 3) rfl
    have s4 := kz.cell' (i := 4) rfl
    have s5 := kz.cell' (i := 5) rfl
    have gf := g0.trans (GW.out.mono g0.size)
    have GF := Lib.hid gf
    clear kz gf
    go_wp2
    have gf := GF.out
    have hE := HE.out
    have sz := SZ.out
    have gfs := gf.size
    exact bodyPost_ret (v := .tuple #[.agg #[.int .i64 0, .int .i64 0, .slice none 0 0, .slice none 0 0, .slice none 0 0, .slice none 0 0], .bool false]) (by simp [results, go_sem, s0, s1, s2, s3, s4, s5]) rfl ⟨_, by rw [hE], by rw [hE]; exact RepI.zero _ (by simp; exact gfs), (((((gf.setCell (by simp) _).setCell (by simp) _).setCell (by simp) _).setCell (by simp) _).setCell (by simp) _).setCell (by simp) _⟩
  rcases h3 : areB q l with _ | _
  · have H1 := Lib.hid h1
    have H3 := Lib.hid h3
    clear h1 h3 hno
    go_enter Try.func9, Try.ntmps9
    go_wp2_with fail
    rw [← hW]; clear hW
    refine (specIsField_any _ _).mono ?_; rintro e w3 ⟨rfl, hww⟩
    replace hww := hww.symm
    subst hww
    rw [H1.out]
    go_wp2_with fail
    refine (specAreBars_any _ q _ l _ HQV.out HBX.out).mono ?_; rintro e w4 ⟨rfl, hb4⟩
    rw [H3.out]
    have GW := Lib.hid hb4
    clear hb4 c0 c1 c2
    have kz := k2.call GW.out
    have fr := kz.frozen
    have s0 := kz.cell' (i := 0) rfl
    have s1 := kz.cell' (i := 1) rfl
    have s2 := kz.cell' (i := 2) rfl
    have s3 := kz.cell' (i := 3) rfl
    have s4 := kz.cell' (i := 4) rfl
    have s5 := kz.cell' (i := 5) rfl
    have gf := g0.trans (GW.out.mono g0.size)
    have GF := Lib.hid gf
    clear kz gf
    go_wp2
    have gf := GF.out
    have hE := HE.out
    have sz := SZ.out
    have gfs := gf.size
    exact bodyPost_ret (v := .tuple #[.agg #[.int .i64 0, .int .i64 0, .slice none 0 0, .slice none 0 0, .slice none 0 0, .slice none 0 0], .bool false]) (by simp [results, go_sem, s0, s1, s2, s3, s4, s5]) rfl ⟨_, by rw [hE], by rw [hE]; exact RepI.zero _ (by simp; exact gfs), (((((gf.setCell (by simp) _).setCell (by simp) _).setCell (by simp) _).setCell (by simp) _).setCell (by simp) _).setCell (by simp) _⟩
  rw [h1, h3] at hno
  exact absurd hno (by decide)
set_option maxHeartbeats 6400000 in
set_option maxRecDepth 100000 in
theorem specRepOfBarsY (p : Int) (u : Value) (q : Qv) (v : Value) (l : List Bar) (w0 : World) (hu : QvR w0 w0.heap.size u q) (hv : SlB w0 w0.heap.size v l) (h1 : isFld p = true) (h3 : areB q l = true) :
    Calls Try.prog 9 #[.int .i64 p, u, v] w0 fun e w' => ∃ r, e = .returned (.tuple #[r, .bool (rbP p q l).2]) ∧ RepI w' w0.heap.size w'.heap.size r (rbP p q l).1 ∧ Below w0.heap.size w0 w' := by
  have hok := rb_ok h1 h3
  have hL := (areB_t h3).1
  have HE := Lib.hid (show rbP p q l = smP p q (barsX l) by rw [rbP, if_pos hL, rzP, hok, smP]; rfl)
  have h2 := (isL_t hL).2
  have hto := (areB_t h3).2
  have hq : isQ q = true := (isZ_t h2).1
  have hv1 := (isQ_t.1 hq).1
  have hI : I64 p := by have := isFld_two h1; simp only [I64]; omega
  have hu' := hu
  obtain ⟨A, c, C, c', rfl, _, _, hr, lf, lt⟩ := hu.open_
  obtain ⟨BA, bc, rfl, _, _, _, hbx⟩ := hv.open_
  clear hu hv
  obtain ⟨W, hW⟩ : ∃ W, W = (w0.alloc (.cells #[.int .i64 q.v, .slice A q.f.length c, .slice C q.t.length c'] 28)).alloc (.cells #[.int .i64 0, .int .i64 0, .slice none 0 0, .slice none 0 0, .slice none 0 0, .slice none 0 0] 31) := ⟨_, rfl⟩
  have g0 : Below w0.heap.size w0 W := by rw [hW]; exact ((Below.refl _ _).alloc (Nat.le_refl _) _).alloc (by simp) _
  have k1 : Blk W w0.heap.size 28 #[.int .i64 q.v, .slice A q.f.length c, .slice C q.t.length c'] := by rw [hW]; exact (Blk.new _ _ _).alloc _
  have k2 : Blk W (w0.heap.size + 1) 31 #[.int .i64 0, .int .i64 0, .slice none 0 0, .slice none 0 0, .slice none 0 0, .slice none 0 0] := by
    rw [hW]
    have := Blk.new (w0.alloc (.cells #[.int .i64 q.v, .slice A q.f.length c, .slice C q.t.length c'] 28)) 31 #[.int .i64 0, .int .i64 0, .slice none 0 0, .slice none 0 0, .slice none 0 0, .slice none 0 0]
    simpa only [World.size_alloc] using this
  have sz : W.heap.size = w0.heap.size + 1 + 1 := by rw [hW]; simp
  have SZ := Lib.hid sz
  have HQV := Lib.hid (QvR.next g0 hu')
  have HBX := Lib.hid (SlB.next g0 hbx)
  clear sz hu' hbx
  have HP := Lib.hid h1
  have H3 := Lib.hid h3
  have HQ := Lib.hid hq
  have HTO := Lib.hid hto
  have HZO := Lib.hid (show ∀ x y : Int, (0 ≤ x ∧ x ≤ q.v - 1) → (x ≤ y ∧ y ≤ q.v - 1) → ziOk (isL q) p q x y = true from fun x y hx hy => by simp only [ziOk, h1, hL, inR_t.2 hx, inR_t.2 hy]; rfl)
  have HZP := Lib.hid (show ∀ x y : Int, (0 ≤ x ∧ x ≤ q.v - 1) → (x ≤ y ∧ y ≤ q.v - 1) → ziP (isL q) p q x y = (ivR p q (x.toNat, y.toNat), true) from fun x y hx hy => by rw [show isL q = isZ q from hL.trans h2.symm]; exact ziP_iv h1 h2 hx hy)
  clear h1 h2 h3 hq hto hok hL
  have c0 := k1.cell' (i := 0) rfl
  have c1 := k1.cell' (i := 1) rfl
  have c2 := k1.cell' (i := 2) rfl
  go_enter Try.func9, Try.ntmps9
  go_wp2_with fail
  rw [← hW]; clear hW
  refine (specIsField_any _ _).mono ?_; rintro e w3 ⟨rfl, hww⟩
  replace hww := hww.symm
  subst hww
  rw [HP.out]
  go_wp2_with fail
  refine (specAreBars_any _ q _ l _ HQV.out HBX.out).mono ?_; rintro e w4 ⟨rfl, hb4⟩
  rw [H3.out]
  have GWZ := Lib.hid hb4
  clear hb4 c0 c1 c2
  have HQZ := Lib.hid (QvR.next GWZ.out HQV.out)
  have hmk : ∀ w : World, (Instr.makeSlice 22 (.int .i64 q.v) (.int .i64 q.v)).run Try.prog w = .ok (.slice (some ⟨w.heap.size, 0, none⟩) q.v.toNat q.v.toNat) (w.alloc (.cells (mkCells (.int .i64 0) q.v.toNat) 3)) := fun w => by
    have := run_mkI w (n := q.v.toNat) (by omega)
    rwa [Int.toNat_of_nonneg (by omega)] at this
  have KZ := Lib.hid (k1.call GWZ.out)
  go_wp2
  refine wp_region_net (by kernel_rfl) [.eq (.int .i64 p), .eq (.agg #[.int .i64 q.v, .slice A q.f.length c, .slice C q.t.length c']), .eq (.pointer (some ⟨w0.heap.size, 0, none⟩)), .eq (.int .i64 q.v), rel 4 (fun u lo hi w => IntsO w lo hi u (List.replicate q.v.toNat 0)), rel 5 (fun u lo hi w => RepI w lo hi u (smR p q [])), rel 6 (fun u lo hi w => ∃ g, u = .pointer (some ⟨g, 0, none⟩) ∧ (lo ≤ g ∧ g < hi) ∧ Blk w g 31 #[.int .i64 0, .int .i64 0, .slice none 0 0, .slice none 0 0, .slice none 0 0, .slice none 0 0])] [[], [], [], [2], [2, 3], [0, 1, 2, 3, 4], [], [0, 1, 2, 3, 4, 5, 6]] 7 (by kernel_rfl) ⟨trivial, trivial, trivial, trivial, rel_stable (fun u lo hi w w' h hb => h.below hb), rel_stable (fun u lo hi w w' h hb => h.below hb), rel_stable (fun u lo hi w w' ⟨g, e, h1, h⟩ hb => ⟨g, e, h1, h.call hb⟩), trivial⟩ ⟨?_, ?_, ?_, ?_, ?_, ?_, ?_, trivial⟩ ?_
  · intro x w hb hk Q' hQ
    clear hk
    simp only [netAct, dstAt, List.getElem?_toArray, List.getElem?_cons_zero, List.getElem?_cons_succ, Option.bind_some, Act.put, List.setIfInBounds_toArray, List.set_cons_zero, List.set_cons_succ] at hQ ⊢
    go_wp2
    exact hQ (.int .i64 p) _ (Below.refl _ _) rfl
  · intro x w hb hk Q' hQ
    clear hk
    simp only [netAct, dstAt, List.getElem?_toArray, List.getElem?_cons_zero, List.getElem?_cons_succ, Option.bind_some, Act.put, List.setIfInBounds_toArray, List.set_cons_zero, List.set_cons_succ] at hQ ⊢
    have z0 := (KZ.out.call hb).cell' (i := 0) rfl
    have z1 := (KZ.out.call hb).cell' (i := 1) rfl
    have z2 := (KZ.out.call hb).cell' (i := 2) rfl
    go_wp2
    exact hQ (.agg #[.int .i64 q.v, .slice A q.f.length c, .slice C q.t.length c']) _ (Below.refl _ _) rfl
  · intro x w hb hk Q' hQ
    clear hk
    simp only [netAct, dstAt, List.getElem?_toArray, List.getElem?_cons_zero, List.getElem?_cons_succ, Option.bind_some, Act.put, List.setIfInBounds_toArray, List.set_cons_zero, List.set_cons_succ] at hQ ⊢
    go_wp2
    exact hQ (.pointer (some ⟨w0.heap.size, 0, none⟩)) _ (Below.refl _ _) rfl
  · intro x w hb hk Q' hQ
    have h2 : x.v 2 = .pointer (some ⟨w0.heap.size, 0, none⟩) := (hk 2 (by decide)).1
    clear hk
    simp only [netAct, dstAt, List.getElem?_toArray, List.getElem?_cons_zero, List.getElem?_cons_succ, Option.bind_some, Act.put, List.setIfInBounds_toArray, List.set_cons_zero, List.set_cons_succ] at hQ ⊢
    simp only [h2] at hQ ⊢
    clear h2
    have z0 := (KZ.out.call hb).cell' (i := 0) rfl
    go_wp2
    exact hQ (.int .i64 q.v) _ (Below.refl _ _) rfl
  · intro x w hb hk Q' hQ
    have h2 : x.v 2 = .pointer (some ⟨w0.heap.size, 0, none⟩) := (hk 2 (by decide)).1
    have h3 : x.v 3 = .int .i64 q.v := (hk 3 (by decide)).1
    clear hk
    simp only [netAct, dstAt, List.getElem?_toArray, List.getElem?_cons_zero, List.getElem?_cons_succ, Option.bind_some, Act.put, List.setIfInBounds_toArray, List.set_cons_zero, List.set_cons_succ] at hQ ⊢
    simp only [h2, h3] at hQ ⊢
    clear h2 h3
    have hm := hmk w
    go_wp2
    exact hQ _ _ (below_alloc _ _) (IntsO.of_own (OwnI.made0 (Nat.le_refl _) (by omega)))
  · intro x w hb hk Q' hQ
    have h0 : x.v 0 = .int .i64 p := (hk 0 (by decide)).1
    have h1 : x.v 1 = .agg #[.int .i64 q.v, .slice A q.f.length c, .slice C q.t.length c'] := (hk 1 (by decide)).1
    have h2 : x.v 2 = .pointer (some ⟨w0.heap.size, 0, none⟩) := (hk 2 (by decide)).1
    have h3 : x.v 3 = .int .i64 q.v := (hk 3 (by decide)).1
    have h4 : IntsO w (x.lo 4) (x.hi 4) (x.v 4) (List.replicate q.v.toNat 0) := (hk 4 (by decide)).1
    have s4 := (hk 4 (by decide)).2
    clear hk
    simp only [netAct, dstAt, List.getElem?_toArray, List.getElem?_cons_zero, List.getElem?_cons_succ, Option.bind_some, Act.put, List.setIfInBounds_toArray, List.set_cons_zero, List.set_cons_succ] at hQ ⊢
    simp only [h0, h1, h2, h3] at hQ ⊢
    clear h0 h1 h2 h3
    have H4 := Lib.hid h4.rd
    rw [repl_rowF] at H4
    obtain ⟨A4, c4, e4⟩ := h4.form
    rw [List.length_replicate] at e4
    rw [e4] at H4 hQ ⊢
    go_wp2_with fail
    refine (l8Zero_any p _ _ q (rowF q.v.toNat fun _ => 0) _ hI (QvR.next hb HQZ.out) H4.out (smO_nil HQ.out)).mono ?_; rintro e w7 ⟨v7, rfl, ho, hb7⟩
    rw [← smR_nil] at ho
    go_wp2
    exact hQ _ _ hb7 ho
  · intro x w hb hk Q' hQ
    clear hk
    simp only [netAct, dstAt, List.getElem?_toArray, List.getElem?_cons_zero, List.getElem?_cons_succ, Option.bind_some, Act.put, List.setIfInBounds_toArray, List.set_cons_zero, List.set_cons_succ] at hQ ⊢
    go_wp2
    exact hQ _ _ (below_alloc _ _) ⟨_, rfl, ⟨Nat.le_refl _, by show w.heap.size < (w.alloc _).heap.size; simp⟩, Blk.new _ _ _⟩
  · intro x w hb hk hiv hdj
    have h0 : x.v 0 = .int .i64 p := hk 0 (by decide)
    have h1 : x.v 1 = .agg #[.int .i64 q.v, .slice A q.f.length c, .slice C q.t.length c'] := hk 1 (by decide)
    have h2 : x.v 2 = .pointer (some ⟨w0.heap.size, 0, none⟩) := hk 2 (by decide)
    have h3 : x.v 3 = .int .i64 q.v := hk 3 (by decide)
    have h4 : IntsO w (x.lo 4) (x.hi 4) (x.v 4) (List.replicate q.v.toNat 0) := hk 4 (by decide)
    have h5 : RepI w (x.lo 5) (x.hi 5) (x.v 5) (smR p q []) := hk 5 (by decide)
    have h6 : ∃ g, (x.v 6) = .pointer (some ⟨g, 0, none⟩) ∧ ((x.lo 6) ≤ g ∧ g < (x.hi 6)) ∧ Blk w g 31 #[.int .i64 0, .int .i64 0, .slice none 0 0, .slice none 0 0, .slice none 0 0, .slice none 0 0] := hk 6 (by decide)
    clear hk
    simp only [netAct, dstAt, List.getElem?_toArray, List.getElem?_cons_zero, List.getElem?_cons_succ, Option.bind_some, Act.put, List.setIfInBounds_toArray, List.set_cons_zero, List.set_cons_succ]
    simp only [List.drop_succ_cons, List.drop_zero, h0, h1, h2, h3]
    clear h0 h1 h2 h3
    obtain ⟨gO, e6, hgO, hBO⟩ := h6
    have i5 := hiv 5 (by decide)
    have i6 := hiv 6 (by decide)
    have d56 := hdj 5 6 (by decide) (by decide) (by decide)
    obtain ⟨A1, a1, C1, c1, E1, e1, H1', h1', e5⟩ := smI_six h5
    rw [e5] at h5 ⊢
    rw [e6]
    have fr := hBO.frozen
    have r0 := hBO.cell' (i := 0) rfl
    have r1 := hBO.cell' (i := 1) rfl
    have r2 := hBO.cell' (i := 2) rfl
    have r3 := hBO.cell' (i := 3) rfl
    have r4 := hBO.cell' (i := 4) rfl
    have r5 := hBO.cell' (i := 5) rfl
    have hbs := hb.size
    have gOl := hBO.lt
    have gzs := GWZ.out.size
    obtain ⟨W3, hW3⟩ : ∃ W3, (((((w.setCell ⟨gO, 0, none⟩ (.int .i64 p)).setCell ⟨gO, 1, none⟩ (.int .i64 q.v)).setCell ⟨gO, 2, none⟩ (.slice A1 q.f.length a1)).setCell ⟨gO, 3, none⟩ (.slice C1 q.t.length c1)).setCell ⟨gO, 4, none⟩ (.slice E1 q.v.toNat e1)).setCell ⟨gO, 5, none⟩ (.slice H1' q.f.length h1') = W3 := ⟨_, rfl⟩
    have hB3 : Blk W3 gO 31 #[.int .i64 p, .int .i64 q.v, .slice A1 q.f.length a1, .slice C1 q.t.length c1, .slice E1 q.v.toNat e1, .slice H1' q.f.length h1'] := by
      rw [← hW3]
      exact (((((hBO.set_ 0 _).set_ 1 _).set_ 2 _).set_ 3 _).set_ 4 _).set_ 5 _
    have hCh : Chg gO (gO + 1) w W3 := by
      rw [← hW3]
      exact chg6 _ _ _ _ _ _ _ _
    have hs3 : W3.heap.size = w.heap.size := by rw [← hW3]; simp
    have hR3 : RepI W3 W.heap.size W3.heap.size (.agg #[.int .i64 p, .int .i64 q.v, .slice A1 q.f.length a1, .slice C1 q.t.length c1, .slice E1 q.v.toNat e1, .slice H1' q.f.length h1']) (smR p q (barsX (l.take 0))) := by
      rw [hs3, List.take_zero]
      exact (h5.chg hCh (by omega)).wider (by omega) i5.2.2
    have gW3 : Below W.heap.size W W3 := (GWZ.out.trans (hb.mono gzs)).trans (hCh.below (by omega) (by omega))
    have sg3 : gO < W3.heap.size := by omega
    have hgO2 : W.heap.size ≤ gO := by omega
    clear hiv hdj h4 h5 e5 e6 i5 i6 d56 hBO hCh hs3 hb hmk gzs hbs hgO
    go_wp2
    clear hW3
    obtain ⟨n, hn⟩ : ∃ n, l.length = n := ⟨_, rfl⟩
    have HN := Lib.hid hn
    rw [hn]
    have hnb : n ≤ 17592186044416 := by omega
    clear hn
    go_loopw [9] (fun i wr => ∃ (k : Nat) (A1 : Option Addr) (a1 : Nat) (C1 : Option Addr) (c1 : Nat) (E1 : Option Addr) (e1 : Nat) (H1' : Option Addr) (h1' : Nat), k ≤ n ∧ i = .int .i64 k ∧ Below W.heap.size W wr ∧ gO < wr.heap.size ∧
      Blk wr gO 31 #[.int .i64 p, .int .i64 q.v, .slice A1 q.f.length a1, .slice C1 q.t.length c1, .slice E1 q.v.toNat e1, .slice H1' q.f.length h1'] ∧ RepI wr W.heap.size wr.heap.size (.agg #[.int .i64 p, .int .i64 q.v, .slice A1 q.f.length a1, .slice C1 q.t.length c1, .slice E1 q.v.toNat e1, .slice H1' q.f.length h1']) (smR p q (barsX (l.take k))) ∧ smO q (barsX (l.take k)) = true) (fun i _ => n - (intOf i).toNat)
    case atStart => exact ⟨0, A1, a1, C1, c1, E1, e1, H1', h1', Nat.zero_le _, rfl, gW3, sg3, hB3, hR3, by rw [List.take_zero]; exact smO_nil HQ.out⟩
    case round =>
      clear gW3 sg3 hB3 hR3 r0 r1 r2 r3 r4 r5 fr
      obtain ⟨k, A1, a1, C1, c1, E1, e1, H1', h1', hk, rfl, gW, sg, hB, hR, hok⟩ := hrel
      have gws := gW.size
      have HOK := Lib.hid hok
      clear hok
      by_cases hlt : k < n
      · have HLT := Lib.hid hlt
        obtain ⟨b, o, bx, by_, bz, eB, hbB, HX, y1, y2, y3, rx, ry, rz⟩ := SlB.at_ (k := k) HBX.out (by have := HN.out; omega)
        subst eB
        obtain ⟨hx, hy, hz, _⟩ := bars_at HTO.out HX.out
        obtain ⟨N, rfl⟩ := Int.eq_ofNat_of_zero_le (show 0 ≤ bz by omega)
        have HYES := Lib.hid (HZO.out bx by_ hx hy)
        have HZI := Lib.hid (HZP.out bx by_ hx hy)
        obtain ⟨xn, hxn⟩ : ∃ u, bx.toNat = u := ⟨_, rfl⟩
        obtain ⟨yn, hyn⟩ : ∃ u, by_.toNat = u := ⟨_, rfl⟩
        rw [hxn, hyn] at HZI
        have HXN := Lib.hid hxn
        have HYN := Lib.hid hyn
        have Z1 := Lib.hid (bcell gW hbB y1)
        have Z2 := Lib.hid (bcell gW hbB y2)
        have Z3 := Lib.hid (bcell gW hbB y3)
        have KQ := Lib.hid (k1.call gW)
        have HQ5 := Lib.hid (QvR.next gW HQV.out)
        have HB5 := Lib.hid hB
        have HR5 := Lib.hid hR
        have GW5 := Lib.hid gW
        have hbw : b < wr.heap.size := by omega
        clear y1 y2 y3 gW hB hR hx hy hxn hyn
        obtain ⟨w1, hw1⟩ : ∃ u, u = wr := ⟨_, rfl⟩
        subst hw1
        go_wp2
        refine wp_region_net2 (by kernel_rfl) [.eq (.int .i64 p), .eq (.agg #[.int .i64 q.v, .slice A q.f.length c, .slice C q.t.length c']), .eq (.slice (some ⟨b, o, none⟩) n bc), .eq (.int .i64 k), .eq (.pointer (some ⟨b, o + k * 3, none⟩)), .eq (.pointer (some ⟨b, o + k * 3, none⟩)), .eq (.int .i64 bx), .eq (.slice (some ⟨b, o, none⟩) n bc), .eq (.int .i64 k), .eq (.pointer (some ⟨b, o + k * 3, none⟩)), .eq (.pointer (some ⟨b, o + k * 3 + 1, none⟩)), .eq (.int .i64 by_), .rel (fun x w => ∃ A2 a2 C2 c2 E2 e2 H2 h2, x.v 12 = .tuple #[.agg #[.int .i64 p, .int .i64 q.v, .slice A2 q.f.length a2, .slice C2 q.t.length c2, .slice E2 q.v.toNat e2, .slice H2 q.f.length h2], .bool true] ∧ RepI w (x.lo 12) (x.hi 12) (.agg #[.int .i64 p, .int .i64 q.v, .slice A2 q.f.length a2, .slice C2 q.t.length c2, .slice E2 q.v.toNat e2, .slice H2 q.f.length h2]) (ivR p q (xn, yn))), .rel (fun x w => ∃ A2 a2 C2 c2 E2 e2 H2 h2, x.v 13 = .tuple #[.agg #[.int .i64 p, .int .i64 q.v, .slice A2 q.f.length a2, .slice C2 q.t.length c2, .slice E2 q.v.toNat e2, .slice H2 q.f.length h2], .bool true] ∧ RepI w (x.lo 12) (x.hi 12) (.agg #[.int .i64 p, .int .i64 q.v, .slice A2 q.f.length a2, .slice C2 q.t.length c2, .slice E2 q.v.toNat e2, .slice H2 q.f.length h2]) (ivR p q (xn, yn))), .rel (fun x w => ∃ A2 a2 C2 c2 E2 e2 H2 h2, x.v 14 = .agg #[.int .i64 p, .int .i64 q.v, .slice A2 q.f.length a2, .slice C2 q.t.length c2, .slice E2 q.v.toNat e2, .slice H2 q.f.length h2] ∧ RepI w (x.lo 12) (x.hi 12) (.agg #[.int .i64 p, .int .i64 q.v, .slice A2 q.f.length a2, .slice C2 q.t.length c2, .slice E2 q.v.toNat e2, .slice H2 q.f.length h2]) (ivR p q (xn, yn))), .eq (.bool true), rel 16 (fun u lo hi w => ∃ g, u = .pointer (some ⟨g, 0, none⟩) ∧ (lo ≤ g ∧ g < hi) ∧ Blk w g 31 #[.int .i64 0, .int .i64 0, .slice none 0 0, .slice none 0 0, .slice none 0 0, .slice none 0 0])] [[], [], [], [], [2, 3], [2, 3, 4], [2, 3, 4, 5], [], [], [7, 8], [7, 8, 9], [7, 8, 9, 10], [0, 1, 2, 3, 4, 5, 6, 7, 8, 9, 10, 11], [0, 1, 2, 3, 4, 5, 6, 7, 8, 9, 10, 11, 12], [0, 1, 2, 3, 4, 5, 6, 7, 8, 9, 10, 11, 12, 13], [0, 1, 2, 3, 4, 5, 6, 7, 8, 9, 10, 11, 12, 13], [], [0, 1, 2, 3, 4, 5, 6, 7, 8, 9, 10, 11, 12, 13, 14, 16], [0, 1, 2, 3, 4, 5, 6, 7, 8, 9, 10, 11, 12, 13, 14, 15, 16, 17]] 17 15 [0, 1, 2, 3, 4, 5, 6, 7, 8, 9, 10, 11, 12, 13, 14, 16] (by kernel_rfl) rfl ⟨trivial, trivial, trivial, trivial, trivial, trivial, trivial, trivial, trivial, trivial, trivial, trivial, fun x w w' ⟨A2, a2, C2, c2, E2, e2, H2, h2, e1, h1⟩ hb => ⟨A2, a2, C2, c2, E2, e2, H2, h2, e1, h1.below hb⟩, fun x w w' ⟨A2, a2, C2, c2, E2, e2, H2, h2, e1, h1⟩ hb => ⟨A2, a2, C2, c2, E2, e2, H2, h2, e1, h1.below hb⟩, fun x w w' ⟨A2, a2, C2, c2, E2, e2, H2, h2, e1, h1⟩ hb => ⟨A2, a2, C2, c2, E2, e2, H2, h2, e1, h1.below hb⟩, trivial, rel_stable (fun u lo hi w w' ⟨g, e, h1, h⟩ hb => ⟨g, e, h1, h.call hb⟩), trivial⟩ ⟨?_, ?_, ?_, ?_, ?_, ?_, ?_, ?_, ?_, ?_, ?_, ?_, ?_, ?_, ?_, ?_, ?_, trivial⟩ ?_ ?_
        · intro x w hb hk Q' hQ
          clear hk
          simp only [netAct, dstAt, List.getElem?_toArray, List.getElem?_cons_zero, List.getElem?_cons_succ, Option.bind_some, Act.put, List.setIfInBounds_toArray, List.set_cons_zero, List.set_cons_succ] at hQ ⊢
          go_wp2
          exact hQ (.int .i64 p) _ (Below.refl _ _) rfl
        · intro x w hb hk Q' hQ
          clear hk
          simp only [netAct, dstAt, List.getElem?_toArray, List.getElem?_cons_zero, List.getElem?_cons_succ, Option.bind_some, Act.put, List.setIfInBounds_toArray, List.set_cons_zero, List.set_cons_succ] at hQ ⊢
          have z0 := (KQ.out.call hb).cell' (i := 0) rfl
          have z1 := (KQ.out.call hb).cell' (i := 1) rfl
          have z2 := (KQ.out.call hb).cell' (i := 2) rfl
          go_wp2
          exact hQ (.agg #[.int .i64 q.v, .slice A q.f.length c, .slice C q.t.length c']) _ (Below.refl _ _) rfl
        · intro x w hb hk Q' hQ
          clear hk
          simp only [netAct, dstAt, List.getElem?_toArray, List.getElem?_cons_zero, List.getElem?_cons_succ, Option.bind_some, Act.put, List.setIfInBounds_toArray, List.set_cons_zero, List.set_cons_succ] at hQ ⊢
          go_wp2
          exact hQ (.slice (some ⟨b, o, none⟩) n bc) _ (Below.refl _ _) rfl
        · intro x w hb hk Q' hQ
          clear hk
          simp only [netAct, dstAt, List.getElem?_toArray, List.getElem?_cons_zero, List.getElem?_cons_succ, Option.bind_some, Act.put, List.setIfInBounds_toArray, List.set_cons_zero, List.set_cons_succ] at hQ ⊢
          go_wp2
          exact hQ (.int .i64 k) _ (Below.refl _ _) rfl
        · intro x w hb hk Q' hQ
          have h2 : x.v 2 = .slice (some ⟨b, o, none⟩) n bc := (hk 2 (by decide)).1
          have h3 : x.v 3 = .int .i64 k := (hk 3 (by decide)).1
          clear hk
          simp only [netAct, dstAt, List.getElem?_toArray, List.getElem?_cons_zero, List.getElem?_cons_succ, Option.bind_some, Act.put, List.setIfInBounds_toArray, List.set_cons_zero, List.set_cons_succ] at hQ ⊢
          simp only [h2, h3] at hQ ⊢
          clear h2 h3
          go_wp2
          exact hQ (.pointer (some ⟨b, o + k * 3, none⟩)) _ (Below.refl _ _) rfl
        · intro x w hb hk Q' hQ
          have h4 : x.v 4 = .pointer (some ⟨b, o + k * 3, none⟩) := (hk 4 (by decide)).1
          clear hk
          simp only [netAct, dstAt, List.getElem?_toArray, List.getElem?_cons_zero, List.getElem?_cons_succ, Option.bind_some, Act.put, List.setIfInBounds_toArray, List.set_cons_zero, List.set_cons_succ] at hQ ⊢
          simp only [h4] at hQ ⊢
          clear h4
          go_wp2
          exact hQ (.pointer (some ⟨b, o + k * 3, none⟩)) _ (Below.refl _ _) rfl
        · intro x w hb hk Q' hQ
          have h5 : x.v 5 = .pointer (some ⟨b, o + k * 3, none⟩) := (hk 5 (by decide)).1
          clear hk
          simp only [netAct, dstAt, List.getElem?_toArray, List.getElem?_cons_zero, List.getElem?_cons_succ, Option.bind_some, Act.put, List.setIfInBounds_toArray, List.set_cons_zero, List.set_cons_succ] at hQ ⊢
          simp only [h5] at hQ ⊢
          clear h5
          have z1 := bcell hb hbw Z1.out
          go_wp2
          exact hQ (.int .i64 bx) _ (Below.refl _ _) rfl
        · intro x w hb hk Q' hQ
          clear hk
          simp only [netAct, dstAt, List.getElem?_toArray, List.getElem?_cons_zero, List.getElem?_cons_succ, Option.bind_some, Act.put, List.setIfInBounds_toArray, List.set_cons_zero, List.set_cons_succ] at hQ ⊢
          go_wp2
          exact hQ (.slice (some ⟨b, o, none⟩) n bc) _ (Below.refl _ _) rfl
        · intro x w hb hk Q' hQ
          clear hk
          simp only [netAct, dstAt, List.getElem?_toArray, List.getElem?_cons_zero, List.getElem?_cons_succ, Option.bind_some, Act.put, List.setIfInBounds_toArray, List.set_cons_zero, List.set_cons_succ] at hQ ⊢
          go_wp2
          exact hQ (.int .i64 k) _ (Below.refl _ _) rfl
        · intro x w hb hk Q' hQ
          have h7 : x.v 7 = .slice (some ⟨b, o, none⟩) n bc := (hk 7 (by decide)).1
          have h8 : x.v 8 = .int .i64 k := (hk 8 (by decide)).1
          clear hk
          simp only [netAct, dstAt, List.getElem?_toArray, List.getElem?_cons_zero, List.getElem?_cons_succ, Option.bind_some, Act.put, List.setIfInBounds_toArray, List.set_cons_zero, List.set_cons_succ] at hQ ⊢
          simp only [h7, h8] at hQ ⊢
          clear h7 h8
          go_wp2
          exact hQ (.pointer (some ⟨b, o + k * 3, none⟩)) _ (Below.refl _ _) rfl
        · intro x w hb hk Q' hQ
          have h9 : x.v 9 = .pointer (some ⟨b, o + k * 3, none⟩) := (hk 9 (by decide)).1
          clear hk
          simp only [netAct, dstAt, List.getElem?_toArray, List.getElem?_cons_zero, List.getElem?_cons_succ, Option.bind_some, Act.put, List.setIfInBounds_toArray, List.set_cons_zero, List.set_cons_succ] at hQ ⊢
          simp only [h9] at hQ ⊢
          clear h9
          go_wp2
          exact hQ (.pointer (some ⟨b, o + k * 3 + 1, none⟩)) _ (Below.refl _ _) rfl
        · intro x w hb hk Q' hQ
          have h10 : x.v 10 = .pointer (some ⟨b, o + k * 3 + 1, none⟩) := (hk 10 (by decide)).1
          clear hk
          simp only [netAct, dstAt, List.getElem?_toArray, List.getElem?_cons_zero, List.getElem?_cons_succ, Option.bind_some, Act.put, List.setIfInBounds_toArray, List.set_cons_zero, List.set_cons_succ] at hQ ⊢
          simp only [h10] at hQ ⊢
          clear h10
          have z1 := bcell hb hbw Z2.out
          go_wp2
          exact hQ (.int .i64 by_) _ (Below.refl _ _) rfl
        · intro x w hb hk Q' hQ
          have h0 : x.v 0 = .int .i64 p := (hk 0 (by decide)).1
          have h1 : x.v 1 = .agg #[.int .i64 q.v, .slice A q.f.length c, .slice C q.t.length c'] := (hk 1 (by decide)).1
          have h2 : x.v 2 = .slice (some ⟨b, o, none⟩) n bc := (hk 2 (by decide)).1
          have h3 : x.v 3 = .int .i64 k := (hk 3 (by decide)).1
          have h4 : x.v 4 = .pointer (some ⟨b, o + k * 3, none⟩) := (hk 4 (by decide)).1
          have h5 : x.v 5 = .pointer (some ⟨b, o + k * 3, none⟩) := (hk 5 (by decide)).1
          have h6 : x.v 6 = .int .i64 bx := (hk 6 (by decide)).1
          have h7 : x.v 7 = .slice (some ⟨b, o, none⟩) n bc := (hk 7 (by decide)).1
          have h8 : x.v 8 = .int .i64 k := (hk 8 (by decide)).1
          have h9 : x.v 9 = .pointer (some ⟨b, o + k * 3, none⟩) := (hk 9 (by decide)).1
          have h10 : x.v 10 = .pointer (some ⟨b, o + k * 3 + 1, none⟩) := (hk 10 (by decide)).1
          have h11 : x.v 11 = .int .i64 by_ := (hk 11 (by decide)).1
          clear hk
          simp only [netAct, dstAt, List.getElem?_toArray, List.getElem?_cons_zero, List.getElem?_cons_succ, Option.bind_some, Act.put, List.setIfInBounds_toArray, List.set_cons_zero, List.set_cons_succ] at hQ ⊢
          simp only [h0, h1, h2, h3, h4, h5, h6, h7, h8, h9, h10, h11] at hQ ⊢
          clear h0 h1 h2 h3 h4 h5 h6 h7 h8 h9 h10 h11
          go_wp2_with fail
          refine (specIntervalRepY p _ _ _ q _ hI (QvR.next hb HQ5.out) rx ry HYES.out).mono ?_; rintro e w5 ⟨v5, rfl, hO5, hb5⟩
          rw [HZI.out] at hO5 ⊢
          have HO5 := Lib.hid hO5
          obtain ⟨A2, a2, C2, c2, E2, e2, H2, h2, e5⟩ := ivI_six hO5
          subst e5
          clear hO5
          go_wp2
          exact hQ _ _ hb5 ⟨A2, a2, C2, c2, E2, e2, H2, h2, rfl, HO5.out⟩
        · intro x w hb hk Q' hQ
          have h0 : x.v 0 = .int .i64 p := (hk 0 (by decide)).1
          have h1 : x.v 1 = .agg #[.int .i64 q.v, .slice A q.f.length c, .slice C q.t.length c'] := (hk 1 (by decide)).1
          have h2 : x.v 2 = .slice (some ⟨b, o, none⟩) n bc := (hk 2 (by decide)).1
          have h3 : x.v 3 = .int .i64 k := (hk 3 (by decide)).1
          have h4 : x.v 4 = .pointer (some ⟨b, o + k * 3, none⟩) := (hk 4 (by decide)).1
          have h5 : x.v 5 = .pointer (some ⟨b, o + k * 3, none⟩) := (hk 5 (by decide)).1
          have h6 : x.v 6 = .int .i64 bx := (hk 6 (by decide)).1
          have h7 : x.v 7 = .slice (some ⟨b, o, none⟩) n bc := (hk 7 (by decide)).1
          have h8 : x.v 8 = .int .i64 k := (hk 8 (by decide)).1
          have h9 : x.v 9 = .pointer (some ⟨b, o + k * 3, none⟩) := (hk 9 (by decide)).1
          have h10 : x.v 10 = .pointer (some ⟨b, o + k * 3 + 1, none⟩) := (hk 10 (by decide)).1
          have h11 : x.v 11 = .int .i64 by_ := (hk 11 (by decide)).1
          have h12 : ∃ A2 a2 C2 c2 E2 e2 H2 h2, x.v 12 = .tuple #[.agg #[.int .i64 p, .int .i64 q.v, .slice A2 q.f.length a2, .slice C2 q.t.length c2, .slice E2 q.v.toNat e2, .slice H2 q.f.length h2], .bool true] ∧ RepI w (x.lo 12) (x.hi 12) (.agg #[.int .i64 p, .int .i64 q.v, .slice A2 q.f.length a2, .slice C2 q.t.length c2, .slice E2 q.v.toNat e2, .slice H2 q.f.length h2]) (ivR p q (xn, yn)) := (hk 12 (by decide)).1
          have s12 := (hk 12 (by decide)).2
          clear hk
          simp only [netAct, dstAt, List.getElem?_toArray, List.getElem?_cons_zero, List.getElem?_cons_succ, Option.bind_some, Act.put, List.setIfInBounds_toArray, List.set_cons_zero, List.set_cons_succ] at hQ ⊢
          simp only [h0, h1, h2, h3, h4, h5, h6, h7, h8, h9, h10, h11] at hQ ⊢
          clear h0 h1 h2 h3 h4 h5 h6 h7 h8 h9 h10 h11
          obtain ⟨A2, a2, C2, c2, E2, e2, H2, h2, e4, ho⟩ := h12
          have hQ' := hQ (.tuple #[.agg #[.int .i64 p, .int .i64 q.v, .slice A2 q.f.length a2, .slice C2 q.t.length c2, .slice E2 q.v.toNat e2, .slice H2 q.f.length h2], .bool true]) w (Below.refl _ _) ⟨A2, a2, C2, c2, E2, e2, H2, h2, rfl, ho⟩
          rw [e4] at hQ' ⊢
          go_wp2
          exact hQ'
        · intro x w hb hk Q' hQ
          have h0 : x.v 0 = .int .i64 p := (hk 0 (by decide)).1
          have h1 : x.v 1 = .agg #[.int .i64 q.v, .slice A q.f.length c, .slice C q.t.length c'] := (hk 1 (by decide)).1
          have h2 : x.v 2 = .slice (some ⟨b, o, none⟩) n bc := (hk 2 (by decide)).1
          have h3 : x.v 3 = .int .i64 k := (hk 3 (by decide)).1
          have h4 : x.v 4 = .pointer (some ⟨b, o + k * 3, none⟩) := (hk 4 (by decide)).1
          have h5 : x.v 5 = .pointer (some ⟨b, o + k * 3, none⟩) := (hk 5 (by decide)).1
          have h6 : x.v 6 = .int .i64 bx := (hk 6 (by decide)).1
          have h7 : x.v 7 = .slice (some ⟨b, o, none⟩) n bc := (hk 7 (by decide)).1
          have h8 : x.v 8 = .int .i64 k := (hk 8 (by decide)).1
          have h9 : x.v 9 = .pointer (some ⟨b, o + k * 3, none⟩) := (hk 9 (by decide)).1
          have h10 : x.v 10 = .pointer (some ⟨b, o + k * 3 + 1, none⟩) := (hk 10 (by decide)).1
          have h11 : x.v 11 = .int .i64 by_ := (hk 11 (by decide)).1
          have h12 : ∃ A2 a2 C2 c2 E2 e2 H2 h2, x.v 12 = .tuple #[.agg #[.int .i64 p, .int .i64 q.v, .slice A2 q.f.length a2, .slice C2 q.t.length c2, .slice E2 q.v.toNat e2, .slice H2 q.f.length h2], .bool true] ∧ RepI w (x.lo 12) (x.hi 12) (.agg #[.int .i64 p, .int .i64 q.v, .slice A2 q.f.length a2, .slice C2 q.t.length c2, .slice E2 q.v.toNat e2, .slice H2 q.f.length h2]) (ivR p q (xn, yn)) := (hk 12 (by decide)).1
          have h13 : ∃ A2 a2 C2 c2 E2 e2 H2 h2, x.v 13 = .tuple #[.agg #[.int .i64 p, .int .i64 q.v, .slice A2 q.f.length a2, .slice C2 q.t.length c2, .slice E2 q.v.toNat e2, .slice H2 q.f.length h2], .bool true] ∧ RepI w (x.lo 12) (x.hi 12) (.agg #[.int .i64 p, .int .i64 q.v, .slice A2 q.f.length a2, .slice C2 q.t.length c2, .slice E2 q.v.toNat e2, .slice H2 q.f.length h2]) (ivR p q (xn, yn)) := (hk 13 (by decide)).1
          have s12 := (hk 12 (by decide)).2
          have s13 := (hk 13 (by decide)).2
          clear hk
          simp only [netAct, dstAt, List.getElem?_toArray, List.getElem?_cons_zero, List.getElem?_cons_succ, Option.bind_some, Act.put, List.setIfInBounds_toArray, List.set_cons_zero, List.set_cons_succ] at hQ ⊢
          simp only [h0, h1, h2, h3, h4, h5, h6, h7, h8, h9, h10, h11] at hQ ⊢
          clear h0 h1 h2 h3 h4 h5 h6 h7 h8 h9 h10 h11
          obtain ⟨A2, a2, C2, c2, E2, e2, H2, h2, e4, ho⟩ := h13
          have hQ' := hQ (.agg #[.int .i64 p, .int .i64 q.v, .slice A2 q.f.length a2, .slice C2 q.t.length c2, .slice E2 q.v.toNat e2, .slice H2 q.f.length h2]) w (Below.refl _ _) ⟨A2, a2, C2, c2, E2, e2, H2, h2, rfl, ho⟩
          rw [e4] at hQ' ⊢
          go_wp2
          exact hQ'
        · intro x w hb hk Q' hQ
          have h13 : ∃ A2 a2 C2 c2 E2 e2 H2 h2, x.v 13 = .tuple #[.agg #[.int .i64 p, .int .i64 q.v, .slice A2 q.f.length a2, .slice C2 q.t.length c2, .slice E2 q.v.toNat e2, .slice H2 q.f.length h2], .bool true] ∧ RepI w (x.lo 12) (x.hi 12) (.agg #[.int .i64 p, .int .i64 q.v, .slice A2 q.f.length a2, .slice C2 q.t.length c2, .slice E2 q.v.toNat e2, .slice H2 q.f.length h2]) (ivR p q (xn, yn)) := (hk 13 (by decide)).1
          clear hk
          simp only [netAct, dstAt, List.getElem?_toArray, List.getElem?_cons_zero, List.getElem?_cons_succ, Option.bind_some, Act.put, List.setIfInBounds_toArray, List.set_cons_zero, List.set_cons_succ] at hQ ⊢
          obtain ⟨A2, a2, C2, c2, E2, e2, H2, h2, e4, ho⟩ := h13
          rw [e4] at hQ ⊢
          go_wp2
          exact hQ (.bool true) _ (Below.refl _ _) rfl
        · intro x w hb hk Q' hQ
          clear hk
          simp only [netAct, dstAt, List.getElem?_toArray, List.getElem?_cons_zero, List.getElem?_cons_succ, Option.bind_some, Act.put, List.setIfInBounds_toArray, List.set_cons_zero, List.set_cons_succ] at hQ ⊢
          go_wp2
          exact hQ _ _ (below_alloc _ _) ⟨_, rfl, ⟨Nat.le_refl _, by show w.heap.size < (w.alloc _).heap.size; simp⟩, Blk.new _ _ _⟩
        · intro x w hb hk hiv hdj
          have h0 : x.v 0 = .int .i64 p := hk 0 (by decide)
          have h1 : x.v 1 = .agg #[.int .i64 q.v, .slice A q.f.length c, .slice C q.t.length c'] := hk 1 (by decide)
          have h2 : x.v 2 = .slice (some ⟨b, o, none⟩) n bc := hk 2 (by decide)
          have h3 : x.v 3 = .int .i64 k := hk 3 (by decide)
          have h4 : x.v 4 = .pointer (some ⟨b, o + k * 3, none⟩) := hk 4 (by decide)
          have h5 : x.v 5 = .pointer (some ⟨b, o + k * 3, none⟩) := hk 5 (by decide)
          have h6 : x.v 6 = .int .i64 bx := hk 6 (by decide)
          have h7 : x.v 7 = .slice (some ⟨b, o, none⟩) n bc := hk 7 (by decide)
          have h8 : x.v 8 = .int .i64 k := hk 8 (by decide)
          have h9 : x.v 9 = .pointer (some ⟨b, o + k * 3, none⟩) := hk 9 (by decide)
          have h10 : x.v 10 = .pointer (some ⟨b, o + k * 3 + 1, none⟩) := hk 10 (by decide)
          have h11 : x.v 11 = .int .i64 by_ := hk 11 (by decide)
          have h12 : ∃ A2 a2 C2 c2 E2 e2 H2 h2, x.v 12 = .tuple #[.agg #[.int .i64 p, .int .i64 q.v, .slice A2 q.f.length a2, .slice C2 q.t.length c2, .slice E2 q.v.toNat e2, .slice H2 q.f.length h2], .bool true] ∧ RepI w (x.lo 12) (x.hi 12) (.agg #[.int .i64 p, .int .i64 q.v, .slice A2 q.f.length a2, .slice C2 q.t.length c2, .slice E2 q.v.toNat e2, .slice H2 q.f.length h2]) (ivR p q (xn, yn)) := hk 12 (by decide)
          have h13 : ∃ A2 a2 C2 c2 E2 e2 H2 h2, x.v 13 = .tuple #[.agg #[.int .i64 p, .int .i64 q.v, .slice A2 q.f.length a2, .slice C2 q.t.length c2, .slice E2 q.v.toNat e2, .slice H2 q.f.length h2], .bool true] ∧ RepI w (x.lo 12) (x.hi 12) (.agg #[.int .i64 p, .int .i64 q.v, .slice A2 q.f.length a2, .slice C2 q.t.length c2, .slice E2 q.v.toNat e2, .slice H2 q.f.length h2]) (ivR p q (xn, yn)) := hk 13 (by decide)
          have h14 : ∃ A2 a2 C2 c2 E2 e2 H2 h2, x.v 14 = .agg #[.int .i64 p, .int .i64 q.v, .slice A2 q.f.length a2, .slice C2 q.t.length c2, .slice E2 q.v.toNat e2, .slice H2 q.f.length h2] ∧ RepI w (x.lo 12) (x.hi 12) (.agg #[.int .i64 p, .int .i64 q.v, .slice A2 q.f.length a2, .slice C2 q.t.length c2, .slice E2 q.v.toNat e2, .slice H2 q.f.length h2]) (ivR p q (xn, yn)) := hk 14 (by decide)
          have h15 : x.v 15 = .bool true := hk 15 (by decide)
          have h16 : ∃ g, (x.v 16) = .pointer (some ⟨g, 0, none⟩) ∧ ((x.lo 16) ≤ g ∧ g < (x.hi 16)) ∧ Blk w g 31 #[.int .i64 0, .int .i64 0, .slice none 0 0, .slice none 0 0, .slice none 0 0, .slice none 0 0] := hk 16 (by decide)
          clear hk
          simp only [netAct, dstAt, List.getElem?_toArray, List.getElem?_cons_zero, List.getElem?_cons_succ, Option.bind_some, Act.put, List.setIfInBounds_toArray, List.set_cons_zero, List.set_cons_succ]
          simp only [List.drop_succ_cons, List.drop_zero, h0, h1, h2, h3, h4, h5, h6, h7, h8, h9, h10, h11, h15]
          clear h0 h1 h2 h3 h4 h5 h6 h7 h8 h9 h10 h11 h15
          obtain ⟨A2, a2, C2, c2, E2, e2, H2, h2, e14, ho⟩ := h14
          obtain ⟨gX, e16, hgX, hBX⟩ := h16
          obtain ⟨A7, a7, C7, c7, E7, e7, H7, h7, e13, _⟩ := h13
          have i12 := hiv 12 (by decide)
          have i16 := hiv 16 (by decide)
          have dj := hdj 12 16 (by decide) (by decide) (by decide)
          rw [e14, e16, e13]
          have fr := hBX.frozen
          have r0 := hBX.cell' (i := 0) rfl
          have r1 := hBX.cell' (i := 1) rfl
          have r2 := hBX.cell' (i := 2) rfl
          have r3 := hBX.cell' (i := 3) rfl
          have r4 := hBX.cell' (i := 4) rfl
          have r5 := hBX.cell' (i := 5) rfl
          have hbs := hb.size
          have gXl := hBX.lt
          obtain ⟨W7, hW7⟩ : ∃ W7, (((((w.setCell ⟨gX, 0, none⟩ (.int .i64 p)).setCell ⟨gX, 1, none⟩ (.int .i64 q.v)).setCell ⟨gX, 2, none⟩ (.slice A2 q.f.length a2)).setCell ⟨gX, 3, none⟩ (.slice C2 q.t.length c2)).setCell ⟨gX, 4, none⟩ (.slice E2 q.v.toNat e2)).setCell ⟨gX, 5, none⟩ (.slice H2 q.f.length h2) = W7 := ⟨_, rfl⟩
          have hB7 : Blk W7 gX 31 #[.int .i64 p, .int .i64 q.v, .slice A2 q.f.length a2, .slice C2 q.t.length c2, .slice E2 q.v.toNat e2, .slice H2 q.f.length h2] := by
            rw [← hW7]
            exact (((((hBX.set_ 0 _).set_ 1 _).set_ 2 _).set_ 3 _).set_ 4 _).set_ 5 _
          have hCh : Chg gX (gX + 1) w W7 := by
            rw [← hW7]
            exact chg6 _ _ _ _ _ _ _ _
          have hs7 : W7.heap.size = w.heap.size := by rw [← hW7]; simp
          have b17 : Below w1.heap.size w1 W7 := hb.trans (hCh.below (by omega) (by omega))
          have KX7 := Lib.hid hB7
          have HI7 := Lib.hid ((ho.chg hCh (by omega)).wider (lo' := w1.heap.size) (hi' := W7.heap.size) (by omega) (by omega))
          have KO7 := Lib.hid (HB5.out.call b17)
          have HR7 := Lib.hid ((HR5.out.below b17).wider (Nat.le_refl _) b17.size)
          have GW7 := Lib.hid (GW5.out.trans (b17.mono gws))
          have Z37 := Lib.hid (bcell b17 hbw Z3.out)
          have hgX2 : w1.heap.size ≤ gX := by omega
          have hgX3 : gX < W7.heap.size := by omega
          have hbs7 : b < W7.heap.size := by omega
          have hbO : b < W.heap.size := hbB
          have hs17 : w1.heap.size ≤ W7.heap.size := b17.size
          clear hiv hdj h12 e14 e16 e13 i12 i16 dj hBX hCh hs7 hb b17 ho hB7 gXl hbs hgX
          go_wp2
          clear hW7 r0 r1 r2 r3 r4 r5 fr
          go_loopw [12] (fun i wr => ∃ (j : Nat) (A1 : Option Addr) (a1 : Nat) (C1 : Option Addr) (c1 : Nat) (E1 : Option Addr) (e1 : Nat) (H1' : Option Addr) (h1' : Nat), j ≤ N ∧ i = .int .i64 j ∧ Chg gO (gO + 1) W7 wr ∧
            Blk wr gO 31 #[.int .i64 p, .int .i64 q.v, .slice A1 q.f.length a1, .slice C1 q.t.length c1, .slice E1 q.v.toNat e1, .slice H1' q.f.length h1'] ∧ RepI wr W.heap.size wr.heap.size (.agg #[.int .i64 p, .int .i64 q.v, .slice A1 q.f.length a1, .slice C1 q.t.length c1, .slice E1 q.v.toNat e1, .slice H1' q.f.length h1']) (smR p q (barsX (l.take k) ++ List.replicate j (xn, yn))) ∧ smO q (barsX (l.take k) ++ List.replicate j (xn, yn)) = true) (fun i _ => N - (intOf i).toNat)
          case atStart => exact ⟨0, A1, a1, C1, c1, E1, e1, H1', h1', Nat.zero_le _, rfl, Chg.refl _ _ _, KO7.out, by have := HR7.out; simpa using this, by have := HOK.out; simpa using this⟩
          case round =>
            clear A1 a1 C1 c1 E1 e1 H1' h1' KO7 HR7 HOK HB5 HR5
            obtain ⟨j, A1, a1, C1, c1, E1, e1, H1', h1', hj, rfl, hch, hB, hR, hok⟩ := hrel
            have z3 := bcell (hch.below (B := W.heap.size) hgO2 (by omega)) hbO Z37.out
            have HOK := Lib.hid hok
            have hcs := hch.size
            clear hok
            by_cases hjl : j < N
            · have o0 := hB.cell' (i := 0) rfl
              have o1 := hB.cell' (i := 1) rfl
              have o2 := hB.cell' (i := 2) rfl
              have o3 := hB.cell' (i := 3) rfl
              have o4 := hB.cell' (i := 4) rfl
              have o5 := hB.cell' (i := 5) rfl
              have kx := KX7.out.chg hch (.inr (by omega))
              have m0 := kx.cell' (i := 0) rfl
              have m1 := kx.cell' (i := 1) rfl
              have m2 := kx.cell' (i := 2) rfl
              have m3 := kx.cell' (i := 3) rfl
              have m4 := kx.cell' (i := 4) rfl
              have m5 := kx.cell' (i := 5) rfl
              have HBr := Lib.hid hB
              have HCr := Lib.hid hch
              have HRr := Lib.hid hR.rd
              have HXr := Lib.hid (HI7.out.chg hch (.inr (by omega))).rd
              have hir := smR_rep HP.out HQ.out (barsX (l.take k) ++ List.replicate j (xn, yn))
              rw [HOK.out] at hir
              have HIR := Lib.hid hir
              clear hir hB hR hch kx
              go_wp2_with fail
              refine (specDirectSum_any _ _ p q (smS q (barsX (l.take k) ++ List.replicate j (xn, yn))).1 (ivN xn yn) (smS q (barsX (l.take k) ++ List.replicate j (xn, yn))).2 (fun _ _ _ => 1) _ HRr.out HXr.out HIR.out (ivR_rep HP.out HQ.out (xn, yn))).mono ?_; rintro e w6 ⟨v6, rfl, ho, hb6⟩
              rw [sum_smP HP.out HQ.out, ← rep_snoc] at ho ⊢
              clear o0 o1 o2 o3 o4 o5 m0 m1 m2 m3 m4 m5 z3
              have hb6s := hb6.size
              have GW6 := Lib.hid ((GW7.out.trans (HCr.out.below hgO2 (by omega))).trans (hb6.mono (by omega)))
              rcases hk1 : smO q (barsX (l.take k) ++ List.replicate (j + 1) (xn, yn)) with _ | _
              · have hsm : smP p q (barsX (l.take k) ++ List.replicate (j + 1) (xn, yn)) = (rp0, false) := by simp [smP, hk1]
                rw [hsm] at ho ⊢
                have HE2 := Lib.hid (HE.out.trans (smP_at (p := p) HX.out (by simpa using hjl) (by rw [HXN.out, HYN.out]; exact hk1)))
                obtain ⟨A8, a8, C8, c8, E8, e8, H8, h8, e6⟩ := rp0I_six ho
                subst e6
                obtain ⟨W8, hW8⟩ : ∃ W8, w6.alloc (.cells #[.int .i64 0, .int .i64 0, .slice A8 0 a8, .slice C8 0 c8, .slice E8 0 e8, .slice H8 0 h8] 31) = W8 := ⟨_, rfl⟩
                have ga : Below w6.heap.size w6 W8 := by rw [← hW8]; exact below_alloc _ _
                have GW8 := Lib.hid (GW6.out.trans (ga.mono GW6.out.size))
                have HE := HE2
                clear hk1 hsm ho ga hb6
                have kz := k2.call GW8.out
                have fr := kz.frozen
                have s0 := kz.cell' (i := 0) rfl
                have s1 := kz.cell' (i := 1) rfl
                have s2 := kz.cell' (i := 2) rfl
                have s3 := kz.cell' (i := 3) rfl
                have s4 := kz.cell' (i := 4) rfl
                have s5 := kz.cell' (i := 5) rfl
                have gf := g0.trans (GW8.out.mono g0.size)
                have GF := Lib.hid gf
                clear kz gf
                go_wp2
                have gf := GF.out
                have hE := HE.out
                have gfs := gf.size
                exact bodyPost_ret (v := .tuple #[.agg #[.int .i64 0, .int .i64 0, .slice none 0 0, .slice none 0 0, .slice none 0 0, .slice none 0 0], .bool false]) (by simp [results, go_sem, s0, s1, s2, s3, s4, s5]) rfl ⟨_, by rw [hE], by rw [hE]; exact RepI.zero _ (by simp; exact gfs), (((((gf.setCell (by simp) _).setCell (by simp) _).setCell (by simp) _).setCell (by simp) _).setCell (by simp) _).setCell (by simp) _⟩
              · have hsm : smP p q (barsX (l.take k) ++ List.replicate (j + 1) (xn, yn)) = (smR p q (barsX (l.take k) ++ List.replicate (j + 1) (xn, yn)), true) := by simp [smP, hk1]
                rw [hsm] at ho ⊢
                have HK1 := Lib.hid hk1
                clear hk1 hsm
                obtain ⟨A3, a3, C3, c3, E3, e3, H3, h3, e6⟩ := smI_six ho
                subst e6
                obtain ⟨W8, hW8⟩ : ∃ W8, w6.alloc (.cells #[.int .i64 p, .int .i64 q.v, .slice A3 q.f.length a3, .slice C3 q.t.length c3, .slice E3 q.v.toNat e3, .slice H3 q.f.length h3] 31) = W8 := ⟨_, rfl⟩
                have ga : Below w6.heap.size w6 W8 := by rw [← hW8]; exact below_alloc _ _
                have kY : Blk W8 w6.heap.size 31 #[.int .i64 p, .int .i64 q.v, .slice A3 q.f.length a3, .slice C3 q.t.length c3, .slice E3 q.v.toNat e3, .slice H3 q.f.length h3] := by rw [← hW8]; exact Blk.new _ _ _
                have hbr8 := hb6.trans (ga.mono hb6s)
                have kO8 := HBr.out.call hbr8
                have fr := kO8.frozen
                have o0 := kO8.cell' (i := 0) rfl
                have o1 := kO8.cell' (i := 1) rfl
                have o2 := kO8.cell' (i := 2) rfl
                have o3 := kO8.cell' (i := 3) rfl
                have o4 := kO8.cell' (i := 4) rfl
                have o5 := kO8.cell' (i := 5) rfl
                have m0 := kY.cell' (i := 0) rfl
                have m1 := kY.cell' (i := 1) rfl
                have m2 := kY.cell' (i := 2) rfl
                have m3 := kY.cell' (i := 3) rfl
                have m4 := kY.cell' (i := 4) rfl
                have m5 := kY.cell' (i := 5) rfl
                have s8 := ga.size
                have gOr := HBr.out.lt
                obtain ⟨W9, hW9⟩ : ∃ W9, (((((W8.setCell ⟨gO, 0, none⟩ (.int .i64 p)).setCell ⟨gO, 1, none⟩ (.int .i64 q.v)).setCell ⟨gO, 2, none⟩ (.slice A3 q.f.length a3)).setCell ⟨gO, 3, none⟩ (.slice C3 q.t.length c3)).setCell ⟨gO, 4, none⟩ (.slice E3 q.v.toNat e3)).setCell ⟨gO, 5, none⟩ (.slice H3 q.f.length h3) = W9 := ⟨_, rfl⟩
                have hB9 : Blk W9 gO 31 #[.int .i64 p, .int .i64 q.v, .slice A3 q.f.length a3, .slice C3 q.t.length c3, .slice E3 q.v.toNat e3, .slice H3 q.f.length h3] := by
                  rw [← hW9]
                  exact (((((kO8.set_ 0 _).set_ 1 _).set_ 2 _).set_ 3 _).set_ 4 _).set_ 5 _
                have hCh : Chg gO (gO + 1) W8 W9 := by
                  rw [← hW9]
                  exact chg6 _ _ _ _ _ _ _ _
                have hs9 : W9.heap.size = W8.heap.size := by rw [← hW9]; simp
                have HR9 := Lib.hid (show RepI W9 W.heap.size W9.heap.size (.agg #[.int .i64 p, .int .i64 q.v, .slice A3 q.f.length a3, .slice C3 q.t.length c3, .slice E3 q.v.toNat e3, .slice H3 q.f.length h3]) (smR p q (barsX (l.take k) ++ List.replicate (j + 1) (xn, yn))) from (((ho.below ga).chg hCh (.inr (by omega))).wider (by omega) (by omega)))
                have HC9 := Lib.hid ((HCr.out.trans (Chg.of_below hbr8)).trans hCh)
                have HB9 := Lib.hid hB9
                clear ho ga hbr8 kO8 kY hB9 hCh hb6
                go_wp2
                clear hW8 hW9 o0 o1 o2 o3 o4 o5 m0 m1 m2 m3 m4 m5 fr
                go_roundw
                case rel => exact ⟨j + 1, A3, a3, C3, c3, E3, e3, H3, h3, by omega, by go_num, HC9.out, HB9.out, HR9.out, HK1.out⟩
                case measure => simp [intOf]; omega
            · obtain rfl : j = N := by omega
              have hbx : barsX (l.take (k + 1)) = barsX (l.take k) ++ List.replicate j (xn, yn) := by
                rw [take_snoc HX.out, barsX_snoc, ← HXN.out, ← HYN.out]
                simp
              rw [← hbx] at hR HOK
              have HBr := Lib.hid hB
              have HRr := Lib.hid hR
              have GWr := Lib.hid (GW7.out.trans (hch.below hgO2 (by omega)))
              have sgr := hB.lt
              clear hB hR hch hbx
              go_wp2
              have hlt := HLT.out
              go_roundw
              case rel => exact ⟨k + 1, A1, a1, C1, c1, E1, e1, H1', h1', by omega, by go_num, GWr.out, sgr, HBr.out, HRr.out, HOK.out⟩
              case measure => simp [intOf]; omega
        · intro x w hb hk hiv hdj om os hom hos
          simp only [List.getElem?_cons_zero, List.getElem?_cons_succ, Option.some.injEq] at hom hos
          subst hom hos
          have h0 : x.v 0 = .int .i64 p := hk 0 (by decide)
          have h1 : x.v 1 = .agg #[.int .i64 q.v, .slice A q.f.length c, .slice C q.t.length c'] := hk 1 (by decide)
          have h2 : x.v 2 = .slice (some ⟨b, o, none⟩) n bc := hk 2 (by decide)
          have h3 : x.v 3 = .int .i64 k := hk 3 (by decide)
          have h4 : x.v 4 = .pointer (some ⟨b, o + k * 3, none⟩) := hk 4 (by decide)
          have h5 : x.v 5 = .pointer (some ⟨b, o + k * 3, none⟩) := hk 5 (by decide)
          have h6 : x.v 6 = .int .i64 bx := hk 6 (by decide)
          have h7 : x.v 7 = .slice (some ⟨b, o, none⟩) n bc := hk 7 (by decide)
          have h8 : x.v 8 = .int .i64 k := hk 8 (by decide)
          have h9 : x.v 9 = .pointer (some ⟨b, o + k * 3, none⟩) := hk 9 (by decide)
          have h10 : x.v 10 = .pointer (some ⟨b, o + k * 3 + 1, none⟩) := hk 10 (by decide)
          have h11 : x.v 11 = .int .i64 by_ := hk 11 (by decide)
          have h12 : ∃ A2 a2 C2 c2 E2 e2 H2 h2, x.v 12 = .tuple #[.agg #[.int .i64 p, .int .i64 q.v, .slice A2 q.f.length a2, .slice C2 q.t.length c2, .slice E2 q.v.toNat e2, .slice H2 q.f.length h2], .bool true] ∧ RepI w (x.lo 12) (x.hi 12) (.agg #[.int .i64 p, .int .i64 q.v, .slice A2 q.f.length a2, .slice C2 q.t.length c2, .slice E2 q.v.toNat e2, .slice H2 q.f.length h2]) (ivR p q (xn, yn)) := hk 12 (by decide)
          have h13 : ∃ A2 a2 C2 c2 E2 e2 H2 h2, x.v 13 = .tuple #[.agg #[.int .i64 p, .int .i64 q.v, .slice A2 q.f.length a2, .slice C2 q.t.length c2, .slice E2 q.v.toNat e2, .slice H2 q.f.length h2], .bool true] ∧ RepI w (x.lo 12) (x.hi 12) (.agg #[.int .i64 p, .int .i64 q.v, .slice A2 q.f.length a2, .slice C2 q.t.length c2, .slice E2 q.v.toNat e2, .slice H2 q.f.length h2]) (ivR p q (xn, yn)) := hk 13 (by decide)
          have h14 : ∃ A2 a2 C2 c2 E2 e2 H2 h2, x.v 14 = .agg #[.int .i64 p, .int .i64 q.v, .slice A2 q.f.length a2, .slice C2 q.t.length c2, .slice E2 q.v.toNat e2, .slice H2 q.f.length h2] ∧ RepI w (x.lo 12) (x.hi 12) (.agg #[.int .i64 p, .int .i64 q.v, .slice A2 q.f.length a2, .slice C2 q.t.length c2, .slice E2 q.v.toNat e2, .slice H2 q.f.length h2]) (ivR p q (xn, yn)) := hk 14 (by decide)
          have h16 : ∃ g, (x.v 16) = .pointer (some ⟨g, 0, none⟩) ∧ ((x.lo 16) ≤ g ∧ g < (x.hi 16)) ∧ Blk w g 31 #[.int .i64 0, .int .i64 0, .slice none 0 0, .slice none 0 0, .slice none 0 0, .slice none 0 0] := hk 16 (by decide)
          clear hk
          simp only [List.foldl_cons, List.foldl_nil, netAct, dstAt, List.getElem?_toArray, List.getElem?_cons_zero, List.getElem?_cons_succ, Option.bind_some, Act.put, List.setIfInBounds_toArray, List.set_cons_zero, List.set_cons_succ]
          simp only [List.drop_succ_cons, List.drop_zero, h0, h1, h2, h3, h4, h5, h6, h7, h8, h9, h10, h11]
          clear h0 h1 h2 h3 h4 h5 h6 h7 h8 h9 h10 h11
          obtain ⟨A2, a2, C2, c2, E2, e2, H2, h2, e14, ho⟩ := h14
          obtain ⟨gX, e16, hgX, hBX⟩ := h16
          obtain ⟨A7, a7, C7, c7, E7, e7, H7, h7, e13, _⟩ := h13
          have i12 := hiv 12 (by decide)
          have i16 := hiv 16 (by decide)
          have dj := hdj 12 16 (by decide) (by decide) (by decide)
          rw [e14, e16, e13]
          have fr := hBX.frozen
          have r0 := hBX.cell' (i := 0) rfl
          have r1 := hBX.cell' (i := 1) rfl
          have r2 := hBX.cell' (i := 2) rfl
          have r3 := hBX.cell' (i := 3) rfl
          have r4 := hBX.cell' (i := 4) rfl
          have r5 := hBX.cell' (i := 5) rfl
          have hbs := hb.size
          have gXl := hBX.lt
          obtain ⟨W7, hW7⟩ : ∃ W7, (((((w.setCell ⟨gX, 0, none⟩ (.int .i64 p)).setCell ⟨gX, 1, none⟩ (.int .i64 q.v)).setCell ⟨gX, 2, none⟩ (.slice A2 q.f.length a2)).setCell ⟨gX, 3, none⟩ (.slice C2 q.t.length c2)).setCell ⟨gX, 4, none⟩ (.slice E2 q.v.toNat e2)).setCell ⟨gX, 5, none⟩ (.slice H2 q.f.length h2) = W7 := ⟨_, rfl⟩
          have hB7 : Blk W7 gX 31 #[.int .i64 p, .int .i64 q.v, .slice A2 q.f.length a2, .slice C2 q.t.length c2, .slice E2 q.v.toNat e2, .slice H2 q.f.length h2] := by
            rw [← hW7]
            exact (((((hBX.set_ 0 _).set_ 1 _).set_ 2 _).set_ 3 _).set_ 4 _).set_ 5 _
          have hCh : Chg gX (gX + 1) w W7 := by
            rw [← hW7]
            exact chg6 _ _ _ _ _ _ _ _
          have hs7 : W7.heap.size = w.heap.size := by rw [← hW7]; simp
          have b17 : Below w1.heap.size w1 W7 := hb.trans (hCh.below (by omega) (by omega))
          have KX7 := Lib.hid hB7
          have HI7 := Lib.hid ((ho.chg hCh (by omega)).wider (lo' := w1.heap.size) (hi' := W7.heap.size) (by omega) (by omega))
          have KO7 := Lib.hid (HB5.out.call b17)
          have HR7 := Lib.hid ((HR5.out.below b17).wider (Nat.le_refl _) b17.size)
          have GW7 := Lib.hid (GW5.out.trans (b17.mono gws))
          have Z37 := Lib.hid (bcell b17 hbw Z3.out)
          have hgX2 : w1.heap.size ≤ gX := by omega
          have hgX3 : gX < W7.heap.size := by omega
          have hbs7 : b < W7.heap.size := by omega
          have hbO : b < W.heap.size := hbB
          have hs17 : w1.heap.size ≤ W7.heap.size := b17.size
          clear hiv hdj h12 e14 e16 e13 i12 i16 dj hBX hCh hs7 hb b17 ho hB7 gXl hbs hgX
          go_wp2
          clear hW7 r0 r1 r2 r3 r4 r5 fr
          go_loopw [12] (fun i wr => ∃ (j : Nat) (A1 : Option Addr) (a1 : Nat) (C1 : Option Addr) (c1 : Nat) (E1 : Option Addr) (e1 : Nat) (H1' : Option Addr) (h1' : Nat), j ≤ N ∧ i = .int .i64 j ∧ Chg gO (gO + 1) W7 wr ∧
            Blk wr gO 31 #[.int .i64 p, .int .i64 q.v, .slice A1 q.f.length a1, .slice C1 q.t.length c1, .slice E1 q.v.toNat e1, .slice H1' q.f.length h1'] ∧ RepI wr W.heap.size wr.heap.size (.agg #[.int .i64 p, .int .i64 q.v, .slice A1 q.f.length a1, .slice C1 q.t.length c1, .slice E1 q.v.toNat e1, .slice H1' q.f.length h1']) (smR p q (barsX (l.take k) ++ List.replicate j (xn, yn))) ∧ smO q (barsX (l.take k) ++ List.replicate j (xn, yn)) = true) (fun i _ => N - (intOf i).toNat)
          case atStart => exact ⟨0, A1, a1, C1, c1, E1, e1, H1', h1', Nat.zero_le _, rfl, Chg.refl _ _ _, KO7.out, by have := HR7.out; simpa using this, by have := HOK.out; simpa using this⟩
          case round =>
            clear A1 a1 C1 c1 E1 e1 H1' h1' KO7 HR7 HOK HB5 HR5
            obtain ⟨j, A1, a1, C1, c1, E1, e1, H1', h1', hj, rfl, hch, hB, hR, hok⟩ := hrel
            have z3 := bcell (hch.below (B := W.heap.size) hgO2 (by omega)) hbO Z37.out
            have HOK := Lib.hid hok
            have hcs := hch.size
            clear hok
            by_cases hjl : j < N
            · have o0 := hB.cell' (i := 0) rfl
              have o1 := hB.cell' (i := 1) rfl
              have o2 := hB.cell' (i := 2) rfl
              have o3 := hB.cell' (i := 3) rfl
              have o4 := hB.cell' (i := 4) rfl
              have o5 := hB.cell' (i := 5) rfl
              have kx := KX7.out.chg hch (.inr (by omega))
              have m0 := kx.cell' (i := 0) rfl
              have m1 := kx.cell' (i := 1) rfl
              have m2 := kx.cell' (i := 2) rfl
              have m3 := kx.cell' (i := 3) rfl
              have m4 := kx.cell' (i := 4) rfl
              have m5 := kx.cell' (i := 5) rfl
              have HBr := Lib.hid hB
              have HCr := Lib.hid hch
              have HRr := Lib.hid hR.rd
              have HXr := Lib.hid (HI7.out.chg hch (.inr (by omega))).rd
              have hir := smR_rep HP.out HQ.out (barsX (l.take k) ++ List.replicate j (xn, yn))
              rw [HOK.out] at hir
              have HIR := Lib.hid hir
              clear hir hB hR hch kx
              go_wp2_with fail
              refine (specDirectSum_any _ _ p q (smS q (barsX (l.take k) ++ List.replicate j (xn, yn))).1 (ivN xn yn) (smS q (barsX (l.take k) ++ List.replicate j (xn, yn))).2 (fun _ _ _ => 1) _ HRr.out HXr.out HIR.out (ivR_rep HP.out HQ.out (xn, yn))).mono ?_; rintro e w6 ⟨v6, rfl, ho, hb6⟩
              rw [sum_smP HP.out HQ.out, ← rep_snoc] at ho ⊢
              clear o0 o1 o2 o3 o4 o5 m0 m1 m2 m3 m4 m5 z3
              have hb6s := hb6.size
              have GW6 := Lib.hid ((GW7.out.trans (HCr.out.below hgO2 (by omega))).trans (hb6.mono (by omega)))
              rcases hk1 : smO q (barsX (l.take k) ++ List.replicate (j + 1) (xn, yn)) with _ | _
              · have hsm : smP p q (barsX (l.take k) ++ List.replicate (j + 1) (xn, yn)) = (rp0, false) := by simp [smP, hk1]
                rw [hsm] at ho ⊢
                have HE2 := Lib.hid (HE.out.trans (smP_at (p := p) HX.out (by simpa using hjl) (by rw [HXN.out, HYN.out]; exact hk1)))
                obtain ⟨A8, a8, C8, c8, E8, e8, H8, h8, e6⟩ := rp0I_six ho
                subst e6
                obtain ⟨W8, hW8⟩ : ∃ W8, w6.alloc (.cells #[.int .i64 0, .int .i64 0, .slice A8 0 a8, .slice C8 0 c8, .slice E8 0 e8, .slice H8 0 h8] 31) = W8 := ⟨_, rfl⟩
                have ga : Below w6.heap.size w6 W8 := by rw [← hW8]; exact below_alloc _ _
                have GW8 := Lib.hid (GW6.out.trans (ga.mono GW6.out.size))
                have HE := HE2
                clear hk1 hsm ho ga hb6
                have kz := k2.call GW8.out
                have fr := kz.frozen
                have s0 := kz.cell' (i := 0) rfl
                have s1 := kz.cell' (i := 1) rfl
                have s2 := kz.cell' (i := 2) rfl
                have s3 := kz.cell' (i := 3) rfl
                have s4 := kz.cell' (i := 4) rfl
                have s5 := kz.cell' (i := 5) rfl
                have gf := g0.trans (GW8.out.mono g0.size)
                have GF := Lib.hid gf
                clear kz gf
                go_wp2
                have gf := GF.out
                have hE := HE.out
                have gfs := gf.size
                exact bodyPost_ret (v := .tuple #[.agg #[.int .i64 0, .int .i64 0, .slice none 0 0, .slice none 0 0, .slice none 0 0, .slice none 0 0], .bool false]) (by simp [results, go_sem, s0, s1, s2, s3, s4, s5]) rfl ⟨_, by rw [hE], by rw [hE]; exact RepI.zero _ (by simp; exact gfs), (((((gf.setCell (by simp) _).setCell (by simp) _).setCell (by simp) _).setCell (by simp) _).setCell (by simp) _).setCell (by simp) _⟩
              · have hsm : smP p q (barsX (l.take k) ++ List.replicate (j + 1) (xn, yn)) = (smR p q (barsX (l.take k) ++ List.replicate (j + 1) (xn, yn)), true) := by simp [smP, hk1]
                rw [hsm] at ho ⊢
                have HK1 := Lib.hid hk1
                clear hk1 hsm
                obtain ⟨A3, a3, C3, c3, E3, e3, H3, h3, e6⟩ := smI_six ho
                subst e6
                obtain ⟨W8, hW8⟩ : ∃ W8, w6.alloc (.cells #[.int .i64 p, .int .i64 q.v, .slice A3 q.f.length a3, .slice C3 q.t.length c3, .slice E3 q.v.toNat e3, .slice H3 q.f.length h3] 31) = W8 := ⟨_, rfl⟩
                have ga : Below w6.heap.size w6 W8 := by rw [← hW8]; exact below_alloc _ _
                have kY : Blk W8 w6.heap.size 31 #[.int .i64 p, .int .i64 q.v, .slice A3 q.f.length a3, .slice C3 q.t.length c3, .slice E3 q.v.toNat e3, .slice H3 q.f.length h3] := by rw [← hW8]; exact Blk.new _ _ _
                have hbr8 := hb6.trans (ga.mono hb6s)
                have kO8 := HBr.out.call hbr8
                have fr := kO8.frozen
                have o0 := kO8.cell' (i := 0) rfl
                have o1 := kO8.cell' (i := 1) rfl
                have o2 := kO8.cell' (i := 2) rfl
                have o3 := kO8.cell' (i := 3) rfl
                have o4 := kO8.cell' (i := 4) rfl
                have o5 := kO8.cell' (i := 5) rfl
                have m0 := kY.cell' (i := 0) rfl
                have m1 := kY.cell' (i := 1) rfl
                have m2 := kY.cell' (i := 2) rfl
                have m3 := kY.cell' (i := 3) rfl
                have m4 := kY.cell' (i := 4) rfl
                have m5 := kY.cell' (i := 5) rfl
                have s8 := ga.size
                have gOr := HBr.out.lt
                obtain ⟨W9, hW9⟩ : ∃ W9, (((((W8.setCell ⟨gO, 0, none⟩ (.int .i64 p)).setCell ⟨gO, 1, none⟩ (.int .i64 q.v)).setCell ⟨gO, 2, none⟩ (.slice A3 q.f.length a3)).setCell ⟨gO, 3, none⟩ (.slice C3 q.t.length c3)).setCell ⟨gO, 4, none⟩ (.slice E3 q.v.toNat e3)).setCell ⟨gO, 5, none⟩ (.slice H3 q.f.length h3) = W9 := ⟨_, rfl⟩
                have hB9 : Blk W9 gO 31 #[.int .i64 p, .int .i64 q.v, .slice A3 q.f.length a3, .slice C3 q.t.length c3, .slice E3 q.v.toNat e3, .slice H3 q.f.length h3] := by
                  rw [← hW9]
                  exact (((((kO8.set_ 0 _).set_ 1 _).set_ 2 _).set_ 3 _).set_ 4 _).set_ 5 _
                have hCh : Chg gO (gO + 1) W8 W9 := by
                  rw [← hW9]
                  exact chg6 _ _ _ _ _ _ _ _
                have hs9 : W9.heap.size = W8.heap.size := by rw [← hW9]; simp
                have HR9 := Lib.hid (show RepI W9 W.heap.size W9.heap.size (.agg #[.int .i64 p, .int .i64 q.v, .slice A3 q.f.length a3, .slice C3 q.t.length c3, .slice E3 q.v.toNat e3, .slice H3 q.f.length h3]) (smR p q (barsX (l.take k) ++ List.replicate (j + 1) (xn, yn))) from (((ho.below ga).chg hCh (.inr (by omega))).wider (by omega) (by omega)))
                have HC9 := Lib.hid ((HCr.out.trans (Chg.of_below hbr8)).trans hCh)
                have HB9 := Lib.hid hB9
                clear ho ga hbr8 kO8 kY hB9 hCh hb6
                go_wp2
                clear hW8 hW9 o0 o1 o2 o3 o4 o5 m0 m1 m2 m3 m4 m5 fr
                go_roundw
                case rel => exact ⟨j + 1, A3, a3, C3, c3, E3, e3, H3, h3, by omega, by go_num, HC9.out, HB9.out, HR9.out, HK1.out⟩
                case measure => simp [intOf]; omega
            · obtain rfl : j = N := by omega
              have hbx : barsX (l.take (k + 1)) = barsX (l.take k) ++ List.replicate j (xn, yn) := by
                rw [take_snoc HX.out, barsX_snoc, ← HXN.out, ← HYN.out]
                simp
              rw [← hbx] at hR HOK
              have HBr := Lib.hid hB
              have HRr := Lib.hid hR
              have GWr := Lib.hid (GW7.out.trans (hch.below hgO2 (by omega)))
              have sgr := hB.lt
              clear hB hR hch hbx
              go_wp2
              have hlt := HLT.out
              go_roundw
              case rel => exact ⟨k + 1, A1, a1, C1, c1, E1, e1, H1', h1', by omega, by go_num, GWr.out, sgr, HBr.out, HRr.out, HOK.out⟩
              case measure => simp [intOf]; omega
      · obtain rfl : k = n := by omega
        rw [List.take_of_length_le (by have := HN.out; omega)] at hR HOK
        have HE2 := Lib.hid (show rbP p q l = (smR p q (barsX l), true) from HE.out.trans (by simp [smP, HOK.out]))
        have kz := k2.call gW
        have fr := kz.frozen
        have s0 := kz.cell' (i := 0) rfl
        have s1 := kz.cell' (i := 1) rfl
        have s2 := kz.cell' (i := 2) rfl
        have s3 := kz.cell' (i := 3) rfl
        have s4 := kz.cell' (i := 4) rfl
        have s5 := kz.cell' (i := 5) rfl
        have r0 := hB.cell' (i := 0) rfl
        have r1 := hB.cell' (i := 1) rfl
        have r2 := hB.cell' (i := 2) rfl
        have r3 := hB.cell' (i := 3) rfl
        have r4 := hB.cell' (i := 4) rfl
        have r5 := hB.cell' (i := 5) rfl
        have sz := SZ.out
        have gf := g0.trans (gW.mono g0.size)
        have hc := chg6 wr (w0.heap.size + 1) (.int .i64 p) (.int .i64 q.v) (.slice A1 q.f.length a1) (.slice C1 q.t.length c1) (.slice E1 q.v.toNat e1) (.slice H1' q.f.length h1')
        have OF := Lib.hid ((hR.chg hc (.inr (by omega))).wider (lo' := w0.heap.size) (hi' := wr.heap.size) (by omega) (Nat.le_refl _))
        have GF := Lib.hid (gf.trans (hc.below (by omega) gf.size))
        clear hR hB kz gf hc
        go_wp2
        have hE := HE2.out
        exact bodyPost_ret (v := .tuple #[.agg #[.int .i64 p, .int .i64 q.v, .slice A1 q.f.length a1, .slice C1 q.t.length c1, .slice E1 q.v.toNat e1, .slice H1' q.f.length h1'], .bool true]) (by simp [results, go_sem, s0, s1, s2, s3, s4, s5]) rfl ⟨_, by rw [hE], by rw [hE]; have := OF.out.wider (Nat.le_refl _) (Nat.le_refl _); simpa using this, GF.out⟩
theorem specRepOfBars_any (p : Int) (u : Value) (q : Qv) (v : Value) (l : List Bar) (w0 : World) (_ : I64 p) (hu : QvR w0 w0.heap.size u q) (hv : SlB w0 w0.heap.size v l) :
    Calls Try.prog 9 #[.int .i64 p, u, v] w0 fun e w' => ∃ r, e = .returned (.tuple #[r, .bool (rbP p q l).2]) ∧ RpR w' w'.heap.size r (rbP p q l).1 ∧ Below w0.heap.size w0 w' := by
  rcases h : isFld p && areB q l with _ | _
  · exact (specRepOfBarsN p u q v l w0 hu hv h).mono fun e w' ⟨r, h1, h2, h3⟩ => ⟨r, h1, h2.rd, h3⟩
  · have h := Bool.and_eq_true _ _ ▸ h
    exact (specRepOfBarsY p u q v l w0 hu hv h.1 h.2).mono fun e w' ⟨r, h1, h2, h3⟩ => ⟨r, h1, h2.rd, h3⟩
end Go.Proofs.Ytcmlflppndfdcaa

/- Sizes of sums of intervals. -/
namespace Go.Proofs.Ytcmlflppndfdcaa
set_option linter.unusedVariables false
set_option linter.unusedSimpArgs false
open Go.RowKit

theorem rzP_size (p : Int) (q : Qv) (l : List Bar) : (rzP p q l).1.size ≤ 1000 := by
  unfold rzP
  split
  · rename_i h
    simp only [Bool.and_eq_true] at h
    obtain ⟨h1, h2, _⟩ := rz_t h.1
    exact isRep_size ((smR_rep h1 (isZ_t h2).1 _).trans h.2)
  · decide
theorem rbP_size (p : Int) (q : Qv) (l : List Bar) : (rbP p q l).1.size ≤ 1000 := by
  unfold rbP
  split
  · exact rzP_size p q l
  · decide
end Go.Proofs.Ytcmlflppndfdcaa

/- The walk of FnExactRepOfZigzag, printed by program (wip/law.py) out of the contracts of what it calls. -/
namespace Go.Proofs.Ytcmlflppndfdcaa
set_option linter.unusedVariables false
set_option linter.unusedSimpArgs false
open Go.RowKit

set_option maxHeartbeats 1600000 in
set_option maxRecDepth 100000 in
theorem lawRepOfZigzag_any (p : Int) (uq : Value) (q : Qv) (ul : Value) (l : List Bar) (w : World) (rng_p : I64 p) (hq : QvR w w.heap.size uq q) (hl : SlB w w.heap.size ul l) :
    Calls Try.prog 4 #[.int .i64 p, uq, ul] w fun e w' => e = .returned (.bool true) ∧ Below w.heap.size w w' := by
  obtain ⟨Auq, cuq, Cuq, duq, eq⟩ := QvR.form hq
  subst eq
  have lq := QvR.lens hq
  obtain ⟨Al, cl, rfl, _, _, ll, _⟩ := hl.open_
  have zr := rzP_size p q l
  have g0 := Below.refl w.heap.size w
  by_cases z0 : (1048576 : Int) < (q.size : Nat)
  · have y0 : szLeft (1048576 : Int) (q.size) = -1 := by rw [szLeft, if_pos z0]
    go_enter Try.func4, Try.ntmps4
    go_wp2_with fail
    obtain ⟨W2, e3⟩ : ∃ W, W = w.alloc (.cells #[.int .i64 (q).v, .slice Auq (q).f.length cuq, .slice Cuq (q).t.length duq] 24) := ⟨_, rfl⟩
    rw [← e3]
    have b4 : Below w.heap.size w W2 := by rw [e3]; exact below_alloc _ _
    have k5 : Blk W2 w.heap.size 24 #[.int .i64 (q).v, .slice Auq (q).f.length cuq, .slice Cuq (q).t.length duq] := by rw [e3]; exact Blk.new _ _ _
    have s6 : w.heap.size < W2.heap.size := by rw [e3]; simp
    clear e3
    have h7 := QvR.below (b4.mono (by omega)) hq
    have h8 := SlB.below (b4.mono (by omega)) hl
    have s9 : w.heap.size ≤ W2.heap.size := b4.size
    have g10 := bthen g0 b4
    clear hq hl g0 b4
    have c11 := k5.cell' (i := 0) rfl
    have c12 := k5.cell' (i := 1) rfl
    have c13 := k5.cell' (i := 2) rfl
    refine (szQuiver_any _ _ (1048576 : Int) _ (QvR.more (by omega) h7) (by omega) (by omega)).mono ?_; rintro e W14 ⟨rfl, b1⟩
    have h15 := QvR.below (b1.mono (by omega)) h7
    have h16 := SlB.below (b1.mono (by omega)) h8
    have k17 := k5.call b1
    have s18 : W2.heap.size ≤ W14.heap.size := b1.size
    have g19 := bthen g10 b1
    clear h7 h8 k5 g10 b1 c11 c12 c13
    have c20 := k17.cell' (i := 0) rfl
    have c21 := k17.cell' (i := 1) rfl
    have c22 := k17.cell' (i := 2) rfl
    go_wp2
    go_ret
    exact ⟨rfl, g19⟩
  have y0 : szLeft (1048576 : Int) (q.size) = (1048576 : Int) - (q.size : Nat) := by rw [szLeft, if_neg z0]
  have x0 : ¬ ((1048576 : Int) - ((q.size : Nat) : Int) < 0) := by omega
  by_cases z1 : ((1048576 : Int) - (q.size : Nat)) < (l.length : Nat)
  · have y1 : szLeft ((1048576 : Int) - (q.size : Nat)) (l.length) = -1 := by rw [szLeft, if_pos z1]
    go_enter Try.func4, Try.ntmps4
    go_wp2_with fail
    obtain ⟨W24, e25⟩ : ∃ W, W = w.alloc (.cells #[.int .i64 (q).v, .slice Auq (q).f.length cuq, .slice Cuq (q).t.length duq] 24) := ⟨_, rfl⟩
    rw [← e25]
    have b26 : Below w.heap.size w W24 := by rw [e25]; exact below_alloc _ _
    have k27 : Blk W24 w.heap.size 24 #[.int .i64 (q).v, .slice Auq (q).f.length cuq, .slice Cuq (q).t.length duq] := by rw [e25]; exact Blk.new _ _ _
    have s28 : w.heap.size < W24.heap.size := by rw [e25]; simp
    clear e25
    have h29 := QvR.below (b26.mono (by omega)) hq
    have h30 := SlB.below (b26.mono (by omega)) hl
    have s31 : w.heap.size ≤ W24.heap.size := b26.size
    have g32 := bthen g0 b26
    clear hq hl g0 b26
    have c33 := k27.cell' (i := 0) rfl
    have c34 := k27.cell' (i := 1) rfl
    have c35 := k27.cell' (i := 2) rfl
    refine (szQuiver_any _ _ (1048576 : Int) _ (QvR.more (by omega) h29) (by omega) (by omega)).mono ?_; rintro e W36 ⟨rfl, b23⟩
    have h37 := QvR.below (b23.mono (by omega)) h29
    have h38 := SlB.below (b23.mono (by omega)) h30
    have k39 := k27.call b23
    have s40 : W24.heap.size ≤ W36.heap.size := b23.size
    have g41 := bthen g32 b23
    clear h29 h30 k27 g32 b23 c33 c34 c35
    have c42 := k39.cell' (i := 0) rfl
    have c43 := k39.cell' (i := 1) rfl
    have c44 := k39.cell' (i := 2) rfl
    go_wp2_with fail
    refine (szBarS_any _ _ _ ((1048576 : Int) - (q.size : Nat)) _ (by omega) (by omega) (by omega)).mono ?_; rintro e W' ⟨rfl, hww⟩; replace hww := hww.symm; subst hww
    go_wp2
    go_ret
    exact ⟨rfl, g41⟩
  have y1 : szLeft ((1048576 : Int) - (q.size : Nat)) (l.length) = ((1048576 : Int) - (q.size : Nat)) - (l.length : Nat) := by rw [szLeft, if_neg z1]
  have x1 : ¬ (((1048576 : Int) - (q.size : Nat)) - ((l.length : Nat) : Int) < 0) := by omega
  go_enter Try.func4, Try.ntmps4
  go_wp2_with fail
  obtain ⟨W47, e48⟩ : ∃ W, W = w.alloc (.cells #[.int .i64 (q).v, .slice Auq (q).f.length cuq, .slice Cuq (q).t.length duq] 24) := ⟨_, rfl⟩
  rw [← e48]
  have b49 : Below w.heap.size w W47 := by rw [e48]; exact below_alloc _ _
  have k50 : Blk W47 w.heap.size 24 #[.int .i64 (q).v, .slice Auq (q).f.length cuq, .slice Cuq (q).t.length duq] := by rw [e48]; exact Blk.new _ _ _
  have s51 : w.heap.size < W47.heap.size := by rw [e48]; simp
  clear e48
  have h52 := QvR.below (b49.mono (by omega)) hq
  have h53 := SlB.below (b49.mono (by omega)) hl
  have s54 : w.heap.size ≤ W47.heap.size := b49.size
  have g55 := bthen g0 b49
  clear hq hl g0 b49
  have c56 := k50.cell' (i := 0) rfl
  have c57 := k50.cell' (i := 1) rfl
  have c58 := k50.cell' (i := 2) rfl
  refine (szQuiver_any _ _ (1048576 : Int) _ (QvR.more (by omega) h52) (by omega) (by omega)).mono ?_; rintro e W59 ⟨rfl, b46⟩
  have h60 := QvR.below (b46.mono (by omega)) h52
  have h61 := SlB.below (b46.mono (by omega)) h53
  have k62 := k50.call b46
  have s63 : W47.heap.size ≤ W59.heap.size := b46.size
  have g64 := bthen g55 b46
  clear h52 h53 k50 g55 b46 c56 c57 c58
  have c65 := k62.cell' (i := 0) rfl
  have c66 := k62.cell' (i := 1) rfl
  have c67 := k62.cell' (i := 2) rfl
  go_wp2_with fail
  refine (szBarS_any _ _ _ ((1048576 : Int) - (q.size : Nat)) _ (by omega) (by omega) (by omega)).mono ?_; rintro e W' ⟨rfl, hww⟩; replace hww := hww.symm; subst hww
  go_wp2_with fail
  refine (quiv_to _ _ _ (QvR.more (by omega) h60) (by omega)).mono ?_; rintro e W72 ⟨v69, rfl, h70, b71⟩
  have h73 := QvR.below (b71.mono (by omega)) h60
  have h74 := SlB.below (b71.mono (by omega)) h61
  have k75 := k62.call b71
  have s76 : W59.heap.size ≤ W72.heap.size := b71.size
  have g77 := bthen g64 b71
  clear h60 h61 k62 g64 b71 c65 c66 c67
  have c78 := k75.cell' (i := 0) rfl
  have c79 := k75.cell' (i := 1) rfl
  have c80 := k75.cell' (i := 2) rfl
  go_wp2_with fail
  refine (bars_to _ _ _ (SlB.more (by omega) h74) (by omega)).mono ?_; rintro e W84 ⟨v81, rfl, h82, b83⟩
  have h85 := QvR.below (b83.mono (by omega)) h73
  have h86 := SlB.below (b83.mono (by omega)) h74
  have h87 := h70.below b83
  have k88 := k75.call b83
  have s89 : W72.heap.size ≤ W84.heap.size := b83.size
  have g90 := bthen g77 b83
  clear h73 h74 h70 k75 g77 b83 c78 c79 c80
  have c91 := k88.cell' (i := 0) rfl
  have c92 := k88.cell' (i := 1) rfl
  have c93 := k88.cell' (i := 2) rfl
  go_wp2_with fail
  refine (specRepOfZigzag_any _ _ _ _ _ _ rng_p h87.rd h82.rd).mono ?_; rintro e W97 ⟨r94, rfl, h95, b96⟩
  have h98 := QvR.below (b96.mono (by omega)) h85
  have h99 := SlB.below (b96.mono (by omega)) h86
  have h100 := h87.below b96
  have h101 := h82.below b96
  have k102 := k88.call b96
  have s103 : W84.heap.size ≤ W97.heap.size := b96.size
  have g104 := bthen g90 b96
  clear h85 h86 h87 h82 k88 g90 b96 c91 c92 c93
  have c105 := k102.cell' (i := 0) rfl
  have c106 := k102.cell' (i := 1) rfl
  have c107 := k102.cell' (i := 2) rfl
  clear h100
  clear h101
  obtain ⟨Ax108, ax108, Cx108, cx108, Ex108, ex108, Hx108, hx108, e109⟩ := RpR.form h95
  subst e109
  have c113 := fun o => (k102.alloc o).cell' (i := 0) rfl
  have c114 := fun o => (k102.alloc o).cell' (i := 1) rfl
  have c115 := fun o => (k102.alloc o).cell' (i := 2) rfl
  go_wp2_with fail
  obtain ⟨W116, e117⟩ : ∃ W, W = W97.alloc (.cells #[.int .i64 ((rzP p q l).1).p, .int .i64 ((rzP p q l).1).q.v, .slice Ax108 ((rzP p q l).1).q.f.length ax108, .slice Cx108 ((rzP p q l).1).q.t.length cx108, .slice Ex108 ((rzP p q l).1).d.length ex108, .slice Hx108 ((rzP p q l).1).m.length hx108] 31) := ⟨_, rfl⟩
  rw [← e117]
  have b118 : Below W97.heap.size W97 W116 := by rw [e117]; exact below_alloc _ _
  have k119 : Blk W116 W97.heap.size 31 #[.int .i64 ((rzP p q l).1).p, .int .i64 ((rzP p q l).1).q.v, .slice Ax108 ((rzP p q l).1).q.f.length ax108, .slice Cx108 ((rzP p q l).1).q.t.length cx108, .slice Ex108 ((rzP p q l).1).d.length ex108, .slice Hx108 ((rzP p q l).1).m.length hx108] := by rw [e117]; exact Blk.new _ _ _
  have s120 : W97.heap.size < W116.heap.size := by rw [e117]; simp
  clear e117
  have h121 := QvR.below (b118.mono (by omega)) h98
  have h122 := SlB.below (b118.mono (by omega)) h99
  have h123 := RpR.below (b118.mono (by omega)) h95
  have k124 := k102.call b118
  have s125 : W97.heap.size ≤ W116.heap.size := b118.size
  have g126 := bthen g104 b118
  clear h98 h99 h95 k102 g104 b118 c105 c106 c107 c113 c114 c115
  have c127 := k124.cell' (i := 0) rfl
  have c128 := k124.cell' (i := 1) rfl
  have c129 := k124.cell' (i := 2) rfl
  have c130 := k119.cell' (i := 0) rfl
  have c131 := k119.cell' (i := 1) rfl
  have c132 := k119.cell' (i := 2) rfl
  have c133 := k119.cell' (i := 3) rfl
  have c134 := k119.cell' (i := 4) rfl
  have c135 := k119.cell' (i := 5) rfl
  refine (quiv_to _ _ _ (QvR.more (by omega) h121) (by omega)).mono ?_; rintro e W136 ⟨v110, rfl, h111, b112⟩
  have h137 := QvR.below (b112.mono (by omega)) h121
  have h138 := SlB.below (b112.mono (by omega)) h122
  have h139 := RpR.below (b112.mono (by omega)) h123
  have k140 := k124.call b112
  have k141 := k119.call b112
  have s142 : W116.heap.size ≤ W136.heap.size := b112.size
  have g143 := bthen g126 b112
  clear h121 h122 h123 k124 k119 g126 b112 c127 c128 c129 c130 c131 c132 c133 c134 c135
  have c144 := k140.cell' (i := 0) rfl
  have c145 := k140.cell' (i := 1) rfl
  have c146 := k140.cell' (i := 2) rfl
  have c147 := k141.cell' (i := 0) rfl
  have c148 := k141.cell' (i := 1) rfl
  have c149 := k141.cell' (i := 2) rfl
  have c150 := k141.cell' (i := 3) rfl
  have c151 := k141.cell' (i := 4) rfl
  have c152 := k141.cell' (i := 5) rfl
  obtain ⟨Ax153, cx153, Cx153, dx153, e154⟩ := h111.form
  subst e154
  have c158 := fun o => (k140.alloc o).cell' (i := 0) rfl
  have c159 := fun o => (k140.alloc o).cell' (i := 1) rfl
  have c160 := fun o => (k140.alloc o).cell' (i := 2) rfl
  have c161 := fun o => (k141.alloc o).cell' (i := 0) rfl
  have c162 := fun o => (k141.alloc o).cell' (i := 1) rfl
  have c163 := fun o => (k141.alloc o).cell' (i := 2) rfl
  have c164 := fun o => (k141.alloc o).cell' (i := 3) rfl
  have c165 := fun o => (k141.alloc o).cell' (i := 4) rfl
  have c166 := fun o => (k141.alloc o).cell' (i := 5) rfl
  go_wp2_with fail
  obtain ⟨W167, e168⟩ : ∃ W, W = W136.alloc (.cells #[.int .i64 (q).v, .slice Ax153 (q).f.length cx153, .slice Cx153 (q).t.length dx153] 28) := ⟨_, rfl⟩
  rw [← e168]
  have b169 : Below W136.heap.size W136 W167 := by rw [e168]; exact below_alloc _ _
  have k170 : Blk W167 W136.heap.size 28 #[.int .i64 (q).v, .slice Ax153 (q).f.length cx153, .slice Cx153 (q).t.length dx153] := by rw [e168]; exact Blk.new _ _ _
  have s171 : W136.heap.size < W167.heap.size := by rw [e168]; simp
  clear e168
  have h172 := QvR.below (b169.mono (by omega)) h137
  have h173 := SlB.below (b169.mono (by omega)) h138
  have h174 := RpR.below (b169.mono (by omega)) h139
  have h175 := h111.below b169
  have k176 := k140.call b169
  have k177 := k141.call b169
  have s178 : W136.heap.size ≤ W167.heap.size := b169.size
  have g179 := bthen g143 b169
  clear h137 h138 h139 h111 k140 k141 g143 b169 c144 c145 c146 c147 c148 c149 c150 c151 c152 c158 c159 c160 c161 c162 c163 c164 c165 c166
  have c180 := k176.cell' (i := 0) rfl
  have c181 := k176.cell' (i := 1) rfl
  have c182 := k176.cell' (i := 2) rfl
  have c183 := k177.cell' (i := 0) rfl
  have c184 := k177.cell' (i := 1) rfl
  have c185 := k177.cell' (i := 2) rfl
  have c186 := k177.cell' (i := 3) rfl
  have c187 := k177.cell' (i := 4) rfl
  have c188 := k177.cell' (i := 5) rfl
  have c189 := k170.cell' (i := 0) rfl
  have c190 := k170.cell' (i := 1) rfl
  have c191 := k170.cell' (i := 2) rfl
  refine (bars_to _ _ _ (SlB.more (by omega) h173) (by omega)).mono ?_; rintro e W192 ⟨v155, rfl, h156, b157⟩
  have h193 := QvR.below (b157.mono (by omega)) h172
  have h194 := SlB.below (b157.mono (by omega)) h173
  have h195 := RpR.below (b157.mono (by omega)) h174
  have h196 := h175.below b157
  have k197 := k176.call b157
  have k198 := k177.call b157
  have k199 := k170.call b157
  have s200 : W167.heap.size ≤ W192.heap.size := b157.size
  have g201 := bthen g179 b157
  clear h172 h173 h174 h175 k176 k177 k170 g179 b157 c180 c181 c182 c183 c184 c185 c186 c187 c188 c189 c190 c191
  have c202 := k197.cell' (i := 0) rfl
  have c203 := k197.cell' (i := 1) rfl
  have c204 := k197.cell' (i := 2) rfl
  have c205 := k198.cell' (i := 0) rfl
  have c206 := k198.cell' (i := 1) rfl
  have c207 := k198.cell' (i := 2) rfl
  have c208 := k198.cell' (i := 3) rfl
  have c209 := k198.cell' (i := 4) rfl
  have c210 := k198.cell' (i := 5) rfl
  have c211 := k199.cell' (i := 0) rfl
  have c212 := k199.cell' (i := 1) rfl
  have c213 := k199.cell' (i := 2) rfl
  go_wp2_with fail
  refine (implRepOfZigzag_any _ _ _ _ _ _ rng_p h196.rd h156.rd).mono ?_; rintro e W217 ⟨r214, rfl, h215, b216⟩
  have h218 := QvR.below (b216.mono (by omega)) h193
  have h219 := SlB.below (b216.mono (by omega)) h194
  have h220 := RpR.below (b216.mono (by omega)) h195
  have h221 := h196.below b216
  have h222 := h156.below b216
  have k223 := k197.call b216
  have k224 := k198.call b216
  have k225 := k199.call b216
  have s226 : W192.heap.size ≤ W217.heap.size := b216.size
  have g227 := bthen g201 b216
  clear h193 h194 h195 h196 h156 k197 k198 k199 g201 b216 c202 c203 c204 c205 c206 c207 c208 c209 c210 c211 c212 c213
  have c228 := k223.cell' (i := 0) rfl
  have c229 := k223.cell' (i := 1) rfl
  have c230 := k223.cell' (i := 2) rfl
  have c231 := k224.cell' (i := 0) rfl
  have c232 := k224.cell' (i := 1) rfl
  have c233 := k224.cell' (i := 2) rfl
  have c234 := k224.cell' (i := 3) rfl
  have c235 := k224.cell' (i := 4) rfl
  have c236 := k224.cell' (i := 5) rfl
  have c237 := k225.cell' (i := 0) rfl
  have c238 := k225.cell' (i := 1) rfl
  have c239 := k225.cell' (i := 2) rfl
  obtain ⟨Ax240, ax240, Cx240, cx240, Ex240, ex240, Hx240, hx240, e241⟩ := h215.form
  subst e241
  have c243 := fun o => (k223.alloc o).cell' (i := 0) rfl
  have c244 := fun o => (k223.alloc o).cell' (i := 1) rfl
  have c245 := fun o => (k223.alloc o).cell' (i := 2) rfl
  have c246 := fun o => (k224.alloc o).cell' (i := 0) rfl
  have c247 := fun o => (k224.alloc o).cell' (i := 1) rfl
  have c248 := fun o => (k224.alloc o).cell' (i := 2) rfl
  have c249 := fun o => (k224.alloc o).cell' (i := 3) rfl
  have c250 := fun o => (k224.alloc o).cell' (i := 4) rfl
  have c251 := fun o => (k224.alloc o).cell' (i := 5) rfl
  have c252 := fun o => (k225.alloc o).cell' (i := 0) rfl
  have c253 := fun o => (k225.alloc o).cell' (i := 1) rfl
  have c254 := fun o => (k225.alloc o).cell' (i := 2) rfl
  go_wp2_with fail
  obtain ⟨W255, e256⟩ : ∃ W, W = W217.alloc (.cells #[.int .i64 ((rzP p q l).1).p, .int .i64 ((rzP p q l).1).q.v, .slice Ax240 ((rzP p q l).1).q.f.length ax240, .slice Cx240 ((rzP p q l).1).q.t.length cx240, .slice Ex240 ((rzP p q l).1).d.length ex240, .slice Hx240 ((rzP p q l).1).m.length hx240] 31) := ⟨_, rfl⟩
  rw [← e256]
  have b257 : Below W217.heap.size W217 W255 := by rw [e256]; exact below_alloc _ _
  have k258 : Blk W255 W217.heap.size 31 #[.int .i64 ((rzP p q l).1).p, .int .i64 ((rzP p q l).1).q.v, .slice Ax240 ((rzP p q l).1).q.f.length ax240, .slice Cx240 ((rzP p q l).1).q.t.length cx240, .slice Ex240 ((rzP p q l).1).d.length ex240, .slice Hx240 ((rzP p q l).1).m.length hx240] := by rw [e256]; exact Blk.new _ _ _
  have s259 : W217.heap.size < W255.heap.size := by rw [e256]; simp
  clear e256
  have h260 := QvR.below (b257.mono (by omega)) h218
  have h261 := SlB.below (b257.mono (by omega)) h219
  have h262 := RpR.below (b257.mono (by omega)) h220
  have h263 := h221.below b257
  have h264 := h222.below b257
  have h265 := h215.below b257
  have k266 := k223.call b257
  have k267 := k224.call b257
  have k268 := k225.call b257
  have s269 : W217.heap.size ≤ W255.heap.size := b257.size
  have g270 := bthen g227 b257
  clear h218 h219 h220 h221 h222 h215 k223 k224 k225 g227 b257 c228 c229 c230 c231 c232 c233 c234 c235 c236 c237 c238 c239 c243 c244 c245 c246 c247 c248 c249 c250 c251 c252 c253 c254
  have c271 := k266.cell' (i := 0) rfl
  have c272 := k266.cell' (i := 1) rfl
  have c273 := k266.cell' (i := 2) rfl
  have c274 := k267.cell' (i := 0) rfl
  have c275 := k267.cell' (i := 1) rfl
  have c276 := k267.cell' (i := 2) rfl
  have c277 := k267.cell' (i := 3) rfl
  have c278 := k267.cell' (i := 4) rfl
  have c279 := k267.cell' (i := 5) rfl
  have c280 := k268.cell' (i := 0) rfl
  have c281 := k268.cell' (i := 1) rfl
  have c282 := k268.cell' (i := 2) rfl
  have c283 := k258.cell' (i := 0) rfl
  have c284 := k258.cell' (i := 1) rfl
  have c285 := k258.cell' (i := 2) rfl
  have c286 := k258.cell' (i := 3) rfl
  have c287 := k258.cell' (i := 4) rfl
  have c288 := k258.cell' (i := 5) rfl
  refine (eqRep_any _ _ _ _ _ h265.rd (RpR.more (by omega) h262)).mono ?_; rintro e W289 ⟨rfl, b242⟩
  have h290 := QvR.below (b242.mono (by omega)) h260
  have h291 := SlB.below (b242.mono (by omega)) h261
  have h292 := RpR.below (b242.mono (by omega)) h262
  have h293 := h263.below b242
  have h294 := h264.below b242
  have h295 := h265.below b242
  have k296 := k266.call b242
  have k297 := k267.call b242
  have k298 := k268.call b242
  have k299 := k258.call b242
  have s300 : W255.heap.size ≤ W289.heap.size := b242.size
  have g301 := bthen g270 b242
  clear h260 h261 h262 h263 h264 h265 k266 k267 k268 k258 g270 b242 c271 c272 c273 c274 c275 c276 c277 c278 c279 c280 c281 c282 c283 c284 c285 c286 c287 c288
  have c302 := k296.cell' (i := 0) rfl
  have c303 := k296.cell' (i := 1) rfl
  have c304 := k296.cell' (i := 2) rfl
  have c305 := k297.cell' (i := 0) rfl
  have c306 := k297.cell' (i := 1) rfl
  have c307 := k297.cell' (i := 2) rfl
  have c308 := k297.cell' (i := 3) rfl
  have c309 := k297.cell' (i := 4) rfl
  have c310 := k297.cell' (i := 5) rfl
  have c311 := k298.cell' (i := 0) rfl
  have c312 := k298.cell' (i := 1) rfl
  have c313 := k298.cell' (i := 2) rfl
  have c314 := k299.cell' (i := 0) rfl
  have c315 := k299.cell' (i := 1) rfl
  have c316 := k299.cell' (i := 2) rfl
  have c317 := k299.cell' (i := 3) rfl
  have c318 := k299.cell' (i := 4) rfl
  have c319 := k299.cell' (i := 5) rfl
  go_wp2_with fail
  have b320 := drew_below W289
  have h321 := QvR.below (b320.mono (by omega)) h290
  have h322 := SlB.below (b320.mono (by omega)) h291
  have h323 := RpR.below (b320.mono (by omega)) h292
  have h324 := h293.below b320
  have h325 := h294.below b320
  have h326 := h295.below b320
  have k327 := k296.call b320
  have k328 := k297.call b320
  have k329 := k298.call b320
  have k330 := k299.call b320
  have s331 : W289.heap.size ≤ W289.drew.heap.size := b320.size
  have g332 := bthen g301 b320
  clear h290 h291 h292 h293 h294 h295 k296 k297 k298 k299 g301 b320 c302 c303 c304 c305 c306 c307 c308 c309 c310 c311 c312 c313 c314 c315 c316 c317 c318 c319
  have c333 := k327.cell' (i := 0) rfl
  have c334 := k327.cell' (i := 1) rfl
  have c335 := k327.cell' (i := 2) rfl
  have c336 := k328.cell' (i := 0) rfl
  have c337 := k328.cell' (i := 1) rfl
  have c338 := k328.cell' (i := 2) rfl
  have c339 := k328.cell' (i := 3) rfl
  have c340 := k328.cell' (i := 4) rfl
  have c341 := k328.cell' (i := 5) rfl
  have c342 := k329.cell' (i := 0) rfl
  have c343 := k329.cell' (i := 1) rfl
  have c344 := k329.cell' (i := 2) rfl
  have c345 := k330.cell' (i := 0) rfl
  have c346 := k330.cell' (i := 1) rfl
  have c347 := k330.cell' (i := 2) rfl
  have c348 := k330.cell' (i := 3) rfl
  have c349 := k330.cell' (i := 4) rfl
  have c350 := k330.cell' (i := 5) rfl
  go_region_held3 (fun W' => W'.cell? ⟨w.heap.size, 0, none⟩ = some (.int .i64 (q).v) ∧ W'.cell? ⟨w.heap.size, 1, none⟩ = some (.slice Auq (q).f.length cuq) ∧ W'.cell? ⟨w.heap.size, 2, none⟩ = some (.slice Cuq (q).t.length duq) ∧ W'.cell? ⟨W97.heap.size, 0, none⟩ = some (.int .i64 ((rzP p q l).1).p) ∧ W'.cell? ⟨W97.heap.size, 1, none⟩ = some (.int .i64 ((rzP p q l).1).q.v) ∧ W'.cell? ⟨W97.heap.size, 2, none⟩ = some (.slice Ax108 ((rzP p q l).1).q.f.length ax108) ∧ W'.cell? ⟨W97.heap.size, 3, none⟩ = some (.slice Cx108 ((rzP p q l).1).q.t.length cx108) ∧ W'.cell? ⟨W97.heap.size, 4, none⟩ = some (.slice Ex108 ((rzP p q l).1).d.length ex108) ∧ W'.cell? ⟨W97.heap.size, 5, none⟩ = some (.slice Hx108 ((rzP p q l).1).m.length hx108) ∧ W'.cell? ⟨W136.heap.size, 0, none⟩ = some (.int .i64 (q).v) ∧ W'.cell? ⟨W136.heap.size, 1, none⟩ = some (.slice Ax153 (q).f.length cx153) ∧ W'.cell? ⟨W136.heap.size, 2, none⟩ = some (.slice Cx153 (q).t.length dx153) ∧ W'.cell? ⟨W217.heap.size, 0, none⟩ = some (.int .i64 ((rzP p q l).1).p) ∧ W'.cell? ⟨W217.heap.size, 1, none⟩ = some (.int .i64 ((rzP p q l).1).q.v) ∧ W'.cell? ⟨W217.heap.size, 2, none⟩ = some (.slice Ax240 ((rzP p q l).1).q.f.length ax240) ∧ W'.cell? ⟨W217.heap.size, 3, none⟩ = some (.slice Cx240 ((rzP p q l).1).q.t.length cx240) ∧ W'.cell? ⟨W217.heap.size, 4, none⟩ = some (.slice Ex240 ((rzP p q l).1).d.length ex240) ∧ W'.cell? ⟨W217.heap.size, 5, none⟩ = some (.slice Hx240 ((rzP p q l).1).m.length hx240))
    (first | exact ⟨c333, c334, c335, c336, c337, c338, c339, c340, c341, c342, c343, c344, c345, c346, c347, c348, c349, c350⟩ | exact ⟨c367, c368, c369, c370, c371, c372, c373, c374, c375, c376, c377, c378, c379, c380, c381, c382, c383, c384⟩ | exact ⟨c400, c401, c402, c403, c404, c405, c406, c407, c408, c409, c410, c411, c412, c413, c414, c415, c416, c417⟩)
    (first | (go_at_call 10; refine (quiv_to _ _ _ (QvR.more (by omega) h321) (by omega)).mono ?_; rintro e W354 ⟨v351, rfl, h352, b353⟩; have h355 := QvR.below (b353.mono (by omega)) h321; have h356 := SlB.below (b353.mono (by omega)) h322; have h357 := RpR.below (b353.mono (by omega)) h323; have h358 := h324.below b353; have h359 := h325.below b353; have h360 := h326.below b353; have k361 := k327.call b353; have k362 := k328.call b353; have k363 := k329.call b353; have k364 := k330.call b353; have s365 : W289.drew.heap.size ≤ W354.heap.size := b353.size; have g366 := bthen g332 b353; clear h321 h322 h323 h324 h325 h326 k327 k328 k329 k330 g332 b353 c333 c334 c335 c336 c337 c338 c339 c340 c341 c342 c343 c344 c345 c346 c347 c348 c349 c350; have c367 := k361.cell' (i := 0) rfl; have c368 := k361.cell' (i := 1) rfl; have c369 := k361.cell' (i := 2) rfl; have c370 := k362.cell' (i := 0) rfl; have c371 := k362.cell' (i := 1) rfl; have c372 := k362.cell' (i := 2) rfl; have c373 := k362.cell' (i := 3) rfl; have c374 := k362.cell' (i := 4) rfl; have c375 := k362.cell' (i := 5) rfl; have c376 := k363.cell' (i := 0) rfl; have c377 := k363.cell' (i := 1) rfl; have c378 := k363.cell' (i := 2) rfl; have c379 := k364.cell' (i := 0) rfl; have c380 := k364.cell' (i := 1) rfl; have c381 := k364.cell' (i := 2) rfl; have c382 := k364.cell' (i := 3) rfl; have c383 := k364.cell' (i := 4) rfl; have c384 := k364.cell' (i := 5) rfl) | (go_at_call 14; refine (eqQuiver_any _ _ _ _ _ h358.rd h352.rd).mono ?_; rintro e W386 ⟨rfl, b385⟩; have h387 := QvR.below (b385.mono (by omega)) h355; have h388 := SlB.below (b385.mono (by omega)) h356; have h389 := RpR.below (b385.mono (by omega)) h357; have h390 := h358.below b385; have h391 := h359.below b385; have h392 := h360.below b385; have h393 := h352.below b385; have k394 := k361.call b385; have k395 := k362.call b385; have k396 := k363.call b385; have k397 := k364.call b385; have s398 : W354.heap.size ≤ W386.heap.size := b385.size; have g399 := bthen g366 b385; clear h355 h356 h357 h358 h359 h360 h352 k361 k362 k363 k364 g366 b385 c367 c368 c369 c370 c371 c372 c373 c374 c375 c376 c377 c378 c379 c380 c381 c382 c383 c384; have c400 := k394.cell' (i := 0) rfl; have c401 := k394.cell' (i := 1) rfl; have c402 := k394.cell' (i := 2) rfl; have c403 := k395.cell' (i := 0) rfl; have c404 := k395.cell' (i := 1) rfl; have c405 := k395.cell' (i := 2) rfl; have c406 := k395.cell' (i := 3) rfl; have c407 := k395.cell' (i := 4) rfl; have c408 := k395.cell' (i := 5) rfl; have c409 := k396.cell' (i := 0) rfl; have c410 := k396.cell' (i := 1) rfl; have c411 := k396.cell' (i := 2) rfl; have c412 := k397.cell' (i := 0) rfl; have c413 := k397.cell' (i := 1) rfl; have c414 := k397.cell' (i := 2) rfl; have c415 := k397.cell' (i := 3) rfl; have c416 := k397.cell' (i := 4) rfl; have c417 := k397.cell' (i := 5) rfl))
  clear h393
  go_wp2_with fail
  refine (bars_to _ _ _ (SlB.more (by omega) h388) (by omega)).mono ?_; rintro e W421 ⟨v418, rfl, h419, b420⟩
  have h422 := QvR.below (b420.mono (by omega)) h387
  have h423 := SlB.below (b420.mono (by omega)) h388
  have h424 := RpR.below (b420.mono (by omega)) h389
  have h425 := h390.below b420
  have h426 := h391.below b420
  have h427 := h392.below b420
  have k428 := k394.call b420
  have k429 := k395.call b420
  have k430 := k396.call b420
  have k431 := k397.call b420
  have s432 : W386.heap.size ≤ W421.heap.size := b420.size
  have g433 := bthen g399 b420
  clear h387 h388 h389 h390 h391 h392 k394 k395 k396 k397 g399 b420 c400 c401 c402 c403 c404 c405 c406 c407 c408 c409 c410 c411 c412 c413 c414 c415 c416 c417
  have c434 := k428.cell' (i := 0) rfl
  have c435 := k428.cell' (i := 1) rfl
  have c436 := k428.cell' (i := 2) rfl
  have c437 := k429.cell' (i := 0) rfl
  have c438 := k429.cell' (i := 1) rfl
  have c439 := k429.cell' (i := 2) rfl
  have c440 := k429.cell' (i := 3) rfl
  have c441 := k429.cell' (i := 4) rfl
  have c442 := k429.cell' (i := 5) rfl
  have c443 := k430.cell' (i := 0) rfl
  have c444 := k430.cell' (i := 1) rfl
  have c445 := k430.cell' (i := 2) rfl
  have c446 := k431.cell' (i := 0) rfl
  have c447 := k431.cell' (i := 1) rfl
  have c448 := k431.cell' (i := 2) rfl
  have c449 := k431.cell' (i := 3) rfl
  have c450 := k431.cell' (i := 4) rfl
  have c451 := k431.cell' (i := 5) rfl
  go_wp2_with fail
  refine (eqBarS_any _ _ _ _ _ h426.rd h419.rd).mono ?_; rintro e W453 ⟨rfl, b452⟩
  have h454 := QvR.below (b452.mono (by omega)) h422
  have h455 := SlB.below (b452.mono (by omega)) h423
  have h456 := RpR.below (b452.mono (by omega)) h424
  have h457 := h425.below b452
  have h458 := h426.below b452
  have h459 := h427.below b452
  have h460 := h419.below b452
  have k461 := k428.call b452
  have k462 := k429.call b452
  have k463 := k430.call b452
  have k464 := k431.call b452
  have s465 : W421.heap.size ≤ W453.heap.size := b452.size
  have g466 := bthen g433 b452
  clear h422 h423 h424 h425 h426 h427 h419 k428 k429 k430 k431 g433 b452 c434 c435 c436 c437 c438 c439 c440 c441 c442 c443 c444 c445 c446 c447 c448 c449 c450 c451
  have c467 := k461.cell' (i := 0) rfl
  have c468 := k461.cell' (i := 1) rfl
  have c469 := k461.cell' (i := 2) rfl
  have c470 := k462.cell' (i := 0) rfl
  have c471 := k462.cell' (i := 1) rfl
  have c472 := k462.cell' (i := 2) rfl
  have c473 := k462.cell' (i := 3) rfl
  have c474 := k462.cell' (i := 4) rfl
  have c475 := k462.cell' (i := 5) rfl
  have c476 := k463.cell' (i := 0) rfl
  have c477 := k463.cell' (i := 1) rfl
  have c478 := k463.cell' (i := 2) rfl
  have c479 := k464.cell' (i := 0) rfl
  have c480 := k464.cell' (i := 1) rfl
  have c481 := k464.cell' (i := 2) rfl
  have c482 := k464.cell' (i := 3) rfl
  have c483 := k464.cell' (i := 4) rfl
  have c484 := k464.cell' (i := 5) rfl
  clear h460
  go_wp2_with fail
  refine (quiv_mark _ _ _ _ _ _ h457 (by omega) (by omega) (by omega)).mono ?_; rintro e W487 ⟨rfl, h485, q486⟩
  have h488 := QvR.chg h454 q486 (by omega) (by omega)
  have h489 := SlB.chg h455 q486 (by omega) (by omega)
  have h490 := RpR.chg h456 q486 (by omega) (by omega)
  have h491 := h458.chg q486 (by omega)
  have h492 := h459.chg q486 (by omega)
  have k493 := k461.chg q486 (by omega)
  have k494 := k462.chg q486 (by omega)
  have k495 := k463.chg q486 (by omega)
  have k496 := k464.chg q486 (by omega)
  have s497 : W453.heap.size ≤ W487.heap.size := q486.size
  have g498 := g466.trans (q486.below (by omega) (by omega))
  clear h454 h455 h456 h458 h459 k461 k462 k463 k464 g466 q486 c467 c468 c469 c470 c471 c472 c473 c474 c475 c476 c477 c478 c479 c480 c481 c482 c483 c484
  have c499 := k493.cell' (i := 0) rfl
  have c500 := k493.cell' (i := 1) rfl
  have c501 := k493.cell' (i := 2) rfl
  have c502 := k494.cell' (i := 0) rfl
  have c503 := k494.cell' (i := 1) rfl
  have c504 := k494.cell' (i := 2) rfl
  have c505 := k494.cell' (i := 3) rfl
  have c506 := k494.cell' (i := 4) rfl
  have c507 := k494.cell' (i := 5) rfl
  have c508 := k495.cell' (i := 0) rfl
  have c509 := k495.cell' (i := 1) rfl
  have c510 := k495.cell' (i := 2) rfl
  have c511 := k496.cell' (i := 0) rfl
  have c512 := k496.cell' (i := 1) rfl
  have c513 := k496.cell' (i := 2) rfl
  have c514 := k496.cell' (i := 3) rfl
  have c515 := k496.cell' (i := 4) rfl
  have c516 := k496.cell' (i := 5) rfl
  clear h457
  go_wp2_with fail
  refine (bars_mark _ _ _ _ _ _ h491 (by omega) (by omega) (by omega)).mono ?_; rintro e W519 ⟨rfl, h517, q518⟩
  have h520 := QvR.chg h488 q518 (by omega) (by omega)
  have h521 := SlB.chg h489 q518 (by omega) (by omega)
  have h522 := RpR.chg h490 q518 (by omega) (by omega)
  have h523 := h485.chg q518 (by omega)
  have h524 := h492.chg q518 (by omega)
  have k525 := k493.chg q518 (by omega)
  have k526 := k494.chg q518 (by omega)
  have k527 := k495.chg q518 (by omega)
  have k528 := k496.chg q518 (by omega)
  have s529 : W487.heap.size ≤ W519.heap.size := q518.size
  have g530 := g498.trans (q518.below (by omega) (by omega))
  clear h488 h489 h490 h485 h492 k493 k494 k495 k496 g498 q518 c499 c500 c501 c502 c503 c504 c505 c506 c507 c508 c509 c510 c511 c512 c513 c514 c515 c516
  have c531 := k525.cell' (i := 0) rfl
  have c532 := k525.cell' (i := 1) rfl
  have c533 := k525.cell' (i := 2) rfl
  have c534 := k526.cell' (i := 0) rfl
  have c535 := k526.cell' (i := 1) rfl
  have c536 := k526.cell' (i := 2) rfl
  have c537 := k526.cell' (i := 3) rfl
  have c538 := k526.cell' (i := 4) rfl
  have c539 := k526.cell' (i := 5) rfl
  have c540 := k527.cell' (i := 0) rfl
  have c541 := k527.cell' (i := 1) rfl
  have c542 := k527.cell' (i := 2) rfl
  have c543 := k528.cell' (i := 0) rfl
  have c544 := k528.cell' (i := 1) rfl
  have c545 := k528.cell' (i := 2) rfl
  have c546 := k528.cell' (i := 3) rfl
  have c547 := k528.cell' (i := 4) rfl
  have c548 := k528.cell' (i := 5) rfl
  clear h491
  go_wp2_with fail
  refine (eqRep_any _ _ _ _ _ h524.rd (RpR.more (by omega) h522)).mono ?_; rintro e W550 ⟨rfl, b549⟩
  have h551 := QvR.below (b549.mono (by omega)) h520
  have h552 := SlB.below (b549.mono (by omega)) h521
  have h553 := RpR.below (b549.mono (by omega)) h522
  have h554 := h523.below b549
  have h555 := h517.below b549
  have h556 := h524.below b549
  have k557 := k525.call b549
  have k558 := k526.call b549
  have k559 := k527.call b549
  have k560 := k528.call b549
  have s561 : W519.heap.size ≤ W550.heap.size := b549.size
  have g562 := bthen g530 b549
  clear h520 h521 h522 h523 h517 h524 k525 k526 k527 k528 g530 b549 c531 c532 c533 c534 c535 c536 c537 c538 c539 c540 c541 c542 c543 c544 c545 c546 c547 c548
  have c563 := k557.cell' (i := 0) rfl
  have c564 := k557.cell' (i := 1) rfl
  have c565 := k557.cell' (i := 2) rfl
  have c566 := k558.cell' (i := 0) rfl
  have c567 := k558.cell' (i := 1) rfl
  have c568 := k558.cell' (i := 2) rfl
  have c569 := k558.cell' (i := 3) rfl
  have c570 := k558.cell' (i := 4) rfl
  have c571 := k558.cell' (i := 5) rfl
  have c572 := k559.cell' (i := 0) rfl
  have c573 := k559.cell' (i := 1) rfl
  have c574 := k559.cell' (i := 2) rfl
  have c575 := k560.cell' (i := 0) rfl
  have c576 := k560.cell' (i := 1) rfl
  have c577 := k560.cell' (i := 2) rfl
  have c578 := k560.cell' (i := 3) rfl
  have c579 := k560.cell' (i := 4) rfl
  have c580 := k560.cell' (i := 5) rfl
  clear h554
  clear h555
  go_wp2_with fail
  refine (rep_mark _ _ _ _ _ _ h556 (by omega) (by omega) (by omega) (by omega)).mono ?_; rintro e W583 ⟨rfl, h581, q582⟩
  have h584 := QvR.chg h551 q582 (by omega) (by omega)
  have h585 := SlB.chg h552 q582 (by omega) (by omega)
  have h586 := RpR.chg h553 q582 (by omega) (by omega)
  have k587 := k557.chg q582 (by omega)
  have k588 := k558.chg q582 (by omega)
  have k589 := k559.chg q582 (by omega)
  have k590 := k560.chg q582 (by omega)
  have s591 : W550.heap.size ≤ W583.heap.size := q582.size
  have g592 := g562.trans (q582.below (by omega) (by omega))
  clear h551 h552 h553 k557 k558 k559 k560 g562 q582 c563 c564 c565 c566 c567 c568 c569 c570 c571 c572 c573 c574 c575 c576 c577 c578 c579 c580
  have c593 := k587.cell' (i := 0) rfl
  have c594 := k587.cell' (i := 1) rfl
  have c595 := k587.cell' (i := 2) rfl
  have c596 := k588.cell' (i := 0) rfl
  have c597 := k588.cell' (i := 1) rfl
  have c598 := k588.cell' (i := 2) rfl
  have c599 := k588.cell' (i := 3) rfl
  have c600 := k588.cell' (i := 4) rfl
  have c601 := k588.cell' (i := 5) rfl
  have c602 := k589.cell' (i := 0) rfl
  have c603 := k589.cell' (i := 1) rfl
  have c604 := k589.cell' (i := 2) rfl
  have c605 := k590.cell' (i := 0) rfl
  have c606 := k590.cell' (i := 1) rfl
  have c607 := k590.cell' (i := 2) rfl
  have c608 := k590.cell' (i := 3) rfl
  have c609 := k590.cell' (i := 4) rfl
  have c610 := k590.cell' (i := 5) rfl
  clear h556
  go_wp2_with fail
  refine (rep_held _ _ _ _ h581.rd (by omega) (by omega) (by omega)).mono ?_; rintro e W612 ⟨rfl, b611⟩
  have h613 := QvR.below (b611.mono (by omega)) h584
  have h614 := SlB.below (b611.mono (by omega)) h585
  have h615 := RpR.below (b611.mono (by omega)) h586
  have h616 := h581.below b611
  have k617 := k587.call b611
  have k618 := k588.call b611
  have k619 := k589.call b611
  have k620 := k590.call b611
  have s621 : W583.heap.size ≤ W612.heap.size := b611.size
  have g622 := bthen g592 b611
  clear h584 h585 h586 h581 k587 k588 k589 k590 g592 b611 c593 c594 c595 c596 c597 c598 c599 c600 c601 c602 c603 c604 c605 c606 c607 c608 c609 c610
  have c623 := k617.cell' (i := 0) rfl
  have c624 := k617.cell' (i := 1) rfl
  have c625 := k617.cell' (i := 2) rfl
  have c626 := k618.cell' (i := 0) rfl
  have c627 := k618.cell' (i := 1) rfl
  have c628 := k618.cell' (i := 2) rfl
  have c629 := k618.cell' (i := 3) rfl
  have c630 := k618.cell' (i := 4) rfl
  have c631 := k618.cell' (i := 5) rfl
  have c632 := k619.cell' (i := 0) rfl
  have c633 := k619.cell' (i := 1) rfl
  have c634 := k619.cell' (i := 2) rfl
  have c635 := k620.cell' (i := 0) rfl
  have c636 := k620.cell' (i := 1) rfl
  have c637 := k620.cell' (i := 2) rfl
  have c638 := k620.cell' (i := 3) rfl
  have c639 := k620.cell' (i := 4) rfl
  have c640 := k620.cell' (i := 5) rfl
  go_wp2_with fail
  refine (quiv_to _ _ _ (QvR.more (by omega) h613) (by omega)).mono ?_; rintro e W644 ⟨v641, rfl, h642, b643⟩
  have h645 := QvR.below (b643.mono (by omega)) h613
  have h646 := SlB.below (b643.mono (by omega)) h614
  have h647 := RpR.below (b643.mono (by omega)) h615
  have h648 := h616.below b643
  have k649 := k617.call b643
  have k650 := k618.call b643
  have k651 := k619.call b643
  have k652 := k620.call b643
  have s653 : W612.heap.size ≤ W644.heap.size := b643.size
  have g654 := bthen g622 b643
  clear h613 h614 h615 h616 k617 k618 k619 k620 g622 b643 c623 c624 c625 c626 c627 c628 c629 c630 c631 c632 c633 c634 c635 c636 c637 c638 c639 c640
  have c655 := k649.cell' (i := 0) rfl
  have c656 := k649.cell' (i := 1) rfl
  have c657 := k649.cell' (i := 2) rfl
  have c658 := k650.cell' (i := 0) rfl
  have c659 := k650.cell' (i := 1) rfl
  have c660 := k650.cell' (i := 2) rfl
  have c661 := k650.cell' (i := 3) rfl
  have c662 := k650.cell' (i := 4) rfl
  have c663 := k650.cell' (i := 5) rfl
  have c664 := k651.cell' (i := 0) rfl
  have c665 := k651.cell' (i := 1) rfl
  have c666 := k651.cell' (i := 2) rfl
  have c667 := k652.cell' (i := 0) rfl
  have c668 := k652.cell' (i := 1) rfl
  have c669 := k652.cell' (i := 2) rfl
  have c670 := k652.cell' (i := 3) rfl
  have c671 := k652.cell' (i := 4) rfl
  have c672 := k652.cell' (i := 5) rfl
  go_wp2_with fail
  refine (bars_to _ _ _ (SlB.more (by omega) h646) (by omega)).mono ?_; rintro e W676 ⟨v673, rfl, h674, b675⟩
  have h677 := QvR.below (b675.mono (by omega)) h645
  have h678 := SlB.below (b675.mono (by omega)) h646
  have h679 := RpR.below (b675.mono (by omega)) h647
  have h680 := h648.below b675
  have h681 := h642.below b675
  have k682 := k649.call b675
  have k683 := k650.call b675
  have k684 := k651.call b675
  have k685 := k652.call b675
  have s686 : W644.heap.size ≤ W676.heap.size := b675.size
  have g687 := bthen g654 b675
  clear h645 h646 h647 h648 h642 k649 k650 k651 k652 g654 b675 c655 c656 c657 c658 c659 c660 c661 c662 c663 c664 c665 c666 c667 c668 c669 c670 c671 c672
  have c688 := k682.cell' (i := 0) rfl
  have c689 := k682.cell' (i := 1) rfl
  have c690 := k682.cell' (i := 2) rfl
  have c691 := k683.cell' (i := 0) rfl
  have c692 := k683.cell' (i := 1) rfl
  have c693 := k683.cell' (i := 2) rfl
  have c694 := k683.cell' (i := 3) rfl
  have c695 := k683.cell' (i := 4) rfl
  have c696 := k683.cell' (i := 5) rfl
  have c697 := k684.cell' (i := 0) rfl
  have c698 := k684.cell' (i := 1) rfl
  have c699 := k684.cell' (i := 2) rfl
  have c700 := k685.cell' (i := 0) rfl
  have c701 := k685.cell' (i := 1) rfl
  have c702 := k685.cell' (i := 2) rfl
  have c703 := k685.cell' (i := 3) rfl
  have c704 := k685.cell' (i := 4) rfl
  have c705 := k685.cell' (i := 5) rfl
  go_wp2_with fail
  refine (implRepOfZigzag_any _ _ _ _ _ _ rng_p h681.rd h674.rd).mono ?_; rintro e W709 ⟨r706, rfl, h707, b708⟩
  have h710 := QvR.below (b708.mono (by omega)) h677
  have h711 := SlB.below (b708.mono (by omega)) h678
  have h712 := RpR.below (b708.mono (by omega)) h679
  have h713 := h680.below b708
  have h714 := h681.below b708
  have h715 := h674.below b708
  have k716 := k682.call b708
  have k717 := k683.call b708
  have k718 := k684.call b708
  have k719 := k685.call b708
  have s720 : W676.heap.size ≤ W709.heap.size := b708.size
  have g721 := bthen g687 b708
  clear h677 h678 h679 h680 h681 h674 k682 k683 k684 k685 g687 b708 c688 c689 c690 c691 c692 c693 c694 c695 c696 c697 c698 c699 c700 c701 c702 c703 c704 c705
  have c722 := k716.cell' (i := 0) rfl
  have c723 := k716.cell' (i := 1) rfl
  have c724 := k716.cell' (i := 2) rfl
  have c725 := k717.cell' (i := 0) rfl
  have c726 := k717.cell' (i := 1) rfl
  have c727 := k717.cell' (i := 2) rfl
  have c728 := k717.cell' (i := 3) rfl
  have c729 := k717.cell' (i := 4) rfl
  have c730 := k717.cell' (i := 5) rfl
  have c731 := k718.cell' (i := 0) rfl
  have c732 := k718.cell' (i := 1) rfl
  have c733 := k718.cell' (i := 2) rfl
  have c734 := k719.cell' (i := 0) rfl
  have c735 := k719.cell' (i := 1) rfl
  have c736 := k719.cell' (i := 2) rfl
  have c737 := k719.cell' (i := 3) rfl
  have c738 := k719.cell' (i := 4) rfl
  have c739 := k719.cell' (i := 5) rfl
  clear h714
  clear h715
  obtain ⟨Ax740, ax740, Cx740, cx740, Ex740, ex740, Hx740, hx740, e741⟩ := h707.form
  subst e741
  have c743 := fun o => (k716.alloc o).cell' (i := 0) rfl
  have c744 := fun o => (k716.alloc o).cell' (i := 1) rfl
  have c745 := fun o => (k716.alloc o).cell' (i := 2) rfl
  have c746 := fun o => (k717.alloc o).cell' (i := 0) rfl
  have c747 := fun o => (k717.alloc o).cell' (i := 1) rfl
  have c748 := fun o => (k717.alloc o).cell' (i := 2) rfl
  have c749 := fun o => (k717.alloc o).cell' (i := 3) rfl
  have c750 := fun o => (k717.alloc o).cell' (i := 4) rfl
  have c751 := fun o => (k717.alloc o).cell' (i := 5) rfl
  have c752 := fun o => (k718.alloc o).cell' (i := 0) rfl
  have c753 := fun o => (k718.alloc o).cell' (i := 1) rfl
  have c754 := fun o => (k718.alloc o).cell' (i := 2) rfl
  have c755 := fun o => (k719.alloc o).cell' (i := 0) rfl
  have c756 := fun o => (k719.alloc o).cell' (i := 1) rfl
  have c757 := fun o => (k719.alloc o).cell' (i := 2) rfl
  have c758 := fun o => (k719.alloc o).cell' (i := 3) rfl
  have c759 := fun o => (k719.alloc o).cell' (i := 4) rfl
  have c760 := fun o => (k719.alloc o).cell' (i := 5) rfl
  go_wp2_with fail
  obtain ⟨W761, e762⟩ : ∃ W, W = W709.alloc (.cells #[.int .i64 ((rzP p q l).1).p, .int .i64 ((rzP p q l).1).q.v, .slice Ax740 ((rzP p q l).1).q.f.length ax740, .slice Cx740 ((rzP p q l).1).q.t.length cx740, .slice Ex740 ((rzP p q l).1).d.length ex740, .slice Hx740 ((rzP p q l).1).m.length hx740] 31) := ⟨_, rfl⟩
  rw [← e762]
  have b763 : Below W709.heap.size W709 W761 := by rw [e762]; exact below_alloc _ _
  have k764 : Blk W761 W709.heap.size 31 #[.int .i64 ((rzP p q l).1).p, .int .i64 ((rzP p q l).1).q.v, .slice Ax740 ((rzP p q l).1).q.f.length ax740, .slice Cx740 ((rzP p q l).1).q.t.length cx740, .slice Ex740 ((rzP p q l).1).d.length ex740, .slice Hx740 ((rzP p q l).1).m.length hx740] := by rw [e762]; exact Blk.new _ _ _
  have s765 : W709.heap.size < W761.heap.size := by rw [e762]; simp
  clear e762
  have h766 := QvR.below (b763.mono (by omega)) h710
  have h767 := SlB.below (b763.mono (by omega)) h711
  have h768 := RpR.below (b763.mono (by omega)) h712
  have h769 := h713.below b763
  have h770 := h707.below b763
  have k771 := k716.call b763
  have k772 := k717.call b763
  have k773 := k718.call b763
  have k774 := k719.call b763
  have s775 : W709.heap.size ≤ W761.heap.size := b763.size
  have g776 := bthen g721 b763
  clear h710 h711 h712 h713 h707 k716 k717 k718 k719 g721 b763 c722 c723 c724 c725 c726 c727 c728 c729 c730 c731 c732 c733 c734 c735 c736 c737 c738 c739 c743 c744 c745 c746 c747 c748 c749 c750 c751 c752 c753 c754 c755 c756 c757 c758 c759 c760
  have c777 := k771.cell' (i := 0) rfl
  have c778 := k771.cell' (i := 1) rfl
  have c779 := k771.cell' (i := 2) rfl
  have c780 := k772.cell' (i := 0) rfl
  have c781 := k772.cell' (i := 1) rfl
  have c782 := k772.cell' (i := 2) rfl
  have c783 := k772.cell' (i := 3) rfl
  have c784 := k772.cell' (i := 4) rfl
  have c785 := k772.cell' (i := 5) rfl
  have c786 := k773.cell' (i := 0) rfl
  have c787 := k773.cell' (i := 1) rfl
  have c788 := k773.cell' (i := 2) rfl
  have c789 := k774.cell' (i := 0) rfl
  have c790 := k774.cell' (i := 1) rfl
  have c791 := k774.cell' (i := 2) rfl
  have c792 := k774.cell' (i := 3) rfl
  have c793 := k774.cell' (i := 4) rfl
  have c794 := k774.cell' (i := 5) rfl
  have c795 := k764.cell' (i := 0) rfl
  have c796 := k764.cell' (i := 1) rfl
  have c797 := k764.cell' (i := 2) rfl
  have c798 := k764.cell' (i := 3) rfl
  have c799 := k764.cell' (i := 4) rfl
  have c800 := k764.cell' (i := 5) rfl
  refine (eqRep_any _ _ _ _ _ h770.rd (RpR.more (by omega) h768)).mono ?_; rintro e W801 ⟨rfl, b742⟩
  have h802 := QvR.below (b742.mono (by omega)) h766
  have h803 := SlB.below (b742.mono (by omega)) h767
  have h804 := RpR.below (b742.mono (by omega)) h768
  have h805 := h769.below b742
  have h806 := h770.below b742
  have k807 := k771.call b742
  have k808 := k772.call b742
  have k809 := k773.call b742
  have k810 := k774.call b742
  have k811 := k764.call b742
  have s812 : W761.heap.size ≤ W801.heap.size := b742.size
  have g813 := bthen g776 b742
  clear h766 h767 h768 h769 h770 k771 k772 k773 k774 k764 g776 b742 c777 c778 c779 c780 c781 c782 c783 c784 c785 c786 c787 c788 c789 c790 c791 c792 c793 c794 c795 c796 c797 c798 c799 c800
  have c814 := k807.cell' (i := 0) rfl
  have c815 := k807.cell' (i := 1) rfl
  have c816 := k807.cell' (i := 2) rfl
  have c817 := k808.cell' (i := 0) rfl
  have c818 := k808.cell' (i := 1) rfl
  have c819 := k808.cell' (i := 2) rfl
  have c820 := k808.cell' (i := 3) rfl
  have c821 := k808.cell' (i := 4) rfl
  have c822 := k808.cell' (i := 5) rfl
  have c823 := k809.cell' (i := 0) rfl
  have c824 := k809.cell' (i := 1) rfl
  have c825 := k809.cell' (i := 2) rfl
  have c826 := k810.cell' (i := 0) rfl
  have c827 := k810.cell' (i := 1) rfl
  have c828 := k810.cell' (i := 2) rfl
  have c829 := k810.cell' (i := 3) rfl
  have c830 := k810.cell' (i := 4) rfl
  have c831 := k810.cell' (i := 5) rfl
  have c832 := k811.cell' (i := 0) rfl
  have c833 := k811.cell' (i := 1) rfl
  have c834 := k811.cell' (i := 2) rfl
  have c835 := k811.cell' (i := 3) rfl
  have c836 := k811.cell' (i := 4) rfl
  have c837 := k811.cell' (i := 5) rfl
  clear h806
  go_wp2_with fail
  refine (rep_held _ _ _ _ h805.rd (by omega) (by omega) (by omega)).mono ?_; rintro e W839 ⟨rfl, b838⟩
  have h840 := QvR.below (b838.mono (by omega)) h802
  have h841 := SlB.below (b838.mono (by omega)) h803
  have h842 := RpR.below (b838.mono (by omega)) h804
  have h843 := h805.below b838
  have k844 := k807.call b838
  have k845 := k808.call b838
  have k846 := k809.call b838
  have k847 := k810.call b838
  have k848 := k811.call b838
  have s849 : W801.heap.size ≤ W839.heap.size := b838.size
  have g850 := bthen g813 b838
  clear h802 h803 h804 h805 k807 k808 k809 k810 k811 g813 b838 c814 c815 c816 c817 c818 c819 c820 c821 c822 c823 c824 c825 c826 c827 c828 c829 c830 c831 c832 c833 c834 c835 c836 c837
  have c851 := k844.cell' (i := 0) rfl
  have c852 := k844.cell' (i := 1) rfl
  have c853 := k844.cell' (i := 2) rfl
  have c854 := k845.cell' (i := 0) rfl
  have c855 := k845.cell' (i := 1) rfl
  have c856 := k845.cell' (i := 2) rfl
  have c857 := k845.cell' (i := 3) rfl
  have c858 := k845.cell' (i := 4) rfl
  have c859 := k845.cell' (i := 5) rfl
  have c860 := k846.cell' (i := 0) rfl
  have c861 := k846.cell' (i := 1) rfl
  have c862 := k846.cell' (i := 2) rfl
  have c863 := k847.cell' (i := 0) rfl
  have c864 := k847.cell' (i := 1) rfl
  have c865 := k847.cell' (i := 2) rfl
  have c866 := k847.cell' (i := 3) rfl
  have c867 := k847.cell' (i := 4) rfl
  have c868 := k847.cell' (i := 5) rfl
  have c869 := k848.cell' (i := 0) rfl
  have c870 := k848.cell' (i := 1) rfl
  have c871 := k848.cell' (i := 2) rfl
  have c872 := k848.cell' (i := 3) rfl
  have c873 := k848.cell' (i := 4) rfl
  have c874 := k848.cell' (i := 5) rfl
  go_wp2
  go_ret
  exact ⟨rfl, g850⟩
end Go.Proofs.Ytcmlflppndfdcaa

/- FnExactRepOfZigzag is proved: for every argument the program's RepOfZigzag returns what the reference's returns, leaves its arguments as they were, and returns memory of its own. No condition. -/
namespace Go.Proofs.Ytcmlflppndfdcaa
set_option linter.unusedVariables false
set_option linter.unusedSimpArgs false
open Go.RowKit Go.ChangeShapes Go.WideShapes Go.ChangeAt Go.Deep

set_option maxRecDepth 100000 in
theorem repOfZigzag_lifted (os : Os) (started : os.Started) (H : Type) (enc : TypeId × Value → H) :
    ReturnsInHanded {} Try.checked os 4 .any (Rows.fnExactRepOfZigzagSpec.pre6 enc Try.prog Try.f4 Rows.fnExactRepOfZigzagRow.domain false) (Rows.fnExactRepOfZigzagSpec.post enc Try.prog Try.f4 false true false false) := by
  refine lift_law started (by kernel_rfl) Try.func4 (ChangeSpec.witness6 (enc := enc) (C := Try.checked) false ⟨#[], #[.int .i64 0, .agg #[.int .i64 0, .slice none 0 0, .slice none 0 0], .slice none 0 0], []⟩ 8 (by kernel_rfl) (by kernel_rfl) (by kernel_rfl) (by kernel_rfl))
    rfl rfl (by rw [Try.params4]; intro t ht; simp only [List.mem_cons, List.not_mem_nil, or_false] at ht; rcases ht with rfl | rfl | rfl <;> exact ⟨by kernel_rfl, of_decide_eq_true (by kernel_rfl)⟩) (fun ds hl => by rw [Try.params4] at hl; match ds, hl with | [_, _, _], _ => rfl) ?_
  intro W args ds ps base hval hA hwt
  rw [Try.params4] at hA hval hwt
  obtain ⟨v0, v1, v2, d0, d1, d2, p0, p1, p2, hargs, rfl, rfl, h0, h1, h2⟩ := trodAll_three hA
  obtain rfl : args = #[v0, v1, v2] := by cases args; simp_all
  obtain ⟨x0, rfl, r0⟩ := argInt (hval 0 _ _ rfl rfl) h0
  obtain ⟨x1, r1⟩ := argQuiver (hval 1 _ _ rfl rfl) h1 (hwt 1 _ _ rfl rfl)
  obtain ⟨x2, r2⟩ := argBars (hval 2 _ _ rfl rfl) h2 (hwt 2 _ _ rfl rfl)
  exact lawRepOfZigzag_any _ _ _ _ _ W r0 r1 r2

theorem repOfZigzag_closed : joinedFacts Try.prog 4 Try.f4 Rows.fnExactRepOfZigzagSpec Rows.fnExactRepOfZigzagRow = true := by
  unfold joinedFacts
  refine band (band (band (band (band (band (band ?_ seatEnter) seatLifts) seatMake) ?_) ?_) ?_) ?_ <;> kernel_rfl

theorem repOfZigzag_holds : Rows.FnExactRepOfZigzagSaid :=
  OpenClaim.holds_of_wide 4 Try.f4 rfl rfl rfl rfl rfl rfl rfl ⟨rfl, rfl, rfl, rfl, rfl⟩ rfl rfl rfl rfl rfl (by kernel_rfl) Try.func4 repOfZigzag_closed
    (of_decide_eq_true (by kernel_rfl)) (by unfold Func.isWrapper; first | (rw [if_pos (by decide +kernel)]; kernel_rfl) | (rw [if_neg (by decide +kernel)]; exact ⟨rfl, rfl⟩))
    (fun os started H enc _ => repOfZigzag_lifted os started H enc)
#print axioms repOfZigzag_holds
end Go.Proofs.Ytcmlflppndfdcaa
