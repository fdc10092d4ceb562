/- PreprojectivePencil. -/
import Derived.Test.YtpcgjjflmhnimaaShift
namespace Go.Proofs.Ytpcgjjflmhnimaa
set_option linter.unusedVariables false
set_option linter.unusedSimpArgs false
open Go.RowKit

def prepP (p n : Int) : Rp × Bool := if inR n 0 3 then penOf p (shA n.toNat) (shB n.toNat) else (rp0, false)

set_option maxHeartbeats 1600000 in
set_option maxRecDepth 100000 in
theorem specPreprojectivePencil_any (p n : Int) (w : World) (hp : I64 p) (hn : I64 n) :
    Calls Try.prog 41 #[.int .i64 p, .int .i64 n] w fun e w' => ∃ r, e = .returned (.tuple #[r, .bool (prepP p n).2]) ∧ RepO w' w.heap.size w'.heap.size r (prepP p n).1 ∧ Below w.heap.size w w' := by
  obtain ⟨W, hW⟩ : ∃ W, W = w.alloc (.cells #[.int .i64 0, .int .i64 0, .slice none 0 0, .slice none 0 0, .slice none 0 0, .slice none 0 0] 43) := ⟨_, rfl⟩
  have g0 : Below w.heap.size w W := by rw [hW]; exact below_alloc _ _
  have kR : Blk W w.heap.size 43 #[.int .i64 0, .int .i64 0, .slice none 0 0, .slice none 0 0, .slice none 0 0, .slice none 0 0] := by rw [hW]; exact Blk.new _ _ _
  have sz : W.heap.size = w.heap.size + 1 := by rw [hW]; simp
  have SZ := Lib.hid sz
  rcases hB : inR n 0 3 with _ | _
  · have hF : Hid (prepP p n = (rp0, false)) := by show _ = _; simp [prepP, hB]
    have fr := kR.frozen
    have s0 := kR.cell' (i := 0) rfl
    have s1 := kR.cell' (i := 1) rfl
    have s2 := kR.cell' (i := 2) rfl
    have s3 := kR.cell' (i := 3) rfl
    have s4 := kR.cell' (i := 4) rfl
    have s5 := kR.cell' (i := 5) rfl
    have HB := Lib.hid hB
    clear hB sz
    go_enter Try.func41, Try.ntmps41
    go_wp2_with fail
    rw [← hW]; clear hW
    refine (l1In_any _ _ _ _).mono ?_; rintro e w1 ⟨rfl, rfl⟩
    rw [HB.out]
    go_wp2
    have sz := SZ.out
    refine bodyPost_ret (v := .tuple #[.agg #[.int .i64 0, .int .i64 0, .slice none 0 0, .slice none 0 0, .slice none 0 0, .slice none 0 0], .bool false]) (by simp [results, go_sem, s0, s1, s2, s3, s4, s5]) rfl ⟨_, by rw [hF.out], by rw [hF.out]; exact RepO.zero _ _ _, (((((g0.setCell (by simp) _).setCell (by simp) _).setCell (by simp) _).setCell (by simp) _).setCell (by simp) _).setCell (by simp) _⟩
  · obtain ⟨n1, n2⟩ := inR_t.1 hB
    obtain ⟨N, rfl⟩ := Int.eq_ofNat_of_zero_le n1
    have hF : Hid (prepP p N = penOf p (shA N) (shB N)) := by show _ = _; rw [prepP, hB]; rfl
    have HB := Lib.hid hB
    clear hB
    go_enter Try.func41, Try.ntmps41
    go_wp2_with fail
    rw [← hW]; clear hW
    refine (l1In_any _ _ _ _).mono ?_; rintro e w1' ⟨rfl, rfl⟩
    rw [HB.out]
    go_wp2_with fail
    refine (l26Shift_any N _ (by omega)).mono ?_; rintro e w1 ⟨a, b, rfl, ha, hb, hb1⟩
    obtain ⟨A, ac, ea⟩ := ha.form
    obtain ⟨B, bc, eb⟩ := hb.form
    subst ea eb
    generalize shA N = MA at *
    generalize shB N = MB at *
    obtain ⟨W2, hW2⟩ : ∃ u, u = (w1.alloc (.cells #[.int .i64 MA.r, .int .i64 MA.c, .slice A MA.a.length ac] 56)).alloc (.cells #[.int .i64 MB.r, .int .i64 MB.c, .slice B MB.a.length bc] 56) := ⟨_, rfl⟩
    have hb2 : Below w1.heap.size w1 W2 := by rw [hW2]; exact ((Below.refl _ _).alloc (Nat.le_refl _) _).alloc (by simp) _
    go_wp2_with fail
    rw [← hW2]
    clear hW2
    refine (specPencilOf_any p _ MA _ MB W2 hp (MxR.next hb2 ha) (MxR.next hb2 hb)).mono ?_; rintro e w2 ⟨r, rfl, ho, hb3⟩
    have g2 := bthen (bthen hb1 hb2) hb3
    have g3 := g0.trans (g2.mono g0.size)
    have s1 := hb1.size
    have s2 := hb2.size
    have s3 := hb3.size
    have kR2 := kR.call g2
    generalize penOf p MA MB = R at *
    obtain ⟨RA, ra, RC, rc, RE, re, RH, rh, er⟩ := ho.form
    subst er
    obtain ⟨X, hX⟩ : ∃ X, X = w2.alloc (.cells #[.int .i64 R.1.p, .int .i64 R.1.q.v, .slice RA R.1.q.f.length ra, .slice RC R.1.q.t.length rc, .slice RE R.1.d.length re, .slice RH R.1.m.length rh] 43) := ⟨_, rfl⟩
    have hbX : Below w2.heap.size w2 X := by rw [hX]; exact below_alloc _ _
    have kX := kR2.call hbX
    have fr := kX.frozen
    have p0 := kX.cell' (i := 0) rfl
    have p1 := kX.cell' (i := 1) rfl
    have p2 := kX.cell' (i := 2) rfl
    have p3 := kX.cell' (i := 3) rfl
    have p4 := kX.cell' (i := 4) rfl
    have p5 := kX.cell' (i := 5) rfl
    have oX := ho.below hbX
    have sX := hbX.size
    have gX := g3.trans (hbX.mono g3.size)
    have hc := chg6 X w.heap.size (.int .i64 R.1.p) (.int .i64 R.1.q.v) (.slice RA R.1.q.f.length ra) (.slice RC R.1.q.t.length rc) (.slice RE R.1.d.length re) (.slice RH R.1.m.length rh)
    have OF := Lib.hid (RepO.wider (oX.chg hc (.inr (by omega))) (lo' := w.heap.size) (by omega) (hi' := X.heap.size) (by omega))
    have GF := Lib.hid (gX.trans (hc.below (Nat.le_refl _) gX.size))
    clear ho oX hc gX g3 g2 hbX kX kR2 kR hb1 hb2 hb3 ha hb sX s1 s2 s3
    rw [hX] at fr p0 p1 p2 p3 p4 p5
    go_wp2
    rw [← hX]
    rw [← hX] at p0 p1 p2 p3 p4 p5
    exact bodyPost_ret (v := .tuple #[.agg #[.int .i64 R.1.p, .int .i64 R.1.q.v, .slice RA R.1.q.f.length ra, .slice RC R.1.q.t.length rc, .slice RE R.1.d.length re, .slice RH R.1.m.length rh], .bool R.2]) (by simp [results, go_sem, p0, p1, p2, p3, p4, p5]) rfl ⟨_, by rw [hF.out], by rw [hF.out]; exact RepO.wider OF.out (Nat.le_refl _) (by simp), GF.out⟩
end Go.Proofs.Ytpcgjjflmhnimaa
