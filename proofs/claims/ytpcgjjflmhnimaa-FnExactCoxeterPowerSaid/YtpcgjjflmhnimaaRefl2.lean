/- The reference's ReflectDims. -/
import Derived.Test.YtpcgjjflmhnimaaRefl
import Derived.Test.YtpcgjjflmhnimaaOrder3
namespace Go.Proofs.Ytpcgjjflmhnimaa
set_option linter.unusedVariables false
set_option linter.unusedSimpArgs false
open Go.RowKit

set_option maxHeartbeats 800000 in
set_option maxRecDepth 20000 in
theorem specReflectDims_any (u : Value) (q : Qv) (xv : Value) (x : List Int) (v : Int) (w : World) (hu : QvR w w.heap.size u q) (hx : SlI w w.heap.size xv x) (_ : I64 v) :
    Calls Try.prog 124 #[u, xv, .int .i64 v] w fun e w' => ∃ r, e = .returned (.tuple #[r, .bool (reflQ q x v).2]) ∧ IntsO w' w.heap.size w'.heap.size r (reflQ q x v).1 ∧ Below w.heap.size w w' := by
  have hu' := hu
  obtain ⟨A, c, C, d, rfl, hf, hT, hr, lf, lt⟩ := hu.open_
  have hx' := hx
  obtain ⟨XA, xc, rfl, _, _, lx, _⟩ := hx.open_
  clear hu hx hf hT
  obtain ⟨W, hW⟩ : ∃ W, W = w.alloc (.cells #[.int .i64 q.v, .slice A q.f.length c, .slice C q.t.length d] 29) := ⟨_, rfl⟩
  have g0 : Below w.heap.size w W := by rw [hW]; exact below_alloc _ _
  have kB : Blk W w.heap.size 29 #[.int .i64 q.v, .slice A q.f.length c, .slice C q.t.length d] := by rw [hW]; exact Blk.new _ _ _
  have c0 := kB.cell' (i := 0) rfl
  have c1 := kB.cell' (i := 1) rfl
  have c2 := kB.cell' (i := 2) rfl
  have h0 := QvR.next g0 hu'
  have hx0 := SlI.next g0 hx'
  clear hu' hx'
  rcases hq : isNum q x with _ | _
  · have hF : Hid (reflQ q x v = ([], false)) := by show _ = _; simp [reflQ, hq]
    go_enter Try.func124, Try.ntmps124
    go_wp2_with fail
    rw [← hW]; clear hW
    refine (l18Vector_any _ _ _ _ _ h0 hx0).mono ?_; rintro e w1 ⟨rfl, hb1⟩
    rw [hq]
    have g1 := bthen g0 hb1
    go_wp2
    exact bodyPost_ret (v := .tuple #[.slice (some ⟨w1.heap.size, 0, none⟩) 0 0, .bool false]) (by simp [results, go_sem]) rfl ⟨_, by rw [hF.out], by rw [hF.out]; exact IntsO.made_ _ g1.size, g1.alloc g1.size _⟩
  obtain ⟨hq1, hq2, hq3⟩ := isNum_t.1 hq
  obtain ⟨⟨hv1, hv2⟩, hlen, _, _, _⟩ := isQ_t.1 hq1
  have HQ1 := Lib.hid hq1
  have HLE := Lib.hid hlen
  clear hq1 hq2 hq3 hlen
  rcases hin : inR v 0 (q.v - 1) with _ | _
  · have hF : Hid (reflQ q x v = ([], false)) := by show _ = _; simp [reflQ, hin]
    go_enter Try.func124, Try.ntmps124
    go_wp2_with fail
    rw [← hW]; clear hW
    refine (l18Vector_any _ _ _ _ _ h0 hx0).mono ?_; rintro e w1 ⟨rfl, hb1⟩
    rw [hq]
    have g1 := bthen g0 hb1
    have d0 := (kB.call hb1).cell' (i := 0) rfl
    clear c0 c1 c2
    go_wp2_with fail
    refine (l1In_any _ _ _ _).mono ?_; rintro e w9 ⟨rfl, rfl⟩
    rw [hin]
    go_wp2
    exact bodyPost_ret (v := .tuple #[.slice (some ⟨w9.heap.size, 0, none⟩) 0 0, .bool false]) (by simp [results, go_sem]) rfl ⟨_, by rw [hF.out], by rw [hF.out]; exact IntsO.made_ _ g1.size, g1.alloc g1.size _⟩
  have hvr := inR_t.1 hin
  rcases hlo : loopQ q v with _ | _
  · obtain ⟨n, rfl⟩ : ∃ n : Nat, v = n := ⟨v.toNat, by omega⟩
    have hF : Hid (reflQ q x n = (reflL q x n, true)) := by show _ = _; simp [reflQ, hq, hin, hlo]
    have hnv : n < q.v.toNat := by omega
    go_enter Try.func124, Try.ntmps124
    go_wp2_with fail
    rw [← hW]; clear hW
    refine (l18Vector_any _ _ _ _ _ h0 hx0).mono ?_; rintro e w1 ⟨rfl, hb1⟩
    rw [hq]
    have g1 := bthen g0 hb1
    have k1 := kB.call hb1
    have h1 := QvR.next hb1 h0
    have hx1 := SlI.next hb1 hx0
    clear c0 c1 c2 h0 hx0 kB
    have d0 := k1.cell' (i := 0) rfl
    have d1 := k1.cell' (i := 1) rfl
    have d2 := k1.cell' (i := 2) rfl
    go_wp2_with fail
    refine (l1In_any _ _ _ _).mono ?_; rintro e w9 ⟨rfl, rfl⟩
    rw [hin]
    go_wp2_with fail
    refine (l21Loop_any _ _ _ _ h1 HLE.out).mono ?_; rintro e w2 ⟨rfl, hb2⟩
    rw [hlo]
    have g2 := bthen g1 hb2
    have k2 := k1.call hb2
    have h2 := QvR.next hb2 h1
    have hx2 := SlI.next hb2 hx1
    clear d0 d1 d2 h1 hx1 k1
    have d0 := k2.cell' (i := 0) rfl
    have d1 := k2.cell' (i := 1) rfl
    have d2 := k2.cell' (i := 2) rfl
    go_wp2_with fail
    refine (symmetricForm_any _ _ _ h2 HQ1.out).mono ?_; rintro e w3 ⟨mv, rfl, hm, hb3⟩
    have g3 := bthen g2 hb3
    have hx3 := SlI.next hb3 hx2
    go_wp2_with fail
    refine (l20Reflect_any _ _ q x n _ hm.rd hx3 hq hnv).mono ?_; rintro e w4 ⟨r, rfl, hr4, hb4⟩
    go_wp2
    exact bodyPost_ret (v := .tuple #[r, .bool true]) (by simp [results, go_sem]) rfl ⟨_, by rw [hF.out], by rw [hF.out]; exact hr4.wider g3.size (Nat.le_refl _), bthen g3 hb4⟩
  · have hF : Hid (reflQ q x v = ([], false)) := by show _ = _; simp [reflQ, hlo]
    go_enter Try.func124, Try.ntmps124
    go_wp2_with fail
    rw [← hW]; clear hW
    refine (l18Vector_any _ _ _ _ _ h0 hx0).mono ?_; rintro e w1 ⟨rfl, hb1⟩
    rw [hq]
    have g1 := bthen g0 hb1
    have k1 := kB.call hb1
    have h1 := QvR.next hb1 h0
    clear c0 c1 c2 h0 hx0 kB
    have d0 := k1.cell' (i := 0) rfl
    have d1 := k1.cell' (i := 1) rfl
    have d2 := k1.cell' (i := 2) rfl
    go_wp2_with fail
    refine (l1In_any _ _ _ _).mono ?_; rintro e w9 ⟨rfl, rfl⟩
    rw [hin]
    go_wp2_with fail
    refine (l21Loop_any _ _ _ _ h1 HLE.out).mono ?_; rintro e w2 ⟨rfl, hb2⟩
    rw [hlo]
    have g2 := bthen g1 hb2
    go_wp2
    exact bodyPost_ret (v := .tuple #[.slice (some ⟨w2.heap.size, 0, none⟩) 0 0, .bool false]) (by simp [results, go_sem]) rfl ⟨_, by rw [hF.out], by rw [hF.out]; exact IntsO.made_ _ g2.size, g2.alloc g2.size _⟩
end Go.Proofs.Ytpcgjjflmhnimaa
