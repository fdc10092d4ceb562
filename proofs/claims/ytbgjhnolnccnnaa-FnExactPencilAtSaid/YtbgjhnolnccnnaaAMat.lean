/- The reference's AddMatrices. -/
import Derived.Test.YtbgjhnolnccnnaaSMat
namespace Go.Proofs.Ytbgjhnolnccnnaa
set_option linter.unusedVariables false
set_option linter.unusedSimpArgs false
open Go.RowKit
set_option maxHeartbeats 1600000 in
theorem addMatrices_any (p : Int) (u v : Value) (r c : Nat) (f g : Nat → Nat → Int) (w0 : World) (hu : MxR w0 w0.heap.size u (mxF r c f)) (hv0 : MxR w0 w0.heap.size v (mxF r c g)) (hM : isMat p (mxF r c f) = true) (hM2 : isMat p (mxF r c g) = true) :
    Calls Try.prog 113 #[.int .i64 p, u, v] w0 fun e w' => ∃ v, e = .returned (.tuple #[v, .bool true]) ∧ MxO w' w0.heap.size w'.heap.size v (mxF r c (adM p f g)) ∧ Below w0.heap.size w0 w' := by
  have hu' := hu
  have hv' := hv0
  obtain ⟨U, uc, rfl, hs, i1, i2, _⟩ := hu.open_
  obtain ⟨V, vc, rfl, hs2, j1, j2, _⟩ := hv0.open_
  have hV := (isMat_t.1 hM).2.2.2
  have hV2 := (isMat_t.1 hM2).2.2.2
  have HV : Hid (isVec p (rowF (r * c) fun j => f (j / c) (j % c)) = true) := hV
  have HV2 : Hid (isVec p (rowF (r * c) fun j => g (j / c) (j % c)) = true) := hV2
  have z1 : (mxF r c f).r = (r : Int) := rfl
  have z2 : (mxF r c f).c = (c : Int) := rfl
  have z3 : (mxF r c g).r = (r : Int) := rfl
  have z4 : (mxF r c g).c = (c : Int) := rfl
  have z5 : (mxF r c f).a = rowF (r * c) fun j => f (j / c) (j % c) := rfl
  have z6 : (mxF r c g).a = rowF (r * c) fun j => g (j / c) (j % c) := rfl
  rw [z1] at i1
  rw [z2] at i2
  have HM := Lib.hid hM
  have HM2 := Lib.hid hM2
  obtain ⟨N, hN⟩ : ∃ N, (mxF r c f).a.length = N := ⟨_, rfl⟩
  obtain ⟨M, hN2⟩ : ∃ N, (mxF r c g).a.length = N := ⟨_, rfl⟩
  rw [hN, z5] at hs
  rw [hN2, z6] at hs2
  rw [hN, z1, z2] at hu' ⊢
  rw [hN2, z3, z4] at hv' ⊢
  clear hu hv0 hV hV2 hM hM2 z1 z2 z3 z4 z5 z6 hN hN2
  obtain ⟨W, hW⟩ : ∃ W, W = ((w0.alloc (.cells #[.int .i64 r, .int .i64 c, .slice U N uc] 60)).alloc (.cells #[.int .i64 r, .int .i64 c, .slice V M vc] 60)).alloc (.cells #[.int .i64 0, .int .i64 0, .slice none 0 0] 60) := ⟨_, rfl⟩
  have g0 : Below w0.heap.size w0 W := by rw [hW]; exact (((Below.refl _ _).alloc (Nat.le_refl _) _).alloc (by simp) _).alloc (by simp; omega) _
  have k1 : Blk W w0.heap.size 60 #[.int .i64 r, .int .i64 c, .slice U N uc] := by rw [hW]; exact ((Blk.new _ _ _).alloc _).alloc _
  have k2 : Blk W (w0.heap.size + 1) 60 #[.int .i64 r, .int .i64 c, .slice V M vc] := by
    rw [hW]
    have := (Blk.new (w0.alloc (.cells #[.int .i64 r, .int .i64 c, .slice U N uc] 60)) 60 #[.int .i64 r, .int .i64 c, .slice V M vc]).alloc (.cells #[.int .i64 0, .int .i64 0, .slice none 0 0] 60)
    simpa only [World.size_alloc] using this
  have k3 : Blk W (w0.heap.size + 1 + 1) 60 #[.int .i64 0, .int .i64 0, .slice none 0 0] := by
    rw [hW]
    have := Blk.new ((w0.alloc (.cells #[.int .i64 r, .int .i64 c, .slice U N uc] 60)).alloc (.cells #[.int .i64 r, .int .i64 c, .slice V M vc] 60)) 60 #[.int .i64 0, .int .i64 0, .slice none 0 0]
    simpa only [World.size_alloc] using this
  have sz : W.heap.size = w0.heap.size + 1 + 1 + 1 := by rw [hW]; simp
  have HU := Lib.hid (MxR.next g0 hu')
  have HVV := Lib.hid (MxR.next g0 hv')
  have HSS := Lib.hid (SlI.next g0 hs)
  have HTT := Lib.hid (SlI.next g0 hs2)
  have SZ := Lib.hid sz
  have G0 := Lib.hid g0
  clear sz hu' hs g0 hv' hs2
  go_enter Try.func113, Try.ntmps113
  go_wp2_with fail
  rw [← hW]; clear hW
  refine (specIsMatrix_any p _ (mxF r c f) W HU.out).mono ?_; rintro e w1 ⟨rfl, hb1⟩
  rw [HM.out]
  replace k1 := k1.call hb1
  replace k2 := k2.call hb1
  replace k3 := k3.call hb1
  have gW := hb1
  have b0 := k2.cell' (i := 0) rfl
  have b1 := k2.cell' (i := 1) rfl
  have b2 := k2.cell' (i := 2) rfl
  clear hb1
  go_wp2_with fail
  refine (specIsMatrix_any p _ (mxF r c g) _ (MxR.next gW HVV.out)).mono ?_; rintro e w2 ⟨rfl, hb1⟩
  rw [HM2.out]
  replace k1 := k1.call hb1
  replace k2 := k2.call hb1
  replace k3 := k3.call hb1
  replace gW := bthen gW hb1
  have hw1 := gW.size
  have a0 := k1.cell' (i := 0) rfl
  have a1 := k1.cell' (i := 1) rfl
  have a2 := k1.cell' (i := 2) rfl
  have b0 := k2.cell' (i := 0) rfl
  have b1 := k2.cell' (i := 1) rfl
  have b2 := k2.cell' (i := 2) rfl
  clear hb1
  go_wp2_with fail
  refine (addVectors_any p _ _ (r * c) _ _ _ (SlI.next gW HSS.out) (SlI.next gW HTT.out) HV.out HV2.out).mono ?_; rintro e wr ⟨v, rfl, hO, hb1⟩
  replace k1 := k1.call hb1
  replace k3 := k3.call hb1
  have hws := hb1.size
  replace gW := bthen gW hb1
  obtain ⟨A1, c1, rfl⟩ := hO.form
  have hO2 : IntsO wr w2.heap.size wr.heap.size (.slice A1 (rowF (r * c) (adF p (fun j => f (j / c) (j % c)) fun j => g (j / c) (j % c))).length c1) (mxF r c (adM p f g)).a := hO
  obtain ⟨N1, hN1⟩ : ∃ N, (rowF (r * c) (adF p (fun j => f (j / c) (j % c)) fun j => g (j / c) (j % c))).length = N := ⟨_, rfl⟩
  rw [hN1] at hO2 ⊢
  clear a0 a1 a2 b0 b1 b2 hb1 hO hN1 k2
  have z0 := k1.cell' (i := 0) rfl
  have z1 := k1.cell' (i := 1) rfl
  have p0 := k3.cell' (i := 0) rfl
  have p1 := k3.cell' (i := 1) rfl
  have p2 := k3.cell' (i := 2) rfl
  have f2 := k3.frozen
  have h2 := chg3 wr (w0.heap.size + 1 + 1) (.int .i64 (r : Int)) (.int .i64 c) (.slice A1 N1 c1)
  have gw : Below w0.heap.size w0 wr := (G0.out).trans (gW.mono (G0.out).size)
  have gs := gw.size
  have sz := SZ.out
  have hl1 := k1.lt
  have oA2 := (hO2.chg h2 (.inr (by omega))).wider (lo' := w0.heap.size) (hi' := wr.heap.size) (by omega) (Nat.le_refl _)
  have fg := gw.trans (h2.below (by omega) gs)
  have OA2 := Lib.hid oA2
  have FG := Lib.hid fg
  clear hO2 oA2 fg gw h2 k3 k1 gW sz
  go_wp2
  exact bodyPost_ret (v := .tuple #[.agg #[.int .i64 (r : Int), .int .i64 c, .slice A1 N1 c1], .bool true]) (by simp [results, go_sem, p0, p1, p2]) rfl ⟨_, rfl, ⟨_, rfl, (OA2.out).wider (Nat.le_refl _) (by simp), i1, i2⟩, FG.out⟩
end Go.Proofs.Ytbgjhnolnccnnaa
