/- The reference's ScaleMatrix. -/
import Derived.Test.YtbgjhnolnccnnaaAVec
namespace Go.Proofs.Ytbgjhnolnccnnaa
set_option linter.unusedVariables false
set_option linter.unusedSimpArgs false
open Go.RowKit
/-- a valid matrix told by entries -/
theorem isMat_mxF {p : Int} {r c : Nat} {f : Nat → Nat → Int} (hp : isFld p = true) (hr : r ≤ 8) (hc : c ≤ 8) (hf : ∀ i j, i < r → j < c → 0 ≤ f i j ∧ f i j ≤ p - 1) : isMat p (mxF r c f) = true := by
  rw [isMat_t]
  refine ⟨by simp only [mxF]; omega, by simp only [mxF]; omega, by simp [mxF, flat_length], isVec_t.2 ⟨hp, ?_, fun x hx => ?_⟩⟩
  · simp only [mxF, flat_length]
    exact Nat.mul_le_mul hr hc
  · obtain ⟨i, j, hi, hj, rfl⟩ := flat_mem hx
    exact hf i j hi hj
def scM (p k : Int) (f : Nat → Nat → Int) (i j : Nat) : Int := (k % p * f i j) % p
def adM (p : Int) (f g : Nat → Nat → Int) (i j : Nat) : Int := (f i j + g i j) % p
set_option maxHeartbeats 1600000 in
theorem scaleMatrix_any (p k : Int) (u : Value) (r c : Nat) (f : Nat → Nat → Int) (w0 : World) (hk : I64 k) (hu : MxR w0 w0.heap.size u (mxF r c f)) (hM : isMat p (mxF r c f) = true) :
    Calls Try.prog 112 #[.int .i64 p, .int .i64 k, u] w0 fun e w' => ∃ v, e = .returned (.tuple #[v, .bool true]) ∧ MxO w' w0.heap.size w'.heap.size v (mxF r c (scM p k f)) ∧ Below w0.heap.size w0 w' := by
  have hu' := hu
  obtain ⟨U, uc, rfl, hs, i1, i2, _⟩ := hu.open_
  have hV := (isMat_t.1 hM).2.2.2
  have HV : Hid (isVec p (rowF (r * c) fun j => f (j / c) (j % c)) = true) := hV
  have HS := hs
  have z1 : (mxF r c f).r = (r : Int) := rfl
  have z2 : (mxF r c f).c = (c : Int) := rfl
  have z5 : (mxF r c f).a = rowF (r * c) fun j => f (j / c) (j % c) := rfl
  rw [z1] at i1
  rw [z2] at i2
  have HM := Lib.hid hM
  rw [z5] at hs
  obtain ⟨N, hN⟩ : ∃ N, (mxF r c f).a.length = N := ⟨_, rfl⟩
  rw [← z5, hN, z5] at hs
  rw [hN, z1, z2] at hu' ⊢
  clear hu hV hM z1 z2 z5 hN HS
  obtain ⟨W, hW⟩ : ∃ W, W = (w0.alloc (.cells #[.int .i64 r, .int .i64 c, .slice U N uc] 60)).alloc (.cells #[.int .i64 0, .int .i64 0, .slice none 0 0] 60) := ⟨_, rfl⟩
  have g0 : Below w0.heap.size w0 W := by rw [hW]; exact ((Below.refl _ _).alloc (Nat.le_refl _) _).alloc (by simp) _
  have k1 : Blk W w0.heap.size 60 #[.int .i64 r, .int .i64 c, .slice U N uc] := by rw [hW]; exact (Blk.new _ _ _).alloc _
  have k2 : Blk W (w0.heap.size + 1) 60 #[.int .i64 0, .int .i64 0, .slice none 0 0] := by
    rw [hW]
    have := Blk.new (w0.alloc (.cells #[.int .i64 r, .int .i64 c, .slice U N uc] 60)) 60 #[.int .i64 0, .int .i64 0, .slice none 0 0]
    simpa only [World.size_alloc] using this
  have sz : W.heap.size = w0.heap.size + 1 + 1 := by rw [hW]; simp
  have HU := Lib.hid (MxR.next g0 hu')
  have HSS := Lib.hid (SlI.next g0 hs)
  have SZ := Lib.hid sz
  have G0 := Lib.hid g0
  clear sz hu' hs g0
  go_enter Try.func112, Try.ntmps112
  go_wp2_with fail
  rw [← hW]; clear hW
  refine (specIsMatrix_any p _ (mxF r c f) W HU.out).mono ?_; rintro e w1 ⟨rfl, hb1⟩
  rw [HM.out]
  replace k1 := k1.call hb1
  replace k2 := k2.call hb1
  have hs1 := SlI.next hb1 HSS.out
  have hw1 := hb1.size
  have gW := hb1
  have c2 := k1.cell' (i := 2) rfl
  clear hb1
  go_wp2_with fail
  refine (scaleVector_any p k _ (r * c) _ _ hk hs1 HV.out).mono ?_; rintro e wr ⟨v, rfl, hO, hb1⟩
  replace k1 := k1.call hb1
  replace k2 := k2.call hb1
  have hws := hb1.size
  replace gW := bthen gW hb1
  obtain ⟨A1, c1, rfl⟩ := hO.form
  have hO2 : IntsO wr w1.heap.size wr.heap.size (.slice A1 (rowF (r * c) (scF p k fun j => f (j / c) (j % c))).length c1) (mxF r c (scM p k f)).a := hO
  obtain ⟨N1, hN1⟩ : ∃ N, (rowF (r * c) (scF p k fun j => f (j / c) (j % c))).length = N := ⟨_, rfl⟩
  rw [hN1] at hO2 ⊢
  clear c2 hb1 hs1 hO hN1
  have z0 := k1.cell' (i := 0) rfl
  have z1 := k1.cell' (i := 1) rfl
  have p0 := k2.cell' (i := 0) rfl
  have p1 := k2.cell' (i := 1) rfl
  have p2 := k2.cell' (i := 2) rfl
  have f2 := k2.frozen
  have h2 := chg3 wr (w0.heap.size + 1) (.int .i64 (r : Int)) (.int .i64 c) (.slice A1 N1 c1)
  have gw : Below w0.heap.size w0 wr := (G0.out).trans (gW.mono (G0.out).size)
  have gs := gw.size
  have sz := SZ.out
  have hl1 := k1.lt
  have gW1 := gW.size
  have oA2 := (hO2.chg h2 (.inr (by omega))).wider (lo' := w0.heap.size) (hi' := wr.heap.size) (by omega) (Nat.le_refl _)
  have fg := gw.trans (h2.below (by omega) gs)
  have OA2 := Lib.hid oA2
  have FG := Lib.hid fg
  clear hO2 oA2 fg gw h2 k2 k1 gW sz
  go_wp2
  exact bodyPost_ret (v := .tuple #[.agg #[.int .i64 (r : Int), .int .i64 c, .slice A1 N1 c1], .bool true]) (by simp [results, go_sem, p0, p1, p2]) rfl ⟨_, rfl, ⟨_, rfl, (OA2.out).wider (Nat.le_refl _) (by simp), i1, i2⟩, FG.out⟩
end Go.Proofs.Ytbgjhnolnccnnaa
