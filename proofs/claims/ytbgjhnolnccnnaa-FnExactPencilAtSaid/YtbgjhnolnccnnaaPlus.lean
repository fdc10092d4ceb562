/- ReduceMod, l2Mod; sums of matrices of the program. -/
import Derived.Test.YtbgjhnolnccnnaaAddM
import Derived.Test.YtbgjhnolnccnnaaCopy2
namespace Go.Proofs.Ytbgjhnolnccnnaa
set_option linter.unusedVariables false
set_option linter.unusedSimpArgs false
open Go.RowKit

theorem reduceMod_any (p x : Int) (w : World) (hp : isFld p = true) (hx : I64 x) :
    Calls Try.prog 116 #[.int .i64 p, .int .i64 x] w fun e w' => e = .returned (.int .i64 (x % p)) ∧ w' = w := by
  have hp' := isFld_r hp
  obtain ⟨h1, h2, h3⟩ := tmod_fix (x := x) hp'.1
  have htm : (x.tmod p + p).tmod p = x % p := by rw [Int.tmod_eq_emod_of_nonneg (by omega)]; exact tmod_twice hp'.1
  have H1 := Lib.hid hp
  clear hp h1
  go_enter Try.func116, Try.ntmps116
  go_wp2_with fail
  refine (implIsField_any _ _).mono ?_; rintro e w1 ⟨rfl, rfl⟩
  rw [H1.out]
  go_wp2
  go_ret
  exact ⟨rfl, rfl⟩
theorem l2Mod_any (p x : Int) (w : World) (hp : 2 ≤ p ∧ p ≤ 5) (hx : I64 x) :
    Calls Try.prog 181 #[.int .i64 p, .int .i64 x] w fun e w' => e = .returned (.int .i64 (x % p)) ∧ w' = w := by
  obtain ⟨h1, h2, h3⟩ := tmod_fix (x := x) hp.1
  by_cases hn : x.tmod p < 0
  · rw [if_pos hn] at h1
    have HE := Lib.hid h1
    clear h1
    go_enter Try.func181, Try.ntmps181
    go_wp2
    go_ret
    exact ⟨by rw [← HE.out]; rfl, rfl⟩
  · rw [if_neg hn] at h1
    have HE := Lib.hid h1
    clear h1
    go_enter Try.func181, Try.ntmps181
    go_wp2
    go_ret
    exact ⟨by rw [← HE.out]; rfl, rfl⟩
theorem addMultiple_zero (p k : Int) (va : Value) (B : Option Addr) (c : Nat) (w : World) (hv : ∃ A n m, va = .slice A n m) (hc : c ≤ 9223372036854775807) :
    Calls Try.prog 182 #[.int .i64 p, va, .int .i64 k, .slice B 0 c] w fun e w' => e = .returned va ∧ w' = w := by
  obtain ⟨A, n, m, rfl⟩ := hv
  go_enter Try.func182, Try.ntmps182
  go_wp2
  refine wp_loop_rounds 1 ?_
  rw [rounds_succ]
  go_wp2
  go_ret
  exact ⟨rfl, rfl⟩

def plF (p k : Int) (f g : Nat → Nat → Int) (a b : Nat) : Int := (f a b + k * g a b) % p
theorem plF_flat (p k : Int) (r c : Nat) (f g : Nat → Nat → Int) : rowF (r * c) (amF p k 0 (r * c) (fun j => f (j / c) (j % c)) (fun j => g (j / c) (j % c))) = flat r c (plF p k f g) := by
  refine rowF_congr fun i hi => ?_
  rw [amF, if_pos (by omega)]
  rfl
set_option maxHeartbeats 3200000 in
theorem plus_any (p k : Int) (u v : Value) (r c : Nat) (f g : Nat → Nat → Int) (w0 : World) (hp : 2 ≤ p ∧ p ≤ 5) (hk : 0 ≤ k ∧ k ≤ 5) (hu : MxR w0 w0.heap.size u (mxF r c f)) (hv : MxR w0 w0.heap.size v (mxF r c g)) (hr : r ≤ 1000) (hc : c ≤ 1000)
    (hf : ∀ i j, i < r → j < c → 0 ≤ f i j ∧ f i j ≤ 4) (hg : ∀ i j, i < r → j < c → 0 ≤ g i j ∧ g i j ≤ 4) :
    Calls Try.prog 160 #[.int .i64 p, u, .int .i64 k, v] w0 fun e w' => ∃ v, e = .returned v ∧ MxO w' w0.heap.size w'.heap.size v (mxF r c (plF p k f g)) ∧ Below w0.heap.size w0 w' := by
  have hu' := hu
  obtain ⟨U, uc, rfl⟩ := hu.form
  obtain ⟨V, vc, rfl, hsv, j1, j2, _⟩ := hv.open_
  have z1 : (mxF r c f).r = (r : Int) := rfl
  have z2 : (mxF r c f).c = (c : Int) := rfl
  have z3 : (mxF r c g).r = (r : Int) := rfl
  have z4 : (mxF r c g).c = (c : Int) := rfl
  have z5 : (mxF r c f).a.length = r * c := flat_length _ _ _
  have z6 : (mxF r c g).a.length = r * c := flat_length _ _ _
  obtain ⟨N, hN⟩ : ∃ N, r * c = N := ⟨_, rfl⟩
  have hN6 : N ≤ 1000000 := by rw [← hN]; exact Nat.mul_le_mul hr hc
  rw [z5, z1, z2, hN] at hu' ⊢
  rw [z6, z3, z4, hN]
  rw [z6, hN] at hsv
  clear hu hv z1 z2 z3 z4 z5 z6
  obtain ⟨W, hW⟩ : ∃ W, W = ((w0.alloc (.cells #[.int .i64 r, .int .i64 c, .slice U N uc] 60)).alloc (.cells #[.int .i64 r, .int .i64 c, .slice V N vc] 60)).alloc (.cells #[.int .i64 0, .int .i64 0, .slice none 0 0] 60) := ⟨_, rfl⟩
  have g0 : Below w0.heap.size w0 W := by rw [hW]; exact (((Below.refl _ _).alloc (Nat.le_refl _) _).alloc (by simp) _).alloc (by simp; omega) _
  have k2 : Blk W (w0.heap.size + 1) 60 #[.int .i64 r, .int .i64 c, .slice V N vc] := by
    rw [hW]
    have := (Blk.new (w0.alloc (.cells #[.int .i64 r, .int .i64 c, .slice U N uc] 60)) 60 #[.int .i64 r, .int .i64 c, .slice V N vc]).alloc (.cells #[.int .i64 0, .int .i64 0, .slice none 0 0] 60)
    simpa only [World.size_alloc] using this
  have k3 : Blk W (w0.heap.size + 1 + 1) 60 #[.int .i64 0, .int .i64 0, .slice none 0 0] := by
    rw [hW]
    have := Blk.new ((w0.alloc (.cells #[.int .i64 r, .int .i64 c, .slice U N uc] 60)).alloc (.cells #[.int .i64 r, .int .i64 c, .slice V N vc] 60)) 60 #[.int .i64 0, .int .i64 0, .slice none 0 0]
    simpa only [World.size_alloc] using this
  have sz : W.heap.size = w0.heap.size + 1 + 1 + 1 := by rw [hW]; simp
  have HU := Lib.hid (MxR.next g0 hu')
  have HV := Lib.hid (SlI.next g0 hsv)
  have SZ := Lib.hid sz
  have HN := Lib.hid hN
  have G0 := Lib.hid g0
  have HFF := Lib.hid hf
  have HGG := Lib.hid hg
  clear sz hu' hsv hN g0 hf hg
  go_enter Try.func160, Try.ntmps160
  go_wp2_with fail
  rw [← hW]; clear hW
  refine (mxClone_any _ (mxF r c f) W HU.out).mono ?_; rintro e w1 ⟨v1, rfl, ⟨s1, rfl, hO, i1, i2⟩, hb1⟩
  obtain ⟨A1, c1, rfl⟩ := hO.form
  have z5 : (mxF r c f).a.length = N := by rw [← HN.out]; exact flat_length _ _ _
  have z1 : (mxF r c f).r = (r : Int) := rfl
  have z2 : (mxF r c f).c = (c : Int) := rfl
  rw [z5] at hO ⊢
  rw [z1, z2]
  rw [z1] at i1
  rw [z2] at i2
  clear z5 z1 z2
  obtain ⟨W4, hW4⟩ : ∃ W4, W4 = w1.alloc (.cells #[.int .i64 r, .int .i64 c, .slice A1 N c1] 60) := ⟨_, rfl⟩
  have b4 : Below w1.heap.size w1 W4 := by rw [hW4]; exact below_alloc _ _
  have k4 : Blk W4 w1.heap.size 60 #[.int .i64 r, .int .i64 c, .slice A1 N c1] := by rw [hW4]; exact Blk.new _ _ _
  have s1 := hb1.size
  have gW := bthen hb1 b4
  have k2' := (k2.call hb1).call b4
  have k3' := (k3.call hb1).call b4
  have hO4 := hO.below b4
  have l4 := k4.lt
  have HV4 := Lib.hid (SlI.below gW HV.out)
  have y2 := k2'.cell' (i := 2) rfl
  rw [hW4] at y2
  have HO4 := Lib.hid hO4
  clear hO hb1 b4 k2 k3 k2' hO4
  have hvc : vc ≤ 9223372036854775807 := by
    obtain ⟨VA, vca, ev, _, hvc, _⟩ := HV4.out
    injection ev with _ _ ev3
    omega
  rcases Nat.eq_zero_or_pos N with h0 | h0
  · subst h0
    go_wp2_with fail
    rw [← hW4]
    rw [← hW4] at y2
    clear hW4
    refine (addMultiple_zero p k _ V vc _ ⟨_, _, _, rfl⟩ hvc).mono ?_; rintro e w5 ⟨rfl, rfl⟩
    have hE : (mxF r c f).a = flat r c (plF p k f g) := by
      have h1 : (mxF r c f).a.length = 0 := by rw [← HN.out]; exact flat_length _ _ _
      have h2 : (flat r c (plF p k f g)).length = 0 := by rw [← HN.out]; exact flat_length _ _ _
      rw [List.eq_nil_of_length_eq_zero h1, List.eq_nil_of_length_eq_zero h2]
    have oA := HO4.out
    rw [hE] at oA
    clear hE
    have z0 := k4.cell' (i := 0) rfl
    have z1 := k4.cell' (i := 1) rfl
    have z2 := k4.cell' (i := 2) rfl
    have p0 := k3'.cell' (i := 0) rfl
    have p1 := k3'.cell' (i := 1) rfl
    have p2 := k3'.cell' (i := 2) rfl
    have f2 := k3'.frozen
    have h2 := chg3 w5 (w0.heap.size + 1 + 1) (.int .i64 (r : Int)) (.int .i64 c) (.slice A1 0 c1)
    have gw : Below w0.heap.size w0 w5 := (G0.out).trans (gW.mono (G0.out).size)
    have gs := gw.size
    have oA2 := (oA.chg h2 (.inr (by have := SZ.out; omega))).wider (lo' := w0.heap.size) (hi' := w5.heap.size) (by have := SZ.out; omega) (by omega)
    have fg := gw.trans (h2.below (by omega) gs)
    have OA2 := Lib.hid oA2
    have FG := Lib.hid fg
    clear oA oA2 fg gw h2 k3' k4 gW
    go_wp2
    exact bodyPost_ret (v := .agg #[.int .i64 (r : Int), .int .i64 c, .slice A1 0 c1]) (by simp [results, go_sem, p0, p1, p2]) rfl ⟨_, rfl, ⟨_, rfl, (OA2.out).wider (Nat.le_refl _) (by simp), i1, i2⟩, FG.out⟩
  · obtain ⟨gA, cA, eA, a1, a2, a3⟩ := (HO4.out).at_ (by rw [show (mxF r c f).a.length = N by rw [← HN.out]; exact flat_length _ _ _]; exact h0)
    rw [show (mxF r c f).a.length = N by rw [← HN.out]; exact flat_length _ _ _] at eA
    injection eA with eA1 eA2 eA3
    subst eA1 eA3
    obtain ⟨_, c2, e2, q1, q2⟩ := (HO4.out).1.form
    injection e2 with e21 e22 e23
    subst e23
    clear e21 e22
    have q1' : N ≤ c1 := by rw [show (mxF r c f).a.length = N by rw [← HN.out]; exact flat_length _ _ _] at q1; exact q1
    have hrow : rowF N (fun j => f (j / c) (j % c)) = (mxF r c f).a := by rw [← HN.out]; rfl
    have hrow2 : rowF N (fun j => g (j / c) (j % c)) = (mxF r c g).a := by rw [← HN.out]; rfl
    have hx : ∀ (h : Nat → Nat → Int), (∀ i j, i < r → j < c → 0 ≤ h i j ∧ h i j ≤ 4) → ∀ i, i < N → 0 ≤ h (i / c) (i % c) ∧ h (i / c) (i % c) ≤ 4 := fun h hh i hi => by
      rw [← HN.out] at hi
      obtain ⟨i1, j1, h1, h2, rfl⟩ := ix_of hi
      rw [ix_div h2, ix_mod h2]
      exact hh i1 j1 h1 h2
    have HX1 := Lib.hid (hx f HFF.out)
    have HX2 := Lib.hid (hx g HGG.out)
    have HR1 := Lib.hid hrow
    have HR2 := Lib.hid hrow2
    clear q1 hrow hrow2 hx
    go_wp2_with fail
    rw [← hW4]
    rw [← hW4] at y2
    clear hW4
    refine (addMultiple_own p k gA 0 N N c1 c1 W.heap.size w1.heap.size (fun j => f (j / c) (j % c)) (fun j => g (j / c) (j % c)) _ W4 hp hk (by rw [HR1.out]; exact HO4.out) ⟨a1, a2⟩ (by omega) hN6 ⟨q1', q2⟩ (by omega) (by rw [HR2.out]; exact HV4.out) HX1.out HX2.out).mono ?_; rintro e w5 ⟨rfl, hO5, hc5, hs5⟩
    have hE : rowF N (amF p k 0 N (fun j => f (j / c) (j % c)) (fun j => g (j / c) (j % c))) = flat r c (plF p k f g) := by rw [← HN.out]; exact plF_flat p k r c f g
    rw [hE] at hO5
    have oA := hO5
    replace k4 := k4.chg hc5 (.inr (Nat.le_refl _))
    replace k3' := k3'.chg hc5 (.inl (by have := SZ.out; omega))
    replace gW := gW.trans (hc5.below (Nat.le_refl _) (by omega))
    have l4' := k4.lt
    clear hE hO5 hc5 hs5 y2
    obtain ⟨A1, hA1⟩ : ∃ A1, A1 = some (⟨gA, 0, none⟩ : Addr) := ⟨_, rfl⟩
    rw [← hA1] at oA k4
    clear hA1
    have z0 := k4.cell' (i := 0) rfl
    have z1 := k4.cell' (i := 1) rfl
    have z2 := k4.cell' (i := 2) rfl
    have p0 := k3'.cell' (i := 0) rfl
    have p1 := k3'.cell' (i := 1) rfl
    have p2 := k3'.cell' (i := 2) rfl
    have f2 := k3'.frozen
    have h2 := chg3 w5 (w0.heap.size + 1 + 1) (.int .i64 (r : Int)) (.int .i64 c) (.slice A1 N c1)
    have gw : Below w0.heap.size w0 w5 := (G0.out).trans (gW.mono (G0.out).size)
    have gs := gw.size
    have oA2 := (oA.chg h2 (.inr (by have := SZ.out; omega))).wider (lo' := w0.heap.size) (hi' := w5.heap.size) (by have := SZ.out; omega) (by omega)
    have fg := gw.trans (h2.below (by omega) gs)
    have OA2 := Lib.hid oA2
    have FG := Lib.hid fg
    clear oA oA2 fg gw h2 k3' k4 gW
    go_wp2
    exact bodyPost_ret (v := .agg #[.int .i64 (r : Int), .int .i64 c, .slice A1 N c1]) (by simp [results, go_sem, p0, p1, p2]) rfl ⟨_, rfl, ⟨_, rfl, (OA2.out).wider (Nat.le_refl _) (by simp), i1, i2⟩, FG.out⟩
end Go.Proofs.Ytbgjhnolnccnnaa
