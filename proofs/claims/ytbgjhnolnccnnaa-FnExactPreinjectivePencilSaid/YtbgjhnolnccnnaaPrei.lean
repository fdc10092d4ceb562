/- PreinjectivePencil: the reference's. -/
import Derived.Test.YtbgjhnolnccnnaaReg3
import Derived.Test.YtbgjhnolnccnnaaTran
import Derived.Test.YtbgjhnolnccnnaaPrep2
namespace Go.Proofs.Ytbgjhnolnccnnaa
set_option linter.unusedVariables false
set_option linter.unusedSimpArgs false
open Go.RowKit

def shF (d a b : Nat) : Int := if a = b + d then 1 else 0
theorem shA_F {n : Nat} (h : n ≤ 3) : shA n = mxF (n + 1) n (shF 0) := by
  rcases (show n = 0 ∨ n = 1 ∨ n = 2 ∨ n = 3 by omega) with rfl | rfl | rfl | rfl <;> decide
theorem shB_F {n : Nat} (h : n ≤ 3) : shB n = mxF (n + 1) n (shF 1) := by
  rcases (show n = 0 ∨ n = 1 ∨ n = 2 ∨ n = 3 by omega) with rfl | rfl | rfl | rfl <;> decide
def preiOf (p : Int) (N : Nat) : Rp × Bool := penOf p (mxF N (N + 1) (fun a b => shF 0 b a)) (mxF N (N + 1) (fun a b => shF 1 b a))
def preiP (p n : Int) : Rp × Bool := if inR n 0 3 then preiOf p n.toNat else (rp0, false)
theorem preiP_size (p n : Int) : (preiP p n).1.size ≤ 1000 := by
  unfold preiP
  split
  · exact penOf_size _ _ _
  · decide

set_option maxHeartbeats 6400000 in
set_option maxRecDepth 100000 in
theorem specPreinjectivePencil_any (p n : Int) (w0 : World) (hp : I64 p) (hn : I64 n) :
    Calls Try.prog 41 #[.int .i64 p, .int .i64 n] w0 fun e w' => ∃ r, e = .returned (.tuple #[r, .bool (preiP p n).2]) ∧ RepO w' w0.heap.size w'.heap.size r (preiP p n).1 ∧ Below w0.heap.size w0 w' := by
  obtain ⟨W, hW⟩ : ∃ W, W = w0.alloc (.cells #[.int .i64 0, .int .i64 0, .slice none 0 0, .slice none 0 0, .slice none 0 0, .slice none 0 0] 40) := ⟨_, rfl⟩
  have g0 : Below w0.heap.size w0 W := by rw [hW]; exact below_alloc _ _
  have kR : Blk W w0.heap.size 40 #[.int .i64 0, .int .i64 0, .slice none 0 0, .slice none 0 0, .slice none 0 0, .slice none 0 0] := by rw [hW]; exact Blk.new _ _ _
  have sz : W.heap.size = w0.heap.size + 1 := by rw [hW]; simp
  have SZ := Lib.hid sz
  rcases hB : inR n 0 3 with _ | _
  · have hF : Hid (preiP p n = (rp0, false)) := by show _ = _; simp [preiP, hB]
    have fr := kR.frozen
    have s0 := kR.cell' (i := 0) rfl
    have s1 := kR.cell' (i := 1) rfl
    have s2 := kR.cell' (i := 2) rfl
    have s3 := kR.cell' (i := 3) rfl
    have s4 := kR.cell' (i := 4) rfl
    have s5 := kR.cell' (i := 5) rfl
    have HB := Lib.hid hB
    clear hB sz
    go_enter Try.func41, Try.ntmps41
    go_wp2_with fail
    rw [← hW]; clear hW
    refine (l1In_any _ _ _ _).mono ?_; rintro e w1 ⟨rfl, rfl⟩
    rw [HB.out]
    go_wp2
    have sz := SZ.out
    refine bodyPost_ret (v := .tuple #[.agg #[.int .i64 0, .int .i64 0, .slice none 0 0, .slice none 0 0, .slice none 0 0, .slice none 0 0], .bool false]) (by simp [results, go_sem, s0, s1, s2, s3, s4, s5]) rfl ⟨_, by rw [hF.out], by rw [hF.out]; exact RepO.zero _ _ _, (((((g0.setCell (by simp) _).setCell (by simp) _).setCell (by simp) _).setCell (by simp) _).setCell (by simp) _).setCell (by simp) _⟩
  · obtain ⟨n1, n2⟩ := inR_t.1 hB
    obtain ⟨N, rfl⟩ := Int.eq_ofNat_of_zero_le n1
    obtain ⟨R, hR⟩ : ∃ R, R = preiOf p N := ⟨_, rfl⟩
    have HR := Lib.hid (show penOf p (mxF N (N + 1) (fun a b => shF 0 b a)) (mxF N (N + 1) (fun a b => shF 1 b a)) = R from hR.symm)
    have HRF : Hid (preiP p N = R) := by show _ = _; rw [preiP, hB, hR]; rfl
    have HB := Lib.hid hB
    have KR := Lib.hid kR
    have G0 := Lib.hid g0
    clear hB hR sz kR g0
    go_enter Try.func41, Try.ntmps41
    go_wp2_with fail
    rw [← hW]; clear hW
    refine (l1In_any _ _ _ _).mono ?_; rintro e w1' ⟨rfl, rfl⟩
    rw [HB.out]
    go_wp2_with fail
    refine (l26Shift_any N _ (by omega)).mono ?_; rintro e w1 ⟨ua, ub, rfl, ha, hb, hb1⟩
    rw [shA_F (by omega)] at ha
    rw [shB_F (by omega)] at hb
    obtain ⟨A1, ac, ea⟩ := ha.form
    obtain ⟨B1, bc, eb⟩ := hb.form
    subst ea eb
    have zA : (mxF (N + 1) N (shF 0)).r = (N : Int) + 1 := by simp [mxF]
    have zB : (mxF (N + 1) N (shF 1)).r = (N : Int) + 1 := by simp [mxF]
    have zA2 : (mxF (N + 1) N (shF 0)).c = (N : Int) := by simp [mxF]
    have zB2 : (mxF (N + 1) N (shF 1)).c = (N : Int) := by simp [mxF]
    obtain ⟨LA, hLA⟩ : ∃ L, (mxF (N + 1) N (shF 0)).a.length = L := ⟨_, rfl⟩
    obtain ⟨LB, hLB⟩ : ∃ L, (mxF (N + 1) N (shF 1)).a.length = L := ⟨_, rfl⟩
    rw [zA, zA2, hLA] at ha ⊢
    rw [zB, zB2, hLB] at hb ⊢
    clear zA zB zA2 zB2 hLA hLB
    obtain ⟨wr, hW2⟩ : ∃ u, u = (w1.alloc (.cells #[.int .i64 ((N : Int) + 1), .int .i64 N, .slice A1 LA ac] 60)).alloc (.cells #[.int .i64 ((N : Int) + 1), .int .i64 N, .slice B1 LB bc] 60) := ⟨_, rfl⟩
    have hb2 : Below w1.heap.size w1 wr := by rw [hW2]; exact ((Below.refl _ _).alloc (Nat.le_refl _) _).alloc (by simp) _
    have k4 : Blk wr w1.heap.size 60 #[.int .i64 ((N : Int) + 1), .int .i64 N, .slice A1 LA ac] := by rw [hW2]; exact (Blk.new _ _ _).alloc _
    have k5 : Blk wr (w1.heap.size + 1) 60 #[.int .i64 ((N : Int) + 1), .int .i64 N, .slice B1 LB bc] := by
      rw [hW2]
      have := Blk.new (w1.alloc (.cells #[.int .i64 ((N : Int) + 1), .int .i64 N, .slice A1 LA ac] 60)) 60 #[.int .i64 ((N : Int) + 1), .int .i64 N, .slice B1 LB bc]
      simpa only [World.size_alloc] using this
    go_wp2
    rw [← hW2]
    clear hW2
    have gW := bthen hb1 hb2
    have s6 := gW.size
    have HA := Lib.hid (MxR.next hb2 ha)
    have HB2 := Lib.hid (MxR.next hb2 hb)
    have GF := Lib.hid (G0.out.trans (gW.mono (G0.out).size))
    have HKR := Lib.hid (KR.out.below gW (by have := SZ.out; omega))
    clear gW hb1 hb2 ha hb
    refine wp_region_net2 (by kernel_rfl) [.eq (.int .i64 p), .eq (.agg #[.int .i64 ((N : Int) + 1), .int .i64 N, .slice A1 LA ac]), rel 2 (fun u lo hi w => MxO w lo hi u (mxF N (N + 1) (fun a b => shF 0 b a))), .eq (.agg #[.int .i64 ((N : Int) + 1), .int .i64 N, .slice B1 LB bc]), rel 4 (fun u lo hi w => MxO w lo hi u (mxF N (N + 1) (fun a b => shF 1 b a))), .rel (fun x w => ∃ A a C c E e H h, x.v 5 = .tuple #[.agg #[.int .i64 R.1.p, .int .i64 R.1.q.v, .slice A R.1.q.f.length a, .slice C R.1.q.t.length c, .slice E R.1.d.length e, .slice H R.1.m.length h], .bool R.2] ∧ RepO w (x.lo 5) (x.hi 5) (.agg #[.int .i64 R.1.p, .int .i64 R.1.q.v, .slice A R.1.q.f.length a, .slice C R.1.q.t.length c, .slice E R.1.d.length e, .slice H R.1.m.length h]) R.1), .rel (fun x w => ∃ A a C c E e H h, x.v 6 = .tuple #[.agg #[.int .i64 R.1.p, .int .i64 R.1.q.v, .slice A R.1.q.f.length a, .slice C R.1.q.t.length c, .slice E R.1.d.length e, .slice H R.1.m.length h], .bool R.2] ∧ RepO w (x.lo 5) (x.hi 5) (.agg #[.int .i64 R.1.p, .int .i64 R.1.q.v, .slice A R.1.q.f.length a, .slice C R.1.q.t.length c, .slice E R.1.d.length e, .slice H R.1.m.length h]) R.1), .rel (fun x w => ∃ A a C c E e H h, x.v 7 = .agg #[.int .i64 R.1.p, .int .i64 R.1.q.v, .slice A R.1.q.f.length a, .slice C R.1.q.t.length c, .slice E R.1.d.length e, .slice H R.1.m.length h] ∧ RepO w (x.lo 5) (x.hi 5) (.agg #[.int .i64 R.1.p, .int .i64 R.1.q.v, .slice A R.1.q.f.length a, .slice C R.1.q.t.length c, .slice E R.1.d.length e, .slice H R.1.m.length h]) R.1), .eq (.bool R.2), rel 9 (fun u lo hi w => ∃ g, u = .pointer (some ⟨g, 0, none⟩) ∧ (lo ≤ g ∧ g < hi) ∧ Blk w g 40 #[.int .i64 0, .int .i64 0, .slice none 0 0, .slice none 0 0, .slice none 0 0, .slice none 0 0])] [[], [], [1], [], [1, 2, 3], [0, 1, 2, 3, 4], [0, 1, 2, 3, 4, 5], [0, 1, 2, 3, 4, 5, 6], [0, 1, 2, 3, 4, 5, 6], [], [0, 1, 2, 3, 4, 5, 6, 7, 9], [0, 1, 2, 3, 4, 5, 6, 7, 8, 9, 10]] 10 8 [0, 1, 2, 3, 4, 5, 6, 7, 9] (by kernel_rfl) rfl ⟨trivial, trivial, rel_stable (fun u lo hi w w' h hb => h.below hb), trivial, rel_stable (fun u lo hi w w' h hb => h.below hb), fun x w w' ⟨A, a, C, c, E, e, H, h, e1, h1⟩ hb => ⟨A, a, C, c, E, e, H, h, e1, h1.below hb⟩, fun x w w' ⟨A, a, C, c, E, e, H, h, e1, h1⟩ hb => ⟨A, a, C, c, E, e, H, h, e1, h1.below hb⟩, fun x w w' ⟨A, a, C, c, E, e, H, h, e1, h1⟩ hb => ⟨A, a, C, c, E, e, H, h, e1, h1.below hb⟩, trivial, rel_stable (fun u lo hi w w' ⟨g, e, h1, h⟩ hb => ⟨g, e, h1, h.call hb⟩), trivial⟩ ⟨?_, ?_, ?_, ?_, ?_, ?_, ?_, ?_, ?_, ?_, trivial⟩ ?_ ?_
    · intro x w hb hk Q' hQ
      clear hk
      simp only [netAct, dstAt, List.getElem?_toArray, List.getElem?_cons_zero, List.getElem?_cons_succ, Option.bind_some, Act.put, List.setIfInBounds_toArray, List.set_cons_zero, List.set_cons_succ] at hQ ⊢
      go_wp2
      exact hQ (.int .i64 p) _ (Below.refl _ _) rfl
    · intro x w hb hk Q' hQ
      clear hk
      simp only [netAct, dstAt, List.getElem?_toArray, List.getElem?_cons_zero, List.getElem?_cons_succ, Option.bind_some, Act.put, List.setIfInBounds_toArray, List.set_cons_zero, List.set_cons_succ] at hQ ⊢
      have z0 := (k4.call hb).cell' (i := 0) rfl
      have z1 := (k4.call hb).cell' (i := 1) rfl
      have z2 := (k4.call hb).cell' (i := 2) rfl
      go_wp2
      exact hQ (.agg #[.int .i64 ((N : Int) + 1), .int .i64 N, .slice A1 LA ac]) _ (Below.refl _ _) rfl
    · intro x w hb hk Q' hQ
      have h1 : x.v 1 = .agg #[.int .i64 ((N : Int) + 1), .int .i64 N, .slice A1 LA ac] := (hk 1 (by decide)).1
      clear hk
      simp only [netAct, dstAt, List.getElem?_toArray, List.getElem?_cons_zero, List.getElem?_cons_succ, Option.bind_some, Act.put, List.setIfInBounds_toArray, List.set_cons_zero, List.set_cons_succ] at hQ ⊢
      simp only [h1] at hQ ⊢
      clear h1
      go_wp2_with fail
      refine (l3Transpose_any _ (N + 1) N (shF 0) _ (MxR.more hb.size (MxR.below hb HA.out)) (by omega) (by omega)).mono ?_; rintro e w5 ⟨v5, rfl, hO5, hb5⟩
      go_wp2
      exact hQ _ _ hb5 hO5
    · intro x w hb hk Q' hQ
      clear hk
      simp only [netAct, dstAt, List.getElem?_toArray, List.getElem?_cons_zero, List.getElem?_cons_succ, Option.bind_some, Act.put, List.setIfInBounds_toArray, List.set_cons_zero, List.set_cons_succ] at hQ ⊢
      have z0 := (k5.call hb).cell' (i := 0) rfl
      have z1 := (k5.call hb).cell' (i := 1) rfl
      have z2 := (k5.call hb).cell' (i := 2) rfl
      go_wp2
      exact hQ (.agg #[.int .i64 ((N : Int) + 1), .int .i64 N, .slice B1 LB bc]) _ (Below.refl _ _) rfl
    · intro x w hb hk Q' hQ
      have h1 : x.v 1 = .agg #[.int .i64 ((N : Int) + 1), .int .i64 N, .slice A1 LA ac] := (hk 1 (by decide)).1
      have h2 : MxO w (x.lo 2) (x.hi 2) (x.v 2) (mxF N (N + 1) (fun a b => shF 0 b a)) := (hk 2 (by decide)).1
      have h3 : x.v 3 = .agg #[.int .i64 ((N : Int) + 1), .int .i64 N, .slice B1 LB bc] := (hk 3 (by decide)).1
      have s2 := (hk 2 (by decide)).2
      clear hk
      simp only [netAct, dstAt, List.getElem?_toArray, List.getElem?_cons_zero, List.getElem?_cons_succ, Option.bind_some, Act.put, List.setIfInBounds_toArray, List.set_cons_zero, List.set_cons_succ] at hQ ⊢
      simp only [h1, h3] at hQ ⊢
      clear h1 h3
      go_wp2_with fail
      refine (l3Transpose_any _ (N + 1) N (shF 1) _ (MxR.more hb.size (MxR.below hb HB2.out)) (by omega) (by omega)).mono ?_; rintro e w5 ⟨v5, rfl, hO5, hb5⟩
      go_wp2
      exact hQ _ _ hb5 hO5
    · intro x w hb hk Q' hQ
      have h0 : x.v 0 = .int .i64 p := (hk 0 (by decide)).1
      have h1 : x.v 1 = .agg #[.int .i64 ((N : Int) + 1), .int .i64 N, .slice A1 LA ac] := (hk 1 (by decide)).1
      have h2 : MxO w (x.lo 2) (x.hi 2) (x.v 2) (mxF N (N + 1) (fun a b => shF 0 b a)) := (hk 2 (by decide)).1
      have h3 : x.v 3 = .agg #[.int .i64 ((N : Int) + 1), .int .i64 N, .slice B1 LB bc] := (hk 3 (by decide)).1
      have h4 : MxO w (x.lo 4) (x.hi 4) (x.v 4) (mxF N (N + 1) (fun a b => shF 1 b a)) := (hk 4 (by decide)).1
      have s2 := (hk 2 (by decide)).2
      have s4 := (hk 4 (by decide)).2
      clear hk
      simp only [netAct, dstAt, List.getElem?_toArray, List.getElem?_cons_zero, List.getElem?_cons_succ, Option.bind_some, Act.put, List.setIfInBounds_toArray, List.set_cons_zero, List.set_cons_succ] at hQ ⊢
      simp only [h0, h1, h3] at hQ ⊢
      clear h0 h1 h3
      obtain ⟨A2, c2, e2⟩ := h2.form
      obtain ⟨A4, c4, e4⟩ := h4.form
      simp only [mxF] at e2 e4
      rw [e2] at h2 hQ ⊢
      rw [e4] at h4 hQ ⊢
      go_wp2_with fail
      refine (specPencilOf_any p _ (mxF N (N + 1) (fun a b => shF 0 b a)) _ (mxF N (N + 1) (fun a b => shF 1 b a)) _ hp h2.rd h4.rd).mono ?_; rintro e w5 ⟨v5, rfl, hO5, hb5⟩
      rw [HR.out] at hO5 ⊢
      have HO5 := Lib.hid hO5
      obtain ⟨A, a, C, c, E, e, H, h, e5⟩ := hO5.form
      subst e5
      clear hO5
      go_wp2
      exact hQ _ _ hb5 ⟨A, a, C, c, E, e, H, h, rfl, HO5.out⟩
    · intro x w hb hk Q' hQ
      have h0 : x.v 0 = .int .i64 p := (hk 0 (by decide)).1
      have h1 : x.v 1 = .agg #[.int .i64 ((N : Int) + 1), .int .i64 N, .slice A1 LA ac] := (hk 1 (by decide)).1
      have h2 : MxO w (x.lo 2) (x.hi 2) (x.v 2) (mxF N (N + 1) (fun a b => shF 0 b a)) := (hk 2 (by decide)).1
      have h3 : x.v 3 = .agg #[.int .i64 ((N : Int) + 1), .int .i64 N, .slice B1 LB bc] := (hk 3 (by decide)).1
      have h4 : MxO w (x.lo 4) (x.hi 4) (x.v 4) (mxF N (N + 1) (fun a b => shF 1 b a)) := (hk 4 (by decide)).1
      have h5 : ∃ A a C c E e H h, x.v 5 = .tuple #[.agg #[.int .i64 R.1.p, .int .i64 R.1.q.v, .slice A R.1.q.f.length a, .slice C R.1.q.t.length c, .slice E R.1.d.length e, .slice H R.1.m.length h], .bool R.2] ∧ RepO w (x.lo 5) (x.hi 5) (.agg #[.int .i64 R.1.p, .int .i64 R.1.q.v, .slice A R.1.q.f.length a, .slice C R.1.q.t.length c, .slice E R.1.d.length e, .slice H R.1.m.length h]) R.1 := (hk 5 (by decide)).1
      have s2 := (hk 2 (by decide)).2
      have s4 := (hk 4 (by decide)).2
      have s5 := (hk 5 (by decide)).2
      clear hk
      simp only [netAct, dstAt, List.getElem?_toArray, List.getElem?_cons_zero, List.getElem?_cons_succ, Option.bind_some, Act.put, List.setIfInBounds_toArray, List.set_cons_zero, List.set_cons_succ] at hQ ⊢
      simp only [h0, h1, h3] at hQ ⊢
      clear h0 h1 h3
      obtain ⟨A, a, C, c, E, e, H, h, e4, ho⟩ := h5
      have hQ' := hQ (.tuple #[.agg #[.int .i64 R.1.p, .int .i64 R.1.q.v, .slice A R.1.q.f.length a, .slice C R.1.q.t.length c, .slice E R.1.d.length e, .slice H R.1.m.length h], .bool R.2]) w (Below.refl _ _) ⟨A, a, C, c, E, e, H, h, rfl, ho⟩
      rw [e4] at hQ' ⊢
      go_wp2
      exact hQ'
    · intro x w hb hk Q' hQ
      have h0 : x.v 0 = .int .i64 p := (hk 0 (by decide)).1
      have h1 : x.v 1 = .agg #[.int .i64 ((N : Int) + 1), .int .i64 N, .slice A1 LA ac] := (hk 1 (by decide)).1
      have h2 : MxO w (x.lo 2) (x.hi 2) (x.v 2) (mxF N (N + 1) (fun a b => shF 0 b a)) := (hk 2 (by decide)).1
      have h3 : x.v 3 = .agg #[.int .i64 ((N : Int) + 1), .int .i64 N, .slice B1 LB bc] := (hk 3 (by decide)).1
      have h4 : MxO w (x.lo 4) (x.hi 4) (x.v 4) (mxF N (N + 1) (fun a b => shF 1 b a)) := (hk 4 (by decide)).1
      have h5 : ∃ A a C c E e H h, x.v 5 = .tuple #[.agg #[.int .i64 R.1.p, .int .i64 R.1.q.v, .slice A R.1.q.f.length a, .slice C R.1.q.t.length c, .slice E R.1.d.length e, .slice H R.1.m.length h], .bool R.2] ∧ RepO w (x.lo 5) (x.hi 5) (.agg #[.int .i64 R.1.p, .int .i64 R.1.q.v, .slice A R.1.q.f.length a, .slice C R.1.q.t.length c, .slice E R.1.d.length e, .slice H R.1.m.length h]) R.1 := (hk 5 (by decide)).1
      have h6 : ∃ A a C c E e H h, x.v 6 = .tuple #[.agg #[.int .i64 R.1.p, .int .i64 R.1.q.v, .slice A R.1.q.f.length a, .slice C R.1.q.t.length c, .slice E R.1.d.length e, .slice H R.1.m.length h], .bool R.2] ∧ RepO w (x.lo 5) (x.hi 5) (.agg #[.int .i64 R.1.p, .int .i64 R.1.q.v, .slice A R.1.q.f.length a, .slice C R.1.q.t.length c, .slice E R.1.d.length e, .slice H R.1.m.length h]) R.1 := (hk 6 (by decide)).1
      have s2 := (hk 2 (by decide)).2
      have s4 := (hk 4 (by decide)).2
      have s5 := (hk 5 (by decide)).2
      have s6 := (hk 6 (by decide)).2
      clear hk
      simp only [netAct, dstAt, List.getElem?_toArray, List.getElem?_cons_zero, List.getElem?_cons_succ, Option.bind_some, Act.put, List.setIfInBounds_toArray, List.set_cons_zero, List.set_cons_succ] at hQ ⊢
      simp only [h0, h1, h3] at hQ ⊢
      clear h0 h1 h3
      obtain ⟨A, a, C, c, E, e, H, h, e4, ho⟩ := h6
      have hQ' := hQ (.agg #[.int .i64 R.1.p, .int .i64 R.1.q.v, .slice A R.1.q.f.length a, .slice C R.1.q.t.length c, .slice E R.1.d.length e, .slice H R.1.m.length h]) w (Below.refl _ _) ⟨A, a, C, c, E, e, H, h, rfl, ho⟩
      rw [e4] at hQ' ⊢
      go_wp2
      exact hQ'
    · intro x w hb hk Q' hQ
      have h6 : ∃ A a C c E e H h, x.v 6 = .tuple #[.agg #[.int .i64 R.1.p, .int .i64 R.1.q.v, .slice A R.1.q.f.length a, .slice C R.1.q.t.length c, .slice E R.1.d.length e, .slice H R.1.m.length h], .bool R.2] ∧ RepO w (x.lo 5) (x.hi 5) (.agg #[.int .i64 R.1.p, .int .i64 R.1.q.v, .slice A R.1.q.f.length a, .slice C R.1.q.t.length c, .slice E R.1.d.length e, .slice H R.1.m.length h]) R.1 := (hk 6 (by decide)).1
      clear hk
      simp only [netAct, dstAt, List.getElem?_toArray, List.getElem?_cons_zero, List.getElem?_cons_succ, Option.bind_some, Act.put, List.setIfInBounds_toArray, List.set_cons_zero, List.set_cons_succ] at hQ ⊢
      obtain ⟨A, a, C, c, E, e, H, h, e4, ho⟩ := h6
      rw [e4] at hQ ⊢
      go_wp2
      exact hQ (.bool R.2) _ (Below.refl _ _) rfl
    · intro x w hb hk Q' hQ
      clear hk
      simp only [netAct, dstAt, List.getElem?_toArray, List.getElem?_cons_zero, List.getElem?_cons_succ, Option.bind_some, Act.put, List.setIfInBounds_toArray, List.set_cons_zero, List.set_cons_succ] at hQ ⊢
      go_wp2
      exact hQ _ _ (below_alloc _ _) ⟨_, rfl, ⟨Nat.le_refl _, by show w.heap.size < (w.alloc _).heap.size; simp⟩, Blk.new _ _ _⟩
    · intro x w hb hk hiv hdj
      have h0 : x.v 0 = .int .i64 p := hk 0 (by decide)
      have h1 : x.v 1 = .agg #[.int .i64 ((N : Int) + 1), .int .i64 N, .slice A1 LA ac] := hk 1 (by decide)
      have h2 : MxO w (x.lo 2) (x.hi 2) (x.v 2) (mxF N (N + 1) (fun a b => shF 0 b a)) := hk 2 (by decide)
      have h3 : x.v 3 = .agg #[.int .i64 ((N : Int) + 1), .int .i64 N, .slice B1 LB bc] := hk 3 (by decide)
      have h4 : MxO w (x.lo 4) (x.hi 4) (x.v 4) (mxF N (N + 1) (fun a b => shF 1 b a)) := hk 4 (by decide)
      have h5 : ∃ A a C c E e H h, x.v 5 = .tuple #[.agg #[.int .i64 R.1.p, .int .i64 R.1.q.v, .slice A R.1.q.f.length a, .slice C R.1.q.t.length c, .slice E R.1.d.length e, .slice H R.1.m.length h], .bool R.2] ∧ RepO w (x.lo 5) (x.hi 5) (.agg #[.int .i64 R.1.p, .int .i64 R.1.q.v, .slice A R.1.q.f.length a, .slice C R.1.q.t.length c, .slice E R.1.d.length e, .slice H R.1.m.length h]) R.1 := hk 5 (by decide)
      have h6 : ∃ A a C c E e H h, x.v 6 = .tuple #[.agg #[.int .i64 R.1.p, .int .i64 R.1.q.v, .slice A R.1.q.f.length a, .slice C R.1.q.t.length c, .slice E R.1.d.length e, .slice H R.1.m.length h], .bool R.2] ∧ RepO w (x.lo 5) (x.hi 5) (.agg #[.int .i64 R.1.p, .int .i64 R.1.q.v, .slice A R.1.q.f.length a, .slice C R.1.q.t.length c, .slice E R.1.d.length e, .slice H R.1.m.length h]) R.1 := hk 6 (by decide)
      have h7 : ∃ A a C c E e H h, x.v 7 = .agg #[.int .i64 R.1.p, .int .i64 R.1.q.v, .slice A R.1.q.f.length a, .slice C R.1.q.t.length c, .slice E R.1.d.length e, .slice H R.1.m.length h] ∧ RepO w (x.lo 5) (x.hi 5) (.agg #[.int .i64 R.1.p, .int .i64 R.1.q.v, .slice A R.1.q.f.length a, .slice C R.1.q.t.length c, .slice E R.1.d.length e, .slice H R.1.m.length h]) R.1 := hk 7 (by decide)
      have h8 : x.v 8 = .bool R.2 := hk 8 (by decide)
      have h9 : ∃ g, (x.v 9) = .pointer (some ⟨g, 0, none⟩) ∧ ((x.lo 9) ≤ g ∧ g < (x.hi 9)) ∧ Blk w g 40 #[.int .i64 0, .int .i64 0, .slice none 0 0, .slice none 0 0, .slice none 0 0, .slice none 0 0] := hk 9 (by decide)
      clear hk
      simp only [netAct, dstAt, List.getElem?_toArray, List.getElem?_cons_zero, List.getElem?_cons_succ, Option.bind_some, Act.put, List.setIfInBounds_toArray, List.set_cons_zero, List.set_cons_succ]
      simp only [List.drop_succ_cons, List.drop_zero, h0, h1, h3, h8]
      clear h0 h1 h3 h8
      obtain ⟨A, a, C, c, E, e, H, h, e7, ho⟩ := h7
      obtain ⟨gR, e9, hg, kG⟩ := h9
      obtain ⟨An, an, Cn, cn, En, en, Hn, hn', e6, _⟩ := h6
      obtain ⟨l4, _, l4h⟩ := hiv 5 (by decide)
      obtain ⟨l8, _, l8h⟩ := hiv 9 (by decide)
      have d48 := hdj 5 9 (by decide) (by decide) (by decide)
      rw [e7, e9, e6]
      clear hiv hdj e7 e9 e6 h5 h4 h2 k5
      have sz := SZ.out
      have hkR := HKR.out.call hb
      have gX := (GF.out).trans (hb.mono (GF.out).size)
      have gXs := gX.size
      have hbs := hb.size
      have gfs := (GF.out).size
      have frG := kG.frozen
      have r0 := kG.cell' (i := 0) rfl
      have r1 := kG.cell' (i := 1) rfl
      have r2 := kG.cell' (i := 2) rfl
      have r3 := kG.cell' (i := 3) rfl
      have r4 := kG.cell' (i := 4) rfl
      have r5 := kG.cell' (i := 5) rfl
      obtain ⟨W3, e3⟩ : ∃ u, u = ((((((w.setCell ⟨gR, 0, none⟩ (.int .i64 R.1.p)).setCell ⟨gR, 1, none⟩ (.int .i64 R.1.q.v)).setCell ⟨gR, 2, none⟩ (.slice A R.1.q.f.length a)).setCell ⟨gR, 3, none⟩ (.slice C R.1.q.t.length c)).setCell ⟨gR, 4, none⟩ (.slice E R.1.d.length e)).setCell ⟨gR, 5, none⟩ (.slice H R.1.m.length h)) := ⟨_, rfl⟩
      have kB : Blk W3 gR 40 #[.int .i64 R.1.p, .int .i64 R.1.q.v, .slice A R.1.q.f.length a, .slice C R.1.q.t.length c, .slice E R.1.d.length e, .slice H R.1.m.length h] := by rw [e3]; exact ((((((kG.set_ 0 _).set_ 1 _).set_ 2 _).set_ 3 _).set_ 4 _).set_ 5 _)
      have hc : Chg gR (gR + 1) w W3 := by rw [e3]; exact chg6 _ _ _ _ _ _ _ _
      have hO3 := ho.chg hc (by omega)
      have hkR3 := hkR.chg hc (by omega)
      have g3 := gX.trans (hc.below (by omega) (by omega))
      have s3 := hc.size
      have fr3 := hkR3.frozen
      have p0 := kB.cell' (i := 0) rfl
      have p1 := kB.cell' (i := 1) rfl
      have p2 := kB.cell' (i := 2) rfl
      have p3 := kB.cell' (i := 3) rfl
      have p4 := kB.cell' (i := 4) rfl
      have p5 := kB.cell' (i := 5) rfl
      have q0 := hkR3.cell' (i := 0) rfl
      have q1 := hkR3.cell' (i := 1) rfl
      have q2 := hkR3.cell' (i := 2) rfl
      have q3 := hkR3.cell' (i := 3) rfl
      have q4 := hkR3.cell' (i := 4) rfl
      have q5 := hkR3.cell' (i := 5) rfl
      rw [e3] at fr3 p0 p1 p2 p3 p4 p5 q0 q1 q2 q3 q4 q5
      have hc6 := chg6 W3 w0.heap.size (.int .i64 R.1.p) (.int .i64 R.1.q.v) (.slice A R.1.q.f.length a) (.slice C R.1.q.t.length c) (.slice E R.1.d.length e) (.slice H R.1.m.length h)
      have OF := Lib.hid (RepO.wider (hO3.chg hc6 (.inr (by omega))) (lo' := w0.heap.size) (by omega) (hi' := W3.heap.size) (by omega))
      have GF2 := Lib.hid (g3.trans (hc6.below (Nat.le_refl _) g3.size))
      clear hO3 hc hc6 g3 kB hkR hkR3 kG gX ho k4 hb sz gXs hbs gfs s3 hg l4 l4h l8 l8h d48
      go_wp2
      rw [← e3]
      rw [← e3] at p0 p1 p2 p3 p4 p5 q0 q1 q2 q3 q4 q5
      exact bodyPost_ret (v := .tuple #[.agg #[.int .i64 R.1.p, .int .i64 R.1.q.v, .slice A R.1.q.f.length a, .slice C R.1.q.t.length c, .slice E R.1.d.length e, .slice H R.1.m.length h], .bool R.2]) (by simp [results, go_sem, q0, q1, q2, q3, q4, q5]) rfl ⟨_, by rw [HRF.out], by rw [HRF.out]; exact RepO.wider OF.out (Nat.le_refl _) (by simp), GF2.out⟩
    · intro x w hb hk hiv hdj om os hom hos
      simp only [List.getElem?_cons_zero, List.getElem?_cons_succ, Option.some.injEq] at hom hos
      subst hom hos
      have h0 : x.v 0 = .int .i64 p := hk 0 (by decide)
      have h1 : x.v 1 = .agg #[.int .i64 ((N : Int) + 1), .int .i64 N, .slice A1 LA ac] := hk 1 (by decide)
      have h2 : MxO w (x.lo 2) (x.hi 2) (x.v 2) (mxF N (N + 1) (fun a b => shF 0 b a)) := hk 2 (by decide)
      have h3 : x.v 3 = .agg #[.int .i64 ((N : Int) + 1), .int .i64 N, .slice B1 LB bc] := hk 3 (by decide)
      have h4 : MxO w (x.lo 4) (x.hi 4) (x.v 4) (mxF N (N + 1) (fun a b => shF 1 b a)) := hk 4 (by decide)
      have h5 : ∃ A a C c E e H h, x.v 5 = .tuple #[.agg #[.int .i64 R.1.p, .int .i64 R.1.q.v, .slice A R.1.q.f.length a, .slice C R.1.q.t.length c, .slice E R.1.d.length e, .slice H R.1.m.length h], .bool R.2] ∧ RepO w (x.lo 5) (x.hi 5) (.agg #[.int .i64 R.1.p, .int .i64 R.1.q.v, .slice A R.1.q.f.length a, .slice C R.1.q.t.length c, .slice E R.1.d.length e, .slice H R.1.m.length h]) R.1 := hk 5 (by decide)
      have h6 : ∃ A a C c E e H h, x.v 6 = .tuple #[.agg #[.int .i64 R.1.p, .int .i64 R.1.q.v, .slice A R.1.q.f.length a, .slice C R.1.q.t.length c, .slice E R.1.d.length e, .slice H R.1.m.length h], .bool R.2] ∧ RepO w (x.lo 5) (x.hi 5) (.agg #[.int .i64 R.1.p, .int .i64 R.1.q.v, .slice A R.1.q.f.length a, .slice C R.1.q.t.length c, .slice E R.1.d.length e, .slice H R.1.m.length h]) R.1 := hk 6 (by decide)
      have h7 : ∃ A a C c E e H h, x.v 7 = .agg #[.int .i64 R.1.p, .int .i64 R.1.q.v, .slice A R.1.q.f.length a, .slice C R.1.q.t.length c, .slice E R.1.d.length e, .slice H R.1.m.length h] ∧ RepO w (x.lo 5) (x.hi 5) (.agg #[.int .i64 R.1.p, .int .i64 R.1.q.v, .slice A R.1.q.f.length a, .slice C R.1.q.t.length c, .slice E R.1.d.length e, .slice H R.1.m.length h]) R.1 := hk 7 (by decide)
      have h9 : ∃ g, (x.v 9) = .pointer (some ⟨g, 0, none⟩) ∧ ((x.lo 9) ≤ g ∧ g < (x.hi 9)) ∧ Blk w g 40 #[.int .i64 0, .int .i64 0, .slice none 0 0, .slice none 0 0, .slice none 0 0, .slice none 0 0] := hk 9 (by decide)
      clear hk
      simp only [List.foldl_cons, List.foldl_nil, netAct, dstAt, List.getElem?_toArray, List.getElem?_cons_zero, List.getElem?_cons_succ, Option.bind_some, Act.put, List.setIfInBounds_toArray, List.set_cons_zero, List.set_cons_succ]
      simp only [List.drop_succ_cons, List.drop_zero, h0, h1, h3]
      clear h0 h1 h3
      obtain ⟨A, a, C, c, E, e, H, h, e7, ho⟩ := h7
      obtain ⟨gR, e9, hg, kG⟩ := h9
      obtain ⟨An, an, Cn, cn, En, en, Hn, hn', e6, _⟩ := h6
      obtain ⟨l4, _, l4h⟩ := hiv 5 (by decide)
      obtain ⟨l8, _, l8h⟩ := hiv 9 (by decide)
      have d48 := hdj 5 9 (by decide) (by decide) (by decide)
      rw [e7, e9, e6]
      clear hiv hdj e7 e9 e6 h5 h4 h2 k5
      have sz := SZ.out
      have hkR := HKR.out.call hb
      have gX := (GF.out).trans (hb.mono (GF.out).size)
      have gXs := gX.size
      have hbs := hb.size
      have gfs := (GF.out).size
      have frG := kG.frozen
      have r0 := kG.cell' (i := 0) rfl
      have r1 := kG.cell' (i := 1) rfl
      have r2 := kG.cell' (i := 2) rfl
      have r3 := kG.cell' (i := 3) rfl
      have r4 := kG.cell' (i := 4) rfl
      have r5 := kG.cell' (i := 5) rfl
      obtain ⟨W3, e3⟩ : ∃ u, u = ((((((w.setCell ⟨gR, 0, none⟩ (.int .i64 R.1.p)).setCell ⟨gR, 1, none⟩ (.int .i64 R.1.q.v)).setCell ⟨gR, 2, none⟩ (.slice A R.1.q.f.length a)).setCell ⟨gR, 3, none⟩ (.slice C R.1.q.t.length c)).setCell ⟨gR, 4, none⟩ (.slice E R.1.d.length e)).setCell ⟨gR, 5, none⟩ (.slice H R.1.m.length h)) := ⟨_, rfl⟩
      have kB : Blk W3 gR 40 #[.int .i64 R.1.p, .int .i64 R.1.q.v, .slice A R.1.q.f.length a, .slice C R.1.q.t.length c, .slice E R.1.d.length e, .slice H R.1.m.length h] := by rw [e3]; exact ((((((kG.set_ 0 _).set_ 1 _).set_ 2 _).set_ 3 _).set_ 4 _).set_ 5 _)
      have hc : Chg gR (gR + 1) w W3 := by rw [e3]; exact chg6 _ _ _ _ _ _ _ _
      have hO3 := ho.chg hc (by omega)
      have hkR3 := hkR.chg hc (by omega)
      have g3 := gX.trans (hc.below (by omega) (by omega))
      have s3 := hc.size
      have fr3 := hkR3.frozen
      have p0 := kB.cell' (i := 0) rfl
      have p1 := kB.cell' (i := 1) rfl
      have p2 := kB.cell' (i := 2) rfl
      have p3 := kB.cell' (i := 3) rfl
      have p4 := kB.cell' (i := 4) rfl
      have p5 := kB.cell' (i := 5) rfl
      have q0 := hkR3.cell' (i := 0) rfl
      have q1 := hkR3.cell' (i := 1) rfl
      have q2 := hkR3.cell' (i := 2) rfl
      have q3 := hkR3.cell' (i := 3) rfl
      have q4 := hkR3.cell' (i := 4) rfl
      have q5 := hkR3.cell' (i := 5) rfl
      rw [e3] at fr3 p0 p1 p2 p3 p4 p5 q0 q1 q2 q3 q4 q5
      have hc6 := chg6 W3 w0.heap.size (.int .i64 R.1.p) (.int .i64 R.1.q.v) (.slice A R.1.q.f.length a) (.slice C R.1.q.t.length c) (.slice E R.1.d.length e) (.slice H R.1.m.length h)
      have OF := Lib.hid (RepO.wider (hO3.chg hc6 (.inr (by omega))) (lo' := w0.heap.size) (by omega) (hi' := W3.heap.size) (by omega))
      have GF2 := Lib.hid (g3.trans (hc6.below (Nat.le_refl _) g3.size))
      clear hO3 hc hc6 g3 kB hkR hkR3 kG gX ho k4 hb sz gXs hbs gfs s3 hg l4 l4h l8 l8h d48
      go_wp2
      rw [← e3]
      rw [← e3] at p0 p1 p2 p3 p4 p5 q0 q1 q2 q3 q4 q5
      exact bodyPost_ret (v := .tuple #[.agg #[.int .i64 R.1.p, .int .i64 R.1.q.v, .slice A R.1.q.f.length a, .slice C R.1.q.t.length c, .slice E R.1.d.length e, .slice H R.1.m.length h], .bool R.2]) (by simp [results, go_sem, q0, q1, q2, q3, q4, q5]) rfl ⟨_, by rw [HRF.out], by rw [HRF.out]; exact RepO.wider OF.out (Nat.le_refl _) (by simp), GF2.out⟩
end Go.Proofs.Ytbgjhnolnccnnaa
