/- PencilAt: the program's. -/
import Derived.Test.YtbgjhnolnccnnaaPenAt2
namespace Go.Proofs.Ytbgjhnolnccnnaa
set_option linter.unusedVariables false
set_option linter.unusedSimpArgs false
open Go.RowKit
def pAtP (x : Rp) (a b : Int) : Mx × Bool := if isPen x then (penM x (a % x.p) (b % x.p), true) else (mx0, false)
theorem pAtP_no {x : Rp} {a b : Int} (h : isPen x = false) : pAtP x a b = (mx0, false) := by simp [pAtP, h]
theorem pAtP_yes {x : Rp} {a b : Int} (h : isPen x = true) : pAtP x a b = (penM x (a % x.p) (b % x.p), true) := by simp [pAtP, h]
set_option maxHeartbeats 3200000 in
set_option maxRecDepth 100000 in
theorem implPA_no (u : Value) (x : Rp) (v1 v2 : Int) (w0 : World) (hu : RpR w0 w0.heap.size u x) (hno : isPen x = false) :
    Calls Try.prog 53 #[u, .int .i64 v1, .int .i64 v2] w0 fun e w' => ∃ r, e = .returned (.tuple #[r, .bool (pAtP x v1 v2).2]) ∧ MxO w' w0.heap.size w'.heap.size r (pAtP x v1 v2).1 ∧ Below w0.heap.size w0 w' := by
  have hu' := hu
  obtain ⟨A, a, C, c, E, e, H, h, rfl, hq, hd, hm, hp, ld, lm⟩ := hu.open_
  clear hu
  obtain ⟨W, hW⟩ : ∃ W, W = (w0.alloc (.cells #[.int .i64 x.p, .int .i64 x.q.v, .slice A x.q.f.length a, .slice C x.q.t.length c, .slice E x.d.length e, .slice H x.m.length h] 40)).alloc (.cells #[.int .i64 0, .int .i64 0, .slice none 0 0] 60) := ⟨_, rfl⟩
  have g0 : Below w0.heap.size w0 W := by rw [hW]; exact ((Below.refl _ _).alloc (Nat.le_refl _) _).alloc (by simp) _
  have kB : Blk W w0.heap.size 40 #[.int .i64 x.p, .int .i64 x.q.v, .slice A x.q.f.length a, .slice C x.q.t.length c, .slice E x.d.length e, .slice H x.m.length h] := by rw [hW]; exact (Blk.new _ _ _).alloc _
  have kR : Blk W (w0.heap.size + 1) 60 #[.int .i64 0, .int .i64 0, .slice none 0 0] := by
    rw [hW]
    have := Blk.new (w0.alloc (.cells #[.int .i64 x.p, .int .i64 x.q.v, .slice A x.q.f.length a, .slice C x.q.t.length c, .slice E x.d.length e, .slice H x.m.length h] 40)) 60 #[.int .i64 0, .int .i64 0, .slice none 0 0]
    simpa only [World.size_alloc] using this
  have sz : W.heap.size = w0.heap.size + 1 + 1 := by rw [hW]; simp
  replace hq := QvR.next g0 hq
  replace hd := SlI.next g0 hd
  replace hm := SlM.next g0 hm
  have HF := Lib.hid (pAtP_no (a := v1) (b := v2) hno)
  have H1 := Lib.hid hno
  have SZ := Lib.hid sz
  have HXR := Lib.hid (show RpR W W.heap.size (.agg #[.int .i64 x.p, .int .i64 x.q.v, .slice A x.q.f.length a, .slice C x.q.t.length c, .slice E x.d.length e, .slice H x.m.length h]) x from RpR.next g0 hu')
  clear hno sz hq hd hm hu'
  have c0 := kB.cell' (i := 0) rfl
  have c1 := kB.cell' (i := 1) rfl
  have c2 := kB.cell' (i := 2) rfl
  have c3 := kB.cell' (i := 3) rfl
  have c4 := kB.cell' (i := 4) rfl
  have c5 := kB.cell' (i := 5) rfl
  go_enter Try.func53, Try.ntmps53
  go_wp2_with fail
  rw [← hW]; clear hW
  refine (implIsPencil_any _ x _ HXR.out).mono ?_; rintro e w1 ⟨rfl, hb1⟩
  rw [H1.out]
  replace kR := kR.call hb1
  replace kB := kB.call hb1
  replace g0 := bthen g0 hb1
  have hs1 := hb1.size
  clear c0 c1 c2 c3 c4 c5 hb1
  have hF := HF.out
  have sz := SZ.out
  have kZ := kR
  have p0 := kZ.cell' (i := 0) rfl
  have p1 := kZ.cell' (i := 1) rfl
  have p2 := kZ.cell' (i := 2) rfl
  have fr := kZ.frozen
  clear hF kR kB
  go_wp2
  have hF := HF.out
  exact bodyPost_ret (v := .tuple #[.agg #[.int .i64 0, .int .i64 0, .slice none 0 0], .bool false]) (by simp [results, go_sem, p0, p1, p2]) rfl ⟨_, by rw [hF], by rw [hF]; exact MxO.zero _ _ _, ((g0.setCell (by simp) _).setCell (by simp) _).setCell (by simp) _⟩
set_option maxHeartbeats 3200000 in
set_option maxRecDepth 100000 in
theorem specPA_no (u : Value) (x : Rp) (v1 v2 : Int) (w0 : World) (hu : RpR w0 w0.heap.size u x) (hno : isPen x = false) :
    Calls Try.prog 52 #[u, .int .i64 v1, .int .i64 v2] w0 fun e w' => ∃ r, e = .returned (.tuple #[r, .bool (pAtP x v1 v2).2]) ∧ MxO w' w0.heap.size w'.heap.size r (pAtP x v1 v2).1 ∧ Below w0.heap.size w0 w' := by
  have hu' := hu
  obtain ⟨A, a, C, c, E, e, H, h, rfl, hq, hd, hm, hp, ld, lm⟩ := hu.open_
  clear hu
  obtain ⟨W, hW⟩ : ∃ W, W = (w0.alloc (.cells #[.int .i64 x.p, .int .i64 x.q.v, .slice A x.q.f.length a, .slice C x.q.t.length c, .slice E x.d.length e, .slice H x.m.length h] 40)).alloc (.cells #[.int .i64 0, .int .i64 0, .slice none 0 0] 60) := ⟨_, rfl⟩
  have g0 : Below w0.heap.size w0 W := by rw [hW]; exact ((Below.refl _ _).alloc (Nat.le_refl _) _).alloc (by simp) _
  have kB : Blk W w0.heap.size 40 #[.int .i64 x.p, .int .i64 x.q.v, .slice A x.q.f.length a, .slice C x.q.t.length c, .slice E x.d.length e, .slice H x.m.length h] := by rw [hW]; exact (Blk.new _ _ _).alloc _
  have kR : Blk W (w0.heap.size + 1) 60 #[.int .i64 0, .int .i64 0, .slice none 0 0] := by
    rw [hW]
    have := Blk.new (w0.alloc (.cells #[.int .i64 x.p, .int .i64 x.q.v, .slice A x.q.f.length a, .slice C x.q.t.length c, .slice E x.d.length e, .slice H x.m.length h] 40)) 60 #[.int .i64 0, .int .i64 0, .slice none 0 0]
    simpa only [World.size_alloc] using this
  have sz : W.heap.size = w0.heap.size + 1 + 1 := by rw [hW]; simp
  replace hq := QvR.next g0 hq
  replace hd := SlI.next g0 hd
  replace hm := SlM.next g0 hm
  have HF := Lib.hid (pAtP_no (a := v1) (b := v2) hno)
  have H1 := Lib.hid hno
  have SZ := Lib.hid sz
  have HXR := Lib.hid (show RpR W W.heap.size (.agg #[.int .i64 x.p, .int .i64 x.q.v, .slice A x.q.f.length a, .slice C x.q.t.length c, .slice E x.d.length e, .slice H x.m.length h]) x from RpR.next g0 hu')
  clear hno sz hq hd hm hu'
  have c0 := kB.cell' (i := 0) rfl
  have c1 := kB.cell' (i := 1) rfl
  have c2 := kB.cell' (i := 2) rfl
  have c3 := kB.cell' (i := 3) rfl
  have c4 := kB.cell' (i := 4) rfl
  have c5 := kB.cell' (i := 5) rfl
  go_enter Try.func52, Try.ntmps52
  go_wp2_with fail
  rw [← hW]; clear hW
  refine (specIsPencil_any _ x _ HXR.out).mono ?_; rintro e w1 ⟨rfl, hb1⟩
  rw [H1.out]
  replace kR := kR.call hb1
  replace kB := kB.call hb1
  replace g0 := bthen g0 hb1
  have hs1 := hb1.size
  clear c0 c1 c2 c3 c4 c5 hb1
  have hF := HF.out
  have sz := SZ.out
  have kZ := kR
  have p0 := kZ.cell' (i := 0) rfl
  have p1 := kZ.cell' (i := 1) rfl
  have p2 := kZ.cell' (i := 2) rfl
  have fr := kZ.frozen
  clear hF kR kB
  go_wp2
  have hF := HF.out
  exact bodyPost_ret (v := .tuple #[.agg #[.int .i64 0, .int .i64 0, .slice none 0 0], .bool false]) (by simp [results, go_sem, p0, p1, p2]) rfl ⟨_, by rw [hF], by rw [hF]; exact MxO.zero _ _ _, ((g0.setCell (by simp) _).setCell (by simp) _).setCell (by simp) _⟩
set_option maxHeartbeats 6400000 in
set_option maxRecDepth 100000 in
theorem implPA_yes (u : Value) (x : Rp) (v1 v2 : Int) (w0 : World) (hu : RpR w0 w0.heap.size u x) (hv1 : I64 v1) (hv2 : I64 v2) (hyes : isPen x = true) :
    Calls Try.prog 53 #[u, .int .i64 v1, .int .i64 v2] w0 fun e w' => ∃ r, e = .returned (.tuple #[r, .bool (pAtP x v1 v2).2]) ∧ MxO w' w0.heap.size w'.heap.size r (pAtP x v1 v2).1 ∧ Below w0.heap.size w0 w' := by
  have hu' := hu
  obtain ⟨A, a, C, c, E, e, H, h, rfl, hq, hd, hm, hp, ld, lm⟩ := hu.open_
  clear hu
  obtain ⟨W, hW⟩ : ∃ W, W = (w0.alloc (.cells #[.int .i64 x.p, .int .i64 x.q.v, .slice A x.q.f.length a, .slice C x.q.t.length c, .slice E x.d.length e, .slice H x.m.length h] 40)).alloc (.cells #[.int .i64 0, .int .i64 0, .slice none 0 0] 60) := ⟨_, rfl⟩
  have g0 : Below w0.heap.size w0 W := by rw [hW]; exact ((Below.refl _ _).alloc (Nat.le_refl _) _).alloc (by simp) _
  have kB : Blk W w0.heap.size 40 #[.int .i64 x.p, .int .i64 x.q.v, .slice A x.q.f.length a, .slice C x.q.t.length c, .slice E x.d.length e, .slice H x.m.length h] := by rw [hW]; exact (Blk.new _ _ _).alloc _
  have kR : Blk W (w0.heap.size + 1) 60 #[.int .i64 0, .int .i64 0, .slice none 0 0] := by
    rw [hW]
    have := Blk.new (w0.alloc (.cells #[.int .i64 x.p, .int .i64 x.q.v, .slice A x.q.f.length a, .slice C x.q.t.length c, .slice E x.d.length e, .slice H x.m.length h] 40)) 60 #[.int .i64 0, .int .i64 0, .slice none 0 0]
    simpa only [World.size_alloc] using this
  have sz : W.heap.size = w0.heap.size + 1 + 1 := by rw [hW]; simp
  replace hq := QvR.next g0 hq
  replace hd := SlI.next g0 hd
  replace hm := SlM.next g0 hm
  have hp : isFld x.p = true := by obtain ⟨_, _, _, _, _, _, _, _, hp, _⟩ := pen_at hyes; exact hp
  have hpr := isFld_r hp
  have HF := Lib.hid (pAtP_yes (a := v1) (b := v2) hyes)
  have H1 := Lib.hid hyes
  have HP := Lib.hid hp
  have SZ := Lib.hid sz
  have HXR := Lib.hid (show RpR W W.heap.size (.agg #[.int .i64 x.p, .int .i64 x.q.v, .slice A x.q.f.length a, .slice C x.q.t.length c, .slice E x.d.length e, .slice H x.m.length h]) x from RpR.next g0 hu')
  have GW0 := Lib.hid g0
  clear hyes sz hq hd hm hu' hp g0
  have c0 := kB.cell' (i := 0) rfl
  have c1 := kB.cell' (i := 1) rfl
  have c2 := kB.cell' (i := 2) rfl
  have c3 := kB.cell' (i := 3) rfl
  have c4 := kB.cell' (i := 4) rfl
  have c5 := kB.cell' (i := 5) rfl
  go_enter Try.func53, Try.ntmps53
  go_wp2_with fail
  rw [← hW]; clear hW
  refine (implIsPencil_any _ x _ HXR.out).mono ?_; rintro e wr ⟨rfl, hb1⟩
  rw [H1.out]
  replace kR := kR.call hb1
  replace kB := kB.call hb1
  have hs1 := hb1.size
  have gW := hb1
  clear c0 c1 c2 c3 c4 c5 hb1
  go_wp2
  obtain ⟨y, hy⟩ : ∃ y, y = x := ⟨_, rfl⟩
  subst hy
  refine wp_region_net (by kernel_rfl) [.eq (.agg #[.int .i64 y.p, .int .i64 y.q.v, .slice A y.q.f.length a, .slice C y.q.t.length c, .slice E y.d.length e, .slice H y.m.length h]), .eq (.pointer (some ⟨w0.heap.size, 0, none⟩)), .eq (.int .i64 y.p), .eq (.int .i64 v1), .eq (.int .i64 (v1 % y.p)), .eq (.pointer (some ⟨w0.heap.size, 0, none⟩)), .eq (.int .i64 y.p), .eq (.int .i64 v2), .eq (.int .i64 (v2 % y.p)), rel 9 (fun u lo hi w => MxO w lo hi u (penM y (v1 % y.p) (v2 % y.p)))] [[], [], [1], [], [1, 2, 3], [], [5], [], [1, 2, 3, 4, 5, 6, 7], [0, 1, 2, 3, 4, 5, 6, 7, 8], [0, 1, 2, 3, 4, 5, 6, 7, 8, 9], [0, 1, 2, 3, 4, 5, 6, 7, 8, 9, 10]] 10 (by kernel_rfl) ⟨trivial, trivial, trivial, trivial, trivial, trivial, trivial, trivial, trivial, rel_stable (fun u lo hi w w' h hb => h.below hb), trivial⟩ ⟨?_, ?_, ?_, ?_, ?_, ?_, ?_, ?_, ?_, ?_, trivial⟩ ?_
  · intro x w hb hk Q' hQ
    clear hk
    simp only [netAct, dstAt, List.getElem?_toArray, List.getElem?_cons_zero, List.getElem?_cons_succ, Option.bind_some, Act.put, List.setIfInBounds_toArray, List.set_cons_zero, List.set_cons_succ] at hQ ⊢
    have kk := kB.call hb
    have q0 := kk.cell' (i := 0) rfl
    have q1 := kk.cell' (i := 1) rfl
    have q2 := kk.cell' (i := 2) rfl
    have q3 := kk.cell' (i := 3) rfl
    have q4 := kk.cell' (i := 4) rfl
    have q5 := kk.cell' (i := 5) rfl
    clear kk
    go_wp2
    exact hQ (.agg #[.int .i64 y.p, .int .i64 y.q.v, .slice A y.q.f.length a, .slice C y.q.t.length c, .slice E y.d.length e, .slice H y.m.length h]) _ (Below.refl _ _) rfl
  · intro x w hb hk Q' hQ
    clear hk
    simp only [netAct, dstAt, List.getElem?_toArray, List.getElem?_cons_zero, List.getElem?_cons_succ, Option.bind_some, Act.put, List.setIfInBounds_toArray, List.set_cons_zero, List.set_cons_succ] at hQ ⊢
    go_wp2
    exact hQ (.pointer (some ⟨w0.heap.size, 0, none⟩)) _ (Below.refl _ _) rfl
  · intro x w hb hk Q' hQ
    have h1 : x.v 1 = .pointer (some ⟨w0.heap.size, 0, none⟩) := (hk 1 (by decide)).1
    clear hk
    simp only [netAct, dstAt, List.getElem?_toArray, List.getElem?_cons_zero, List.getElem?_cons_succ, Option.bind_some, Act.put, List.setIfInBounds_toArray, List.set_cons_zero, List.set_cons_succ] at hQ ⊢
    simp only [h1] at hQ ⊢
    clear h1
    have q0 := (kB.call hb).cell' (i := 0) rfl
    go_wp2
    exact hQ (.int .i64 y.p) _ (Below.refl _ _) rfl
  · intro x w hb hk Q' hQ
    clear hk
    simp only [netAct, dstAt, List.getElem?_toArray, List.getElem?_cons_zero, List.getElem?_cons_succ, Option.bind_some, Act.put, List.setIfInBounds_toArray, List.set_cons_zero, List.set_cons_succ] at hQ ⊢
    go_wp2
    exact hQ (.int .i64 v1) _ (Below.refl _ _) rfl
  · intro x w hb hk Q' hQ
    have h2 : x.v 2 = .int .i64 y.p := (hk 2 (by decide)).1
    have h3 : x.v 3 = .int .i64 v1 := (hk 3 (by decide)).1
    clear hk
    simp only [netAct, dstAt, List.getElem?_toArray, List.getElem?_cons_zero, List.getElem?_cons_succ, Option.bind_some, Act.put, List.setIfInBounds_toArray, List.set_cons_zero, List.set_cons_succ] at hQ ⊢
    simp only [h2, h3] at hQ ⊢
    clear h2 h3
    go_wp2_with fail
    refine (reduceMod_any _ _ _ HP.out hv1).mono ?_; rintro e w5 ⟨rfl, rfl⟩
    go_wp2
    exact hQ (.int .i64 (v1 % y.p)) _ (Below.refl _ _) rfl
  · intro x w hb hk Q' hQ
    clear hk
    simp only [netAct, dstAt, List.getElem?_toArray, List.getElem?_cons_zero, List.getElem?_cons_succ, Option.bind_some, Act.put, List.setIfInBounds_toArray, List.set_cons_zero, List.set_cons_succ] at hQ ⊢
    go_wp2
    exact hQ (.pointer (some ⟨w0.heap.size, 0, none⟩)) _ (Below.refl _ _) rfl
  · intro x w hb hk Q' hQ
    have h5 : x.v 5 = .pointer (some ⟨w0.heap.size, 0, none⟩) := (hk 5 (by decide)).1
    clear hk
    simp only [netAct, dstAt, List.getElem?_toArray, List.getElem?_cons_zero, List.getElem?_cons_succ, Option.bind_some, Act.put, List.setIfInBounds_toArray, List.set_cons_zero, List.set_cons_succ] at hQ ⊢
    simp only [h5] at hQ ⊢
    clear h5
    have q0 := (kB.call hb).cell' (i := 0) rfl
    go_wp2
    exact hQ (.int .i64 y.p) _ (Below.refl _ _) rfl
  · intro x w hb hk Q' hQ
    clear hk
    simp only [netAct, dstAt, List.getElem?_toArray, List.getElem?_cons_zero, List.getElem?_cons_succ, Option.bind_some, Act.put, List.setIfInBounds_toArray, List.set_cons_zero, List.set_cons_succ] at hQ ⊢
    go_wp2
    exact hQ (.int .i64 v2) _ (Below.refl _ _) rfl
  · intro x w hb hk Q' hQ
    have h6 : x.v 6 = .int .i64 y.p := (hk 6 (by decide)).1
    have h7 : x.v 7 = .int .i64 v2 := (hk 7 (by decide)).1
    clear hk
    simp only [netAct, dstAt, List.getElem?_toArray, List.getElem?_cons_zero, List.getElem?_cons_succ, Option.bind_some, Act.put, List.setIfInBounds_toArray, List.set_cons_zero, List.set_cons_succ] at hQ ⊢
    simp only [h6, h7] at hQ ⊢
    clear h6 h7
    go_wp2_with fail
    refine (reduceMod_any _ _ _ HP.out hv2).mono ?_; rintro e w5 ⟨rfl, rfl⟩
    go_wp2
    exact hQ (.int .i64 (v2 % y.p)) _ (Below.refl _ _) rfl
  · intro x w hb hk Q' hQ
    have h0 : x.v 0 = .agg #[.int .i64 y.p, .int .i64 y.q.v, .slice A y.q.f.length a, .slice C y.q.t.length c, .slice E y.d.length e, .slice H y.m.length h] := (hk 0 (by decide)).1
    have h1 : x.v 1 = .pointer (some ⟨w0.heap.size, 0, none⟩) := (hk 1 (by decide)).1
    have h2 : x.v 2 = .int .i64 y.p := (hk 2 (by decide)).1
    have h3 : x.v 3 = .int .i64 v1 := (hk 3 (by decide)).1
    have h4 : x.v 4 = .int .i64 (v1 % y.p) := (hk 4 (by decide)).1
    have h5 : x.v 5 = .pointer (some ⟨w0.heap.size, 0, none⟩) := (hk 5 (by decide)).1
    have h6 : x.v 6 = .int .i64 y.p := (hk 6 (by decide)).1
    have h7 : x.v 7 = .int .i64 v2 := (hk 7 (by decide)).1
    have h8 : x.v 8 = .int .i64 (v2 % y.p) := (hk 8 (by decide)).1
    clear hk
    simp only [netAct, dstAt, List.getElem?_toArray, List.getElem?_cons_zero, List.getElem?_cons_succ, Option.bind_some, Act.put, List.setIfInBounds_toArray, List.set_cons_zero, List.set_cons_succ] at hQ ⊢
    simp only [h0, h1, h2, h3, h4, h5, h6, h7, h8] at hQ ⊢
    clear h0 h1 h2 h3 h4 h5 h6 h7 h8
    have hr := RpR.more (show W.heap.size ≤ w.heap.size by have := hb.size; omega) (RpR.below (gW.trans (hb.mono hs1)) HXR.out)
    have HR := Lib.hid hr
    have m1 := Int.emod_nonneg v1 (show y.p ≠ 0 by omega)
    have m2 := Int.emod_lt_of_pos v1 (show 0 < y.p by omega)
    have m3 := Int.emod_nonneg v2 (show y.p ≠ 0 by omega)
    have m4 := Int.emod_lt_of_pos v2 (show 0 < y.p by omega)
    clear hr
    go_wp2_with fail
    refine (pencilAt_any _ y _ _ _ HR.out H1.out (by omega) (by omega)).mono ?_; rintro e w5 ⟨v5, rfl, hO5, hb5⟩
    go_wp2
    exact hQ _ _ hb5 hO5
  · intro x w hb hk hiv hdj
    have h0 : x.v 0 = .agg #[.int .i64 y.p, .int .i64 y.q.v, .slice A y.q.f.length a, .slice C y.q.t.length c, .slice E y.d.length e, .slice H y.m.length h] := hk 0 (by decide)
    have h1 : x.v 1 = .pointer (some ⟨w0.heap.size, 0, none⟩) := hk 1 (by decide)
    have h2 : x.v 2 = .int .i64 y.p := hk 2 (by decide)
    have h3 : x.v 3 = .int .i64 v1 := hk 3 (by decide)
    have h4 : x.v 4 = .int .i64 (v1 % y.p) := hk 4 (by decide)
    have h5 : x.v 5 = .pointer (some ⟨w0.heap.size, 0, none⟩) := hk 5 (by decide)
    have h6 : x.v 6 = .int .i64 y.p := hk 6 (by decide)
    have h7 : x.v 7 = .int .i64 v2 := hk 7 (by decide)
    have h8 : x.v 8 = .int .i64 (v2 % y.p) := hk 8 (by decide)
    have h9 : MxO w (x.lo 9) (x.hi 9) (x.v 9) (penM y (v1 % y.p) (v2 % y.p)) := hk 9 (by decide)
    clear hk
    simp only [netAct, dstAt, List.getElem?_toArray, List.getElem?_cons_zero, List.getElem?_cons_succ, Option.bind_some, Act.put, List.setIfInBounds_toArray, List.set_cons_zero, List.set_cons_succ]
    simp only [List.drop_succ_cons, List.drop_zero, h0, h1, h2, h3, h4, h5, h6, h7, h8]
    clear h0 h1 h2 h3 h4 h5 h6 h7 h8
    have i8 := hiv 9 (by decide)
    obtain ⟨PM, hPM⟩ : ∃ M, M = penM y (v1 % y.p) (v2 % y.p) := ⟨_, rfl⟩
    have HFF := Lib.hid (show pAtP y v1 v2 = (PM, true) by rw [hPM]; exact HF.out)
    rw [← hPM] at h9
    obtain ⟨A7, c7, e7⟩ := h9.form
    rw [e7] at h9 ⊢
    clear hiv hdj e7 hPM
    obtain ⟨N, hN⟩ : ∃ N, PM.a.length = N := ⟨_, rfl⟩
    rw [hN] at h9 ⊢
    have kX := kR.call hb
    have p0 := kX.cell' (i := 0) rfl
    have p1 := kX.cell' (i := 1) rfl
    have p2 := kX.cell' (i := 2) rfl
    have fr := kX.frozen
    have sz := SZ.out
    have gX := (GW0.out).trans ((gW.mono (by omega)).trans (hb.mono (by omega)))
    have gXs := gX.size
    have hbs := hb.size
    have h2 := chg3 w (w0.heap.size + 1) (.int .i64 PM.r) (.int .i64 PM.c) (.slice A7 N c7)
    have OF := Lib.hid ((h9.chg h2 (.inr (by omega))).wider (lo' := w0.heap.size) (hi' := w.heap.size) (by omega) (by omega))
    have GF := Lib.hid (gX.trans (h2.below (by omega) gXs))
    clear h9 h2 gX kX hN sz gXs hbs i8 hb kB kR gW
    go_wp2
    exact bodyPost_ret (v := .tuple #[.agg #[.int .i64 PM.r, .int .i64 PM.c, .slice A7 N c7], .bool true]) (by simp [results, go_sem, p0, p1, p2]) rfl ⟨_, by rw [HFF.out], by rw [HFF.out]; exact OF.out.wider (Nat.le_refl _) (by simp), GF.out⟩
theorem implPencilAt_any (u : Value) (x : Rp) (v1 v2 : Int) (w0 : World) (hu : RpR w0 w0.heap.size u x) (hv1 : I64 v1) (hv2 : I64 v2) :
    Calls Try.prog 53 #[u, .int .i64 v1, .int .i64 v2] w0 fun e w' => ∃ r, e = .returned (.tuple #[r, .bool (pAtP x v1 v2).2]) ∧ MxO w' w0.heap.size w'.heap.size r (pAtP x v1 v2).1 ∧ Below w0.heap.size w0 w' := by
  rcases h : isPen x with _ | _
  · exact implPA_no u x v1 v2 w0 hu h
  · exact implPA_yes u x v1 v2 w0 hu hv1 hv2 h
end Go.Proofs.Ytbgjhnolnccnnaa
