/- FnPencils: the law holds for every argument. Part 12 of 18 of the proof: Prei2, Red2, SVec. No condition. -/
import Derived.Test.YthhjoamgcfiecaaGreatBPencils11
set_option linter.unusedVariables false
set_option linter.unusedSimpArgs false
namespace Go.Proofs.YthhjoamgcfiecaaGreat
open Go.RowKit
theorem prep_fld {p : Int} {N : Nat} (hp : isFld p = true) (h : N ≤ 3) : isRep (penRep p (shA N) (shB N)) = true := by
 rcases isFld_t.1 hp with rfl | rfl | rfl <;> rcases (show N = 0 ∨ N = 1 ∨ N = 2 ∨ N = 3 by omega) with rfl | rfl | rfl | rfl <;> decide +kernel
theorem penOf_noFld {p : Int} {a b : Mx} (h : isFld p = false) : penOf p a b = (rp0, false) := by
 unfold penOf
 rw [if_neg]
 simp [isRep, penRep, h]
theorem prep_false {p n : Int} (h : (prepP p n).2 = false) : preiP p n = (rp0, false) := by
 unfold prepP at h
 unfold preiP
 split at h
 ·rename_i hB
  rw [if_pos hB]
  obtain ⟨n1, n2⟩ := inR_t.1 hB
  rcases hp : isFld p with _ | _
  ·exact penOf_noFld hp
  ·rw [penOf, prep_fld hp (by omega)] at h
   simp at h
 ·rename_i hB
  rw [if_neg hB]
theorem prep_true {p n : Int} (h : (prepP p n).2 = true) : ∃ N : Nat, N ≤ 3 ∧ n = (N : Int) ∧ (prepP p n).1 = penRep p (shA N) (shB N) ∧ preiP p n = preiOf p N := by
 unfold prepP at h ⊢
 unfold preiP
 split at h
 ·rename_i hB
  obtain ⟨n1, n2⟩ := inR_t.1 hB
  refine ⟨n.toNat, by omega, by omega, ?_, by rw [if_pos hB]⟩
  rw [if_pos hB]
  unfold penOf at h ⊢
  split at h
  ·rename_i h2; rw [if_pos h2]
  ·simp at h
 ·simp at h
set_option maxHeartbeats 6400000 in
set_option maxRecDepth 100000 in
theorem implPreinjectivePencil_any (p n : Int) (w0 : World) (hp : I64 p) (hn : I64 n) :
  Calls Tryz.prog 8 #[.int .i64 p, .int .i64 n] w0 fun e w' => ∃ r, e = .returned (.tuple #[r, .bool (preiP p n).2]) ∧ RepO w' w0.heap.size w'.heap.size r (preiP p n).1 ∧ Below w0.heap.size w0 w' := by
 obtain ⟨W, hW⟩ : ∃ W, W = w0.alloc (.cells #[.int .i64 0, .int .i64 0, .slice none 0 0, .slice none 0 0, .slice none 0 0, .slice none 0 0] 31) := ⟨_, rfl⟩
 have g0 : Below w0.heap.size w0 W := by rw [hW]; exact below_alloc _ _
 have kR : Blk W w0.heap.size 31 #[.int .i64 0, .int .i64 0, .slice none 0 0, .slice none 0 0, .slice none 0 0, .slice none 0 0] := by rw [hW]; exact Blk.new _ _ _
 have sz : W.heap.size = w0.heap.size + 1 := by rw [hW]; simp
 have SZ := Lib.hid sz
 rcases hB : (prepP p n).2 with _ | _
 ·have hF := Lib.hid (prep_false hB)
  have HB := Lib.hid hB
  have KR := Lib.hid kR
  have G0 := Lib.hid g0
  clear hB sz g0 kR
  go_enter Tryz.func8, Tryz.ntmps8
  go_wp2_with fail
  rw [← hW]; clear hW
  refine (implPreprojectivePencil_any _ _ _ hp hn).mono ?_; rintro e w1 ⟨v, rfl, ho, hb1⟩
  rw [HB.out]
  generalize (prepP p n).1 = R at ho
  obtain ⟨A, a, C, c, E, e, H, h, ev⟩ := ho.form
  subst ev
  have hb2 := below_alloc w1 (.cells #[.int .i64 R.p, .int .i64 R.q.v, .slice A R.q.f.length a, .slice C R.q.t.length c, .slice E R.d.length e, .slice H R.m.length h] 31)
  have gW := bthen hb1 hb2
  have kR := KR.out.call gW
  have g0 := (G0.out).trans (gW.mono (G0.out).size)
  have gs := gW.size
  clear ho hb1 hb2 gW
  have fr := kR.frozen
  have s0 := kR.cell' (i := 0) rfl
  have s1 := kR.cell' (i := 1) rfl
  have s2 := kR.cell' (i := 2) rfl
  have s3 := kR.cell' (i := 3) rfl
  have s4 := kR.cell' (i := 4) rfl
  have s5 := kR.cell' (i := 5) rfl
  clear kR
  go_wp2
  have sz := SZ.out
  refine bodyPost_ret (v := .tuple #[.agg #[.int .i64 0, .int .i64 0, .slice none 0 0, .slice none 0 0, .slice none 0 0, .slice none 0 0], .bool false]) (by simp [results, go_sem, s0, s1, s2, s3, s4, s5]) rfl ⟨_, by rw [hF.out], by rw [hF.out]; exact RepO.zero _ _ _, (((((g0.setCell (by simp) _).setCell (by simp) _).setCell (by simp) _).setCell (by simp) _).setCell (by simp) _).setCell (by simp) _⟩
 ·obtain ⟨N, hN3, rfl, hR1, hR2⟩ := prep_true hB
  obtain ⟨R, hR⟩ : ∃ R, R = preiOf p N := ⟨_, rfl⟩
  have HR := Lib.hid (show penOf p (mxF N (N + 1) (fun a b => shPF 0 b a)) (mxF N (N + 1) (fun a b => shPF 1 b a)) = R from hR.symm)
  have HRF : Hid (preiP p N = R) := by show _ = _; rw [hR2, hR]
  have HB := Lib.hid hB
  have HR1 := Lib.hid hR1
  have KR := Lib.hid kR
  have G0 := Lib.hid g0
  clear hB hR sz kR g0 hR1 hR2
  go_enter Tryz.func8, Tryz.ntmps8
  go_wp2_with fail
  rw [← hW]; clear hW
  refine (implPreprojectivePencil_any _ _ _ hp hn).mono ?_; rintro e w1 ⟨v, rfl, ho, hb1⟩
  rw [HB.out]
  rw [HR1.out, shA_F hN3, shB_F hN3] at ho
  obtain ⟨A0, a0, C0, d0, E0, e0, H0, cH0, rfl, hq, hd, hm, _, _, _⟩ := ho.rd.open_
  clear ho hq hd
  simp only [penRep, List.length_cons, List.length_nil, Nat.zero_add, Nat.reduceAdd] at hm ⊢
  obtain ⟨wr, hW2⟩ : ∃ u, u = w1.alloc (.cells #[.int .i64 p, .int .i64 pQ.v, .slice A0 pQ.f.length a0, .slice C0 pQ.t.length d0, .slice E0 2 e0, .slice H0 2 cH0] 31) := ⟨_, rfl⟩
  have hb2 : Below w1.heap.size w1 wr := by rw [hW2]; exact below_alloc _ _
  have k4 : Blk wr w1.heap.size 31 #[.int .i64 p, .int .i64 pQ.v, .slice A0 pQ.f.length a0, .slice C0 pQ.t.length d0, .slice E0 2 e0, .slice H0 2 cH0] := by rw [hW2]; exact Blk.new _ _ _
  go_wp2
  rw [← hW2]
  clear hW2
  have gW := bthen hb1 hb2
  have s6 := gW.size
  have s7 := k4.lt
  have hm := SlM.next hb2 hm
  have GF := Lib.hid (G0.out.trans (gW.mono (G0.out).size))
  have HKR := Lib.hid (KR.out.below gW (by have := SZ.out; omega))
  obtain ⟨b, o, ma, AA, ca, eH, hbb, HXA, x0, x1, x2, hsa, ra1, ra2, la⟩ := SlM.at_ (k := 0) (xs := [mxF (N + 1) N (shPF 0), mxF (N + 1) N (shPF 1)]) hm (by simp)
  obtain ⟨b', o', mb, AB, cb, eH', hbb', HXB, y0, y1, y2, hsb, rb1, rb2, lb⟩ := SlM.at_ (k := 1) (xs := [mxF (N + 1) N (shPF 0), mxF (N + 1) N (shPF 1)]) hm (by simp)
  subst eH
  injection eH' with eH'
  injection eH' with eb eo
  subst eb eo
  have eA := HXA.out
  have eB := HXB.out
  simp only [List.getElem?_cons_zero, List.getElem?_cons_succ, Option.some.injEq] at eA eB
  subst eA eB
  simp only [Nat.zero_mul, Nat.add_zero, Nat.one_mul] at x0 x1 x2 y0 y1 y2
  have HA : Hid (MxR wr wr.heap.size (.agg #[.int .i64 (mxF (N + 1) N (shPF 0)).r, .int .i64 (mxF (N + 1) N (shPF 0)).c, .slice AA (mxF (N + 1) N (shPF 0)).a.length ca]) (mxF (N + 1) N (shPF 0))) := ⟨_, rfl, hsa, ra1, ra2⟩
  have HB2 : Hid (MxR wr wr.heap.size (.agg #[.int .i64 (mxF (N + 1) N (shPF 1)).r, .int .i64 (mxF (N + 1) N (shPF 1)).c, .slice AB (mxF (N + 1) N (shPF 1)).a.length cb]) (mxF (N + 1) N (shPF 1))) := ⟨_, rfl, hsb, rb1, rb2⟩
  have zA : (mxF (N + 1) N (shPF 0)).r = (N : Int) + 1 := by simp [mxF]
  have zB : (mxF (N + 1) N (shPF 1)).r = (N : Int) + 1 := by simp [mxF]
  have zA2 : (mxF (N + 1) N (shPF 0)).c = (N : Int) := by simp [mxF]
  have zB2 : (mxF (N + 1) N (shPF 1)).c = (N : Int) := by simp [mxF]
  obtain ⟨LA, hLA⟩ : ∃ L, (mxF (N + 1) N (shPF 0)).a.length = L := ⟨_, rfl⟩
  obtain ⟨LB, hLB⟩ : ∃ L, (mxF (N + 1) N (shPF 1)).a.length = L := ⟨_, rfl⟩
  rw [zA, zA2, hLA] at HA
  rw [zB, zB2, hLB] at HB2
  rw [zA] at x0
  rw [zA2] at x1
  rw [hLA] at x2
  rw [zB] at y0
  rw [zB2] at y1
  rw [hLB] at y2
  clear zA zB zA2 zB2 hLA hLB gW hb1 hb2 hm HXA HXB hsa hsb ra1 ra2 rb1 rb2 la lb hbb'
  refine wp_region_net (by kernel_rfl) [.eq (.int .i64 p), .eq (.int .i64 N), .eq (.pointer (some ⟨w1.heap.size, 5, none⟩)), .eq (.slice (some ⟨b, o, none⟩) 2 cH0), .eq (.pointer (some ⟨b, o, none⟩)), .eq (.agg #[.int .i64 ((N : Int) + 1), .int .i64 N, .slice AA LA ca]), rel 6 (fun u lo hi w => IntssO w lo hi u (rowsF (N + 1) N (shPF 0))), rel 7 (fun u lo hi w => MxO w lo hi u (mxF N (N + 1) (fun a b => shPF 0 b a))), .eq (.int .i64 N), .eq (.pointer (some ⟨w1.heap.size, 5, none⟩)), .eq (.slice (some ⟨b, o, none⟩) 2 cH0), .eq (.pointer (some ⟨b, o + 3, none⟩)), .eq (.agg #[.int .i64 ((N : Int) + 1), .int .i64 N, .slice AB LB cb]), rel 13 (fun u lo hi w => IntssO w lo hi u (rowsF (N + 1) N (shPF 1))), rel 14 (fun u lo hi w => MxO w lo hi u (mxF N (N + 1) (fun a b => shPF 1 b a))), .rel (fun x w => ∃ A a C c E e H h, x.v 15 = .tuple #[.agg #[.int .i64 R.1.p, .int .i64 R.1.q.v, .slice A R.1.q.f.length a, .slice C R.1.q.t.length c, .slice E R.1.d.length e, .slice H R.1.m.length h], .bool R.2] ∧ RepO w (x.lo 15) (x.hi 15) (.agg #[.int .i64 R.1.p, .int .i64 R.1.q.v, .slice A R.1.q.f.length a, .slice C R.1.q.t.length c, .slice E R.1.d.length e, .slice H R.1.m.length h]) R.1), .rel (fun x w => ∃ A a C c E e H h, x.v 16 = .agg #[.int .i64 R.1.p, .int .i64 R.1.q.v, .slice A R.1.q.f.length a, .slice C R.1.q.t.length c, .slice E R.1.d.length e, .slice H R.1.m.length h] ∧ RepO w (x.lo 15) (x.hi 15) (.agg #[.int .i64 R.1.p, .int .i64 R.1.q.v, .slice A R.1.q.f.length a, .slice C R.1.q.t.length c, .slice E R.1.d.length e, .slice H R.1.m.length h]) R.1), .eq (.bool R.2)] [[], [], [], [2], [2, 3], [2, 3, 4], [2, 3, 4, 5], [1, 2, 3, 4, 5, 6], [], [], [9], [9, 10], [9, 10, 11], [1, 2, 3, 4, 5, 6, 7, 9, 10, 11, 12], [1, 2, 3, 4, 5, 6, 7, 8, 9, 10, 11, 12, 13], [0, 1, 2, 3, 4, 5, 6, 7, 8, 9, 10, 11, 12, 13, 14], [0, 1, 2, 3, 4, 5, 6, 7, 8, 9, 10, 11, 12, 13, 14, 15], [0, 1, 2, 3, 4, 5, 6, 7, 8, 9, 10, 11, 12, 13, 14, 15], [0, 1, 2, 3, 4, 5, 6, 7, 8, 9, 10, 11, 12, 13, 14, 15, 16, 17], [0, 1, 2, 3, 4, 5, 6, 7, 8, 9, 10, 11, 12, 13, 14, 15, 16, 17, 18]] 18 (by kernel_rfl) ⟨trivial, trivial, trivial, trivial, trivial, trivial, rel_stable (fun u lo hi w w' h hb => h.below hb), rel_stable (fun u lo hi w w' h hb => h.below hb), trivial, trivial, trivial, trivial, trivial, rel_stable (fun u lo hi w w' h hb => h.below hb), rel_stable (fun u lo hi w w' h hb => h.below hb), fun x w w' ⟨A, a, C, c, E, e, H, h, e1, h1⟩ hb => ⟨A, a, C, c, E, e, H, h, e1, h1.below hb⟩, fun x w w' ⟨A, a, C, c, E, e, H, h, e1, h1⟩ hb => ⟨A, a, C, c, E, e, H, h, e1, h1.below hb⟩, trivial, trivial⟩ ⟨?_, ?_, ?_, ?_, ?_, ?_, ?_, ?_, ?_, ?_, ?_, ?_, ?_, ?_, ?_, ?_, ?_, ?_, trivial⟩ ?_
  ·intro x w hb hk Q' hQ
   clear hk
   simp only [netE] at hQ ⊢
   go_wp2
   exact hQ _ _ (Below.refl _ _) rfl
  ·intro x w hb hk Q' hQ
   clear hk
   simp only [netE] at hQ ⊢
   go_wp2
   exact hQ _ _ (Below.refl _ _) rfl
  ·intro x w hb hk Q' hQ
   clear hk
   simp only [netE] at hQ ⊢
   go_wp2
   exact hQ _ _ (Below.refl _ _) rfl
  ·intro x w hb hk Q' hQ
   have h2 : x.v 2 = _ := (hk 2 (by decide)).1
   clear hk
   simp only [netE] at hQ ⊢
   simp only [h2] at hQ ⊢
   clear h2
   have z5 := (k4.call hb).cell' (i := 5) rfl
   go_wp2
   exact hQ _ _ (Below.refl _ _) rfl
  ·intro x w hb hk Q' hQ
   have h3 : x.v 3 = _ := (hk 3 (by decide)).1
   clear hk
   simp only [netE] at hQ ⊢
   simp only [h3] at hQ ⊢
   clear h3
   go_wp2
   exact hQ _ _ (Below.refl _ _) rfl
  ·intro x w hb hk Q' hQ
   have h4 : x.v 4 = _ := (hk 4 (by decide)).1
   clear hk
   simp only [netE] at hQ ⊢
   simp only [h4] at hQ ⊢
   clear h4
   have z0 := bcell hb hbb x0
   have z1 := bcell hb hbb x1
   have z2 := bcell hb hbb x2
   go_wp2
   exact hQ (.agg #[.int .i64 ((N : Int) + 1), .int .i64 N, .slice AA LA ca]) _ (Below.refl _ _) rfl
  ·intro x w hb hk Q' hQ
   have h2 : x.v 2 = _ := (hk 2 (by decide)).1
   have h3 : x.v 3 = _ := (hk 3 (by decide)).1
   have h4 : x.v 4 = _ := (hk 4 (by decide)).1
   have h5 : x.v 5 = _ := (hk 5 (by decide)).1
   clear hk
   simp only [netE] at hQ ⊢
   simp only [h2, h3, h4, h5] at hQ ⊢
   clear h2 h3 h4 h5
   go_wp2_with fail
   refine (rows_any _ (N + 1) N (shPF 0) _ (MxR.more hb.size (MxR.below hb HA.out)) (by omega) (by omega)).mono ?_; rintro e w5 ⟨v5, rfl, hO5, hb5⟩
   go_wp2
   exact hQ _ _ hb5 hO5
  ·intro x w hb hk Q' hQ
   have h1 : x.v 1 = _ := (hk 1 (by decide)).1
   have h2 : x.v 2 = _ := (hk 2 (by decide)).1
   have h3 : x.v 3 = _ := (hk 3 (by decide)).1
   have h4 : x.v 4 = _ := (hk 4 (by decide)).1
   have h5 : x.v 5 = _ := (hk 5 (by decide)).1
   have h6 : IntssO w (x.lo 6) (x.hi 6) (x.v 6) (rowsF (N + 1) N (shPF 0)) := (hk 6 (by decide)).1
   have s6 := (hk 6 (by decide)).2
   clear hk
   simp only [netE] at hQ ⊢
   simp only [h1, h2, h3, h4, h5] at hQ ⊢
   clear h1 h2 h3 h4 h5
   go_wp2_with fail
   refine (fromColumns_any _ N (N + 1) (fun a b => shPF 0 b a) _ h6.rd (by omega) (by omega)).mono ?_; rintro e w5 ⟨v5, rfl, hO5, hb5⟩
   go_wp2
   exact hQ _ _ hb5 hO5
  ·intro x w hb hk Q' hQ
   clear hk
   simp only [netE] at hQ ⊢
   go_wp2
   exact hQ _ _ (Below.refl _ _) rfl
  ·intro x w hb hk Q' hQ
   clear hk
   simp only [netE] at hQ ⊢
   go_wp2
   exact hQ _ _ (Below.refl _ _) rfl
  ·intro x w hb hk Q' hQ
   have h9 : x.v 9 = _ := (hk 9 (by decide)).1
   clear hk
   simp only [netE] at hQ ⊢
   simp only [h9] at hQ ⊢
   clear h9
   have z5 := (k4.call hb).cell' (i := 5) rfl
   go_wp2
   exact hQ _ _ (Below.refl _ _) rfl
  ·intro x w hb hk Q' hQ
   have h10 : x.v 10 = _ := (hk 10 (by decide)).1
   clear hk
   simp only [netE] at hQ ⊢
   simp only [h10] at hQ ⊢
   clear h10
   go_wp2
   exact hQ _ _ (Below.refl _ _) rfl
  ·intro x w hb hk Q' hQ
   have h11 : x.v 11 = _ := (hk 11 (by decide)).1
   clear hk
   simp only [netE] at hQ ⊢
   simp only [h11] at hQ ⊢
   clear h11
   have z0 := bcell hb hbb y0
   have z1 := bcell hb hbb y1
   have z2 := bcell hb hbb y2
   go_wp2
   exact hQ (.agg #[.int .i64 ((N : Int) + 1), .int .i64 N, .slice AB LB cb]) _ (Below.refl _ _) rfl
  ·intro x w hb hk Q' hQ
   have h1 : x.v 1 = _ := (hk 1 (by decide)).1
   have h2 : x.v 2 = _ := (hk 2 (by decide)).1
   have h3 : x.v 3 = _ := (hk 3 (by decide)).1
   have h4 : x.v 4 = _ := (hk 4 (by decide)).1
   have h5 : x.v 5 = _ := (hk 5 (by decide)).1
   have h6 : IntssO w (x.lo 6) (x.hi 6) (x.v 6) (rowsF (N + 1) N (shPF 0)) := (hk 6 (by decide)).1
   have h7 : MxO w (x.lo 7) (x.hi 7) (x.v 7) (mxF N (N + 1) (fun a b => shPF 0 b a)) := (hk 7 (by decide)).1
   have h9 : x.v 9 = _ := (hk 9 (by decide)).1
   have h10 : x.v 10 = _ := (hk 10 (by decide)).1
   have h11 : x.v 11 = _ := (hk 11 (by decide)).1
   have h12 : x.v 12 = _ := (hk 12 (by decide)).1
   have s6 := (hk 6 (by decide)).2
   have s7 := (hk 7 (by decide)).2
   clear hk
   simp only [netE] at hQ ⊢
   simp only [h1, h2, h3, h4, h5, h9, h10, h11, h12] at hQ ⊢
   clear h1 h2 h3 h4 h5 h9 h10 h11 h12
   go_wp2_with fail
   refine (rows_any _ (N + 1) N (shPF 1) _ (MxR.more hb.size (MxR.below hb HB2.out)) (by omega) (by omega)).mono ?_; rintro e w5 ⟨v5, rfl, hO5, hb5⟩
   go_wp2
   exact hQ _ _ hb5 hO5
  ·intro x w hb hk Q' hQ
   have h1 : x.v 1 = _ := (hk 1 (by decide)).1
   have h2 : x.v 2 = _ := (hk 2 (by decide)).1
   have h3 : x.v 3 = _ := (hk 3 (by decide)).1
   have h4 : x.v 4 = _ := (hk 4 (by decide)).1
   have h5 : x.v 5 = _ := (hk 5 (by decide)).1
   have h6 : IntssO w (x.lo 6) (x.hi 6) (x.v 6) (rowsF (N + 1) N (shPF 0)) := (hk 6 (by decide)).1
   have h7 : MxO w (x.lo 7) (x.hi 7) (x.v 7) (mxF N (N + 1) (fun a b => shPF 0 b a)) := (hk 7 (by decide)).1
   have h8 : x.v 8 = _ := (hk 8 (by decide)).1
   have h9 : x.v 9 = _ := (hk 9 (by decide)).1
   have h10 : x.v 10 = _ := (hk 10 (by decide)).1
   have h11 : x.v 11 = _ := (hk 11 (by decide)).1
   have h12 : x.v 12 = _ := (hk 12 (by decide)).1
   have h13 : IntssO w (x.lo 13) (x.hi 13) (x.v 13) (rowsF (N + 1) N (shPF 1)) := (hk 13 (by decide)).1
   have s6 := (hk 6 (by decide)).2
   have s7 := (hk 7 (by decide)).2
   have s13 := (hk 13 (by decide)).2
   clear hk
   simp only [netE] at hQ ⊢
   simp only [h1, h2, h3, h4, h5, h8, h9, h10, h11, h12] at hQ ⊢
   clear h1 h2 h3 h4 h5 h8 h9 h10 h11 h12
   go_wp2_with fail
   refine (fromColumns_any _ N (N + 1) (fun a b => shPF 1 b a) _ h13.rd (by omega) (by omega)).mono ?_; rintro e w5 ⟨v5, rfl, hO5, hb5⟩
   go_wp2
   exact hQ _ _ hb5 hO5
  ·intro x w hb hk Q' hQ
   have h0 : x.v 0 = _ := (hk 0 (by decide)).1
   have h1 : x.v 1 = _ := (hk 1 (by decide)).1
   have h2 : x.v 2 = _ := (hk 2 (by decide)).1
   have h3 : x.v 3 = _ := (hk 3 (by decide)).1
   have h4 : x.v 4 = _ := (hk 4 (by decide)).1
   have h5 : x.v 5 = _ := (hk 5 (by decide)).1
   have h6 : IntssO w (x.lo 6) (x.hi 6) (x.v 6) (rowsF (N + 1) N (shPF 0)) := (hk 6 (by decide)).1
   have h7 : MxO w (x.lo 7) (x.hi 7) (x.v 7) (mxF N (N + 1) (fun a b => shPF 0 b a)) := (hk 7 (by decide)).1
   have h8 : x.v 8 = _ := (hk 8 (by decide)).1
   have h9 : x.v 9 = _ := (hk 9 (by decide)).1
   have h10 : x.v 10 = _ := (hk 10 (by decide)).1
   have h11 : x.v 11 = _ := (hk 11 (by decide)).1
   have h12 : x.v 12 = _ := (hk 12 (by decide)).1
   have h13 : IntssO w (x.lo 13) (x.hi 13) (x.v 13) (rowsF (N + 1) N (shPF 1)) := (hk 13 (by decide)).1
   have h14 : MxO w (x.lo 14) (x.hi 14) (x.v 14) (mxF N (N + 1) (fun a b => shPF 1 b a)) := (hk 14 (by decide)).1
   have s6 := (hk 6 (by decide)).2
   have s7 := (hk 7 (by decide)).2
   have s13 := (hk 13 (by decide)).2
   have s14 := (hk 14 (by decide)).2
   clear hk
   simp only [netE] at hQ ⊢
   simp only [h0, h1, h2, h3, h4, h5, h8, h9, h10, h11, h12] at hQ ⊢
   clear h0 h1 h2 h3 h4 h5 h8 h9 h10 h11 h12
   obtain ⟨A2, c2, e2⟩ := h7.form
   obtain ⟨A4, c4, e4⟩ := h14.form
   simp only [mxF] at e2 e4
   rw [e2] at h7 hQ ⊢
   rw [e4] at h14 hQ ⊢
   go_wp2_with fail
   refine (implPencilOf_any p _ (mxF N (N + 1) (fun a b => shPF 0 b a)) _ (mxF N (N + 1) (fun a b => shPF 1 b a)) _ hp h7.rd h14.rd).mono ?_; rintro e w5 ⟨v5, rfl, hO5, hb5⟩
   rw [HR.out] at hO5 ⊢
   have HO5 := Lib.hid hO5
   obtain ⟨A, a, C, c, E, e, H, h, e5⟩ := hO5.form
   subst e5
   clear hO5
   go_wp2
   exact hQ _ _ hb5 ⟨A, a, C, c, E, e, H, h, rfl, HO5.out⟩
  ·intro x w hb hk Q' hQ
   have h0 : x.v 0 = _ := (hk 0 (by decide)).1
   have h1 : x.v 1 = _ := (hk 1 (by decide)).1
   have h2 : x.v 2 = _ := (hk 2 (by decide)).1
   have h3 : x.v 3 = _ := (hk 3 (by decide)).1
   have h4 : x.v 4 = _ := (hk 4 (by decide)).1
   have h5 : x.v 5 = _ := (hk 5 (by decide)).1
   have h6 : IntssO w (x.lo 6) (x.hi 6) (x.v 6) (rowsF (N + 1) N (shPF 0)) := (hk 6 (by decide)).1
   have h7 : MxO w (x.lo 7) (x.hi 7) (x.v 7) (mxF N (N + 1) (fun a b => shPF 0 b a)) := (hk 7 (by decide)).1
   have h8 : x.v 8 = _ := (hk 8 (by decide)).1
   have h9 : x.v 9 = _ := (hk 9 (by decide)).1
   have h10 : x.v 10 = _ := (hk 10 (by decide)).1
   have h11 : x.v 11 = _ := (hk 11 (by decide)).1
   have h12 : x.v 12 = _ := (hk 12 (by decide)).1
   have h13 : IntssO w (x.lo 13) (x.hi 13) (x.v 13) (rowsF (N + 1) N (shPF 1)) := (hk 13 (by decide)).1
   have h14 : MxO w (x.lo 14) (x.hi 14) (x.v 14) (mxF N (N + 1) (fun a b => shPF 1 b a)) := (hk 14 (by decide)).1
   have h15 : ∃ A a C c E e H h, x.v 15 = .tuple #[.agg #[.int .i64 R.1.p, .int .i64 R.1.q.v, .slice A R.1.q.f.length a, .slice C R.1.q.t.length c, .slice E R.1.d.length e, .slice H R.1.m.length h], .bool R.2] ∧ RepO w (x.lo 15) (x.hi 15) (.agg #[.int .i64 R.1.p, .int .i64 R.1.q.v, .slice A R.1.q.f.length a, .slice C R.1.q.t.length c, .slice E R.1.d.length e, .slice H R.1.m.length h]) R.1 := (hk 15 (by decide)).1
   have s6 := (hk 6 (by decide)).2
   have s7 := (hk 7 (by decide)).2
   have s13 := (hk 13 (by decide)).2
   have s14 := (hk 14 (by decide)).2
   have s15 := (hk 15 (by decide)).2
   clear hk
   simp only [netE] at hQ ⊢
   simp only [h0, h1, h2, h3, h4, h5, h8, h9, h10, h11, h12] at hQ ⊢
   clear h0 h1 h2 h3 h4 h5 h8 h9 h10 h11 h12
   obtain ⟨A, a, C, c, E, e, H, h, e4, ho⟩ := h15
   have hQ' := hQ (.agg #[.int .i64 R.1.p, .int .i64 R.1.q.v, .slice A R.1.q.f.length a, .slice C R.1.q.t.length c, .slice E R.1.d.length e, .slice H R.1.m.length h]) w (Below.refl _ _) ⟨A, a, C, c, E, e, H, h, rfl, ho⟩
   rw [e4] at hQ' ⊢
   go_wp2
   exact hQ'
  ·intro x w hb hk Q' hQ
   have h15 : ∃ A a C c E e H h, x.v 15 = .tuple #[.agg #[.int .i64 R.1.p, .int .i64 R.1.q.v, .slice A R.1.q.f.length a, .slice C R.1.q.t.length c, .slice E R.1.d.length e, .slice H R.1.m.length h], .bool R.2] ∧ RepO w (x.lo 15) (x.hi 15) (.agg #[.int .i64 R.1.p, .int .i64 R.1.q.v, .slice A R.1.q.f.length a, .slice C R.1.q.t.length c, .slice E R.1.d.length e, .slice H R.1.m.length h]) R.1 := (hk 15 (by decide)).1
   clear hk
   simp only [netE] at hQ ⊢
   obtain ⟨A, a, C, c, E, e, H, h, e4, ho⟩ := h15
   rw [e4] at hQ ⊢
   go_wp2
   exact hQ _ _ (Below.refl _ _) rfl
  ·intro x w hb hk hiv hdj
   have h0 : x.v 0 = .int .i64 p := hk 0 (by decide)
   have h1 : x.v 1 = .int .i64 N := hk 1 (by decide)
   have h2 : x.v 2 = .pointer (some ⟨w1.heap.size, 5, none⟩) := hk 2 (by decide)
   have h3 : x.v 3 = .slice (some ⟨b, o, none⟩) 2 cH0 := hk 3 (by decide)
   have h4 : x.v 4 = .pointer (some ⟨b, o, none⟩) := hk 4 (by decide)
   have h5 : x.v 5 = .agg #[.int .i64 ((N : Int) + 1), .int .i64 N, .slice AA LA ca] := hk 5 (by decide)
   have h6 : IntssO w (x.lo 6) (x.hi 6) (x.v 6) (rowsF (N + 1) N (shPF 0)) := hk 6 (by decide)
   have h7 : MxO w (x.lo 7) (x.hi 7) (x.v 7) (mxF N (N + 1) (fun a b => shPF 0 b a)) := hk 7 (by decide)
   have h8 : x.v 8 = .int .i64 N := hk 8 (by decide)
   have h9 : x.v 9 = .pointer (some ⟨w1.heap.size, 5, none⟩) := hk 9 (by decide)
   have h10 : x.v 10 = .slice (some ⟨b, o, none⟩) 2 cH0 := hk 10 (by decide)
   have h11 : x.v 11 = .pointer (some ⟨b, o + 3, none⟩) := hk 11 (by decide)
   have h12 : x.v 12 = .agg #[.int .i64 ((N : Int) + 1), .int .i64 N, .slice AB LB cb] := hk 12 (by decide)
   have h13 : IntssO w (x.lo 13) (x.hi 13) (x.v 13) (rowsF (N + 1) N (shPF 1)) := hk 13 (by decide)
   have h14 : MxO w (x.lo 14) (x.hi 14) (x.v 14) (mxF N (N + 1) (fun a b => shPF 1 b a)) := hk 14 (by decide)
   have h15 : ∃ A a C c E e H h, x.v 15 = .tuple #[.agg #[.int .i64 R.1.p, .int .i64 R.1.q.v, .slice A R.1.q.f.length a, .slice C R.1.q.t.length c, .slice E R.1.d.length e, .slice H R.1.m.length h], .bool R.2] ∧ RepO w (x.lo 15) (x.hi 15) (.agg #[.int .i64 R.1.p, .int .i64 R.1.q.v, .slice A R.1.q.f.length a, .slice C R.1.q.t.length c, .slice E R.1.d.length e, .slice H R.1.m.length h]) R.1 := hk 15 (by decide)
   have h16 : ∃ A a C c E e H h, x.v 16 = .agg #[.int .i64 R.1.p, .int .i64 R.1.q.v, .slice A R.1.q.f.length a, .slice C R.1.q.t.length c, .slice E R.1.d.length e, .slice H R.1.m.length h] ∧ RepO w (x.lo 15) (x.hi 15) (.agg #[.int .i64 R.1.p, .int .i64 R.1.q.v, .slice A R.1.q.f.length a, .slice C R.1.q.t.length c, .slice E R.1.d.length e, .slice H R.1.m.length h]) R.1 := hk 16 (by decide)
   have h17 : x.v 17 = .bool R.2 := hk 17 (by decide)
   clear hk
   simp only [netE]
   simp only [List.drop_succ_cons, List.drop_zero, h0, h1, h2, h3, h4, h5, h8, h9, h10, h11, h12, h17]
   clear h0 h1 h2 h3 h4 h5 h8 h9 h10 h11 h12 h17
   obtain ⟨A, a, C, c, E, e, H, h, e5, ho⟩ := h16
   obtain ⟨l4, _, l4h⟩ := hiv 15 (by decide)
   rw [e5]
   clear hiv hdj e5 h15 h14 h13 h7 h6
   have sz := SZ.out
   have kX := HKR.out.call hb
   have gX := (GF.out).trans (hb.mono (GF.out).size)
   have gXs := gX.size
   have hbs := hb.size
   have gfs := (GF.out).size
   have fr := kX.frozen
   have p0 := kX.cell' (i := 0) rfl
   have p1 := kX.cell' (i := 1) rfl
   have p2 := kX.cell' (i := 2) rfl
   have p3 := kX.cell' (i := 3) rfl
   have p4 := kX.cell' (i := 4) rfl
   have p5 := kX.cell' (i := 5) rfl
   have hc6 := chg6 w w0.heap.size (.int .i64 R.1.p) (.int .i64 R.1.q.v) (.slice A R.1.q.f.length a) (.slice C R.1.q.t.length c) (.slice E R.1.d.length e) (.slice H R.1.m.length h)
   have OF := Lib.hid (RepO.wider (ho.chg hc6 (.inr (by omega))) (lo' := w0.heap.size) (by omega) (hi' := w.heap.size) (by omega))
   have GF2 := Lib.hid (gX.trans (hc6.below (Nat.le_refl _) gX.size))
   clear ho hc6 gX kX k4 hb sz gXs hbs gfs l4 l4h
   go_wp2
   exact bodyPost_ret (v := .tuple #[.agg #[.int .i64 R.1.p, .int .i64 R.1.q.v, .slice A R.1.q.f.length a, .slice C R.1.q.t.length c, .slice E R.1.d.length e, .slice H R.1.m.length h], .bool R.2]) (by simp [results, go_sem, p0, p1, p2, p3, p4, p5]) rfl ⟨_, by rw [HRF.out], by rw [HRF.out]; exact RepO.wider OF.out (Nat.le_refl _) (by simp), GF2.out⟩
def RT (bm B : Nat) (w1 : World) (A : Option Addr) (r c L cap : Nat) (w : World) (f : Nat → Nat → Int) (pv : Value) (ps : List Int) : Prop :=
 RS B w1 A r c L cap w f pv ps ∧ Blk w bm 44 #[.int .i64 r, .int .i64 c, .slice A L cap]
section
variable {bm B : Nat} {w1 w w' : World} {A : Option Addr} {r c L cap : Nat} {f : Nat → Nat → Int} {pv : Value} {ps : List Int}
theorem RT.call (h : RT bm B w1 A r c L cap w f pv ps) (hB : B ≤ w1.heap.size) (hb : Below w.heap.size w w') : RT bm B w1 A r c L cap w' f pv ps := ⟨h.1.call hB hb, h.2.call hb⟩
theorem RT.congr {f2 : Nat → Nat → Int} (h : RT bm B w1 A r c L cap w f pv ps) (e : flat r c f = flat r c f2) : RT bm B w1 A r c L cap w f2 pv ps := ⟨h.1.congr e, h.2⟩
theorem RT.put {g J : Nat} {x : Int} {f2 : Nat → Nat → Int} (h : RT bm B w1 (some ⟨g, 0, none⟩) r c L cap w f pv ps) (hg : B ≤ g) (hs : B ≤ w.heap.size) (hx : I64 x) (e : (flat r c f).set J x = flat r c f2) :
  RT bm B w1 (some ⟨g, 0, none⟩) r c L cap (w.setCell ⟨g, J, none⟩ (.int .i64 x)) f2 pv ps := by
 refine ⟨h.1.put hg hs hx e, h.2.far ?_ _⟩
 have := h.1.own.blkne h.2 (by decide)
 intro e2
 exact this (by simp [Value.ownBlock, e2])
theorem RT.app {pv' : Value} {ps' : List Int} (h : RT bm B w1 A r c L cap w f pv ps) (hs : B ≤ w.heap.size) (ho : OwnI w' B pv' ps') (hg : w.grownBy w' pv.ownBlock) (hv : pv'.ownBlock = pv.ownBlock ∨ pv'.ownBlock = some w.heap.size) :
  RT bm B w1 A r c L cap w' f pv' ps' := ⟨h.1.app hs ho hg hv, h.2.grown hg (h.1.ownP.1.blkne h.2 (by decide))⟩
end
theorem ixP {i k r c P : Nat} (hi : i < r) (hk : k < c) (hr : r ≤ 1000) (hc : c ≤ 1000) (hP : P = i * c) : wrap64 ((i : Int) * (c : Int)) = (P : Int) := by
 obtain ⟨P', J, h1, _⟩ := ix_walk hi hk hr hc
 have := (ix_next hi hr hc h1).1
 rw [h1, this, hP]
theorem nzF_next {f : Nat → Nat → Int} {k m r : Nat} (h : m < r) : nzF f k m r = if f m k = 0 then nzF f k (m + 1) r else m := by
 unfold nzF
 rw [show r - m = (r - (m + 1)) + 1 by omega, nzGo]
theorem nzF_self (f : Nat → Nat → Int) (k r : Nat) : nzF f k r r = r := by unfold nzF; rw [Nat.sub_self, nzGo]
def atI (f : Nat → Nat → Int) (k m r : Nat) : Int := if nzF f k m r = r then -1 else (nzF f k m r : Int)
theorem atI_self (f : Nat → Nat → Int) (k r : Nat) : atI f k r r = -1 := by rw [atI, if_pos (nzF_self f k r)]
theorem atI_zero {f : Nat → Nat → Int} {k m r : Nat} (h : m < r) (h0 : f m k = 0) : atI f k m r = atI f k (m + 1) r := by rw [atI, atI, nzF_next h, if_pos h0]
theorem atI_ne {f : Nat → Nat → Int} {k m r : Nat} (h : m < r) (h0 : f m k ≠ 0) : atI f k m r = m := by rw [atI, nzF_next h, if_neg h0, if_neg (by omega)]
set_option maxHeartbeats 12800000 in
set_option maxRecDepth 100000 in
theorem l4Reduce_any (p : Int) (u : Value) (r c : Nat) (f : Nat → Nat → Int) (w0 : World) (hp : isFld p = true) (hr : r ≤ 1000) (hc : c ≤ 1000) (hu : MxR w0 w0.heap.size u (mxF r c f)) (hf : InF p r c f) :
  Calls Tryz.prog 105 #[.int .i64 p, u] w0 fun e w' => ∃ m v, e = .returned (.tuple #[m, v]) ∧ MxO w' w0.heap.size w'.heap.size m (mxF r c (rdTo p r f c).1) ∧ IntsO w' w0.heap.size w'.heap.size v (rdTo p r f c).2 ∧ Below w0.heap.size w0 w' := by
 have hpr := isFld_r hp
 have hu' := hu
 obtain ⟨UA, uc, rfl⟩ := hu.form
 simp only [mxF] at hu hu' ⊢
 rw [flat_length] at hu hu' ⊢
 obtain ⟨UL, hUL⟩ : ∃ n, r * c = n := ⟨_, rfl⟩
 rw [hUL] at hu hu' ⊢
 have HUL := Lib.hid hUL
 clear hUL hu
 obtain ⟨W, hW⟩ : ∃ W, W = (w0.alloc (.cells #[.int .i64 r, .int .i64 c, .slice UA UL uc] 44)).alloc (.cells #[.int .i64 0, .int .i64 0, .slice none 0 0] 44) := ⟨_, rfl⟩
 have g0 : Below w0.heap.size w0 W := by rw [hW]; exact ((Below.refl _ _).alloc (Nat.le_refl _) _).alloc (by simp) _
 have kB : Blk W w0.heap.size 44 #[.int .i64 r, .int .i64 c, .slice UA UL uc] := by rw [hW]; exact (Blk.new _ _ _).alloc _
 have kR : Blk W (w0.heap.size + 1) 44 #[.int .i64 0, .int .i64 0, .slice none 0 0] := by
  rw [hW]
  have := Blk.new (w0.alloc (.cells #[.int .i64 r, .int .i64 c, .slice UA UL uc] 44)) 44 #[.int .i64 0, .int .i64 0, .slice none 0 0]
  simpa only [World.size_alloc] using this
 have sz : W.heap.size = w0.heap.size + 1 + 1 := by rw [hW]; simp
 have SZ := Lib.hid sz
 have HU := Lib.hid (MxR.next g0 hu')
 have HF := Lib.hid hf
 have HP := Lib.hid hp
 have c0 := kB.cell' (i := 0) rfl
 have c1 := kB.cell' (i := 1) rfl
 have c2 := kB.cell' (i := 2) rfl
 clear hu' sz hf hp
 go_enter Tryz.func105, Tryz.ntmps105
 go_wp2_with fail
 rw [← hW]; clear hW
 refine (l3Copy_any _ _ _ HU.out).mono ?_; rintro e w1 ⟨v1, rfl, hM, hb1⟩
 obtain ⟨A, cap, ev⟩ := hM.form
 subst ev
 simp only [flat_length] at hM ⊢
 obtain ⟨L, hL⟩ : ∃ n, r * c = n := ⟨_, rfl⟩
 rw [hL] at hM ⊢
 have HL := Lib.hid hL
 clear hL
 have kR1 := kR.call hb1
 have g1 := bthen g0 hb1
 clear c0 c1 c2
 have s1 := hb1.size
 have sz := SZ.out
 obtain ⟨w2, hw2⟩ : ∃ w2, w2 = (w1.alloc (.cells #[.int .i64 r, .int .i64 c, .slice A L cap] 44)).alloc (.cells #[] 3) := ⟨_, rfl⟩
 have b2 : Below w1.heap.size w1 w2 := by rw [hw2]; exact ((Below.refl _ _).alloc (Nat.le_refl _) _).alloc (by simp) _
 have kA2 : Blk w2 w1.heap.size 44 #[.int .i64 r, .int .i64 c, .slice A L cap] := by rw [hw2]; exact (Blk.new _ _ _).alloc _
 have kR2 := kR1.call b2
 have g2 := bthen g1 b2
 have s2 : w2.heap.size = w1.heap.size + 1 + 1 := by rw [hw2]; simp
 obtain ⟨sA, esA, hIA, _, _⟩ := hM
 simp only [Value.agg.injEq, Array.mk.injEq, List.cons.injEq, and_true, true_and] at esA
 subst esA
 have hI2 := hIA.below b2
 have hPv : IntsO w2 w1.heap.size w2.heap.size (.slice (some ⟨w1.heap.size + 1, 0, none⟩) 0 0) [] := by
  have := OwnI.made (w := w1.alloc (.cells #[.int .i64 r, .int .i64 c, .slice A L cap] 44)) (base := w1.heap.size) 3 rfl (by simp)
  rw [← hw2] at this
  simp only [World.size_alloc] at this
  exact IntsO.of_own this
 have hS0 : RT w1.heap.size W.heap.size w2 A r c L cap w2 (rdTo p r f 0).1 (.slice (some ⟨w1.heap.size + 1, 0, none⟩) 0 0) (rdTo p r f 0).2 :=
  ⟨⟨Below.refl _ _, fam_two hI2 hPv s1 (by omega)⟩, kA2⟩
 have KR := Lib.hid kR2
 have G2 := Lib.hid g2
 have hWB : W.heap.size ≤ w2.heap.size := by omega
 have HB0 : Hid (w0.heap.size < W.heap.size) := by show _ < _; omega
 have HWB := Lib.hid hWB
 clear kB kR kR1 g0 g1 hIA hI2 kR2 kA2 g2 s1 s2 sz hb1 hWB b2 hPv
 go_wp2
 rw [← hw2]; clear hw2
 go_loopw [7, 8, 9] (fun pv nv i wr => ∃ k : Nat, k ≤ c ∧ i = .int .i64 k ∧ nv = .int .i64 ((rdTo p r f k).2.length : Int) ∧ RT w1.heap.size W.heap.size w2 A r c L cap wr (rdTo p r f k).1 pv (rdTo p r f k).2) (fun _ _ i _ => c - (intOf i).toNat)
 case atStart => exact ⟨0, Nat.zero_le _, rfl, rfl, hS0⟩
 case round =>
  clear hS0
  obtain ⟨k, hk, rfl, rfl, S⟩ := hrel
  obtain ⟨PA, pc, ev, _, _⟩ := S.1.ownP.1.form
  subst ev
  have hln := rdTo_len p r f k
  have hin := inF_to hpr.1 HF.out k
  have hrs := rdTo_succ p r f k
  have hrest := Lib.hid (fun h => rdTo_rest (p := p) (r := r) (f := f) (k := k) h (c - k))
  obtain ⟨F, hFF⟩ : ∃ F, (rdTo p r f k).1 = F := ⟨_, rfl⟩
  obtain ⟨ps, hps⟩ : ∃ ps, (rdTo p r f k).2 = ps := ⟨_, rfl⟩
  rw [hFF, hps] at S hrs
  rw [hps] at hln
  rw [hFF] at hin
  rw [hps]
  obtain ⟨n, hn⟩ : ∃ n, ps.length = n := ⟨_, rfl⟩
  rw [hn] at hln hrs S ⊢
  have HRS := Lib.hid hrs
  have HN := Lib.hid hn
  have HIN := Lib.hid hin
  have HFF := Lib.hid hFF
  have HPS := Lib.hid hps
  clear hFF hps hn hin hrs
  by_cases hgo : k < c ∧ n < r
  ·obtain ⟨hlt, hnr⟩ := hgo
   have kb := (S).2
   have c0 := kb.cell' (i := 0) rfl
   have c1 := kb.cell' (i := 1) rfl
   have c2 := kb.cell' (i := 2) rfl
   go_wp2
   clear kb c0 c1 c2
   have ha0 := atI_self F k r
   go_loopw [10, 11] (fun a i wr => ∃ m : Nat, n ≤ m ∧ m ≤ r ∧ i = .int .i64 ((m : Int) - 1) ∧ a = .int .i64 (atI F k m r) ∧ RT w1.heap.size W.heap.size w2 A r c L cap wr F (.slice PA n pc) ps) (fun _ i _ => (intOf i + 1).toNat)
   case atStart => exact ⟨r, by omega, Nat.le_refl _, rfl, by rw [ha0], S⟩
   case round =>
    clear S ha0
    obtain ⟨m, hnm, hmr, rfl, rfl, S⟩ := hrel
    obtain ⟨g, eA, eL, hLc, hcb, hBg, hgw⟩ := S.1.addr (Nat.mul_pos (by omega) (by omega))
    subst eA
    have EL := Lib.hid eL
    clear eL
    by_cases hlm : n < m
    ·obtain ⟨m', rfl⟩ : ∃ m', m = m' + 1 := ⟨m - 1, by omega⟩
     have em : ((m' + 1 : Nat) : Int) - 1 = (m' : Int) := by omega
     rw [em]
     clear em
     have hlr : m' < r := by omega
     obtain ⟨Q, hQ⟩ : ∃ Q, Q = m' * c := ⟨_, rfl⟩
     have hQw : ∀ [Inhabited Unit], wrap64 ((m' : Int) * (c : Int)) = (Q : Int) := fun {_} => ixP hlr hlt hr hc hQ
     obtain ⟨a1, a2, a3⟩ := rowP hlr hlt hr hc hQ
     rw [← EL.out] at a1 a2 a3
     obtain ⟨z1, _, _⟩ := S.1.cellP hlr hlt hQ
     clear hQ
     have kb := (S).2
     have c0 := kb.cell' (i := 0) rfl
     have c1 := kb.cell' (i := 1) rfl
     have c2 := kb.cell' (i := 2) rfl
     by_cases hz0 : F m' k = 0
     ·rw [hz0] at z1
      have HA := Lib.hid (atI_zero hlr hz0)
      clear hz0
      go_wp2
      go_roundw
      case rel => exact ⟨m', by omega, by omega, by go_num, by rw [HA.out], S⟩
      case measure => simp [intOf]
     ·have hzb : (F m' k != 0) = true := by simpa using hz0
      have HA := Lib.hid (atI_ne hlr hz0)
      clear hz0
      go_wp2
      go_roundw
      case rel => exact ⟨m', by omega, by omega, by go_num, by rw [HA.out], S⟩
      case measure => simp [intOf]
    ·have hmn : m = n := by omega
     subst hmn
     by_cases hfull : nzF F k m r = r
     ·have HRS2 := Lib.hid (HRS.out.trans (if_neg (by rw [hfull]; omega)))
      have hat : atI F k m r = -1 := by rw [atI, if_pos hfull]
      rw [hat]
      clear hat hfull
      go_wp2
      go_roundw
      case rel => exact ⟨k + 1, by omega, by go_num, by rw [HRS2.out, HN.out], by rw [HRS2.out]; exact S⟩
      case measure => simp [intOf]; omega
     ·have hle := nzF_le (f := F) (k := k) hmr
      have hlr0 : nzF F k m r < r := by omega
      have HRS2 := Lib.hid (HRS.out.trans (if_pos hlr0))
      have hne := nzF_ne hmr hlr0
      have hat : atI F k m r = (nzF F k m r : Int) := by rw [atI, if_neg hfull]
      rw [hat]
      clear hat hfull
      obtain ⟨n, hnn⟩ : ∃ n, n = m := ⟨_, rfl⟩
      subst hnn
      obtain ⟨a, ha⟩ : ∃ a, nzF F k n r = a := ⟨_, rfl⟩
      rw [ha] at hle hlr0 hne ⊢
      have HZA := Lib.hid ha
      have HNE := Lib.hid hne
      clear ha hne
      obtain ⟨P, hP⟩ : ∃ P, P = n * c := ⟨_, rfl⟩
      obtain ⟨Q, hQ⟩ : ∃ Q, Q = a * c := ⟨_, rfl⟩
      have hPw := Lib.hid (ixP hnr hlt hr hc hP)
      have hQw := Lib.hid (ixP hlr0 hlt hr hc hQ)
      have hrp := rowP hnr hlt hr hc hP
      rw [← EL.out] at hrp
      have HPP := Lib.hid hP
      have HQQ := Lib.hid hQ
      clear hP hQ
      rw [← sw_0 n a F] at S
      have hdn : decide ((n : Int) ≤ (n : Int) - 1) = false := decide_eq_false (by omega)
      go_wp2
      clear hdn
      go_loopw [12] (fun i wr => ∃ j : Nat, j ≤ c ∧ i = .int .i64 j ∧ RT w1.heap.size W.heap.size w2 (some ⟨g, 0, none⟩) r c L cap wr (swJ n a j F) (.slice PA n pc) ps) (fun i _ => c - (intOf i).toNat)
      case atStart => exact ⟨0, Nat.zero_le _, rfl, S⟩
      case round =>
       as_aux_lemma =>
        clear S
        obtain ⟨j, hj, rfl, S⟩ := hrel
        have kb := (S).2
        have c0 := kb.cell' (i := 0) rfl
        have c1 := kb.cell' (i := 1) rfl
        have c2 := kb.cell' (i := 2) rfl
        by_cases hljc : j < c
        ·obtain ⟨a1, a2, a3⟩ := rowP hlr0 hljc hr hc HQQ.out
         obtain ⟨b1, b2, b3⟩ := rowP hnr hljc hr hc HPP.out
         rw [← EL.out] at a1 a2 a3 b1 b2 b3
         have hst := sw_step F hnr hlr0 hljc
         rw [← HQQ.out, ← HPP.out] at hst
         have HST := Lib.hid hst
         obtain ⟨z1, _, z2⟩ := S.1.cellP hnr hljc HPP.out
         rw [sw_rest] at z1
         have hSS := Lib.hid S
         have hpw : ∀ [Inhabited Unit], wrap64 ((n : Int) * (c : Int)) = (P : Int) := fun {_} => hPw.out
         clear hst S kb
         go_wp2
         rw [hPw.out]
         clear c0 c1 c2 z1 z2 hpw
         refine wp_region_net (by kernel_rfl) [.eq (.pointer (some ⟨w1.heap.size, 2, none⟩)), .eq (.slice (some ⟨g, 0, none⟩) L cap), .eq (.int .i64 n), .eq (.pointer (some ⟨w1.heap.size, 1, none⟩)), .eq (.int .i64 c), .eq (.int .i64 P), .eq (.int .i64 j), .eq (.int .i64 ((P : Int) + j)), .eq (.pointer (some ⟨w1.heap.size, 2, none⟩)), .eq (.slice (some ⟨g, 0, none⟩) L cap), .eq (.int .i64 a), .eq (.pointer (some ⟨w1.heap.size, 1, none⟩)), .eq (.int .i64 c), .eq (.int .i64 Q), .eq (.int .i64 j), .eq (.int .i64 ((Q : Int) + j)), .eq (.pointer (some ⟨g, Q + j, none⟩)), .eq (.int .i64 (F a j)), .eq (.pointer (some ⟨g, P + j, none⟩))] [[], [0], [], [], [3], [2, 3, 4], [], [2, 3, 4, 5, 6], [], [8], [], [], [11], [10, 11, 12], [], [10, 11, 12, 13, 14], [8, 9, 10, 11, 12, 13, 14, 15], [8, 9, 10, 11, 12, 13, 14, 15, 16], [0, 1, 2, 3, 4, 5, 6, 7, 8, 9, 10, 11, 12, 13, 14, 15, 16, 17], [0, 1, 2, 3, 4, 5, 6, 7, 8, 9, 10, 11, 12, 13, 14, 15, 16, 17, 18]] 19 (by kernel_rfl) ⟨trivial, trivial, trivial, trivial, trivial, trivial, trivial, trivial, trivial, trivial, trivial, trivial, trivial, trivial, trivial, trivial, trivial, trivial, trivial, trivial⟩ ⟨?_, ?_, ?_, ?_, ?_, ?_, ?_, ?_, ?_, ?_, ?_, ?_, ?_, ?_, ?_, ?_, ?_, ?_, ?_, trivial⟩ ?_
         ·intro x w hb hk Q' hQ
          clear hk
          simp only [netE] at hQ ⊢
          go_wp2
          exact hQ _ _ (Below.refl _ _) rfl
         ·intro x w hb hk Q' hQ
          have h0 : x.v 0 = _ := (hk 0 (by decide)).1
          clear hk
          simp only [netE] at hQ ⊢
          simp only [h0] at hQ ⊢
          clear h0
          have q := (hSS.out.call HWB.out hb).2.cell' (i := 2) rfl
          go_wp2
          exact hQ _ _ (Below.refl _ _) rfl
         ·intro x w hb hk Q' hQ
          clear hk
          simp only [netE] at hQ ⊢
          go_wp2
          exact hQ _ _ (Below.refl _ _) rfl
         ·intro x w hb hk Q' hQ
          clear hk
          simp only [netE] at hQ ⊢
          go_wp2
          exact hQ _ _ (Below.refl _ _) rfl
         ·intro x w hb hk Q' hQ
          have h3 : x.v 3 = _ := (hk 3 (by decide)).1
          clear hk
          simp only [netE] at hQ ⊢
          simp only [h3] at hQ ⊢
          clear h3
          have q := (hSS.out.call HWB.out hb).2.cell' (i := 1) rfl
          go_wp2
          exact hQ _ _ (Below.refl _ _) rfl
         ·intro x w hb hk Q' hQ
          have h2 : x.v 2 = _ := (hk 2 (by decide)).1
          have h4 : x.v 4 = _ := (hk 4 (by decide)).1
          clear hk
          simp only [netE] at hQ ⊢
          simp only [h2, h4] at hQ ⊢
          clear h2 h4
          go_wp2
          rw [hPw.out]
          exact hQ _ _ (Below.refl _ _) rfl
         ·intro x w hb hk Q' hQ
          clear hk
          simp only [netE] at hQ ⊢
          go_wp2
          exact hQ _ _ (Below.refl _ _) rfl
         ·intro x w hb hk Q' hQ
          have h5 : x.v 5 = _ := (hk 5 (by decide)).1
          have h6 : x.v 6 = _ := (hk 6 (by decide)).1
          clear hk
          simp only [netE] at hQ ⊢
          simp only [h5, h6] at hQ ⊢
          clear h5 h6
          go_wp2
          exact hQ (.int .i64 ((P : Int) + j)) _ (Below.refl _ _) rfl
         ·intro x w hb hk Q' hQ
          clear hk
          simp only [netE] at hQ ⊢
          go_wp2
          exact hQ _ _ (Below.refl _ _) rfl
         ·intro x w hb hk Q' hQ
          have h8 : x.v 8 = _ := (hk 8 (by decide)).1
          clear hk
          simp only [netE] at hQ ⊢
          simp only [h8] at hQ ⊢
          clear h8
          have q := (hSS.out.call HWB.out hb).2.cell' (i := 2) rfl
          go_wp2
          exact hQ _ _ (Below.refl _ _) rfl
         ·intro x w hb hk Q' hQ
          clear hk
          simp only [netE] at hQ ⊢
          go_wp2
          exact hQ _ _ (Below.refl _ _) rfl
         ·intro x w hb hk Q' hQ
          clear hk
          simp only [netE] at hQ ⊢
          go_wp2
          exact hQ _ _ (Below.refl _ _) rfl
         ·intro x w hb hk Q' hQ
          have h11 : x.v 11 = _ := (hk 11 (by decide)).1
          clear hk
          simp only [netE] at hQ ⊢
          simp only [h11] at hQ ⊢
          clear h11
          have q := (hSS.out.call HWB.out hb).2.cell' (i := 1) rfl
          go_wp2
          exact hQ _ _ (Below.refl _ _) rfl
         ·intro x w hb hk Q' hQ
          have h10 : x.v 10 = _ := (hk 10 (by decide)).1
          have h12 : x.v 12 = _ := (hk 12 (by decide)).1
          clear hk
          simp only [netE] at hQ ⊢
          simp only [h10, h12] at hQ ⊢
          clear h10 h12
          go_wp2
          rw [hQw.out]
          exact hQ _ _ (Below.refl _ _) rfl
         ·intro x w hb hk Q' hQ
          clear hk
          simp only [netE] at hQ ⊢
          go_wp2
          exact hQ _ _ (Below.refl _ _) rfl
         ·intro x w hb hk Q' hQ
          have h13 : x.v 13 = _ := (hk 13 (by decide)).1
          have h14 : x.v 14 = _ := (hk 14 (by decide)).1
          clear hk
          simp only [netE] at hQ ⊢
          simp only [h13, h14] at hQ ⊢
          clear h13 h14
          go_wp2
          exact hQ (.int .i64 ((Q : Int) + j)) _ (Below.refl _ _) rfl
         ·intro x w hb hk Q' hQ
          have h9 : x.v 9 = _ := (hk 9 (by decide)).1
          have h15 : x.v 15 = _ := (hk 15 (by decide)).1
          clear hk
          simp only [netE] at hQ ⊢
          simp only [h9, h15] at hQ ⊢
          clear h9 h15
          go_wp2
          exact hQ _ _ (Below.refl _ _) rfl
         ·intro x w hb hk Q' hQ
          have h16 : x.v 16 = _ := (hk 16 (by decide)).1
          clear hk
          simp only [netE] at hQ ⊢
          simp only [h16] at hQ ⊢
          clear h16
          have z := ((hSS.out.call HWB.out hb).1.cellP hlr0 hljc HQQ.out).1
          rw [sw_rest] at z
          go_wp2
          exact hQ _ _ (Below.refl _ _) rfl
         ·intro x w hb hk Q' hQ
          have h1 : x.v 1 = _ := (hk 1 (by decide)).1
          have h7 : x.v 7 = _ := (hk 7 (by decide)).1
          clear hk
          simp only [netE] at hQ ⊢
          simp only [h1, h7] at hQ ⊢
          clear h1 h7
          go_wp2
          exact hQ _ _ (Below.refl _ _) rfl
         ·intro x w hb hk hiv hdj
          have h0 : x.v 0 = .pointer (some ⟨w1.heap.size, 2, none⟩) := hk 0 (by decide)
          have h1 : x.v 1 = .slice (some ⟨g, 0, none⟩) L cap := hk 1 (by decide)
          have h2 : x.v 2 = .int .i64 n := hk 2 (by decide)
          have h3 : x.v 3 = .pointer (some ⟨w1.heap.size, 1, none⟩) := hk 3 (by decide)
          have h4 : x.v 4 = .int .i64 c := hk 4 (by decide)
          have h5 : x.v 5 = .int .i64 P := hk 5 (by decide)
          have h6 : x.v 6 = .int .i64 j := hk 6 (by decide)
          have h7 : x.v 7 = .int .i64 ((P : Int) + j) := hk 7 (by decide)
          have h8 : x.v 8 = .pointer (some ⟨w1.heap.size, 2, none⟩) := hk 8 (by decide)
          have h9 : x.v 9 = .slice (some ⟨g, 0, none⟩) L cap := hk 9 (by decide)
          have h10 : x.v 10 = .int .i64 a := hk 10 (by decide)
          have h11 : x.v 11 = .pointer (some ⟨w1.heap.size, 1, none⟩) := hk 11 (by decide)
          have h12 : x.v 12 = .int .i64 c := hk 12 (by decide)
          have h13 : x.v 13 = .int .i64 Q := hk 13 (by decide)
          have h14 : x.v 14 = .int .i64 j := hk 14 (by decide)
          have h15 : x.v 15 = .int .i64 ((Q : Int) + j) := hk 15 (by decide)
          have h16 : x.v 16 = .pointer (some ⟨g, Q + j, none⟩) := hk 16 (by decide)
          have h17 : x.v 17 = .int .i64 (F a j) := hk 17 (by decide)
          have h18 : x.v 18 = .pointer (some ⟨g, P + j, none⟩) := hk 18 (by decide)
          clear hk
          simp only [netE]
          simp only [List.drop_succ_cons, List.drop_zero, h0, h1, h2, h3, h4, h5, h6, h7, h8, h9, h10, h11, h12, h13, h14, h15, h16, h17, h18]
          clear h0 h1 h2 h3 h4 h5 h6 h7 h8 h9 h10 h11 h12 h13 h14 h15 h16 h17 h18
          have S := hSS.out.call HWB.out hb
          have ia := (S.1.cellP hlr0 hljc HQQ.out)
          have ib := (S.1.cellP hnr hljc HPP.out)
          rw [sw_rest] at ia ib
          have hst1 : (flat r c (swJ n a j F)).set (P + j) (F a j) = flat r c (fun x b => if x = n ∧ b = j then F a j else swJ n a j F x b) := by rw [HPP.out]; exact flat_set _ _ hnr hljc
          have hst2 := HST.out
          rw [hst1] at hst2
          have S1 := S.put (J := P + j) (x := F a j) hBg (S.1.size HWB.out) ia.2.1 hst1
          have S2 := S1.put (J := Q + j) (x := F n j) hBg (S1.1.size HWB.out) ib.2.1 hst2
          obtain ⟨q1, _, q2⟩ := S1.1.cellP hlr0 hljc HQQ.out
          obtain ⟨p1, _, p2⟩ := ib
          have kb := S1.2
          have c0 := kb.cell' (i := 0) rfl
          have c1 := kb.cell' (i := 1) rfl
          have c2 := kb.cell' (i := 2) rfl
          have HS2 := Lib.hid S2
          have hqw : ∀ [Inhabited Unit], wrap64 ((a : Int) * (c : Int)) = (Q : Int) := fun {_} => hQw.out
          clear ia S S1 S2 hiv hdj hst1 hst2 kb
          go_wp2
          go_roundw
          case rel => exact ⟨j + 1, by omega, by go_num, HS2.out⟩
          case measure => simp [intOf]; omega
        ·have hjc : j = c := by omega
         subst hjc
         have S := S.congr (sw_end n a r j F)
         have hin1 := inF_sw HIN.out hnr hlr0
         have hx0 : swA n a F n k = F a k := by rw [swA, if_pos rfl]
         obtain ⟨F1, hF1⟩ : ∃ F1, swA n a F = F1 := ⟨_, rfl⟩
         rw [hF1] at S hin1 hx0
         obtain ⟨x, hx⟩ : ∃ x, F1 n k = x := ⟨_, rfl⟩
         obtain ⟨z1, hxI, _⟩ := S.1.cellP hnr hlt HPP.out
         have hxr := hin1 n k hnr hlt
         rw [hx] at z1 hxr hx0
         have hxn : 1 ≤ x := by
          have := HNE.out
          rw [← hx0] at this
          omega
         obtain ⟨s, hs⟩ : ∃ s, invP p x = s := ⟨_, rfl⟩
         have hsr := invP_r (x := x) hpr
         rw [hs] at hsr
         have HS := Lib.hid hs
         have HX := Lib.hid hx
         have HF1 := Lib.hid hF1
         have HIN1 := Lib.hid hin1
         have hSS := Lib.hid S
         have hpw : ∀ [Inhabited Unit], wrap64 ((n : Int) * (j : Int)) = (P : Int) := fun {_} => hPw.out
         clear hs hx hxI hF1 hin1 hx0 S kb c0 c1 c2
         have c0 := hSS.out.2.cell' (i := 0) rfl
         have c1 := hSS.out.2.cell' (i := 1) rfl
         have c2 := hSS.out.2.cell' (i := 2) rfl
         obtain ⟨b1, b2, b3⟩ := hrp
         go_wp2_with fail
         refine (specInverseMod_any p x _ HP.out hxn hxr.2).mono ?_; rintro e w5 ⟨rfl, hww⟩; replace hww := hww.symm; subst hww
         rw [HS.out]
         have S := hSS.out
         rw [← sc_0 p n s F1] at S
         clear c0 c1 c2 z1
         go_wp2
         try rw [hPw.out]
         clear hpw
         go_loopw [15] (fun i wr => ∃ j' : Nat, j' ≤ j ∧ i = .int .i64 j' ∧ RT w1.heap.size W.heap.size w2 (some ⟨g, 0, none⟩) r j L cap wr (scJ p n s j' F1) (.slice PA n pc) ps) (fun i _ => j - (intOf i).toNat)
         case atStart => exact ⟨0, Nat.zero_le _, rfl, S⟩
         case round =>
          as_aux_lemma =>
           clear S hSS
           obtain ⟨j', hj', rfl, S⟩ := hrel
           have kb := (S).2
           have c0 := kb.cell' (i := 0) rfl
           have c1 := kb.cell' (i := 1) rfl
           have c2 := kb.cell' (i := 2) rfl
           by_cases hl4 : j' < j
           ·obtain ⟨b1, b2, b3⟩ := rowP hnr hl4 hr hc HPP.out
            rw [← EL.out] at b1 b2 b3
            have hi1 := HIN1.out n j' hnr hl4
            have hst := sc_step (p := p) (s := s) F1 hnr hl4
            obtain ⟨a4, ha4⟩ : ∃ a4, F1 n j' = a4 := ⟨_, rfl⟩
            rw [ha4] at hi1 hst
            rw [← HPP.out] at hst
            have k0 : 0 ≤ a4 * s := Int.mul_nonneg hi1.1 hsr.1
            have k1 : a4 * s ≤ 4 * 4 := Int.mul_le_mul (by omega) hsr.2 hsr.1 (by omega)
            obtain ⟨K, hK⟩ : ∃ K, a4 * s = K := ⟨_, rfl⟩
            rw [hK] at k0 k1 hst
            have hKw := Lib.hid (show wrap64 (s * a4) = K by rw [Int.mul_comm, hK]; exact IntWalk.wrap64_in _ ⟨by omega, by omega⟩)
            have hr1 := emod_rng (x := K) hpr.1
            have HST := Lib.hid hst
            have HA4 := Lib.hid ha4
            have hSS := Lib.hid S
            have hKI : Hid (I64 K) := by show _ ∧ _; omega
            have hRI : Hid (I64 (K % p)) := by show _ ∧ _; omega
            clear ha4 hK hst S kb hi1 k0 k1
            go_wp2
            clear c0 c1 c2
            refine wp_region_net (by kernel_rfl) [.eq (.pointer (some ⟨w1.heap.size, 2, none⟩)), .eq (.slice (some ⟨g, 0, none⟩) L cap), .eq (.int .i64 n), .eq (.pointer (some ⟨w1.heap.size, 1, none⟩)), .eq (.int .i64 j), .eq (.int .i64 P), .eq (.int .i64 j'), .eq (.int .i64 ((P : Int) + j')), .eq (.int .i64 p), .eq (.int .i64 s), .eq (.pointer (some ⟨w1.heap.size, 2, none⟩)), .eq (.slice (some ⟨g, 0, none⟩) L cap), .eq (.int .i64 n), .eq (.pointer (some ⟨w1.heap.size, 1, none⟩)), .eq (.int .i64 j), .eq (.int .i64 P), .eq (.int .i64 j'), .eq (.int .i64 ((P : Int) + j')), .eq (.pointer (some ⟨g, P + j', none⟩)), .eq (.int .i64 a4), .eq (.int .i64 K), .eq (.int .i64 (K % p)), .eq (.pointer (some ⟨g, P + j', none⟩))] [[], [0], [], [], [3], [2, 3, 4], [], [2, 3, 4, 5, 6], [], [], [], [10], [], [], [13], [12, 13, 14], [], [12, 13, 14, 15, 16], [10, 11, 12, 13, 14, 15, 16, 17], [10, 11, 12, 13, 14, 15, 16, 17, 18], [9, 10, 11, 12, 13, 14, 15, 16, 17, 18, 19], [8, 9, 10, 11, 12, 13, 14, 15, 16, 17, 18, 19, 20], [0, 1, 2, 3, 4, 5, 6, 7, 8, 9, 10, 11, 12, 13, 14, 15, 16, 17, 18, 19, 20, 21], [0, 1, 2, 3, 4, 5, 6, 7, 8, 9, 10, 11, 12, 13, 14, 15, 16, 17, 18, 19, 20, 21, 22]] 23 (by kernel_rfl) ⟨trivial, trivial, trivial, trivial, trivial, trivial, trivial, trivial, trivial, trivial, trivial, trivial, trivial, trivial, trivial, trivial, trivial, trivial, trivial, trivial, trivial, trivial, trivial, trivial⟩ ⟨?_, ?_, ?_, ?_, ?_, ?_, ?_, ?_, ?_, ?_, ?_, ?_, ?_, ?_, ?_, ?_, ?_, ?_, ?_, ?_, ?_, ?_, ?_, trivial⟩ ?_
            ·intro x w hb hk Q' hQ
             clear hk
             simp only [netE] at hQ ⊢
             go_wp2
             exact hQ _ _ (Below.refl _ _) rfl
            ·intro x w hb hk Q' hQ
             have h0 : x.v 0 = _ := (hk 0 (by decide)).1
             clear hk
             simp only [netE] at hQ ⊢
             simp only [h0] at hQ ⊢
             clear h0
             have q := (hSS.out.call HWB.out hb).2.cell' (i := 2) rfl
             go_wp2
             exact hQ _ _ (Below.refl _ _) rfl
            ·intro x w hb hk Q' hQ
             clear hk
             simp only [netE] at hQ ⊢
             go_wp2
             exact hQ _ _ (Below.refl _ _) rfl
            ·intro x w hb hk Q' hQ
             clear hk
             simp only [netE] at hQ ⊢
             go_wp2
             exact hQ _ _ (Below.refl _ _) rfl
            ·intro x w hb hk Q' hQ
             have h3 : x.v 3 = _ := (hk 3 (by decide)).1
             clear hk
             simp only [netE] at hQ ⊢
             simp only [h3] at hQ ⊢
             clear h3
             have q := (hSS.out.call HWB.out hb).2.cell' (i := 1) rfl
             go_wp2
             exact hQ _ _ (Below.refl _ _) rfl
            ·intro x w hb hk Q' hQ
             have h2 : x.v 2 = _ := (hk 2 (by decide)).1
             have h4 : x.v 4 = _ := (hk 4 (by decide)).1
             clear hk
             simp only [netE] at hQ ⊢
             simp only [h2, h4] at hQ ⊢
             clear h2 h4
             go_wp2
             rw [hPw.out]
             exact hQ _ _ (Below.refl _ _) rfl
            ·intro x w hb hk Q' hQ
             clear hk
             simp only [netE] at hQ ⊢
             go_wp2
             exact hQ _ _ (Below.refl _ _) rfl
            ·intro x w hb hk Q' hQ
             have h5 : x.v 5 = _ := (hk 5 (by decide)).1
             have h6 : x.v 6 = _ := (hk 6 (by decide)).1
             clear hk
             simp only [netE] at hQ ⊢
             simp only [h5, h6] at hQ ⊢
             clear h5 h6
             go_wp2
             exact hQ (.int .i64 ((P : Int) + j')) _ (Below.refl _ _) rfl
            ·intro x w hb hk Q' hQ
             clear hk
             simp only [netE] at hQ ⊢
             go_wp2
             exact hQ _ _ (Below.refl _ _) rfl
            ·intro x w hb hk Q' hQ
             clear hk
             simp only [netE] at hQ ⊢
             go_wp2
             exact hQ _ _ (Below.refl _ _) rfl
            ·intro x w hb hk Q' hQ
             clear hk
             simp only [netE] at hQ ⊢
             go_wp2
             exact hQ _ _ (Below.refl _ _) rfl
            ·intro x w hb hk Q' hQ
             have h10 : x.v 10 = _ := (hk 10 (by decide)).1
             clear hk
             simp only [netE] at hQ ⊢
             simp only [h10] at hQ ⊢
             clear h10
             have q := (hSS.out.call HWB.out hb).2.cell' (i := 2) rfl
             go_wp2
             exact hQ _ _ (Below.refl _ _) rfl
            ·intro x w hb hk Q' hQ
             clear hk
             simp only [netE] at hQ ⊢
             go_wp2
             exact hQ _ _ (Below.refl _ _) rfl
            ·intro x w hb hk Q' hQ
             clear hk
             simp only [netE] at hQ ⊢
             go_wp2
             exact hQ _ _ (Below.refl _ _) rfl
            ·intro x w hb hk Q' hQ
             have h13 : x.v 13 = _ := (hk 13 (by decide)).1
             clear hk
             simp only [netE] at hQ ⊢
             simp only [h13] at hQ ⊢
             clear h13
             have q := (hSS.out.call HWB.out hb).2.cell' (i := 1) rfl
             go_wp2
             exact hQ _ _ (Below.refl _ _) rfl
            ·intro x w hb hk Q' hQ
             have h12 : x.v 12 = _ := (hk 12 (by decide)).1
             have h14 : x.v 14 = _ := (hk 14 (by decide)).1
             clear hk
             simp only [netE] at hQ ⊢
             simp only [h12, h14] at hQ ⊢
             clear h12 h14
             go_wp2
             rw [hPw.out]
             exact hQ _ _ (Below.refl _ _) rfl
            ·intro x w hb hk Q' hQ
             clear hk
             simp only [netE] at hQ ⊢
             go_wp2
             exact hQ _ _ (Below.refl _ _) rfl
            ·intro x w hb hk Q' hQ
             have h15 : x.v 15 = _ := (hk 15 (by decide)).1
             have h16 : x.v 16 = _ := (hk 16 (by decide)).1
             clear hk
             simp only [netE] at hQ ⊢
             simp only [h15, h16] at hQ ⊢
             clear h15 h16
             go_wp2
             exact hQ (.int .i64 ((P : Int) + j')) _ (Below.refl _ _) rfl
            ·intro x w hb hk Q' hQ
             have h11 : x.v 11 = _ := (hk 11 (by decide)).1
             have h17 : x.v 17 = _ := (hk 17 (by decide)).1
             clear hk
             simp only [netE] at hQ ⊢
             simp only [h11, h17] at hQ ⊢
             clear h11 h17
             go_wp2
             exact hQ _ _ (Below.refl _ _) rfl
            ·intro x w hb hk Q' hQ
             have h18 : x.v 18 = _ := (hk 18 (by decide)).1
             clear hk
             simp only [netE] at hQ ⊢
             simp only [h18] at hQ ⊢
             clear h18
             have z := ((hSS.out.call HWB.out hb).1.cellP hnr hl4 HPP.out).1
             rw [sc_rest, HA4.out] at z
             go_wp2
             exact hQ _ _ (Below.refl _ _) rfl
            ·intro x w hb hk Q' hQ
             have h9 : x.v 9 = _ := (hk 9 (by decide)).1
             have h19 : x.v 19 = _ := (hk 19 (by decide)).1
             clear hk
             simp only [netE] at hQ ⊢
             simp only [h9, h19] at hQ ⊢
             clear h9 h19
             go_wp2
             rw [hKw.out]
             exact hQ _ _ (Below.refl _ _) rfl
            ·intro x w hb hk Q' hQ
             have h8 : x.v 8 = _ := (hk 8 (by decide)).1
             have h20 : x.v 20 = _ := (hk 20 (by decide)).1
             clear hk
             simp only [netE] at hQ ⊢
             simp only [h8, h20] at hQ ⊢
             clear h8 h20
             go_wp2_with fail
             refine (l2Mod_any p K _ hpr hKI.out).mono ?_; rintro e w5 ⟨rfl, hww⟩; replace hww := hww.symm; subst hww
             go_wp2
             exact hQ _ _ (Below.refl _ _) rfl
            ·intro x w hb hk Q' hQ
             have h1 : x.v 1 = _ := (hk 1 (by decide)).1
             have h7 : x.v 7 = _ := (hk 7 (by decide)).1
             clear hk
             simp only [netE] at hQ ⊢
             simp only [h1, h7] at hQ ⊢
             clear h1 h7
             go_wp2
             exact hQ _ _ (Below.refl _ _) rfl
            ·intro x w hb hk hiv hdj
             have h0 : x.v 0 = .pointer (some ⟨w1.heap.size, 2, none⟩) := hk 0 (by decide)
             have h1 : x.v 1 = .slice (some ⟨g, 0, none⟩) L cap := hk 1 (by decide)
             have h2 : x.v 2 = .int .i64 n := hk 2 (by decide)
             have h3 : x.v 3 = .pointer (some ⟨w1.heap.size, 1, none⟩) := hk 3 (by decide)
             have h4 : x.v 4 = .int .i64 j := hk 4 (by decide)
             have h5 : x.v 5 = .int .i64 P := hk 5 (by decide)
             have h6 : x.v 6 = .int .i64 j' := hk 6 (by decide)
             have h7 : x.v 7 = .int .i64 ((P : Int) + j') := hk 7 (by decide)
             have h8 : x.v 8 = .int .i64 p := hk 8 (by decide)
             have h9 : x.v 9 = .int .i64 s := hk 9 (by decide)
             have h10 : x.v 10 = .pointer (some ⟨w1.heap.size, 2, none⟩) := hk 10 (by decide)
             have h11 : x.v 11 = .slice (some ⟨g, 0, none⟩) L cap := hk 11 (by decide)
             have h12 : x.v 12 = .int .i64 n := hk 12 (by decide)
             have h13 : x.v 13 = .pointer (some ⟨w1.heap.size, 1, none⟩) := hk 13 (by decide)
             have h14 : x.v 14 = .int .i64 j := hk 14 (by decide)
             have h15 : x.v 15 = .int .i64 P := hk 15 (by decide)
             have h16 : x.v 16 = .int .i64 j' := hk 16 (by decide)
             have h17 : x.v 17 = .int .i64 ((P : Int) + j') := hk 17 (by decide)
             have h18 : x.v 18 = .pointer (some ⟨g, P + j', none⟩) := hk 18 (by decide)
             have h19 : x.v 19 = .int .i64 a4 := hk 19 (by decide)
             have h20 : x.v 20 = .int .i64 K := hk 20 (by decide)
             have h21 : x.v 21 = .int .i64 (K % p) := hk 21 (by decide)
             have h22 : x.v 22 = .pointer (some ⟨g, P + j', none⟩) := hk 22 (by decide)
             clear hk
             simp only [netE]
             simp only [List.drop_succ_cons, List.drop_zero, h0, h1, h2, h3, h4, h5, h6, h7, h8, h9, h10, h11, h12, h13, h14, h15, h16, h17, h18, h19, h20, h21, h22]
             clear h0 h1 h2 h3 h4 h5 h6 h7 h8 h9 h10 h11 h12 h13 h14 h15 h16 h17 h18 h19 h20 h21 h22
             have S := hSS.out.call HWB.out hb
             obtain ⟨p1, _, p2⟩ := S.1.cellP hnr hl4 HPP.out
             have S2 := S.put (J := P + j') (x := K % p) hBg (S.1.size HWB.out) hRI.out HST.out
             have HS2 := Lib.hid S2
             clear S S2 hiv hdj
             go_wp2
             go_roundw
             case rel => exact ⟨j' + 1, by omega, by go_num, HS2.out⟩
             case measure => simp [intOf]; omega
           ·have hje : j' = j := by omega
            subst hje
            have S := S.congr (sc_end p n r j' s F1)
            have hin2 := inF_sc (s := s) (n := n) hpr.1 HIN1.out
            obtain ⟨F2, hF2⟩ : ∃ F2, scA p n s F1 = F2 := ⟨_, rfl⟩
            rw [hF2] at S hin2
            have hfin : Hid (rdF p r F n k = elA p n k F2) := by
             show _ = _
             rw [rdF, HZA.out, HF1.out, HX.out, HS.out, hF2]
            have HIN2 := Lib.hid hin2
            clear hF2 hin2 kb
            rw [← el_0 p n k F2] at S
            go_wp2
            clear c0 c1 c2
            go_loopw [16] (fun i wr => ∃ i' : Nat, i' ≤ r ∧ i = .int .i64 i' ∧ RT w1.heap.size W.heap.size w2 (some ⟨g, 0, none⟩) r j' L cap wr (elI p n k i' F2) (.slice PA n pc) ps) (fun i _ => r - (intOf i).toNat)
            case atStart => exact ⟨0, Nat.zero_le _, rfl, S⟩
            case round =>
             as_aux_lemma =>
              clear S
              obtain ⟨i, hi, rfl, S⟩ := hrel
              have kb := (S).2
              have c0 := kb.cell' (i := 0) rfl
              have c1 := kb.cell' (i := 1) rfl
              have c2 := kb.cell' (i := 2) rfl
              by_cases hl5 : i < r
              ·obtain ⟨R, hR⟩ : ∃ R, R = i * j' := ⟨_, rfl⟩
               have hRw := Lib.hid (ixP hl5 hlt hr hc hR)
               obtain ⟨a1, a2, a3⟩ := rowP hl5 hlt hr hc hR
               rw [← EL.out] at a1 a2 a3
               obtain ⟨z1, _, _⟩ := S.1.cellP hl5 hlt hR
               rw [el_rest] at z1
               have hr5 := HIN2.out i k hl5 hlt
               obtain ⟨q, hq⟩ : ∃ q, F2 i k = q := ⟨_, rfl⟩
               rw [hq] at hr5 z1
               have HR := Lib.hid hR
               have HQ5 := Lib.hid hq
               have hrw : ∀ [Inhabited Unit], wrap64 ((i : Int) * (j' : Int)) = (R : Int) := fun {_} => hRw.out
               clear hR hq
               rw [← elJ_0] at S
               go_wp2
               try rw [hRw.out]
               clear z1 c0 c1 c2 kb hrw
               go_loopw [18] (fun x wr => ∃ y : Nat, y ≤ j' ∧ x = .int .i64 y ∧ RT w1.heap.size W.heap.size w2 (some ⟨g, 0, none⟩) r j' L cap wr (elJ p n k i y F2) (.slice PA n pc) ps ∧ (i = n → y = 0)) (fun x _ => j' - (intOf x).toNat)
               case atStart => exact ⟨0, Nat.zero_le _, rfl, S, fun _ => rfl⟩
               case round =>
                as_aux_lemma =>
                 clear S
                 obtain ⟨y, hy, rfl, S, hyn⟩ := hrel
                 have kb := (S).2
                 have c0 := kb.cell' (i := 0) rfl
                 have c1 := kb.cell' (i := 1) rfl
                 have c2 := kb.cell' (i := 2) rfl
                 by_cases hin : i = n
                 ·have hy0 := hyn hin
                  subst hy0
                  have hne : ((i : Int) != n) = false := by rw [bne_eq_false_iff_eq]; omega
                  have S := S.congr (show flat r j' (elJ p n k i 0 F2) = flat r j' (elI p n k (i + 1) F2) by rw [elJ_0, hin, el_skip])
                  have hS2 := Lib.hid S
                  have hk0 : 0 < j' := by omega
                  clear hin hyn S
                  go_wp2
                  go_roundw
                  case rel => exact ⟨i + 1, by omega, by go_num, hS2.out⟩
                  case measure => simp [intOf]; omega
                 ·have hne : ((i : Int) != n) = true := by rw [bne_iff_ne]; omega
                  clear hyn
                  by_cases hl6 : y < j'
                  ·obtain ⟨d1, d2, d3⟩ := rowP hl5 hl6 hr hc HR.out
                   obtain ⟨b1, b2, b3⟩ := rowP hnr hl6 hr hc HPP.out
                   rw [← EL.out] at d1 d2 d3 b1 b2 b3
                   have hiy := HIN2.out i y hl5 hl6
                   have hny := HIN2.out n y hnr hl6
                   have hst := elJ_step (p := p) (n := n) (k := k) (i := i) (j := y) F2 hl5 hl6
                   rw [← el_sub] at hst
                   obtain ⟨v, hv⟩ : ∃ v, F2 i y = v := ⟨_, rfl⟩
                   obtain ⟨t, ht⟩ : ∃ t, F2 n y = t := ⟨_, rfl⟩
                   rw [hv, ht, HQ5.out, ← HR.out] at hst
                   rw [hv] at hiy
                   rw [ht] at hny
                   have k0 : 0 ≤ q * t := Int.mul_nonneg hr5.1 hny.1
                   have k1 : q * t ≤ 4 * 4 := Int.mul_le_mul (by omega) (by omega) hny.1 (by omega)
                   obtain ⟨K, hK⟩ : ∃ K, q * t = K := ⟨_, rfl⟩
                   rw [hK] at k0 k1 hst
                   have hKw := Lib.hid (show wrap64 (q * t) = K by rw [hK]; exact IntWalk.wrap64_in _ ⟨by omega, by omega⟩)
                   have hr1 := emod_rng (x := v - K) hpr.1
                   have HST := Lib.hid hst
                   have HV := Lib.hid hv
                   have HT := Lib.hid ht
                   have HNI := Lib.hid hin
                   have hSS := Lib.hid S
                   have hKI : Hid (I64 (v - K)) := by show _ ∧ _; omega
                   have hRI : Hid (I64 ((v - K) % p)) := by show _ ∧ _; omega
                   clear hv ht hK hst S kb hin
                   go_wp2
                   clear c0 c1 c2
                   refine wp_region_net (by kernel_rfl) (.eq (.pointer (some ⟨w1.heap.size, 2, none⟩)) :: .eq (.slice (some ⟨g, 0, none⟩) L cap) :: .eq (.int .i64 i) :: .eq (.pointer (some ⟨w1.heap.size, 1, none⟩)) :: .eq (.int .i64 j') :: .eq (.int .i64 R) :: .eq (.int .i64 y) :: .eq (.int .i64 ((R : Int) + y)) :: .eq (.int .i64 p) :: .eq (.pointer (some ⟨w1.heap.size, 2, none⟩)) :: .eq (.slice (some ⟨g, 0, none⟩) L cap) :: .eq (.int .i64 i) :: .eq (.pointer (some ⟨w1.heap.size, 1, none⟩)) :: .eq (.int .i64 j') :: .eq (.int .i64 R) :: .eq (.int .i64 y) :: .eq (.int .i64 ((R : Int) + y)) :: .eq (.pointer (some ⟨g, R + y, none⟩)) :: .eq (.int .i64 v) :: .eq (.int .i64 q) :: .eq (.pointer (some ⟨w1.heap.size, 2, none⟩)) :: .eq (.slice (some ⟨g, 0, none⟩) L cap) :: .eq (.int .i64 n) :: .eq (.pointer (some ⟨w1.heap.size, 1, none⟩)) :: .eq (.int .i64 j') :: .eq (.int .i64 P) :: .eq (.int .i64 y) :: .eq (.int .i64 ((P : Int) + y)) :: .eq (.pointer (some ⟨g, P + y, none⟩)) :: .eq (.int .i64 t) :: .eq (.int .i64 K) :: .eq (.int .i64 (v - K)) :: .eq (.int .i64 ((v - K) % p)) :: .eq (.pointer (some ⟨g, R + y, none⟩)) :: []) [[], [0], [], [], [3], [2, 3, 4], [], [2, 3, 4, 5, 6], [], [], [9], [], [], [12], [11, 12, 13], [], [11, 12, 13, 14, 15], [9, 10, 11, 12, 13, 14, 15, 16], [9, 10, 11, 12, 13, 14, 15, 16, 17], [], [], [20], [], [], [23], [22, 23, 24], [], [22, 23, 24, 25, 26], [20, 21, 22, 23, 24, 25, 26, 27], [20, 21, 22, 23, 24, 25, 26, 27, 28], [19, 20, 21, 22, 23, 24, 25, 26, 27, 28, 29], [9, 10, 11, 12, 13, 14, 15, 16, 17, 18, 19, 20, 21, 22, 23, 24, 25, 26, 27, 28, 29, 30], [8, 9, 10, 11, 12, 13, 14, 15, 16, 17, 18, 19, 20, 21, 22, 23, 24, 25, 26, 27, 28, 29, 30, 31], [0, 1, 2, 3, 4, 5, 6, 7, 8, 9, 10, 11, 12, 13, 14, 15, 16, 17, 18, 19, 20, 21, 22, 23, 24, 25, 26, 27, 28, 29, 30, 31, 32], [0, 1, 2, 3, 4, 5, 6, 7, 8, 9, 10, 11, 12, 13, 14, 15, 16, 17, 18, 19, 20, 21, 22, 23, 24, 25, 26, 27, 28, 29, 30, 31, 32, 33]] 34 (by kernel_rfl) ⟨trivial, trivial, trivial, trivial, trivial, trivial, trivial, trivial, trivial, trivial, trivial, trivial, trivial, trivial, trivial, trivial, trivial, trivial, trivial, trivial, trivial, trivial, trivial, trivial, trivial, trivial, trivial, trivial, trivial, trivial, trivial, trivial, trivial, trivial, trivial⟩ ⟨?_, ?_, ?_, ?_, ?_, ?_, ?_, ?_, ?_, ?_, ?_, ?_, ?_, ?_, ?_, ?_, ?_, ?_, ?_, ?_, ?_, ?_, ?_, ?_, ?_, ?_, ?_, ?_, ?_, ?_, ?_, ?_, ?_, ?_, trivial⟩ ?_
                   ·intro x w hb hk Q' hQ
                    clear hk
                    simp only [netE] at hQ ⊢
                    go_wp2
                    exact hQ _ _ (Below.refl _ _) rfl
                   ·intro x w hb hk Q' hQ
                    have h0 : x.v 0 = _ := (hk 0 (by decide)).1
                    clear hk
                    simp only [netE] at hQ ⊢
                    simp only [h0] at hQ ⊢
                    clear h0
                    have q9 := (hSS.out.call HWB.out hb).2.cell' (i := 2) rfl
                    go_wp2
                    exact hQ _ _ (Below.refl _ _) rfl
                   ·intro x w hb hk Q' hQ
                    clear hk
                    simp only [netE] at hQ ⊢
                    go_wp2
                    exact hQ _ _ (Below.refl _ _) rfl
                   ·intro x w hb hk Q' hQ
                    clear hk
                    simp only [netE] at hQ ⊢
                    go_wp2
                    exact hQ _ _ (Below.refl _ _) rfl
                   ·intro x w hb hk Q' hQ
                    have h3 : x.v 3 = _ := (hk 3 (by decide)).1
                    clear hk
                    simp only [netE] at hQ ⊢
                    simp only [h3] at hQ ⊢
                    clear h3
                    have q9 := (hSS.out.call HWB.out hb).2.cell' (i := 1) rfl
                    go_wp2
                    exact hQ _ _ (Below.refl _ _) rfl
                   ·intro x w hb hk Q' hQ
                    have h2 : x.v 2 = _ := (hk 2 (by decide)).1
                    have h4 : x.v 4 = _ := (hk 4 (by decide)).1
                    clear hk
                    simp only [netE] at hQ ⊢
                    simp only [h2, h4] at hQ ⊢
                    clear h2 h4
                    go_wp2
                    rw [hRw.out]
                    exact hQ _ _ (Below.refl _ _) rfl
                   ·intro x w hb hk Q' hQ
                    clear hk
                    simp only [netE] at hQ ⊢
                    go_wp2
                    exact hQ _ _ (Below.refl _ _) rfl
                   ·intro x w hb hk Q' hQ
                    have h5 : x.v 5 = _ := (hk 5 (by decide)).1
                    have h6 : x.v 6 = _ := (hk 6 (by decide)).1
                    clear hk
                    simp only [netE] at hQ ⊢
                    simp only [h5, h6] at hQ ⊢
                    clear h5 h6
                    go_wp2
                    exact hQ (.int .i64 ((R : Int) + y)) _ (Below.refl _ _) rfl
                   ·intro x w hb hk Q' hQ
                    clear hk
                    simp only [netE] at hQ ⊢
                    go_wp2
                    exact hQ _ _ (Below.refl _ _) rfl
                   ·intro x w hb hk Q' hQ
                    clear hk
                    simp only [netE] at hQ ⊢
                    go_wp2
                    exact hQ _ _ (Below.refl _ _) rfl
                   ·intro x w hb hk Q' hQ
                    have h9 : x.v 9 = _ := (hk 9 (by decide)).1
                    clear hk
                    simp only [netE] at hQ ⊢
                    simp only [h9] at hQ ⊢
                    clear h9
                    have q9 := (hSS.out.call HWB.out hb).2.cell' (i := 2) rfl
                    go_wp2
                    exact hQ _ _ (Below.refl _ _) rfl
                   ·intro x w hb hk Q' hQ
                    clear hk
                    simp only [netE] at hQ ⊢
                    go_wp2
                    exact hQ _ _ (Below.refl _ _) rfl
                   ·intro x w hb hk Q' hQ
                    clear hk
                    simp only [netE] at hQ ⊢
                    go_wp2
                    exact hQ _ _ (Below.refl _ _) rfl
                   ·intro x w hb hk Q' hQ
                    have h12 : x.v 12 = _ := (hk 12 (by decide)).1
                    clear hk
                    simp only [netE] at hQ ⊢
                    simp only [h12] at hQ ⊢
                    clear h12
                    have q9 := (hSS.out.call HWB.out hb).2.cell' (i := 1) rfl
                    go_wp2
                    exact hQ _ _ (Below.refl _ _) rfl
                   ·intro x w hb hk Q' hQ
                    have h11 : x.v 11 = _ := (hk 11 (by decide)).1
                    have h13 : x.v 13 = _ := (hk 13 (by decide)).1
                    clear hk
                    simp only [netE] at hQ ⊢
                    simp only [h11, h13] at hQ ⊢
                    clear h11 h13
                    go_wp2
                    rw [hRw.out]
                    exact hQ _ _ (Below.refl _ _) rfl
                   ·intro x w hb hk Q' hQ
                    clear hk
                    simp only [netE] at hQ ⊢
                    go_wp2
                    exact hQ _ _ (Below.refl _ _) rfl
                   ·intro x w hb hk Q' hQ
                    have h14 : x.v 14 = _ := (hk 14 (by decide)).1
                    have h15 : x.v 15 = _ := (hk 15 (by decide)).1
                    clear hk
                    simp only [netE] at hQ ⊢
                    simp only [h14, h15] at hQ ⊢
                    clear h14 h15
                    go_wp2
                    exact hQ (.int .i64 ((R : Int) + y)) _ (Below.refl _ _) rfl
                   ·intro x w hb hk Q' hQ
                    have h10 : x.v 10 = _ := (hk 10 (by decide)).1
                    have h16 : x.v 16 = _ := (hk 16 (by decide)).1
                    clear hk
                    simp only [netE] at hQ ⊢
                    simp only [h10, h16] at hQ ⊢
                    clear h10 h16
                    go_wp2
                    exact hQ _ _ (Below.refl _ _) rfl
                   ·intro x w hb hk Q' hQ
                    have h17 : x.v 17 = _ := (hk 17 (by decide)).1
                    clear hk
                    simp only [netE] at hQ ⊢
                    simp only [h17] at hQ ⊢
                    clear h17
                    have z := ((hSS.out.call HWB.out hb).1.cellP hl5 hl6 HR.out).1
                    rw [elJ_rest, HV.out] at z
                    go_wp2
                    exact hQ _ _ (Below.refl _ _) rfl
                   ·intro x w hb hk Q' hQ
                    clear hk
                    simp only [netE] at hQ ⊢
                    go_wp2
                    exact hQ _ _ (Below.refl _ _) rfl
                   ·intro x w hb hk Q' hQ
                    clear hk
                    simp only [netE] at hQ ⊢
                    go_wp2
                    exact hQ _ _ (Below.refl _ _) rfl
                   ·intro x w hb hk Q' hQ
                    have h20 : x.v 20 = _ := (hk 20 (by decide)).1
                    clear hk
                    simp only [netE] at hQ ⊢
                    simp only [h20] at hQ ⊢
                    clear h20
                    have q9 := (hSS.out.call HWB.out hb).2.cell' (i := 2) rfl
                    go_wp2
                    exact hQ _ _ (Below.refl _ _) rfl
                   ·intro x w hb hk Q' hQ
                    clear hk
                    simp only [netE] at hQ ⊢
                    go_wp2
                    exact hQ _ _ (Below.refl _ _) rfl
                   ·intro x w hb hk Q' hQ
                    clear hk
                    simp only [netE] at hQ ⊢
                    go_wp2
                    exact hQ _ _ (Below.refl _ _) rfl
                   ·intro x w hb hk Q' hQ
                    have h23 : x.v 23 = _ := (hk 23 (by decide)).1
                    clear hk
                    simp only [netE] at hQ ⊢
                    simp only [h23] at hQ ⊢
                    clear h23
                    have q9 := (hSS.out.call HWB.out hb).2.cell' (i := 1) rfl
                    go_wp2
                    exact hQ _ _ (Below.refl _ _) rfl
                   ·intro x w hb hk Q' hQ
                    have h22 : x.v 22 = _ := (hk 22 (by decide)).1
                    have h24 : x.v 24 = _ := (hk 24 (by decide)).1
                    clear hk
                    simp only [netE] at hQ ⊢
                    simp only [h22, h24] at hQ ⊢
                    clear h22 h24
                    go_wp2
                    rw [hPw.out]
                    exact hQ _ _ (Below.refl _ _) rfl
                   ·intro x w hb hk Q' hQ
                    clear hk
                    simp only [netE] at hQ ⊢
                    go_wp2
                    exact hQ _ _ (Below.refl _ _) rfl
                   ·intro x w hb hk Q' hQ
                    have h25 : x.v 25 = _ := (hk 25 (by decide)).1
                    have h26 : x.v 26 = _ := (hk 26 (by decide)).1
                    clear hk
                    simp only [netE] at hQ ⊢
                    simp only [h25, h26] at hQ ⊢
                    clear h25 h26
                    go_wp2
                    exact hQ (.int .i64 ((P : Int) + y)) _ (Below.refl _ _) rfl
                   ·intro x w hb hk Q' hQ
                    have h21 : x.v 21 = _ := (hk 21 (by decide)).1
                    have h27 : x.v 27 = _ := (hk 27 (by decide)).1
                    clear hk
                    simp only [netE] at hQ ⊢
                    simp only [h21, h27] at hQ ⊢
                    clear h21 h27
                    go_wp2
                    exact hQ _ _ (Below.refl _ _) rfl
                   ·intro x w hb hk Q' hQ
                    have h28 : x.v 28 = _ := (hk 28 (by decide)).1
                    clear hk
                    simp only [netE] at hQ ⊢
                    simp only [h28] at hQ ⊢
                    clear h28
                    have z := ((hSS.out.call HWB.out hb).1.cellP hnr hl6 HPP.out).1
                    rw [elJ_n _ HNI.out, HT.out] at z
                    go_wp2
                    exact hQ _ _ (Below.refl _ _) rfl
                   ·intro x w hb hk Q' hQ
                    have h19 : x.v 19 = _ := (hk 19 (by decide)).1
                    have h29 : x.v 29 = _ := (hk 29 (by decide)).1
                    clear hk
                    simp only [netE] at hQ ⊢
                    simp only [h19, h29] at hQ ⊢
                    clear h19 h29
                    go_wp2
                    rw [hKw.out]
                    exact hQ _ _ (Below.refl _ _) rfl
                   ·intro x w hb hk Q' hQ
                    have h18 : x.v 18 = _ := (hk 18 (by decide)).1
                    have h30 : x.v 30 = _ := (hk 30 (by decide)).1
                    clear hk
                    simp only [netE] at hQ ⊢
                    simp only [h18, h30] at hQ ⊢
                    clear h18 h30
                    go_wp2
                    exact hQ _ _ (Below.refl _ _) rfl
                   ·intro x w hb hk Q' hQ
                    have h8 : x.v 8 = _ := (hk 8 (by decide)).1
                    have h31 : x.v 31 = _ := (hk 31 (by decide)).1
                    clear hk
                    simp only [netE] at hQ ⊢
                    simp only [h8, h31] at hQ ⊢
                    clear h8 h31
                    go_wp2_with fail
                    refine (l2Mod_any p (v - K) _ hpr hKI.out).mono ?_; rintro e w5 ⟨rfl, hww⟩; replace hww := hww.symm; subst hww
                    go_wp2
                    exact hQ (.int .i64 ((v - K) % p)) _ (Below.refl _ _) rfl
                   ·intro x w hb hk Q' hQ
                    have h1 : x.v 1 = _ := (hk 1 (by decide)).1
                    have h7 : x.v 7 = _ := (hk 7 (by decide)).1
                    clear hk
                    simp only [netE] at hQ ⊢
                    simp only [h1, h7] at hQ ⊢
                    clear h1 h7
                    go_wp2
                    exact hQ _ _ (Below.refl _ _) rfl
                   ·intro x w hb hk hiv hdj
                    have h0 : x.v 0 = .pointer (some ⟨w1.heap.size, 2, none⟩) := hk 0 (by decide)
                    have h1 : x.v 1 = .slice (some ⟨g, 0, none⟩) L cap := hk 1 (by decide)
                    have h2 : x.v 2 = .int .i64 i := hk 2 (by decide)
                    have h3 : x.v 3 = .pointer (some ⟨w1.heap.size, 1, none⟩) := hk 3 (by decide)
                    have h4 : x.v 4 = .int .i64 j' := hk 4 (by decide)
                    have h5 : x.v 5 = .int .i64 R := hk 5 (by decide)
                    have h6 : x.v 6 = .int .i64 y := hk 6 (by decide)
                    have h7 : x.v 7 = .int .i64 ((R : Int) + y) := hk 7 (by decide)
                    have h8 : x.v 8 = .int .i64 p := hk 8 (by decide)
                    have h9 : x.v 9 = .pointer (some ⟨w1.heap.size, 2, none⟩) := hk 9 (by decide)
                    have h10 : x.v 10 = .slice (some ⟨g, 0, none⟩) L cap := hk 10 (by decide)
                    have h11 : x.v 11 = .int .i64 i := hk 11 (by decide)
                    have h12 : x.v 12 = .pointer (some ⟨w1.heap.size, 1, none⟩) := hk 12 (by decide)
                    have h13 : x.v 13 = .int .i64 j' := hk 13 (by decide)
                    have h14 : x.v 14 = .int .i64 R := hk 14 (by decide)
                    have h15 : x.v 15 = .int .i64 y := hk 15 (by decide)
                    have h16 : x.v 16 = .int .i64 ((R : Int) + y) := hk 16 (by decide)
                    have h17 : x.v 17 = .pointer (some ⟨g, R + y, none⟩) := hk 17 (by decide)
                    have h18 : x.v 18 = .int .i64 v := hk 18 (by decide)
                    have h19 : x.v 19 = .int .i64 q := hk 19 (by decide)
                    have h20 : x.v 20 = .pointer (some ⟨w1.heap.size, 2, none⟩) := hk 20 (by decide)
                    have h21 : x.v 21 = .slice (some ⟨g, 0, none⟩) L cap := hk 21 (by decide)
                    have h22 : x.v 22 = .int .i64 n := hk 22 (by decide)
                    have h23 : x.v 23 = .pointer (some ⟨w1.heap.size, 1, none⟩) := hk 23 (by decide)
                    have h24 : x.v 24 = .int .i64 j' := hk 24 (by decide)
                    have h25 : x.v 25 = .int .i64 P := hk 25 (by decide)
                    have h26 : x.v 26 = .int .i64 y := hk 26 (by decide)
                    have h27 : x.v 27 = .int .i64 ((P : Int) + y) := hk 27 (by decide)
                    have h28 : x.v 28 = .pointer (some ⟨g, P + y, none⟩) := hk 28 (by decide)
                    have h29 : x.v 29 = .int .i64 t := hk 29 (by decide)
                    have h30 : x.v 30 = .int .i64 K := hk 30 (by decide)
                    have h31 : x.v 31 = .int .i64 (v - K) := hk 31 (by decide)
                    have h32 : x.v 32 = .int .i64 ((v - K) % p) := hk 32 (by decide)
                    have h33 : x.v 33 = .pointer (some ⟨g, R + y, none⟩) := hk 33 (by decide)
                    clear hk
                    simp only [netE]
                    simp only [List.drop_succ_cons, List.drop_zero, h0, h1, h2, h3, h4, h5, h6, h7, h8, h9, h10, h11, h12, h13, h14, h15, h16, h17, h18, h19, h20, h21, h22, h23, h24, h25, h26, h27, h28, h29, h30, h31, h32, h33]
                    clear h0 h1 h2 h3 h4 h5 h6 h7 h8 h9 h10 h11 h12 h13 h14 h15 h16 h17 h18 h19 h20 h21 h22 h23 h24 h25 h26 h27 h28 h29 h30 h31 h32 h33
                    have S := hSS.out.call HWB.out hb
                    obtain ⟨p1, _, p2⟩ := S.1.cellP hl5 hl6 HR.out
                    have S2 := S.put (J := R + y) (x := (v - K) % p) hBg (S.1.size HWB.out) hRI.out HST.out
                    have HS2 := Lib.hid S2
                    have hni := HNI.out
                    clear S S2 hiv hdj
                    go_wp2
                    go_roundw
                    case rel => exact ⟨y + 1, by omega, by go_num, HS2.out, fun h => absurd h hni⟩
                    case measure => simp [intOf]; omega
                  ·have hyj : y = j' := by omega
                   have S := S.congr (show flat r j' (elJ p n k i y F2) = flat r j' (elI p n k (i + 1) F2) by rw [hyj, elJ_end F2 hin])
                   have hS2 := Lib.hid S
                   clear hin S hyj
                   go_wp2
                   go_roundw
                   case rel => exact ⟨i + 1, by omega, by go_num, hS2.out⟩
                   case measure => simp [intOf]; omega
              ·have hir : i = r := by omega
               subst hir
               have S := S.congr (el_end p n k i j' F2)
               rw [← hfin.out] at S
               have hS8 := S.call HWB.out (below_alloc wr (.cells #[.int .i64 k] 3))
               have hsz8 := hS8.1.size HWB.out
               have HS8 := Lib.hid hS8
               clear S hS8 kb
               (go_wp2_with (at_builtin; refine Hold.stop ?_)); unfold Hold
               refine wpList_appI rfl (.tmp 203) (.tmp 205) rfl W.heap.size _ (.slice PA n pc) ps rfl HS8.out.1.ownP.1 _ _ _ [(k : Int)] rfl rfl (SlI.one wr _ k ⟨by omega, by omega⟩) (by rw [HN.out]; simp; omega) hsz8 ?_
               intro v9 w9 ho9 hg9 hv9
               have S9 := HS8.out.app hsz8 ho9 hg9 hv9
               clear ho9 hg9 hv9
               go_wp2
               go_roundw
               case rel => exact ⟨k + 1, by omega, by go_num, by rw [HRS2.out, List.length_append, HN.out]; go_num, by rw [HRS2.out]; exact S9⟩
               case measure => simp [intOf]; omega
  ·have hend : Hid (rdTo p r f c = (F, ps)) := by
    show _ = _
    by_cases hkc : k < c
    ·have hnr : n = r := by omega
     have h1 := hrest.out (by rw [HPS.out, HN.out, hnr])
     rw [show k + (c - k) = c by omega] at h1
     rw [h1, ← HFF.out, ← HPS.out]
    ·rw [show c = k by omega, ← HFF.out, ← HPS.out]
   have sz := SZ.out
   have sB := S.1.size HWB.out
   have k4 := S.2
   have k3' := KR.out.below S.1.bel (by omega)
   have z0 := k4.cell' (i := 0) rfl
   have z1 := k4.cell' (i := 1) rfl
   have z2 := k4.cell' (i := 2) rfl
   have p0 := k3'.cell' (i := 0) rfl
   have p1 := k3'.cell' (i := 1) rfl
   have p2 := k3'.cell' (i := 2) rfl
   have f2 := k3'.frozen
   have h2 := chg3 wr (w0.heap.size + 1) (.int .i64 (r : Int)) (.int .i64 c) (.slice A L cap)
   have gw : Below w0.heap.size w0 wr := (G2.out).trans (S.1.bel.mono (by omega))
   have gs := gw.size
   have oA : IntsO wr W.heap.size wr.heap.size (.slice A L cap) (flat r c F) := S.1.fam.1 (_, flat r c F) (by simp)
   have oA2 := (oA.chg h2 (.inr (by omega))).wider (lo' := w0.heap.size) (hi' := wr.heap.size) (by omega) (Nat.le_refl _)
   have oP2 := (S.1.ownP.chg h2 (.inr (by omega))).wider (lo' := w0.heap.size) (hi' := wr.heap.size) (by omega) (Nat.le_refl _)
   have fg := gw.trans (h2.below (by omega) gs)
   have OA2 := Lib.hid oA2
   have OP2 := Lib.hid oP2
   have FG := Lib.hid fg
   clear oA oA2 oP2 fg gw h2 k3' k4 S
   by_cases hkc : k < c
   ·have hnr : ¬ n < r := by omega
    clear hgo
    go_wp2
    refine bodyPost_ret (v := .tuple #[.agg #[.int .i64 (r : Int), .int .i64 c, .slice A L cap], .slice PA n pc]) (by simp [results, go_sem, p0, p1, p2]) rfl ⟨_, _, rfl, ?_, ?_, FG.out⟩
    ·refine ⟨_, rfl, ?_, by simp only [I64]; omega, by simp only [I64]; omega⟩
     rw [hend.out]
     exact (OA2.out).wider (Nat.le_refl _) (by simp)
    ·rw [hend.out]
     exact (OP2.out).wider (Nat.le_refl _) (by simp)
   ·clear hgo
    go_wp2
    refine bodyPost_ret (v := .tuple #[.agg #[.int .i64 (r : Int), .int .i64 c, .slice A L cap], .slice PA n pc]) (by simp [results, go_sem, p0, p1, p2]) rfl ⟨_, _, rfl, ?_, ?_, FG.out⟩
    ·refine ⟨_, rfl, ?_, by simp only [I64]; omega, by simp only [I64]; omega⟩
     rw [hend.out]
     exact (OA2.out).wider (Nat.le_refl _) (by simp)
    ·rw [hend.out]
     exact (OP2.out).wider (Nat.le_refl _) (by simp)
theorem rowF_snoc (n : Nat) (f : Nat → Int) : rowF (n + 1) f = rowF n f ++ [f n] := by simp [rowF, List.range_succ]
theorem isVec_rowF {p : Int} {n : Nat} {f : Nat → Int} (h : isVec p (rowF n f) = true) : ∀ i, i < n → 0 ≤ f i ∧ f i ≤ p - 1 := fun i hi => (isVec_t.1 h).2.2 _ (List.mem_of_getElem? (rowF_get f hi))
def scF (p k : Int) (f : Nat → Int) (i : Nat) : Int := (k % p * f i) % p
def adF (p : Int) (f g : Nat → Int) (i : Nat) : Int := (f i + g i) % p
set_option maxHeartbeats 3200000 in
set_option maxRecDepth 100000 in
theorem scaleVector_any (p k : Int) (va : Value) (n : Nat) (f : Nat → Int) (w0 : World) (hk : I64 k) (ha : SlI w0 w0.heap.size va (rowF n f)) (hv : isVec p (rowF n f) = true) :
  Calls Tryz.prog 79 #[.int .i64 p, .int .i64 k, va] w0 fun e w' => ∃ r, e = .returned (.tuple #[r, .bool true]) ∧ IntsO w' w0.heap.size w'.heap.size r (rowF n (scF p k f)) ∧ Below w0.heap.size w0 w' := by
 have hp := isFld_r (isVec_t.1 hv).1
 have hn := (isVec_t.1 hv).2.1
 rw [rowF_length] at hn
 have HR := Lib.hid (isVec_rowF hv)
 have HV := Lib.hid hv
 have ha' := ha
 obtain ⟨A, ac, rfl, _⟩ := ha
 rw [rowF_length] at ha' ⊢
 obtain ⟨W, hW⟩ : ∃ W, W = w0.alloc (.cells #[] 3) := ⟨_, rfl⟩
 have g0 : Below w0.heap.size w0 W := by rw [hW]; exact below_alloc _ _
 have ho : OwnI W w0.heap.size (.slice (some ⟨w0.heap.size, 0, none⟩) 0 0) (rowF 0 (scF p k f)) := by
  rw [hW]
  have h0 : rowF 0 (scF p k f) = [] := rfl
  rw [h0]
  exact OwnI.made (w := w0) (base := w0.heap.size) 3 rfl (Nat.le_refl _)
 have HA := Lib.hid ha'
 have hka := Int.emod_nonneg k (show p ≠ 0 by omega)
 have hkb := Int.emod_lt_of_pos k (show 0 < p by omega)
 clear ha' hv
 go_enter Tryz.func79, Tryz.ntmps79
 go_wp2_with fail
 rw [← hW]; clear hW
 refine (specIsVector_any p _ (rowF n f) W (SlI.more g0.size (SlI.below g0 HA.out))).mono ?_; rintro e w1 ⟨rfl, hb1⟩
 rw [HV.out]
 replace ho := ho.below hb1
 have gW := g0.trans (hb1.mono g0.size)
 clear hb1
 go_wp2
 go_loopw [8, 9] (fun out i wr => ∃ j : Nat, j ≤ n ∧ i = .int .i64 j ∧ OwnI wr w0.heap.size out (rowF j (scF p k f)) ∧ Below w0.heap.size w0 wr) (fun _ i _ => n - (intOf i).toNat)
 case atStart => exact ⟨0, Nat.zero_le _, rfl, ho, gW⟩
 case round =>
  clear ho gW
  obtain ⟨j, hj, rfl, ho, gW⟩ := hrel
  have gs := gW.size
  by_cases hlt : j < n
  ·have hx := HA.out
   rw [← rowF_length n f] at hlt
   rw [show (Value.slice A n ac) = .slice A (rowF n f).length ac by rw [rowF_length]] at hx
   obtain ⟨b, o, x, rfl, hbl, HXX, x1, _⟩ := SlI.at_ hx hlt
   rw [rowF_length] at hlt
   have hxx := HXX.out
   rw [rowF_get _ hlt] at hxx
   injection hxx with hxx
   subst hxx
   have x2 := bcell gW hbl x1
   have hr := HR.out j hlt
   obtain ⟨z, hz⟩ : ∃ z, f j = z := ⟨_, rfl⟩
   obtain ⟨q, hq⟩ : ∃ q, k % p = q := ⟨_, rfl⟩
   rw [hz] at x2 hr
   rw [hq] at hka hkb
   have hkz0 : 0 ≤ q * z := Int.mul_nonneg hka hr.1
   have hkz1 : q * z ≤ 5 * 4 := Int.mul_le_mul (by omega) (by omega) hr.1 (by omega)
   obtain ⟨K, hK⟩ : ∃ K, q * z = K := ⟨_, rfl⟩
   rw [hK] at hkz0 hkz1
   have hKw : wrap64 (q * z) = K := by rw [hK]; exact IntWalk.wrap64_in _ ⟨by omega, by omega⟩
   have hsn := rowF_snoc j (scF p k f)
   rw [show scF p k f j = K % p by rw [scF, hq, hz, hK]] at hsn
   have HSN := Lib.hid hsn
   have HQ := Lib.hid hq
   have hr0 := Int.emod_nonneg K (show p ≠ 0 by omega)
   have hr1 := Int.emod_lt_of_pos K (show 0 < p by omega)
   obtain ⟨OB, ob, rfl, _, _⟩ := ho.form
   clear hx HXX x1 hz hq hK hsn
   have HKW := Lib.hid hKw
   clear hKw
   have hblr : b < wr.heap.size := by omega
   go_wp2
   refine wp_region_net (by kernel_rfl) [.eq (.slice OB (rowF j (scF p k f)).length ob), .eq (.int .i64 p), .eq (.int .i64 p), .eq (.int .i64 k), .eq (.int .i64 q), .eq (.slice (some ⟨b, o, none⟩) n ac), .eq (.int .i64 j), .eq (.pointer (some ⟨b, o + j, none⟩)), .eq (.int .i64 z), .eq (.int .i64 K), .eq (.int .i64 (K % p)), rel 11 (fun u lo hi w => ∃ g, u = .slice (some ⟨g, 0, none⟩) 1 1 ∧ SlI w w.heap.size u [K % p])] [[], [], [], [], [2, 3], [], [], [5, 6], [5, 6, 7], [2, 3, 4, 5, 6, 7, 8], [1, 2, 3, 4, 5, 6, 7, 8, 9], [1, 2, 3, 4, 5, 6, 7, 8, 9, 10], [0, 1, 2, 3, 4, 5, 6, 7, 8, 9, 10, 11], [0, 1, 2, 3, 4, 5, 6, 7, 8, 9, 10, 11, 12]] 12 (by kernel_rfl) ⟨trivial, trivial, trivial, trivial, trivial, trivial, trivial, trivial, trivial, trivial, trivial, rel_stable (fun u lo hi w w' ⟨g, e, h⟩ hb => ⟨g, e, SlI.next hb h⟩), trivial⟩ ⟨?_, ?_, ?_, ?_, ?_, ?_, ?_, ?_, ?_, ?_, ?_, ?_, trivial⟩ ?_
   ·intro x w hb hk Q' hQ
    clear hk
    simp only [netE] at hQ ⊢
    go_wp2
    exact hQ (.slice OB (rowF j (scF p k f)).length ob) _ (Below.refl _ _) rfl
   ·intro x w hb hk Q' hQ
    clear hk
    simp only [netE] at hQ ⊢
    go_wp2
    exact hQ _ _ (Below.refl _ _) rfl
   ·intro x w hb hk Q' hQ
    clear hk
    simp only [netE] at hQ ⊢
    go_wp2
    exact hQ _ _ (Below.refl _ _) rfl
   ·intro x w hb hk Q' hQ
    clear hk
    simp only [netE] at hQ ⊢
    go_wp2
    exact hQ _ _ (Below.refl _ _) rfl
   ·intro x w hb hk Q' hQ
    have h2 : x.v 2 = _ := (hk 2 (by decide)).1
    have h3 : x.v 3 = _ := (hk 3 (by decide)).1
    clear hk
    simp only [netE] at hQ ⊢
    simp only [h2, h3] at hQ ⊢
    clear h2 h3
    go_wp2_with fail
    refine (l2Mod_any p k _ hp hk).mono ?_; rintro e w5 ⟨rfl, rfl⟩
    rw [HQ.out]
    go_wp2
    exact hQ _ _ (Below.refl _ _) rfl
   ·intro x w hb hk Q' hQ
    clear hk
    simp only [netE] at hQ ⊢
    go_wp2
    exact hQ _ _ (Below.refl _ _) rfl
   ·intro x w hb hk Q' hQ
    clear hk
    simp only [netE] at hQ ⊢
    go_wp2
    exact hQ _ _ (Below.refl _ _) rfl
   ·intro x w hb hk Q' hQ
    have h5 : x.v 5 = _ := (hk 5 (by decide)).1
    have h6 : x.v 6 = _ := (hk 6 (by decide)).1
    clear hk
    simp only [netE] at hQ ⊢
    simp only [h5, h6] at hQ ⊢
    clear h5 h6
    go_wp2
    exact hQ _ _ (Below.refl _ _) rfl
   ·intro x w hb hk Q' hQ
    have h7 : x.v 7 = _ := (hk 7 (by decide)).1
    clear hk
    simp only [netE] at hQ ⊢
    simp only [h7] at hQ ⊢
    clear h7
    have q0 := bcell hb hblr x2
    go_wp2
    exact hQ _ _ (Below.refl _ _) rfl
   ·intro x w hb hk Q' hQ
    have h4 : x.v 4 = _ := (hk 4 (by decide)).1
    have h8 : x.v 8 = _ := (hk 8 (by decide)).1
    clear hk
    simp only [netE] at hQ ⊢
    simp only [h4, h8] at hQ ⊢
    clear h4 h8
    go_wp2
    rw [HKW.out]
    exact hQ _ _ (Below.refl _ _) rfl
   ·intro x w hb hk Q' hQ
    have h1 : x.v 1 = _ := (hk 1 (by decide)).1
    have h9 : x.v 9 = _ := (hk 9 (by decide)).1
    clear hk
    simp only [netE] at hQ ⊢
    simp only [h1, h9] at hQ ⊢
    clear h1 h9
    go_wp2_with fail
    refine (l2Mod_any p K _ hp (by simp only [I64]; omega)).mono ?_; rintro e w5 ⟨rfl, rfl⟩
    go_wp2
    exact hQ _ _ (Below.refl _ _) rfl
   ·intro x w hb hk Q' hQ
    have h1 : x.v 1 = _ := (hk 1 (by decide)).1
    have h2 : x.v 2 = _ := (hk 2 (by decide)).1
    have h3 : x.v 3 = _ := (hk 3 (by decide)).1
    have h4 : x.v 4 = _ := (hk 4 (by decide)).1
    have h5 : x.v 5 = _ := (hk 5 (by decide)).1
    have h6 : x.v 6 = _ := (hk 6 (by decide)).1
    have h7 : x.v 7 = _ := (hk 7 (by decide)).1
    have h8 : x.v 8 = _ := (hk 8 (by decide)).1
    have h9 : x.v 9 = _ := (hk 9 (by decide)).1
    have h10 : x.v 10 = _ := (hk 10 (by decide)).1
    clear hk
    simp only [netE] at hQ ⊢
    simp only [h1, h2, h3, h4, h5, h6, h7, h8, h9, h10] at hQ ⊢
    clear h1 h2 h3 h4 h5 h6 h7 h8 h9 h10
    go_wp2
    exact hQ (.slice (some ⟨w.heap.size, 0, none⟩) 1 1) _ (below_alloc _ _) ⟨_, rfl, SlI.one _ _ _ (by simp only [I64]; omega)⟩
   ·intro x w hb hk hiv hdj
    have h0 : x.v 0 = .slice OB (rowF j (scF p k f)).length ob := hk 0 (by decide)
    have h1 : x.v 1 = .int .i64 p := hk 1 (by decide)
    have h2 : x.v 2 = .int .i64 p := hk 2 (by decide)
    have h3 : x.v 3 = .int .i64 k := hk 3 (by decide)
    have h4 : x.v 4 = .int .i64 q := hk 4 (by decide)
    have h5 : x.v 5 = .slice (some ⟨b, o, none⟩) n ac := hk 5 (by decide)
    have h6 : x.v 6 = .int .i64 j := hk 6 (by decide)
    have h7 : x.v 7 = .pointer (some ⟨b, o + j, none⟩) := hk 7 (by decide)
    have h8 : x.v 8 = .int .i64 z := hk 8 (by decide)
    have h9 : x.v 9 = .int .i64 K := hk 9 (by decide)
    have h10 : x.v 10 = .int .i64 (K % p) := hk 10 (by decide)
    have h11 : ∃ g, (x.v 11) = .slice (some ⟨g, 0, none⟩) 1 1 ∧ SlI w w.heap.size (x.v 11) [K % p] := hk 11 (by decide)
    clear hk
    simp only [netE]
    simp only [List.drop_succ_cons, List.drop_zero, h0, h1, h2, h3, h4, h5, h6, h7, h8, h9, h10]
    clear h0 h1 h2 h3 h4 h5 h6 h7 h8 h9 h10
    obtain ⟨g, e11, hs11⟩ := h11
    rw [e11] at hs11 ⊢
    have ho2 := ho.below hb
    have hlo := ho2.lt
    have hbs := hb.size
    clear hiv hdj e11 ho
    refine wpList_appI (by rfl) (.tmp 22) (.tmp 33) (by rfl) w0.heap.size w.heap.size _ _ (by rfl) ho2 _ 1 1 [K % p] (by rfl) rfl hs11 (by rw [rowF_length]; simp; omega) (by omega) ?_
    intro v' w' h1 h2 h3
    rw [← HSN.out] at h1
    have G2 := Lib.hid ((gW.trans (hb.mono gs)).trans (below_grown h2 (fun k hk => (hlo k hk).1) (by omega)))
    have H1 := Lib.hid h1
    clear h1 h2 h3 hlo ho2 hs11 hb gW
    go_wp2
    go_roundw
    case rel => exact ⟨j + 1, by omega, by go_num, H1.out, G2.out⟩
    case measure => simp [intOf]; omega
  ·obtain rfl : j = n := by omega
   have HO := Lib.hid ho
   clear ho
   go_wp2
   go_ret2
   exact ⟨_, rfl, IntsO.of_own HO.out, gW⟩
end Go.Proofs.YthhjoamgcfiecaaGreat
