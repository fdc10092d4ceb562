/- PreinjectivePencil: the program's. -/
import Derived.Test.YtbgjhnolnccnnaaPrei
namespace Go.Proofs.Ytbgjhnolnccnnaa
set_option linter.unusedVariables false
set_option linter.unusedSimpArgs false
open Go.RowKit

theorem prep_fld {p : Int} {N : Nat} (hp : isFld p = true) (h : N ≤ 3) : isRep (penRep p (shA N) (shB N)) = true := by
  rcases isFld_t.1 hp with rfl | rfl | rfl <;> rcases (show N = 0 ∨ N = 1 ∨ N = 2 ∨ N = 3 by omega) with rfl | rfl | rfl | rfl <;> decide +kernel
theorem penOf_noFld {p : Int} {a b : Mx} (h : isFld p = false) : penOf p a b = (rp0, false) := by
  unfold penOf
  rw [if_neg]
  simp [isRep, penRep, h]
theorem prep_false {p n : Int} (h : (prepP p n).2 = false) : preiP p n = (rp0, false) := by
  unfold prepP at h
  unfold preiP
  split at h
  · rename_i hB
    rw [if_pos hB]
    obtain ⟨n1, n2⟩ := inR_t.1 hB
    rcases hp : isFld p with _ | _
    · exact penOf_noFld hp
    · rw [penOf, prep_fld hp (by omega)] at h
      simp at h
  · rename_i hB
    rw [if_neg hB]
theorem prep_true {p n : Int} (h : (prepP p n).2 = true) : ∃ N : Nat, N ≤ 3 ∧ n = (N : Int) ∧ (prepP p n).1 = penRep p (shA N) (shB N) ∧ preiP p n = preiOf p N := by
  unfold prepP at h ⊢
  unfold preiP
  split at h
  · rename_i hB
    obtain ⟨n1, n2⟩ := inR_t.1 hB
    refine ⟨n.toNat, by omega, by omega, ?_, by rw [if_pos hB]⟩
    rw [if_pos hB]
    unfold penOf at h ⊢
    split at h
    · rename_i h2; rw [if_pos h2]
    · simp at h
  · simp at h

set_option maxHeartbeats 6400000 in
set_option maxRecDepth 100000 in
theorem implPreinjectivePencil_any (p n : Int) (w0 : World) (hp : I64 p) (hn : I64 n) :
    Calls Try.prog 42 #[.int .i64 p, .int .i64 n] w0 fun e w' => ∃ r, e = .returned (.tuple #[r, .bool (preiP p n).2]) ∧ RepO w' w0.heap.size w'.heap.size r (preiP p n).1 ∧ Below w0.heap.size w0 w' := by
  obtain ⟨W, hW⟩ : ∃ W, W = w0.alloc (.cells #[.int .i64 0, .int .i64 0, .slice none 0 0, .slice none 0 0, .slice none 0 0, .slice none 0 0] 40) := ⟨_, rfl⟩
  have g0 : Below w0.heap.size w0 W := by rw [hW]; exact below_alloc _ _
  have kR : Blk W w0.heap.size 40 #[.int .i64 0, .int .i64 0, .slice none 0 0, .slice none 0 0, .slice none 0 0, .slice none 0 0] := by rw [hW]; exact Blk.new _ _ _
  have sz : W.heap.size = w0.heap.size + 1 := by rw [hW]; simp
  have SZ := Lib.hid sz
  rcases hB : (prepP p n).2 with _ | _
  · have hF := Lib.hid (prep_false hB)
    have HB := Lib.hid hB
    have KR := Lib.hid kR
    have G0 := Lib.hid g0
    clear hB sz g0 kR
    go_enter Try.func42, Try.ntmps42
    go_wp2_with fail
    rw [← hW]; clear hW
    refine (implPreprojectivePencil_any _ _ _ hp hn).mono ?_; rintro e w1 ⟨v, rfl, ho, hb1⟩
    rw [HB.out]
    generalize (prepP p n).1 = R at ho
    obtain ⟨A, a, C, c, E, e, H, h, ev⟩ := ho.form
    subst ev
    have hb2 := below_alloc w1 (.cells #[.int .i64 R.p, .int .i64 R.q.v, .slice A R.q.f.length a, .slice C R.q.t.length c, .slice E R.d.length e, .slice H R.m.length h] 40)
    have gW := bthen hb1 hb2
    have kR := KR.out.call gW
    have g0 := (G0.out).trans (gW.mono (G0.out).size)
    have gs := gW.size
    clear ho hb1 hb2 gW
    have fr := kR.frozen
    have s0 := kR.cell' (i := 0) rfl
    have s1 := kR.cell' (i := 1) rfl
    have s2 := kR.cell' (i := 2) rfl
    have s3 := kR.cell' (i := 3) rfl
    have s4 := kR.cell' (i := 4) rfl
    have s5 := kR.cell' (i := 5) rfl
    clear kR
    go_wp2
    have sz := SZ.out
    refine bodyPost_ret (v := .tuple #[.agg #[.int .i64 0, .int .i64 0, .slice none 0 0, .slice none 0 0, .slice none 0 0, .slice none 0 0], .bool false]) (by simp [results, go_sem, s0, s1, s2, s3, s4, s5]) rfl ⟨_, by rw [hF.out], by rw [hF.out]; exact RepO.zero _ _ _, (((((g0.setCell (by simp) _).setCell (by simp) _).setCell (by simp) _).setCell (by simp) _).setCell (by simp) _).setCell (by simp) _⟩
  · obtain ⟨N, hN3, rfl, hR1, hR2⟩ := prep_true hB
    obtain ⟨R, hR⟩ : ∃ R, R = preiOf p N := ⟨_, rfl⟩
    have HR := Lib.hid (show penOf p (mxF N (N + 1) (fun a b => shF 0 b a)) (mxF N (N + 1) (fun a b => shF 1 b a)) = R from hR.symm)
    have HRF : Hid (preiP p N = R) := by show _ = _; rw [hR2, hR]
    have HB := Lib.hid hB
    have HR1 := Lib.hid hR1
    have KR := Lib.hid kR
    have G0 := Lib.hid g0
    clear hB hR sz kR g0 hR1 hR2
    go_enter Try.func42, Try.ntmps42
    go_wp2_with fail
    rw [← hW]; clear hW
    refine (implPreprojectivePencil_any _ _ _ hp hn).mono ?_; rintro e w1 ⟨v, rfl, ho, hb1⟩
    rw [HB.out]
    rw [HR1.out, shA_F hN3, shB_F hN3] at ho
    obtain ⟨A0, a0, C0, d0, E0, e0, H0, cH0, rfl, hq, hd, hm, _, _, _⟩ := ho.rd.open_
    clear ho hq hd
    simp only [penRep, List.length_cons, List.length_nil, Nat.zero_add, Nat.reduceAdd] at hm ⊢
    obtain ⟨wr, hW2⟩ : ∃ u, u = w1.alloc (.cells #[.int .i64 p, .int .i64 pQ.v, .slice A0 pQ.f.length a0, .slice C0 pQ.t.length d0, .slice E0 2 e0, .slice H0 2 cH0] 40) := ⟨_, rfl⟩
    have hb2 : Below w1.heap.size w1 wr := by rw [hW2]; exact below_alloc _ _
    have k4 : Blk wr w1.heap.size 40 #[.int .i64 p, .int .i64 pQ.v, .slice A0 pQ.f.length a0, .slice C0 pQ.t.length d0, .slice E0 2 e0, .slice H0 2 cH0] := by rw [hW2]; exact Blk.new _ _ _
    go_wp2
    rw [← hW2]
    clear hW2
    have gW := bthen hb1 hb2
    have s6 := gW.size
    have s7 := k4.lt
    have hm := SlM.next hb2 hm
    have GF := Lib.hid (G0.out.trans (gW.mono (G0.out).size))
    have HKR := Lib.hid (KR.out.below gW (by have := SZ.out; omega))
    obtain ⟨b, o, ma, AA, ca, eH, hbb, HXA, x0, x1, x2, hsa, ra1, ra2, la⟩ := SlM.at_ (k := 0) (xs := [mxF (N + 1) N (shF 0), mxF (N + 1) N (shF 1)]) hm (by simp)
    obtain ⟨b', o', mb, AB, cb, eH', hbb', HXB, y0, y1, y2, hsb, rb1, rb2, lb⟩ := SlM.at_ (k := 1) (xs := [mxF (N + 1) N (shF 0), mxF (N + 1) N (shF 1)]) hm (by simp)
    subst eH
    injection eH' with eH'
    injection eH' with eb eo
    subst eb eo
    have eA := HXA.out
    have eB := HXB.out
    simp only [List.getElem?_cons_zero, List.getElem?_cons_succ, Option.some.injEq] at eA eB
    subst eA eB
    simp only [Nat.zero_mul, Nat.add_zero, Nat.one_mul] at x0 x1 x2 y0 y1 y2
    have HA : Hid (MxR wr wr.heap.size (.agg #[.int .i64 (mxF (N + 1) N (shF 0)).r, .int .i64 (mxF (N + 1) N (shF 0)).c, .slice AA (mxF (N + 1) N (shF 0)).a.length ca]) (mxF (N + 1) N (shF 0))) := ⟨_, rfl, hsa, ra1, ra2⟩
    have HB2 : Hid (MxR wr wr.heap.size (.agg #[.int .i64 (mxF (N + 1) N (shF 1)).r, .int .i64 (mxF (N + 1) N (shF 1)).c, .slice AB (mxF (N + 1) N (shF 1)).a.length cb]) (mxF (N + 1) N (shF 1))) := ⟨_, rfl, hsb, rb1, rb2⟩
    have zA : (mxF (N + 1) N (shF 0)).r = (N : Int) + 1 := by simp [mxF]
    have zB : (mxF (N + 1) N (shF 1)).r = (N : Int) + 1 := by simp [mxF]
    have zA2 : (mxF (N + 1) N (shF 0)).c = (N : Int) := by simp [mxF]
    have zB2 : (mxF (N + 1) N (shF 1)).c = (N : Int) := by simp [mxF]
    obtain ⟨LA, hLA⟩ : ∃ L, (mxF (N + 1) N (shF 0)).a.length = L := ⟨_, rfl⟩
    obtain ⟨LB, hLB⟩ : ∃ L, (mxF (N + 1) N (shF 1)).a.length = L := ⟨_, rfl⟩
    rw [zA, zA2, hLA] at HA
    rw [zB, zB2, hLB] at HB2
    rw [zA] at x0
    rw [zA2] at x1
    rw [hLA] at x2
    rw [zB] at y0
    rw [zB2] at y1
    rw [hLB] at y2
    clear zA zB zA2 zB2 hLA hLB gW hb1 hb2 hm HXA HXB hsa hsb ra1 ra2 rb1 rb2 la lb hbb'
    refine wp_region_net (by kernel_rfl) [.eq (.int .i64 p), .eq (.int .i64 N), .eq (.pointer (some ⟨w1.heap.size, 5, none⟩)), .eq (.slice (some ⟨b, o, none⟩) 2 cH0), .eq (.pointer (some ⟨b, o, none⟩)), .eq (.agg #[.int .i64 ((N : Int) + 1), .int .i64 N, .slice AA LA ca]), rel 6 (fun u lo hi w => IntssO w lo hi u (rowsF (N + 1) N (shF 0))), rel 7 (fun u lo hi w => MxO w lo hi u (mxF N (N + 1) (fun a b => shF 0 b a))), .eq (.int .i64 N), .eq (.pointer (some ⟨w1.heap.size, 5, none⟩)), .eq (.slice (some ⟨b, o, none⟩) 2 cH0), .eq (.pointer (some ⟨b, o + 3, none⟩)), .eq (.agg #[.int .i64 ((N : Int) + 1), .int .i64 N, .slice AB LB cb]), rel 13 (fun u lo hi w => IntssO w lo hi u (rowsF (N + 1) N (shF 1))), rel 14 (fun u lo hi w => MxO w lo hi u (mxF N (N + 1) (fun a b => shF 1 b a))), .rel (fun x w => ∃ A a C c E e H h, x.v 15 = .tuple #[.agg #[.int .i64 R.1.p, .int .i64 R.1.q.v, .slice A R.1.q.f.length a, .slice C R.1.q.t.length c, .slice E R.1.d.length e, .slice H R.1.m.length h], .bool R.2] ∧ RepO w (x.lo 15) (x.hi 15) (.agg #[.int .i64 R.1.p, .int .i64 R.1.q.v, .slice A R.1.q.f.length a, .slice C R.1.q.t.length c, .slice E R.1.d.length e, .slice H R.1.m.length h]) R.1), .rel (fun x w => ∃ A a C c E e H h, x.v 16 = .agg #[.int .i64 R.1.p, .int .i64 R.1.q.v, .slice A R.1.q.f.length a, .slice C R.1.q.t.length c, .slice E R.1.d.length e, .slice H R.1.m.length h] ∧ RepO w (x.lo 15) (x.hi 15) (.agg #[.int .i64 R.1.p, .int .i64 R.1.q.v, .slice A R.1.q.f.length a, .slice C R.1.q.t.length c, .slice E R.1.d.length e, .slice H R.1.m.length h]) R.1), .eq (.bool R.2)] [[], [], [], [2], [2, 3], [2, 3, 4], [2, 3, 4, 5], [1, 2, 3, 4, 5, 6], [], [], [9], [9, 10], [9, 10, 11], [1, 2, 3, 4, 5, 6, 7, 9, 10, 11, 12], [1, 2, 3, 4, 5, 6, 7, 8, 9, 10, 11, 12, 13], [0, 1, 2, 3, 4, 5, 6, 7, 8, 9, 10, 11, 12, 13, 14], [0, 1, 2, 3, 4, 5, 6, 7, 8, 9, 10, 11, 12, 13, 14, 15], [0, 1, 2, 3, 4, 5, 6, 7, 8, 9, 10, 11, 12, 13, 14, 15], [0, 1, 2, 3, 4, 5, 6, 7, 8, 9, 10, 11, 12, 13, 14, 15, 16, 17], [0, 1, 2, 3, 4, 5, 6, 7, 8, 9, 10, 11, 12, 13, 14, 15, 16, 17, 18]] 18 (by kernel_rfl) ⟨trivial, trivial, trivial, trivial, trivial, trivial, rel_stable (fun u lo hi w w' h hb => h.below hb), rel_stable (fun u lo hi w w' h hb => h.below hb), trivial, trivial, trivial, trivial, trivial, rel_stable (fun u lo hi w w' h hb => h.below hb), rel_stable (fun u lo hi w w' h hb => h.below hb), fun x w w' ⟨A, a, C, c, E, e, H, h, e1, h1⟩ hb => ⟨A, a, C, c, E, e, H, h, e1, h1.below hb⟩, fun x w w' ⟨A, a, C, c, E, e, H, h, e1, h1⟩ hb => ⟨A, a, C, c, E, e, H, h, e1, h1.below hb⟩, trivial, trivial⟩ ⟨?_, ?_, ?_, ?_, ?_, ?_, ?_, ?_, ?_, ?_, ?_, ?_, ?_, ?_, ?_, ?_, ?_, ?_, trivial⟩ ?_
    · intro x w hb hk Q' hQ
      clear hk
      simp only [netAct, dstAt, List.getElem?_toArray, List.getElem?_cons_zero, List.getElem?_cons_succ, Option.bind_some, Act.put, List.setIfInBounds_toArray, List.set_cons_zero, List.set_cons_succ] at hQ ⊢
      go_wp2
      exact hQ (.int .i64 p) _ (Below.refl _ _) rfl
    · intro x w hb hk Q' hQ
      clear hk
      simp only [netAct, dstAt, List.getElem?_toArray, List.getElem?_cons_zero, List.getElem?_cons_succ, Option.bind_some, Act.put, List.setIfInBounds_toArray, List.set_cons_zero, List.set_cons_succ] at hQ ⊢
      go_wp2
      exact hQ (.int .i64 N) _ (Below.refl _ _) rfl
    · intro x w hb hk Q' hQ
      clear hk
      simp only [netAct, dstAt, List.getElem?_toArray, List.getElem?_cons_zero, List.getElem?_cons_succ, Option.bind_some, Act.put, List.setIfInBounds_toArray, List.set_cons_zero, List.set_cons_succ] at hQ ⊢
      go_wp2
      exact hQ (.pointer (some ⟨w1.heap.size, 5, none⟩)) _ (Below.refl _ _) rfl
    · intro x w hb hk Q' hQ
      have h2 : x.v 2 = .pointer (some ⟨w1.heap.size, 5, none⟩) := (hk 2 (by decide)).1
      clear hk
      simp only [netAct, dstAt, List.getElem?_toArray, List.getElem?_cons_zero, List.getElem?_cons_succ, Option.bind_some, Act.put, List.setIfInBounds_toArray, List.set_cons_zero, List.set_cons_succ] at hQ ⊢
      simp only [h2] at hQ ⊢
      clear h2
      have z5 := (k4.call hb).cell' (i := 5) rfl
      go_wp2
      exact hQ (.slice (some ⟨b, o, none⟩) 2 cH0) _ (Below.refl _ _) rfl
    · intro x w hb hk Q' hQ
      have h3 : x.v 3 = .slice (some ⟨b, o, none⟩) 2 cH0 := (hk 3 (by decide)).1
      clear hk
      simp only [netAct, dstAt, List.getElem?_toArray, List.getElem?_cons_zero, List.getElem?_cons_succ, Option.bind_some, Act.put, List.setIfInBounds_toArray, List.set_cons_zero, List.set_cons_succ] at hQ ⊢
      simp only [h3] at hQ ⊢
      clear h3
      go_wp2
      exact hQ (.pointer (some ⟨b, o, none⟩)) _ (Below.refl _ _) rfl
    · intro x w hb hk Q' hQ
      have h4 : x.v 4 = .pointer (some ⟨b, o, none⟩) := (hk 4 (by decide)).1
      clear hk
      simp only [netAct, dstAt, List.getElem?_toArray, List.getElem?_cons_zero, List.getElem?_cons_succ, Option.bind_some, Act.put, List.setIfInBounds_toArray, List.set_cons_zero, List.set_cons_succ] at hQ ⊢
      simp only [h4] at hQ ⊢
      clear h4
      have z0 := bcell hb hbb x0
      have z1 := bcell hb hbb x1
      have z2 := bcell hb hbb x2
      go_wp2
      exact hQ (.agg #[.int .i64 ((N : Int) + 1), .int .i64 N, .slice AA LA ca]) _ (Below.refl _ _) rfl
    · intro x w hb hk Q' hQ
      have h2 : x.v 2 = .pointer (some ⟨w1.heap.size, 5, none⟩) := (hk 2 (by decide)).1
      have h3 : x.v 3 = .slice (some ⟨b, o, none⟩) 2 cH0 := (hk 3 (by decide)).1
      have h4 : x.v 4 = .pointer (some ⟨b, o, none⟩) := (hk 4 (by decide)).1
      have h5 : x.v 5 = .agg #[.int .i64 ((N : Int) + 1), .int .i64 N, .slice AA LA ca] := (hk 5 (by decide)).1
      clear hk
      simp only [netAct, dstAt, List.getElem?_toArray, List.getElem?_cons_zero, List.getElem?_cons_succ, Option.bind_some, Act.put, List.setIfInBounds_toArray, List.set_cons_zero, List.set_cons_succ] at hQ ⊢
      simp only [h2, h3, h4, h5] at hQ ⊢
      clear h2 h3 h4 h5
      go_wp2_with fail
      refine (rows_any _ (N + 1) N (shF 0) _ (MxR.more hb.size (MxR.below hb HA.out)) (by omega) (by omega)).mono ?_; rintro e w5 ⟨v5, rfl, hO5, hb5⟩
      go_wp2
      exact hQ _ _ hb5 hO5
    · intro x w hb hk Q' hQ
      have h1 : x.v 1 = .int .i64 N := (hk 1 (by decide)).1
      have h2 : x.v 2 = .pointer (some ⟨w1.heap.size, 5, none⟩) := (hk 2 (by decide)).1
      have h3 : x.v 3 = .slice (some ⟨b, o, none⟩) 2 cH0 := (hk 3 (by decide)).1
      have h4 : x.v 4 = .pointer (some ⟨b, o, none⟩) := (hk 4 (by decide)).1
      have h5 : x.v 5 = .agg #[.int .i64 ((N : Int) + 1), .int .i64 N, .slice AA LA ca] := (hk 5 (by decide)).1
      have h6 : IntssO w (x.lo 6) (x.hi 6) (x.v 6) (rowsF (N + 1) N (shF 0)) := (hk 6 (by decide)).1
      have s6 := (hk 6 (by decide)).2
      clear hk
      simp only [netAct, dstAt, List.getElem?_toArray, List.getElem?_cons_zero, List.getElem?_cons_succ, Option.bind_some, Act.put, List.setIfInBounds_toArray, List.set_cons_zero, List.set_cons_succ] at hQ ⊢
      simp only [h1, h2, h3, h4, h5] at hQ ⊢
      clear h1 h2 h3 h4 h5
      go_wp2_with fail
      refine (fromColumns_any _ N (N + 1) (fun a b => shF 0 b a) _ h6.rd (by omega) (by omega)).mono ?_; rintro e w5 ⟨v5, rfl, hO5, hb5⟩
      go_wp2
      exact hQ _ _ hb5 hO5
    · intro x w hb hk Q' hQ
      clear hk
      simp only [netAct, dstAt, List.getElem?_toArray, List.getElem?_cons_zero, List.getElem?_cons_succ, Option.bind_some, Act.put, List.setIfInBounds_toArray, List.set_cons_zero, List.set_cons_succ] at hQ ⊢
      go_wp2
      exact hQ (.int .i64 N) _ (Below.refl _ _) rfl
    · intro x w hb hk Q' hQ
      clear hk
      simp only [netAct, dstAt, List.getElem?_toArray, List.getElem?_cons_zero, List.getElem?_cons_succ, Option.bind_some, Act.put, List.setIfInBounds_toArray, List.set_cons_zero, List.set_cons_succ] at hQ ⊢
      go_wp2
      exact hQ (.pointer (some ⟨w1.heap.size, 5, none⟩)) _ (Below.refl _ _) rfl
    · intro x w hb hk Q' hQ
      have h9 : x.v 9 = .pointer (some ⟨w1.heap.size, 5, none⟩) := (hk 9 (by decide)).1
      clear hk
      simp only [netAct, dstAt, List.getElem?_toArray, List.getElem?_cons_zero, List.getElem?_cons_succ, Option.bind_some, Act.put, List.setIfInBounds_toArray, List.set_cons_zero, List.set_cons_succ] at hQ ⊢
      simp only [h9] at hQ ⊢
      clear h9
      have z5 := (k4.call hb).cell' (i := 5) rfl
      go_wp2
      exact hQ (.slice (some ⟨b, o, none⟩) 2 cH0) _ (Below.refl _ _) rfl
    · intro x w hb hk Q' hQ
      have h10 : x.v 10 = .slice (some ⟨b, o, none⟩) 2 cH0 := (hk 10 (by decide)).1
      clear hk
      simp only [netAct, dstAt, List.getElem?_toArray, List.getElem?_cons_zero, List.getElem?_cons_succ, Option.bind_some, Act.put, List.setIfInBounds_toArray, List.set_cons_zero, List.set_cons_succ] at hQ ⊢
      simp only [h10] at hQ ⊢
      clear h10
      go_wp2
      exact hQ (.pointer (some ⟨b, o + 3, none⟩)) _ (Below.refl _ _) rfl
    · intro x w hb hk Q' hQ
      have h11 : x.v 11 = .pointer (some ⟨b, o + 3, none⟩) := (hk 11 (by decide)).1
      clear hk
      simp only [netAct, dstAt, List.getElem?_toArray, List.getElem?_cons_zero, List.getElem?_cons_succ, Option.bind_some, Act.put, List.setIfInBounds_toArray, List.set_cons_zero, List.set_cons_succ] at hQ ⊢
      simp only [h11] at hQ ⊢
      clear h11
      have z0 := bcell hb hbb y0
      have z1 := bcell hb hbb y1
      have z2 := bcell hb hbb y2
      go_wp2
      exact hQ (.agg #[.int .i64 ((N : Int) + 1), .int .i64 N, .slice AB LB cb]) _ (Below.refl _ _) rfl
    · intro x w hb hk Q' hQ
      have h1 : x.v 1 = .int .i64 N := (hk 1 (by decide)).1
      have h2 : x.v 2 = .pointer (some ⟨w1.heap.size, 5, none⟩) := (hk 2 (by decide)).1
      have h3 : x.v 3 = .slice (some ⟨b, o, none⟩) 2 cH0 := (hk 3 (by decide)).1
      have h4 : x.v 4 = .pointer (some ⟨b, o, none⟩) := (hk 4 (by decide)).1
      have h5 : x.v 5 = .agg #[.int .i64 ((N : Int) + 1), .int .i64 N, .slice AA LA ca] := (hk 5 (by decide)).1
      have h6 : IntssO w (x.lo 6) (x.hi 6) (x.v 6) (rowsF (N + 1) N (shF 0)) := (hk 6 (by decide)).1
      have h7 : MxO w (x.lo 7) (x.hi 7) (x.v 7) (mxF N (N + 1) (fun a b => shF 0 b a)) := (hk 7 (by decide)).1
      have h9 : x.v 9 = .pointer (some ⟨w1.heap.size, 5, none⟩) := (hk 9 (by decide)).1
      have h10 : x.v 10 = .slice (some ⟨b, o, none⟩) 2 cH0 := (hk 10 (by decide)).1
      have h11 : x.v 11 = .pointer (some ⟨b, o + 3, none⟩) := (hk 11 (by decide)).1
      have h12 : x.v 12 = .agg #[.int .i64 ((N : Int) + 1), .int .i64 N, .slice AB LB cb] := (hk 12 (by decide)).1
      have s6 := (hk 6 (by decide)).2
      have s7 := (hk 7 (by decide)).2
      clear hk
      simp only [netAct, dstAt, List.getElem?_toArray, List.getElem?_cons_zero, List.getElem?_cons_succ, Option.bind_some, Act.put, List.setIfInBounds_toArray, List.set_cons_zero, List.set_cons_succ] at hQ ⊢
      simp only [h1, h2, h3, h4, h5, h9, h10, h11, h12] at hQ ⊢
      clear h1 h2 h3 h4 h5 h9 h10 h11 h12
      go_wp2_with fail
      refine (rows_any _ (N + 1) N (shF 1) _ (MxR.more hb.size (MxR.below hb HB2.out)) (by omega) (by omega)).mono ?_; rintro e w5 ⟨v5, rfl, hO5, hb5⟩
      go_wp2
      exact hQ _ _ hb5 hO5
    · intro x w hb hk Q' hQ
      have h1 : x.v 1 = .int .i64 N := (hk 1 (by decide)).1
      have h2 : x.v 2 = .pointer (some ⟨w1.heap.size, 5, none⟩) := (hk 2 (by decide)).1
      have h3 : x.v 3 = .slice (some ⟨b, o, none⟩) 2 cH0 := (hk 3 (by decide)).1
      have h4 : x.v 4 = .pointer (some ⟨b, o, none⟩) := (hk 4 (by decide)).1
      have h5 : x.v 5 = .agg #[.int .i64 ((N : Int) + 1), .int .i64 N, .slice AA LA ca] := (hk 5 (by decide)).1
      have h6 : IntssO w (x.lo 6) (x.hi 6) (x.v 6) (rowsF (N + 1) N (shF 0)) := (hk 6 (by decide)).1
      have h7 : MxO w (x.lo 7) (x.hi 7) (x.v 7) (mxF N (N + 1) (fun a b => shF 0 b a)) := (hk 7 (by decide)).1
      have h8 : x.v 8 = .int .i64 N := (hk 8 (by decide)).1
      have h9 : x.v 9 = .pointer (some ⟨w1.heap.size, 5, none⟩) := (hk 9 (by decide)).1
      have h10 : x.v 10 = .slice (some ⟨b, o, none⟩) 2 cH0 := (hk 10 (by decide)).1
      have h11 : x.v 11 = .pointer (some ⟨b, o + 3, none⟩) := (hk 11 (by decide)).1
      have h12 : x.v 12 = .agg #[.int .i64 ((N : Int) + 1), .int .i64 N, .slice AB LB cb] := (hk 12 (by decide)).1
      have h13 : IntssO w (x.lo 13) (x.hi 13) (x.v 13) (rowsF (N + 1) N (shF 1)) := (hk 13 (by decide)).1
      have s6 := (hk 6 (by decide)).2
      have s7 := (hk 7 (by decide)).2
      have s13 := (hk 13 (by decide)).2
      clear hk
      simp only [netAct, dstAt, List.getElem?_toArray, List.getElem?_cons_zero, List.getElem?_cons_succ, Option.bind_some, Act.put, List.setIfInBounds_toArray, List.set_cons_zero, List.set_cons_succ] at hQ ⊢
      simp only [h1, h2, h3, h4, h5, h8, h9, h10, h11, h12] at hQ ⊢
      clear h1 h2 h3 h4 h5 h8 h9 h10 h11 h12
      go_wp2_with fail
      refine (fromColumns_any _ N (N + 1) (fun a b => shF 1 b a) _ h13.rd (by omega) (by omega)).mono ?_; rintro e w5 ⟨v5, rfl, hO5, hb5⟩
      go_wp2
      exact hQ _ _ hb5 hO5
    · intro x w hb hk Q' hQ
      have h0 : x.v 0 = .int .i64 p := (hk 0 (by decide)).1
      have h1 : x.v 1 = .int .i64 N := (hk 1 (by decide)).1
      have h2 : x.v 2 = .pointer (some ⟨w1.heap.size, 5, none⟩) := (hk 2 (by decide)).1
      have h3 : x.v 3 = .slice (some ⟨b, o, none⟩) 2 cH0 := (hk 3 (by decide)).1
      have h4 : x.v 4 = .pointer (some ⟨b, o, none⟩) := (hk 4 (by decide)).1
      have h5 : x.v 5 = .agg #[.int .i64 ((N : Int) + 1), .int .i64 N, .slice AA LA ca] := (hk 5 (by decide)).1
      have h6 : IntssO w (x.lo 6) (x.hi 6) (x.v 6) (rowsF (N + 1) N (shF 0)) := (hk 6 (by decide)).1
      have h7 : MxO w (x.lo 7) (x.hi 7) (x.v 7) (mxF N (N + 1) (fun a b => shF 0 b a)) := (hk 7 (by decide)).1
      have h8 : x.v 8 = .int .i64 N := (hk 8 (by decide)).1
      have h9 : x.v 9 = .pointer (some ⟨w1.heap.size, 5, none⟩) := (hk 9 (by decide)).1
      have h10 : x.v 10 = .slice (some ⟨b, o, none⟩) 2 cH0 := (hk 10 (by decide)).1
      have h11 : x.v 11 = .pointer (some ⟨b, o + 3, none⟩) := (hk 11 (by decide)).1
      have h12 : x.v 12 = .agg #[.int .i64 ((N : Int) + 1), .int .i64 N, .slice AB LB cb] := (hk 12 (by decide)).1
      have h13 : IntssO w (x.lo 13) (x.hi 13) (x.v 13) (rowsF (N + 1) N (shF 1)) := (hk 13 (by decide)).1
      have h14 : MxO w (x.lo 14) (x.hi 14) (x.v 14) (mxF N (N + 1) (fun a b => shF 1 b a)) := (hk 14 (by decide)).1
      have s6 := (hk 6 (by decide)).2
      have s7 := (hk 7 (by decide)).2
      have s13 := (hk 13 (by decide)).2
      have s14 := (hk 14 (by decide)).2
      clear hk
      simp only [netAct, dstAt, List.getElem?_toArray, List.getElem?_cons_zero, List.getElem?_cons_succ, Option.bind_some, Act.put, List.setIfInBounds_toArray, List.set_cons_zero, List.set_cons_succ] at hQ ⊢
      simp only [h0, h1, h2, h3, h4, h5, h8, h9, h10, h11, h12] at hQ ⊢
      clear h0 h1 h2 h3 h4 h5 h8 h9 h10 h11 h12
      obtain ⟨A2, c2, e2⟩ := h7.form
      obtain ⟨A4, c4, e4⟩ := h14.form
      simp only [mxF] at e2 e4
      rw [e2] at h7 hQ ⊢
      rw [e4] at h14 hQ ⊢
      go_wp2_with fail
      refine (implPencilOf_any p _ (mxF N (N + 1) (fun a b => shF 0 b a)) _ (mxF N (N + 1) (fun a b => shF 1 b a)) _ hp h7.rd h14.rd).mono ?_; rintro e w5 ⟨v5, rfl, hO5, hb5⟩
      rw [HR.out] at hO5 ⊢
      have HO5 := Lib.hid hO5
      obtain ⟨A, a, C, c, E, e, H, h, e5⟩ := hO5.form
      subst e5
      clear hO5
      go_wp2
      exact hQ _ _ hb5 ⟨A, a, C, c, E, e, H, h, rfl, HO5.out⟩
    · intro x w hb hk Q' hQ
      have h0 : x.v 0 = .int .i64 p := (hk 0 (by decide)).1
      have h1 : x.v 1 = .int .i64 N := (hk 1 (by decide)).1
      have h2 : x.v 2 = .pointer (some ⟨w1.heap.size, 5, none⟩) := (hk 2 (by decide)).1
      have h3 : x.v 3 = .slice (some ⟨b, o, none⟩) 2 cH0 := (hk 3 (by decide)).1
      have h4 : x.v 4 = .pointer (some ⟨b, o, none⟩) := (hk 4 (by decide)).1
      have h5 : x.v 5 = .agg #[.int .i64 ((N : Int) + 1), .int .i64 N, .slice AA LA ca] := (hk 5 (by decide)).1
      have h6 : IntssO w (x.lo 6) (x.hi 6) (x.v 6) (rowsF (N + 1) N (shF 0)) := (hk 6 (by decide)).1
      have h7 : MxO w (x.lo 7) (x.hi 7) (x.v 7) (mxF N (N + 1) (fun a b => shF 0 b a)) := (hk 7 (by decide)).1
      have h8 : x.v 8 = .int .i64 N := (hk 8 (by decide)).1
      have h9 : x.v 9 = .pointer (some ⟨w1.heap.size, 5, none⟩) := (hk 9 (by decide)).1
      have h10 : x.v 10 = .slice (some ⟨b, o, none⟩) 2 cH0 := (hk 10 (by decide)).1
      have h11 : x.v 11 = .pointer (some ⟨b, o + 3, none⟩) := (hk 11 (by decide)).1
      have h12 : x.v 12 = .agg #[.int .i64 ((N : Int) + 1), .int .i64 N, .slice AB LB cb] := (hk 12 (by decide)).1
      have h13 : IntssO w (x.lo 13) (x.hi 13) (x.v 13) (rowsF (N + 1) N (shF 1)) := (hk 13 (by decide)).1
      have h14 : MxO w (x.lo 14) (x.hi 14) (x.v 14) (mxF N (N + 1) (fun a b => shF 1 b a)) := (hk 14 (by decide)).1
      have h15 : ∃ A a C c E e H h, x.v 15 = .tuple #[.agg #[.int .i64 R.1.p, .int .i64 R.1.q.v, .slice A R.1.q.f.length a, .slice C R.1.q.t.length c, .slice E R.1.d.length e, .slice H R.1.m.length h], .bool R.2] ∧ RepO w (x.lo 15) (x.hi 15) (.agg #[.int .i64 R.1.p, .int .i64 R.1.q.v, .slice A R.1.q.f.length a, .slice C R.1.q.t.length c, .slice E R.1.d.length e, .slice H R.1.m.length h]) R.1 := (hk 15 (by decide)).1
      have s6 := (hk 6 (by decide)).2
      have s7 := (hk 7 (by decide)).2
      have s13 := (hk 13 (by decide)).2
      have s14 := (hk 14 (by decide)).2
      have s15 := (hk 15 (by decide)).2
      clear hk
      simp only [netAct, dstAt, List.getElem?_toArray, List.getElem?_cons_zero, List.getElem?_cons_succ, Option.bind_some, Act.put, List.setIfInBounds_toArray, List.set_cons_zero, List.set_cons_succ] at hQ ⊢
      simp only [h0, h1, h2, h3, h4, h5, h8, h9, h10, h11, h12] at hQ ⊢
      clear h0 h1 h2 h3 h4 h5 h8 h9 h10 h11 h12
      obtain ⟨A, a, C, c, E, e, H, h, e4, ho⟩ := h15
      have hQ' := hQ (.agg #[.int .i64 R.1.p, .int .i64 R.1.q.v, .slice A R.1.q.f.length a, .slice C R.1.q.t.length c, .slice E R.1.d.length e, .slice H R.1.m.length h]) w (Below.refl _ _) ⟨A, a, C, c, E, e, H, h, rfl, ho⟩
      rw [e4] at hQ' ⊢
      go_wp2
      exact hQ'
    · intro x w hb hk Q' hQ
      have h15 : ∃ A a C c E e H h, x.v 15 = .tuple #[.agg #[.int .i64 R.1.p, .int .i64 R.1.q.v, .slice A R.1.q.f.length a, .slice C R.1.q.t.length c, .slice E R.1.d.length e, .slice H R.1.m.length h], .bool R.2] ∧ RepO w (x.lo 15) (x.hi 15) (.agg #[.int .i64 R.1.p, .int .i64 R.1.q.v, .slice A R.1.q.f.length a, .slice C R.1.q.t.length c, .slice E R.1.d.length e, .slice H R.1.m.length h]) R.1 := (hk 15 (by decide)).1
      clear hk
      simp only [netAct, dstAt, List.getElem?_toArray, List.getElem?_cons_zero, List.getElem?_cons_succ, Option.bind_some, Act.put, List.setIfInBounds_toArray, List.set_cons_zero, List.set_cons_succ] at hQ ⊢
      obtain ⟨A, a, C, c, E, e, H, h, e4, ho⟩ := h15
      rw [e4] at hQ ⊢
      go_wp2
      exact hQ (.bool R.2) _ (Below.refl _ _) rfl
    · intro x w hb hk hiv hdj
      have h0 : x.v 0 = .int .i64 p := hk 0 (by decide)
      have h1 : x.v 1 = .int .i64 N := hk 1 (by decide)
      have h2 : x.v 2 = .pointer (some ⟨w1.heap.size, 5, none⟩) := hk 2 (by decide)
      have h3 : x.v 3 = .slice (some ⟨b, o, none⟩) 2 cH0 := hk 3 (by decide)
      have h4 : x.v 4 = .pointer (some ⟨b, o, none⟩) := hk 4 (by decide)
      have h5 : x.v 5 = .agg #[.int .i64 ((N : Int) + 1), .int .i64 N, .slice AA LA ca] := hk 5 (by decide)
      have h6 : IntssO w (x.lo 6) (x.hi 6) (x.v 6) (rowsF (N + 1) N (shF 0)) := hk 6 (by decide)
      have h7 : MxO w (x.lo 7) (x.hi 7) (x.v 7) (mxF N (N + 1) (fun a b => shF 0 b a)) := hk 7 (by decide)
      have h8 : x.v 8 = .int .i64 N := hk 8 (by decide)
      have h9 : x.v 9 = .pointer (some ⟨w1.heap.size, 5, none⟩) := hk 9 (by decide)
      have h10 : x.v 10 = .slice (some ⟨b, o, none⟩) 2 cH0 := hk 10 (by decide)
      have h11 : x.v 11 = .pointer (some ⟨b, o + 3, none⟩) := hk 11 (by decide)
      have h12 : x.v 12 = .agg #[.int .i64 ((N : Int) + 1), .int .i64 N, .slice AB LB cb] := hk 12 (by decide)
      have h13 : IntssO w (x.lo 13) (x.hi 13) (x.v 13) (rowsF (N + 1) N (shF 1)) := hk 13 (by decide)
      have h14 : MxO w (x.lo 14) (x.hi 14) (x.v 14) (mxF N (N + 1) (fun a b => shF 1 b a)) := hk 14 (by decide)
      have h15 : ∃ A a C c E e H h, x.v 15 = .tuple #[.agg #[.int .i64 R.1.p, .int .i64 R.1.q.v, .slice A R.1.q.f.length a, .slice C R.1.q.t.length c, .slice E R.1.d.length e, .slice H R.1.m.length h], .bool R.2] ∧ RepO w (x.lo 15) (x.hi 15) (.agg #[.int .i64 R.1.p, .int .i64 R.1.q.v, .slice A R.1.q.f.length a, .slice C R.1.q.t.length c, .slice E R.1.d.length e, .slice H R.1.m.length h]) R.1 := hk 15 (by decide)
      have h16 : ∃ A a C c E e H h, x.v 16 = .agg #[.int .i64 R.1.p, .int .i64 R.1.q.v, .slice A R.1.q.f.length a, .slice C R.1.q.t.length c, .slice E R.1.d.length e, .slice H R.1.m.length h] ∧ RepO w (x.lo 15) (x.hi 15) (.agg #[.int .i64 R.1.p, .int .i64 R.1.q.v, .slice A R.1.q.f.length a, .slice C R.1.q.t.length c, .slice E R.1.d.length e, .slice H R.1.m.length h]) R.1 := hk 16 (by decide)
      have h17 : x.v 17 = .bool R.2 := hk 17 (by decide)
      clear hk
      simp only [netAct, dstAt, List.getElem?_toArray, List.getElem?_cons_zero, List.getElem?_cons_succ, Option.bind_some, Act.put, List.setIfInBounds_toArray, List.set_cons_zero, List.set_cons_succ]
      simp only [List.drop_succ_cons, List.drop_zero, h0, h1, h2, h3, h4, h5, h8, h9, h10, h11, h12, h17]
      clear h0 h1 h2 h3 h4 h5 h8 h9 h10 h11 h12 h17
      obtain ⟨A, a, C, c, E, e, H, h, e5, ho⟩ := h16
      obtain ⟨l4, _, l4h⟩ := hiv 15 (by decide)
      rw [e5]
      clear hiv hdj e5 h15 h14 h13 h7 h6
      have sz := SZ.out
      have kX := HKR.out.call hb
      have gX := (GF.out).trans (hb.mono (GF.out).size)
      have gXs := gX.size
      have hbs := hb.size
      have gfs := (GF.out).size
      have fr := kX.frozen
      have p0 := kX.cell' (i := 0) rfl
      have p1 := kX.cell' (i := 1) rfl
      have p2 := kX.cell' (i := 2) rfl
      have p3 := kX.cell' (i := 3) rfl
      have p4 := kX.cell' (i := 4) rfl
      have p5 := kX.cell' (i := 5) rfl
      have hc6 := chg6 w w0.heap.size (.int .i64 R.1.p) (.int .i64 R.1.q.v) (.slice A R.1.q.f.length a) (.slice C R.1.q.t.length c) (.slice E R.1.d.length e) (.slice H R.1.m.length h)
      have OF := Lib.hid (RepO.wider (ho.chg hc6 (.inr (by omega))) (lo' := w0.heap.size) (by omega) (hi' := w.heap.size) (by omega))
      have GF2 := Lib.hid (gX.trans (hc6.below (Nat.le_refl _) gX.size))
      clear ho hc6 gX kX k4 hb sz gXs hbs gfs l4 l4h
      go_wp2
      exact bodyPost_ret (v := .tuple #[.agg #[.int .i64 R.1.p, .int .i64 R.1.q.v, .slice A R.1.q.f.length a, .slice C R.1.q.t.length c, .slice E R.1.d.length e, .slice H R.1.m.length h], .bool R.2]) (by simp [results, go_sem, p0, p1, p2, p3, p4, p5]) rfl ⟨_, by rw [HRF.out], by rw [HRF.out]; exact RepO.wider OF.out (Nat.le_refl _) (by simp), GF2.out⟩
end Go.Proofs.Ytbgjhnolnccnnaa
