/- What every law goes through: copies and marks of representations. -/
import Derived.Test.YtjhllgldllbaaaaKitR
namespace Go.Proofs.Ytjhllgldllbaaaa
set_option linter.unusedVariables false
set_option linter.unusedSimpArgs false
open Go.RowKit

set_option maxHeartbeats 1600000 in
theorem rep_to (u : Value) (x : Rp) (w : World) (hu : RpR w w.heap.size u x) (hn : x.size ≤ 1048576) :
    Calls Try.prog 43 #[u] w fun e w' => ∃ v, e = .returned v ∧ RepO w' w.heap.size w'.heap.size v x ∧ Below w.heap.size w w' := by
  obtain ⟨A, a, C, c, E, e, H, h, rfl, hq, hd, hm, hp, _, _⟩ := hu.open_
  have hmI : Hid (∀ m ∈ x.m, I64 m.r ∧ I64 m.c) := fun m hmm => by
    obtain ⟨j, hj⟩ := List.getElem?_of_mem hmm
    obtain ⟨_, _, m', _, _, _, _, HX, _, _, _, _, h1, h2, _⟩ := SlM.at_ hm (lt_of_some hj)
    have := HX.out
    rw [hj] at this
    injection this with this
    subst this
    exact ⟨h1, h2⟩
  have hqv : I64 x.q.v := by obtain ⟨_, _, _, _, _, _, _, h, _⟩ := hq.open_; exact h
  clear hu
  simp only [Rp.size] at hn
  obtain ⟨Wa, hWa⟩ : ∃ W, W = (w.alloc (.cells #[.int .i64 x.p, .int .i64 x.q.v, .slice A x.q.f.length a, .slice C x.q.t.length c, .slice E x.d.length e, .slice H x.m.length h] 55)).alloc (.cells #[.int .i64 0, .int .i64 0, .slice none 0 0, .slice none 0 0, .slice none 0 0, .slice none 0 0] 29) := ⟨_, rfl⟩
  obtain ⟨Wb, hWb⟩ : ∃ W, W = Wa.alloc (.cells #[.int .i64 x.p, .int .i64 0, .slice none 0 0, .slice none 0 0, .slice none 0 0, .slice none 0 0] 29) := ⟨_, rfl⟩
  have za : Wa.heap.size = w.heap.size + 1 + 1 := by rw [hWa]; simp
  have zb : Wb.heap.size = w.heap.size + 1 + 1 + 1 := by rw [hWb]; simp [za]
  have kp : Blk Wb w.heap.size 55 #[.int .i64 x.p, .int .i64 x.q.v, .slice A x.q.f.length a, .slice C x.q.t.length c, .slice E x.d.length e, .slice H x.m.length h] := by rw [hWb, hWa]; exact ((Blk.new _ _ _).alloc _).alloc _
  have kr : Blk Wb (w.heap.size + 1) 29 #[.int .i64 0, .int .i64 0, .slice none 0 0, .slice none 0 0, .slice none 0 0, .slice none 0 0] := by
    rw [hWb, hWa]
    have := (Blk.new (w.alloc (.cells #[.int .i64 x.p, .int .i64 x.q.v, .slice A x.q.f.length a, .slice C x.q.t.length c, .slice E x.d.length e, .slice H x.m.length h] 55)) 29 #[.int .i64 0, .int .i64 0, .slice none 0 0, .slice none 0 0, .slice none 0 0, .slice none 0 0]).alloc (.cells #[.int .i64 x.p, .int .i64 0, .slice none 0 0, .slice none 0 0, .slice none 0 0, .slice none 0 0] 29)
    simpa only [World.size_alloc] using this
  have ko : Blk Wb (w.heap.size + 1 + 1) 29 #[.int .i64 x.p, .int .i64 0, .slice none 0 0, .slice none 0 0, .slice none 0 0, .slice none 0 0] := by
    rw [hWb, ← za]; exact Blk.new _ _ _
  have gb : Below w.heap.size w Wb := by rw [hWb, hWa]; exact (((Below.refl _ _).alloc (Nat.le_refl _) _).alloc (by simp) _).alloc (by simp; omega) _
  have ZB := Lib.hid zb
  clear za zb
  go_enter Try.func43, Try.ntmps43
  go_wp2_with fail
  rw [← hWa, ← hWb]
  clear hWa hWb
  refine (quiv_to _ _ _ (QvR.next gb hq) (by omega)).mono ?_; rintro e w1 ⟨v1, rfl, hQ, hb1⟩
  clear hq
  have s1 := hb1.size
  replace gb := bthen gb hb1
  replace kp := kp.call hb1
  replace pc0 := kp.cell' (i := 0) rfl
  replace pc1 := kp.cell' (i := 1) rfl
  replace pc2 := kp.cell' (i := 2) rfl
  replace pc3 := kp.cell' (i := 3) rfl
  replace pc4 := kp.cell' (i := 4) rfl
  replace pc5 := kp.cell' (i := 5) rfl
  replace kr := kr.call hb1
  replace r0 := kr.cell' (i := 0) rfl
  replace r1 := kr.cell' (i := 1) rfl
  replace r2 := kr.cell' (i := 2) rfl
  replace r3 := kr.cell' (i := 3) rfl
  replace r4 := kr.cell' (i := 4) rfl
  replace r5 := kr.cell' (i := 5) rfl
  replace ko := ko.call hb1
  replace o0 := ko.cell' (i := 0) rfl
  replace o1 := ko.cell' (i := 1) rfl
  replace o2 := ko.cell' (i := 2) rfl
  replace o3 := ko.cell' (i := 3) rfl
  replace o4 := ko.cell' (i := 4) rfl
  replace o5 := ko.cell' (i := 5) rfl
  clear hb1
  obtain ⟨qa, qb, rfl, hQF, _⟩ := hQ
  have fa : OwnI w1 _ qa x.q.f := (hQF.1 (qa, x.q.f) (by simp)).1
  have fb : OwnI w1 _ qb x.q.t := (hQF.1 (qb, x.q.t) (by simp)).1
  obtain ⟨A1, a1, rfl, _, _⟩ := fa.form
  obtain ⟨C1, c1, rfl, _, _⟩ := fb.form
  clear fa fb
  have fo := ko.frozen
  go_wp2_with fail
  clear pc0 pc1 pc2 pc3 pc4 pc5 r0 r1 r2 r3 r4 r5 o0 o1 o2 o3 o4 o5 fo
  obtain ⟨Wc, hWc⟩ : ∃ W, W = ((w1.setCell ⟨w.heap.size + 1 + 1, 1, none⟩ (.int .i64 x.q.v)).setCell ⟨w.heap.size + 1 + 1, 2, none⟩ (.slice A1 x.q.f.length a1)).setCell ⟨w.heap.size + 1 + 1, 3, none⟩ (.slice C1 x.q.t.length c1) := ⟨_, rfl⟩
  have zb := ZB.out
  have hC1 : Chg (w.heap.size + 1) (w.heap.size + 1 + 1 + 1) w1 Wc := by
    rw [hWc]
    exact ((chg_set (by simp) (by simp)).trans (chg_set (by simp) (by simp))).trans (chg_set (by simp) (by simp))
  have gc : Below w.heap.size w1 Wc := hC1.below (by omega) (by omega)
  have zc : Wc.heap.size = w1.heap.size := by rw [hWc]; simp
  have kp' : Blk Wc w.heap.size 55 #[.int .i64 x.p, .int .i64 x.q.v, .slice A x.q.f.length a, .slice C x.q.t.length c, .slice E x.d.length e, .slice H x.m.length h] := kp.chg hC1 (by omega)
  have kr' : Blk Wc (w.heap.size + 1) 29 #[.int .i64 0, .int .i64 0, .slice none 0 0, .slice none 0 0, .slice none 0 0, .slice none 0 0] := by rw [hWc]; exact ((kr.far (by simp) _).far (by simp) _).far (by simp) _
  have ko' : Blk Wc (w.heap.size + 1 + 1) 29 #[.int .i64 x.p, .int .i64 x.q.v, .slice A1 x.q.f.length a1, .slice C1 x.q.t.length c1, .slice none 0 0, .slice none 0 0] := by
    rw [hWc]; exact ((ko.set_ 1 _).set_ 2 _).set_ 3 _
  have hQF1 := hQF.chg hC1 (.inr (by omega))
  replace gb : Below w.heap.size w Wc := gb.trans gc
  rw [← hWc]
  clear hWc kp kr ko hQF hC1 gc
  have p4 := kp'.cell' (i := 4) rfl
  refine (ints_to _ _ _ (SlI.next gb hd) (by omega)).mono ?_; rintro e w2 ⟨v2, rfl, hD, hb2⟩
  obtain ⟨E1, e1, rfl, _, _⟩ := hD.1.form
  have s2 := hb2.size
  replace gb := bthen gb hb2
  replace kp' := kp'.call hb2
  replace kr' := kr'.call hb2
  replace ko' := ko'.call hb2
  replace hQF1 := hQF1.below hb2
  have p5 := kp'.cell' (i := 5) rfl
  have o4 := ko'.cell' (i := 4) rfl
  have fo := ko'.frozen
  clear hb2 hd p4
  go_wp2_with fail
  clear p5 o4 fo
  obtain ⟨Wd, hWd⟩ : ∃ W, W = w2.setCell ⟨w.heap.size + 1 + 1, 4, none⟩ (.slice E1 x.d.length e1) := ⟨_, rfl⟩
  have hC2 : Chg (w.heap.size + 1) (w.heap.size + 1 + 1 + 1) w2 Wd := by
    rw [hWd]
    exact chg_set (by simp) (by simp)
  have gd : Below w.heap.size w2 Wd := hC2.below (by omega) (by omega)
  have zd : Wd.heap.size = w2.heap.size := by rw [hWd]; simp
  replace kp' : Blk Wd w.heap.size 55 _ := kp'.chg hC2 (by omega)
  replace kr' : Blk Wd (w.heap.size + 1) 29 #[.int .i64 0, .int .i64 0, .slice none 0 0, .slice none 0 0, .slice none 0 0, .slice none 0 0] := by rw [hWd]; exact kr'.far (by simp) _
  replace ko' : Blk Wd (w.heap.size + 1 + 1) 29 #[.int .i64 x.p, .int .i64 x.q.v, .slice A1 x.q.f.length a1, .slice C1 x.q.t.length c1, .slice E1 x.d.length e1, .slice none 0 0] := by
    rw [hWd]; exact ko'.set_ 4 _
  replace hQF1 := hQF1.chg hC2 (.inr (by omega))
  replace hD := hD.chg hC2 (.inr (by omega))
  replace gb : Below w.heap.size w Wd := gb.trans gd
  rw [← hWd]
  clear hWd hC2 gd
  have p5 := kp'.cell' (i := 5) rfl
  refine (mats_to _ _ _ (SlM.next gb hm) (by simp only [szM] at hn; omega) (fun m hmm => by have := totA_mem hmm; simp only [szM] at hn; simp only [Mx.size]; omega)).mono ?_; rintro e w3 ⟨v3, rfl, hM, hb3⟩
  obtain ⟨vs, hO, hvl, hFM, _⟩ := hM
  obtain ⟨H1, h1, rfl, _, _⟩ := hO.form
  have HVL := Lib.hid hvl
  have s3 := hb3.size
  replace gb := bthen gb hb3
  replace kr' := kr'.call hb3
  replace ko' := ko'.call hb3
  replace hQF1 := hQF1.below hb3
  replace hD := hD.below hb3
  have o0 := ko'.cell' (i := 0) rfl
  have o1 := ko'.cell' (i := 1) rfl
  have o2 := ko'.cell' (i := 2) rfl
  have o3 := ko'.cell' (i := 3) rfl
  have o4 := ko'.cell' (i := 4) rfl
  have o5 := ko'.cell' (i := 5) rfl
  have r0 := kr'.cell' (i := 0) rfl
  have r1 := kr'.cell' (i := 1) rfl
  have r2 := kr'.cell' (i := 2) rfl
  have r3 := kr'.cell' (i := 3) rfl
  have r4 := kr'.cell' (i := 4) rfl
  have r5 := kr'.cell' (i := 5) rfl
  have fo := ko'.frozen
  have fr := kr'.frozen
  clear hb3 hm p5 kp' hvl
  have HZC := Lib.hid zc
  have HZD := Lib.hid zd
  clear zb zc zd
  go_wp2
  have zb := ZB.out
  have zc := HZC.out
  have zd := HZD.out
  have hF : Fam w3 Wb.heap.size w3.heap.size ([(.slice A1 x.q.f.length a1, x.q.f), (.slice C1 x.q.t.length c1, x.q.t)] ++ ([(.slice E1 x.d.length e1, x.d)] ++ vs.zip (x.m.map Mx.a))) :=
    Fam.join (mi := Wc.heap.size) (hQF1.mono (Nat.le_refl _) (by omega)) (Fam.join (mi := Wd.heap.size) ((Fam.one hD).mono (Nat.le_refl _) (by omega)) hFM (by omega) (by omega)) (by omega) (by omega)
  refine bodyPost_ret (v := .agg #[.int .i64 x.p, .int .i64 x.q.v, .slice A1 x.q.f.length a1, .slice C1 x.q.t.length c1, .slice E1 x.d.length e1, .slice H1 x.m.length h1]) (by simp [results, go_sem, r0, r1, r2, r3, r4, r5]) rfl ⟨_, rfl, ⟨_, _, _, _, vs, rfl, ?_, HVL.out, ?_, ⟨hp, hqv⟩, hmI.out⟩, ((((((gb.setCell (by simp; omega) _).setCell (by simp) _).setCell (by simp) _).setCell (by simp) _).setCell (by simp) _).setCell (by simp) _).setCell (by simp) _⟩
  · have hc : Chg (w.heap.size + 1) (w.heap.size + 1 + 1 + 1) w3 _ := ((((((chg_set (w := w3) (p := ⟨w.heap.size + 1 + 1, 5, none⟩) (u := .slice H1 x.m.length h1) (by simp) (by simp)).trans (chg_set (p := ⟨w.heap.size + 1, 0, none⟩) (u := .int .i64 x.p) (by simp) (by simp))).trans (chg_set (p := ⟨w.heap.size + 1, 1, none⟩) (u := .int .i64 x.q.v) (by simp) (by simp))).trans (chg_set (p := ⟨w.heap.size + 1, 2, none⟩) (u := .slice A1 x.q.f.length a1) (by simp) (by simp))).trans (chg_set (p := ⟨w.heap.size + 1, 3, none⟩) (u := .slice C1 x.q.t.length c1) (by simp) (by simp))).trans (chg_set (p := ⟨w.heap.size + 1, 4, none⟩) (u := .slice E1 x.d.length e1) (by simp) (by simp))).trans (chg_set (p := ⟨w.heap.size + 1, 5, none⟩) (u := .slice H1 x.m.length h1) (by simp) (by simp))
    exact RowO.mono (hO.chg hc (.inr (by omega))) (by omega) (by simp)
  · have hc : Chg (w.heap.size + 1) (w.heap.size + 1 + 1 + 1) w3 _ := ((((((chg_set (w := w3) (p := ⟨w.heap.size + 1 + 1, 5, none⟩) (u := .slice H1 x.m.length h1) (by simp) (by simp)).trans (chg_set (p := ⟨w.heap.size + 1, 0, none⟩) (u := .int .i64 x.p) (by simp) (by simp))).trans (chg_set (p := ⟨w.heap.size + 1, 1, none⟩) (u := .int .i64 x.q.v) (by simp) (by simp))).trans (chg_set (p := ⟨w.heap.size + 1, 2, none⟩) (u := .slice A1 x.q.f.length a1) (by simp) (by simp))).trans (chg_set (p := ⟨w.heap.size + 1, 3, none⟩) (u := .slice C1 x.q.t.length c1) (by simp) (by simp))).trans (chg_set (p := ⟨w.heap.size + 1, 4, none⟩) (u := .slice E1 x.d.length e1) (by simp) (by simp))).trans (chg_set (p := ⟨w.heap.size + 1, 5, none⟩) (u := .slice H1 x.m.length h1) (by simp) (by simp))
    exact Fam.mono (hF.chg hc (.inr (by omega))) (by omega) (by simp)

/-- rows of other elements are left alone -/
def KeepT (lo hi : Nat) (w w' : World) : Prop := ∀ (T : TypeId) (sz : Nat) (v : Value) (n : Nat) (cs : List Value), 3 ≠ T → RowO T sz w lo hi v n cs → RowO T sz w' lo hi v n cs
theorem KeepT.of_below {lo hi : Nat} {w w' : World} (hb : Below w.heap.size w w') : KeepT lo hi w w' := fun _ _ _ _ _ _ h => h.below hb
theorem KeepT.of_grown {lo hi base : Nat} {w w' : World} {u : Value} {l : List Int} (ho : OwnI w base u l) (hg : w.grownBy w' u.ownBlock) : KeepT lo hi w w' := fun _ _ _ _ _ ht h => h.grown ht ho hg
theorem KeepT.trans {lo hi : Nat} {a b c : World} (h : KeepT lo hi a b) (k : KeepT lo hi b c) : KeepT lo hi a c := fun T sz v n cs ht hr => k T sz v n cs ht (h T sz v n cs ht hr)

set_option maxHeartbeats 400000 in
theorem markQuiver_fam (a b : Value) (q : Qv) (L1 : List (Value × List Int)) (k : Int) (lo hi : Nat) (w : World) (hF : Fam w lo hi ([(a, q.f), (b, q.t)] ++ L1)) (hh : hi ≤ w.heap.size) (h0 : 0 ≤ k) (h1 : k ≤ 1125899906842624) :
    Calls Try.prog 21 #[.agg #[.int .i64 q.v, a, b], .int .i64 k] w fun e w' => e = .returned (.int .i64 (k + q.size)) ∧ Fam w' lo hi ([(a, mkI k q.f.length), (b, mkI (k + q.f.length) q.t.length)] ++ L1) ∧ Chg lo hi w w' ∧ KeepT lo hi w w' := by
  have fa : OwnI w lo a q.f := (hF.1 (a, q.f) (by simp)).1
  have fb : OwnI w lo b q.t := (hF.1 (b, q.t) (by simp)).1
  obtain ⟨A, c, rfl, _, _⟩ := fa.form
  obtain ⟨C, d, rfl, _, _⟩ := fb.form
  have la := fa.2.1
  have lb := fb.2.1
  have g0 := below_alloc w (.cells #[.int .i64 q.v, .slice A q.f.length c, .slice C q.t.length d] 26)
  have hF0 := hF.below g0
  go_enter Try.func21, Try.ntmps21
  go_wp2_with fail
  have fa0 : IntsO _ lo hi (.slice A q.f.length c) q.f := hF0.1 (_, q.f) (by simp)
  refine (markIntS_any _ _ _ lo _ fa0.1 h0 (by omega)).mono ?_; rintro e w1 ⟨rfl, ho1, hg1⟩
  have hF1 := Fam.turn (L1 := []) hF0 ho1 hg1
  have hc1 := chg_of_grown fa0 hg1
  have hk1 := KeepT.of_grown (lo := lo) (hi := hi) fa0.1 hg1
  have cB := ((Blk.new w 26 #[.int .i64 q.v, .slice A q.f.length c, .slice C q.t.length d]).chg hc1 (.inr hh)).cell' (i := 2) rfl
  have fb1 : IntsO w1 lo hi (.slice C q.t.length d) q.t := hF1.1 (_, q.t) (by simp)
  clear hF hF0 ho1 hg1 fa fb fa0
  go_wp2_with fail
  refine (markIntS_any _ _ _ lo _ fb1.1 (by omega) (by omega)).mono ?_; rintro e w2 ⟨rfl, ho2, hg2⟩
  have hF2 := Fam.turn (L1 := [(_, mkI k q.f.length)]) hF1 ho2 hg2
  have hc2 := chg_of_grown fb1 hg2
  have hk2 := KeepT.of_grown (lo := lo) (hi := hi) fb1.1 hg2
  clear ho2 hg2 fb1 hF1
  go_wp2
  go_ret
  refine ⟨?_, hF2, (Chg.of_below g0).trans (hc1.trans hc2), (KeepT.of_below g0).trans (hk1.trans hk2)⟩
  have e : k + (q.size : Int) = k + q.f.length + q.t.length := by simp only [Qv.size]; omega
  rw [e]; rfl

set_option maxHeartbeats 800000 in
theorem rep_mark (v : Value) (x : Rp) (k : Int) (lo hi : Nat) (w : World) (hv : RepO w lo hi v x) (hh : hi ≤ w.heap.size) (h0 : 0 ≤ k) (h1 : k ≤ 1099511627776) (hsz : x.size ≤ 1048576) :
    Calls Try.prog 22 #[v, .int .i64 k] w fun e w' => e = .returned (.int .i64 (k + x.marks)) ∧ RepO w' lo hi v (RepO.mk k x) ∧ Chg lo hi w w' := by
  obtain ⟨f, t, d, m, vs, rfl, ho, hl, hF, hI, _⟩ := hv
  have HL := Lib.hid hl
  clear hl
  have ff : OwnI w lo f x.q.f := (hF.1 (f, x.q.f) (by simp)).1
  have ft : OwnI w lo t x.q.t := (hF.1 (t, x.q.t) (by simp)).1
  have fd : OwnI w lo d x.d := (hF.1 (d, x.d) (by simp)).1
  obtain ⟨A, a, rfl, _, _⟩ := ff.form
  obtain ⟨C, c, rfl, _, _⟩ := ft.form
  obtain ⟨E, e, rfl, _, _⟩ := fd.form
  obtain ⟨H, h, rfl, _, _⟩ := ho.form
  have ht : totM x.m ≤ 4194304 := by rw [totM_eq]; simp only [Rp.size, szM] at hsz; omega
  have hqs : x.q.size ≤ 1048576 := by simp only [Rp.size] at hsz; omega
  have hds : x.d.length ≤ 1048576 := by simp only [Rp.size] at hsz; omega
  clear ff ft fd
  obtain ⟨W, hW⟩ : ∃ W, W = w.alloc (.cells #[.int .i64 x.p, .int .i64 x.q.v, .slice A x.q.f.length a, .slice C x.q.t.length c, .slice E x.d.length e, .slice H x.m.length h] 29) := ⟨_, rfl⟩
  have g0 : Below w.heap.size w W := by rw [hW]; exact below_alloc _ _
  have kB : Blk W w.heap.size 29 #[.int .i64 x.p, .int .i64 x.q.v, .slice A x.q.f.length a, .slice C x.q.t.length c, .slice E x.d.length e, .slice H x.m.length h] := by rw [hW]; exact Blk.new _ _ _
  replace hF := hF.below g0
  replace ho := ho.below g0
  have hs0 := g0.size
  have HF := Lib.hid hF
  clear hF
  go_enter Try.func22, Try.ntmps22
  go_wp2_with fail
  rw [← hW]; clear hW
  refine (markQuiver_fam _ _ x.q ([(.slice E x.d.length e, x.d)] ++ vs.zip (x.m.map Mx.a)) _ lo hi _ HF.out (by omega) h0 (by omega)).mono ?_; rintro e w1 ⟨rfl, hF1, hc1, hk1⟩
  have ho1 : OutM w1 lo hi (.slice H x.m.length h) vs x.m := hk1 _ _ _ _ _ (by decide) ho
  have kB1 := kB.chg hc1 (.inr hh)
  have c4 := kB1.cell' (i := 4) rfl
  have hd : IntsO w1 lo hi (.slice E x.d.length e) x.d := hF1.1 (_, x.d) (by simp)
  clear ho kB hk1
  have HF1 := Lib.hid hF1
  clear hF1
  go_wp2_with fail
  refine (markIntS_any _ _ _ lo _ hd.1 (by omega) (by omega)).mono ?_; rintro e w2 ⟨rfl, ho2, hg2⟩
  have hF2 := Fam.turn (L1 := [(_, mkI k x.q.f.length), (_, mkI (k + x.q.f.length) x.q.t.length)]) HF1.out ho2 hg2
  have hc2 := chg_of_grown hd hg2
  have hO2 : OutM w2 lo hi (.slice H x.m.length h) vs x.m := ho1.grown (by decide) hd.1 hg2
  have kB2 := kB1.chg hc2 (.inr hh)
  have c5 := kB2.cell' (i := 5) rfl
  have HF2 := Lib.hid hF2
  clear ho1 kB1 c4 hd HF1 ho2 hg2 hF2
  go_wp2_with fail
  refine (markMatrixS_fam _ vs x.m [(.slice A x.q.f.length a, mkI k x.q.f.length), (.slice C x.q.t.length c, mkI (k + x.q.f.length) x.q.t.length), (.slice E x.d.length e, mkI (k + x.q.size) x.d.length)] _ lo hi _ hO2 HL.out HF2.out (by omega) (by omega) (by omega)).mono ?_; rintro e w3 ⟨rfl, ho3, hF3, hc3⟩
  have hI3 : ∀ m ∈ mkMS (k + x.q.size + x.d.length) x.m, I64 m.r ∧ I64 m.c := by
    intro m hm
    obtain ⟨j, hj⟩ := List.getElem?_of_mem hm
    have hjl := lt_of_some hj
    rw [mkMS_length] at hjl
    have := mkMS_get x.m (k + x.q.size + x.d.length) j _ (List.getElem?_eq_getElem hjl)
    rw [hj] at this
    injection this with this
    subst this
    have hle := totM_take_le x.m j
    simp only
    exact ⟨⟨by omega, by omega⟩, ⟨by omega, by omega⟩⟩
  have HI3 := Lib.hid hI3
  have HO3 := Lib.hid ho3
  have HF3 := Lib.hid hF3
  clear hI3 ho3 hF3 HF2 hO2 HF
  have hL3 := Lib.hid (show vs.length = (mkMS (k + x.q.size + x.d.length) x.m).length by rw [mkMS_length]; exact HL.out)
  go_wp2
  go_ret
  refine ⟨?_, ⟨_, _, _, _, vs, ?_, HO3.out, hL3.out, HF3.out, hI, HI3.out⟩, (Chg.of_below g0).trans (hc1.trans (hc2.trans hc3))⟩
  · have e : k + (x.marks : Int) = k + x.q.size + x.d.length + totM x.m := by simp only [Rp.marks]; omega
    rw [e]; rfl
  · simp [RepO.mk, QuivO.mk, mkMS_length, mkI_length]

set_option maxHeartbeats 800000 in
theorem rep_held (v : Value) (x : Rp) (k : Int) (w : World) (hv : RpR w w.heap.size v (RepO.mk k x)) (h0 : 0 ≤ k) (h1 : k ≤ 1099511627776) (hsz : x.size ≤ 1048576) :
    Calls Try.prog 23 #[v, .int .i64 k] w fun e w' => e = .returned (.int .i64 (k + x.marks)) ∧ Below w.heap.size w w' := by
  obtain ⟨A, a, C, c, E, e, H, h, rfl, hq, hd, hm, _, _, _⟩ := hv.open_
  clear hv
  have ht : totM x.m ≤ 4194304 := by rw [totM_eq]; simp only [Rp.size, szM] at hsz; omega
  have hqs : x.q.size ≤ 1048576 := by simp only [Rp.size] at hsz; omega
  have hds : x.d.length ≤ 1048576 := by simp only [Rp.size] at hsz; omega
  obtain ⟨W, hW⟩ : ∃ W, W = w.alloc (.cells #[.int .i64 (RepO.mk k x).p, .int .i64 (RepO.mk k x).q.v, .slice A (RepO.mk k x).q.f.length a, .slice C (RepO.mk k x).q.t.length c, .slice E (RepO.mk k x).d.length e, .slice H (RepO.mk k x).m.length h] 29) := ⟨_, rfl⟩
  have g0 : Below w.heap.size w W := by rw [hW]; exact below_alloc _ _
  have kB : Blk W w.heap.size 29 #[.int .i64 (RepO.mk k x).p, .int .i64 (RepO.mk k x).q.v, .slice A (RepO.mk k x).q.f.length a, .slice C (RepO.mk k x).q.t.length c, .slice E (RepO.mk k x).d.length e, .slice H (RepO.mk k x).m.length h] := by rw [hW]; exact Blk.new _ _ _
  have hq' : QvR W W.heap.size (.agg #[.int .i64 (RepO.mk k x).q.v, .slice A (RepO.mk k x).q.f.length a, .slice C (RepO.mk k x).q.t.length c]) (QuivO.mk k x.q) := QvR.next g0 hq
  have hd' : SlI W W.heap.size (.slice E (RepO.mk k x).d.length e) (mkI (k + x.q.size) x.d.length) := SlI.next g0 hd
  have hm' : SlM W W.heap.size (.slice H (RepO.mk k x).m.length h) (mkMS (k + x.q.size + x.d.length) x.m) := SlM.next g0 hm
  clear hq hd hm
  generalize RepO.mk k x = y at *
  have n1 : ¬ (k + (x.q.size : Int) < 0) := by omega
  have n2 : ¬ (k + (x.q.size : Int) + x.d.length < 0) := by omega
  have n3 : ¬ (k + (x.q.size : Int) + x.d.length + totM x.m < 0) := by omega
  go_enter Try.func23, Try.ntmps23
  go_wp2_with fail
  rw [← hW]; clear hW
  refine (quiv_held _ _ _ _ hq' h0 (by omega)).mono ?_; rintro e w1 ⟨rfl, hb1⟩
  clear hq'
  replace g0 := bthen g0 hb1
  replace hd' := SlI.next hb1 hd'
  replace hm' := SlM.next hb1 hm'
  replace kB := kB.call hb1
  replace c0 := kB.cell' (i := 0) rfl
  replace c1 := kB.cell' (i := 1) rfl
  replace c2 := kB.cell' (i := 2) rfl
  replace c3 := kB.cell' (i := 3) rfl
  replace c4 := kB.cell' (i := 4) rfl
  replace c5 := kB.cell' (i := 5) rfl
  clear hb1
  go_wp2_with fail
  refine (heldIntS_any _ _ (k + x.q.size) _ _ hd' (by omega) (by omega)).mono ?_; rintro e w_1 ⟨rfl, hb_1⟩
  replace g0 := bthen g0 hb_1
  replace hd' := SlI.next hb_1 hd'
  replace hm' := SlM.next hb_1 hm'
  replace kB := kB.call hb_1
  replace c0 := kB.cell' (i := 0) rfl
  replace c1 := kB.cell' (i := 1) rfl
  replace c2 := kB.cell' (i := 2) rfl
  replace c3 := kB.cell' (i := 3) rfl
  replace c4 := kB.cell' (i := 4) rfl
  replace c5 := kB.cell' (i := 5) rfl
  go_wp2_with fail
  refine (heldMatrixS_any _ x.m (k + x.q.size + x.d.length) _ hm' (by omega) (by omega) (by omega)).mono ?_; rintro e w_2 ⟨rfl, hb_2⟩
  replace g0 := bthen g0 hb_2
  replace hd' := SlI.next hb_2 hd'
  replace hm' := SlM.next hb_2 hm'
  replace kB := kB.call hb_2
  replace c0 := kB.cell' (i := 0) rfl
  replace c1 := kB.cell' (i := 1) rfl
  replace c2 := kB.cell' (i := 2) rfl
  replace c3 := kB.cell' (i := 3) rfl
  replace c4 := kB.cell' (i := 4) rfl
  replace c5 := kB.cell' (i := 5) rfl
  clear hd' hm' kB
  go_wp2
  go_ret
  have e : k + (x.marks : Int) = k + x.q.size + x.d.length + totM x.m := by simp only [Rp.marks]; omega
  exact ⟨by rw [e]; rfl, g0⟩
end Go.Proofs.Ytjhllgldllbaaaa
