/- What every law goes through: filtrations. -/
import Derived.Test.YtndnjbofflddfaaKit2
namespace Go.Proofs.Ytndnjbofflddfaa
set_option linter.unusedVariables false
set_option linter.unusedSimpArgs false
open Go.RowKit

/-- A filtration as data. -/
structure Filt where
  stages : Int
  birth : List Int
  ends : List (List Int)
deriving DecidableEq
def Filt.size (f : Filt) : Nat := f.birth.length + szSS f.ends
theorem filt_ext (p q : Filt) : (p = q) ↔ (p.stages = q.stages ∧ p.birth = q.birth ∧ p.ends = q.ends) := by
  cases p; cases q; simp

def FiR (w : World) (B : Nat) (val : Value) (f : Filt) : Prop := ∃ a b, val = .agg #[.int .i64 f.stages, a, b] ∧ SlI w B a f.birth ∧ SlII w B b f.ends ∧ I64 f.stages
theorem FiR.next {w w' : World} {v : Value} {q : Filt} (hb : Below w.heap.size w w') (h : FiR w w.heap.size v q) : FiR w' w'.heap.size v q := by
  obtain ⟨a, b, e, h1, h2, h3⟩ := h
  exact ⟨a, b, e, SlI.next hb h1, SlII.next hb h2, h3⟩
theorem FiR.below {w w' : World} {B : Nat} {v : Value} {q : Filt} (hb : Below B w w') (h : FiR w B v q) : FiR w' B v q := by
  obtain ⟨a, b, e, h1, h2, h3⟩ := h
  exact ⟨a, b, e, SlI.below hb h1, SlII.below hb h2, h3⟩
theorem FiR.more {w : World} {B B' : Nat} {v : Value} {q : Filt} (hB : B ≤ B') (h : FiR w B v q) : FiR w B' v q := by
  obtain ⟨a, b, e, h1, h2, h3⟩ := h
  exact ⟨a, b, e, SlI.more hB h1, SlII.more hB h2, h3⟩
theorem FiR.chg {w w' : World} {B lo hi : Nat} {v : Value} {q : Filt} (h : FiR w B v q) (hc : Chg lo hi w w') (hB : B ≤ lo) (hs : B ≤ w.heap.size) : FiR w' B v q := FiR.below (hc.below hB hs) h
theorem FiR.open_ {w : World} {B : Nat} {v : Value} {q : Filt} (h : FiR w B v q) : ∃ A c C d, v = .agg #[.int .i64 q.stages, .slice A q.birth.length c, .slice C q.ends.length d] ∧ SlI w B (.slice A q.birth.length c) q.birth ∧ SlII w B (.slice C q.ends.length d) q.ends ∧ I64 q.stages ∧ q.birth.length ≤ 17592186044416 ∧ q.ends.length ≤ 17592186044416 := by
  obtain ⟨a, b, rfl, h1, h2, h3⟩ := h
  obtain ⟨A, c, rfl, _, _, h4, h1⟩ := h1.open_
  obtain ⟨C, d, rfl, _, _, h5, h2⟩ := h2.open_
  exact ⟨A, c, C, d, rfl, h1, h2, h3, h4, h5⟩
theorem FiR.form {w : World} {B : Nat} {v : Value} {q : Filt} (h : FiR w B v q) : ∃ A c C d, v = .agg #[.int .i64 q.stages, .slice A q.birth.length c, .slice C q.ends.length d] := by
  obtain ⟨A, c, C, d, e, _⟩ := h.open_
  exact ⟨A, c, C, d, e⟩
theorem FiR.lens {w : World} {B : Nat} {v : Value} {q : Filt} (h : FiR w B v q) : q.birth.length ≤ 17592186044416 ∧ q.ends.length ≤ 17592186044416 := by
  obtain ⟨A, c, C, d, e, _, _, _, h1, h2⟩ := h.open_
  exact ⟨h1, h2⟩
def FiO (w : World) (lo hi : Nat) (val : Value) (f : Filt) : Prop := ∃ a b vs, val = .agg #[.int .i64 f.stages, a, b] ∧ OutO w lo hi b vs ∧ vs.length = f.ends.length ∧ Fam w lo hi ([(a, f.birth)] ++ vs.zip f.ends) ∧ I64 f.stages
theorem FiO.rd {w : World} {lo hi : Nat} {v : Value} {q : Filt} (h : FiO w lo hi v q) : FiR w w.heap.size v q := by
  obtain ⟨a, b, vs, e, h1, h2, h3, h4⟩ := h
  exact ⟨a, b, e, (h3.1 (a, q.birth) (by simp)).rd, h1.rd h2 fun p hp => (h3.1 p (by simp [hp])).rd, h4⟩
theorem FiO.form {w : World} {lo hi : Nat} {v : Value} {q : Filt} (h : FiO w lo hi v q) : ∃ A c C d, v = .agg #[.int .i64 q.stages, .slice A q.birth.length c, .slice C q.ends.length d] := h.rd.form
theorem FiO.chg {w w' : World} {lo hi lo' hi' : Nat} {v : Value} {q : Filt} (h : FiO w lo hi v q) (hc : Chg lo' hi' w w') (hd : hi ≤ lo' ∨ hi' ≤ lo) : FiO w' lo hi v q := by
  obtain ⟨a, b, vs, e, h1, h2, h3, h4⟩ := h
  exact ⟨a, b, vs, e, h1.chg hc hd, h2, h3.chg hc hd, h4⟩
theorem FiO.below {w w' : World} {lo hi : Nat} {v : Value} {q : Filt} (h : FiO w lo hi v q) (hb : Below w.heap.size w w') : FiO w' lo hi v q := by
  obtain ⟨a, b, vs, e, h1, h2, h3, h4⟩ := h
  exact ⟨a, b, vs, e, h1.below hb, h2, h3.below hb, h4⟩
def FiO.mk (k : Int) (q : Filt) : Filt := ⟨q.stages, mkI k q.birth.length, mkSS (k + q.birth.length) q.ends⟩

set_option maxHeartbeats 400000 in
theorem eqFiltration_any (u v : Value) (p q : Filt) (w : World) (hu : FiR w w.heap.size u p) (hv : FiR w w.heap.size v q) :
    Calls Try.prog 41 #[u, v] w fun e w' => e = .returned (.bool (decide (p = q))) ∧ Below w.heap.size w w' := by
  obtain ⟨A, c, C, d, rfl, hf, ht, _, _, _⟩ := hu.open_
  obtain ⟨A', c', C', d', rfl, hf', ht', _, _, _⟩ := hv.open_
  clear hu hv
  have g0 : Below w.heap.size w ((w.alloc (.cells #[.int .i64 p.stages, .slice A p.birth.length c, .slice C p.ends.length d] 52)).alloc (.cells #[.int .i64 q.stages, .slice A' q.birth.length c', .slice C' q.ends.length d'] 52)) := ((Below.refl _ _).alloc (Nat.le_refl _) _).alloc (by simp) _
  by_cases h1 : p.stages = q.stages
  · have e1 : (p.stages != q.stages) = false := by rw [h1]; simp
    have H1 := Lib.hid h1
    clear h1
    by_cases h2 : p.birth = q.birth
    · have e2 : decide (p.birth = q.birth) = true := by simpa using h2
      have H2 := Lib.hid h2
      clear h2
      obtain ⟨B, hB⟩ : ∃ B, decide (p.ends = q.ends) = B := ⟨_, rfl⟩
      have HB := Lib.hid hB
      have hfin : decide (p = q) = B := by
        rw [← hB, decide_eq_decide, filt_ext]
        exact ⟨fun h => h.2.2, fun h => ⟨H1.out, H2.out, h⟩⟩
      rw [hfin]
      clear hfin
      go_enter Try.func41, Try.ntmps41
      go_wp2_with fail
      refine (eqIntS_any _ _ _ _ _ (SlI.next g0 hf) (SlI.next g0 hf')).mono ?_; rintro e w1 ⟨rfl, hb1⟩
      have g1 := bthen g0 hb1
      have bc := (((Blk.new w 52 #[.int .i64 p.stages, .slice A p.birth.length c, .slice C p.ends.length d]).alloc _).call hb1).cell' (i := 2) rfl
      have bd := ((Blk.new (w.alloc _) 52 #[.int .i64 q.stages, .slice A' q.birth.length c', .slice C' q.ends.length d']).call hb1).cell' (i := 2) rfl
      simp only [World.size_alloc] at bd
      go_wp2_with fail
      refine (eqIntSS_any _ _ _ _ _ (SlII.next g1 ht) (SlII.next g1 ht')).mono ?_; rintro e w2 ⟨rfl, hb2⟩
      rw [hB]
      clear hB
      go_wp2
      all_goals (go_ret; simp_all; exact bthen g1 hb2)
    · have e2 : decide (p.birth = q.birth) = false := by simpa using h2
      have hfin : decide (p = q) = false := by
        simp only [decide_eq_false_iff_not, filt_ext]
        exact fun h => h2 h.2.1
      rw [hfin]
      clear hfin h2
      go_enter Try.func41, Try.ntmps41
      go_wp2_with fail
      refine (eqIntS_any _ _ _ _ _ (SlI.next g0 hf) (SlI.next g0 hf')).mono ?_; rintro e w1 ⟨rfl, hb1⟩
      go_wp2
      go_ret
      exact ⟨rfl, bthen g0 hb1⟩
  · have e1 : (p.stages != q.stages) = true := by simpa using h1
    have hfin : decide (p = q) = false := by
      simp only [decide_eq_false_iff_not, filt_ext]
      exact fun h => h1 h.1
    rw [hfin]
    clear hfin h1
    go_enter Try.func41, Try.ntmps41
    go_wp2
    go_ret
    exact ⟨rfl, g0⟩

theorem szFiltration_any (u : Value) (q : Filt) (left : Int) (w : World) (hu : FiR w w.heap.size u q) (h0 : 0 ≤ left) (h1 : left ≤ 1048576) :
    Calls Try.prog 37 #[u, .int .i64 left] w fun e w' => e = .returned (.int .i64 (szLeft left q.size)) ∧ Below w.heap.size w w' := by
  obtain ⟨A, c, C, d, rfl, hf, ht, hr, lf, lt⟩ := hu.open_
  clear hu hr
  have cB := (Blk.new w 49 #[.int .i64 q.stages, .slice A q.birth.length c, .slice C q.ends.length d]).cell' (i := 2) rfl
  have g0 := below_alloc w (.cells #[.int .i64 q.stages, .slice A q.birth.length c, .slice C q.ends.length d] 49)
  by_cases h2 : left < q.birth.length
  · have s1 : szLeft left q.birth.length = -1 := by rw [szLeft, if_pos h2]
    have e : szLeft left q.size = -1 := by rw [szLeft, if_pos (by simp only [Filt.size]; omega)]
    rw [e]
    clear e
    go_enter Try.func37, Try.ntmps37
    go_wp2_with fail
    refine (szIntS_any _ _ _ _ _ lf h0 h1).mono ?_; rintro e w' ⟨rfl, rfl⟩
    go_wp2
    go_ret
    exact ⟨rfl, g0⟩
  · have s1 : szLeft left q.birth.length = left - q.birth.length := by rw [szLeft, if_neg h2]
    have n1 : ¬ left - (q.birth.length : Int) < 0 := by omega
    obtain ⟨z, hz⟩ : ∃ z, szSS q.ends = z := ⟨_, rfl⟩
    by_cases h3 : left - q.birth.length < z
    · have s2 : szLeft (left - q.birth.length) z = -1 := by rw [szLeft, if_pos h3]
      have e : szLeft left q.size = -1 := by rw [szLeft, if_pos (by simp only [Filt.size]; omega)]
      rw [e]
      clear e
      go_enter Try.func37, Try.ntmps37
      go_wp2_with fail
      refine (szIntS_any _ _ _ _ _ lf h0 h1).mono ?_; rintro e w' ⟨rfl, rfl⟩
      go_wp2_with fail
      refine (szIntSS_any _ _ (left - q.birth.length) _ (SlII.next g0 ht) (by omega) (by omega)).mono ?_; rintro e w2 ⟨rfl, hb2⟩
      rw [hz]
      go_wp2
      go_ret
      exact ⟨rfl, bthen g0 hb2⟩
    · have s2 : szLeft (left - q.birth.length) z = left - q.birth.length - z := by rw [szLeft, if_neg h3]
      have n2 : ¬ left - (q.birth.length : Int) - z < 0 := by omega
      have e : szLeft left q.size = left - q.birth.length - z := by rw [szLeft, if_neg (by simp only [Filt.size]; omega)]; simp only [Filt.size]; omega
      rw [e]
      clear e
      go_enter Try.func37, Try.ntmps37
      go_wp2_with fail
      refine (szIntS_any _ _ _ _ _ lf h0 h1).mono ?_; rintro e w' ⟨rfl, rfl⟩
      go_wp2_with fail
      refine (szIntSS_any _ _ (left - q.birth.length) _ (SlII.next g0 ht) (by omega) (by omega)).mono ?_; rintro e w2 ⟨rfl, hb2⟩
      rw [hz]
      go_wp2
      go_ret
      exact ⟨rfl, bthen g0 hb2⟩

set_option maxHeartbeats 400000 in
theorem filt_mark (v : Value) (q : Filt) (k : Int) (lo hi : Nat) (w : World) (hv : FiO w lo hi v q) (hh : hi ≤ w.heap.size) (h0 : 0 ≤ k) (h1 : k ≤ 1099511627776) (hsz : q.size ≤ 1048576) :
    Calls Try.prog 52 #[v, .int .i64 k] w fun e w' => e = .returned (.int .i64 (k + q.birth.length + tot q.ends)) ∧ FiO w' lo hi v (FiO.mk k q) ∧ Chg lo hi w w' := by
  obtain ⟨a, b, vs, rfl, ho, hl, hF, hr⟩ := hv
  have HL := Lib.hid hl
  clear hl
  have fa : OwnI w lo a q.birth := (hF.1 (a, q.birth) (by simp)).1
  obtain ⟨A, c, rfl, _, _⟩ := fa.form
  obtain ⟨C, d, rfl, _, _⟩ := ho.form
  have la := fa.2.1
  simp only [Filt.size, szSS] at hsz
  have g0 := below_alloc w (.cells #[.int .i64 q.stages, .slice A q.birth.length c, .slice C vs.length d] 52)
  have hF0 := hF.below g0
  have ho0 := ho.below g0
  go_enter Try.func52, Try.ntmps52
  go_wp2_with fail
  refine (markIntS_any _ _ _ lo _ (hF0.1 (_, q.birth) (by simp)).1 h0 (by omega)).mono ?_; rintro e w1 ⟨rfl, ho1, hg1⟩
  have hF1 := hF0.turn (L1 := []) ho1 hg1
  have hoo := ho0.grown (hF0.1 (_, q.birth) (by simp)).1 hg1
  have hc1 := chg_of_grown (hF0.1 (_, q.birth) (by simp)) hg1
  have cB := ((Blk.new w 52 #[.int .i64 q.stages, .slice A q.birth.length c, .slice C vs.length d]).chg hc1 (.inr hh)).cell' (i := 2) rfl
  clear hF hF0 ho1 hg1 fa ho0
  go_wp2_with fail
  refine (markIntSS_fam _ vs q.ends [(_, mkI k q.birth.length)] _ lo hi _ hoo HL.out hF1 (by omega) (by omega) (by omega)).mono ?_; rintro e w2 ⟨rfl, ho2, hF2, hc2⟩
  go_wp2
  go_ret
  exact ⟨rfl, ⟨_, _, vs, rfl, ho2, by simp [FiO.mk, mkSS_length, HL.out], hF2, hr⟩, (Chg.of_below g0).trans (hc1.trans hc2)⟩

set_option maxHeartbeats 800000 in
theorem filt_to (u : Value) (q : Filt) (w : World) (hu : FiR w w.heap.size u q) (hn : q.size ≤ 1048576) :
    Calls Try.prog 39 #[u] w fun e w' => ∃ v, e = .returned v ∧ FiO w' w.heap.size w'.heap.size v q ∧ Below w.heap.size w w' := by
  obtain ⟨A, c, C, d, rfl, hf, ht, hr, _, _⟩ := hu.open_
  clear hu
  unfold Filt.size szSS at hn
  obtain ⟨Wa, hWa⟩ : ∃ W, W = (w.alloc (.cells #[.int .i64 q.stages, .slice A q.birth.length c, .slice C q.ends.length d] 49)).alloc (.cells #[.int .i64 0, .slice none 0 0, .slice none 0 0] 52) := ⟨_, rfl⟩
  obtain ⟨Wb, hWb⟩ : ∃ W, W = Wa.alloc (.cells #[.int .i64 q.stages, .slice none 0 0, .slice none 0 0] 52) := ⟨_, rfl⟩
  have za : Wa.heap.size = w.heap.size + 1 + 1 := by rw [hWa]; simp
  have zb : Wb.heap.size = w.heap.size + 1 + 1 + 1 := by rw [hWb]; simp [za]
  have kp : Blk Wb w.heap.size 49 #[.int .i64 q.stages, .slice A q.birth.length c, .slice C q.ends.length d] := by rw [hWb, hWa]; exact ((Blk.new _ _ _).alloc _).alloc _
  have kr : Blk Wb (w.heap.size + 1) 52 #[.int .i64 0, .slice none 0 0, .slice none 0 0] := by
    rw [hWb, hWa]
    have := (Blk.new (w.alloc (.cells #[.int .i64 q.stages, .slice A q.birth.length c, .slice C q.ends.length d] 49)) 52 #[.int .i64 0, .slice none 0 0, .slice none 0 0]).alloc (.cells #[.int .i64 q.stages, .slice none 0 0, .slice none 0 0] 52)
    simpa only [World.size_alloc] using this
  have ko : Blk Wb (w.heap.size + 1 + 1) 52 #[.int .i64 q.stages, .slice none 0 0, .slice none 0 0] := by
    rw [hWb, ← za]; exact Blk.new _ _ _
  have gb : Below w.heap.size w Wb := by rw [hWb, hWa]; exact (((Below.refl _ _).alloc (Nat.le_refl _) _).alloc (by simp) _).alloc (by simp; omega) _
  have ZB := Lib.hid zb
  clear za zb
  go_enter Try.func39, Try.ntmps39
  go_wp2_with fail
  rw [← hWa, ← hWb]
  clear hWa hWb
  refine (ints_to _ _ _ (SlI.next gb hf) (by omega)).mono ?_; rintro e w1 ⟨a, rfl, ha, hb1⟩
  obtain ⟨A1, c1, rfl, _, _⟩ := ha.1.form
  have kp1 := kp.call hb1
  have ko1 := ko.call hb1
  have kr1 := kr.call hb1
  have p2 := kp1.cell' (i := 2) rfl
  have o1 := ko1.cell' (i := 1) rfl
  have fo := ko1.frozen
  have g1 := bthen gb hb1
  have sz1 := ZB.out
  have s1 := hb1.size
  have gs : Below w.heap.size w (w1.setCell ⟨w.heap.size + 1 + 1, 1, none⟩ (.slice A1 q.birth.length c1)) := g1.setCell (by simp; omega) _
  have ha' : IntsO (w1.setCell ⟨w.heap.size + 1 + 1, 1, none⟩ (.slice A1 q.birth.length c1)) Wb.heap.size w1.heap.size (.slice A1 q.birth.length c1) q.birth := ha.set (by simp; omega) _
  clear sz1 s1
  go_wp2_with fail
  clear p2 o1 fo
  obtain ⟨Wc, hWc⟩ : ∃ W, W = w1.setCell ⟨w.heap.size + 1 + 1, 1, none⟩ (.slice A1 q.birth.length c1) := ⟨_, rfl⟩
  have zc : Wc.heap.size = w1.heap.size := by rw [hWc]; simp
  have kr' : Blk Wc (w.heap.size + 1) 52 #[.int .i64 0, .slice none 0 0, .slice none 0 0] := by rw [hWc]; exact kr1.far (by simp) _
  have ko' : Blk Wc (w.heap.size + 1 + 1) 52 #[.int .i64 q.stages, .slice A1 q.birth.length c1, .slice none 0 0] := by rw [hWc]; exact ko1.set_ 1 _
  rw [← hWc] at gs ha' ⊢
  clear hWc kr1 ko1 kp1 kp kr ko
  refine (intss_to _ _ _ (SlII.next gs ht) (by omega) (fun l hl => by have := tot_mem hl; omega)).mono ?_; rintro e w2 ⟨b, rfl, hb, hb2⟩
  obtain ⟨vs, ho, hvl, hFv⟩ := hb
  have HL := Lib.hid hvl
  clear hvl
  obtain ⟨C1, d1, rfl, _, _⟩ := ho.form
  have ko2 := ko'.call hb2
  have kr2 := kr'.call hb2
  have o0 := ko2.cell' (i := 0) rfl
  have o1 := ko2.cell' (i := 1) rfl
  have o2 := ko2.cell' (i := 2) rfl
  have fo := ko2.frozen
  have r0 := kr2.cell' (i := 0) rfl
  have r1 := kr2.cell' (i := 1) rfl
  have r2 := kr2.cell' (i := 2) rfl
  have fr := kr2.frozen
  have ZC := Lib.hid zc
  clear zc
  go_wp2
  have zb := ZB.out
  have zc := ZC.out
  have s1 := hb1.size
  have s2 := hb2.size
  have g2 := bthen gs hb2
  have h3 : IntsO w2 Wb.heap.size w1.heap.size (.slice A1 q.birth.length c1) q.birth := ha'.below hb2
  have hF : Fam w2 w.heap.size w2.heap.size ([(.slice A1 q.birth.length c1, q.birth)] ++ vs.zip q.ends) := fam_cons (mi := Wc.heap.size) (h3.wider (by omega) (by omega)) hFv (by omega) hb2.size
  have hO := ho.mono (lo' := w.heap.size) (by omega) (Nat.le_refl _)
  refine bodyPost_ret (v := .agg #[.int .i64 q.stages, .slice A1 q.birth.length c1, .slice C1 vs.length d1]) (by simp [results, go_sem, r0, r1, r2]) rfl ⟨_, rfl, ⟨_, _, vs, rfl, ?_, HL.out, ?_, hr⟩, (((g2.setCell (by simp; omega) _).setCell (by simp) _).setCell (by simp) _).setCell (by simp) _⟩
  · have e1 := hO.set ko2 (by decide) 2 (.slice C1 vs.length d1)
    have e2 := e1.set (kr2.far (p := ⟨w.heap.size + 1 + 1, 2, none⟩) (by simp) (.slice C1 vs.length d1)) (by decide) 0 (.int .i64 q.stages)
    have e3 := e2.set ((kr2.far (p := ⟨w.heap.size + 1 + 1, 2, none⟩) (by simp) (.slice C1 vs.length d1)).set_ 0 _) (by decide) 1 (.slice A1 q.birth.length c1)
    have e4 := e3.set (((kr2.far (p := ⟨w.heap.size + 1 + 1, 2, none⟩) (by simp) (.slice C1 vs.length d1)).set_ 0 _).set_ 1 _) (by decide) 2 (.slice C1 vs.length d1)
    simpa using e4
  · have e1 := hF.setBlk (i := 2) ko2 (by decide) (.slice C1 vs.length d1)
    have e2 := e1.setBlk (i := 0) (kr2.far (p := ⟨w.heap.size + 1 + 1, 2, none⟩) (by simp) (.slice C1 vs.length d1)) (by decide) (.int .i64 q.stages)
    have e3 := e2.setBlk (i := 1) ((kr2.far (p := ⟨w.heap.size + 1 + 1, 2, none⟩) (by simp) (.slice C1 vs.length d1)).set_ 0 _) (by decide) (.slice A1 q.birth.length c1)
    have e4 := e3.setBlk (i := 2) (((kr2.far (p := ⟨w.heap.size + 1 + 1, 2, none⟩) (by simp) (.slice C1 vs.length d1)).set_ 0 _).set_ 1 _) (by decide) (.slice C1 vs.length d1)
    simpa using e4
end Go.Proofs.Ytndnjbofflddfaa
