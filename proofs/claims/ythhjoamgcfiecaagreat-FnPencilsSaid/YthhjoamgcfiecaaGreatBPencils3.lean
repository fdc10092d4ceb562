/- FnPencils: the law holds for every argument. Part 3 of 18 of the proof: AcyQ, AnyQ, Kit3, Mat, Mat2, Mat3, Zig, Line, RepSz, Pencil. No condition. -/
import Derived.Test.YthhjoamgcfiecaaGreatBPencils2
set_option linter.unusedVariables false
set_option linter.unusedSimpArgs false
namespace Go.Proofs.YthhjoamgcfiecaaGreat
open Go.RowKit
set_option maxRecDepth 100000 in
theorem l6Names_any (w0 : World) :
  Calls Tryz.prog 115 #[] w0 fun e w' => ∃ g cs, e = .returned (.slice (some ⟨g, 0, none⟩) 12 12) ∧ w0.heap.size ≤ g ∧ Blk w' g 9 cs ∧ (∀ i, i < 12 → ∃ s : ByteArray, cs[i]? = some (.string s)) ∧ Below w0.heap.size w0 w' := by
 go_enter Tryz.func115, Tryz.ntmps115
 go_wp2
 go_ret
 refine ⟨_, _, rfl, Nat.le_refl _, Blk.new _ _ _, fun i hi => ?_, below_alloc _ _⟩
 match i, hi with
 | 0, _ => exact ⟨_, rfl⟩
 | 1, _ => exact ⟨_, rfl⟩
 | 2, _ => exact ⟨_, rfl⟩
 | 3, _ => exact ⟨_, rfl⟩
 | 4, _ => exact ⟨_, rfl⟩
 | 5, _ => exact ⟨_, rfl⟩
 | 6, _ => exact ⟨_, rfl⟩
 | 7, _ => exact ⟨_, rfl⟩
 | 8, _ => exact ⟨_, rfl⟩
 | 9, _ => exact ⟨_, rfl⟩
 | 10, _ => exact ⟨_, rfl⟩
 | 11, _ => exact ⟨_, rfl⟩
 | i + 12, h => omega
set_option maxHeartbeats 3200000 in
set_option maxRecDepth 100000 in
theorem l6Acyclic_any (c : Nat) (w0 : World) (hc : Cur w0 c) :
  Calls Tryz.prog 108 #[.pointer (some ⟨c, 0, none⟩)] w0 fun e w' => ∃ v q, e = .returned v ∧ QuivO w' w0.heap.size w'.heap.size v q ∧ q.f.length ≤ 61 ∧ q.t.length ≤ 61 ∧ Ck c w0 w' := by
 have hcl := hc.lt
 obtain ⟨W, hW⟩ : ∃ W, W = w0.alloc (.cells #[.int .i64 0, .slice none 0 0, .slice none 0 0] 28) := ⟨_, rfl⟩
 have g0 : Ck c w0 W := by rw [hW]; exact Ck.of_below (below_alloc _ _)
 have kR : Blk W w0.heap.size 28 #[.int .i64 0, .slice none 0 0, .slice none 0 0] := by rw [hW]; exact Blk.new _ _ _
 have sW : W.heap.size = w0.heap.size + 1 := by rw [hW]; simp
 have hcw : w0.heap.size ≠ c := by omega
 have KR := Lib.hid kR
 have G0 := Lib.hid g0
 have HC := Lib.hid hc
 clear kR hc
 go_enter Tryz.func108, Tryz.ntmps108
 go_wp2_with fail
 rw [← hW]; clear hW
 refine (l1Once_any c 2 _ (g0.keep HC.out) ⟨by omega, by omega⟩).mono ?_; rintro e w1 ⟨b, rfl, hb1⟩
 have hC1 := Lib.hid ((g0.trans hb1).keep HC.out)
 have s1 := hb1.size
 have HB1 := Lib.hid hb1
 clear hb1 g0
 rcases b with _ | _
 · -- by arrows
  go_wp2_with fail
  refine (l1Below_any c 4 _ hC1.out ⟨by omega, by omega⟩).mono ?_; rintro e w2 ⟨r, hr, _, rfl, hb2⟩
  have hr4 : r < 4 := by omega
  have hC2 := Lib.hid (hb2.keep hC1.out)
  have HB2 := Lib.hid (HB1.out.trans hb2)
  have s2 := hb2.size
  obtain ⟨V, hV⟩ : ∃ V : Nat, V = 1 + r := ⟨_, rfl⟩
  obtain ⟨W3, hW3⟩ : ∃ z, ((w2.alloc (.cells #[] 3)).alloc (.cells #[] 3)).alloc (.cells #[.int .i64 (1 + (r : Int)), .slice (some ⟨w2.heap.size, 0, none⟩) 0 0, .slice (some ⟨w2.heap.size + 1, 0, none⟩) 0 0] 28) = z := ⟨_, rfl⟩
  have gb : Below w2.heap.size w2 W3 := by rw [← hW3]; exact (((Below.refl _ _).alloc (Nat.le_refl _) _).alloc (by simp) _).alloc (by simp; omega) _
  have hG : GQ W3 w2.heap.size (w2.heap.size + 1 + 1) (1 + (r : Int)) (some ⟨w2.heap.size, 0, none⟩) 0 (some ⟨w2.heap.size + 1, 0, none⟩) 0 [] [] := by
   rw [← hW3]
   refine ⟨?_, ?_, ⟨by omega, by omega⟩, by simp; omega⟩
   ·have := Blk.new ((w2.alloc (.cells #[] 3)).alloc (.cells #[] 3)) 28 #[.int .i64 (1 + (r : Int)), .slice (some ⟨w2.heap.size, 0, none⟩) 0 0, .slice (some ⟨w2.heap.size + 1, 0, none⟩) 0 0]
    simp only [World.size_alloc] at this
    exact this
   ·have h := fam_made2 w2 (lo := w2.heap.size) (Nat.le_refl _)
    exact (h.below (below_alloc _ _)).mono (Nat.le_refl _) (by simp)
  have hC3 := Lib.hid ((Ck.of_below (c := c) gb).keep hC2.out)
  have HB3 := Lib.hid (HB2.out.trans (Ck.of_below gb))
  have HG3 := Lib.hid hG
  clear hb2 gb hG
  go_wp2_with fail
  refine (l1Below_any c 5 _ hC3.out ⟨by omega, by omega⟩).mono ?_; rintro e w4 ⟨m, hm, _, rfl, hb4⟩
  clear hW3
  have hm4 : m ≤ 4 := by omega
  have hcl2 : c < w2.heap.size := by have := HB2.out.size; omega
  have hgc : w2.heap.size + 1 + 1 ≠ c := by omega
  have hC4 := hb4.keep hC3.out
  have hG4 := HG3.out.ck hb4 hcl2 hgc
  have hB4 := HB3.out.trans hb4
  clear hb4
  go_wp2
  go_loopw [6] (fun nv wr => ∃ (k cA d : Nat) (A C : Option Addr) (F T : List Int), k ≤ 4 ∧ nv = .int .i64 k ∧ F.length + k ≤ 4 ∧ T.length + k ≤ 4 ∧ Cur wr c ∧ Ck c W wr ∧ GQ wr w2.heap.size (w2.heap.size + 1 + 1) (1 + (r : Int)) A cA C d F T) (fun nv _ => (intOf nv).toNat)
  case atStart => exact ⟨m, 0, 0, _, _, [], [], hm4, rfl, by simpa using hm4, by simpa using hm4, hC4, hB4, hG4⟩
  case round =>
   clear hC4 hB4 hG4 hm
   obtain ⟨k, cA, d, A, C, F, T, hk, rfl, hF, hT, hC, hB, hG⟩ := hrel
   have q0 := hG.1.cell' (i := 0) rfl
   by_cases hgo : 0 < k ∧ 0 < r
   ·obtain ⟨hk0, hr0⟩ := hgo
    have HC := Lib.hid hC
    have HB := Lib.hid hB
    have HG := Lib.hid hG
    clear hC hB hG
    go_wp2_with fail
    refine (l1Below_any c _ _ HC.out ⟨by omega, by omega⟩).mono ?_; rintro e w5 ⟨a, ha, _, rfl, hb5⟩
    have ha4 : a ≤ 4 := by omega
    have HC5 := Lib.hid (hb5.keep HC.out)
    have HB5 := Lib.hid (HB.out.trans hb5)
    have hG5 := HG.out.ck hb5 hcl2 hgc
    have gX := below_alloc w5 (.cells #[.int .i64 (a : Int)] 3)
    have kX := Blk.new w5 3 #[.int .i64 (a : Int)]
    have hGX := hG5.below gX
    have HGX := Lib.hid hGX
    have hfa : OwnI (w5.alloc (.cells #[.int .i64 (a : Int)] 3)) w2.heap.size (.slice A F.length cA) F := (hGX.2.1.1 (_, F) (by simp)).1
    have HFA := Lib.hid hfa
    have HKX := Lib.hid kX
    have q1 := hG5.1.cell' (i := 1) rfl
    have HBX := Lib.hid (HB5.out.trans (Ck.of_below gX))
    have HCX := Lib.hid ((Ck.of_below (c := c) gX).keep HC5.out)
    clear q0 hb5 hG5 gX kX hGX hfa
    (go_wp2_with (at_builtin; refine Hold.stop ?_)); unfold Hold
    refine wpList_appI (by rfl) (.tmp 43) (.tmp 45) (by rfl) w2.heap.size (w5.alloc (.cells #[.int .i64 (a : Int)] 3)).heap.size _ F (by rfl) HFA.out (some ⟨w5.heap.size, 0, none⟩) 1 1 [(a : Int)] (by rfl) rfl (sl_one2 HKX.out ⟨by omega, by omega⟩) (by simp; omega) HGX.out.2.2.2 ?_
    intro v3 w3 ho3 hg3 hv3
    obtain ⟨A3, c3, rfl, _⟩ := ho3.form
    obtain ⟨nA3, hnA3⟩ : ∃ z, (F ++ [(a : Int)]).length = z := ⟨_, rfl⟩
    rw [hnA3] at ho3 hv3 ⊢
    obtain ⟨hB3, hG3, hb3⟩ := HGX.out.setF ho3 hnA3.symm hg3 hv3
    have z1 := hB3.cell' (i := 1) rfl
    have fz := hB3.frozen
    obtain ⟨W3', hW3⟩ : ∃ z, w3.setCell ⟨w2.heap.size + 1 + 1, 1, none⟩ (.slice A3 nA3 c3) = z := ⟨_, rfl⟩
    rw [hW3] at hG3
    have hch : Chg (w2.heap.size + 1 + 1) (w2.heap.size + 1 + 1 + 1) w3 W3' := by rw [← hW3]; exact chg_set (Nat.le_refl _) (Nat.lt_succ_self _)
    have hbw3 := hb3.size
    have hlow : Below w2.heap.size (w5.alloc (.cells #[.int .i64 (a : Int)] 3)) W3' := hb3.trans (hch.below (by omega) (by have := HGX.out.2.2.2; omega))
    have HB6 := Lib.hid (HBX.out.low hlow (by have := HB2.out.size; omega) hcl2)
    have HC6 := Lib.hid (HCX.out.below hlow hcl2)
    have HG6 := Lib.hid hG3
    have hF1 : (F ++ [(a : Int)]).length + (k - 1) ≤ 4 := by simp; omega
    have HF1 := Lib.hid hF1
    have GB6 := Lib.hid hG3.1
    clear hnA3 hB3 hG3 hb3 ho3 hg3 hv3 hch hlow q1 HGX HFA HKX HBX HCX hF1 hF
    go_wp2
    clear hW3 z1 fz
    refine wp_region_netK (c) (by kernel_rfl) [.eq (.pointer (some ⟨w2.heap.size + 1 + 1, 2, none⟩)), .eq (.slice C T.length d), .eq (.int .i64 a), .eq (.int .i64 ((a : Int) + 1)), .eq (.pointer (some ⟨c, 0, none⟩)), .eq (.pointer (some ⟨w2.heap.size + 1 + 1, 0, none⟩)), .eq (.int .i64 (1 + (r : Int))), .eq (.int .i64 (1 + (r : Int) - 1)), .eq (.int .i64 a), .eq (.int .i64 (1 + (r : Int) - 1 - a)), rel 10 (fun u lo hi w => ∃ i : Nat, u = .int .i64 i ∧ i ≤ 10), rel 11 (fun u lo hi w => ∃ i : Nat, u = .int .i64 i ∧ i ≤ 20), rel 12 (fun u lo hi w => ∃ (g i : Nat), u = .slice (some ⟨g, 0, none⟩) 1 1 ∧ Blk w g 3 #[.int .i64 i] ∧ i ≤ 20 ∧ c < g)] [[], [0], [], [2], [], [], [5], [5, 6], [], [5, 6, 7, 8], [4, 5, 6, 7, 8, 9], [2, 3, 4, 5, 6, 7, 8, 9, 10], [2, 3, 4, 5, 6, 7, 8, 9, 10, 11], [0, 1, 2, 3, 4, 5, 6, 7, 8, 9, 10, 11, 12], [0, 1, 2, 3, 4, 5, 6, 7, 8, 9, 10, 11, 12, 13], [0, 1, 2, 3, 4, 5, 6, 7, 8, 9, 10, 11, 12, 13, 14]] 13 (by kernel_rfl) ⟨trivial, trivial, trivial, trivial, trivial, trivial, trivial, trivial, trivial, trivial, rel_stableK (fun u lo hi w w' h hb => h), rel_stableK (fun u lo hi w w' h hb => h), rel_stableK (fun u lo hi w w' ⟨g, i, e, h, h2, h3⟩ hb => ⟨g, i, e, h.ck hb (by omega), h2, h3⟩), trivial⟩ ⟨?_, ?_, ?_, ?_, ?_, ?_, ?_, ?_, ?_, ?_, ?_, ?_, ?_, trivial⟩ ?_
    ·intro x w hb hk Q' hQ
     clear hk
     simp only [netE] at hQ ⊢
     go_wp2
     exact hQ (.pointer (some ⟨w2.heap.size + 1 + 1, 2, none⟩)) _ (Ck.refl _ _) rfl
    ·intro x w hb hk Q' hQ
     have h0 : x.v 0 = _ := (hk 0 (by decide)).1
     clear hk
     simp only [netE] at hQ ⊢
     simp only [h0] at hQ ⊢
     clear h0
     have z := (GB6.out.ck hb hgc).cell' (i := 2) rfl
     go_wp2
     exact hQ (.slice C T.length d) _ (Ck.refl _ _) rfl
    ·intro x w hb hk Q' hQ
     clear hk
     simp only [netE] at hQ ⊢
     go_wp2
     exact hQ (.int .i64 a) _ (Ck.refl _ _) rfl
    ·intro x w hb hk Q' hQ
     have h2 : x.v 2 = _ := (hk 2 (by decide)).1
     clear hk
     simp only [netE] at hQ ⊢
     simp only [h2] at hQ ⊢
     clear h2
     go_wp2
     exact hQ (.int .i64 ((a : Int) + 1)) _ (Ck.refl _ _) rfl
    ·intro x w hb hk Q' hQ
     clear hk
     simp only [netE] at hQ ⊢
     go_wp2
     exact hQ (.pointer (some ⟨c, 0, none⟩)) _ (Ck.refl _ _) rfl
    ·intro x w hb hk Q' hQ
     clear hk
     simp only [netE] at hQ ⊢
     go_wp2
     exact hQ (.pointer (some ⟨w2.heap.size + 1 + 1, 0, none⟩)) _ (Ck.refl _ _) rfl
    ·intro x w hb hk Q' hQ
     have h5 : x.v 5 = _ := (hk 5 (by decide)).1
     clear hk
     simp only [netE] at hQ ⊢
     simp only [h5] at hQ ⊢
     clear h5
     have z := (GB6.out.ck hb hgc).cell' (i := 0) rfl
     go_wp2
     exact hQ (.int .i64 (1 + (r : Int))) _ (Ck.refl _ _) rfl
    ·intro x w hb hk Q' hQ
     have h6 : x.v 6 = _ := (hk 6 (by decide)).1
     clear hk
     simp only [netE] at hQ ⊢
     simp only [h6] at hQ ⊢
     clear h6
     go_wp2
     exact hQ (.int .i64 (1 + (r : Int) - 1)) _ (Ck.refl _ _) rfl
    ·intro x w hb hk Q' hQ
     clear hk
     simp only [netE] at hQ ⊢
     go_wp2
     exact hQ (.int .i64 a) _ (Ck.refl _ _) rfl
    ·intro x w hb hk Q' hQ
     have h7 : x.v 7 = _ := (hk 7 (by decide)).1
     have h8 : x.v 8 = _ := (hk 8 (by decide)).1
     clear hk
     simp only [netE] at hQ ⊢
     simp only [h7, h8] at hQ ⊢
     clear h7 h8
     go_wp2
     exact hQ (.int .i64 (1 + (r : Int) - 1 - a)) _ (Ck.refl _ _) rfl
    ·intro x w hb hk Q' hQ
     have h4 : x.v 4 = _ := (hk 4 (by decide)).1
     have h5 : x.v 5 = _ := (hk 5 (by decide)).1
     have h6 : x.v 6 = _ := (hk 6 (by decide)).1
     have h7 : x.v 7 = _ := (hk 7 (by decide)).1
     have h8 : x.v 8 = _ := (hk 8 (by decide)).1
     have h9 : x.v 9 = _ := (hk 9 (by decide)).1
     clear hk
     simp only [netE] at hQ ⊢
     simp only [h4, h5, h6, h7, h8, h9] at hQ ⊢
     clear h4 h5 h6 h7 h8 h9
     go_wp2_with fail
     refine (l1Below_any c _ _ (hb.keep HC6.out) ⟨by omega, by omega⟩).mono ?_; rintro e w7 ⟨i, hi, _, rfl, hb7⟩
     go_wp2
     exact hQ _ _ hb7 ⟨i, rfl, by omega⟩
    ·intro x w hb hk Q' hQ
     have h2 : x.v 2 = _ := (hk 2 (by decide)).1
     have h3 : x.v 3 = _ := (hk 3 (by decide)).1
     have h4 : x.v 4 = _ := (hk 4 (by decide)).1
     have h5 : x.v 5 = _ := (hk 5 (by decide)).1
     have h6 : x.v 6 = _ := (hk 6 (by decide)).1
     have h7 : x.v 7 = _ := (hk 7 (by decide)).1
     have h8 : x.v 8 = _ := (hk 8 (by decide)).1
     have h9 : x.v 9 = _ := (hk 9 (by decide)).1
     have h10 : ∃ i : Nat, (x.v 10) = .int .i64 i ∧ i ≤ 10 := (hk 10 (by decide)).1
     have s10 := (hk 10 (by decide)).2
     clear hk
     simp only [netE] at hQ ⊢
     simp only [h2, h3, h4, h5, h6, h7, h8, h9] at hQ ⊢
     clear h2 h3 h4 h5 h6 h7 h8 h9
     obtain ⟨i, e, hi⟩ := h10
     have hQ' := hQ (.int .i64 ((a : Int) + 1 + i)) w (Ck.refl _ _) ⟨a + 1 + i, by push_cast; rfl, by omega⟩
     rw [e] at hQ' ⊢
     go_wp2
     exact hQ'
    ·intro x w hb hk Q' hQ
     have h2 : x.v 2 = _ := (hk 2 (by decide)).1
     have h3 : x.v 3 = _ := (hk 3 (by decide)).1
     have h4 : x.v 4 = _ := (hk 4 (by decide)).1
     have h5 : x.v 5 = _ := (hk 5 (by decide)).1
     have h6 : x.v 6 = _ := (hk 6 (by decide)).1
     have h7 : x.v 7 = _ := (hk 7 (by decide)).1
     have h8 : x.v 8 = _ := (hk 8 (by decide)).1
     have h9 : x.v 9 = _ := (hk 9 (by decide)).1
     have h10 : ∃ i : Nat, (x.v 10) = .int .i64 i ∧ i ≤ 10 := (hk 10 (by decide)).1
     have h11 : ∃ i : Nat, (x.v 11) = .int .i64 i ∧ i ≤ 20 := (hk 11 (by decide)).1
     have s10 := (hk 10 (by decide)).2
     have s11 := (hk 11 (by decide)).2
     clear hk
     simp only [netE] at hQ ⊢
     simp only [h2, h3, h4, h5, h6, h7, h8, h9] at hQ ⊢
     clear h2 h3 h4 h5 h6 h7 h8 h9
     obtain ⟨i, e, hi⟩ := h11
     have hcw : c < w.heap.size := (hb.keep HC6.out).lt
     rw [e] at hQ ⊢
     go_wp2
     exact hQ _ _ (Ck.of_below (below_alloc _ _)) ⟨_, _, rfl, Blk.new _ _ _, hi, hcw⟩
    ·intro x w hb hk hiv hdj
     have h0 : x.v 0 = .pointer (some ⟨w2.heap.size + 1 + 1, 2, none⟩) := hk 0 (by decide)
     have h1 : x.v 1 = .slice C T.length d := hk 1 (by decide)
     have h2 : x.v 2 = .int .i64 a := hk 2 (by decide)
     have h3 : x.v 3 = .int .i64 ((a : Int) + 1) := hk 3 (by decide)
     have h4 : x.v 4 = .pointer (some ⟨c, 0, none⟩) := hk 4 (by decide)
     have h5 : x.v 5 = .pointer (some ⟨w2.heap.size + 1 + 1, 0, none⟩) := hk 5 (by decide)
     have h6 : x.v 6 = .int .i64 (1 + (r : Int)) := hk 6 (by decide)
     have h7 : x.v 7 = .int .i64 (1 + (r : Int) - 1) := hk 7 (by decide)
     have h8 : x.v 8 = .int .i64 a := hk 8 (by decide)
     have h9 : x.v 9 = .int .i64 (1 + (r : Int) - 1 - a) := hk 9 (by decide)
     have h10 : ∃ i : Nat, (x.v 10) = .int .i64 i ∧ i ≤ 10 := hk 10 (by decide)
     have h11 : ∃ i : Nat, (x.v 11) = .int .i64 i ∧ i ≤ 20 := hk 11 (by decide)
     have h12 : ∃ (g i : Nat), (x.v 12) = .slice (some ⟨g, 0, none⟩) 1 1 ∧ Blk w g 3 #[.int .i64 i] ∧ i ≤ 20 ∧ c < g := hk 12 (by decide)
     clear hk
     simp only [netE]
     simp only [List.drop_succ_cons, List.drop_zero, h0, h1, h2, h3, h4, h5, h6, h7, h8, h9]
     clear h0 h1 h2 h3 h4 h5 h6 h7 h8 h9
     obtain ⟨gn, i, e12, hN, hi, _⟩ := h12
     rw [e12]
     have hGw := HG6.out.ck hb hcl2 hgc
     have hfa : OwnI w w2.heap.size (.slice C T.length d) T := (hGw.2.1.1 (_, T) (by simp)).1
     refine wpList_appI (by rfl) (.tmp 49) (.tmp 60) (by rfl) w2.heap.size w.heap.size _ T (by rfl) hfa (some ⟨gn, 0, none⟩) 1 1 [(i : Int)] (by rfl) rfl (sl_one2 hN ⟨by omega, by omega⟩) (by simp; omega) hGw.2.2.2 ?_
     intro v3 w3 ho3 hg3 hv3
     obtain ⟨A4, c4, rfl, _⟩ := ho3.form
     obtain ⟨nA4, hnA4⟩ : ∃ z, (T ++ [(i : Int)]).length = z := ⟨_, rfl⟩
     rw [hnA4] at ho3 hv3 ⊢
     obtain ⟨hB3, hG3, hb3⟩ := hGw.setT ho3 hnA4.symm hg3 hv3
     have z1 := hB3.cell' (i := 2) rfl
     have fz := hB3.frozen
     obtain ⟨W4, hW4⟩ : ∃ z, w3.setCell ⟨w2.heap.size + 1 + 1, 2, none⟩ (.slice A4 nA4 c4) = z := ⟨_, rfl⟩
     rw [hW4] at hG3
     have hch : Chg (w2.heap.size + 1 + 1) (w2.heap.size + 1 + 1 + 1) w3 W4 := by rw [← hW4]; exact chg_set (Nat.le_refl _) (Nat.lt_succ_self _)
     have hbw3 := hb3.size
     have hlow : Below w2.heap.size w W4 := hb3.trans (hch.below (by omega) (by have := hGw.2.2.2; omega))
     have HB7 := Lib.hid ((HB6.out.trans hb).low hlow (by have := HB2.out.size; omega) hcl2)
     have HC7 := Lib.hid ((hb.keep HC6.out).below hlow hcl2)
     have HG7 := Lib.hid hG3
     have hT1 : (T ++ [(i : Int)]).length + (k - 1) ≤ 4 := by simp; omega
     have HT1 := Lib.hid hT1
     clear hnA4 hB3 hG3 hb3 ho3 hg3 hv3 hch hlow hfa hGw hN e12 hiv hdj hT1 hT
     go_wp2
     clear hW4 z1 fz
     go_roundw
     case rel => exact ⟨k - 1, c3, c4, A3, A4, _, _, by omega, by rw [show ((k - 1 : Nat) : Int) = (k : Int) - 1 by omega], HF1.out, HT1.out, HC7.out, HB7.out, HG7.out⟩
     case measure => simp [intOf]; omega
   ·have q1 := hG.1.cell' (i := 1) rfl
    have q2 := hG.1.cell' (i := 2) rfl
    have hne : w0.heap.size < w2.heap.size + 1 + 1 := by have := HB2.out.size; omega
    have hbz := hB.size
    have hlw := hG.2.2.2
    have hQq : QuivO wr w2.heap.size wr.heap.size (.agg #[.int .i64 (1 + (r : Int)), .slice A F.length cA, .slice C T.length d]) ⟨1 + (r : Int), F, T⟩ := hG.quiv
    have hs2 := HB2.out.size
    have k2 := KR.out.ck hB hcw
    have fr := k2.frozen
    have r0 := k2.cell' (i := 0) rfl
    have r1 := k2.cell' (i := 1) rfl
    have r2 := k2.cell' (i := 2) rfl
    have hc3 := ((chg_set (lo := w0.heap.size) (hi := w0.heap.size + 1) (w := wr) (p := ⟨w0.heap.size, 0, none⟩) (u := .int .i64 (1 + (r : Int))) (Nat.le_refl _) (Nat.lt_succ_self _)).trans (chg_set (p := ⟨w0.heap.size, 1, none⟩) (u := .slice A F.length cA) (Nat.le_refl _) (Nat.lt_succ_self _))).trans (chg_set (p := ⟨w0.heap.size, 2, none⟩) (u := .slice C T.length d) (Nat.le_refl _) (Nat.lt_succ_self _))
    have OF := Lib.hid (((hQq).chg hc3 (.inr (by omega))).wid (lo' := w0.heap.size) (hi' := wr.heap.size) (by omega) (Nat.le_refl _))
    have GS := Lib.hid ((G0.out.trans hB).low (lo := w0.heap.size) (hc3.below (Nat.le_refl _) (by omega)) (Nat.le_refl _) hcl)
    have HL := Lib.hid (show F.length ≤ 61 ∧ T.length ≤ 61 by omega)
    clear hc3 k2 hQq hG hB hC hF hT
    by_cases hk0 : 0 < k
    ·have hr0 : ¬ 0 < r := fun h => hgo ⟨hk0, h⟩
     clear hgo
     go_wp2
     exact bodyPost_ret (v := .agg #[.int .i64 (1 + (r : Int)), .slice A F.length cA, .slice C T.length d]) (by simp [results, go_sem, r0, r1, r2]) rfl ⟨_, ⟨1 + (r : Int), F, T⟩, rfl, by simpa using OF.out, HL.out.1, HL.out.2, GS.out⟩
    ·clear hgo
     go_wp2
     exact bodyPost_ret (v := .agg #[.int .i64 (1 + (r : Int)), .slice A F.length cA, .slice C T.length d]) (by simp [results, go_sem, r0, r1, r2]) rfl ⟨_, ⟨1 + (r : Int), F, T⟩, rfl, by simpa using OF.out, HL.out.1, HL.out.2, GS.out⟩
 · -- by name
  go_wp2_with fail
  refine (l6Names_any _).mono ?_; rintro e w2 ⟨g, cs, rfl, hg, kN, hcs, hb2⟩
  have hC2 := Lib.hid ((Ck.of_below (c := c) hb2).keep hC1.out)
  have HB2 := Lib.hid (HB1.out.trans (Ck.of_below hb2))
  have KN := Lib.hid kN
  have hgc : g ≠ c := by omega
  clear hb2 kN
  go_wp2_with fail
  refine (l1Below_any c 10 _ hC2.out ⟨by omega, by omega⟩).mono ?_; rintro e w3 ⟨r, hr, _, rfl, hb3⟩
  have hr10 : r < 12 := by omega
  obtain ⟨s, hs⟩ := hcs r hr10
  have n0 := (KN.out.ck hb3 hgc).cell' hs
  have hC3 := Lib.hid (hb3.keep hC2.out)
  have HB3 := Lib.hid (HB2.out.trans hb3)
  clear hb3 hcs hs
  go_wp2_with fail
  refine (namedQuiver_any s _).mono ?_; rintro e w4 ⟨v, b, q, rfl, hQ4, hf4, ht4, hb4⟩
  obtain ⟨A, cA, C, d, rfl⟩ := hQ4.form
  obtain ⟨W5, hW5⟩ : ∃ z, w4.alloc (.cells #[.int .i64 q.v, .slice A q.f.length cA, .slice C q.t.length d] 28) = z := ⟨_, rfl⟩
  have ga : Below w4.heap.size w4 W5 := by rw [← hW5]; exact below_alloc _ _
  have kq : Blk W5 w4.heap.size 28 #[.int .i64 q.v, .slice A q.f.length cA, .slice C q.t.length d] := by rw [← hW5]; exact Blk.new _ _ _
  have hb5 := HB3.out.trans ((Ck.of_below hb4).trans (Ck.of_below ga))
  have hQ5 := hQ4.below ga
  have q0 := kq.cell' (i := 0) rfl
  have q1 := kq.cell' (i := 1) rfl
  have q2 := kq.cell' (i := 2) rfl
  have hs3 := HB3.out.size
  have hs4 := hb4.size
  have hne : w0.heap.size < w4.heap.size := by omega
  have hsa := ga.size
  have k2 := KR.out.ck hb5 hcw
  have fr := k2.frozen
  have r0 := k2.cell' (i := 0) rfl
  have r1 := k2.cell' (i := 1) rfl
  have r2 := k2.cell' (i := 2) rfl
  have hc3 := ((chg_set (lo := w0.heap.size) (hi := w0.heap.size + 1) (w := W5) (p := ⟨w0.heap.size, 0, none⟩) (u := .int .i64 q.v) (Nat.le_refl _) (Nat.lt_succ_self _)).trans (chg_set (p := ⟨w0.heap.size, 1, none⟩) (u := .slice A q.f.length cA) (Nat.le_refl _) (Nat.lt_succ_self _))).trans (chg_set (p := ⟨w0.heap.size, 2, none⟩) (u := .slice C q.t.length d) (Nat.le_refl _) (Nat.lt_succ_self _))
  have hsz := (hb5).size
  have OF := Lib.hid ((hQ5).chg hc3 (.inr (by omega)))
  have GS := Lib.hid ((G0.out.trans hb5).low (lo := w0.heap.size) (hc3.below (Nat.le_refl _) (by omega)) (Nat.le_refl _) hcl)
  have HL := Lib.hid (And.intro hf4 ht4)
  clear hc3 hf4 ht4 k2 kq ga hb4 hQ4 hQ5 hb5 n0
  go_wp2
  clear hW5
  exact bodyPost_ret (v := .agg #[.int .i64 q.v, .slice A q.f.length cA, .slice C q.t.length d]) (by simp [results, go_sem, r0, r1, r2]) rfl ⟨_, q, rfl, by have := OF.out.wid (lo' := w0.heap.size) (hi' := W5.heap.size) (by omega) (by omega); simpa using this, HL.out.1, HL.out.2, GS.out⟩
def StrP (v : Value) : Prop := ∃ s : ByteArray, v = .string s
def IntP (v : Value) : Prop := ∃ x : Int, v = .int .i64 x ∧ I64 x
set_option maxHeartbeats 3200000 in
set_option maxRecDepth 100000 in
theorem l6Any_any (c : Nat) (w0 : World) (hc : Cur w0 c) :
  Calls Tryz.prog 96 #[.pointer (some ⟨c, 0, none⟩)] w0 fun e w' => ∃ v q, e = .returned v ∧ QuivO w' w0.heap.size w'.heap.size v q ∧ q.f.length ≤ 62 ∧ q.t.length ≤ 62 ∧ Ck c w0 w' := by
 have hcl := hc.lt
 obtain ⟨W, hW⟩ : ∃ W, W = w0.alloc (.cells #[.int .i64 0, .slice none 0 0, .slice none 0 0] 28) := ⟨_, rfl⟩
 have g0 : Ck c w0 W := by rw [hW]; exact Ck.of_below (below_alloc _ _)
 have kR : Blk W w0.heap.size 28 #[.int .i64 0, .slice none 0 0, .slice none 0 0] := by rw [hW]; exact Blk.new _ _ _
 have sW : W.heap.size = w0.heap.size + 1 := by rw [hW]; simp
 have hcw : w0.heap.size ≠ c := by omega
 have KR := Lib.hid kR
 have G0 := Lib.hid g0
 have HC := Lib.hid hc
 clear kR hc
 go_enter Tryz.func96, Tryz.ntmps96
 go_wp2_with fail
 rw [← hW]; clear hW
 refine (l6Acyclic_any c _ (g0.keep HC.out)).mono ?_; rintro e w1 ⟨v, ⟨V, F, T⟩, rfl, hQ1, hF, hT, hb1⟩
 obtain ⟨A, cA, C, d, rfl⟩ := hQ1.form
 simp only at hF hT hQ1 ⊢
 obtain ⟨W2, hW2⟩ : ∃ z, w1.alloc (.cells #[.int .i64 V, .slice A F.length cA, .slice C T.length d] 28) = z := ⟨_, rfl⟩
 have ga : Below w1.heap.size w1 W2 := by rw [← hW2]; exact below_alloc _ _
 obtain ⟨gq, hgq⟩ : ∃ z, w1.heap.size = z := ⟨_, rfl⟩
 have kq : Blk W2 gq 28 #[.int .i64 V, .slice A F.length cA, .slice C T.length d] := by rw [← hW2, ← hgq]; exact Blk.new _ _ _
 have s1 := hb1.size
 have sa := ga.size
 have hGQ : GQ W2 W.heap.size gq V A cA C d F T := by
  obtain ⟨a, b, e, hFm, hV⟩ := hQ1
  simp only [Value.agg.injEq, Array.mk.injEq, List.cons.injEq, and_true, true_and] at e
  obtain ⟨rfl, rfl⟩ := e
  exact ⟨kq, (hFm.below ga).mono (Nat.le_refl _) sa, hV, by omega⟩
 have hB2 := hb1.trans (Ck.of_below ga)
 have HC2 := Lib.hid (hB2.keep (g0.keep HC.out))
 have HG2 := Lib.hid hGQ
 have HB2 := Lib.hid hB2
 have hclW : c < W.heap.size := by omega
 have hgc : gq ≠ c := by omega
 have hg0 : w0.heap.size < gq := by omega
 clear hQ1 hb1 ga kq hGQ hB2 g0
 go_wp2_with fail
 clear hW2 hgq
 refine (l1Below_any c 14 _ HC2.out ⟨by omega, by omega⟩).mono ?_; rintro e w3 ⟨r, hr, hr2, rfl, hb3⟩
 have hC3 := hb3.keep HC2.out
 have hG3 := HG2.out.ck hb3 hclW hgc
 have hB3 := HB2.out.trans hb3
 have hsz3 := hb3.size
 clear hb3 HC2 HG2 HB2
 by_cases h0 : r = 0
 ·subst h0
  have HC3 := Lib.hid hC3
  have HG3 := Lib.hid hG3
  have HB3 := Lib.hid hB3
  clear hC3 hG3 hB3 hF hT
  go_wp2_with fail
  obtain ⟨W4, hW4⟩ : ∃ z, w3.alloc (.cells #[.string ⟨#[108, 111, 111, 112]⟩, .string ⟨#[99, 105, 114, 99, 108, 101]⟩] 9) = z := ⟨_, rfl⟩
  have gb : Below w3.heap.size w3 W4 := by rw [← hW4]; exact below_alloc _ _
  have kS : Blk W4 w3.heap.size 9 #[.string ⟨#[108, 111, 111, 112]⟩, .string ⟨#[99, 105, 114, 99, 108, 101]⟩] := by rw [← hW4]; exact Blk.new _ _ _
  rw [hW4]
  refine (l1Pick_any StrP c w3.heap.size 2 2 _ _ ((Ck.of_below (c := c) gb).keep HC3.out) kS (by omega) (by omega) (by omega) (fun i hi => ?_) fun v h => h).mono ?_
  ·match i, hi with
   | 0, _ => exact ⟨_, rfl, _, rfl⟩
   | 1, _ => exact ⟨_, rfl, _, rfl⟩
   | i + 2, h => omega
  rintro e w5 ⟨v, ⟨s, rfl⟩, rfl, hb5⟩
  have hB5 := (HB3.out.trans (Ck.of_below gb)).trans hb5
  have hG5 := (HG3.out.below gb).ck hb5 hclW hgc
  have HB5 := Lib.hid hB5
  have HG5 := Lib.hid hG5
  have hs5 := hb5.size
  have hs4 := gb.size
  clear hW4 gb kS hb5 hB5 hG5
  go_wp2_with fail
  refine (namedQuiver_any s _).mono ?_; rintro e w6 ⟨v6, b6, ⟨V6, F6, T6⟩, rfl, hQ6, hf6, ht6, hb6⟩
  obtain ⟨A6, c6, C6, d6, rfl⟩ := hQ6.form
  simp only at hf6 ht6 hQ6 ⊢
  have hG6 := HG5.out.below hb6
  have hB6 := HB5.out.trans (Ck.of_below hb6)
  have fq := hG6.1.frozen
  have y0 := hG6.1.cell' (i := 0) rfl
  have y1 := hG6.1.cell' (i := 1) rfl
  have y2 := hG6.1.cell' (i := 2) rfl
  obtain ⟨W7, hW7⟩ : ∃ z, ((w6.setCell ⟨gq, 0, none⟩ (.int .i64 V6)).setCell ⟨gq, 1, none⟩ (.slice A6 F6.length c6)).setCell ⟨gq, 2, none⟩ (.slice C6 T6.length d6) = z := ⟨_, rfl⟩
  have hch : Chg gq (gq + 1) w6 W7 := by rw [← hW7]; exact ((chg_set (lo := gq) (hi := gq + 1) (w := w6) (p := ⟨gq, 0, none⟩) (u := .int .i64 V6) (Nat.le_refl _) (Nat.lt_succ_self _)).trans (chg_set (p := ⟨gq, 1, none⟩) (u := .slice A6 F6.length c6) (Nat.le_refl _) (Nat.lt_succ_self _))).trans (chg_set (p := ⟨gq, 2, none⟩) (u := .slice C6 T6.length d6) (Nat.le_refl _) (Nat.lt_succ_self _))
  have hk7 : Blk W7 gq 28 #[.int .i64 V6, .slice A6 F6.length c6, .slice C6 T6.length d6] := by rw [← hW7]; exact ((hG6.1.set_ 0 _).set_ 1 _).set_ 2 _
  have hs6 := hb6.size
  have hs7 := hch.size
  have hgq5 : gq < w5.heap.size := HG5.out.1.lt
  have hG : GQ W7 w5.heap.size gq V6 A6 c6 C6 d6 F6 T6 := by
   obtain ⟨a, b, e, hFm, hV⟩ := hQ6.chg hch (.inr (by omega))
   simp only [Value.agg.injEq, Array.mk.injEq, List.cons.injEq, and_true, true_and] at e
   obtain ⟨rfl, rfl⟩ := e
   exact ⟨hk7, hFm.mono (Nat.le_refl _) hs7, hV, by omega⟩
  have hB : Ck c W W7 := hB6.low (lo := W.heap.size) (hch.below (by omega) (by omega)) (Nat.le_refl _) hclW
  have HL := Lib.hid (show F6.length ≤ 62 ∧ T6.length ≤ 62 by omega)
  have HG := Lib.hid hG
  have HB := Lib.hid hB
  clear hk7 hch hQ6 hG6 hB6 hb6 hf6 ht6 hG hB
  have hG := HG.out
  have hB := HB.out
  have q0 := hG.1.cell' (i := 0) rfl
  have q1 := hG.1.cell' (i := 1) rfl
  have q2 := hG.1.cell' (i := 2) rfl
  have hbz := hB.size
  have hlw := hG.2.2.2
  have hQq := hG.quiv
  have k2 := KR.out.ck hB hcw
  have fr := k2.frozen
  have r0 := k2.cell' (i := 0) rfl
  have r1 := k2.cell' (i := 1) rfl
  have r2 := k2.cell' (i := 2) rfl
  have hc3 := ((chg_set (lo := w0.heap.size) (hi := w0.heap.size + 1) (w := W7) (p := ⟨w0.heap.size, 0, none⟩) (u := .int .i64 V6) (Nat.le_refl _) (Nat.lt_succ_self _)).trans (chg_set (p := ⟨w0.heap.size, 1, none⟩) (u := .slice A6 (F6).length c6) (Nat.le_refl _) (Nat.lt_succ_self _))).trans (chg_set (p := ⟨w0.heap.size, 2, none⟩) (u := .slice C6 (T6).length d6) (Nat.le_refl _) (Nat.lt_succ_self _))
  have OF := Lib.hid ((hQq.chg hc3 (.inr (by omega))).wid (lo' := w0.heap.size) (hi' := W7.heap.size) (by omega) (Nat.le_refl _))
  have GS := Lib.hid ((G0.out.trans hB).low (lo := w0.heap.size) (hc3.below (Nat.le_refl _) (by omega)) (Nat.le_refl _) hcl)
  clear hc3 k2 hQq hG hB
  go_wp2
  clear hW7
  exact bodyPost_ret (v := .agg #[.int .i64 V6, .slice A6 (F6).length c6, .slice C6 (T6).length d6]) (by simp [results, go_sem, r0, r1, r2]) rfl ⟨_, ⟨V6, F6, T6⟩, rfl, by simpa using OF.out, HL.out.1, HL.out.2, GS.out⟩
 ·by_cases h1 : r = 1
  ·subst h1
   have HC3 := Lib.hid hC3
   have HG3 := Lib.hid hG3
   have HB3 := Lib.hid hB3
   clear hC3 hG3 hB3
   go_wp2_with fail
   obtain ⟨W4, hW4⟩ : ∃ z, w3.alloc (.cells #[.int .i64 0, .int .i64 6, .int .i64 (-1), .int .i64 2] 3) = z := ⟨_, rfl⟩
   have gb : Below w3.heap.size w3 W4 := by rw [← hW4]; exact below_alloc _ _
   have kS : Blk W4 w3.heap.size 3 #[.int .i64 0, .int .i64 6, .int .i64 (-1), .int .i64 2] := by rw [← hW4]; exact Blk.new _ _ _
   rw [hW4]
   refine (l1PickInt_any IntP c w3.heap.size 4 4 _ _ ((Ck.of_below (c := c) gb).keep HC3.out) kS (by omega) (by omega) (by omega) (fun i hi => ?_) fun v h => ⟨_, h.choose_spec.1⟩).mono ?_
   ·match i, hi with
    | 0, _ => exact ⟨_, rfl, _, rfl, by decide, by decide⟩
    | 1, _ => exact ⟨_, rfl, _, rfl, by decide, by decide⟩
    | 2, _ => exact ⟨_, rfl, _, rfl, by decide, by decide⟩
    | 3, _ => exact ⟨_, rfl, _, rfl, by decide, by decide⟩
    | i + 4, h => omega
   rintro e w5 ⟨v, ⟨x, rfl, hx⟩, rfl, hb5⟩
   have hB5 := (HB3.out.trans (Ck.of_below gb)).trans hb5
   have hG5 := (HG3.out.below gb).ck hb5 hclW hgc
   have fq := hG5.1.frozen
   have y0 := hG5.1.cell' (i := 0) rfl
   obtain ⟨W7, hW7⟩ : ∃ z, w5.setCell ⟨gq, 0, none⟩ (.int .i64 x) = z := ⟨_, rfl⟩
   have hch : Chg gq (gq + 1) w5 W7 := by rw [← hW7]; exact chg_set (lo := gq) (hi := gq + 1) (w := w5) (p := ⟨gq, 0, none⟩) (u := .int .i64 x) (Nat.le_refl _) (Nat.lt_succ_self _)
   have hG := hG5.setV hx
   rw [hW7] at hG
   have hW5 := hG5.2.2.2
   have hB : Ck c W W7 := hB5.low (lo := W.heap.size) (hch.below (by omega) (by omega)) (Nat.le_refl _) hclW
   have HL := Lib.hid (show F.length ≤ 62 ∧ T.length ≤ 62 by omega)
   clear hch hG5 hB5 hb5 gb kS hW4 hF hT
   have q0 := hG.1.cell' (i := 0) rfl
   have q1 := hG.1.cell' (i := 1) rfl
   have q2 := hG.1.cell' (i := 2) rfl
   have hbz := hB.size
   have hlw := hG.2.2.2
   have hQq := hG.quiv
   have k2 := KR.out.ck hB hcw
   have fr := k2.frozen
   have r0 := k2.cell' (i := 0) rfl
   have r1 := k2.cell' (i := 1) rfl
   have r2 := k2.cell' (i := 2) rfl
   have hc3 := ((chg_set (lo := w0.heap.size) (hi := w0.heap.size + 1) (w := W7) (p := ⟨w0.heap.size, 0, none⟩) (u := .int .i64 x) (Nat.le_refl _) (Nat.lt_succ_self _)).trans (chg_set (p := ⟨w0.heap.size, 1, none⟩) (u := .slice A (F).length cA) (Nat.le_refl _) (Nat.lt_succ_self _))).trans (chg_set (p := ⟨w0.heap.size, 2, none⟩) (u := .slice C (T).length d) (Nat.le_refl _) (Nat.lt_succ_self _))
   have OF := Lib.hid ((hQq.chg hc3 (.inr (by omega))).wid (lo' := w0.heap.size) (hi' := W7.heap.size) (by omega) (Nat.le_refl _))
   have GS := Lib.hid ((G0.out.trans hB).low (lo := w0.heap.size) (hc3.below (Nat.le_refl _) (by omega)) (Nat.le_refl _) hcl)
   clear hc3 k2 hQq hG hB
   go_wp2
   clear hW7
   exact bodyPost_ret (v := .agg #[.int .i64 x, .slice A (F).length cA, .slice C (T).length d]) (by simp [results, go_sem, r0, r1, r2]) rfl ⟨_, ⟨x, F, T⟩, rfl, by simpa using OF.out, HL.out.1, HL.out.2, GS.out⟩
  ·by_cases h2 : r = 2
   ·subst h2
    have HC3 := Lib.hid hC3
    have HG3 := Lib.hid hG3
    have HB3 := Lib.hid hB3
    have GB3 := Lib.hid hG3.1
    clear hC3 hG3 hB3
    go_wp2
    obtain ⟨wx, hwx⟩ : ∃ z, z = w3 := ⟨_, rfl⟩
    subst hwx
    refine wp_region_netK (c) (by kernel_rfl) [.eq (.pointer (some ⟨gq, 1, none⟩)), .eq (.slice A F.length cA), .eq (.pointer (some ⟨c, 0, none⟩)), rel 3 (fun u lo hi w => ∃ i : Nat, u = .int .i64 i ∧ i ≤ 10), rel 4 (fun u lo hi w => ∃ y : Int, u = .int .i64 y ∧ I64 y), rel 5 (fun u lo hi w => ∃ (g : Nat) (y : Int), u = .slice (some ⟨g, 0, none⟩) 1 1 ∧ Blk w g 3 #[.int .i64 y] ∧ I64 y ∧ c < g)] [[], [0], [], [2], [2, 3], [2, 3, 4], [0, 1, 2, 3, 4, 5], [0, 1, 2, 3, 4, 5, 6], [0, 1, 2, 3, 4, 5, 6, 7]] 6 (by kernel_rfl) ⟨trivial, trivial, trivial, rel_stableK (fun u lo hi w w' h hb => h), rel_stableK (fun u lo hi w w' h hb => h), rel_stableK (fun u lo hi w w' ⟨g, i, e, h, h2, h3⟩ hb => ⟨g, i, e, h.ck hb (by omega), h2, h3⟩), trivial⟩ ⟨?_, ?_, ?_, ?_, ?_, ?_, trivial⟩ ?_
    ·intro x w hb hk Q' hQ
     clear hk
     simp only [netE] at hQ ⊢
     go_wp2
     exact hQ (.pointer (some ⟨gq, 1, none⟩)) _ (Ck.refl _ _) rfl
    ·intro x w hb hk Q' hQ
     have h0 : x.v 0 = _ := (hk 0 (by decide)).1
     clear hk
     simp only [netE] at hQ ⊢
     simp only [h0] at hQ ⊢
     clear h0
     have z := (GB3.out.ck hb hgc).cell' (i := 1) rfl
     go_wp2
     exact hQ (.slice A F.length cA) _ (Ck.refl _ _) rfl
    ·intro x w hb hk Q' hQ
     clear hk
     simp only [netE] at hQ ⊢
     go_wp2
     exact hQ (.pointer (some ⟨c, 0, none⟩)) _ (Ck.refl _ _) rfl
    ·intro x w hb hk Q' hQ
     have h2 : x.v 2 = _ := (hk 2 (by decide)).1
     clear hk
     simp only [netE] at hQ ⊢
     simp only [h2] at hQ ⊢
     clear h2
     go_wp2_with fail
     refine (l1Below_any c 6 _ (hb.keep HC3.out) ⟨by omega, by omega⟩).mono ?_; rintro e w7 ⟨i, hi, _, rfl, hb7⟩
     go_wp2
     exact hQ _ _ hb7 ⟨i, rfl, by omega⟩
    ·intro x w hb hk Q' hQ
     have h2 : x.v 2 = _ := (hk 2 (by decide)).1
     have h3 : ∃ i : Nat, (x.v 3) = .int .i64 i ∧ i ≤ 10 := (hk 3 (by decide)).1
     have s3 := (hk 3 (by decide)).2
     clear hk
     simp only [netE] at hQ ⊢
     simp only [h2] at hQ ⊢
     clear h2
     obtain ⟨i, e, hi⟩ := h3
     have hQ' := hQ (.int .i64 ((i : Int) - 1)) w (Ck.refl _ _) ⟨_, rfl, by omega, by omega⟩
     rw [e] at hQ' ⊢
     go_wp2
     exact hQ'
    ·intro x w hb hk Q' hQ
     have h2 : x.v 2 = _ := (hk 2 (by decide)).1
     have h3 : ∃ i : Nat, (x.v 3) = .int .i64 i ∧ i ≤ 10 := (hk 3 (by decide)).1
     have h4 : ∃ y : Int, (x.v 4) = .int .i64 y ∧ I64 y := (hk 4 (by decide)).1
     have s3 := (hk 3 (by decide)).2
     have s4 := (hk 4 (by decide)).2
     clear hk
     simp only [netE] at hQ ⊢
     simp only [h2] at hQ ⊢
     clear h2
     obtain ⟨i, e, hi⟩ := h4
     have hcw : c < w.heap.size := (hb.keep HC3.out).lt
     rw [e] at hQ ⊢
     go_wp2
     exact hQ _ _ (Ck.of_below (below_alloc _ _)) ⟨_, _, rfl, Blk.new _ _ _, hi, hcw⟩
    ·intro x w hb hk hiv hdj
     have h0 : x.v 0 = .pointer (some ⟨gq, 1, none⟩) := hk 0 (by decide)
     have h1 : x.v 1 = .slice A F.length cA := hk 1 (by decide)
     have h2 : x.v 2 = .pointer (some ⟨c, 0, none⟩) := hk 2 (by decide)
     have h3 : ∃ i : Nat, (x.v 3) = .int .i64 i ∧ i ≤ 10 := hk 3 (by decide)
     have h4 : ∃ y : Int, (x.v 4) = .int .i64 y ∧ I64 y := hk 4 (by decide)
     have h5 : ∃ (g : Nat) (y : Int), (x.v 5) = .slice (some ⟨g, 0, none⟩) 1 1 ∧ Blk w g 3 #[.int .i64 y] ∧ I64 y ∧ c < g := hk 5 (by decide)
     clear hk
     simp only [netE]
     simp only [List.drop_succ_cons, List.drop_zero, h0, h1, h2]
     clear h0 h1 h2
     obtain ⟨gn, y, e5, hN, hy, _⟩ := h5
     rw [e5]
     have hGw := HG3.out.ck hb hclW hgc
     have hfa : OwnI w W.heap.size (.slice A F.length cA) F := (hGw.2.1.1 (_, F) (by simp)).1
     refine wpList_appI (by rfl) (.tmp 26) (.tmp 30) (by rfl) W.heap.size w.heap.size _ F (by rfl) hfa (some ⟨gn, 0, none⟩) 1 1 [y] (by rfl) rfl (sl_one2 hN hy) (by simp; omega) hGw.2.2.2 ?_
     intro v3 w4 ho3 hg3 hv3
     obtain ⟨A4, c4, rfl, _⟩ := ho3.form
     obtain ⟨F4, hF4⟩ : ∃ z, F ++ [y] = z := ⟨_, rfl⟩
     have hFl : F4.length ≤ 62 := by rw [← hF4]; simp; omega
     rw [hF4] at ho3 hv3 ⊢
     obtain ⟨hB4, hG4, hb4⟩ := hGw.setF ho3 rfl hg3 hv3
     have fz := hB4.frozen
     have z1 := hB4.cell' (i := 1) rfl
     obtain ⟨W7, hW7⟩ : ∃ z, w4.setCell ⟨gq, 1, none⟩ (.slice A4 F4.length c4) = z := ⟨_, rfl⟩
     rw [hW7] at hG4
     have hch : Chg gq (gq + 1) w4 W7 := by rw [← hW7]; exact chg_set (lo := gq) (hi := gq + 1) (w := w4) (p := ⟨gq, 1, none⟩) (u := .slice A4 F4.length c4) (Nat.le_refl _) (Nat.lt_succ_self _)
     have hbw4 := hb4.size
     have hGs := hGw.2.2.2
     have hlow : Below W.heap.size w W7 := hb4.trans (hch.below (by omega) (by omega))
     have hB : Ck c W W7 := (HB3.out.trans hb).low (lo := W.heap.size) hlow (Nat.le_refl _) hclW
     have hG := hG4
     have HL := Lib.hid (show F4.length ≤ 62 ∧ T.length ≤ 62 by omega)
     clear hF4 hB4 hG4 hb4 ho3 hg3 hv3 hch hlow hfa hGw hN e5 hiv hdj hF hFl
     have q0 := hG.1.cell' (i := 0) rfl
     have q1 := hG.1.cell' (i := 1) rfl
     have q2 := hG.1.cell' (i := 2) rfl
     have hbz := hB.size
     have hlw := hG.2.2.2
     have hQq := hG.quiv
     have k2 := KR.out.ck hB hcw
     have fr := k2.frozen
     have r0 := k2.cell' (i := 0) rfl
     have r1 := k2.cell' (i := 1) rfl
     have r2 := k2.cell' (i := 2) rfl
     have hc3 := ((chg_set (lo := w0.heap.size) (hi := w0.heap.size + 1) (w := W7) (p := ⟨w0.heap.size, 0, none⟩) (u := .int .i64 V) (Nat.le_refl _) (Nat.lt_succ_self _)).trans (chg_set (p := ⟨w0.heap.size, 1, none⟩) (u := .slice A4 (F4).length c4) (Nat.le_refl _) (Nat.lt_succ_self _))).trans (chg_set (p := ⟨w0.heap.size, 2, none⟩) (u := .slice C (T).length d) (Nat.le_refl _) (Nat.lt_succ_self _))
     have OF := Lib.hid ((hQq.chg hc3 (.inr (by omega))).wid (lo' := w0.heap.size) (hi' := W7.heap.size) (by omega) (Nat.le_refl _))
     have GS := Lib.hid ((G0.out.trans hB).low (lo := w0.heap.size) (hc3.below (Nat.le_refl _) (by omega)) (Nat.le_refl _) hcl)
     clear hc3 k2 hQq hG hB
     go_wp2
     clear hW7
     exact bodyPost_ret (v := .agg #[.int .i64 V, .slice A4 (F4).length c4, .slice C (T).length d]) (by simp [results, go_sem, r0, r1, r2]) rfl ⟨_, ⟨V, F4, T⟩, rfl, by simpa using OF.out, HL.out.1, HL.out.2, GS.out⟩
   ·have hr0 : (r : Int) ≠ 0 := by omega
    have hr1 : (r : Int) ≠ 1 := by omega
    have hr22 : (r : Int) ≠ 2 := by omega
    have hG := hG3
    have hB := hB3
    have HL := Lib.hid (show F.length ≤ 62 ∧ T.length ≤ 62 by omega)
    clear hG3 hB3 hF hT hC3
    have q0 := hG.1.cell' (i := 0) rfl
    have q1 := hG.1.cell' (i := 1) rfl
    have q2 := hG.1.cell' (i := 2) rfl
    have hbz := hB.size
    have hlw := hG.2.2.2
    have hQq := hG.quiv
    have k2 := KR.out.ck hB hcw
    have fr := k2.frozen
    have r0 := k2.cell' (i := 0) rfl
    have r1 := k2.cell' (i := 1) rfl
    have r2 := k2.cell' (i := 2) rfl
    have hc3 := ((chg_set (lo := w0.heap.size) (hi := w0.heap.size + 1) (w := w3) (p := ⟨w0.heap.size, 0, none⟩) (u := .int .i64 V) (Nat.le_refl _) (Nat.lt_succ_self _)).trans (chg_set (p := ⟨w0.heap.size, 1, none⟩) (u := .slice A (F).length cA) (Nat.le_refl _) (Nat.lt_succ_self _))).trans (chg_set (p := ⟨w0.heap.size, 2, none⟩) (u := .slice C (T).length d) (Nat.le_refl _) (Nat.lt_succ_self _))
    have OF := Lib.hid ((hQq.chg hc3 (.inr (by omega))).wid (lo' := w0.heap.size) (hi' := w3.heap.size) (by omega) (Nat.le_refl _))
    have GS := Lib.hid ((G0.out.trans hB).low (lo := w0.heap.size) (hc3.below (Nat.le_refl _) (by omega)) (Nat.le_refl _) hcl)
    clear hc3 k2 hQq hG hB
    go_wp2
    exact bodyPost_ret (v := .agg #[.int .i64 V, .slice A (F).length cA, .slice C (T).length d]) (by simp [results, go_sem, r0, r1, r2]) rfl ⟨_, ⟨V, F, T⟩, rfl, by simpa using OF.out, HL.out.1, HL.out.2, GS.out⟩
structure Filt where
 stages : Int
 birth : List Int
 ends : List (List Int)
deriving DecidableEq
def Filt.size (f : Filt) : Nat := f.birth.length + szSS f.ends
def FiR (w : World) (B : Nat) (val : Value) (f : Filt) : Prop := ∃ a b, val = .agg #[.int .i64 f.stages, a, b] ∧ SlI w B a f.birth ∧ SlII w B b f.ends ∧ I64 f.stages
theorem FiR.next {w w' : World} {v : Value} {q : Filt} (hb : Below w.heap.size w w') (h : FiR w w.heap.size v q) : FiR w' w'.heap.size v q := by
 obtain ⟨a, b, e, h1, h2, h3⟩ := h
 exact ⟨a, b, e, SlI.next hb h1, SlII.next hb h2, h3⟩
theorem FiR.below {w w' : World} {B : Nat} {v : Value} {q : Filt} (hb : Below B w w') (h : FiR w B v q) : FiR w' B v q := by
 obtain ⟨a, b, e, h1, h2, h3⟩ := h
 exact ⟨a, b, e, SlI.below hb h1, SlII.below hb h2, h3⟩
theorem FiR.more {w : World} {B B' : Nat} {v : Value} {q : Filt} (hB : B ≤ B') (h : FiR w B v q) : FiR w B' v q := by
 obtain ⟨a, b, e, h1, h2, h3⟩ := h
 exact ⟨a, b, e, SlI.more hB h1, SlII.more hB h2, h3⟩
theorem FiR.chg {w w' : World} {B lo hi : Nat} {v : Value} {q : Filt} (h : FiR w B v q) (hc : Chg lo hi w w') (hB : B ≤ lo) (hs : B ≤ w.heap.size) : FiR w' B v q := FiR.below (hc.below hB hs) h
theorem FiR.open_ {w : World} {B : Nat} {v : Value} {q : Filt} (h : FiR w B v q) : ∃ A c C d, v = .agg #[.int .i64 q.stages, .slice A q.birth.length c, .slice C q.ends.length d] ∧ SlI w B (.slice A q.birth.length c) q.birth ∧ SlII w B (.slice C q.ends.length d) q.ends ∧ I64 q.stages ∧ q.birth.length ≤ 17592186044416 ∧ q.ends.length ≤ 17592186044416 := by
 obtain ⟨a, b, rfl, h1, h2, h3⟩ := h
 obtain ⟨A, c, rfl, _, _, h4, h1⟩ := h1.open_
 obtain ⟨C, d, rfl, _, _, h5, h2⟩ := h2.open_
 exact ⟨A, c, C, d, rfl, h1, h2, h3, h4, h5⟩
theorem FiR.form {w : World} {B : Nat} {v : Value} {q : Filt} (h : FiR w B v q) : ∃ A c C d, v = .agg #[.int .i64 q.stages, .slice A q.birth.length c, .slice C q.ends.length d] := by
 obtain ⟨A, c, C, d, e, _⟩ := h.open_
 exact ⟨A, c, C, d, e⟩
theorem FiR.lens {w : World} {B : Nat} {v : Value} {q : Filt} (h : FiR w B v q) : q.birth.length ≤ 17592186044416 ∧ q.ends.length ≤ 17592186044416 := by
 obtain ⟨A, c, C, d, e, _, _, _, h1, h2⟩ := h.open_
 exact ⟨h1, h2⟩
def FiO (w : World) (lo hi : Nat) (val : Value) (f : Filt) : Prop := ∃ a b vs, val = .agg #[.int .i64 f.stages, a, b] ∧ OutO w lo hi b vs ∧ vs.length = f.ends.length ∧ Fam w lo hi ([(a, f.birth)] ++ vs.zip f.ends) ∧ I64 f.stages
theorem FiO.rd {w : World} {lo hi : Nat} {v : Value} {q : Filt} (h : FiO w lo hi v q) : FiR w w.heap.size v q := by
 obtain ⟨a, b, vs, e, h1, h2, h3, h4⟩ := h
 exact ⟨a, b, e, (h3.1 (a, q.birth) (by simp)).rd, h1.rd h2 fun p hp => (h3.1 p (by simp [hp])).rd, h4⟩
theorem FiO.form {w : World} {lo hi : Nat} {v : Value} {q : Filt} (h : FiO w lo hi v q) : ∃ A c C d, v = .agg #[.int .i64 q.stages, .slice A q.birth.length c, .slice C q.ends.length d] := h.rd.form
theorem FiO.chg {w w' : World} {lo hi lo' hi' : Nat} {v : Value} {q : Filt} (h : FiO w lo hi v q) (hc : Chg lo' hi' w w') (hd : hi ≤ lo' ∨ hi' ≤ lo) : FiO w' lo hi v q := by
 obtain ⟨a, b, vs, e, h1, h2, h3, h4⟩ := h
 exact ⟨a, b, vs, e, h1.chg hc hd, h2, h3.chg hc hd, h4⟩
theorem FiO.below {w w' : World} {lo hi : Nat} {v : Value} {q : Filt} (h : FiO w lo hi v q) (hb : Below w.heap.size w w') : FiO w' lo hi v q := by
 obtain ⟨a, b, vs, e, h1, h2, h3, h4⟩ := h
 exact ⟨a, b, vs, e, h1.below hb, h2, h3.below hb, h4⟩
def FiO.mk (k : Int) (q : Filt) : Filt := ⟨q.stages, mkI k q.birth.length, mkSS (k + q.birth.length) q.ends⟩
def isFld (p : Int) : Bool := decide (p = 2 ∨ p = 3 ∨ p = 5)
theorem isFld_t {p : Int} : isFld p = true ↔ p = 2 ∨ p = 3 ∨ p = 5 := by simp [isFld]
theorem isFld_f {p : Int} : isFld p = false ↔ p ≠ 2 ∧ p ≠ 3 ∧ p ≠ 5 := by simp [isFld]
theorem isFld_r {p : Int} (h : isFld p = true) : 2 ≤ p ∧ p ≤ 5 := by have := isFld_t.1 h; omega
def isVec (p : Int) (v : List Int) : Bool := isFld p && decide (v.length ≤ 64) && allR v 0 (p - 1)
theorem isVec_t {p : Int} {v : List Int} : isVec p v = true ↔ isFld p = true ∧ v.length ≤ 64 ∧ ∀ x ∈ v, 0 ≤ x ∧ x ≤ p - 1 := by
 simp only [isVec, Bool.and_eq_true, decide_eq_true_eq, allR_t, and_assoc]
def isMat (p : Int) (m : Mx) : Bool := inR m.r 0 8 && inR m.c 0 8 && decide ((m.a.length : Int) = m.r * m.c) && isVec p m.a
theorem isMat_t {p : Int} {m : Mx} : isMat p m = true ↔ (0 ≤ m.r ∧ m.r ≤ 8) ∧ (0 ≤ m.c ∧ m.c ≤ 8) ∧ (m.a.length : Int) = m.r * m.c ∧ isVec p m.a = true := by
 simp only [isMat, Bool.and_eq_true, inR_t, decide_eq_true_eq, and_assoc]
def areDims (q : Qv) (d : List Int) : Bool := isQ q && decide ((d.length : Int) = q.v) && allR d 0 4 && decide (d.sum ≤ 8)
theorem areDims_t {q : Qv} {d : List Int} : areDims q d = true ↔ isQ q = true ∧ (d.length : Int) = q.v ∧ (∀ x ∈ d, 0 ≤ x ∧ x ≤ 4) ∧ d.sum ≤ 8 := by
 simp only [areDims, Bool.and_eq_true, decide_eq_true_eq, allR_t, and_assoc]
theorem mul_bd {a b : Int} (ha : 0 ≤ a ∧ a ≤ 8) (hb : 0 ≤ b ∧ b ≤ 8) : 0 ≤ a * b ∧ a * b ≤ 64 := by
 obtain ⟨n, rfl⟩ := Int.eq_ofNat_of_zero_le ha.1
 obtain ⟨m, rfl⟩ := Int.eq_ofNat_of_zero_le hb.1
 have h1 : n * m ≤ 8 * 8 := Nat.mul_le_mul (by omega) (by omega)
 have e : (n : Int) * m = ((n * m : Nat) : Int) := by simp
 rw [e]
 omega
theorem implIsField_any (p : Int) (w : World) : Calls Tryz.prog 30 #[.int .i64 p] w fun e w' => e = .returned (.bool (isFld p)) ∧ w' = w := by
 by_cases h2 : p = 2
 ·subst h2
  go_enter Tryz.func30, Tryz.ntmps30
  go_wp2
  go_ret
  exact ⟨rfl, rfl⟩
 by_cases h3 : p = 3
 ·subst h3
  go_enter Tryz.func30, Tryz.ntmps30
  go_wp2
  go_ret
  exact ⟨rfl, rfl⟩
 by_cases h5 : p = 5
 ·subst h5
  go_enter Tryz.func30, Tryz.ntmps30
  go_wp2
  go_ret
  exact ⟨rfl, rfl⟩
 have e : isFld p = false := isFld_f.2 ⟨h2, h3, h5⟩
 have e2 : (p == 2) = false := by rw [beq_eq_false_iff_ne]; exact h2
 have e3 : (p == 3) = false := by rw [beq_eq_false_iff_ne]; exact h3
 have e5 : (p == 5) = false := by rw [beq_eq_false_iff_ne]; exact h5
 rw [e]
 clear e h2 h3 h5
 go_enter Tryz.func30, Tryz.ntmps30
 go_wp2
 go_ret
 exact ⟨rfl, rfl⟩
theorem specIsField_any (p : Int) (w : World) : Calls Tryz.prog 50 #[.int .i64 p] w fun e w' => e = .returned (.bool (isFld p)) ∧ w' = w := by
 by_cases h2 : p = 2
 ·subst h2
  go_enter Tryz.func50, Tryz.ntmps50
  go_wp2
  go_ret
  exact ⟨rfl, rfl⟩
 by_cases h3 : p = 3
 ·subst h3
  go_enter Tryz.func50, Tryz.ntmps50
  go_wp2
  go_ret
  exact ⟨rfl, rfl⟩
 by_cases h5 : p = 5
 ·subst h5
  go_enter Tryz.func50, Tryz.ntmps50
  go_wp2
  go_ret
  exact ⟨rfl, rfl⟩
 have e : isFld p = false := isFld_f.2 ⟨h2, h3, h5⟩
 have e2 : (p == 2) = false := by rw [beq_eq_false_iff_ne]; exact h2
 have e3 : (p == 3) = false := by rw [beq_eq_false_iff_ne]; exact h3
 have e5 : (p == 5) = false := by rw [beq_eq_false_iff_ne]; exact h5
 rw [e]
 clear e h2 h3 h5
 go_enter Tryz.func50, Tryz.ntmps50
 go_wp2
 go_ret
 exact ⟨rfl, rfl⟩
theorem implIsVector_any (p : Int) (u : Value) (v : List Int) (w : World) (hu : SlI w w.heap.size u v) :
  Calls Tryz.prog 104 #[.int .i64 p, u] w fun e w' => e = .returned (.bool (isVec p v)) ∧ Below w.heap.size w w' := by
 have hv := hu
 obtain ⟨A, c, rfl, _, _, _, _⟩ := hu.open_
 clear hu
 unfold isVec
 rcases h1 : isFld p with _ | _
 ·go_enter Tryz.func104, Tryz.ntmps104
  go_wp2_with fail
  refine (implIsField_any _ _).mono ?_; rintro e w' ⟨rfl, rfl⟩
  rw [h1]
  go_wp2
  go_ret
  exact ⟨rfl, Below.refl _ _⟩
 have hp := isFld_r h1
 by_cases h2 : v.length ≤ 64
 ·have e2 : decide (v.length ≤ 64) = true := by simpa using h2
  rw [e2]
  clear e2
  obtain ⟨B, hB⟩ : ∃ B, allR v 0 (p - 1) = B := ⟨_, rfl⟩
  rw [hB]
  have HB := Lib.hid hB
  clear hB
  go_enter Tryz.func104, Tryz.ntmps104
  go_wp2_with fail
  refine (implIsField_any _ _).mono ?_; rintro e w' ⟨rfl, rfl⟩
  rw [h1]
  go_wp2_with fail
  refine (allWithin_any _ v _ _ _ hv).mono ?_; rintro e w1 ⟨rfl, hb1⟩
  rw [HB.out]
  go_wp2
  go_ret
  exact ⟨rfl, hb1⟩
 ·have e2 : decide (v.length ≤ 64) = false := by simpa using h2
  have e2' : ¬ ((v.length : Int) ≤ 64) := by omega
  rw [e2]
  clear e2
  go_enter Tryz.func104, Tryz.ntmps104
  go_wp2_with fail
  refine (implIsField_any _ _).mono ?_; rintro e w' ⟨rfl, rfl⟩
  rw [h1]
  go_wp2
  go_ret
  exact ⟨rfl, Below.refl _ _⟩
theorem allR_end {v : List Int} {lo hi : Int} {k : Nat} (h : ∀ x ∈ v.take k, inR x lo hi = true) (hk : v.length ≤ k) : allR v lo hi = true := by
 rw [List.take_of_length_le hk] at h
 simpa [allR] using h
theorem allR_bad {v : List Int} {lo hi x : Int} {k : Nat} (h : v[k]? = some x) (hx : inR x lo hi = false) : allR v lo hi = false := by
 rw [Bool.eq_false_iff]
 intro h2
 have := List.all_eq_true.1 h2 x (List.mem_of_getElem? h)
 rw [hx] at this
 cases this
theorem allR_step {v : List Int} {lo hi x : Int} {k : Nat} (h : ∀ x ∈ v.take k, inR x lo hi = true) (hx : v[k]? = some x) (h2 : inR x lo hi = true) : ∀ x ∈ v.take (k + 1), inR x lo hi = true := by
 intro y hy
 rw [take_snoc hx, List.mem_append, List.mem_singleton] at hy
 rcases hy with hy | rfl
 ·exact h y hy
 ·exact h2
set_option maxHeartbeats 400000 in
theorem specIsVector_any (p : Int) (u : Value) (v : List Int) (w : World) (hu : SlI w w.heap.size u v) :
  Calls Tryz.prog 100 #[.int .i64 p, u] w fun e w' => e = .returned (.bool (isVec p v)) ∧ Below w.heap.size w w' := by
 obtain ⟨A, c, rfl, _, _, _, hv⟩ := hu.open_
 clear hu
 unfold isVec
 rcases h1 : isFld p with _ | _
 ·go_enter Tryz.func100, Tryz.ntmps100
  go_wp2_with fail
  refine (specIsField_any _ _).mono ?_; rintro e w ⟨rfl, rfl⟩
  rw [h1]
  go_wp2
  go_ret
  exact ⟨rfl, Below.refl _ _⟩
 have hp := isFld_r h1
 by_cases h2 : v.length ≤ 64
 ·have e2 : decide (v.length ≤ 64) = true := by simpa using h2
  have e2' : ¬ ((64 : Int) < v.length) := by omega
  rw [e2]
  clear e2
  go_enter Tryz.func100, Tryz.ntmps100
  go_wp2_with fail
  refine (specIsField_any _ _).mono ?_; rintro e w ⟨rfl, rfl⟩
  rw [h1]
  go_wp2
  go_loopw [5] (fun i wr => ∃ k : Nat, k ≤ v.length ∧ i = .int .i64 k ∧ Below w.heap.size w wr ∧ Hid (∀ x ∈ v.take k, inR x 0 (p - 1) = true)) (fun i _ => v.length - (intOf i).toNat)
  case atStart => exact ⟨0, Nat.zero_le _, rfl, Below.refl _ _, by show ∀ x ∈ _, _; simp⟩
  case round =>
   obtain ⟨k, hk, rfl, hbel, hall⟩ := hrel
   by_cases hlt : k < v.length
   ·obtain ⟨b, o, x, rfl, hb, HX, x1, _⟩ := SlI.at_ hv hlt
    have x2 := bcell hbel hb x1
    clear x1 hv
    rcases h3 : inR x 0 (p - 1) with _ | _
    ·have HF := Lib.hid (allR_bad HX.out h3)
     have H3 := Lib.hid h3
     clear h3
     go_wp2_with fail
     refine (l1In_any _ _ _ _).mono ?_; rintro e w ⟨rfl, rfl⟩
     rw [H3.out]
     go_wp2
     go_ret
     exact ⟨by rw [HF.out]; rfl, hbel⟩
    ·have HS := Lib.hid (allR_step hall.out HX.out h3)
     have H3 := Lib.hid h3
     clear h3
     go_wp2_with fail
     refine (l1In_any _ _ _ _).mono ?_; rintro e w ⟨rfl, rfl⟩
     rw [H3.out]
     go_wp2
     go_roundw
     case rel => exact ⟨k + 1, by omega, by go_num, hbel, HS.out⟩
     case measure => simp [intOf]; omega
   ·have HF := Lib.hid (allR_end hall.out (by omega))
    go_wp2
    go_ret
    exact ⟨by rw [HF.out]; rfl, hbel⟩
 ·have e2 : decide (v.length ≤ 64) = false := by simpa using h2
  have e2' : (64 : Int) < v.length := by omega
  rw [e2]
  clear e2
  go_enter Tryz.func100, Tryz.ntmps100
  go_wp2_with fail
  refine (specIsField_any _ _).mono ?_; rintro e w ⟨rfl, rfl⟩
  rw [h1]
  go_wp2
  go_ret
  exact ⟨rfl, Below.refl _ _⟩
set_option maxHeartbeats 800000 in
theorem implIsMatrix_any (p : Int) (u : Value) (m : Mx) (w : World) (hu : MxR w w.heap.size u m) :
  Calls Tryz.prog 85 #[.int .i64 p, u] w fun e w' => e = .returned (.bool (isMat p m)) ∧ Below w.heap.size w w' := by
 obtain ⟨A, c, rfl, hf, _, _, lf⟩ := hu.open_
 clear hu
 obtain ⟨W, hW⟩ : ∃ W, W = w.alloc (.cells #[.int .i64 m.r, .int .i64 m.c, .slice A m.a.length c] 44) := ⟨_, rfl⟩
 have g0 : Below w.heap.size w W := by rw [hW]; exact below_alloc _ _
 have kB : Blk W w.heap.size 44 #[.int .i64 m.r, .int .i64 m.c, .slice A m.a.length c] := by rw [hW]; exact Blk.new _ _ _
 have c0 := kB.cell' (i := 0) rfl
 have c1 := kB.cell' (i := 1) rfl
 have c2 := kB.cell' (i := 2) rfl
 replace hf := SlI.next g0 hf
 unfold isMat
 rcases h1 : inR m.r 0 8 with _ | _
 ·go_enter Tryz.func85, Tryz.ntmps85
  go_wp2_with fail
  rw [← hW]; clear hW
  refine (within_any _ _ _ _).mono ?_; rintro e w' ⟨rfl, rfl⟩
  rw [h1]
  go_wp2
  go_ret
  exact ⟨rfl, g0⟩
 have b1 := inR_t.1 h1
 rcases h2 : inR m.c 0 8 with _ | _
 ·go_enter Tryz.func85, Tryz.ntmps85
  go_wp2_with fail
  rw [← hW]; clear hW
  refine (within_any _ _ _ _).mono ?_; rintro e w' ⟨rfl, rfl⟩
  rw [h1]
  go_wp2_with fail
  refine (within_any _ _ _ _).mono ?_; rintro e w' ⟨rfl, rfl⟩
  rw [h2]
  go_wp2
  go_ret
  exact ⟨rfl, g0⟩
 have b2 := inR_t.1 h2
 have b3 := mul_bd b1 b2
 obtain ⟨b11, b12⟩ := b1
 obtain ⟨b21, b22⟩ := b2
 obtain ⟨b31, b32⟩ := b3
 rcases h3 : decide ((m.a.length : Int) = m.r * m.c) with _ | _
 ·have e3 : ((m.a.length : Int) == m.r * m.c) = false := by rw [beq_eq_false_iff_ne]; exact of_decide_eq_false h3
  clear h3
  go_enter Tryz.func85, Tryz.ntmps85
  go_wp2_with fail
  rw [← hW]; clear hW
  refine (within_any _ _ _ _).mono ?_; rintro e w' ⟨rfl, rfl⟩
  rw [h1]
  go_wp2_with fail
  refine (within_any _ _ _ _).mono ?_; rintro e w' ⟨rfl, rfl⟩
  rw [h2]
  go_wp2
  go_ret
  exact ⟨rfl, g0⟩
 have e3 : ((m.a.length : Int) == m.r * m.c) = true := by rw [beq_iff_eq]; exact of_decide_eq_true h3
 clear h3
 obtain ⟨B, hB⟩ : ∃ B, isVec p m.a = B := ⟨_, rfl⟩
 rw [hB]
 have HB := Lib.hid hB
 clear hB
 go_enter Tryz.func85, Tryz.ntmps85
 go_wp2_with fail
 rw [← hW]; clear hW
 refine (within_any _ _ _ _).mono ?_; rintro e w' ⟨rfl, rfl⟩
 rw [h1]
 go_wp2_with fail
 refine (within_any _ _ _ _).mono ?_; rintro e w' ⟨rfl, rfl⟩
 rw [h2]
 go_wp2_with fail
 refine (implIsVector_any _ _ m.a _ hf).mono ?_; rintro e w1 ⟨rfl, hb1⟩
 rw [HB.out]
 go_wp2
 go_ret
 exact ⟨rfl, bthen g0 hb1⟩
set_option maxHeartbeats 800000 in
theorem specIsMatrix_any (p : Int) (u : Value) (m : Mx) (w : World) (hu : MxR w w.heap.size u m) :
  Calls Tryz.prog 78 #[.int .i64 p, u] w fun e w' => e = .returned (.bool (isMat p m)) ∧ Below w.heap.size w w' := by
 obtain ⟨A, c, rfl, hf, _, _, lf⟩ := hu.open_
 clear hu
 obtain ⟨W, hW⟩ : ∃ W, W = w.alloc (.cells #[.int .i64 m.r, .int .i64 m.c, .slice A m.a.length c] 44) := ⟨_, rfl⟩
 have g0 : Below w.heap.size w W := by rw [hW]; exact below_alloc _ _
 have kB : Blk W w.heap.size 44 #[.int .i64 m.r, .int .i64 m.c, .slice A m.a.length c] := by rw [hW]; exact Blk.new _ _ _
 have c0 := kB.cell' (i := 0) rfl
 have c1 := kB.cell' (i := 1) rfl
 have c2 := kB.cell' (i := 2) rfl
 replace hf := SlI.next g0 hf
 unfold isMat
 rcases h1 : inR m.r 0 8 with _ | _
 ·go_enter Tryz.func78, Tryz.ntmps78
  go_wp2_with fail
  rw [← hW]; clear hW
  refine (l1In_any _ _ _ _).mono ?_; rintro e w' ⟨rfl, rfl⟩
  rw [h1]
  go_wp2
  go_ret
  exact ⟨rfl, g0⟩
 have b1 := inR_t.1 h1
 rcases h2 : inR m.c 0 8 with _ | _
 ·go_enter Tryz.func78, Tryz.ntmps78
  go_wp2_with fail
  rw [← hW]; clear hW
  refine (l1In_any _ _ _ _).mono ?_; rintro e w' ⟨rfl, rfl⟩
  rw [h1]
  go_wp2_with fail
  refine (l1In_any _ _ _ _).mono ?_; rintro e w' ⟨rfl, rfl⟩
  rw [h2]
  go_wp2
  go_ret
  exact ⟨rfl, g0⟩
 have b2 := inR_t.1 h2
 have b3 := mul_bd b1 b2
 obtain ⟨b11, b12⟩ := b1
 obtain ⟨b21, b22⟩ := b2
 obtain ⟨b31, b32⟩ := b3
 rcases h3 : decide ((m.a.length : Int) = m.r * m.c) with _ | _
 ·have e3 : ((m.a.length : Int) == m.r * m.c) = false := by rw [beq_eq_false_iff_ne]; exact of_decide_eq_false h3
  clear h3
  go_enter Tryz.func78, Tryz.ntmps78
  go_wp2_with fail
  rw [← hW]; clear hW
  refine (l1In_any _ _ _ _).mono ?_; rintro e w' ⟨rfl, rfl⟩
  rw [h1]
  go_wp2_with fail
  refine (l1In_any _ _ _ _).mono ?_; rintro e w' ⟨rfl, rfl⟩
  rw [h2]
  go_wp2
  go_ret
  exact ⟨rfl, g0⟩
 have e3 : ((m.a.length : Int) == m.r * m.c) = true := by rw [beq_iff_eq]; exact of_decide_eq_true h3
 clear h3
 obtain ⟨B, hB⟩ : ∃ B, isVec p m.a = B := ⟨_, rfl⟩
 rw [hB]
 have HB := Lib.hid hB
 clear hB
 go_enter Tryz.func78, Tryz.ntmps78
 go_wp2_with fail
 rw [← hW]; clear hW
 refine (l1In_any _ _ _ _).mono ?_; rintro e w' ⟨rfl, rfl⟩
 rw [h1]
 go_wp2_with fail
 refine (l1In_any _ _ _ _).mono ?_; rintro e w' ⟨rfl, rfl⟩
 rw [h2]
 go_wp2_with fail
 refine (specIsVector_any _ _ m.a _ hf).mono ?_; rintro e w1 ⟨rfl, hb1⟩
 rw [HB.out]
 go_wp2
 go_ret
 exact ⟨rfl, bthen g0 hb1⟩
theorem sumW_dims {d : List Int} (h : ∀ x ∈ d, 0 ≤ x ∧ x ≤ 4) (hl : d.length ≤ 5) : sumW d = d.sum ∧ 0 ≤ d.sum ∧ d.sum ≤ 20 := by
 obtain ⟨h1, h2, h3⟩ := sumW_small d 0 4 (by omega) (by omega) h (by omega) (by omega)
 exact ⟨h1, by omega, by omega⟩
theorem sum_bd : ∀ (l : List Int), (∀ x ∈ l, 0 ≤ x ∧ x ≤ 4) → 0 ≤ l.sum ∧ l.sum ≤ 4 * l.length
 | [], _ => by simp
 | a :: l, h => by
  have := sum_bd l (fun x hx => h x (by simp [hx]))
  have := h a (by simp)
  simp only [List.sum_cons, List.length_cons]
  omega
theorem sum_take_le (d : List Int) (k : Nat) (h : ∀ x ∈ d.take k, 0 ≤ x ∧ x ≤ 4) : 0 ≤ (d.take k).sum ∧ (d.take k).sum ≤ 4 * k := by
 have h1 := sum_bd _ h
 have h2 : (d.take k).length ≤ k := List.length_take_le _ _
 omega
set_option maxHeartbeats 800000 in
theorem implAreDims_any (u xv : Value) (q : Qv) (d : List Int) (w : World) (hu : QvR w w.heap.size u q) (hx : SlI w w.heap.size xv d) :
  Calls Tryz.prog 84 #[u, xv] w fun e w' => e = .returned (.bool (areDims q d)) ∧ Below w.heap.size w w' := by
 obtain ⟨A, c, C, d', eu⟩ := hu.form
 subst eu
 have lx := hx
 obtain ⟨XA, xc, rfl, _, _, lx, _⟩ := lx.open_
 obtain ⟨W, hW⟩ : ∃ W, W = w.alloc (.cells #[.int .i64 q.v, .slice A q.f.length c, .slice C q.t.length d'] 28) := ⟨_, rfl⟩
 have g0 : Below w.heap.size w W := by rw [hW]; exact below_alloc _ _
 have kB : Blk W w.heap.size 28 #[.int .i64 q.v, .slice A q.f.length c, .slice C q.t.length d'] := by rw [hW]; exact Blk.new _ _ _
 have c0 := kB.cell' (i := 0) rfl
 have c1 := kB.cell' (i := 1) rfl
 have c2 := kB.cell' (i := 2) rfl
 replace hu := QvR.next g0 hu
 replace hx := SlI.next g0 hx
 unfold areDims
 rcases hq : isQ q with _ | _
 ·go_enter Tryz.func84, Tryz.ntmps84
  go_wp2_with fail
  rw [← hW]; clear hW
  refine (implIsQuiver_any _ _ _ hu).mono ?_; rintro e w1 ⟨rfl, hb1⟩
  rw [hq]
  clear hu
  replace g0 := bthen g0 hb1
  replace hx := SlI.next hb1 hx
  replace kB := kB.call hb1
  replace c0 := kB.cell' (i := 0) rfl
  replace c1 := kB.cell' (i := 1) rfl
  replace c2 := kB.cell' (i := 2) rfl
  clear hb1
  go_wp2
  go_ret
  exact ⟨rfl, g0⟩
 obtain ⟨hv1, hv2⟩ := (isQ_t.1 hq).1
 rcases h2 : decide ((d.length : Int) = q.v) with _ | _
 ·have e2 : ((d.length : Int) == q.v) = false := by rw [beq_eq_false_iff_ne]; exact of_decide_eq_false h2
  clear h2
  go_enter Tryz.func84, Tryz.ntmps84
  go_wp2_with fail
  rw [← hW]; clear hW
  refine (implIsQuiver_any _ _ _ hu).mono ?_; rintro e w1 ⟨rfl, hb1⟩
  rw [hq]
  clear hu
  replace g0 := bthen g0 hb1
  replace hx := SlI.next hb1 hx
  replace kB := kB.call hb1
  replace c0 := kB.cell' (i := 0) rfl
  replace c1 := kB.cell' (i := 1) rfl
  replace c2 := kB.cell' (i := 2) rfl
  clear hb1
  go_wp2
  go_ret
  exact ⟨rfl, g0⟩
 have e2 : ((d.length : Int) == q.v) = true := by rw [beq_iff_eq]; exact of_decide_eq_true h2
 have hl5 : d.length ≤ 5 := by have := of_decide_eq_true h2; omega
 clear h2
 rcases h3 : allR d 0 4 with _ | _
 ·have H3 := Lib.hid h3
  clear h3
  go_enter Tryz.func84, Tryz.ntmps84
  go_wp2_with fail
  rw [← hW]; clear hW
  refine (implIsQuiver_any _ _ _ hu).mono ?_; rintro e w1 ⟨rfl, hb1⟩
  rw [hq]
  clear hu
  replace g0 := bthen g0 hb1
  replace hx := SlI.next hb1 hx
  replace kB := kB.call hb1
  replace c0 := kB.cell' (i := 0) rfl
  replace c1 := kB.cell' (i := 1) rfl
  replace c2 := kB.cell' (i := 2) rfl
  clear hb1
  go_wp2_with fail
  refine (allWithin_any _ d _ _ _ hx).mono ?_; rintro e w_1 ⟨rfl, hb_1⟩
  replace g0 := bthen g0 hb_1
  replace hx := SlI.next hb_1 hx
  replace kB := kB.call hb_1
  replace c0 := kB.cell' (i := 0) rfl
  replace c1 := kB.cell' (i := 1) rfl
  replace c2 := kB.cell' (i := 2) rfl
  rw [H3.out]
  go_wp2
  go_ret
  exact ⟨rfl, g0⟩
 obtain ⟨s1, s2, s3⟩ := sumW_dims (allR_t.1 h3) hl5
 have H3 := Lib.hid h3
 have H1 := Lib.hid s1
 clear h3 s1
 obtain ⟨s, hs⟩ : ∃ s, d.sum = s := ⟨_, rfl⟩
 rw [hs] at H1 s2 s3 ⊢
 clear hs
 go_enter Tryz.func84, Tryz.ntmps84
 go_wp2_with fail
 rw [← hW]; clear hW
 refine (implIsQuiver_any _ _ _ hu).mono ?_; rintro e w1 ⟨rfl, hb1⟩
 rw [hq]
 clear hu
 replace g0 := bthen g0 hb1
 replace hx := SlI.next hb1 hx
 replace kB := kB.call hb1
 replace c0 := kB.cell' (i := 0) rfl
 replace c1 := kB.cell' (i := 1) rfl
 replace c2 := kB.cell' (i := 2) rfl
 clear hb1
 go_wp2_with fail
 refine (allWithin_any _ d _ _ _ hx).mono ?_; rintro e w_2 ⟨rfl, hb_2⟩
 replace g0 := bthen g0 hb_2
 replace hx := SlI.next hb_2 hx
 replace kB := kB.call hb_2
 replace c0 := kB.cell' (i := 0) rfl
 replace c1 := kB.cell' (i := 1) rfl
 replace c2 := kB.cell' (i := 2) rfl
 rw [H3.out]
 go_wp2_with fail
 refine (sumOf_any _ d _ hx).mono ?_; rintro e w2 ⟨rfl, rfl⟩
 rw [H1.out]
 go_wp2
 go_ret
 exact ⟨by simp, g0⟩
set_option maxHeartbeats 800000 in
theorem specAreDims_any (u xv : Value) (q : Qv) (d : List Int) (w : World) (hu : QvR w w.heap.size u q) (hx : SlI w w.heap.size xv d) :
  Calls Tryz.prog 86 #[u, xv] w fun e w' => e = .returned (.bool (areDims q d)) ∧ Below w.heap.size w w' := by
 obtain ⟨A, c, C, d', eu⟩ := hu.form
 subst eu
 have lx := hx
 obtain ⟨XA, xc, rfl, _, _, lx, _⟩ := lx.open_
 obtain ⟨W, hW⟩ : ∃ W, W = w.alloc (.cells #[.int .i64 q.v, .slice A q.f.length c, .slice C q.t.length d'] 28) := ⟨_, rfl⟩
 have g0 : Below w.heap.size w W := by rw [hW]; exact below_alloc _ _
 have kB : Blk W w.heap.size 28 #[.int .i64 q.v, .slice A q.f.length c, .slice C q.t.length d'] := by rw [hW]; exact Blk.new _ _ _
 have c0 := kB.cell' (i := 0) rfl
 have c1 := kB.cell' (i := 1) rfl
 have c2 := kB.cell' (i := 2) rfl
 replace hu := QvR.next g0 hu
 replace hx := SlI.next g0 hx
 unfold areDims
 rcases hq : isQ q with _ | _
 ·go_enter Tryz.func86, Tryz.ntmps86
  go_wp2_with fail
  rw [← hW]; clear hW
  refine (specIsQuiver_any _ _ _ hu).mono ?_; rintro e w1 ⟨rfl, hb1⟩
  rw [hq]
  clear hu
  replace g0 := bthen g0 hb1
  replace hx := SlI.next hb1 hx
  replace kB := kB.call hb1
  replace c0 := kB.cell' (i := 0) rfl
  replace c1 := kB.cell' (i := 1) rfl
  replace c2 := kB.cell' (i := 2) rfl
  clear hb1
  go_wp2
  go_ret
  exact ⟨rfl, g0⟩
 obtain ⟨hv1, hv2⟩ := (isQ_t.1 hq).1
 rcases h2 : decide ((d.length : Int) = q.v) with _ | _
 ·have e2 : ((d.length : Int) != q.v) = true := by rw [bne_iff_ne]; exact of_decide_eq_false h2
  clear h2
  go_enter Tryz.func86, Tryz.ntmps86
  go_wp2_with fail
  rw [← hW]; clear hW
  refine (specIsQuiver_any _ _ _ hu).mono ?_; rintro e w1 ⟨rfl, hb1⟩
  rw [hq]
  clear hu
  replace g0 := bthen g0 hb1
  replace hx := SlI.next hb1 hx
  replace kB := kB.call hb1
  replace c0 := kB.cell' (i := 0) rfl
  replace c1 := kB.cell' (i := 1) rfl
  replace c2 := kB.cell' (i := 2) rfl
  clear hb1
  go_wp2
  go_ret
  exact ⟨rfl, g0⟩
 have e2 : ((d.length : Int) != q.v) = false := by rw [bne_eq_false_iff_eq]; exact of_decide_eq_true h2
 have hl5 : d.length ≤ 5 := by have := of_decide_eq_true h2; omega
 clear h2
 go_enter Tryz.func86, Tryz.ntmps86
 go_wp2_with fail
 rw [← hW]; clear hW
 refine (specIsQuiver_any _ _ _ hu).mono ?_; rintro e w1 ⟨rfl, hb1⟩
 rw [hq]
 clear hu
 replace g0 := bthen g0 hb1
 replace hx := SlI.next hb1 hx
 replace kB := kB.call hb1
 replace c0 := kB.cell' (i := 0) rfl
 replace c1 := kB.cell' (i := 1) rfl
 replace c2 := kB.cell' (i := 2) rfl
 clear hb1
 go_wp2
 go_loopw [5, 6] (fun n i wr => ∃ k : Nat, k ≤ d.length ∧ i = .int .i64 k ∧ n = .int .i64 (d.take k).sum ∧ wr = w1 ∧ Hid (∀ x ∈ d.take k, inR x 0 4 = true)) (fun _ i _ => d.length - (intOf i).toNat)
 case atStart => exact ⟨0, Nat.zero_le _, rfl, by simp, rfl, by show ∀ x ∈ _, _; simp⟩
 case round =>
  obtain ⟨k, hk, rfl, rfl, rfl, hall⟩ := hrel
  have hsm := sum_take_le d k (fun x hx => inR_t.1 (hall.out x hx))
  obtain ⟨hs1, hs2⟩ := hsm
  obtain ⟨s, hs⟩ : ∃ s, (d.take k).sum = s := ⟨_, rfl⟩
  rw [hs] at hs1 hs2 ⊢
  have HS := Lib.hid hs
  clear hs
  by_cases hlt : k < d.length
  ·obtain ⟨b, o, x, rfl, hb, HX, x1, _⟩ := SlI.at_ hx hlt
   clear hx
   rcases h3 : inR x 0 4 with _ | _
   ·have HF := Lib.hid (allR_bad HX.out h3)
    have H3 := Lib.hid h3
    clear h3
    go_wp2_with fail
    refine (l1In_any _ _ _ _).mono ?_; rintro e w' ⟨rfl, rfl⟩
    rw [H3.out]
    go_wp2
    go_ret
    exact ⟨by rw [HF.out]; rfl, g0⟩
   ·have HT := Lib.hid (allR_step hall.out HX.out h3)
    have HSU := Lib.hid (show (d.take (k + 1)).sum = s + x by rw [take_snoc HX.out, List.sum_append, HS.out]; simp)
    obtain ⟨x3, x4⟩ := inR_t.1 h3
    have H3 := Lib.hid h3
    clear h3
    go_wp2_with fail
    refine (l1In_any _ _ _ _).mono ?_; rintro e w' ⟨rfl, rfl⟩
    rw [H3.out]
    go_wp2
    go_roundw
    case rel => exact ⟨k + 1, by omega, by go_num, by rw [HSU.out], trivial, HT.out⟩
    case measure => simp [intOf]; omega
  ·have HF := Lib.hid (allR_end hall.out (by omega))
   have HE := Lib.hid (show d.sum = s by rw [← HS.out, List.take_of_length_le (by omega)])
   go_wp2
   go_ret
   exact ⟨by rw [HF.out, HE.out]; simp, g0⟩
def dAt (d : List Int) (v : Int) : Int := d.getD v.toNat 0
def okM (x : Rp) (m : Mx) (f t : Int) : Bool := isMat x.p m && decide (m.c = dAt x.d f) && decide (m.r = dAt x.d t)
def okMs (x : Rp) (k : Nat) : Bool := (List.range k).all fun i => okM x (x.m.getD i ⟨0, 0, []⟩) (x.q.f.getD i 0) (x.q.t.getD i 0)
def isRep (x : Rp) : Bool := isFld x.p && areDims x.q x.d && decide (x.m.length = x.q.f.length) && okMs x x.m.length
theorem okMs_succ {x : Rp} {k : Nat} {m : Mx} {f t : Int} (hm : x.m[k]? = some m) (hf : x.q.f[k]? = some f) (ht : x.q.t[k]? = some t) : okMs x (k + 1) = (okMs x k && okM x m f t) := by
 simp [okMs, List.range_succ, List.getD_eq_getElem?_getD, hm, hf, ht]
theorem okMs_mono {x : Rp} {k n : Nat} (h : okMs x k = false) (hk : k ≤ n) : okMs x n = false := by
 simp only [okMs, List.all_eq_false, List.mem_range] at h ⊢
 obtain ⟨i, hi, h⟩ := h
 exact ⟨i, by omega, h⟩
theorem dAt_of {d : List Int} {n : Nat} {y : Int} (h : d[n]? = some y) : dAt d (n : Int) = y := by
 simp [dAt, List.getD_eq_getElem?_getD, h]
theorem rep_at {x : Rp} (hq : areDims x.q x.d = true) {k : Nat} (hk : k < x.q.f.length) : ∃ (nf nt : Nat) (yf yt : Int), x.q.f[k]? = some (nf : Int) ∧ x.q.t[k]? = some (nt : Int) ∧ x.d[nf]? = some yf ∧ x.d[nt]? = some yt ∧ nf < x.d.length ∧ nt < x.d.length ∧ nf ≤ 5 ∧ nt ≤ 5 ∧ k < x.q.t.length := by
 obtain ⟨h1, h2, h3, h4⟩ := areDims_t.1 hq
 obtain ⟨hv, hl, h6, hf, ht⟩ := isQ_t.1 h1
 have ef := List.getElem?_eq_getElem hk
 have et := List.getElem?_eq_getElem (show k < x.q.t.length by omega)
 have bf := hf _ (List.mem_of_getElem? ef)
 have bt := ht _ (List.mem_of_getElem? et)
 obtain ⟨nf, enf⟩ := Int.eq_ofNat_of_zero_le bf.1
 obtain ⟨nt, ent⟩ := Int.eq_ofNat_of_zero_le bt.1
 rw [enf] at ef bf
 rw [ent] at et bt
 exact ⟨nf, nt, x.d[nf]'(by omega), x.d[nt]'(by omega), ef, et, List.getElem?_eq_getElem _, List.getElem?_eq_getElem _, by omega, by omega, by omega, by omega, by omega⟩
theorem QvR.sl {w : World} {B n m a c : Nat} {v : Int} {A C : Option Addr} {q : Qv} (h : QvR w B (.agg #[.int .i64 v, .slice A n a, .slice C m c]) q) : SlI w B (.slice A n a) q.f ∧ SlI w B (.slice C m c) q.t := by
 obtain ⟨s, t, e, h1, h2, _⟩ := h
 simp only [Value.agg.injEq, Array.mk.injEq, List.cons.injEq, and_true] at e
 obtain ⟨_, rfl, rfl⟩ := e
 exact ⟨h1, h2⟩
set_option maxHeartbeats 3200000 in
set_option maxRecDepth 100000 in
theorem implIsRep_any (u : Value) (x : Rp) (w : World) (hu : RpR w w.heap.size u x) :
  Calls Tryz.prog 62 #[u] w fun e w' => e = .returned (.bool (isRep x)) ∧ Below w.heap.size w w' := by
 obtain ⟨A, a, C, c, E, e, H, h, rfl, hq, hd, hm, hp, ld, lm⟩ := hu.open_
 clear hu
 obtain ⟨W, hW⟩ : ∃ W, W = w.alloc (.cells #[.int .i64 x.p, .int .i64 x.q.v, .slice A x.q.f.length a, .slice C x.q.t.length c, .slice E x.d.length e, .slice H x.m.length h] 31) := ⟨_, rfl⟩
 have g0 : Below w.heap.size w W := by rw [hW]; exact below_alloc _ _
 have kB : Blk W w.heap.size 31 #[.int .i64 x.p, .int .i64 x.q.v, .slice A x.q.f.length a, .slice C x.q.t.length c, .slice E x.d.length e, .slice H x.m.length h] := by rw [hW]; exact Blk.new _ _ _
 have c0 := kB.cell' (i := 0) rfl
 have c1 := kB.cell' (i := 1) rfl
 have c2 := kB.cell' (i := 2) rfl
 have c3 := kB.cell' (i := 3) rfl
 have c4 := kB.cell' (i := 4) rfl
 have c5 := kB.cell' (i := 5) rfl
 replace hq := QvR.next g0 hq
 replace hd := SlI.next g0 hd
 replace hm := SlM.next g0 hm
 unfold isRep
 rcases h1 : isFld x.p with _ | _
 ·go_enter Tryz.func62, Tryz.ntmps62
  go_wp2_with fail
  rw [← hW]; clear hW
  refine (implIsField_any _ _).mono ?_; rintro e w1 ⟨rfl, rfl⟩
  rw [h1]
  go_wp2
  go_ret
  exact ⟨rfl, g0⟩
 rcases h2 : areDims x.q x.d with _ | _
 ·have H2 := Lib.hid h2
  clear h2
  go_enter Tryz.func62, Tryz.ntmps62
  go_wp2_with fail
  rw [← hW]; clear hW
  refine (implIsField_any _ _).mono ?_; rintro e w1 ⟨rfl, rfl⟩
  rw [h1]
  go_wp2_with fail
  refine (implAreDims_any _ _ _ _ _ hq hd).mono ?_; rintro e w_1 ⟨rfl, hb_1⟩
  replace g0 := bthen g0 hb_1
  replace hq := QvR.next hb_1 hq
  replace hd := SlI.next hb_1 hd
  replace hm := SlM.next hb_1 hm
  replace kB := kB.call hb_1
  replace c0 := kB.cell' (i := 0) rfl
  replace c1 := kB.cell' (i := 1) rfl
  replace c2 := kB.cell' (i := 2) rfl
  replace c3 := kB.cell' (i := 3) rfl
  replace c4 := kB.cell' (i := 4) rfl
  replace c5 := kB.cell' (i := 5) rfl
  rw [H2.out]
  go_wp2
  go_ret
  exact ⟨rfl, g0⟩
 obtain ⟨lf, lt⟩ := hq.lens
 rcases h3 : decide (x.m.length = x.q.f.length) with _ | _
 ·have e3 : ((x.m.length : Int) != x.q.f.length) = true := by rw [bne_iff_ne]; have := of_decide_eq_false h3; omega
  have H2 := Lib.hid h2
  clear h2 h3
  go_enter Tryz.func62, Tryz.ntmps62
  go_wp2_with fail
  rw [← hW]; clear hW
  refine (implIsField_any _ _).mono ?_; rintro e w1 ⟨rfl, rfl⟩
  rw [h1]
  go_wp2_with fail
  refine (implAreDims_any _ _ _ _ _ hq hd).mono ?_; rintro e w_2 ⟨rfl, hb_2⟩
  replace g0 := bthen g0 hb_2
  replace hq := QvR.next hb_2 hq
  replace hd := SlI.next hb_2 hd
  replace hm := SlM.next hb_2 hm
  replace kB := kB.call hb_2
  replace c0 := kB.cell' (i := 0) rfl
  replace c1 := kB.cell' (i := 1) rfl
  replace c2 := kB.cell' (i := 2) rfl
  replace c3 := kB.cell' (i := 3) rfl
  replace c4 := kB.cell' (i := 4) rfl
  replace c5 := kB.cell' (i := 5) rfl
  rw [H2.out]
  go_wp2
  go_ret
  exact ⟨rfl, g0⟩
 have e3 : ((x.m.length : Int) != x.q.f.length) = false := by rw [bne_eq_false_iff_eq]; have := of_decide_eq_true h3; omega
 have H3 := Lib.hid (of_decide_eq_true h3)
 have H2 := Lib.hid h2
 clear h2 h3
 go_enter Tryz.func62, Tryz.ntmps62
 go_wp2_with fail
 rw [← hW]; clear hW
 refine (implIsField_any _ _).mono ?_; rintro e w1 ⟨rfl, rfl⟩
 rw [h1]
 go_wp2_with fail
 refine (implAreDims_any _ _ _ _ _ hq hd).mono ?_; rintro e W1 ⟨rfl, hb0⟩
 replace g0 := bthen g0 hb0
 replace hq := QvR.next hb0 hq
 replace hd := SlI.next hb0 hd
 replace hm := SlM.next hb0 hm
 replace kB := kB.call hb0
 replace c0 := kB.cell' (i := 0) rfl
 replace c1 := kB.cell' (i := 1) rfl
 replace c2 := kB.cell' (i := 2) rfl
 replace c3 := kB.cell' (i := 3) rfl
 replace c4 := kB.cell' (i := 4) rfl
 replace c5 := kB.cell' (i := 5) rfl
 clear hb0
 rw [H2.out]
 obtain ⟨hf, ht⟩ := hq.sl
 clear hq
 go_wp2
 go_loopw [30] (fun i wr => ∃ k : Nat, k ≤ x.m.length ∧ i = .int .i64 k ∧ Below W1.heap.size W1 wr ∧ Hid (okMs x k = true)) (fun i _ => x.m.length - (intOf i).toNat)
 case atStart => exact ⟨0, Nat.zero_le _, rfl, Below.refl _ _, rfl⟩
 case round =>
  obtain ⟨k, hk, rfl, hbel, hok⟩ := hrel
  clear c0 c1 c2 c3 c4 c5
  have z5 := (kB.call hbel).cell' (i := 5) rfl
  by_cases hlt : k < x.m.length
  ·have hkf : k < x.q.f.length := by have := H3.out; omega
   obtain ⟨nf, nt, yf, yt, ef, et, df, dt, lnf, lnt, lnf5, lnt5, hkt⟩ := rep_at H2.out hkf
   obtain ⟨b, o, m, A', c', rfl, hb, HX, x1, x2, x3, hsl, i1, i2, lml⟩ := SlM.at_ hm hlt
   obtain ⟨bf, of_, xf, rfl, hbf, HXF, f1, _⟩ := SlI.at_ hf hkf
   obtain ⟨bt, ot, xt, rfl, hbt, HXT, t1, _⟩ := SlI.at_ ht hkt
   obtain ⟨bd, od, xdf, rfl, hbd, HXDF, d1, ddf⟩ := SlI.at_ hd lnf
   obtain ⟨bd', od', xdt, ebd, hbd', HXDT, d2, ddt⟩ := SlI.at_ hd lnt
   injection ebd with ebd
   injection ebd with ebd1 ebd2
   subst ebd1 ebd2
   have q1 := HXF.out
   rw [ef] at q1
   injection q1 with q1
   subst q1
   have q2 := HXT.out
   rw [et] at q2
   injection q2 with q2
   subst q2
   have hsucc := okMs_succ HX.out ef et
   rw [hok.out, Bool.true_and, okM, dAt_of HXDF.out, dAt_of HXDT.out] at hsucc
   have HSU := Lib.hid hsucc
   clear hsucc HXDF HXDT HXF HXT ef et df dt hf ht hd hm
   obtain ⟨Wx, hWx⟩ : ∃ W, W = wr.alloc (.cells #[.int .i64 m.r, .int .i64 m.c, .slice A' m.a.length c'] 44) := ⟨_, rfl⟩
   have gx : Below W1.heap.size W1 Wx := by rw [hWx]; exact hbel.trans ((below_alloc _ _).mono hbel.size)
   have kM : Blk Wx wr.heap.size 44 #[.int .i64 m.r, .int .i64 m.c, .slice A' m.a.length c'] := by rw [hWx]; exact Blk.new _ _ _
   have m0 := fun s : InB Wx => (kM.call s.below).cell' (i := 0) rfl
   have m1 := fun s : InB Wx => (kM.call s.below).cell' (i := 1) rfl
   have m2 := fun s : InB Wx => (kM.call s.below).cell' (i := 2) rfl
   have hx1 := bcell hbel hb x1
   have hx2 := bcell hbel hb x2
   have hx3 := bcell hbel hb x3
   clear kM
   have gx1 := gx.size
   have hF := InB.cell (w := Wx) (by omega) (bcell gx hbf f1)
   have hT := InB.cell (w := Wx) (by omega) (bcell gx hbt t1)
   have hD1 := InB.cell (w := Wx) (by omega) (bcell gx hbd d1)
   have hD2 := InB.cell (w := Wx) (by omega) (bcell gx hbd d2)
   have kBx := kB.call gx
   have r0 := fun s : InB Wx => (kBx.call s.below).cell' (i := 0) rfl
   have r2 := fun s : InB Wx => (kBx.call s.below).cell' (i := 2) rfl
   have r3 := fun s : InB Wx => (kBx.call s.below).cell' (i := 3) rfl
   have r4 := fun s : InB Wx => (kBx.call s.below).cell' (i := 4) rfl
   have r5 := fun s : InB Wx => (kBx.call s.below).cell' (i := 5) rfl
   have HM : Hid (∀ s : InB Wx, MxR s.val s.val.heap.size (.agg #[.int .i64 m.r, .int .i64 m.c, .slice A' m.a.length c']) m) := fun s => ⟨_, rfl, SlI.next s.below (SlI.next gx hsl), i1, i2⟩
   have g1 := bthen g0 gx
   have HGX := Lib.hid gx
   have HG1 := Lib.hid g1
   clear x1 x2 x3 f1 t1 d1 d2 hsl i1 i2 kB kBx gx g1 g0
   have a1 : (0 : Int) ≤ (k : Int) := by omega
   have a2 : (k : Int) < x.q.f.length := by omega
   have a3 : (k : Int) < x.q.t.length := by omega
   have a4 : (0 : Int) ≤ (nf : Int) := by omega
   have a5 : (nf : Int) < x.d.length := by omega
   have a6 : (0 : Int) ≤ (nt : Int) := by omega
   have a7 : (nt : Int) < x.d.length := by omega
   have a8 : (k : Int) < x.m.length := by omega
   rcases h4 : isMat x.p m with _ | _
   ·have HF := Lib.hid (okMs_mono (x := x) (k := k + 1) (n := x.m.length) (by rw [HSU.out, h4]; rfl) (by omega))
    go_wp2
    rw [← hWx]; clear hWx
    (refine wp_region_inB (by kernel_rfl) (by kernel_rfl) ?_; (repeat (go_big_quiet_step ((go_at_call 85; exact InB.call (implIsMatrix_any _ _ m _ (HM.out _)))))); refine wpQuiet_nil ?_; intro w1 hw'; obtain ⟨s1, hw1⟩ := hw'; have hb1 := s1.below; rw [← hw1] at hb1; clear hw1 s1)
    go_wp2
    go_ret
    exact ⟨by rw [HF.out]; rfl, bthen HG1.out hb1⟩
   rcases h5 : decide (m.c = xdf) with _ | _
   ·have HF := Lib.hid (okMs_mono (x := x) (k := k + 1) (n := x.m.length) (by rw [HSU.out, h5]; simp) (by omega))
    have e5 : (m.c != xdf) = true := by rw [bne_iff_ne]; exact of_decide_eq_false h5
    clear h5
    go_wp2
    rw [← hWx]; clear hWx
    (refine wp_region_inB (by kernel_rfl) (by kernel_rfl) ?_; (repeat (go_big_quiet_step ((go_at_call 85; exact InB.call (implIsMatrix_any _ _ m _ (HM.out _)))))); refine wpQuiet_nil ?_; intro w1 hw'; obtain ⟨s1, hw1⟩ := hw'; have hb1 := s1.below; rw [← hw1] at hb1; clear hw1 s1)
    go_wp2
    go_ret
    exact ⟨by rw [HF.out]; rfl, bthen HG1.out hb1⟩
   have e5 : (m.c != xdf) = false := by rw [bne_eq_false_iff_eq]; exact of_decide_eq_true h5
   rcases h6 : decide (m.r = xdt) with _ | _
   ·have HF := Lib.hid (okMs_mono (x := x) (k := k + 1) (n := x.m.length) (by rw [HSU.out, h6]; simp) (by omega))
    have e6 : (m.r != xdt) = true := by rw [bne_iff_ne]; exact of_decide_eq_false h6
    clear h5 h6
    go_wp2
    rw [← hWx]; clear hWx
    (refine wp_region_inB (by kernel_rfl) (by kernel_rfl) ?_; (repeat (go_big_quiet_step ((go_at_call 85; exact InB.call (implIsMatrix_any _ _ m _ (HM.out _)))))); refine wpQuiet_nil ?_; intro w1 hw'; obtain ⟨s1, hw1⟩ := hw'; have hb1 := s1.below; rw [← hw1] at hb1; clear hw1 s1)
    go_wp2
    go_ret
    exact ⟨by rw [HF.out]; rfl, bthen HG1.out hb1⟩
   have e6 : (m.r != xdt) = false := by rw [bne_eq_false_iff_eq]; exact of_decide_eq_true h6
   have HF := Lib.hid (show okMs x (k + 1) = true by rw [HSU.out, h4, h5, h6]; rfl)
   clear h5 h6
   go_wp2
   rw [← hWx]; clear hWx
   (refine wp_region_inB (by kernel_rfl) (by kernel_rfl) ?_; (repeat (go_big_quiet_step ((go_at_call 85; exact InB.call (implIsMatrix_any _ _ m _ (HM.out _)))))); refine wpQuiet_nil ?_; intro w1 hw'; obtain ⟨s1, hw1⟩ := hw'; have hb1 := s1.below; rw [← hw1] at hb1; clear hw1 s1)
   go_wp2
   go_roundw
   case rel => exact ⟨k + 1, by omega, by go_num, bthen HGX.out hb1, HF.out⟩
   case measure => simp [intOf]; omega
  ·have HF := Lib.hid (show okMs x x.m.length = true by have := hok.out; rwa [show k = x.m.length by omega] at this)
   have g1 := bthen g0 hbel
   go_wp2
   go_ret
   exact ⟨by rw [HF.out]; rfl, g1⟩
set_option maxHeartbeats 3200000 in
set_option maxRecDepth 100000 in
theorem specIsRep_any (u : Value) (x : Rp) (w : World) (hu : RpR w w.heap.size u x) :
  Calls Tryz.prog 65 #[u] w fun e w' => e = .returned (.bool (isRep x)) ∧ Below w.heap.size w w' := by
 obtain ⟨A, a, C, c, E, e, H, h, rfl, hq, hd, hm, hp, ld, lm⟩ := hu.open_
 clear hu
 obtain ⟨W, hW⟩ : ∃ W, W = w.alloc (.cells #[.int .i64 x.p, .int .i64 x.q.v, .slice A x.q.f.length a, .slice C x.q.t.length c, .slice E x.d.length e, .slice H x.m.length h] 31) := ⟨_, rfl⟩
 have g0 : Below w.heap.size w W := by rw [hW]; exact below_alloc _ _
 have kB : Blk W w.heap.size 31 #[.int .i64 x.p, .int .i64 x.q.v, .slice A x.q.f.length a, .slice C x.q.t.length c, .slice E x.d.length e, .slice H x.m.length h] := by rw [hW]; exact Blk.new _ _ _
 have c0 := kB.cell' (i := 0) rfl
 have c1 := kB.cell' (i := 1) rfl
 have c2 := kB.cell' (i := 2) rfl
 have c3 := kB.cell' (i := 3) rfl
 have c4 := kB.cell' (i := 4) rfl
 have c5 := kB.cell' (i := 5) rfl
 replace hq := QvR.next g0 hq
 replace hd := SlI.next g0 hd
 replace hm := SlM.next g0 hm
 unfold isRep
 rcases h1 : isFld x.p with _ | _
 ·go_enter Tryz.func65, Tryz.ntmps65
  go_wp2_with fail
  rw [← hW]; clear hW
  refine (specIsField_any _ _).mono ?_; rintro e w1 ⟨rfl, rfl⟩
  rw [h1]
  go_wp2
  go_ret
  exact ⟨rfl, g0⟩
 rcases h2 : areDims x.q x.d with _ | _
 ·have H2 := Lib.hid h2
  clear h2
  go_enter Tryz.func65, Tryz.ntmps65
  go_wp2_with fail
  rw [← hW]; clear hW
  refine (specIsField_any _ _).mono ?_; rintro e w1 ⟨rfl, rfl⟩
  rw [h1]
  go_wp2_with fail
  refine (specAreDims_any _ _ _ _ _ hq hd).mono ?_; rintro e w_3 ⟨rfl, hb_3⟩
  replace g0 := bthen g0 hb_3
  replace hq := QvR.next hb_3 hq
  replace hd := SlI.next hb_3 hd
  replace hm := SlM.next hb_3 hm
  replace kB := kB.call hb_3
  replace c0 := kB.cell' (i := 0) rfl
  replace c1 := kB.cell' (i := 1) rfl
  replace c2 := kB.cell' (i := 2) rfl
  replace c3 := kB.cell' (i := 3) rfl
  replace c4 := kB.cell' (i := 4) rfl
  replace c5 := kB.cell' (i := 5) rfl
  rw [H2.out]
  go_wp2
  go_ret
  exact ⟨rfl, g0⟩
 obtain ⟨lf, lt⟩ := hq.lens
 rcases h3 : decide (x.m.length = x.q.f.length) with _ | _
 ·have e3 : ((x.m.length : Int) != x.q.f.length) = true := by rw [bne_iff_ne]; have := of_decide_eq_false h3; omega
  have H2 := Lib.hid h2
  clear h2 h3
  go_enter Tryz.func65, Tryz.ntmps65
  go_wp2_with fail
  rw [← hW]; clear hW
  refine (specIsField_any _ _).mono ?_; rintro e w1 ⟨rfl, rfl⟩
  rw [h1]
  go_wp2_with fail
  refine (specAreDims_any _ _ _ _ _ hq hd).mono ?_; rintro e w_4 ⟨rfl, hb_4⟩
  replace g0 := bthen g0 hb_4
  replace hq := QvR.next hb_4 hq
  replace hd := SlI.next hb_4 hd
  replace hm := SlM.next hb_4 hm
  replace kB := kB.call hb_4
  replace c0 := kB.cell' (i := 0) rfl
  replace c1 := kB.cell' (i := 1) rfl
  replace c2 := kB.cell' (i := 2) rfl
  replace c3 := kB.cell' (i := 3) rfl
  replace c4 := kB.cell' (i := 4) rfl
  replace c5 := kB.cell' (i := 5) rfl
  rw [H2.out]
  go_wp2
  go_ret
  exact ⟨rfl, g0⟩
 have e3 : ((x.m.length : Int) != x.q.f.length) = false := by rw [bne_eq_false_iff_eq]; have := of_decide_eq_true h3; omega
 have H3 := Lib.hid (of_decide_eq_true h3)
 have H2 := Lib.hid h2
 clear h2 h3
 go_enter Tryz.func65, Tryz.ntmps65
 go_wp2_with fail
 rw [← hW]; clear hW
 refine (specIsField_any _ _).mono ?_; rintro e w1 ⟨rfl, rfl⟩
 rw [h1]
 go_wp2_with fail
 refine (specAreDims_any _ _ _ _ _ hq hd).mono ?_; rintro e W1 ⟨rfl, hb0⟩
 replace g0 := bthen g0 hb0
 replace hq := QvR.next hb0 hq
 replace hd := SlI.next hb0 hd
 replace hm := SlM.next hb0 hm
 replace kB := kB.call hb0
 replace c0 := kB.cell' (i := 0) rfl
 replace c1 := kB.cell' (i := 1) rfl
 replace c2 := kB.cell' (i := 2) rfl
 replace c3 := kB.cell' (i := 3) rfl
 replace c4 := kB.cell' (i := 4) rfl
 replace c5 := kB.cell' (i := 5) rfl
 clear hb0
 rw [H2.out]
 obtain ⟨hf, ht⟩ := hq.sl
 clear hq
 go_wp2
 go_loopw [3] (fun i wr => ∃ k : Nat, k ≤ x.m.length ∧ i = .int .i64 k ∧ Below W1.heap.size W1 wr ∧ Hid (okMs x k = true)) (fun i _ => x.m.length - (intOf i).toNat)
 case atStart => exact ⟨0, Nat.zero_le _, rfl, Below.refl _ _, rfl⟩
 case round =>
  obtain ⟨k, hk, rfl, hbel, hok⟩ := hrel
  clear c0 c1 c2 c3 c4 c5
  have z5 := (kB.call hbel).cell' (i := 5) rfl
  by_cases hlt : k < x.m.length
  ·have hkf : k < x.q.f.length := by have := H3.out; omega
   obtain ⟨nf, nt, yf, yt, ef, et, df, dt, lnf, lnt, lnf5, lnt5, hkt⟩ := rep_at H2.out hkf
   obtain ⟨b, o, m, A', c', rfl, hb, HX, x1, x2, x3, hsl, i1, i2, lml⟩ := SlM.at_ hm hlt
   obtain ⟨bf, of_, xf, rfl, hbf, HXF, f1, _⟩ := SlI.at_ hf hkf
   obtain ⟨bt, ot, xt, rfl, hbt, HXT, t1, _⟩ := SlI.at_ ht hkt
   obtain ⟨bd, od, xdf, rfl, hbd, HXDF, d1, ddf⟩ := SlI.at_ hd lnf
   obtain ⟨bd', od', xdt, ebd, hbd', HXDT, d2, ddt⟩ := SlI.at_ hd lnt
   injection ebd with ebd
   injection ebd with ebd1 ebd2
   subst ebd1 ebd2
   have q1 := HXF.out
   rw [ef] at q1
   injection q1 with q1
   subst q1
   have q2 := HXT.out
   rw [et] at q2
   injection q2 with q2
   subst q2
   have hsucc := okMs_succ HX.out ef et
   rw [hok.out, Bool.true_and, okM, dAt_of HXDF.out, dAt_of HXDT.out] at hsucc
   have HSU := Lib.hid hsucc
   clear hsucc HXDF HXDT HXF HXT ef et df dt hf ht hd hm
   have gx := hbel
   have hm0 := InB.cell (w := wr) (by have := hbel.size; omega) (bcell hbel hb x1)
   have hm1 := InB.cell (w := wr) (by have := hbel.size; omega) (bcell hbel hb x2)
   have hm2 := InB.cell (w := wr) (by have := hbel.size; omega) (bcell hbel hb x3)
   have gx1 := gx.size
   have hF := InB.cell (w := wr) (by omega) (bcell gx hbf f1)
   have hT := InB.cell (w := wr) (by omega) (bcell gx hbt t1)
   have hD1 := InB.cell (w := wr) (by omega) (bcell gx hbd d1)
   have hD2 := InB.cell (w := wr) (by omega) (bcell gx hbd d2)
   have kBx := kB.call gx
   have r0 := fun s : InB wr => (kBx.call s.below).cell' (i := 0) rfl
   have r2 := fun s : InB wr => (kBx.call s.below).cell' (i := 2) rfl
   have r3 := fun s : InB wr => (kBx.call s.below).cell' (i := 3) rfl
   have r4 := fun s : InB wr => (kBx.call s.below).cell' (i := 4) rfl
   have r5 := fun s : InB wr => (kBx.call s.below).cell' (i := 5) rfl
   have HM : Hid (∀ s : InB wr, MxR s.val s.val.heap.size (.agg #[.int .i64 m.r, .int .i64 m.c, .slice A' m.a.length c']) m) := fun s => ⟨_, rfl, SlI.next s.below (SlI.next gx hsl), i1, i2⟩
   have g1 := bthen g0 gx
   have HGX := Lib.hid gx
   have HG1 := Lib.hid g1
   clear x1 x2 x3 f1 t1 d1 d2 hsl i1 i2 kB kBx gx g1 g0
   have a1 : (0 : Int) ≤ (k : Int) := by omega
   have a2 : (k : Int) < x.q.f.length := by omega
   have a3 : (k : Int) < x.q.t.length := by omega
   have a4 : (0 : Int) ≤ (nf : Int) := by omega
   have a5 : (nf : Int) < x.d.length := by omega
   have a6 : (0 : Int) ≤ (nt : Int) := by omega
   have a7 : (nt : Int) < x.d.length := by omega
   have a8 : (k : Int) < x.m.length := by omega
   rcases h4 : isMat x.p m with _ | _
   ·have HF := Lib.hid (okMs_mono (x := x) (k := k + 1) (n := x.m.length) (by rw [HSU.out, h4]; rfl) (by omega))
    go_wp2
    (refine wp_region_inB (by kernel_rfl) (by kernel_rfl) ?_; (repeat (go_big_quiet_step ((go_at_call 78; exact InB.call (specIsMatrix_any _ _ m _ (HM.out _)))))); refine wpQuiet_nil ?_; intro w1 hw'; obtain ⟨s1, hw1⟩ := hw'; have hb1 := s1.below; rw [← hw1] at hb1; clear hw1 s1)
    go_wp2
    go_ret
    exact ⟨by rw [HF.out]; rfl, bthen HG1.out hb1⟩
   rcases h5 : decide (m.c = xdf) with _ | _
   ·have HF := Lib.hid (okMs_mono (x := x) (k := k + 1) (n := x.m.length) (by rw [HSU.out, h5]; simp) (by omega))
    have e5 : (m.c != xdf) = true := by rw [bne_iff_ne]; exact of_decide_eq_false h5
    clear h5
    go_wp2
    (refine wp_region_inB (by kernel_rfl) (by kernel_rfl) ?_; (repeat (go_big_quiet_step ((go_at_call 78; exact InB.call (specIsMatrix_any _ _ m _ (HM.out _)))))); refine wpQuiet_nil ?_; intro w1 hw'; obtain ⟨s1, hw1⟩ := hw'; have hb1 := s1.below; rw [← hw1] at hb1; clear hw1 s1)
    go_wp2
    go_ret
    exact ⟨by rw [HF.out]; rfl, bthen HG1.out hb1⟩
   have e5 : (m.c != xdf) = false := by rw [bne_eq_false_iff_eq]; exact of_decide_eq_true h5
   rcases h6 : decide (m.r = xdt) with _ | _
   ·have HF := Lib.hid (okMs_mono (x := x) (k := k + 1) (n := x.m.length) (by rw [HSU.out, h6]; simp) (by omega))
    have e6 : (m.r != xdt) = true := by rw [bne_iff_ne]; exact of_decide_eq_false h6
    clear h5 h6
    go_wp2
    (refine wp_region_inB (by kernel_rfl) (by kernel_rfl) ?_; (repeat (go_big_quiet_step ((go_at_call 78; exact InB.call (specIsMatrix_any _ _ m _ (HM.out _)))))); refine wpQuiet_nil ?_; intro w1 hw'; obtain ⟨s1, hw1⟩ := hw'; have hb1 := s1.below; rw [← hw1] at hb1; clear hw1 s1)
    go_wp2
    go_ret
    exact ⟨by rw [HF.out]; rfl, bthen HG1.out hb1⟩
   have e6 : (m.r != xdt) = false := by rw [bne_eq_false_iff_eq]; exact of_decide_eq_true h6
   have HF := Lib.hid (show okMs x (k + 1) = true by rw [HSU.out, h4, h5, h6]; rfl)
   clear h5 h6
   go_wp2
   (refine wp_region_inB (by kernel_rfl) (by kernel_rfl) ?_; (repeat (go_big_quiet_step ((go_at_call 78; exact InB.call (specIsMatrix_any _ _ m _ (HM.out _)))))); refine wpQuiet_nil ?_; intro w1 hw'; obtain ⟨s1, hw1⟩ := hw'; have hb1 := s1.below; rw [← hw1] at hb1; clear hw1 s1)
   go_wp2
   go_roundw
   case rel => exact ⟨k + 1, by omega, by go_num, bthen HGX.out hb1, HF.out⟩
   case measure => simp [intOf]; omega
  ·have HF := Lib.hid (show okMs x x.m.length = true by have := hok.out; rwa [show k = x.m.length by omega] at this)
   have g1 := bthen g0 hbel
   go_wp2
   go_ret
   exact ⟨by rw [HF.out]; rfl, g1⟩
theorem isRep_t {x : Rp} : isRep x = true ↔ isFld x.p = true ∧ areDims x.q x.d = true ∧ x.m.length = x.q.f.length ∧ okMs x x.m.length = true := by
 simp only [isRep, Bool.and_eq_true, decide_eq_true_eq, and_assoc]
set_option maxHeartbeats 400000 in
theorem slEqual_any (u v : Value) (xs ys : List Int) (w : World) (hu : SlI w w.heap.size u xs) (hv : SlI w w.heap.size v ys) :
  Calls Tryz.prog 87 #[u, v] w fun e w' => e = .returned (.bool (decide (xs = ys))) ∧ Below w.heap.size w w' := by
 obtain ⟨A, c, rfl, _, _, hn, hx⟩ := hu.open_
 obtain ⟨C, d, rfl, _, _, hm, hy⟩ := hv.open_
 clear hu hv
 by_cases hnm : xs.length = ys.length
 ·have heq : ((xs.length : Int) != ys.length) = false := by rw [bne_eq_false_iff_eq]; omega
  have HN := Lib.hid hnm
  clear hnm
  go_enter Tryz.func87, Tryz.ntmps87
  go_wp2
  go_loopw [5, 13] (fun _ i wr => ∃ k q : Nat, k ≤ xs.length ∧ i = .int .i64 k ∧ wr = w.drewN q ∧ Hid (xs.take k = ys.take k)) (fun _ i _ => xs.length - (intOf i).toNat)
  case atStart => exact ⟨0, 0, Nat.zero_le _, rfl, rfl, rfl⟩
  case round =>
   obtain ⟨k, q, hk, rfl, rfl, hxy⟩ := hrel
   by_cases hlt : k < xs.length
   ·have hlt' : k < ys.length := by have := HN.out; omega
    obtain ⟨b, o, x, rfl, hb, HX, c1, _⟩ := SlI.at_ hx hlt
    obtain ⟨b', o', x', rfl, hb', HX', c1', _⟩ := SlI.at_ hy hlt'
    clear hx hy
    by_cases hE : x = x'
    ·subst hE
     go_wp2
     go_quiet (fail)
     go_wp2
     go_roundw
     case rel =>
      refine ⟨k + 1, q + nq, by omega, by go_num, rfl, ?_⟩
      show _ = _
      rw [take_snoc HX.out, take_snoc HX'.out, hxy.out]
     case measure => simp [intOf]; omega
    ·have hne : (x != x') = true := by simpa using hE
     have hxy' : Hid (xs ≠ ys) := by
      rintro rfl
      have h2 := HX.out
      rw [HX'.out] at h2
      exact hE (by injection h2 with h2; exact h2.symm)
     clear hE
     go_wp2
     go_quiet (fail)
     go_wp2
     go_ret
     exact ⟨by rw [decide_eq_false hxy'.out]; rfl, below_drewN (drewN_below _ _ _) _⟩
   ·go_wp2
    go_ret
    refine ⟨?_, drewN_below _ _ _⟩
    have h1 := hxy.out
    rw [List.take_of_length_le (by omega), List.take_of_length_le (by have := HN.out; omega)] at h1
    simp [h1]
 ·have hne : ((xs.length : Int) != ys.length) = true := by rw [bne_iff_ne]; omega
  go_enter Tryz.func87, Tryz.ntmps87
  go_wp2
  go_ret
  refine ⟨?_, Below.refl _ _⟩
  rw [decide_eq_false (by rintro rfl; omega)]; rfl
set_option maxHeartbeats 400000 in
theorem l6Same_any (u v : Value) (xs ys : List Int) (w : World) (hu : SlI w w.heap.size u xs) (hv : SlI w w.heap.size v ys) :
  Calls Tryz.prog 40 #[u, v] w fun e w' => e = .returned (.bool (decide (xs = ys))) ∧ Below w.heap.size w w' := by
 obtain ⟨A, c, rfl, _, _, hn, hx⟩ := hu.open_
 obtain ⟨C, d, rfl, _, _, hm, hy⟩ := hv.open_
 clear hu hv
 by_cases hnm : xs.length = ys.length
 ·have heq : ((xs.length : Int) != ys.length) = false := by rw [bne_eq_false_iff_eq]; omega
  have HN := Lib.hid hnm
  clear hnm
  go_enter Tryz.func40, Tryz.ntmps40
  go_wp2
  go_loopw [5] (fun i wr => ∃ k q : Nat, k ≤ xs.length ∧ i = .int .i64 k ∧ wr = w.drewN q ∧ Hid (xs.take k = ys.take k)) (fun i _ => xs.length - (intOf i).toNat)
  case atStart => exact ⟨0, 0, Nat.zero_le _, rfl, rfl, rfl⟩
  case round =>
   obtain ⟨k, q, hk, rfl, rfl, hxy⟩ := hrel
   by_cases hlt : k < xs.length
   ·have hlt' : k < ys.length := by have := HN.out; omega
    obtain ⟨b, o, x, rfl, hb, HX, c1, _⟩ := SlI.at_ hx hlt
    obtain ⟨b', o', x', rfl, hb', HX', c1', _⟩ := SlI.at_ hy hlt'
    clear hx hy
    by_cases hE : x = x'
    ·subst hE
     go_wp2
     go_quiet (fail)
     go_wp2
     go_roundw
     case rel =>
      refine ⟨k + 1, q + nq, by omega, by go_num, rfl, ?_⟩
      show _ = _
      rw [take_snoc HX.out, take_snoc HX'.out, hxy.out]
     case measure => simp [intOf]; omega
    ·have hne : (x != x') = true := by simpa using hE
     have hxy' : Hid (xs ≠ ys) := by
      rintro rfl
      have h2 := HX.out
      rw [HX'.out] at h2
      exact hE (by injection h2 with h2; exact h2.symm)
     clear hE
     go_wp2
     go_quiet (fail)
     go_wp2
     go_ret
     exact ⟨by rw [decide_eq_false hxy'.out]; rfl, below_drewN (drewN_below _ _ _) _⟩
   ·go_wp2
    go_ret
    refine ⟨?_, drewN_below _ _ _⟩
    have h1 := hxy.out
    rw [List.take_of_length_le (by omega), List.take_of_length_le (by have := HN.out; omega)] at h1
    simp [h1]
 ·have hne : ((xs.length : Int) != ys.length) = true := by rw [bne_iff_ne]; omega
  go_enter Tryz.func40, Tryz.ntmps40
  go_wp2
  go_ret
  refine ⟨?_, Below.refl _ _⟩
  rw [decide_eq_false (by rintro rfl; omega)]; rfl
set_option maxHeartbeats 800000 in
theorem implEqualQuivers_any (u v : Value) (p q : Qv) (w : World) (hu : QvR w w.heap.size u p) (hv : QvR w w.heap.size v q) :
  Calls Tryz.prog 66 #[u, v] w fun e w' => e = .returned (.bool (decide (p = q))) ∧ Below w.heap.size w w' := by
 obtain ⟨A, c, C, d, rfl, hf, ht, _, _, _⟩ := hu.open_
 obtain ⟨A', c', C', d', rfl, hf', ht', _, _, _⟩ := hv.open_
 clear hu hv
 obtain ⟨W, hW⟩ : ∃ W, W = (w.alloc (.cells #[.int .i64 p.v, .slice A p.f.length c, .slice C p.t.length d] 28)).alloc (.cells #[.int .i64 q.v, .slice A' q.f.length c', .slice C' q.t.length d'] 28) := ⟨_, rfl⟩
 have g0 : Below w.heap.size w W := by rw [hW]; exact ((Below.refl _ _).alloc (Nat.le_refl _) _).alloc (by simp) _
 have k1 : Blk W w.heap.size 28 #[.int .i64 p.v, .slice A p.f.length c, .slice C p.t.length d] := by rw [hW]; exact (Blk.new _ _ _).alloc _
 have k2 : Blk W (w.heap.size + 1) 28 #[.int .i64 q.v, .slice A' q.f.length c', .slice C' q.t.length d'] := by
  rw [hW]
  have := Blk.new (w.alloc (.cells #[.int .i64 p.v, .slice A p.f.length c, .slice C p.t.length d] 28)) 28 #[.int .i64 q.v, .slice A' q.f.length c', .slice C' q.t.length d']
  simpa only [World.size_alloc] using this
 replace hf := SlI.next g0 hf
 replace hf' := SlI.next g0 hf'
 replace ht := SlI.next g0 ht
 replace ht' := SlI.next g0 ht'
 by_cases h1 : p.v = q.v
 ·have e1 : (p.v == q.v) = true := by rw [h1]; simp
  have H1 := Lib.hid h1
  clear h1
  by_cases h2 : p.f = q.f
  ·have e2 : decide (p.f = q.f) = true := by simpa using h2
   have H2 := Lib.hid h2
   clear h2
   obtain ⟨B, hB⟩ : ∃ B, decide (p.t = q.t) = B := ⟨_, rfl⟩
   have HB := Lib.hid hB
   have hfin : decide (p = q) = B := by
    rw [← hB, decide_eq_decide, qv_ext]
    exact ⟨fun h => h.2.2, fun h => ⟨H1.out, H2.out, h⟩⟩
   rw [hfin]
   clear hfin hB
   go_enter Tryz.func66, Tryz.ntmps66
   go_wp2_with fail
   rw [← hW]; clear hW
   refine (slEqual_any _ _ _ _ _ hf hf').mono ?_; rintro e w1 ⟨rfl, hb1⟩
   clear hf hf'
   replace g0 := bthen g0 hb1
   replace ht := SlI.next hb1 ht
   replace ht' := SlI.next hb1 ht'
   replace k1 := k1.call hb1
   replace c0 := k1.cell' (i := 0) rfl
   replace c1 := k1.cell' (i := 1) rfl
   replace c2 := k1.cell' (i := 2) rfl
   replace k2 := k2.call hb1
   replace d0 := k2.cell' (i := 0) rfl
   replace d1 := k2.cell' (i := 1) rfl
   replace d2 := k2.cell' (i := 2) rfl
   clear hb1
   go_wp2_with fail
   refine (slEqual_any _ _ _ _ _ ht ht').mono ?_; rintro e w_1 ⟨rfl, hb_1⟩
   replace g0 := bthen g0 hb_1
   replace ht := SlI.next hb_1 ht
   replace ht' := SlI.next hb_1 ht'
   replace k1 := k1.call hb_1
   replace c0 := k1.cell' (i := 0) rfl
   replace c1 := k1.cell' (i := 1) rfl
   replace c2 := k1.cell' (i := 2) rfl
   replace k2 := k2.call hb_1
   replace d0 := k2.cell' (i := 0) rfl
   replace d1 := k2.cell' (i := 1) rfl
   replace d2 := k2.cell' (i := 2) rfl
   rw [HB.out]
   clear ht ht' k1 k2
   go_wp2
   go_ret
   exact ⟨rfl, g0⟩
  ·have e2 : decide (p.f = q.f) = false := by simpa using h2
   have hfin : decide (p = q) = false := by
    simp only [decide_eq_false_iff_not, qv_ext]
    exact fun h => h2 h.2.1
   rw [hfin]
   clear hfin h2
   go_enter Tryz.func66, Tryz.ntmps66
   go_wp2_with fail
   rw [← hW]; clear hW
   refine (slEqual_any _ _ _ _ _ hf hf').mono ?_; rintro e w1 ⟨rfl, hb1⟩
   go_wp2
   go_ret
   exact ⟨rfl, bthen g0 hb1⟩
 ·have e1 : (p.v == q.v) = false := by simpa using h1
  have hfin : decide (p = q) = false := by
   simp only [decide_eq_false_iff_not, qv_ext]
   exact fun h => h1 h.1
  rw [hfin]
  clear hfin h1
  go_enter Tryz.func66, Tryz.ntmps66
  go_wp2
  rw [← hW]
  go_ret
  exact ⟨rfl, g0⟩
set_option maxHeartbeats 800000 in
theorem specEqualQuivers_any (u v : Value) (p q : Qv) (w : World) (hu : QvR w w.heap.size u p) (hv : QvR w w.heap.size v q) :
  Calls Tryz.prog 39 #[u, v] w fun e w' => e = .returned (.bool (decide (p = q))) ∧ Below w.heap.size w w' := by
 obtain ⟨A, c, C, d, rfl, hf, ht, _, _, _⟩ := hu.open_
 obtain ⟨A', c', C', d', rfl, hf', ht', _, _, _⟩ := hv.open_
 clear hu hv
 obtain ⟨W, hW⟩ : ∃ W, W = (w.alloc (.cells #[.int .i64 p.v, .slice A p.f.length c, .slice C p.t.length d] 28)).alloc (.cells #[.int .i64 q.v, .slice A' q.f.length c', .slice C' q.t.length d'] 28) := ⟨_, rfl⟩
 have g0 : Below w.heap.size w W := by rw [hW]; exact ((Below.refl _ _).alloc (Nat.le_refl _) _).alloc (by simp) _
 have k1 : Blk W w.heap.size 28 #[.int .i64 p.v, .slice A p.f.length c, .slice C p.t.length d] := by rw [hW]; exact (Blk.new _ _ _).alloc _
 have k2 : Blk W (w.heap.size + 1) 28 #[.int .i64 q.v, .slice A' q.f.length c', .slice C' q.t.length d'] := by
  rw [hW]
  have := Blk.new (w.alloc (.cells #[.int .i64 p.v, .slice A p.f.length c, .slice C p.t.length d] 28)) 28 #[.int .i64 q.v, .slice A' q.f.length c', .slice C' q.t.length d']
  simpa only [World.size_alloc] using this
 replace hf := SlI.next g0 hf
 replace hf' := SlI.next g0 hf'
 replace ht := SlI.next g0 ht
 replace ht' := SlI.next g0 ht'
 by_cases h1 : p.v = q.v
 ·have e1 : (p.v == q.v) = true := by rw [h1]; simp
  have H1 := Lib.hid h1
  clear h1
  by_cases h2 : p.f = q.f
  ·have e2 : decide (p.f = q.f) = true := by simpa using h2
   have H2 := Lib.hid h2
   clear h2
   obtain ⟨B, hB⟩ : ∃ B, decide (p.t = q.t) = B := ⟨_, rfl⟩
   have HB := Lib.hid hB
   have hfin : decide (p = q) = B := by
    rw [← hB, decide_eq_decide, qv_ext]
    exact ⟨fun h => h.2.2, fun h => ⟨H1.out, H2.out, h⟩⟩
   rw [hfin]
   clear hfin hB
   go_enter Tryz.func39, Tryz.ntmps39
   go_wp2_with fail
   rw [← hW]; clear hW
   refine (l6Same_any _ _ _ _ _ hf hf').mono ?_; rintro e w1 ⟨rfl, hb1⟩
   clear hf hf'
   replace g0 := bthen g0 hb1
   replace ht := SlI.next hb1 ht
   replace ht' := SlI.next hb1 ht'
   replace k1 := k1.call hb1
   replace c0 := k1.cell' (i := 0) rfl
   replace c1 := k1.cell' (i := 1) rfl
   replace c2 := k1.cell' (i := 2) rfl
   replace k2 := k2.call hb1
   replace d0 := k2.cell' (i := 0) rfl
   replace d1 := k2.cell' (i := 1) rfl
   replace d2 := k2.cell' (i := 2) rfl
   clear hb1
   go_wp2_with fail
   refine (l6Same_any _ _ _ _ _ ht ht').mono ?_; rintro e w_2 ⟨rfl, hb_2⟩
   replace g0 := bthen g0 hb_2
   replace ht := SlI.next hb_2 ht
   replace ht' := SlI.next hb_2 ht'
   replace k1 := k1.call hb_2
   replace c0 := k1.cell' (i := 0) rfl
   replace c1 := k1.cell' (i := 1) rfl
   replace c2 := k1.cell' (i := 2) rfl
   replace k2 := k2.call hb_2
   replace d0 := k2.cell' (i := 0) rfl
   replace d1 := k2.cell' (i := 1) rfl
   replace d2 := k2.cell' (i := 2) rfl
   rw [HB.out]
   clear ht ht' k1 k2
   go_wp2
   go_ret
   exact ⟨rfl, g0⟩
  ·have e2 : decide (p.f = q.f) = false := by simpa using h2
   have hfin : decide (p = q) = false := by
    simp only [decide_eq_false_iff_not, qv_ext]
    exact fun h => h2 h.2.1
   rw [hfin]
   clear hfin h2
   go_enter Tryz.func39, Tryz.ntmps39
   go_wp2_with fail
   rw [← hW]; clear hW
   refine (l6Same_any _ _ _ _ _ hf hf').mono ?_; rintro e w1 ⟨rfl, hb1⟩
   go_wp2
   go_ret
   exact ⟨rfl, bthen g0 hb1⟩
 ·have e1 : (p.v == q.v) = false := by simpa using h1
  have hfin : decide (p = q) = false := by
   simp only [decide_eq_false_iff_not, qv_ext]
   exact fun h => h1 h.1
  rw [hfin]
  clear hfin h1
  go_enter Tryz.func39, Tryz.ntmps39
  go_wp2
  rw [← hW]
  go_ret
  exact ⟨rfl, g0⟩
def pQ : Qv := ⟨2, [0, 0], [1, 1]⟩
theorem pencilQuiver_any (w : World) : Calls Tryz.prog 60 #[] w fun e w' => ∃ v, e = .returned v ∧ QuivO w' w.heap.size w'.heap.size v pQ ∧ Below w.heap.size w w' := by
 obtain ⟨W, hW⟩ : ∃ W, W = ((w.alloc (.cells #[.int .i64 2, .slice (some ⟨w.heap.size + 1, 0, none⟩) 2 2, .slice (some ⟨w.heap.size + 1 + 1, 0, none⟩) 2 2] 28)).alloc (.cells #[.int .i64 0, .int .i64 0] 3)).alloc (.cells #[.int .i64 1, .int .i64 1] 3) := ⟨_, rfl⟩
 have g0 : Below w.heap.size w W := by rw [hW]; exact (((Below.refl _ _).alloc (Nat.le_refl _) _).alloc (by simp) _).alloc (by simp; omega) _
 have k0 : Blk W w.heap.size 28 #[.int .i64 2, .slice (some ⟨w.heap.size + 1, 0, none⟩) 2 2, .slice (some ⟨w.heap.size + 1 + 1, 0, none⟩) 2 2] := by rw [hW]; exact ((Blk.new _ _ _).alloc _).alloc _
 have k1 : Blk W (w.heap.size + 1) 3 #[.int .i64 0, .int .i64 0] := by
  rw [hW]
  have := (Blk.new (w.alloc (.cells #[.int .i64 2, .slice (some ⟨w.heap.size + 1, 0, none⟩) 2 2, .slice (some ⟨w.heap.size + 1 + 1, 0, none⟩) 2 2] 28)) 3 #[.int .i64 0, .int .i64 0]).alloc (.cells #[.int .i64 1, .int .i64 1] 3)
  simpa only [World.size_alloc] using this
 have k2 : Blk W (w.heap.size + 1 + 1) 3 #[.int .i64 1, .int .i64 1] := by
  rw [hW]
  have := Blk.new ((w.alloc (.cells #[.int .i64 2, .slice (some ⟨w.heap.size + 1, 0, none⟩) 2 2, .slice (some ⟨w.heap.size + 1 + 1, 0, none⟩) 2 2] 28)).alloc (.cells #[.int .i64 0, .int .i64 0] 3)) 3 #[.int .i64 1, .int .i64 1]
  simpa only [World.size_alloc] using this
 have zW : W.heap.size = w.heap.size + 1 + 1 + 1 := by rw [hW]; simp
 have c0 := k0.cell' (i := 0) rfl
 have c1 := k0.cell' (i := 1) rfl
 have c2 := k0.cell' (i := 2) rfl
 have o1 : OwnI W (w.heap.size + 1) (.slice (some ⟨w.heap.size + 1, 0, none⟩) 2 2) [0, 0] := OwnI.of_blk (xs := [0, 0]) k1 (Nat.le_refl _) ⟨rfl, fun j x hj hx => by
  match j, hx with
  | 0, hx => simp at hx; subst hx; rfl
  | 1, hx => simp at hx; subst hx; rfl
  | j + 2, hx => simp at hx⟩ (by simp) (by simp [I64])
 have o2 : OwnI W (w.heap.size + 1 + 1) (.slice (some ⟨w.heap.size + 1 + 1, 0, none⟩) 2 2) [1, 1] := OwnI.of_blk (xs := [1, 1]) k2 (Nat.le_refl _) ⟨rfl, fun j x hj hx => by
  match j, hx with
  | 0, hx => simp at hx; subst hx; rfl
  | 1, hx => simp at hx; subst hx; rfl
  | j + 2, hx => simp at hx⟩ (by simp) (by simp [I64])
 have hF : QuivO W w.heap.size W.heap.size (.agg #[.int .i64 2, .slice (some ⟨w.heap.size + 1, 0, none⟩) 2 2, .slice (some ⟨w.heap.size + 1 + 1, 0, none⟩) 2 2]) pQ :=
  ⟨_, _, rfl, Fam.mono (fam_two (lo := w.heap.size + 1) (mi := w.heap.size + 1 + 1) (hi := W.heap.size) ⟨o1, by simp [Value.ownBlock]⟩ (IntsO.of_own o2) (by omega) (by omega)) (by omega) (Nat.le_refl _), by simp [pQ, I64]⟩
 have HF := Lib.hid hF
 clear hF k0 k1 k2 o1 o2 zW
 go_enter Tryz.func60, Tryz.ntmps60
 go_wp2
 rw [← hW]
 exact bodyPost_ret (v := .agg #[.int .i64 2, .slice (some ⟨w.heap.size + 1, 0, none⟩) 2 2, .slice (some ⟨w.heap.size + 1 + 1, 0, none⟩) 2 2]) (by simp [results, go_sem, c0, c1, c2]) rfl ⟨_, rfl, HF.out, g0⟩
theorem l26Quiver_any (w : World) : Calls Tryz.prog 63 #[] w fun e w' => ∃ v, e = .returned v ∧ QuivO w' w.heap.size w'.heap.size v pQ ∧ Below w.heap.size w w' := by
 obtain ⟨W, hW⟩ : ∃ W, W = ((w.alloc (.cells #[.int .i64 2, .slice (some ⟨w.heap.size + 1, 0, none⟩) 2 2, .slice (some ⟨w.heap.size + 1 + 1, 0, none⟩) 2 2] 28)).alloc (.cells #[.int .i64 0, .int .i64 0] 3)).alloc (.cells #[.int .i64 1, .int .i64 1] 3) := ⟨_, rfl⟩
 have g0 : Below w.heap.size w W := by rw [hW]; exact (((Below.refl _ _).alloc (Nat.le_refl _) _).alloc (by simp) _).alloc (by simp; omega) _
 have k0 : Blk W w.heap.size 28 #[.int .i64 2, .slice (some ⟨w.heap.size + 1, 0, none⟩) 2 2, .slice (some ⟨w.heap.size + 1 + 1, 0, none⟩) 2 2] := by rw [hW]; exact ((Blk.new _ _ _).alloc _).alloc _
 have k1 : Blk W (w.heap.size + 1) 3 #[.int .i64 0, .int .i64 0] := by
  rw [hW]
  have := (Blk.new (w.alloc (.cells #[.int .i64 2, .slice (some ⟨w.heap.size + 1, 0, none⟩) 2 2, .slice (some ⟨w.heap.size + 1 + 1, 0, none⟩) 2 2] 28)) 3 #[.int .i64 0, .int .i64 0]).alloc (.cells #[.int .i64 1, .int .i64 1] 3)
  simpa only [World.size_alloc] using this
 have k2 : Blk W (w.heap.size + 1 + 1) 3 #[.int .i64 1, .int .i64 1] := by
  rw [hW]
  have := Blk.new ((w.alloc (.cells #[.int .i64 2, .slice (some ⟨w.heap.size + 1, 0, none⟩) 2 2, .slice (some ⟨w.heap.size + 1 + 1, 0, none⟩) 2 2] 28)).alloc (.cells #[.int .i64 0, .int .i64 0] 3)) 3 #[.int .i64 1, .int .i64 1]
  simpa only [World.size_alloc] using this
 have zW : W.heap.size = w.heap.size + 1 + 1 + 1 := by rw [hW]; simp
 have c0 := k0.cell' (i := 0) rfl
 have c1 := k0.cell' (i := 1) rfl
 have c2 := k0.cell' (i := 2) rfl
 have o1 : OwnI W (w.heap.size + 1) (.slice (some ⟨w.heap.size + 1, 0, none⟩) 2 2) [0, 0] := OwnI.of_blk (xs := [0, 0]) k1 (Nat.le_refl _) ⟨rfl, fun j x hj hx => by
  match j, hx with
  | 0, hx => simp at hx; subst hx; rfl
  | 1, hx => simp at hx; subst hx; rfl
  | j + 2, hx => simp at hx⟩ (by simp) (by simp [I64])
 have o2 : OwnI W (w.heap.size + 1 + 1) (.slice (some ⟨w.heap.size + 1 + 1, 0, none⟩) 2 2) [1, 1] := OwnI.of_blk (xs := [1, 1]) k2 (Nat.le_refl _) ⟨rfl, fun j x hj hx => by
  match j, hx with
  | 0, hx => simp at hx; subst hx; rfl
  | 1, hx => simp at hx; subst hx; rfl
  | j + 2, hx => simp at hx⟩ (by simp) (by simp [I64])
 have hF : QuivO W w.heap.size W.heap.size (.agg #[.int .i64 2, .slice (some ⟨w.heap.size + 1, 0, none⟩) 2 2, .slice (some ⟨w.heap.size + 1 + 1, 0, none⟩) 2 2]) pQ :=
  ⟨_, _, rfl, Fam.mono (fam_two (lo := w.heap.size + 1) (mi := w.heap.size + 1 + 1) (hi := W.heap.size) ⟨o1, by simp [Value.ownBlock]⟩ (IntsO.of_own o2) (by omega) (by omega)) (by omega) (Nat.le_refl _), by simp [pQ, I64]⟩
 have HF := Lib.hid hF
 clear hF k0 k1 k2 o1 o2 zW
 go_enter Tryz.func63, Tryz.ntmps63
 go_wp2
 rw [← hW]
 exact bodyPost_ret (v := .agg #[.int .i64 2, .slice (some ⟨w.heap.size + 1, 0, none⟩) 2 2, .slice (some ⟨w.heap.size + 1 + 1, 0, none⟩) 2 2]) (by simp [results, go_sem, c0, c1, c2]) rfl ⟨_, rfl, HF.out, g0⟩
def isPen (x : Rp) : Bool := isRep x && decide (x.q = pQ)
set_option maxHeartbeats 1600000 in
set_option maxRecDepth 100000 in
theorem implIsPencil_any (u : Value) (x : Rp) (w : World) (hu : RpR w w.heap.size u x) :
  Calls Tryz.prog 25 #[u] w fun e w' => e = .returned (.bool (isPen x)) ∧ Below w.heap.size w w' := by
 have hx := hu
 obtain ⟨A, a, C, c, E, e, H, h, rfl, hq, hd, hm, hp, ld, lm⟩ := hu.open_
 clear hu
 obtain ⟨W, hW⟩ : ∃ W, W = w.alloc (.cells #[.int .i64 x.p, .int .i64 x.q.v, .slice A x.q.f.length a, .slice C x.q.t.length c, .slice E x.d.length e, .slice H x.m.length h] 31) := ⟨_, rfl⟩
 have g0 : Below w.heap.size w W := by rw [hW]; exact below_alloc _ _
 have kB : Blk W w.heap.size 31 #[.int .i64 x.p, .int .i64 x.q.v, .slice A x.q.f.length a, .slice C x.q.t.length c, .slice E x.d.length e, .slice H x.m.length h] := by rw [hW]; exact Blk.new _ _ _
 have c0 := kB.cell' (i := 0) rfl
 have c1 := kB.cell' (i := 1) rfl
 have c2 := kB.cell' (i := 2) rfl
 have c3 := kB.cell' (i := 3) rfl
 have c4 := kB.cell' (i := 4) rfl
 have c5 := kB.cell' (i := 5) rfl
 replace hq := QvR.next g0 hq
 replace hd := SlI.next g0 hd
 replace hm := SlM.next g0 hm
 replace hx := RpR.next g0 hx
 clear hd hm
 unfold isPen
 rcases h1 : isRep x with _ | _
 ·have HX : Hid (∀ s : InB W, RpR s.val s.val.heap.size (.agg #[.int .i64 x.p, .int .i64 x.q.v, .slice A x.q.f.length a, .slice C x.q.t.length c, .slice E x.d.length e, .slice H x.m.length h]) x) := fun s => RpR.next s.below hx
  have r0 := fun s : InB W => (kB.call s.below).cell' (i := 0) rfl
  have r1 := fun s : InB W => (kB.call s.below).cell' (i := 1) rfl
  have r2 := fun s : InB W => (kB.call s.below).cell' (i := 2) rfl
  have r3 := fun s : InB W => (kB.call s.below).cell' (i := 3) rfl
  have r4 := fun s : InB W => (kB.call s.below).cell' (i := 4) rfl
  have r5 := fun s : InB W => (kB.call s.below).cell' (i := 5) rfl
  have HC : Hid (∀ s : InB W, Calls Tryz.prog 62 #[.agg #[.int .i64 x.p, .int .i64 x.q.v, .slice A x.q.f.length a, .slice C x.q.t.length c, .slice E x.d.length e, .slice H x.m.length h]] s.val fun e w' => e = .returned (.bool false) ∧ Below s.val.heap.size s.val w') := fun s => by
   have := implIsRep_any _ x _ (HX.out s)
   rwa [h1] at this
  clear kB c0 c1 c2 c3 c4 c5 hq hx HX h1
  go_enter Tryz.func25, Tryz.ntmps25
  go_wp2
  rw [← hW]; clear hW
  (refine wp_region_inB (by kernel_rfl) (by kernel_rfl) ?_; (repeat (go_big_quiet_step ((go_at_call 62; exact InB.call (HC.out _))))); refine wpQuiet_nil ?_; intro w1 hw'; obtain ⟨s1, hw1⟩ := hw'; have hb1 := s1.below; rw [← hw1] at hb1; clear hw1 s1)
  go_wp2
  go_ret
  exact ⟨rfl, bthen g0 hb1⟩
 have hdr := drew_below W
 replace g0 := bthen g0 hdr
 replace hx := RpR.next hdr hx
 replace hq := QvR.next hdr hq
 replace kB := kB.call hdr
 replace c0 := kB.cell' (i := 0) rfl
 replace c1 := kB.cell' (i := 1) rfl
 replace c2 := kB.cell' (i := 2) rfl
 replace c3 := kB.cell' (i := 3) rfl
 replace c4 := kB.cell' (i := 4) rfl
 replace c5 := kB.cell' (i := 5) rfl
 clear hdr
 obtain ⟨B, hB⟩ : ∃ B, decide (x.q = pQ) = B := ⟨_, rfl⟩
 rw [hB]
 have HB := Lib.hid hB
 clear hB
 go_enter Tryz.func25, Tryz.ntmps25
 go_wp2
 rw [← hW]; clear hW
 go_region_held3 (fun W' => W'.cell? ⟨w.heap.size, 0, none⟩ = some (.int .i64 x.p) ∧ W'.cell? ⟨w.heap.size, 1, none⟩ = some (.int .i64 x.q.v) ∧ W'.cell? ⟨w.heap.size, 2, none⟩ = some (.slice A x.q.f.length a) ∧ W'.cell? ⟨w.heap.size, 3, none⟩ = some (.slice C x.q.t.length c) ∧ W'.cell? ⟨w.heap.size, 4, none⟩ = some (.slice E x.d.length e) ∧ W'.cell? ⟨w.heap.size, 5, none⟩ = some (.slice H x.m.length h))
  (first | exact ⟨c0, c1, c2, c3, c4, c5⟩)
  (first | (go_at_call 62; refine (implIsRep_any _ x _ hx).mono ?_; rintro e w1 ⟨rfl, hb1⟩; replace g0 := bthen g0 hb1; replace hx := RpR.next hb1 hx; replace hq := QvR.next hb1 hq; replace kB := kB.call hb1; replace c0 := kB.cell' (i := 0) rfl; replace c1 := kB.cell' (i := 1) rfl; replace c2 := kB.cell' (i := 2) rfl; replace c3 := kB.cell' (i := 3) rfl; replace c4 := kB.cell' (i := 4) rfl; replace c5 := kB.cell' (i := 5) rfl; rw [h1]) | (go_at_call 60; refine (pencilQuiver_any _).mono ?_; rintro e w1 ⟨vq, rfl, hQ, hb1⟩; replace g0 := bthen g0 hb1; replace hx := RpR.next hb1 hx; replace hq := QvR.next hb1 hq; replace kB := kB.call hb1; replace c0 := kB.cell' (i := 0) rfl; replace c1 := kB.cell' (i := 1) rfl; replace c2 := kB.cell' (i := 2) rfl; replace c3 := kB.cell' (i := 3) rfl; replace c4 := kB.cell' (i := 4) rfl; replace c5 := kB.cell' (i := 5) rfl) | (go_at_call 66; refine (implEqualQuivers_any _ _ x.q pQ _ hq hQ.rd).mono ?_; rintro e w1 ⟨rfl, hb1⟩; replace g0 := bthen g0 hb1; replace hx := RpR.next hb1 hx; replace hq := QvR.next hb1 hq; replace kB := kB.call hb1; replace c0 := kB.cell' (i := 0) rfl; replace c1 := kB.cell' (i := 1) rfl; replace c2 := kB.cell' (i := 2) rfl; replace c3 := kB.cell' (i := 3) rfl; replace c4 := kB.cell' (i := 4) rfl; replace c5 := kB.cell' (i := 5) rfl; rw [HB.out]))
 go_wp2
 go_ret
 exact ⟨rfl, g0⟩
set_option maxHeartbeats 1600000 in
set_option maxRecDepth 100000 in
theorem specIsPencil_any (u : Value) (x : Rp) (w : World) (hu : RpR w w.heap.size u x) :
  Calls Tryz.prog 26 #[u] w fun e w' => e = .returned (.bool (isPen x)) ∧ Below w.heap.size w w' := by
 have hx := hu
 obtain ⟨A, a, C, c, E, e, H, h, rfl, hq, hd, hm, hp, ld, lm⟩ := hu.open_
 clear hu
 obtain ⟨W, hW⟩ : ∃ W, W = w.alloc (.cells #[.int .i64 x.p, .int .i64 x.q.v, .slice A x.q.f.length a, .slice C x.q.t.length c, .slice E x.d.length e, .slice H x.m.length h] 31) := ⟨_, rfl⟩
 have g0 : Below w.heap.size w W := by rw [hW]; exact below_alloc _ _
 have kB : Blk W w.heap.size 31 #[.int .i64 x.p, .int .i64 x.q.v, .slice A x.q.f.length a, .slice C x.q.t.length c, .slice E x.d.length e, .slice H x.m.length h] := by rw [hW]; exact Blk.new _ _ _
 have c0 := kB.cell' (i := 0) rfl
 have c1 := kB.cell' (i := 1) rfl
 have c2 := kB.cell' (i := 2) rfl
 have c3 := kB.cell' (i := 3) rfl
 have c4 := kB.cell' (i := 4) rfl
 have c5 := kB.cell' (i := 5) rfl
 replace hq := QvR.next g0 hq
 replace hd := SlI.next g0 hd
 replace hm := SlM.next g0 hm
 replace hx := RpR.next g0 hx
 clear hd hm
 unfold isPen
 rcases h1 : isRep x with _ | _
 ·have HX : Hid (∀ s : InB W, RpR s.val s.val.heap.size (.agg #[.int .i64 x.p, .int .i64 x.q.v, .slice A x.q.f.length a, .slice C x.q.t.length c, .slice E x.d.length e, .slice H x.m.length h]) x) := fun s => RpR.next s.below hx
  have r0 := fun s : InB W => (kB.call s.below).cell' (i := 0) rfl
  have r1 := fun s : InB W => (kB.call s.below).cell' (i := 1) rfl
  have r2 := fun s : InB W => (kB.call s.below).cell' (i := 2) rfl
  have r3 := fun s : InB W => (kB.call s.below).cell' (i := 3) rfl
  have r4 := fun s : InB W => (kB.call s.below).cell' (i := 4) rfl
  have r5 := fun s : InB W => (kB.call s.below).cell' (i := 5) rfl
  have HC : Hid (∀ s : InB W, Calls Tryz.prog 65 #[.agg #[.int .i64 x.p, .int .i64 x.q.v, .slice A x.q.f.length a, .slice C x.q.t.length c, .slice E x.d.length e, .slice H x.m.length h]] s.val fun e w' => e = .returned (.bool false) ∧ Below s.val.heap.size s.val w') := fun s => by
   have := specIsRep_any _ x _ (HX.out s)
   rwa [h1] at this
  clear kB c0 c1 c2 c3 c4 c5 hq hx HX h1
  go_enter Tryz.func26, Tryz.ntmps26
  go_wp2
  rw [← hW]; clear hW
  (refine wp_region_inB (by kernel_rfl) (by kernel_rfl) ?_; (repeat (go_big_quiet_step ((go_at_call 65; exact InB.call (HC.out _))))); refine wpQuiet_nil ?_; intro w1 hw'; obtain ⟨s1, hw1⟩ := hw'; have hb1 := s1.below; rw [← hw1] at hb1; clear hw1 s1)
  go_wp2
  go_ret
  exact ⟨rfl, bthen g0 hb1⟩
 have hdr := drew_below W
 replace g0 := bthen g0 hdr
 replace hx := RpR.next hdr hx
 replace hq := QvR.next hdr hq
 replace kB := kB.call hdr
 replace c0 := kB.cell' (i := 0) rfl
 replace c1 := kB.cell' (i := 1) rfl
 replace c2 := kB.cell' (i := 2) rfl
 replace c3 := kB.cell' (i := 3) rfl
 replace c4 := kB.cell' (i := 4) rfl
 replace c5 := kB.cell' (i := 5) rfl
 clear hdr
 obtain ⟨B, hB⟩ : ∃ B, decide (x.q = pQ) = B := ⟨_, rfl⟩
 rw [hB]
 have HB := Lib.hid hB
 clear hB
 go_enter Tryz.func26, Tryz.ntmps26
 go_wp2
 rw [← hW]; clear hW
 go_region_held3 (fun W' => W'.cell? ⟨w.heap.size, 0, none⟩ = some (.int .i64 x.p) ∧ W'.cell? ⟨w.heap.size, 1, none⟩ = some (.int .i64 x.q.v) ∧ W'.cell? ⟨w.heap.size, 2, none⟩ = some (.slice A x.q.f.length a) ∧ W'.cell? ⟨w.heap.size, 3, none⟩ = some (.slice C x.q.t.length c) ∧ W'.cell? ⟨w.heap.size, 4, none⟩ = some (.slice E x.d.length e) ∧ W'.cell? ⟨w.heap.size, 5, none⟩ = some (.slice H x.m.length h))
  (first | exact ⟨c0, c1, c2, c3, c4, c5⟩)
  (first | (go_at_call 65; refine (specIsRep_any _ x _ hx).mono ?_; rintro e w1 ⟨rfl, hb1⟩; replace g0 := bthen g0 hb1; replace hx := RpR.next hb1 hx; replace hq := QvR.next hb1 hq; replace kB := kB.call hb1; replace c0 := kB.cell' (i := 0) rfl; replace c1 := kB.cell' (i := 1) rfl; replace c2 := kB.cell' (i := 2) rfl; replace c3 := kB.cell' (i := 3) rfl; replace c4 := kB.cell' (i := 4) rfl; replace c5 := kB.cell' (i := 5) rfl; rw [h1]) | (go_at_call 63; refine (l26Quiver_any _).mono ?_; rintro e w1 ⟨vq, rfl, hQ, hb1⟩; replace g0 := bthen g0 hb1; replace hx := RpR.next hb1 hx; replace hq := QvR.next hb1 hq; replace kB := kB.call hb1; replace c0 := kB.cell' (i := 0) rfl; replace c1 := kB.cell' (i := 1) rfl; replace c2 := kB.cell' (i := 2) rfl; replace c3 := kB.cell' (i := 3) rfl; replace c4 := kB.cell' (i := 4) rfl; replace c5 := kB.cell' (i := 5) rfl) | (go_at_call 39; refine (specEqualQuivers_any _ _ x.q pQ _ hq hQ.rd).mono ?_; rintro e w1 ⟨rfl, hb1⟩; replace g0 := bthen g0 hb1; replace hx := RpR.next hb1 hx; replace hq := QvR.next hb1 hq; replace kB := kB.call hb1; replace c0 := kB.cell' (i := 0) rfl; replace c1 := kB.cell' (i := 1) rfl; replace c2 := kB.cell' (i := 2) rfl; replace c3 := kB.cell' (i := 3) rfl; replace c4 := kB.cell' (i := 4) rfl; replace c5 := kB.cell' (i := 5) rfl; rw [HB.out]))
 go_wp2
 go_ret
 exact ⟨rfl, g0⟩
end Go.Proofs.YthhjoamgcfiecaaGreat
