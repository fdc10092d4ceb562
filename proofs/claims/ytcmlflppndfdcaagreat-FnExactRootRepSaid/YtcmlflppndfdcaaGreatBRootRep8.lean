/- FnExactRootRep: the law holds for every argument. Part 8 of 18 of the proof: Red1, Rank0, RankT, RrU, Src, KerF, HomP, Zero2, SSO, HomM. No condition. -/
import Derived.Test.YtcmlflppndfdcaaGreatBRootRep7
set_option linter.unusedVariables false
set_option linter.unusedSimpArgs false
namespace Go.Proofs.YtcmlflppndfdcaaGreat
open Go.RowKit
set_option maxHeartbeats 12800000 in
set_option maxRecDepth 100000 in
theorem implReduce_any (p : Int) (u : Value) (r c : Nat) (f : Nat → Nat → Int) (w0 : World) (hp : isFld p = true) (hr : r ≤ 1000) (hc : c ≤ 1000) (hu : MxR w0 w0.heap.size u (mxF r c f)) (hf : InF p r c f) :
  Calls Tryz.prog 74 #[.int .i64 p, u] w0 fun e w' => ∃ m v, e = .returned (.tuple #[m, v]) ∧ MxO w' w0.heap.size w'.heap.size m (mxF r c (rdTo p r f c).1) ∧ IntsO w' w0.heap.size w'.heap.size v (rdTo p r f c).2 ∧ Below w0.heap.size w0 w' := by
 have hpr := isFld_r hp
 have hu' := hu
 obtain ⟨UA, uc, rfl⟩ := hu.form
 simp only [mxF] at hu hu' ⊢
 rw [flat_length] at hu hu' ⊢
 obtain ⟨UL, hUL⟩ : ∃ n, r * c = n := ⟨_, rfl⟩
 rw [hUL] at hu hu' ⊢
 have HUL := Lib.hid hUL
 clear hUL hu
 obtain ⟨W, hW⟩ : ∃ W, W = (w0.alloc (.cells #[.int .i64 r, .int .i64 c, .slice UA UL uc] 50)).alloc (.cells #[.int .i64 0, .int .i64 0, .slice none 0 0] 50) := ⟨_, rfl⟩
 have g0 : Below w0.heap.size w0 W := by rw [hW]; exact ((Below.refl _ _).alloc (Nat.le_refl _) _).alloc (by simp) _
 have kB : Blk W w0.heap.size 50 #[.int .i64 r, .int .i64 c, .slice UA UL uc] := by rw [hW]; exact (Blk.new _ _ _).alloc _
 have kR : Blk W (w0.heap.size + 1) 50 #[.int .i64 0, .int .i64 0, .slice none 0 0] := by
  rw [hW]
  have := Blk.new (w0.alloc (.cells #[.int .i64 r, .int .i64 c, .slice UA UL uc] 50)) 50 #[.int .i64 0, .int .i64 0, .slice none 0 0]
  simpa only [World.size_alloc] using this
 have sz : W.heap.size = w0.heap.size + 1 + 1 := by rw [hW]; simp
 have SZ := Lib.hid sz
 have HU := Lib.hid (MxR.next g0 hu')
 have HF := Lib.hid hf
 have HP := Lib.hid hp
 have c0 := kB.cell' (i := 0) rfl
 have c1 := kB.cell' (i := 1) rfl
 have c2 := kB.cell' (i := 2) rfl
 clear hu' sz hf hp
 go_enter Tryz.func74, Tryz.ntmps74
 go_wp2_with fail
 rw [← hW]; clear hW
 refine (mxClone_any _ _ _ HU.out).mono ?_; rintro e w1 ⟨v1, rfl, hM, hb1⟩
 obtain ⟨A, cap, ev⟩ := hM.form
 subst ev
 simp only [flat_length] at hM ⊢
 obtain ⟨L, hL⟩ : ∃ n, r * c = n := ⟨_, rfl⟩
 rw [hL] at hM ⊢
 have HL := Lib.hid hL
 clear hL
 have kB1 := kB.call hb1
 have kR1 := kR.call hb1
 have g1 := bthen g0 hb1
 clear c0 c1 c2
 have c0 := kB1.cell' (i := 0) rfl
 have c1 := kB1.cell' (i := 1) rfl
 have c2 := kB1.cell' (i := 2) rfl
 have fr := kB1.frozen
 have s1 := hb1.size
 have sz := SZ.out
 obtain ⟨w2, hw2⟩ : ∃ w2, w2 = ((w1.setCell ⟨w0.heap.size, 0, none⟩ (.int .i64 r)).setCell ⟨w0.heap.size, 1, none⟩ (.int .i64 c)).setCell ⟨w0.heap.size, 2, none⟩ (.slice A L cap) := ⟨_, rfl⟩
 have hch : Chg w0.heap.size (w0.heap.size + 1) w1 w2 := by rw [hw2]; exact chg3 w1 _ _ _ _
 have kB2 : Blk w2 w0.heap.size 50 #[.int .i64 r, .int .i64 c, .slice A L cap] := by rw [hw2]; exact ((kB1.set_ 0 _).set_ 1 _).set_ 2 _
 have kR2 := kR1.chg hch (.inr (by omega))
 have g2 : Below w0.heap.size w0 w2 := g1.trans (hch.below (Nat.le_refl _) (by omega))
 have s2 := hch.size
 obtain ⟨sA, esA, hIA, _, _⟩ := hM
 simp only [Value.agg.injEq, Array.mk.injEq, List.cons.injEq, and_true, true_and] at esA
 subst esA
 have hI2 := hIA.chg hch (.inr (by omega))
 have hS0 : RS W.heap.size w2 A r c L cap w2 (rdTo p r f 0).1 (.slice none 0 0) (rdTo p r f 0).2 := by
  refine ⟨Below.refl _ _, ?_⟩
  refine ⟨fun q hq => ?_, List.pairwise_pair.2 (Classical.em _)⟩
  simp only [List.mem_cons, List.not_mem_nil, or_false] at hq
  rcases hq with rfl | rfl
  ·exact hI2.wider (Nat.le_refl _) s2
  ·exact ⟨OwnI.nil _ _, by simp [Value.ownBlock]⟩
 have KB := Lib.hid kB2
 have KR := Lib.hid kR2
 have G2 := Lib.hid g2
 have hWB : W.heap.size ≤ w2.heap.size := by omega
 have HB0 : Hid (w0.heap.size < W.heap.size) := by show _ < _; omega
 have HWB := Lib.hid hWB
 clear kB kB1 kR kR1 g0 g1 hIA hI2 hch kB2 kR2 g2 s1 s2 sz hb1 hWB
 go_wp2
 rw [← hw2]; clear hw2 c0 c1 c2 fr
 go_loopw [6, 18] (fun pv i wr => ∃ k : Nat, k ≤ c ∧ i = .int .i64 k ∧ RS W.heap.size w2 A r c L cap wr (rdTo p r f k).1 pv (rdTo p r f k).2) (fun _ i _ => c - (intOf i).toNat)
 case atStart => exact ⟨0, Nat.zero_le _, rfl, hS0⟩
 case round =>
  clear hS0
  obtain ⟨k, hk, rfl, S⟩ := hrel
  obtain ⟨PA, pc, ev, _, _⟩ := S.ownP.1.form
  subst ev
  have hln := rdTo_len p r f k
  have hin := inF_to hpr.1 HF.out k
  have hrs := rdTo_succ p r f k
  obtain ⟨F, hFF⟩ : ∃ F, (rdTo p r f k).1 = F := ⟨_, rfl⟩
  obtain ⟨ps, hps⟩ : ∃ ps, (rdTo p r f k).2 = ps := ⟨_, rfl⟩
  have hpm := rdTo_mem p r f k
  rw [hps] at hpm
  rw [hFF, hps] at S hrs
  rw [hps] at hln
  rw [hFF] at hin
  rw [hps]
  obtain ⟨n, hn⟩ : ∃ n, ps.length = n := ⟨_, rfl⟩
  rw [hn] at hln hrs S ⊢
  have HRS := Lib.hid hrs
  clear hrs
  have HPM := Lib.hid hpm
  have HN := Lib.hid hn
  have HIN := Lib.hid hin
  have HFF := Lib.hid hFF
  have HPS := Lib.hid hps
  clear hFF hps hn hin hpm
  by_cases hlt : k < c
  ·have kb := KB.out.below (S).bel HB0.out
   have c0 := kb.cell' (i := 0) rfl
   have c1 := kb.cell' (i := 1) rfl
   have c2 := kb.cell' (i := 2) rfl
   have hSS := Lib.hid S
   clear kb
   go_wp2
   go_loopw [8] (fun i wr => ∃ a : Nat, n ≤ a ∧ a ≤ r ∧ i = .int .i64 a ∧ RS W.heap.size w2 A r c L cap wr F (.slice PA n pc) ps ∧ Hid (∀ i, n ≤ i → i < a → F i k = 0)) (fun i _ => r - (intOf i).toNat)
   case atStart => exact ⟨n, Nat.le_refl _, hln.1, rfl, S, fun i h1 h2 => by omega⟩
   case round =>
    clear c0 c1 c2 S
    obtain ⟨a, hna, har, rfl, S, hz⟩ := hrel
    have kb := KB.out.below (S).bel HB0.out
    have c0 := kb.cell' (i := 0) rfl
    have c1 := kb.cell' (i := 1) rfl
    have c2 := kb.cell' (i := 2) rfl
    by_cases hlr : a < r
    ·obtain ⟨P1, _, P3⟩ := rowP hlr hlt hr hc rfl
     obtain ⟨g, eA, eL, hLc, hcb, hBg, hgw⟩ := S.addr (by omega)
     subst eA
     obtain ⟨Q, hQ⟩ : ∃ Q, Q = a * c := ⟨_, rfl⟩
     have HQ := Lib.hid hQ
     have EL := Lib.hid eL
     rw [← hQ] at P1
     rw [← eL] at P1 P3
     clear hQ eL
     go_wp2_with fail
     refine (row_in _ hlr (by omega) hr hc EL.out hLc hcb HQ.out).mono ?_; rintro e w3 ⟨rfl, hb3⟩
     have S3 := S.call HWB.out hb3
     obtain ⟨z1, _, _⟩ := S3.cellP hlr hlt HQ.out
     clear kb c0 c1 c2 S hb3
     have kb := KB.out.below (S3).bel HB0.out
     have c0 := kb.cell' (i := 0) rfl
     have c1 := kb.cell' (i := 1) rfl
     have c2 := kb.cell' (i := 2) rfl
     by_cases hz0 : F a k = 0
     ·rw [hz0] at z1
      have HZ : Hid (∀ i, n ≤ i → i < a + 1 → F i k = 0) := fun i h1 h2 => by
       by_cases e : i = a
       ·subst e; exact hz0
       ·exact hz.out i h1 (by omega)
      clear hz0
      go_wp2
      go_roundw
      case rel => exact ⟨a + 1, by omega, by omega, by go_num, S3, HZ.out⟩
      case measure => simp [intOf]; omega
     ·have hzb : (F a k == 0) = false := by simpa using hz0
      have hza := nzF_eq (f := F) (k := k) hna har hz.out (fun _ => hz0)
      have hnr : n < r := by omega
      have hane : (a : Int) ≠ r := by omega
      have HRS2 := Lib.hid (HRS.out.trans (if_pos (by rw [hza]; exact hlr)))
      have HZA := Lib.hid hza
      clear hz0 hza hz
      obtain ⟨P, hP⟩ : ∃ P, P = n * c := ⟨_, rfl⟩
      have hrp := rowP hnr hlt hr hc hP
      rw [← EL.out] at hrp
      have HPP := Lib.hid hP
      clear hP
      go_wp2_with fail
      refine (row_in _ hnr (by omega) hr hc EL.out hLc hcb HPP.out).mono ?_; rintro e w4 ⟨rfl, hb4⟩
      have S4 := S3.call HWB.out hb4
      rw [← sw_0 n a F] at S4
      clear kb c0 c1 c2 S3 hb4 hgw z1
      have kb := KB.out.below (S4).bel HB0.out
      have c0 := kb.cell' (i := 0) rfl
      have c1 := kb.cell' (i := 1) rfl
      have c2 := kb.cell' (i := 2) rfl
      go_wp2
      clear kb c0 c1 c2
      go_loopw [48] (fun i wr => ∃ j : Nat, j ≤ c ∧ i = .int .i64 j ∧ RS W.heap.size w2 (some ⟨g, 0, none⟩) r c L cap wr (swJ n a j F) (.slice PA n pc) ps) (fun i _ => c - (intOf i).toNat)
      case atStart => exact ⟨0, Nat.zero_le _, rfl, S4⟩
      case round =>
       clear S4
       obtain ⟨j, hj, rfl, S⟩ := hrel
       by_cases hljc : j < c
       ·obtain ⟨a1, a2, a3⟩ := rowP hlr hljc hr hc HQ.out
        obtain ⟨b1, b2, b3⟩ := rowP hnr hljc hr hc HPP.out
        rw [← EL.out] at a1 a2 a3 b1 b2 b3
        have hst := sw_step F hnr hlr hljc
        rw [← HQ.out, ← HPP.out] at hst
        have HST := Lib.hid hst
        have hsr := S.size HWB.out
        have hSS := Lib.hid S
        clear hst S
        go_wp2
        obtain ⟨y, hy⟩ : ∃ y, y = F := ⟨_, rfl⟩
        refine wp_region_net2 (by kernel_rfl) [.eq (.slice (some ⟨g, P, none⟩) c (cap - P)), .eq (.int .i64 j), .eq (.agg #[.int .i64 r, .int .i64 c, .slice (some ⟨g, 0, none⟩) L cap]), .eq (.int .i64 a), .eq (.slice (some ⟨g, Q, none⟩) c (cap - Q)), .eq (.int .i64 j), .eq (.agg #[.int .i64 r, .int .i64 c, .slice (some ⟨g, 0, none⟩) L cap]), .eq (.int .i64 a), .eq (.slice (some ⟨g, Q, none⟩) c (cap - Q)), .eq (.int .i64 j), .eq (.pointer (some ⟨g, Q + j, none⟩)), .eq (.int .i64 (F a j)), .eq (.slice (some ⟨g, P, none⟩) c (cap - P)), .eq (.int .i64 j), .eq (.pointer (some ⟨g, P + j, none⟩)), .eq (.int .i64 (F n j)), .eq (.pointer (some ⟨g, P + j, none⟩))] [[], [], [], [], [2, 3], [], [], [], [2, 3, 4, 6, 7], [], [2, 3, 4, 6, 7, 8, 9], [2, 3, 4, 6, 7, 8, 9, 10], [], [], [12, 13], [12, 13, 14], [0, 1, 2, 3, 4, 6, 7, 8, 9, 10, 11, 12, 13, 14, 15], [0, 1, 2, 3, 4, 6, 7, 8, 9, 10, 11, 12, 13, 14, 15, 16], [0, 1, 2, 3, 4, 5, 6, 7, 8, 9, 10, 11, 12, 13, 14, 15, 16, 17], [0, 1, 2, 3, 4, 5, 6, 7, 8, 9, 10, 11, 12, 13, 14, 15, 16, 17, 18]] 17 5 [0, 1, 2, 3, 4, 6, 7, 8, 9, 10, 11, 12, 13, 14, 15, 16] (by kernel_rfl) rfl ⟨trivial, trivial, trivial, trivial, trivial, trivial, trivial, trivial, trivial, trivial, trivial, trivial, trivial, trivial, trivial, trivial, trivial, trivial⟩ ⟨?_, ?_, ?_, ?_, ?_, ?_, ?_, ?_, ?_, ?_, ?_, ?_, ?_, ?_, ?_, ?_, ?_, trivial⟩ ?_ ?_
        ·intro x w hb hk Q' hQ
         clear hk
         simp only [netE] at hQ ⊢
         go_wp2
         exact hQ _ _ (Below.refl _ _) rfl
        ·intro x w hb hk Q' hQ
         clear hk
         simp only [netE] at hQ ⊢
         go_wp2
         exact hQ _ _ (Below.refl _ _) rfl
        ·intro x w hb hk Q' hQ
         clear hk
         simp only [netE] at hQ ⊢
         have S := hSS.out.call HWB.out hb
         have kb := KB.out.below (S).bel HB0.out
         have c0 := kb.cell' (i := 0) rfl
         have c1 := kb.cell' (i := 1) rfl
         have c2 := kb.cell' (i := 2) rfl
         go_wp2
         exact hQ _ _ (Below.refl _ _) rfl
        ·intro x w hb hk Q' hQ
         clear hk
         simp only [netE] at hQ ⊢
         go_wp2
         exact hQ _ _ (Below.refl _ _) rfl
        ·intro x w hb hk Q' hQ
         have h2 : x.v 2 = .agg #[.int .i64 r, .int .i64 c, .slice (some ⟨g, 0, none⟩) L cap] := (hk 2 (by decide)).1
         have h3 : x.v 3 = .int .i64 a := (hk 3 (by decide)).1
         clear hk
         simp only [netE] at hQ ⊢
         simp only [h2, h3] at hQ ⊢
         clear h2 h3
         go_wp2_with fail
         refine (row_in _ hlr (by omega) hr hc EL.out hLc hcb HQ.out).mono ?_; rintro e w5 ⟨rfl, hb5⟩
         go_wp2
         exact hQ _ _ hb5 rfl
        ·intro x w hb hk Q' hQ
         clear hk
         simp only [netE] at hQ ⊢
         go_wp2
         exact hQ _ _ (Below.refl _ _) rfl
        ·intro x w hb hk Q' hQ
         clear hk
         simp only [netE] at hQ ⊢
         have S := hSS.out.call HWB.out hb
         have kb := KB.out.below (S).bel HB0.out
         have c0 := kb.cell' (i := 0) rfl
         have c1 := kb.cell' (i := 1) rfl
         have c2 := kb.cell' (i := 2) rfl
         go_wp2
         exact hQ _ _ (Below.refl _ _) rfl
        ·intro x w hb hk Q' hQ
         clear hk
         simp only [netE] at hQ ⊢
         go_wp2
         exact hQ _ _ (Below.refl _ _) rfl
        ·intro x w hb hk Q' hQ
         have h6 : x.v 6 = .agg #[.int .i64 r, .int .i64 c, .slice (some ⟨g, 0, none⟩) L cap] := (hk 6 (by decide)).1
         have h7 : x.v 7 = .int .i64 a := (hk 7 (by decide)).1
         clear hk
         simp only [netE] at hQ ⊢
         simp only [h6, h7] at hQ ⊢
         clear h6 h7
         go_wp2_with fail
         refine (row_in _ hlr (by omega) hr hc EL.out hLc hcb HQ.out).mono ?_; rintro e w5 ⟨rfl, hb5⟩
         go_wp2
         exact hQ _ _ hb5 rfl
        ·intro x w hb hk Q' hQ
         clear hk
         simp only [netE] at hQ ⊢
         go_wp2
         exact hQ _ _ (Below.refl _ _) rfl
        ·intro x w hb hk Q' hQ
         have h8 : x.v 8 = .slice (some ⟨g, Q, none⟩) c (cap - Q) := (hk 8 (by decide)).1
         have h9 : x.v 9 = .int .i64 j := (hk 9 (by decide)).1
         clear hk
         simp only [netE] at hQ ⊢
         simp only [h8, h9] at hQ ⊢
         clear h8 h9
         go_wp2
         exact hQ _ _ (Below.refl _ _) rfl
        ·intro x w hb hk Q' hQ
         have h10 : x.v 10 = .pointer (some ⟨g, Q + j, none⟩) := (hk 10 (by decide)).1
         clear hk
         simp only [netE] at hQ ⊢
         simp only [h10] at hQ ⊢
         clear h10
         have S := hSS.out.call HWB.out hb
         have z := (S.cellP hlr hljc HQ.out).1
         rw [sw_rest] at z
         go_wp2
         exact hQ _ _ (Below.refl _ _) rfl
        ·intro x w hb hk Q' hQ
         clear hk
         simp only [netE] at hQ ⊢
         go_wp2
         exact hQ _ _ (Below.refl _ _) rfl
        ·intro x w hb hk Q' hQ
         clear hk
         simp only [netE] at hQ ⊢
         go_wp2
         exact hQ _ _ (Below.refl _ _) rfl
        ·intro x w hb hk Q' hQ
         have h12 : x.v 12 = .slice (some ⟨g, P, none⟩) c (cap - P) := (hk 12 (by decide)).1
         have h13 : x.v 13 = .int .i64 j := (hk 13 (by decide)).1
         clear hk
         simp only [netE] at hQ ⊢
         simp only [h12, h13] at hQ ⊢
         clear h12 h13
         go_wp2
         exact hQ _ _ (Below.refl _ _) rfl
        ·intro x w hb hk Q' hQ
         have h14 : x.v 14 = .pointer (some ⟨g, P + j, none⟩) := (hk 14 (by decide)).1
         clear hk
         simp only [netE] at hQ ⊢
         simp only [h14] at hQ ⊢
         clear h14
         have S := hSS.out.call HWB.out hb
         have z := (S.cellP hnr hljc HPP.out).1
         rw [sw_rest] at z
         go_wp2
         exact hQ _ _ (Below.refl _ _) rfl
        ·intro x w hb hk Q' hQ
         have h0 : x.v 0 = .slice (some ⟨g, P, none⟩) c (cap - P) := (hk 0 (by decide)).1
         have h1 : x.v 1 = .int .i64 j := (hk 1 (by decide)).1
         clear hk
         simp only [netE] at hQ ⊢
         simp only [h0, h1] at hQ ⊢
         clear h0 h1
         go_wp2
         exact hQ _ _ (Below.refl _ _) rfl
        ·intro x w hb hk hiv hdj
         have h0 : x.v 0 = .slice (some ⟨g, P, none⟩) c (cap - P) := hk 0 (by decide)
         have h1 : x.v 1 = .int .i64 j := hk 1 (by decide)
         have h2 : x.v 2 = .agg #[.int .i64 r, .int .i64 c, .slice (some ⟨g, 0, none⟩) L cap] := hk 2 (by decide)
         have h3 : x.v 3 = .int .i64 a := hk 3 (by decide)
         have h4 : x.v 4 = .slice (some ⟨g, Q, none⟩) c (cap - Q) := hk 4 (by decide)
         have h5 : x.v 5 = .int .i64 j := hk 5 (by decide)
         have h6 : x.v 6 = .agg #[.int .i64 r, .int .i64 c, .slice (some ⟨g, 0, none⟩) L cap] := hk 6 (by decide)
         have h7 : x.v 7 = .int .i64 a := hk 7 (by decide)
         have h8 : x.v 8 = .slice (some ⟨g, Q, none⟩) c (cap - Q) := hk 8 (by decide)
         have h9 : x.v 9 = .int .i64 j := hk 9 (by decide)
         have h10 : x.v 10 = .pointer (some ⟨g, Q + j, none⟩) := hk 10 (by decide)
         have h11 : x.v 11 = .int .i64 (F a j) := hk 11 (by decide)
         have h12 : x.v 12 = .slice (some ⟨g, P, none⟩) c (cap - P) := hk 12 (by decide)
         have h13 : x.v 13 = .int .i64 j := hk 13 (by decide)
         have h14 : x.v 14 = .pointer (some ⟨g, P + j, none⟩) := hk 14 (by decide)
         have h15 : x.v 15 = .int .i64 (F n j) := hk 15 (by decide)
         have h16 : x.v 16 = .pointer (some ⟨g, P + j, none⟩) := hk 16 (by decide)
         clear hk
         simp only [netE]
         simp only [List.drop_succ_cons, List.drop_zero, h0, h1, h2, h3, h4, h5, h6, h7, h8, h9, h10, h11, h12, h13, h14, h15, h16]
         clear h0 h1 h2 h3 h4 h5 h6 h7 h8 h9 h10 h11 h12 h13 h14 h15 h16
         have S := hSS.out.call HWB.out hb
         have ia := (S.cellP hlr hljc HQ.out)
         have ib := (S.cellP hnr hljc HPP.out)
         rw [sw_rest] at ia ib
         have S2 := S.put2 hBg (S.size HWB.out) ia.2.1 ib.2.1 HST.out
         have S1 := S.put (J := P + j) (x := F a j) hBg (S.size HWB.out) ia.2.1 (by rw [HPP.out]; exact flat_set _ _ hnr hljc)
         obtain ⟨q1, _, q2⟩ := S1.cellP hlr hljc HQ.out
         obtain ⟨p1, _, p2⟩ := ib
         have HS2 := Lib.hid S2
         clear ia S S1 S2 hiv hdj
         go_wp2
         go_roundw
         case rel => exact ⟨j + 1, by omega, by go_num, HS2.out⟩
         case measure => simp [intOf]; omega
        ·intro x w hb hk hiv hdj om os hom hos
         simp only [List.getElem?_cons_zero, List.getElem?_cons_succ, Option.some.injEq] at hom hos
         subst hom hos
         have h0 : x.v 0 = .slice (some ⟨g, P, none⟩) c (cap - P) := hk 0 (by decide)
         have h1 : x.v 1 = .int .i64 j := hk 1 (by decide)
         have h2 : x.v 2 = .agg #[.int .i64 r, .int .i64 c, .slice (some ⟨g, 0, none⟩) L cap] := hk 2 (by decide)
         have h3 : x.v 3 = .int .i64 a := hk 3 (by decide)
         have h4 : x.v 4 = .slice (some ⟨g, Q, none⟩) c (cap - Q) := hk 4 (by decide)
         have h6 : x.v 6 = .agg #[.int .i64 r, .int .i64 c, .slice (some ⟨g, 0, none⟩) L cap] := hk 6 (by decide)
         have h7 : x.v 7 = .int .i64 a := hk 7 (by decide)
         have h8 : x.v 8 = .slice (some ⟨g, Q, none⟩) c (cap - Q) := hk 8 (by decide)
         have h9 : x.v 9 = .int .i64 j := hk 9 (by decide)
         have h10 : x.v 10 = .pointer (some ⟨g, Q + j, none⟩) := hk 10 (by decide)
         have h11 : x.v 11 = .int .i64 (F a j) := hk 11 (by decide)
         have h12 : x.v 12 = .slice (some ⟨g, P, none⟩) c (cap - P) := hk 12 (by decide)
         have h13 : x.v 13 = .int .i64 j := hk 13 (by decide)
         have h14 : x.v 14 = .pointer (some ⟨g, P + j, none⟩) := hk 14 (by decide)
         have h15 : x.v 15 = .int .i64 (F n j) := hk 15 (by decide)
         have h16 : x.v 16 = .pointer (some ⟨g, P + j, none⟩) := hk 16 (by decide)
         clear hk
         simp only [List.foldl_cons, List.foldl_nil, netE]
         simp only [List.drop_succ_cons, List.drop_zero, h0, h1, h2, h3, h4, h6, h7, h8, h9, h10, h11, h12, h13, h14, h15, h16]
         clear h0 h1 h2 h3 h4 h6 h7 h8 h9 h10 h11 h12 h13 h14 h15 h16
         have S := hSS.out.call HWB.out hb
         have ia := (S.cellP hlr hljc HQ.out)
         have ib := (S.cellP hnr hljc HPP.out)
         rw [sw_rest] at ia ib
         have S2 := S.put2 hBg (S.size HWB.out) ia.2.1 ib.2.1 HST.out
         have S1 := S.put (J := P + j) (x := F a j) hBg (S.size HWB.out) ia.2.1 (by rw [HPP.out]; exact flat_set _ _ hnr hljc)
         obtain ⟨q1, _, q2⟩ := S1.cellP hlr hljc HQ.out
         obtain ⟨p1, _, p2⟩ := ib
         have HS2 := Lib.hid S2
         clear ia S S1 S2 hiv hdj
         go_wp2
         go_roundw
         case rel => exact ⟨j + 1, by omega, by go_num, HS2.out⟩
         case measure => simp [intOf]; omega
       ·have hjc : j = c := by omega
        subst hjc
        have S := S.congr (sw_end n a r j F)
        have hin1 := inF_sw HIN.out hnr hlr
        obtain ⟨F1, hF1⟩ : ∃ F1, swA n a F = F1 := ⟨_, rfl⟩
        rw [hF1] at S hin1
        obtain ⟨x, hx⟩ : ∃ x, F1 n k = x := ⟨_, rfl⟩
        obtain ⟨z1, hxI, _⟩ := S.cellP hnr hlt HPP.out
        rw [hx] at z1 hxI
        obtain ⟨s, hs⟩ : ∃ s, invP p x = s := ⟨_, rfl⟩
        have hsr := invP_r (x := x) hpr
        rw [hs] at hsr
        have HS := Lib.hid hs
        have HX := Lib.hid hx
        have HXI := Lib.hid hxI
        have HF1 := Lib.hid hF1
        have HIN1 := Lib.hid hin1
        have hSS := Lib.hid S
        clear hs hx hxI hF1 hin1 S
        go_wp2_with fail
        refine (inverseMod_any p x _ HP.out HXI.out).mono ?_; rintro e w5 ⟨rfl, hww⟩; replace hww := hww.symm; subst hww
        rw [HS.out]
        have S := hSS.out
        rw [← sc_0 p n s F1] at S
        go_wp2
        clear z1
        go_loopw [78] (fun i wr => ∃ j' : Nat, j' ≤ j ∧ i = .int .i64 j' ∧ RS W.heap.size w2 (some ⟨g, 0, none⟩) r j L cap wr (scJ p n s j' F1) (.slice PA n pc) ps) (fun i _ => j - (intOf i).toNat)
        case atStart => exact ⟨0, Nat.zero_le _, rfl, S⟩
        case round =>
         clear S hSS
         obtain ⟨j', hj', rfl, S⟩ := hrel
         by_cases hl4 : j' < j
         ·obtain ⟨b1, b2, b3⟩ := rowP hnr hl4 hr hc HPP.out
          rw [← EL.out] at b1 b2 b3
          obtain ⟨z1, _, z2⟩ := S.cellP hnr hl4 HPP.out
          rw [sc_rest] at z1
          have hi1 := HIN1.out n j' hnr hl4
          have hst := sc_step (p := p) (s := s) F1 hnr hl4
          obtain ⟨a4, ha4⟩ : ∃ a4, F1 n j' = a4 := ⟨_, rfl⟩
          rw [ha4] at z1 hi1 hst
          rw [← HPP.out] at hst
          have k0 : 0 ≤ a4 * s := Int.mul_nonneg hi1.1 hsr.1
          have k1 : a4 * s ≤ 4 * 4 := Int.mul_le_mul (by omega) hsr.2 hsr.1 (by omega)
          obtain ⟨K, hK⟩ : ∃ K, a4 * s = K := ⟨_, rfl⟩
          rw [hK] at k0 k1 hst
          have hKw : wrap64 (a4 * s) = K := by rw [hK]; exact IntWalk.wrap64_in _ ⟨by omega, by omega⟩
          have ht : K.tmod p = K % p := Int.tmod_eq_emod_of_nonneg k0
          have hr1 := emod_rng (x := K) hpr.1
          have S2 := S.put (J := P + j') (x := K % p) hBg (S.size HWB.out) (by unfold I64; omega) hst
          have HS2 := Lib.hid S2
          clear ha4 hK hst S2 S k0 k1 hr1 hi1
          go_wp2
          go_roundw
          case rel => exact ⟨j' + 1, by omega, by go_num, HS2.out⟩
          case measure => simp [intOf]; omega
         ·have hje : j' = j := by omega
          subst hje
          have S := S.congr (sc_end p n r j' s F1)
          have hin2 := inF_sc (s := s) (n := n) hpr.1 HIN1.out
          obtain ⟨F2, hF2⟩ : ∃ F2, scA p n s F1 = F2 := ⟨_, rfl⟩
          rw [hF2] at S hin2
          have hfin : Hid (rdF p r F n k = elA p n k F2) := by
           show _ = _
           rw [rdF, HZA.out, HF1.out, HX.out, HS.out, hF2]
          have HIN2 := Lib.hid hin2
          clear hF2 hin2
          rw [← el_0 p n k F2] at S
          have kb := KB.out.below (S).bel HB0.out
          have c0 := kb.cell' (i := 0) rfl
          have c1 := kb.cell' (i := 1) rfl
          have c2 := kb.cell' (i := 2) rfl
          go_wp2
          clear kb c0 c1 c2
          go_loopw [95] (fun i wr => ∃ i' : Nat, i' ≤ r ∧ i = .int .i64 i' ∧ RS W.heap.size w2 (some ⟨g, 0, none⟩) r j' L cap wr (elI p n k i' F2) (.slice PA n pc) ps) (fun i _ => r - (intOf i).toNat)
          case atStart => exact ⟨0, Nat.zero_le _, rfl, S⟩
          case round =>
           clear S
           obtain ⟨i, hi, rfl, S⟩ := hrel
           by_cases hl5 : i < r
           ·by_cases hin : i = n
            ·subst hin
             rw [el_skip] at S
             go_wp2
             go_roundw
             case rel => exact ⟨i + 1, by omega, by go_num, S⟩
             case measure => simp [intOf]; omega
            ·have hne : ((i : Int) != n) = true := by rw [bne_iff_ne]; omega
             have hine : ¬ ((i : Int) = n) := by omega
             obtain ⟨R, hR⟩ : ∃ R, R = i * j' := ⟨_, rfl⟩
             obtain ⟨a1, a2, a3⟩ := rowP hl5 hlt hr hc hR
             have hap := rows_apart hin hR HPP.out
             have HR := Lib.hid hR
             rw [← EL.out] at a1 a2 a3
             have hSS := Lib.hid S
             have hr5 := HIN2.out i k hl5 hlt
             obtain ⟨q, hq⟩ : ∃ q, F2 i k = q := ⟨_, rfl⟩
             rw [hq] at hr5
             have HQQ := Lib.hid hq
             have hamel := am_el (p := p) (n := n) (k := k) (i := i) (r := r) (c := j') F2 hnr hin
             rw [hq, ← EL.out, ← HR.out, ← HPP.out] at hamel
             have HAM := Lib.hid hamel
             have HNE := Lib.hid hin
             clear hR hq hamel hin S
             go_wp2
             refine wp_region_net (by kernel_rfl) [.eq (.int .i64 p), .eq (.agg #[.int .i64 r, .int .i64 j', .slice (some ⟨g, 0, none⟩) L cap]), .eq (.int .i64 i), .eq (.slice (some ⟨g, R, none⟩) j' (cap - R)), .eq (.int .i64 p), .eq (.agg #[.int .i64 r, .int .i64 j', .slice (some ⟨g, 0, none⟩) L cap]), .eq (.int .i64 i), .eq (.slice (some ⟨g, R, none⟩) j' (cap - R)), .eq (.int .i64 k), .eq (.pointer (some ⟨g, R + k, none⟩)), .eq (.int .i64 q), .eq (.int .i64 (p - q)), .eq (.slice (some ⟨g, P, none⟩) j' (cap - P))] [[], [], [], [1, 2], [], [], [], [1, 2, 3, 5, 6], [], [1, 2, 3, 5, 6, 7, 8], [1, 2, 3, 5, 6, 7, 8, 9], [1, 2, 3, 4, 5, 6, 7, 8, 9, 10], [], [0, 1, 2, 3, 4, 5, 6, 7, 8, 9, 10, 11, 12]] 13 (by kernel_rfl) ⟨trivial, trivial, trivial, trivial, trivial, trivial, trivial, trivial, trivial, trivial, trivial, trivial, trivial, trivial⟩ ⟨?_, ?_, ?_, ?_, ?_, ?_, ?_, ?_, ?_, ?_, ?_, ?_, ?_, trivial⟩ ?_
             ·intro x w hb hk Q' hQ
              clear hk
              simp only [netE] at hQ ⊢
              go_wp2
              exact hQ _ _ (Below.refl _ _) rfl
             ·intro x w hb hk Q' hQ
              clear hk
              simp only [netE] at hQ ⊢
              have S := hSS.out.call HWB.out hb
              have kb := KB.out.below (S).bel HB0.out
              have c0 := kb.cell' (i := 0) rfl
              have c1 := kb.cell' (i := 1) rfl
              have c2 := kb.cell' (i := 2) rfl
              go_wp2
              exact hQ _ _ (Below.refl _ _) rfl
             ·intro x w hb hk Q' hQ
              clear hk
              simp only [netE] at hQ ⊢
              go_wp2
              exact hQ _ _ (Below.refl _ _) rfl
             ·intro x w hb hk Q' hQ
              have h1 : x.v 1 = .agg #[.int .i64 r, .int .i64 j', .slice (some ⟨g, 0, none⟩) L cap] := (hk 1 (by decide)).1
              have h2 : x.v 2 = .int .i64 i := (hk 2 (by decide)).1
              clear hk
              simp only [netE] at hQ ⊢
              simp only [h1, h2] at hQ ⊢
              clear h1 h2
              go_wp2_with fail
              refine (row_in _ hl5 (by omega) hr hc EL.out hLc hcb HR.out).mono ?_; rintro e w5 ⟨rfl, hb5⟩
              go_wp2
              exact hQ _ _ hb5 rfl
             ·intro x w hb hk Q' hQ
              clear hk
              simp only [netE] at hQ ⊢
              go_wp2
              exact hQ _ _ (Below.refl _ _) rfl
             ·intro x w hb hk Q' hQ
              clear hk
              simp only [netE] at hQ ⊢
              have S := hSS.out.call HWB.out hb
              have kb := KB.out.below (S).bel HB0.out
              have c0 := kb.cell' (i := 0) rfl
              have c1 := kb.cell' (i := 1) rfl
              have c2 := kb.cell' (i := 2) rfl
              go_wp2
              exact hQ _ _ (Below.refl _ _) rfl
             ·intro x w hb hk Q' hQ
              clear hk
              simp only [netE] at hQ ⊢
              go_wp2
              exact hQ _ _ (Below.refl _ _) rfl
             ·intro x w hb hk Q' hQ
              have h5 : x.v 5 = .agg #[.int .i64 r, .int .i64 j', .slice (some ⟨g, 0, none⟩) L cap] := (hk 5 (by decide)).1
              have h6 : x.v 6 = .int .i64 i := (hk 6 (by decide)).1
              clear hk
              simp only [netE] at hQ ⊢
              simp only [h5, h6] at hQ ⊢
              clear h5 h6
              go_wp2_with fail
              refine (row_in _ hl5 (by omega) hr hc EL.out hLc hcb HR.out).mono ?_; rintro e w5 ⟨rfl, hb5⟩
              go_wp2
              exact hQ _ _ hb5 rfl
             ·intro x w hb hk Q' hQ
              clear hk
              simp only [netE] at hQ ⊢
              go_wp2
              exact hQ _ _ (Below.refl _ _) rfl
             ·intro x w hb hk Q' hQ
              have h7 : x.v 7 = .slice (some ⟨g, R, none⟩) j' (cap - R) := (hk 7 (by decide)).1
              have h8 : x.v 8 = .int .i64 k := (hk 8 (by decide)).1
              clear hk
              simp only [netE] at hQ ⊢
              simp only [h7, h8] at hQ ⊢
              clear h7 h8
              go_wp2
              exact hQ _ _ (Below.refl _ _) rfl
             ·intro x w hb hk Q' hQ
              have h9 : x.v 9 = .pointer (some ⟨g, R + k, none⟩) := (hk 9 (by decide)).1
              clear hk
              simp only [netE] at hQ ⊢
              simp only [h9] at hQ ⊢
              clear h9
              have S := hSS.out.call HWB.out hb
              have z := (S.cellP hl5 hlt HR.out).1
              rw [el_rest, HQQ.out] at z
              go_wp2
              exact hQ _ _ (Below.refl _ _) rfl
             ·intro x w hb hk Q' hQ
              have h4 : x.v 4 = .int .i64 p := (hk 4 (by decide)).1
              have h10 : x.v 10 = .int .i64 q := (hk 10 (by decide)).1
              clear hk
              simp only [netE] at hQ ⊢
              simp only [h4, h10] at hQ ⊢
              clear h4 h10
              go_wp2
              exact hQ _ _ (Below.refl _ _) rfl
             ·intro x w hb hk Q' hQ
              clear hk
              simp only [netE] at hQ ⊢
              go_wp2
              exact hQ _ _ (Below.refl _ _) rfl
             ·intro x w hb hk hiv hdj
              have h0 : x.v 0 = .int .i64 p := hk 0 (by decide)
              have h1 : x.v 1 = .agg #[.int .i64 r, .int .i64 j', .slice (some ⟨g, 0, none⟩) L cap] := hk 1 (by decide)
              have h2 : x.v 2 = .int .i64 i := hk 2 (by decide)
              have h3 : x.v 3 = .slice (some ⟨g, R, none⟩) j' (cap - R) := hk 3 (by decide)
              have h4 : x.v 4 = .int .i64 p := hk 4 (by decide)
              have h5 : x.v 5 = .agg #[.int .i64 r, .int .i64 j', .slice (some ⟨g, 0, none⟩) L cap] := hk 5 (by decide)
              have h6 : x.v 6 = .int .i64 i := hk 6 (by decide)
              have h7 : x.v 7 = .slice (some ⟨g, R, none⟩) j' (cap - R) := hk 7 (by decide)
              have h8 : x.v 8 = .int .i64 k := hk 8 (by decide)
              have h9 : x.v 9 = .pointer (some ⟨g, R + k, none⟩) := hk 9 (by decide)
              have h10 : x.v 10 = .int .i64 q := hk 10 (by decide)
              have h11 : x.v 11 = .int .i64 (p - q) := hk 11 (by decide)
              have h12 : x.v 12 = .slice (some ⟨g, P, none⟩) j' (cap - P) := hk 12 (by decide)
              clear hk
              simp only [netE]
              simp only [List.drop_succ_cons, List.drop_zero, h0, h1, h2, h3, h4, h5, h6, h7, h8, h9, h10, h11, h12]
              clear h0 h1 h2 h3 h4 h5 h6 h7 h8 h9 h10 h11 h12
              have S := hSS.out.call HWB.out hb
              have hown := S.own
              rw [rowF_flat, ← EL.out] at hown
              have hfr : ∀ z, z < L → 0 ≤ (fun j => elI p n k i F2 (j / j') (j % j')) z ∧ (fun j => elI p n k i F2 (j / j') (j % j')) z ≤ 4 := by
               intro z hz
               rw [EL.out] at hz
               obtain ⟨a, b, ha, hb', rfl⟩ := ix_of hz
               simp only [ix_div hb', ix_mod hb']
               have := inF_elI (n := n) (k := k) (i := i) hpr.1 HIN2.out a b ha hb'
               omega
              have HOW := Lib.hid hown
              have HFR := Lib.hid hfr
              have HS6 := Lib.hid S
              clear hown hfr S hiv hdj
              go_wp2_with fail
              refine (addMultiple_in p (p - q) g R P j' L cap (cap - R) (cap - P) W.heap.size (fun j => elI p n k i F2 (j / j') (j % j')) _ hpr (by omega) HOW.out a2 hrp.2.1 hap (by omega) (by omega) (by omega) HFR.out).mono ?_; rintro e w6 ⟨rfl, ho6, hg6⟩
              rw [HAM.out] at ho6
              have S7 := HS6.out.turn hBg (HS6.out.size HWB.out) ho6 hg6
              clear ho6 hg6
              go_wp2
              go_roundw
              case rel => exact ⟨i + 1, by omega, by go_num, S7⟩
              case measure => simp [intOf]; omega
           ·have hir : i = r := by omega
            subst hir
            have S := S.congr (el_end p n k i j' F2)
            rw [← hfin.out] at S
            have hS8 := S.call HWB.out (below_alloc wr (.cells #[.int .i64 k] 3))
            have hsz8 := hS8.size HWB.out
            have HS8 := Lib.hid hS8
            clear S hS8
            (go_wp2_with (at_builtin; refine Hold.stop ?_)); unfold Hold
            refine wpList_appI rfl (.tmp 117) (.tmp 119) rfl W.heap.size _ (.slice PA n pc) ps rfl HS8.out.ownP.1 _ _ _ [(k : Int)] rfl rfl (SlI.one wr _ k ⟨by omega, by omega⟩) (by rw [HN.out]; simp; omega) hsz8 ?_
            intro v9 w9 ho9 hg9 hv9
            have S9 := HS8.out.app hsz8 ho9 hg9 hv9
            clear ho9 hg9 hv9
            go_wp2
            go_roundw
            case rel => exact ⟨k + 1, by omega, by go_num, by rw [HRS2.out]; exact S9⟩
            case measure => simp [intOf]; omega
    ·have hae : a = r := by omega
     have HRS2 := Lib.hid (HRS.out.trans (if_neg (by rw [nzF_eq (f := F) (k := k) hna har hz.out (fun h => absurd h hlr)]; exact hlr)))
     subst hae
     clear hz
     go_wp2
     go_roundw
     case rel => exact ⟨k + 1, by omega, by go_num, by rw [HRS2.out]; exact S⟩
     case measure => simp [intOf]; omega
  ·have hkc : k = c := by omega
   have HKC := Lib.hid hkc
   have sz := SZ.out
   have sB := S.size HWB.out
   have k4 := KB.out.below S.bel HB0.out
   have k3' := KR.out.below S.bel (by omega)
   have z0 := k4.cell' (i := 0) rfl
   have z1 := k4.cell' (i := 1) rfl
   have z2 := k4.cell' (i := 2) rfl
   have p0 := k3'.cell' (i := 0) rfl
   have p1 := k3'.cell' (i := 1) rfl
   have p2 := k3'.cell' (i := 2) rfl
   have f2 := k3'.frozen
   have h2 := chg3 wr (w0.heap.size + 1) (.int .i64 (r : Int)) (.int .i64 c) (.slice A L cap)
   have gw : Below w0.heap.size w0 wr := (G2.out).trans (S.bel.mono (by omega))
   have gs := gw.size
   have hfl := HL.out
   have oA : IntsO wr W.heap.size wr.heap.size (.slice A L cap) (flat r c F) := S.fam.1 (_, flat r c F) (by simp)
   have oA2 := (oA.chg h2 (.inr (by omega))).wider (lo' := w0.heap.size) (hi' := wr.heap.size) (by omega) (Nat.le_refl _)
   have oP2 := (S.ownP.chg h2 (.inr (by omega))).wider (lo' := w0.heap.size) (hi' := wr.heap.size) (by omega) (Nat.le_refl _)
   have fg := gw.trans (h2.below (by omega) gs)
   have OA2 := Lib.hid oA2
   have OP2 := Lib.hid oP2
   have FG := Lib.hid fg
   clear oA oA2 oP2 fg gw h2 k3' k4 S hkc hfl
   go_wp2
   refine bodyPost_ret (v := .tuple #[.agg #[.int .i64 (r : Int), .int .i64 c, .slice A L cap], .slice PA n pc]) (by simp [results, go_sem, p0, p1, p2]) rfl ⟨_, _, rfl, ?_, ?_, FG.out⟩
   ·refine ⟨_, rfl, ?_, by simp only [I64]; omega, by simp only [I64]; omega⟩
    have e : flat r c (rdTo p r f c).1 = flat r c F := by rw [← HFF.out, HKC.out]
    rw [e]
    exact (OA2.out).wider (Nat.le_refl _) (by simp)
   ·have e : (rdTo p r f c).2 = ps := by rw [← HPS.out, HKC.out]
    rw [e]
    exact (OP2.out).wider (Nat.le_refl _) (by simp)
end Go.Proofs.YtcmlflppndfdcaaGreat
namespace Go.Proofs.YtcmlflppndfdcaaGreat
open Go.RowKit
def rkF (p : Int) (r c : Nat) (f : Nat → Nat → Int) : Nat := (rdTo p r f c).2.length
theorem rkF_le (p : Int) (r c : Nat) (f : Nat → Nat → Int) : rkF p r c f ≤ r ∧ rkF p r c f ≤ c := rdTo_len p r f c
set_option maxHeartbeats 1600000 in
set_option maxRecDepth 100000 in
theorem implRank_any (p : Int) (u : Value) (r c : Nat) (f : Nat → Nat → Int) (w0 : World) (hp : isFld p = true) (hr : r ≤ 1000) (hc : c ≤ 1000) (hu : MxR w0 w0.heap.size u (mxF r c f)) (hf : InF p r c f) :
  Calls Tryz.prog 99 #[.int .i64 p, u] w0 fun e w' => e = .returned (.int .i64 (rkF p r c f : Int)) ∧ Below w0.heap.size w0 w' := by
 have hu' := hu
 obtain ⟨UA, uc, rfl⟩ := hu.form
 simp only [mxF] at hu hu' ⊢
 rw [flat_length] at hu hu' ⊢
 obtain ⟨UL, hUL⟩ : ∃ n, r * c = n := ⟨_, rfl⟩
 rw [hUL] at hu hu' ⊢
 clear hUL hu
 obtain ⟨W, hW⟩ : ∃ W, W = w0.alloc (.cells #[.int .i64 r, .int .i64 c, .slice UA UL uc] 50) := ⟨_, rfl⟩
 have g0 : Below w0.heap.size w0 W := by rw [hW]; exact below_alloc _ _
 have kB : Blk W w0.heap.size 50 #[.int .i64 r, .int .i64 c, .slice UA UL uc] := by rw [hW]; exact Blk.new _ _ _
 have HU := Lib.hid (MxR.next g0 hu')
 have HF := Lib.hid hf
 have HP := Lib.hid hp
 have c0 := kB.cell' (i := 0) rfl
 have c1 := kB.cell' (i := 1) rfl
 have c2 := kB.cell' (i := 2) rfl
 clear hu' hf hp kB
 go_enter Tryz.func99, Tryz.ntmps99
 go_wp2_with fail
 rw [← hW]; clear hW
 refine (implReduce_any p _ r c f _ HP.out hr hc HU.out HF.out).mono ?_; rintro e w1 ⟨m, v, rfl, hM, hI, hb1⟩
 obtain ⟨MA, mc, em⟩ := hM.form
 obtain ⟨PA, pc, ev⟩ := hI.form
 subst em ev
 have g1 := bthen g0 hb1
 simp only [mxF]
 obtain ⟨rk, hrk⟩ : ∃ rk, rkF p r c f = rk := ⟨_, rfl⟩
 have hrk2 := hrk
 unfold rkF at hrk2
 rw [hrk2]
 have HRK := Lib.hid hrk
 clear hM hI hb1 g0 c0 c1 c2 hrk hrk2
 go_wp2
 go_ret
 exact ⟨by rw [HRK.out]; rfl, g1.alloc g1.size _⟩
end Go.Proofs.YtcmlflppndfdcaaGreat
namespace Go.Proofs.YtcmlflppndfdcaaGreat
open Go.RowKit
def Ker (p : Int) (r : Nat) (f : Nat → Nat → Int) (k : Nat) (x : Nat → Int) : Prop := ∀ i, i < r → p ∣ sgF (fun t => f i t * x t) k
structure Rd (r : Nat) (g : Nat → Nat → Int) (ps : List Int) (k : Nat) : Prop where
 pos : ∀ j, j < ps.length → ∃ b : Nat, ps[j]? = some (b : Int) ∧ b < k ∧ ∀ i, i < r → g i b = if i = j then 1 else 0
 low : ∀ i b, ps.length ≤ i → i < r → b < k → g i b = 0
theorem nzF_0 {f : Nat → Nat → Int} {k n r : Nat} (h : ¬ nzF f k n r < r) {i : Nat} (h1 : n ≤ i) (h2 : i < r) : f i k = 0 := by
 apply Classical.byContradiction
 intro hne
 apply h
 have key : ∀ m a, a ≤ i → i < a + m → nzGo f k a m < a + m := by
  intro m
  induction m with
  | zero => intro a h3 h4; omega
  | succ m ih =>
   intro a h3 h4
   simp only [nzGo]
   split
   ·rename_i h5
    have : a ≠ i := by rintro rfl; exact hne h5
    have := ih (a + 1) (by omega) (by omega)
    omega
   ·omega
 have := key (r - n) n h1 (by omega)
 unfold nzF
 omega
theorem rd_step {p : Int} {r c k t : Nat} {g : Nat → Nat → Int} {ps : List Int} (hp : isFld p = true) (hp2 : 2 ≤ p) (hg : InF p r c g) (hk : k < c) (ih : Rd r g ps k) (hn : ps.length ≤ t) (ht : t < r) (hne : g t k ≠ 0) :
  Rd r (elA p ps.length k (scA p ps.length (invP p (swA ps.length t g ps.length k)) (swA ps.length t g))) (ps ++ [(k : Int)]) (k + 1) := by
 obtain ⟨hpos, hlow⟩ := ih
 have hr := hg t k ht hk
 have h01 : (0 : Int) % p = 0 := Int.zero_emod p
 have h11 : (1 : Int) % p = 1 := Int.emod_eq_of_lt (by omega) (by omega)
 generalize hN : ps.length = n at *
 have hs : swA n t g n k = g t k := by simp [swA]
 rw [hs]
 obtain ⟨_, _, hi1, _⟩ := invP_ok hp (show 1 ≤ g t k by omega) hr.2
 generalize hS : invP p (g t k) = s at *
 have e_nk : scA p n s (swA n t g) n k = 1 := by simp only [scA, if_true, swA]; exact hi1
 have sw_lo : ∀ i b, n ≤ i → i < r → b < k → swA n t g i b = 0 := by
  intro i b h2 h3 h4
  simp only [swA]
  split
  ·exact hlow t b hn ht h4
  ·split
   ·exact hlow _ b (Nat.le_refl _) (by omega) h4
   ·exact hlow i b h2 h3 h4
 have sc_lo : ∀ i b, n ≤ i → i < r → b < k → scA p n s (swA n t g) i b = 0 := by
  intro i b h2 h3 h4
  simp only [scA]
  split
  ·rw [sw_lo i b h2 h3 h4, Int.zero_mul, h01]
  ·exact sw_lo i b h2 h3 h4
 constructor
 ·intro j hj
  rw [List.length_append, List.length_singleton, hN] at hj
  by_cases e : j < n
  ·obtain ⟨b, h5, h6, h7⟩ := hpos j e
   refine ⟨b, by rw [List.getElem?_append_left (by omega)]; exact h5, by omega, fun i hi => ?_⟩
   have hnb : scA p n s (swA n t g) n b = 0 := sc_lo n b (Nat.le_refl _) (by omega) h6
   simp only [elA]
   by_cases hin : i = n
   ·rw [if_neg (by simpa using hin), hin, hnb, if_neg (by omega)]
   ·rw [if_pos hin, hnb, Int.mul_zero, Int.add_zero]
    rcases Nat.lt_or_ge i n with hlt | hge
    ·have : scA p n s (swA n t g) i b = g i b := by simp only [scA, if_neg hin, swA]; rw [if_neg (by omega)]
     rw [this, h7 i hi]
     split
     ·exact h11
     ·exact h01
    ·rw [sc_lo i b hge hi h6, h01, if_neg (by omega)]
  ·obtain rfl : j = n := by omega
   refine ⟨k, by rw [List.getElem?_append_right (by omega), hN]; simp, by omega, fun i hi => ?_⟩
   simp only [elA]
   by_cases hin : i = j
   ·rw [if_neg (by simpa using hin), hin, e_nk, if_pos rfl]
   ·rw [if_pos hin, e_nk, if_neg hin, Int.mul_one]
    rw [show scA p j s (swA j t g) i k + (p - scA p j s (swA j t g) i k) = p by omega, Int.emod_self]
 ·intro i b h2 h3 h4
  rw [List.length_append, List.length_singleton, hN] at h2
  simp only [elA]
  rw [if_pos (by omega)]
  rcases Nat.lt_or_ge b k with hlt | hge
  ·rw [sc_lo i b (by omega) h3 hlt, sc_lo n b (Nat.le_refl _) (by omega) hlt, Int.mul_zero, Int.add_zero, h01]
  ·obtain rfl : b = k := by omega
   rw [e_nk, Int.mul_one, show scA p n s (swA n t g) i b + (p - scA p n s (swA n t g) i b) = p by omega, Int.emod_self]
theorem rd_to {p : Int} {r c : Nat} {f : Nat → Nat → Int} (hp : isFld p = true) (hp2 : 2 ≤ p) (hf : InF p r c f) : ∀ k, k ≤ c → Rd r (rdTo p r f k).1 (rdTo p r f k).2 k
 | 0, _ => ⟨fun j hj => absurd hj (by simp [rdTo]), fun i b _ _ hb => absurd hb (by omega)⟩
 | k + 1, hk => by
  have ih := rd_to hp hp2 hf k (by omega)
  have hg := inF_to hp2 hf k
  have hl := (rdTo_len p r f k).1
  simp only [rdTo]
  split
  ·rename_i h1
   have hn := nzF_le (f := (rdTo p r f k).1) (k := k) hl
   have hne := nzF_ne hl h1
   exact rd_step hp hp2 hg (by omega) ih hn.1 h1 hne
  ·rename_i h1
   refine ⟨fun j hj => ?_, fun i b h2 h3 h4 => ?_⟩
   ·obtain ⟨b, h5, h6, h7⟩ := ih.pos j hj
    exact ⟨b, h5, by omega, h7⟩
   ·rcases Nat.lt_or_ge b k with h | h
    ·exact ih.low i b h2 h3 h
    ·obtain rfl : b = k := by omega
     exact nzF_0 h1 h2 h3
def prs {α β : Type} (l : List α) (m : List β) : List (α × β) := l.flatMap fun x => m.map fun y => (x, y)
theorem nodup_append {α : Type} {l m : List α} (h1 : l.Nodup) (h2 : m.Nodup) (h : ∀ x ∈ l, x ∉ m) : (l ++ m).Nodup := by
 rw [List.nodup_append]
 exact ⟨h1, h2, fun x hx y hy e => h x hx (e ▸ hy)⟩
def vecs (p : Nat) : Nat → List (List Int)
 | 0 => [[]]
 | n + 1 => (prs (vecs p n) (List.range p)).map fun z => z.1 ++ [(z.2 : Int)]
def IsV (p : Nat) (n : Nat) (x : List Int) : Prop := x.length = n ∧ ∀ e ∈ x, 0 ≤ e ∧ e < p
def at0 (x : List Int) (t : Nat) : Int := x.getD t 0
def can (p : Nat) (k : Nat) (v : Nat → Int) : List Int := (List.range k).map fun b => v b % (p : Int)
def kerB (p : Nat) (r : Nat) (f : Nat → Nat → Int) (k : Nat) (x : List Int) : Bool := (List.range r).all fun i => decide ((p : Int) ∣ sgF (fun t => f i t * at0 x t) k)
def kerL (p : Nat) (r : Nat) (f : Nat → Nat → Int) (k : Nat) : List (List Int) := (vecs p k).filter (kerB p r f k)
def appF (f : Nat → Nat → Int) (c : Nat) (x : Nat → Int) (i : Nat) : Int := sgF (fun t => f i t * x t) c
end Go.Proofs.YtcmlflppndfdcaaGreat
namespace Go.Proofs.YtcmlflppndfdcaaGreat
open Go.RowKit
end Go.Proofs.YtcmlflppndfdcaaGreat
namespace Go.Proofs.YtcmlflppndfdcaaGreat
open Go.RowKit
def endV (l : List Int) (q : Qv) (v : Int) : Bool := inR v 0 (q.v - 1) && !decide (v ∈ l)
def freeV (l : List Int) (k : Nat) : List Int := ((List.range k).map fun i : Nat => (i : Int)).filter fun u => !decide (u ∈ l)
theorem freeV_yes {l : List Int} {k : Nat} (h : decide ((k : Int) ∈ l) = false) : freeV l (k + 1) = freeV l k ++ [(k : Int)] := by
 simp only [freeV, List.range_succ, List.map_append, List.filter_append, List.map_cons, List.map_nil, List.filter_cons, h, Bool.not_false, if_true, List.filter_nil]
theorem freeV_no {l : List Int} {k : Nat} (h : decide ((k : Int) ∈ l) = true) : freeV l (k + 1) = freeV l k := by
 simp only [freeV, List.range_succ, List.map_append, List.filter_append, List.map_cons, List.map_nil, List.filter_cons, h, Bool.not_true, List.filter_nil, List.append_nil]
 simp
theorem freeV_length (l : List Int) (k : Nat) : (freeV l k).length ≤ k := by
 unfold freeV
 refine Nat.le_trans (List.length_filter_le _ _) ?_
 simp
end Go.Proofs.YtcmlflppndfdcaaGreat
namespace Go.Proofs.YtcmlflppndfdcaaGreat
open Go.RowKit
def kvG (p : Int) (g : Nat → Nat → Int) (ps : List Int) (k : Nat) : Nat → Nat → Int
 | 0, t => if t = k then 1 else 0
 | i + 1, t => if (t : Int) = ps.getD i 0 then (- g i k) % p else kvG p g ps k i t
theorem kvG_put {p : Int} {g : Nat → Nat → Int} {ps : List Int} {k i b c : Nat} (hb : ps[i]? = some (b : Int)) : (rowF c (kvG p g ps k i)).set b ((- g i k) % p) = rowF c (kvG p g ps k (i + 1)) := by
 rw [rowF_set]
 apply rowF_congr
 intro a _
 simp only [kvG, List.getD_eq_getElem?_getD, hb, Option.getD_some, Int.natCast_inj]
theorem kvG_0 (p : Int) (g : Nat → Nat → Int) (ps : List Int) (k c : Nat) : (List.replicate c (0 : Int)).set k 1 = rowF c (kvG p g ps k 0) := by
 have : List.replicate c (0 : Int) = rowF c fun _ => 0 := by
  symm
  rw [List.eq_replicate_iff]
  refine ⟨rowF_length _ _, fun x hx => ?_⟩
  simp only [rowF, List.mem_map] at hx
  obtain ⟨_, _, rfl⟩ := hx
  rfl
 rw [this, rowF_set]
 rfl
def kerM (p : Int) (c : Nat) (g : Nat → Nat → Int) (ps L : List Int) : List (List Int) := L.map fun k => rowF c (kvG p g ps k.toNat ps.length)
theorem kerM_snoc (p : Int) (c : Nat) (g : Nat → Nat → Int) (ps L : List Int) (k : Nat) : kerM p c g ps (L ++ [(k : Int)]) = kerM p c g ps L ++ [rowF c (kvG p g ps k ps.length)] := by simp [kerM]
theorem kerM_length (p : Int) (c : Nat) (g : Nat → Nat → Int) (ps L : List Int) : (kerM p c g ps L).length = L.length := by simp [kerM]
def kerR (p : Int) (r c : Nat) (f : Nat → Nat → Int) : List (List Int) := kerM p c (rdTo p r f c).1 (rdTo p r f c).2 (freeV (rdTo p r f c).2 c)
end Go.Proofs.YtcmlflppndfdcaaGreat
namespace Go.Proofs.YtcmlflppndfdcaaGreat
open Go.RowKit
theorem rowF_self (l : List Int) : rowF l.length (fun i => l.getD i 0) = l := by
 apply List.ext_getElem?
 intro i
 by_cases h : i < l.length
 ·rw [rowF_get _ h, List.getElem?_eq_getElem h, List.getD_eq_getElem?_getD, List.getElem?_eq_getElem h]; rfl
 ·rw [List.getElem?_eq_none (by rw [rowF_length]; omega), List.getElem?_eq_none (by omega)]
def dmN (d : List Int) (v : Nat) : Nat := (d.getD v 0).toNat
theorem dmN_of {d : List Int} {v n : Nat} (h : d[v]? = some (n : Int)) : dmN d v = n := by simp [dmN, List.getD_eq_getElem?_getD, h]
def hOff (x y : List Int) : Nat → Nat
 | 0 => 0
 | v + 1 => hOff x y v + dmN y v * dmN x v
theorem hOff_mono (x y : List Int) {a b : Nat} (h : a ≤ b) : hOff x y a ≤ hOff x y b := by
 induction b with
 | zero =>
  obtain rfl : a = 0 := by omega
  exact Nat.le_refl _
 | succ b ih =>
  by_cases e : a = b + 1
  ·subst e; exact Nat.le_refl _
  ·simp only [hOff]
   have := ih (by omega)
   omega
def srN (q : Qv) (k : Nat) : Nat := (q.f.getD k 0).toNat
def tgN (q : Qv) (k : Nat) : Nat := (q.t.getD k 0).toNat
theorem srN_of {q : Qv} {k n : Nat} (h : q.f[k]? = some (n : Int)) : srN q k = n := by simp [srN, List.getD_eq_getElem?_getD, h]
theorem tgN_of {q : Qv} {k n : Nat} (h : q.t[k]? = some (n : Int)) : tgN q k = n := by simp [tgN, List.getD_eq_getElem?_getD, h]
def arF (x : Rp) (k : Nat) : Nat → Nat → Int := entry (x.m.getD k mx0).a (dmN x.d (srN x.q k))
def hInd (a b : Nat) : Int := if a = b then 1 else 0
theorem hInd_rng (a b : Nat) : 0 ≤ hInd a b ∧ hInd a b ≤ 1 := by unfold hInd; split <;> omega
def eqS (x y : Rp) (k r c j n : Nat) : Int := sgF (fun s => arF y k r s * hInd (hOff x.d y.d (srN x.q k) + s * dmN x.d (srN x.q k) + c) j) n
def eqT (x y : Rp) (k r c j n : Nat) : Int := sgF (fun s => arF x k s c * hInd (hOff x.d y.d (tgN x.q k) + r * dmN x.d (tgN x.q k) + s) j) n
def eqE (x y : Rp) (k r c j : Nat) : Int := (eqS x y k r c j (dmN y.d (srN x.q k)) - eqT x y k r c j (dmN x.d (tgN x.q k))) % x.p
def eqRw (x y : Rp) (n k : Nat) : List (List Int) := rowsF (dmN y.d (tgN x.q k) * dmN x.d (srN x.q k)) n (fun i => eqE x y k (i / dmN x.d (srN x.q k)) (i % dmN x.d (srN x.q k)))
def eqL (x y : Rp) (n : Nat) : Nat → List (List Int)
 | 0 => []
 | k + 1 => eqL x y n k ++ eqRw x y n k
theorem eqL_mem {x y : Rp} {n K : Nat} {l : List Int} (h : l ∈ eqL x y n K) : l.length = n ∧ ∃ k r c, l = rowF n (eqE x y k r c) := by
 induction K with
 | zero => simp [eqL] at h
 | succ K ih =>
  simp only [eqL, List.mem_append] at h
  rcases h with h | h
  ·exact ih h
  ·simp only [eqRw, rowsF, List.mem_map, List.mem_range] at h
   obtain ⟨i, _, rfl⟩ := h
   exact ⟨rowF_length _ _, _, _, _, rfl⟩
def hmN (x y : Rp) : Nat := hOff x.d y.d x.d.length
def eqR (x y : Rp) : Nat := (eqL x y (hmN x y) x.q.f.length).length
def lsF (L : List (List Int)) (i j : Nat) : Int := (L.getD i []).getD j 0
def eqG (x y : Rp) : Nat → Nat → Int := lsF (eqL x y (hmN x y) x.q.f.length)
theorem rows_of {n : Nat} {L : List (List Int)} (h : ∀ l ∈ L, l.length = n) : rowsF L.length n (lsF L) = L := by
 refine List.ext_getElem? fun i => ?_
 by_cases hi : i < L.length
 ·rw [rowsF_get _ hi, List.getElem?_eq_getElem hi]
  have := h _ (List.getElem_mem hi)
  congr 1
  have e : lsF L i = fun j => L[i].getD j 0 := by funext j; simp [lsF, List.getD_eq_getElem?_getD, hi]
  rw [e, ← this]
  exact rowF_self _
 ·rw [List.getElem?_eq_none (by rw [rowsF_length]; omega), List.getElem?_eq_none (by omega)]
theorem rows_flat {n : Nat} {L : List (List Int)} (h : ∀ l ∈ L, l.length = n) : L.flatten = flat L.length n (lsF L) := by
 rw [← rowsF_flatten, rows_of h]
theorem lsF_col (L : List (List Int)) (a : Nat) : rowF L.length (fun i => lsF L i a) = L.map fun l => l.getD a 0 := by
 refine List.ext_getElem? fun i => ?_
 by_cases hi : i < L.length
 ·rw [rowF_get _ hi, List.getElem?_map, List.getElem?_eq_getElem hi]
  simp [lsF, List.getD_eq_getElem?_getD, hi]
 ·rw [List.getElem?_eq_none (by rw [rowF_length]; omega), List.getElem?_eq_none (by rw [List.length_map]; omega)]
def cbF (x y : Rp) (F : Nat → Nat → Nat → Int) (k : Nat) : Nat → Nat → Int :=
 plF x.p (x.p - 1) (muP x.p (dmN y.d (srN x.q k)) (arF y k) (F (srN x.q k))) (muP x.p (dmN x.d (tgN x.q k)) (F (tgN x.q k)) (arF x k))
def cbL (x y : Rp) (F : Nat → Nat → Nat → Int) (K : Nat) : List Mx := (List.range K).map fun k => mxF (dmN y.d (tgN x.q k)) (dmN x.d (srN x.q k)) (cbF x y F k)
def flM (ms : List Mx) : List Int := (ms.map Mx.a).flatten
theorem flM_app (a b : List Mx) : flM (a ++ b) = flM a ++ flM b := by simp [flM]
theorem flM_one (m : Mx) : flM [m] = m.a := by simp [flM]
theorem flM_length (ms : List Mx) : (flM ms).length = totA ms := by simp [flM, totA, tot, List.length_flatten]
theorem totA_app (a b : List Mx) : totA (a ++ b) = totA a + totA b := by simp [totA, tot]
theorem totA_one (m : Mx) : totA [m] = m.a.length := by simp [totA, tot]
theorem cbL_succ (x y : Rp) (F : Nat → Nat → Nat → Int) (K : Nat) : cbL x y F (K + 1) = cbL x y F K ++ [mxF (dmN y.d (tgN x.q K)) (dmN x.d (srN x.q K)) (cbF x y F K)] := by simp [cbL, List.range_succ]
theorem cbL_length (x y : Rp) (F : Nat → Nat → Nat → Int) (K : Nat) : (cbL x y F K).length = K := by simp [cbL]
def uF (x y : Rp) (j v s t : Nat) : Int := hInd (hOff x.d y.d v + s * dmN x.d v + t) j
theorem sub_modP {p : Int} (a b : Int) : (a % p + (p - 1) * (b % p)) % p = (a - b) % p := by
 have e1 := Int.emod_def a p
 have e2 := Int.emod_def b p
 rw [show a % p + (p - 1) * (b % p) = (a - b) + p * (-(a / p) + b % p + b / p) by rw [e1, e2]; grind, Int.add_mul_emod_self_left]
theorem sgF_congr {h g : Nat → Int} : ∀ {n : Nat}, (∀ i, i < n → h i = g i) → sgF h n = sgF g n
 | 0, _ => rfl
 | n + 1, e => by simp only [sgF]; rw [sgF_congr fun i hi => e i (by omega), e n (by omega)]
theorem cb_unit (x y : Rp) (j k r c : Nat) : cbF x y (uF x y j) k r c = eqE x y k r c j := by
 simp only [cbF, plF, muP, eqE]
 rw [sub_modP]
 congr 2
 exact sgF_congr fun i _ => Int.mul_comm _ _
theorem eq_col (x y : Rp) (n a : Nat) (ha : a < n) : ∀ K, (eqL x y n K).map (fun l => l.getD a 0) = flM (cbL x y (uF x y a) K)
 | 0 => rfl
 | K + 1 => by
  rw [eqL, List.map_append, eq_col x y n a ha K, cbL_succ, flM_app, flM_one]
  congr 1
  simp only [eqRw, rowsF, mxF, flat, List.map_map]
  refine List.map_congr_left fun i _ => ?_
  rw [Function.comp, rowF_getD _ ha, cb_unit]
theorem eqG_col (x y : Rp) (a : Nat) (ha : a < hmN x y) : rowF (eqR x y) (fun i => eqG x y i a) = flM (cbL x y (uF x y a) x.q.f.length) := by
 rw [eqR, eqG, lsF_col, eq_col x y _ a ha]
theorem eqG_flat (x y : Rp) : (eqL x y (hmN x y) x.q.f.length).flatten = flat (eqR x y) (hmN x y) (eqG x y) := rows_flat fun _ hl => (eqL_mem hl).1
theorem eqG_inF {x : Rp} (y : Rp) (hp : 2 ≤ x.p) : InF x.p (eqR x y) (hmN x y) (eqG x y) := by
 intro a b ha hb
 have h1 : (eqL x y (hmN x y) x.q.f.length)[a]? = some (eqL x y (hmN x y) x.q.f.length)[a] := List.getElem?_eq_getElem ha
 obtain ⟨_, k, r, c, e⟩ := eqL_mem (List.mem_of_getElem? h1)
 rw [e] at h1
 have h2 : (eqL x y (hmN x y) x.q.f.length).getD a [] = rowF (hmN x y) (eqE x y k r c) := by rw [List.getD_eq_getElem?_getD, h1]; rfl
 have : eqG x y a b = eqE x y k r c b := by rw [eqG, lsF, h2, rowF_getD _ hb]
 rw [this, eqE]
 exact emod_rng hp
def shL : List Mx → List Int → List Mx
 | [], _ => []
 | m :: ms, cs => ⟨m.r, m.c, cs.take m.a.length⟩ :: shL ms (cs.drop m.a.length)
theorem shL_snoc : ∀ (ms : List Mx) (m : Mx) (cs : List Int), shL (ms ++ [m]) cs = shL ms cs ++ [⟨m.r, m.c, (cs.drop (totA ms)).take m.a.length⟩]
 | [], m, cs => by simp [shL, totA, tot]
 | a :: ms, m, cs => by
  simp only [List.cons_append, shL, shL_snoc ms m, List.drop_drop]
  have : totA (a :: ms) = a.a.length + totA ms := by simp [totA, tot]
  rw [this]
theorem shL_length : ∀ (ms : List Mx) (cs : List Int), (shL ms cs).length = ms.length
 | [], _ => rfl
 | m :: ms, cs => by simp [shL, shL_length ms]
def zrL (x y : List Int) (V : Nat) : List Mx := (List.range V).map fun v => mxF (dmN y v) (dmN x v) fun _ _ => 0
theorem zrL_succ (x y : List Int) (V : Nat) : zrL x y (V + 1) = zrL x y V ++ [mxF (dmN y V) (dmN x V) fun _ _ => 0] := by simp [zrL, List.range_succ]
theorem zrL_length (x y : List Int) (V : Nat) : (zrL x y V).length = V := by simp [zrL]
theorem zrL_tot (x y : List Int) : ∀ V, totA (zrL x y V) = hOff x y V
 | 0 => rfl
 | V + 1 => by rw [zrL_succ, totA_app, zrL_tot x y V, totA_one, mxF, flat_length, hOff]
def shF (x y : List Int) (e : Nat → Int) (V : Nat) : List Mx := (List.range V).map fun v => mxF (dmN y v) (dmN x v) fun s t => e (hOff x y v + s * dmN x v + t)
theorem shF_succ (x y : List Int) (e : Nat → Int) (V : Nat) : shF x y e (V + 1) = shF x y e V ++ [mxF (dmN y V) (dmN x V) fun s t => e (hOff x y V + s * dmN x V + t)] := by simp [shF, List.range_succ]
theorem shF_length (x y : List Int) (e : Nat → Int) (V : Nat) : (shF x y e V).length = V := by simp [shF]
theorem rowF_part (n o k : Nat) (e : Nat → Int) (h : o + k ≤ n) : ((rowF n e).drop o).take k = rowF k fun i => e (o + i) := by
 refine List.ext_getElem? fun i => ?_
 by_cases hi : i < k
 ·rw [List.getElem?_take_of_lt hi, List.getElem?_drop, rowF_get _ (by omega), rowF_get _ hi]
 ·rw [List.getElem?_eq_none (by rw [List.length_take]; omega), List.getElem?_eq_none (by rw [rowF_length]; omega)]
theorem shL_zr (x y : List Int) (n : Nat) (e : Nat → Int) : ∀ V, hOff x y V ≤ n → shL (zrL x y V) (rowF n e) = shF x y e V
 | 0, _ => rfl
 | V + 1, h => by
  simp only [hOff] at h
  rw [zrL_succ, shL_snoc, shL_zr x y n e V (by omega), zrL_tot, shF_succ]
  congr 2
  simp only [mxF, flat_length]
  rw [rowF_part _ _ _ _ h]
  congr 1
  rw [flat, rowF]
  refine List.map_congr_left fun i _ => ?_
  by_cases hc : dmN x V = 0
  ·rename_i hi
   rw [List.mem_range, hc, Nat.mul_zero] at hi
   omega
  ·congr 1
   rw [Nat.add_assoc, Nat.mul_comm (i / dmN x V), Nat.div_add_mod]
def unitE (j : Nat) (i : Nat) : Int := hInd i j
theorem unit_row (n j : Nat) : (List.replicate n (0 : Int)).set j 1 = rowF n (unitE j) := by
 have : List.replicate n (0 : Int) = rowF n fun _ => 0 := by rw [rowF, List.map_const', List.length_range]
 rw [this, rowF_set]
 exact rowF_congr fun a _ => by simp [unitE, hInd]
end Go.Proofs.YtcmlflppndfdcaaGreat
namespace Go.Proofs.YtcmlflppndfdcaaGreat
open Go.RowKit
def zms (q : Qv) (d : List Int) (k : Nat) : List Mx := (List.range k).map fun i => zmx (dAt d (q.t.getD i 0)) (dAt d (q.f.getD i 0))
theorem zms_length (q : Qv) (d : List Int) (k : Nat) : (zms q d k).length = k := by simp [zms]
theorem zms_succ {q : Qv} {d : List Int} {k nf nt : Nat} {yf yt : Int} (hf : q.f[k]? = some (nf : Int)) (ht : q.t[k]? = some (nt : Int)) (hyf : d[nf]? = some yf) (hyt : d[nt]? = some yt) : zms q d (k + 1) = zms q d k ++ [zmx yt yf] := by
 simp [zms, List.range_succ, List.getD_eq_getElem?_getD, hf, ht, dAt, hyf, hyt]
def zRep (p : Int) (q : Qv) (d : List Int) : Rp := ⟨p, q, d, zms q d q.f.length⟩
theorem zms_I64 {q : Qv} {d : List Int} (h : areDims q d = true) (k : Nat) (hk : k ≤ q.f.length) : ∀ m ∈ zms q d k, I64 m.r ∧ I64 m.c := by
 intro m hm
 simp only [zms, List.mem_map, List.mem_range] at hm
 obtain ⟨i, hi, rfl⟩ := hm
 obtain ⟨nf, nt, yf, yt, ef, et, df, dt, _⟩ := rep_at (x := ⟨0, q, d, []⟩) h (show i < q.f.length by omega)
 obtain ⟨_, _, hd, _⟩ := areDims_t.1 h
 have b1 := hd _ (List.mem_of_getElem? df)
 have b2 := hd _ (List.mem_of_getElem? dt)
 simp only [zmx, List.getD_eq_getElem?_getD, ef, et, Option.getD_some, dAt_of df, dAt_of dt, I64]
 omega
theorem IntsO.cell {w : World} {lo hi : Nat} {v : Value} {l : List Int} (h : IntsO w lo hi v l) : v.oneCell' = true := by
 obtain ⟨A, c, rfl⟩ := h.form
 rfl
set_option maxHeartbeats 6400000 in
set_option maxRecDepth 100000 in
theorem zeroRep_any (p : Int) (u xv : Value) (q : Qv) (d : List Int) (w0 : World) (hp : I64 p) (hu : QvR w0 w0.heap.size u q) (hx : SlI w0 w0.heap.size xv d) (hq : areDims q d = true) :
  Calls Tryz.prog 49 #[.int .i64 p, u, xv] w0 fun e w' => ∃ v, e = .returned v ∧ RepO w' w0.heap.size w'.heap.size v (zRep p q d) ∧ Below w0.heap.size w0 w' := by
 have hu' := hu
 obtain ⟨A, c, C, c', rfl, hf, ht, hr, lf, lt⟩ := hu.open_
 obtain ⟨XA, xc, rfl, _, _, lx, hx⟩ := hx.open_
 clear hu
 obtain ⟨W, hW⟩ : ∃ W, W = (w0.alloc (.cells #[.int .i64 q.v, .slice A q.f.length c, .slice C q.t.length c'] 29)).alloc (.cells #[.int .i64 0, .int .i64 0, .slice none 0 0, .slice none 0 0, .slice none 0 0, .slice none 0 0] 32) := ⟨_, rfl⟩
 have g0 : Below w0.heap.size w0 W := by rw [hW]; exact ((Below.refl _ _).alloc (Nat.le_refl _) _).alloc (by simp) _
 have k1 : Blk W w0.heap.size 29 #[.int .i64 q.v, .slice A q.f.length c, .slice C q.t.length c'] := by rw [hW]; exact (Blk.new _ _ _).alloc _
 have k2 : Blk W (w0.heap.size + 1) 32 #[.int .i64 0, .int .i64 0, .slice none 0 0, .slice none 0 0, .slice none 0 0, .slice none 0 0] := by
  rw [hW]
  have := Blk.new (w0.alloc (.cells #[.int .i64 q.v, .slice A q.f.length c, .slice C q.t.length c'] 29)) 32 #[.int .i64 0, .int .i64 0, .slice none 0 0, .slice none 0 0, .slice none 0 0, .slice none 0 0]
  simpa only [World.size_alloc] using this
 have sz : W.heap.size = w0.heap.size + 1 + 1 := by rw [hW]; simp
 have SZ := Lib.hid sz
 clear sz
 have c0 := k1.cell' (i := 0) rfl
 have c1 := k1.cell' (i := 1) rfl
 have c2 := k1.cell' (i := 2) rfl
 have HQ := Lib.hid hq
 clear hq
 go_enter Tryz.func49, Tryz.ntmps49
 go_wp2_with fail
 rw [← hW]; clear hW
 refine (qvClone_any _ q _ (QvR.next g0 hu')).mono ?_; rintro e w1 ⟨v1, rfl, hQ, hb1⟩
 have s1 := hb1.size
 replace k2 := k2.call hb1
 replace g0 := bthen g0 hb1
 replace k1 := k1.call hb1
 replace c0 := k1.cell' (i := 0) rfl
 replace c1 := k1.cell' (i := 1) rfl
 replace c2 := k1.cell' (i := 2) rfl
 clear hb1
 obtain ⟨qa, qb, rfl, hQF, hqv⟩ := hQ
 have fa : IntsO w1 W.heap.size w1.heap.size qa q.f := hQF.1 (qa, q.f) (by simp)
 have fb : IntsO w1 W.heap.size w1.heap.size qb q.t := hQF.1 (qb, q.t) (by simp)
 obtain ⟨A1, a1, rfl⟩ := fa.form
 obtain ⟨C1, b1, rfl⟩ := fb.form
 clear fa fb
 go_wp2_with fail
 refine (clone_own _ d _ (SlI.next g0 hx)).mono ?_; rintro e w2 ⟨v2, rfl, hD, hb2⟩
 have s2 := hb2.size
 replace k2 := k2.call hb2
 replace hQF := hQF.below hb2
 replace g0 := bthen g0 hb2
 replace k1 := k1.call hb2
 replace c0 := k1.cell' (i := 0) rfl
 replace c1 := k1.cell' (i := 1) rfl
 replace c2 := k1.cell' (i := 2) rfl
 clear hb2
 obtain ⟨E1, e1, rfl⟩ := hD.form
 have hF3 : Fam w2 W.heap.size w2.heap.size ([(.slice A1 q.f.length a1, q.f), (.slice C1 q.t.length b1, q.t)] ++ [(.slice E1 d.length e1, d)]) := Fam.join (mi := w1.heap.size) hQF (Fam.one hD) (by omega) (by omega)
 have HF3 := Lib.hid hF3
 clear hF3 hQF hD
 have gR := Blk.new w2 32 #[.int .i64 p, .int .i64 q.v, .slice A1 q.f.length a1, .slice C1 q.t.length b1, .slice E1 d.length e1, .slice none 0 0]
 have ga := below_alloc w2 (.cells #[.int .i64 p, .int .i64 q.v, .slice A1 q.f.length a1, .slice C1 q.t.length b1, .slice E1 d.length e1, .slice none 0 0] 32)
 have k1a := k1.call ga
 have c1a := k1a.cell' (i := 1) rfl
 have K1 := Lib.hid k1
 have K2 := Lib.hid k2
 have G0 := Lib.hid g0
 clear k1 k2 c0 c1 c2 k1a g0
 go_wp2
 clear c1a
 go_loopw [19] (fun i wr => ∃ (k : Nat) (mv : Value) (vs : List Value), k ≤ q.f.length ∧ i = .int .i64 k ∧ Below w2.heap.size w2 wr ∧ w2.heap.size < wr.heap.size ∧ Blk wr w2.heap.size 32 #[.int .i64 p, .int .i64 q.v, .slice A1 q.f.length a1, .slice C1 q.t.length b1, .slice E1 d.length e1, mv] ∧
  RowO 50 3 wr w2.heap.size wr.heap.size mv k (mxCs vs (zms q d k)) ∧ vs.length = k ∧ Fam wr w2.heap.size wr.heap.size (vs.zip ((zms q d k).map Mx.a))) (fun i _ => q.f.length - (intOf i).toNat)
 case atStart => exact ⟨0, _, [], Nat.zero_le _, rfl, ga, by simp, gR, RowO.nil _ _ _ _, rfl, ⟨fun p hp => by simp at hp, by simp⟩⟩
 case round =>
  clear gR ga
  obtain ⟨k, mv, vs, hk, rfl, hbel, hlt2, hB, hO, hvl, hF⟩ := hrel
  have HVL := Lib.hid hvl
  clear hvl
  have kq := K1.out.call hbel
  by_cases hlt : k < q.f.length
  ·obtain ⟨nf, nt, yf, yt, ef, et, df, dt, lnf, lnt, lnf5, lnt5, hkt0⟩ := rep_at (x := ⟨0, q, d, []⟩) HQ.out hlt
   simp only at ef et df dt lnf lnt hkt0
   have hkf := hlt
   have hd := (areDims_t.1 HQ.out).2.2.1
   have hlf6 : q.f.length ≤ 6 := (isQ_t.1 (areDims_t.1 HQ.out).1).2.2.1
   have byf := hd _ (List.mem_of_getElem? df)
   have byt := hd _ (List.mem_of_getElem? dt)
   have HZS := Lib.hid (zms_succ ef et df dt)
   clear hd
   have hkt := hkt0
   obtain ⟨bf, of_, xf, eA, hbf, HXF, f1, _⟩ := SlI.at_ hf hkf
   obtain ⟨bt, ot, xt, eC, hbt, HXT, t1, _⟩ := SlI.at_ ht hkt
   obtain ⟨bd, od, xdf, eX, hbd, HXDF, d1, _⟩ := SlI.at_ hx lnf
   obtain ⟨bd', od', xdt, eX', hbd', HXDT, d2, _⟩ := SlI.at_ hx lnt
   subst eA eC eX
   injection eX' with eX'
   injection eX' with e1 e2
   subst e1 e2
   have q1 := HXF.out
   rw [ef] at q1
   injection q1 with q1
   subst q1
   have q2 := HXT.out
   rw [et] at q2
   injection q2 with q2
   subst q2
   have q3 := HXDF.out
   rw [df] at q3
   injection q3 with q3
   subst q3
   have q4 := HXDT.out
   rw [dt] at q4
   injection q4 with q4
   subst q4
   clear HXF HXT HXDF HXDT ef et df dt
   have gw : Below w0.heap.size w0 wr := G0.out.trans (hbel.mono (G0.out).size)
   have hbs := hbel.size
   have gws := (G0.out).size
   have f2 := bcell gw hbf f1
   have a1' : (0 : Int) ≤ (k : Int) := by omega
   have a2' : (k : Int) < q.f.length := by omega
   have a3' : (k : Int) < q.t.length := by omega
   have a4' : (0 : Int) ≤ (nf : Int) := by omega
   have a5' : (nf : Int) < d.length := by omega
   have a6' : (0 : Int) ≤ (nt : Int) := by omega
   have a7' : (nt : Int) < d.length := by omega
   go_wp2
   refine wp_region_net (by kernel_rfl) [.eq (.pointer (some ⟨w2.heap.size, 5, none⟩)), .eq (mv), .eq (.slice (some ⟨bd, od, none⟩) d.length xc), .eq (.pointer (some ⟨w0.heap.size, 2, none⟩)), .eq (.slice (some ⟨bt, ot, none⟩) q.t.length c'), .eq (.int .i64 k), .eq (.pointer (some ⟨bt, ot + k, none⟩)), .eq (.int .i64 nt), .eq (.pointer (some ⟨bd, od + nt, none⟩)), .eq (.int .i64 yt), .eq (.slice (some ⟨bd, od, none⟩) d.length xc), .eq (.int .i64 nf), .eq (.pointer (some ⟨bd, od + nf, none⟩)), .eq (.int .i64 yf), rel 14 (fun u lo hi w => MxO w lo hi u (zmx yt yf)), .rel (fun x w => ∃ g s, x.v 15 = .slice (some ⟨g, 0, none⟩) 1 1 ∧ x.v 14 = .agg #[.int .i64 yt, .int .i64 yf, s] ∧ Blk w g 50 #[.int .i64 yt, .int .i64 yf, s])] [[], [0], [], [], [3], [], [3, 4, 5], [3, 4, 5, 6], [2, 3, 4, 5, 6, 7], [2, 3, 4, 5, 6, 7, 8], [], [], [10, 11], [10, 11, 12], [2, 3, 4, 5, 6, 7, 8, 9, 10, 11, 12, 13], [2, 3, 4, 5, 6, 7, 8, 9, 10, 11, 12, 13, 14], [0, 1, 2, 3, 4, 5, 6, 7, 8, 9, 10, 11, 12, 13, 14, 15], [0, 1, 2, 3, 4, 5, 6, 7, 8, 9, 10, 11, 12, 13, 14, 15, 16], [0, 1, 2, 3, 4, 5, 6, 7, 8, 9, 10, 11, 12, 13, 14, 15, 16, 17]] 16 (by kernel_rfl) ⟨trivial, trivial, trivial, trivial, trivial, trivial, trivial, trivial, trivial, trivial, trivial, trivial, trivial, trivial, rel_stable (fun u lo hi w w' h hb => h.below hb), fun x w w' ⟨g, s, e1, e2, h⟩ hb => ⟨g, s, e1, e2, h.call hb⟩, trivial⟩ ⟨?_, ?_, ?_, ?_, ?_, ?_, ?_, ?_, ?_, ?_, ?_, ?_, ?_, ?_, ?_, ?_, trivial⟩ ?_
   ·intro x w hb hk Q' hQ
    clear hk
    simp only [netE] at hQ ⊢
    go_wp2
    exact hQ _ _ (Below.refl _ _) rfl
   ·intro x w hb hk Q' hQ
    have h0 : x.v 0 = .pointer (some ⟨w2.heap.size, 5, none⟩) := (hk 0 (by decide)).1
    clear hk
    simp only [netE] at hQ ⊢
    simp only [h0] at hQ ⊢
    clear h0
    have z5 := (hB.call hb).cell' (i := 5) rfl
    go_wp2
    exact hQ _ _ (Below.refl _ _) rfl
   ·intro x w hb hk Q' hQ
    clear hk
    simp only [netE] at hQ ⊢
    go_wp2
    exact hQ _ _ (Below.refl _ _) rfl
   ·intro x w hb hk Q' hQ
    clear hk
    simp only [netE] at hQ ⊢
    go_wp2
    exact hQ _ _ (Below.refl _ _) rfl
   ·intro x w hb hk Q' hQ
    have h3 : x.v 3 = .pointer (some ⟨w0.heap.size, 2, none⟩) := (hk 3 (by decide)).1
    clear hk
    simp only [netE] at hQ ⊢
    simp only [h3] at hQ ⊢
    clear h3
    have z2 := (kq.call hb).cell' (i := 2) rfl
    go_wp2
    exact hQ _ _ (Below.refl _ _) rfl
   ·intro x w hb hk Q' hQ
    clear hk
    simp only [netE] at hQ ⊢
    go_wp2
    exact hQ _ _ (Below.refl _ _) rfl
   ·intro x w hb hk Q' hQ
    have h4 : x.v 4 = .slice (some ⟨bt, ot, none⟩) q.t.length c' := (hk 4 (by decide)).1
    have h5 : x.v 5 = .int .i64 k := (hk 5 (by decide)).1
    clear hk
    simp only [netE] at hQ ⊢
    simp only [h4, h5] at hQ ⊢
    clear h4 h5
    go_wp2
    exact hQ _ _ (Below.refl _ _) rfl
   ·intro x w hb hk Q' hQ
    have h6 : x.v 6 = .pointer (some ⟨bt, ot + k, none⟩) := (hk 6 (by decide)).1
    clear hk
    simp only [netE] at hQ ⊢
    simp only [h6] at hQ ⊢
    clear h6
    have z2 := bcell hb (by omega) (bcell gw hbt t1)
    go_wp2
    exact hQ _ _ (Below.refl _ _) rfl
   ·intro x w hb hk Q' hQ
    have h2 : x.v 2 = .slice (some ⟨bd, od, none⟩) d.length xc := (hk 2 (by decide)).1
    have h7 : x.v 7 = .int .i64 nt := (hk 7 (by decide)).1
    clear hk
    simp only [netE] at hQ ⊢
    simp only [h2, h7] at hQ ⊢
    clear h2 h7
    go_wp2
    exact hQ _ _ (Below.refl _ _) rfl
   ·intro x w hb hk Q' hQ
    have h8 : x.v 8 = .pointer (some ⟨bd, od + nt, none⟩) := (hk 8 (by decide)).1
    clear hk
    simp only [netE] at hQ ⊢
    simp only [h8] at hQ ⊢
    clear h8
    have z2 := bcell hb (by omega) (bcell gw hbd' d2)
    go_wp2
    exact hQ _ _ (Below.refl _ _) rfl
   ·intro x w hb hk Q' hQ
    clear hk
    simp only [netE] at hQ ⊢
    go_wp2
    exact hQ _ _ (Below.refl _ _) rfl
   ·intro x w hb hk Q' hQ
    clear hk
    simp only [netE] at hQ ⊢
    go_wp2
    exact hQ _ _ (Below.refl _ _) rfl
   ·intro x w hb hk Q' hQ
    have h10 : x.v 10 = .slice (some ⟨bd, od, none⟩) d.length xc := (hk 10 (by decide)).1
    have h11 : x.v 11 = .int .i64 nf := (hk 11 (by decide)).1
    clear hk
    simp only [netE] at hQ ⊢
    simp only [h10, h11] at hQ ⊢
    clear h10 h11
    go_wp2
    exact hQ _ _ (Below.refl _ _) rfl
   ·intro x w hb hk Q' hQ
    have h12 : x.v 12 = .pointer (some ⟨bd, od + nf, none⟩) := (hk 12 (by decide)).1
    clear hk
    simp only [netE] at hQ ⊢
    simp only [h12] at hQ ⊢
    clear h12
    have z2 := bcell hb (by omega) (bcell gw hbd d1)
    go_wp2
    exact hQ _ _ (Below.refl _ _) rfl
   ·intro x w hb hk Q' hQ
    have h2 : x.v 2 = .slice (some ⟨bd, od, none⟩) d.length xc := (hk 2 (by decide)).1
    have h3 : x.v 3 = .pointer (some ⟨w0.heap.size, 2, none⟩) := (hk 3 (by decide)).1
    have h4 : x.v 4 = .slice (some ⟨bt, ot, none⟩) q.t.length c' := (hk 4 (by decide)).1
    have h5 : x.v 5 = .int .i64 k := (hk 5 (by decide)).1
    have h6 : x.v 6 = .pointer (some ⟨bt, ot + k, none⟩) := (hk 6 (by decide)).1
    have h7 : x.v 7 = .int .i64 nt := (hk 7 (by decide)).1
    have h8 : x.v 8 = .pointer (some ⟨bd, od + nt, none⟩) := (hk 8 (by decide)).1
    have h9 : x.v 9 = .int .i64 yt := (hk 9 (by decide)).1
    have h10 : x.v 10 = .slice (some ⟨bd, od, none⟩) d.length xc := (hk 10 (by decide)).1
    have h11 : x.v 11 = .int .i64 nf := (hk 11 (by decide)).1
    have h12 : x.v 12 = .pointer (some ⟨bd, od + nf, none⟩) := (hk 12 (by decide)).1
    have h13 : x.v 13 = .int .i64 yf := (hk 13 (by decide)).1
    clear hk
    simp only [netE] at hQ ⊢
    simp only [h2, h3, h4, h5, h6, h7, h8, h9, h10, h11, h12, h13] at hQ ⊢
    clear h2 h3 h4 h5 h6 h7 h8 h9 h10 h11 h12 h13
    go_wp2_with fail
    refine (zero_any yt yf _ byt.1 byf.1 (by omega) (by omega)).mono ?_; rintro e w3 ⟨v3, rfl, hZ, hb3⟩
    go_wp2
    exact hQ _ _ hb3 hZ
   ·intro x w hb hk Q' hQ
    have h2 : x.v 2 = .slice (some ⟨bd, od, none⟩) d.length xc := (hk 2 (by decide)).1
    have h3 : x.v 3 = .pointer (some ⟨w0.heap.size, 2, none⟩) := (hk 3 (by decide)).1
    have h4 : x.v 4 = .slice (some ⟨bt, ot, none⟩) q.t.length c' := (hk 4 (by decide)).1
    have h5 : x.v 5 = .int .i64 k := (hk 5 (by decide)).1
    have h6 : x.v 6 = .pointer (some ⟨bt, ot + k, none⟩) := (hk 6 (by decide)).1
    have h7 : x.v 7 = .int .i64 nt := (hk 7 (by decide)).1
    have h8 : x.v 8 = .pointer (some ⟨bd, od + nt, none⟩) := (hk 8 (by decide)).1
    have h9 : x.v 9 = .int .i64 yt := (hk 9 (by decide)).1
    have h10 : x.v 10 = .slice (some ⟨bd, od, none⟩) d.length xc := (hk 10 (by decide)).1
    have h11 : x.v 11 = .int .i64 nf := (hk 11 (by decide)).1
    have h12 : x.v 12 = .pointer (some ⟨bd, od + nf, none⟩) := (hk 12 (by decide)).1
    have h13 : x.v 13 = .int .i64 yf := (hk 13 (by decide)).1
    have h14 : MxO w (x.lo 14) (x.hi 14) (x.v 14) (zmx yt yf) := (hk 14 (by decide)).1
    have s14 := (hk 14 (by decide)).2
    clear hk
    simp only [netE] at hQ ⊢
    simp only [h2, h3, h4, h5, h6, h7, h8, h9, h10, h11, h12, h13] at hQ ⊢
    clear h2 h3 h4 h5 h6 h7 h8 h9 h10 h11 h12 h13
    obtain ⟨s, e14, hs⟩ := h14
    obtain ⟨sA, sc, es⟩ := hs.1.form
    obtain ⟨sn, hsn⟩ : ∃ n, (zmx yt yf).a.length = n := ⟨_, rfl⟩
    rw [hsn] at es
    clear hsn hs
    subst es
    have hQ' := hQ (.slice (some ⟨w.heap.size, 0, none⟩) 1 1) (w.alloc (.cells #[.int .i64 yt, .int .i64 yf, .slice sA sn sc] 50)) (below_alloc _ _) ⟨_, _, rfl, e14, Blk.new _ _ _⟩
    simp only [zmx] at e14
    rw [e14] at hQ' ⊢
    go_wp2
    exact hQ'
   ·intro x w hb hk hiv hdj
    have h0 : x.v 0 = .pointer (some ⟨w2.heap.size, 5, none⟩) := hk 0 (by decide)
    have h1 : x.v 1 = mv := hk 1 (by decide)
    have h2 : x.v 2 = .slice (some ⟨bd, od, none⟩) d.length xc := hk 2 (by decide)
    have h3 : x.v 3 = .pointer (some ⟨w0.heap.size, 2, none⟩) := hk 3 (by decide)
    have h4 : x.v 4 = .slice (some ⟨bt, ot, none⟩) q.t.length c' := hk 4 (by decide)
    have h5 : x.v 5 = .int .i64 k := hk 5 (by decide)
    have h6 : x.v 6 = .pointer (some ⟨bt, ot + k, none⟩) := hk 6 (by decide)
    have h7 : x.v 7 = .int .i64 nt := hk 7 (by decide)
    have h8 : x.v 8 = .pointer (some ⟨bd, od + nt, none⟩) := hk 8 (by decide)
    have h9 : x.v 9 = .int .i64 yt := hk 9 (by decide)
    have h10 : x.v 10 = .slice (some ⟨bd, od, none⟩) d.length xc := hk 10 (by decide)
    have h11 : x.v 11 = .int .i64 nf := hk 11 (by decide)
    have h12 : x.v 12 = .pointer (some ⟨bd, od + nf, none⟩) := hk 12 (by decide)
    have h13 : x.v 13 = .int .i64 yf := hk 13 (by decide)
    have h14 : MxO w (x.lo 14) (x.hi 14) (x.v 14) (zmx yt yf) := hk 14 (by decide)
    have h15 : ∃ g s, x.v 15 = .slice (some ⟨g, 0, none⟩) 1 1 ∧ x.v 14 = .agg #[.int .i64 yt, .int .i64 yf, s] ∧ Blk w g 50 #[.int .i64 yt, .int .i64 yf, s] := hk 15 (by decide)
    clear hk
    simp only [netE]
    simp only [List.drop_succ_cons, List.drop_zero, h0, h1, h2, h3, h4, h5, h6, h7, h8, h9, h10, h11, h12, h13]
    clear h0 h1 h2 h3 h4 h5 h6 h7 h8 h9 h10 h11 h12 h13
    obtain ⟨g, s, e15, e14, hg⟩ := h15
    have l14 := (hiv 14 (by decide)).1
    have h14i := (hiv 14 (by decide)).2.2
    obtain ⟨s', e14', hs, _⟩ := h14
    rw [e14] at e14'
    simp only [Value.agg.injEq, Array.mk.injEq, List.cons.injEq, and_true, zmx, true_and] at e14'
    subst e14'
    rw [e15]
    have hO' := hO.below hb
    have hF' := (hF.below hb).snoc (hs.wider l14 h14i) (by omega) hb.size
    have hB' := hB.call hb
    have gb2 : Below w2.heap.size w2 w := hbel.trans (hb.mono hbs)
    have hbs2 := hb.size
    have hLen := Lib.hid (zms_length q d k)
    have HF' := Lib.hid hF'
    have hO'' : OutM w w2.heap.size wr.heap.size mv vs (zms q d k) := by rw [OutM, hLen.out]; exact hO'
    have HC := Lib.hid hs.cell
    clear hiv hdj hs hF' hO' hO hF e14 e15 hb hB
    refine wpList_appM (by rfl) (.tmp 25) (.tmp 39) (by rfl) w2.heap.size wr.heap.size mv vs (zms q d k) (by rfl) hO'' (by rw [HVL.out, hLen.out]) g 1 (zmx yt yf) s (by rfl) hg HC.out (by rw [hLen.out]; omega) (by omega) ?_
    intro v' w' hO3 hA
    obtain ⟨n9, hn9⟩ : ∃ n, (zms q d k ++ [zmx yt yf]).length = n := ⟨_, rfl⟩
    rw [OutM, hn9] at hO3
    have HN9 := Lib.hid (show n9 = k + 1 by rw [← hn9]; simp [hLen.out])
    clear hn9
    obtain ⟨A9, c9, ev, _, _⟩ := hO3.form
    subst ev
    have hB3 := hA.other _ _ _ (by decide) hB'
    have z5 := hB3.cell' (i := 5) rfl
    have fr := hB3.frozen
    have gb3 : Below w2.heap.size w2 w' := gb2.trans (hA.below (Nat.le_refl _) (by omega))
    have hs3 := hA.size
    have hF3' := HF'.out.appT (by decide) hA
    have HF3' := Lib.hid hF3'
    have HO3 := Lib.hid hO3
    clear hF3' hO3 HF' hO'' hA gb2 hg
    go_wp2
    go_roundw
    case rel =>
     refine ⟨k + 1, .slice A9 n9 c9, vs ++ [s], by omega, by go_num, gb3.setCell (by simp) _, by simp; omega, hB3.set_ 5 _, ?_, by simp [HVL.out], ?_⟩
     ·have := HO3.out.set hB3 (by decide) 5 (.slice A9 n9 c9)
      rw [HZS.out]
      rw [HN9.out] at this ⊢
      simpa using this
     ·have h1 := HF3'.out.setBlk (i := 5) hB3 (by decide) (.slice A9 n9 c9)
      have e : (vs ++ [s]).zip ((zms q d (k + 1)).map Mx.a) = vs.zip ((zms q d k).map Mx.a) ++ [(s, List.replicate (yt * yf).toNat 0)] := by
       rw [HZS.out, List.map_append, List.zip_append (by simp [HVL.out, hLen.out])]
       rfl
      rw [e]
      exact h1.mono (Nat.le_refl _) (by simp; omega)
    case measure => simp [intOf]; omega
  ·obtain rfl : k = q.f.length := by omega
   have hbs := hbel.size
   obtain ⟨H1, h1, rfl, _, _⟩ := hO.form
   have hI := Lib.hid (zms_I64 HQ.out q.f.length (Nat.le_refl _))
   have hF' : Fam wr W.heap.size wr.heap.size ([(.slice A1 q.f.length a1, q.f), (.slice C1 q.t.length b1, q.t)] ++ [(.slice E1 d.length e1, d)] ++ vs.zip ((zms q d q.f.length).map Mx.a)) :=
    Fam.join (mi := w2.heap.size) (HF3.out.below hbel) hF (by omega) (by omega)
   have hL := zms_length q d q.f.length
   have hO' : OutM wr w2.heap.size wr.heap.size (.slice H1 q.f.length h1) vs (zms q d q.f.length) := by rw [OutM, hL]; exact hO
   have hR : RepO wr W.heap.size wr.heap.size (.agg #[.int .i64 p, .int .i64 q.v, .slice A1 q.f.length a1, .slice C1 q.t.length b1, .slice E1 d.length e1, .slice H1 q.f.length h1]) (zRep p q d) :=
    ⟨_, _, _, _, vs, rfl, hO'.mono (by omega) (Nat.le_refl _), by rw [HVL.out]; exact hL.symm, hF', ⟨hp, hqv⟩, hI.out⟩
   have HR := Lib.hid hR
   have k2' := K2.out.call hbel
   have r0 := hB.cell' (i := 0) rfl
   have r1 := hB.cell' (i := 1) rfl
   have r2 := hB.cell' (i := 2) rfl
   have r3 := hB.cell' (i := 3) rfl
   have r4 := hB.cell' (i := 4) rfl
   have r5 := hB.cell' (i := 5) rfl
   have s0 := k2'.cell' (i := 0) rfl
   have s1 := k2'.cell' (i := 1) rfl
   have s2 := k2'.cell' (i := 2) rfl
   have s3 := k2'.cell' (i := 3) rfl
   have s4 := k2'.cell' (i := 4) rfl
   have s5 := k2'.cell' (i := 5) rfl
   have fr := k2'.frozen
   have gf : Below w0.heap.size w0 wr := G0.out.trans (hbel.mono (G0.out).size)
   have GF := Lib.hid gf
   clear hR hO' hF' hL hO hF hB k2' kq gf
   go_wp2
   have sz := SZ.out
   have gf := GF.out
   refine bodyPost_ret (v := .agg #[.int .i64 p, .int .i64 q.v, .slice A1 q.f.length a1, .slice C1 q.t.length b1, .slice E1 d.length e1, .slice H1 q.f.length h1]) (by simp [results, go_sem, s0, s1, s2, s3, s4, s5]) rfl ⟨_, rfl, RepO.wider (lo := W.heap.size) (hi := wr.heap.size) ?_ (by omega) (by simp), (((((gf.setCell (by simp) _).setCell (by simp) _).setCell (by simp) _).setCell (by simp) _).setCell (by simp) _).setCell (by simp) _⟩
   have hc : Chg (w0.heap.size + 1) (w0.heap.size + 1 + 1) wr _ := (((((chg_set (w := wr) (p := ⟨w0.heap.size + 1, 0, none⟩) (u := .int .i64 p) (by simp) (by simp)).trans (chg_set (p := ⟨w0.heap.size + 1, 1, none⟩) (u := .int .i64 q.v) (by simp) (by simp))).trans (chg_set (p := ⟨w0.heap.size + 1, 2, none⟩) (u := .slice A1 q.f.length a1) (by simp) (by simp))).trans (chg_set (p := ⟨w0.heap.size + 1, 3, none⟩) (u := .slice C1 q.t.length b1) (by simp) (by simp))).trans (chg_set (p := ⟨w0.heap.size + 1, 4, none⟩) (u := .slice E1 d.length e1) (by simp) (by simp))).trans (chg_set (p := ⟨w0.heap.size + 1, 5, none⟩) (u := .slice H1 q.f.length h1) (by simp) (by simp))
   exact HR.out.chg hc (.inr (by omega))
end Go.Proofs.YtcmlflppndfdcaaGreat
namespace Go.Proofs.YtcmlflppndfdcaaGreat
open Go.RowKit
theorem IntssO.wider {w : World} {lo hi lo' hi' : Nat} {v : Value} {ll : List (List Int)} (h : IntssO w lo hi v ll) (h1 : lo' ≤ lo) (h2 : hi ≤ hi') : IntssO w lo' hi' v ll := by
 obtain ⟨vs, a, b, c⟩ := h
 exact ⟨vs, a.mono h1 h2, b, c.mono h1 h2⟩
theorem IntssO.form2 {w : World} {lo hi : Nat} {v : Value} {ll : List (List Int)} (h : IntssO w lo hi v ll) : ∃ A c, v = .slice A ll.length c ∧ ll.length ≤ c ∧ c ≤ 9223372036854775807 ∧ ll.length ≤ 17592186044416 := by
 obtain ⟨vs, a, b, c⟩ := h
 obtain ⟨A, d, h1, h2, h3⟩ := a.form
 exact ⟨A, d, by rw [h1, b], by omega, h3, by have := a.2.2; omega⟩
theorem IntssO.nil (w : World) (lo hi : Nat) : IntssO w lo hi (.slice none 0 0) [] := ⟨[], ⟨World.ownsRow_nil _ _ _ _, by simp [Value.ownBlock], by simp⟩, rfl, ⟨fun p hp => by simp at hp, by simp⟩⟩
theorem IntssO.made0 (w : World) {lo : Nat} (h : lo ≤ w.heap.size) : IntssO (w.alloc (.cells #[] 22)) lo (w.alloc (.cells #[] 22)).heap.size (.slice (some ⟨w.heap.size, 0, none⟩) 0 0) [] :=
 ⟨[], ⟨World.ownsRow_made w #[] 0 h (by simp [maxLen]) (by simp), by simp [Value.ownBlock], by simp⟩, rfl, ⟨fun p hp => by simp at hp, by simp⟩⟩
theorem IntssO.made (w : World) {lo n : Nat} (h : lo ≤ w.heap.size) (hn : n ≤ 17592186044416) : IntssO (w.alloc (.cells (mkCells (.slice none 0 0) n) 22)) lo (w.alloc (.cells (mkCells (.slice none 0 0) n) 22)).heap.size (.slice (some ⟨w.heap.size, 0, none⟩) n n) (List.replicate n []) := by
 refine ⟨List.replicate n (.slice none 0 0), ?_, by simp, ⟨fun p hp => ?_, ?_⟩⟩
 ·have h1 := (Blk.new w 22 (mkCells (.slice none 0 0) n)).own (base := lo) (n := n) (cap := n) (size := 1) h (Nat.le_refl _) (by simp only [maxLen]; omega) (by rw [mkCells_size]; omega)
  rw [show (mkCells (.slice none 0 0) n).toList = List.replicate n (.slice none 0 0) from toList_madeCells_one _ _, List.take_of_length_le (by simp)] at h1
  exact ⟨by simpa using h1, fun k hk => by simp [Value.ownBlock] at hk; simp; omega, by simpa using hn⟩
 ·obtain ⟨a, b⟩ := p
  have h1 := List.of_mem_zip hp
  obtain ⟨_, rfl⟩ := List.mem_replicate.1 h1.1
  obtain ⟨_, rfl⟩ := List.mem_replicate.1 h1.2
  exact ⟨OwnI.nil _ _, by simp [Value.ownBlock]⟩
 ·rw [List.pairwise_iff_getElem]
  intro i j hi hj hij
  left
  simp [Value.ownBlock]
theorem IntssO.at_ {w : World} {lo hi : Nat} {v : Value} {ll : List (List Int)} (h : IntssO w lo hi v ll) (h0 : 0 < ll.length) : ∃ g c, v = .slice (some ⟨g, 0, none⟩) ll.length c ∧ lo ≤ g ∧ g < hi ∧ g < w.heap.size ∧ ll.length ≤ c ∧ c ≤ 9223372036854775807 := by
 obtain ⟨vs, a, b, c⟩ := h
 rcases a.1.2 with ⟨_, h1⟩ | ⟨g, cap, cur, rfl, hg, hh, hnc, hcm, _⟩
 ·omega
 ·exact ⟨g, cap, by rw [b], hg, a.2.1 g (by simp [Value.ownBlock]), (Array.getElem?_eq_some_iff.1 hh).1, by omega, by simp only [maxLen] at hcm; omega⟩
theorem IntssO.row {w : World} {lo hi g n c j : Nat} {ll : List (List Int)} {l : List Int} (h : IntssO w lo hi (.slice (some ⟨g, 0, none⟩) n c) ll) (hj : ll[j]? = some l) : ∃ u, w.cell? ⟨g, j, none⟩ = some u ∧ IntsO w lo hi u l ∧ w.frozen? ⟨g, j, none⟩ = false := by
 obtain ⟨vs, a, b, F⟩ := h
 have hl := lt_of_some hj
 have hv : vs[j]? = some (vs[j]'(by omega)) := List.getElem?_eq_getElem (by omega)
 exact ⟨_, a.cellS hv, F.1 (vs[j]'(by omega), l) (by rw [zip_split hv hj]; simp), a.frozenS j⟩
theorem OutO.blk {w : World} {lo hi g n c : Nat} {vs : List Value} (h : OutO w lo hi (.slice (some ⟨g, 0, none⟩) n c) vs) : ∃ cs, Blk w g 22 cs ∧ n = vs.length := by
 rcases h.1.2 with ⟨e, _⟩ | ⟨g', cap', cur, e, _, hh, _⟩
 ·cases e
 ·injection e with e1 e2 _
  injection e1 with e1
  injection e1 with e1
  subst e1
  exact ⟨cur, hh, e2⟩
theorem IntssO.setRow {w : World} {lo hi mi hi' g n c j : Nat} {ll : List (List Int)} {l : List Int} {u : Value} (h : IntssO w lo hi (.slice (some ⟨g, 0, none⟩) n c) ll) (hj : j < ll.length) (hu : IntsO w mi hi' u l) (h1 : hi ≤ mi) (h2 : mi ≤ hi') (h3 : lo ≤ mi) :
  IntssO (w.setCell ⟨g, j, none⟩ u) lo hi' (.slice (some ⟨g, 0, none⟩) n c) (ll.set j l) ∧ Chg g (g + 1) w (w.setCell ⟨g, j, none⟩ u) := by
 obtain ⟨vs, a, b, F⟩ := h
 obtain ⟨cs, hb, hn⟩ := a.blk
 refine ⟨⟨vs.set j u, ?_, by simp [b], ?_⟩, chg_set (Nat.le_refl _) (Nat.lt_succ_self _)⟩
 ·have h4 := (hn ▸ a.1).stored j u
  rw [hn]
  exact ⟨by simpa using h4.1, fun k hk => Nat.lt_of_lt_of_le (a.2.1 k (by simpa [Value.ownBlock] using hk)) (by omega), by simpa using a.2.2⟩
 ·have hv : vs[j]? = some (vs[j]'(by omega)) := List.getElem?_eq_getElem (by omega)
  have hl : ll[j]? = some (ll[j]'hj) := List.getElem?_eq_getElem hj
  have hsv : (vs.set j u)[j]? = some u := by rw [List.getElem?_set, if_pos rfl, if_pos (by omega)]
  have hsl : (ll.set j l)[j]? = some l := by rw [List.getElem?_set, if_pos rfl, if_pos hj]
  have F2 := F.setBlk (i := j) hb (by decide) u
  have hu2 : IntsO (w.setCell ⟨g, j, none⟩ u) mi hi' u l := ⟨hu.1.setCell (p := ⟨g, j, none⟩) (fun e => hu.1.blkne hb (by decide) e.symm) u, hu.2⟩
  rw [zip_split hsv hsl, List.take_set_of_le (Nat.le_refl j), List.drop_set_of_lt (by omega), List.take_set_of_le (Nat.le_refl j), List.drop_set_of_lt (by omega)]
  rw [zip_split hv hl] at F2
  obtain ⟨G1, G2⟩ := F2
  rw [List.pairwise_append] at G2
  obtain ⟨P1, P2, P3⟩ := G2
  rw [List.pairwise_cons] at P2
  refine ⟨fun p hp => ?_, ?_⟩
  ·rcases List.mem_append.1 hp with hp | hp
   ·exact (G1 p (by simp [hp])).wider (Nat.le_refl _) (by omega)
   ·rcases List.mem_cons.1 hp with rfl | hp
    ·exact hu2.wider h3 (Nat.le_refl _)
    ·exact (G1 p (by simp [hp])).wider (Nat.le_refl _) (by omega)
  ·rw [List.pairwise_append, List.pairwise_cons]
   refine ⟨P1, ⟨fun p hp => ?_, P2.2⟩, fun p hp q hq => ?_⟩
   ·rcases hA : u.ownBlock with _ | x
    ·exact .inl rfl
    ·refine .inr fun e2 => ?_
     have h5 := (G1 p (by simp [hp])).2 x e2.symm
     have h6 := (hu2.1.lt x hA).1
     omega
   ·rcases List.mem_cons.1 hq with rfl | hq
    ·rcases hA : p.1.ownBlock with _ | x
     ·exact .inl rfl
     ·refine .inr fun e => ?_
      have h5 := (G1 p (by simp [hp])).2 x hA
      have h6 := (hu2.1.lt x e.symm).1
      omega
    ·exact P3 p hp q (by simp [hq])
theorem IntssO.putAt {w : World} {lo hi gr n c j i : Nat} {v : Value} {ll : List (List Int)} {l : List Int} {x : Int} (h : IntssO w lo hi v ll) (hj : ll[j]? = some l) (hx : I64 x)
  (hrow : ∀ vs, vs.length = ll.length → OutO w lo hi v vs → Fam w lo hi (vs.zip ll) → vs[j]? = some (.slice (some ⟨gr, 0, none⟩) n c)) :
  IntssO (w.setCell ⟨gr, i, none⟩ (.int .i64 x)) lo hi v (ll.set j (l.set i x)) ∧ w.grownBy (w.setCell ⟨gr, i, none⟩ (.int .i64 x)) (some gr) := by
 obtain ⟨vs, a, b, F⟩ := h
 have hv := hrow vs b a F
 have ho := F.1 (.slice (some ⟨gr, 0, none⟩) n c, l) (by rw [zip_split hv hj]; simp)
 obtain ⟨_, _, e⟩ := ho.form
 injection e with _ e _
 replace e : n = l.length := e
 subst e
 have hp := ho.1.put (j := i) hx
 exact ⟨⟨vs, a.grown ho.1 hp.2, by simp [b], F.putAt hv hj ho.1 hx⟩, hp.2⟩
theorem IntssO.cellRow {w : World} {lo hi g n' c' gr n c j : Nat} {ll : List (List Int)} (hc : w.cell? ⟨g, j, none⟩ = some (.slice (some ⟨gr, 0, none⟩) n c)) :
  ∀ vs, j < vs.length → OutO w lo hi (.slice (some ⟨g, 0, none⟩) n' c') vs → Fam w lo hi (vs.zip ll) → vs[j]? = some (.slice (some ⟨gr, 0, none⟩) n c) := fun vs hl ho _ => by
 have hv : vs[j]? = some (vs[j]'hl) := List.getElem?_eq_getElem hl
 have := ho.cellS hv
 rw [hc] at this
 rw [hv, this]
theorem IntssO.put {w : World} {lo hi g n' c' gr n c j i : Nat} {ll : List (List Int)} {l : List Int} {x : Int} (h : IntssO w lo hi (.slice (some ⟨g, 0, none⟩) n' c') ll) (hj : ll[j]? = some l) (hc : w.cell? ⟨g, j, none⟩ = some (.slice (some ⟨gr, 0, none⟩) n c)) (hx : I64 x) :
  IntssO (w.setCell ⟨gr, i, none⟩ (.int .i64 x)) lo hi (.slice (some ⟨g, 0, none⟩) n' c') (ll.set j (l.set i x)) ∧ w.grownBy (w.setCell ⟨gr, i, none⟩ (.int .i64 x)) (some gr) :=
 h.putAt hj hx fun vs hl ho F => IntssO.cellRow hc vs (by have := lt_of_some hj; omega) ho F
theorem wpList_appR {w : World} {ops : Array Oper} {rest : List Oper} {o : Oper} {a : Act} {Q : Exit → Act → World → Prop} (hgd : o.guard = none) (s x : Operand)
  (ho : o.op = .call { callee := .builtin .append, args := #[s, x], argTypes := #[57, 57] })
  (lo hi mi hi' : Nat) (v : Value) (ll : List (List Int)) (l : List Int) (hs : a.eval s = v) (hown : IntssO w lo hi v ll) (A : Option Addr) (c : Nat) (u : Value) (hx : a.eval x = .slice A 1 c) (hA : ∃ b o, A = some ⟨b, o, none⟩ ∧ w.cell? ⟨b, o, none⟩ = some u) (hu : IntsO w mi hi' u l)
  (h1 : hi ≤ mi) (h2 : mi ≤ hi') (h3 : lo ≤ mi) (hn : ll.length + 1 ≤ 1048576) (hlo : lo ≤ w.heap.size) (hhi : hi' ≤ w.heap.size)
  (h : ∀ v' w', IntssO w' lo w'.heap.size v' (ll ++ [l]) → Below lo w w' → w.grownBy w' v.ownBlock → wpList Tryz.prog ops Q rest (a.put o.dst v') w') : wpList Tryz.prog ops Q (o :: rest) a w := by
 obtain ⟨vs, h4, h5, h6⟩ := hown
 refine wpList_appS hgd s x ho lo v vs hs h4.1 A c u hx hA (by obtain ⟨A', c', rfl, _⟩ := hu.1.form; rfl) (by omega) hlo fun v' w' k1 k2 k3 => ?_
 have hbg : Below lo w w' := below_grown k2 (fun k hk => (h4.1.lt k hk).1) hlo
 have F2 := ((h6.mono (Nat.le_refl _) h1).snoc hu h3 h2).mono (Nat.le_refl _) (Nat.le_trans hhi hbg.size)
 have F3 := Fam.grownO (by simpa using F2) h4.1 k2
 refine h v' w' ⟨vs ++ [u], ⟨k1, fun k hk => (k1.lt k hk).2, by simp; omega⟩, by simp [h5], ?_⟩ hbg k2
 rw [List.zip_append h5]
 exact F3
theorem chg_belowB {B : Nat} {w w' : World} (h : Below B w w') : Chg B w.heap.size w w' := ⟨h.os, h.tape, h.output, h.size, fun k hk hne => h.block k (by omega)⟩
end Go.Proofs.YtcmlflppndfdcaaGreat
namespace Go.Proofs.YtcmlflppndfdcaaGreat
open Go.RowKit
theorem MatsO.wider {w : World} {lo hi lo' hi' : Nat} {v : Value} {ms : List Mx} (h : MatsO w lo hi v ms) (h1 : lo' ≤ lo) (h2 : hi ≤ hi') : MatsO w lo' hi' v ms := by
 obtain ⟨vs, a, b, c, d⟩ := h
 exact ⟨vs, a.mono h1 h2, b, c.mono h1 h2, d⟩
theorem MatsO.nil (w : World) (lo hi : Nat) : MatsO w lo hi (.slice none 0 0) [] := ⟨[], RowO.nil _ _ _ _, rfl, ⟨fun p hp => by simp at hp, by simp⟩, by simp⟩
theorem MatsO.form2 {w : World} {lo hi : Nat} {v : Value} {ms : List Mx} (h : MatsO w lo hi v ms) : ∃ A c, v = .slice A ms.length c ∧ ms.length ≤ c ∧ c ≤ 9223372036854775807 := by
 obtain ⟨vs, a, b, c, d⟩ := h
 exact RowO.form a
theorem wpList_appMats {w : World} {ops : Array Oper} {rest : List Oper} {o : Oper} {a : Act} {Q : Exit → Act → World → Prop} (hgd : o.guard = none) (s x : Operand)
  (ho : o.op = .call { callee := .builtin .append, args := #[s, x], argTypes := #[30, 30] })
  (lo hi : Nat) (v : Value) (ms : List Mx) (hs : a.eval s = v) (hown : MatsO w lo hi v ms) (g c l1 h1 : Nat) (m : Mx) (u : Value) (hx : a.eval x = .slice (some ⟨g, 0, none⟩) 1 c) (hg : Blk w g 50 #[.int .i64 m.r, .int .i64 m.c, u]) (hu : IntsO w l1 h1 u m.a) (hI : I64 m.r ∧ I64 m.c)
  (hd : hi ≤ l1) (hl : lo ≤ hi) (hh : h1 ≤ w.heap.size) (hw : hi ≤ w.heap.size) (hn : ms.length ≤ 1000000)
  (h : ∀ v' w', MatsO w' lo w'.heap.size v' (ms ++ [m]) → AppT 50 lo w w' → wpList Tryz.prog ops Q rest (a.put o.dst v') w') : wpList Tryz.prog ops Q (o :: rest) a w := by
 obtain ⟨vs, hO, hvl, hF, hI2⟩ := hown
 refine wpList_appM hgd s x ho lo hi v vs ms hs hO hvl g c m u hx hg hu.cell hn (by omega) fun v' w' k1 k2 => h v' w' ⟨vs ++ [u], k1, by simp [hvl], ?_, ?_⟩ k2
 ·have hF3 : Fam w lo w.heap.size (vs.zip (ms.map Mx.a) ++ [(u, m.a)]) := hF.snoc (hu.wider hd hh) hl hw
  have hF4 := (hF3.appT (by decide) k2).mono (Nat.le_refl lo) k2.size
  rw [List.map_append, List.zip_append (by rw [List.length_map, hvl])]
  exact hF4
 ·intro y hy
  rcases List.mem_append.1 hy with hy | hy
  ·exact hI2 y hy
  ·rw [List.mem_singleton] at hy
   subst hy
   exact hI
theorem MatsO.at_ {w : World} {lo hi k : Nat} {v : Value} {ms : List Mx} (h : MatsO w lo hi v ms) (hk : k < ms.length) : ∃ b o m A' c' A c, v = .slice A ms.length c ∧ A = some ⟨b, o, none⟩ ∧ b < w.heap.size ∧ Hid (ms[k]? = some m) ∧ w.cell? ⟨b, o + k * 3, none⟩ = some (.int .i64 m.r) ∧ w.cell? ⟨b, o + k * 3 + 1, none⟩ = some (.int .i64 m.c) ∧ w.cell? ⟨b, o + k * 3 + 2, none⟩ = some (.slice A' m.a.length c') ∧ SlI w w.heap.size (.slice A' m.a.length c') m.a := by
 obtain ⟨A, c, rfl, _, _⟩ := h.form2
 obtain ⟨b, o, m, A', c', h1, h2, h3, h4, h5, h6, h7, _⟩ := SlM.at_ h.rd hk
 exact ⟨b, o, m, A', c', A, c, rfl, h1, h2, h3, h4, h5, h6, h7⟩
end Go.Proofs.YtcmlflppndfdcaaGreat
