/- FnExactReflectSource: for every argument the program's function returns what the reference's returns. Part 9 of 14 of the proof: Red1, Rank0, RankT, RrU, SpP, KerF, RstP, LeaI, LeaJ, RstI, KerI, KerI2, DsP, L3B, Blks, DsI, DsQ, DsS, PrjC, SpI. No condition. -/
import Derived.Test.YtaefpblpfjhgoaaGreatBReflectSource8
/- Elimination: the program's reduce. -/
namespace Go.Proofs.YtaefpblpfjhgoaaGreat
set_option linter.unusedVariables false
set_option linter.unusedSimpArgs false
open Go.RowKit

set_option maxHeartbeats 12800000 in
set_option maxRecDepth 100000 in
theorem implReduce_any (p : Int) (u : Value) (r c : Nat) (f : Nat → Nat → Int) (w0 : World) (hp : isFld p = true) (hr : r ≤ 1000) (hc : c ≤ 1000) (hu : MxR w0 w0.heap.size u (mxF r c f)) (hf : InF p r c f) :
    Calls Tryz.prog 74 #[.int .i64 p, u] w0 fun e w' => ∃ m v, e = .returned (.tuple #[m, v]) ∧ MxO w' w0.heap.size w'.heap.size m (mxF r c (rdTo p r f c).1) ∧ IntsO w' w0.heap.size w'.heap.size v (rdTo p r f c).2 ∧ Below w0.heap.size w0 w' := by
  have hpr := isFld_r hp
  have hu' := hu
  obtain ⟨UA, uc, rfl⟩ := hu.form
  simp only [mxF] at hu hu' ⊢
  rw [flat_length] at hu hu' ⊢
  obtain ⟨UL, hUL⟩ : ∃ n, r * c = n := ⟨_, rfl⟩
  rw [hUL] at hu hu' ⊢
  have HUL := Lib.hid hUL
  clear hUL hu
  obtain ⟨W, hW⟩ : ∃ W, W = (w0.alloc (.cells #[.int .i64 r, .int .i64 c, .slice UA UL uc] 50)).alloc (.cells #[.int .i64 0, .int .i64 0, .slice none 0 0] 50) := ⟨_, rfl⟩
  have g0 : Below w0.heap.size w0 W := by rw [hW]; exact ((Below.refl _ _).alloc (Nat.le_refl _) _).alloc (by simp) _
  have kB : Blk W w0.heap.size 50 #[.int .i64 r, .int .i64 c, .slice UA UL uc] := by rw [hW]; exact (Blk.new _ _ _).alloc _
  have kR : Blk W (w0.heap.size + 1) 50 #[.int .i64 0, .int .i64 0, .slice none 0 0] := by
    rw [hW]
    have := Blk.new (w0.alloc (.cells #[.int .i64 r, .int .i64 c, .slice UA UL uc] 50)) 50 #[.int .i64 0, .int .i64 0, .slice none 0 0]
    simpa only [World.size_alloc] using this
  have sz : W.heap.size = w0.heap.size + 1 + 1 := by rw [hW]; simp
  have SZ := Lib.hid sz
  have HU := Lib.hid (MxR.next g0 hu')
  have HF := Lib.hid hf
  have HP := Lib.hid hp
  have c0 := kB.cell' (i := 0) rfl
  have c1 := kB.cell' (i := 1) rfl
  have c2 := kB.cell' (i := 2) rfl
  clear hu' sz hf hp
  go_enter Tryz.func74, Tryz.ntmps74
  go_wp2_with fail
  rw [← hW]; clear hW
  refine (mxClone_any _ _ _ HU.out).mono ?_; rintro e w1 ⟨v1, rfl, hM, hb1⟩
  obtain ⟨A, cap, ev⟩ := hM.form
  subst ev
  simp only [flat_length] at hM ⊢
  obtain ⟨L, hL⟩ : ∃ n, r * c = n := ⟨_, rfl⟩
  rw [hL] at hM ⊢
  have HL := Lib.hid hL
  clear hL
  have kB1 := kB.call hb1
  have kR1 := kR.call hb1
  have g1 := bthen g0 hb1
  clear c0 c1 c2
  have c0 := kB1.cell' (i := 0) rfl
  have c1 := kB1.cell' (i := 1) rfl
  have c2 := kB1.cell' (i := 2) rfl
  have fr := kB1.frozen
  have s1 := hb1.size
  have sz := SZ.out
  obtain ⟨w2, hw2⟩ : ∃ w2, w2 = ((w1.setCell ⟨w0.heap.size, 0, none⟩ (.int .i64 r)).setCell ⟨w0.heap.size, 1, none⟩ (.int .i64 c)).setCell ⟨w0.heap.size, 2, none⟩ (.slice A L cap) := ⟨_, rfl⟩
  have hch : Chg w0.heap.size (w0.heap.size + 1) w1 w2 := by rw [hw2]; exact chg3 w1 _ _ _ _
  have kB2 : Blk w2 w0.heap.size 50 #[.int .i64 r, .int .i64 c, .slice A L cap] := by rw [hw2]; exact ((kB1.set_ 0 _).set_ 1 _).set_ 2 _
  have kR2 := kR1.chg hch (.inr (by omega))
  have g2 : Below w0.heap.size w0 w2 := g1.trans (hch.below (Nat.le_refl _) (by omega))
  have s2 := hch.size
  obtain ⟨sA, esA, hIA, _, _⟩ := hM
  simp only [Value.agg.injEq, Array.mk.injEq, List.cons.injEq, and_true, true_and] at esA
  subst esA
  have hI2 := hIA.chg hch (.inr (by omega))
  have hS0 : RS W.heap.size w2 A r c L cap w2 (rdTo p r f 0).1 (.slice none 0 0) (rdTo p r f 0).2 := by
    refine ⟨Below.refl _ _, ?_⟩
    refine ⟨fun q hq => ?_, List.pairwise_pair.2 (Classical.em _)⟩
    simp only [List.mem_cons, List.not_mem_nil, or_false] at hq
    rcases hq with rfl | rfl
    · exact hI2.wider (Nat.le_refl _) s2
    · exact ⟨OwnI.nil _ _, by simp [Value.ownBlock]⟩
  have KB := Lib.hid kB2
  have KR := Lib.hid kR2
  have G2 := Lib.hid g2
  have hWB : W.heap.size ≤ w2.heap.size := by omega
  have HB0 : Hid (w0.heap.size < W.heap.size) := by show _ < _; omega
  have HWB := Lib.hid hWB
  clear kB kB1 kR kR1 g0 g1 hIA hI2 hch kB2 kR2 g2 s1 s2 sz hb1 hWB
  go_wp2
  rw [← hw2]; clear hw2 c0 c1 c2 fr
  go_loopw [6, 18] (fun pv i wr => ∃ k : Nat, k ≤ c ∧ i = .int .i64 k ∧ RS W.heap.size w2 A r c L cap wr (rdTo p r f k).1 pv (rdTo p r f k).2) (fun _ i _ => c - (intOf i).toNat)
  case atStart => exact ⟨0, Nat.zero_le _, rfl, hS0⟩
  case round =>
    clear hS0
    obtain ⟨k, hk, rfl, S⟩ := hrel
    obtain ⟨PA, pc, ev, _, _⟩ := S.ownP.1.form
    subst ev
    have hln := rdTo_len p r f k
    have hin := inF_to hpr.1 HF.out k
    have hrs := rdTo_succ p r f k
    obtain ⟨F, hFF⟩ : ∃ F, (rdTo p r f k).1 = F := ⟨_, rfl⟩
    obtain ⟨ps, hps⟩ : ∃ ps, (rdTo p r f k).2 = ps := ⟨_, rfl⟩
    have hpm := rdTo_mem p r f k
    rw [hps] at hpm
    rw [hFF, hps] at S hrs
    rw [hps] at hln
    rw [hFF] at hin
    rw [hps]
    obtain ⟨n, hn⟩ : ∃ n, ps.length = n := ⟨_, rfl⟩
    rw [hn] at hln hrs S ⊢
    have HRS := Lib.hid hrs
    clear hrs
    have HPM := Lib.hid hpm
    have HN := Lib.hid hn
    have HIN := Lib.hid hin
    have HFF := Lib.hid hFF
    have HPS := Lib.hid hps
    clear hFF hps hn hin hpm
    by_cases hlt : k < c
    · have kb := KB.out.below (S).bel HB0.out
      have c0 := kb.cell' (i := 0) rfl
      have c1 := kb.cell' (i := 1) rfl
      have c2 := kb.cell' (i := 2) rfl
      have hSS := Lib.hid S
      clear kb
      go_wp2
      go_loopw [8] (fun i wr => ∃ a : Nat, n ≤ a ∧ a ≤ r ∧ i = .int .i64 a ∧ RS W.heap.size w2 A r c L cap wr F (.slice PA n pc) ps ∧ Hid (∀ i, n ≤ i → i < a → F i k = 0)) (fun i _ => r - (intOf i).toNat)
      case atStart => exact ⟨n, Nat.le_refl _, hln.1, rfl, S, fun i h1 h2 => by omega⟩
      case round =>
        clear c0 c1 c2 S
        obtain ⟨a, hna, har, rfl, S, hz⟩ := hrel
        have kb := KB.out.below (S).bel HB0.out
        have c0 := kb.cell' (i := 0) rfl
        have c1 := kb.cell' (i := 1) rfl
        have c2 := kb.cell' (i := 2) rfl
        by_cases hlr : a < r
        · obtain ⟨P1, _, P3⟩ := rowP hlr hlt hr hc rfl
          obtain ⟨g, eA, eL, hLc, hcb, hBg, hgw⟩ := S.addr (by omega)
          subst eA
          obtain ⟨Q, hQ⟩ : ∃ Q, Q = a * c := ⟨_, rfl⟩
          have HQ := Lib.hid hQ
          have EL := Lib.hid eL
          rw [← hQ] at P1
          rw [← eL] at P1 P3
          clear hQ eL
          go_wp2_with fail
          refine (row_in _ hlr (by omega) hr hc EL.out hLc hcb HQ.out).mono ?_; rintro e w3 ⟨rfl, hb3⟩
          have S3 := S.call HWB.out hb3
          obtain ⟨z1, _, _⟩ := S3.cellP hlr hlt HQ.out
          clear kb c0 c1 c2 S hb3
          have kb := KB.out.below (S3).bel HB0.out
          have c0 := kb.cell' (i := 0) rfl
          have c1 := kb.cell' (i := 1) rfl
          have c2 := kb.cell' (i := 2) rfl
          by_cases hz0 : F a k = 0
          · rw [hz0] at z1
            have HZ : Hid (∀ i, n ≤ i → i < a + 1 → F i k = 0) := fun i h1 h2 => by
              by_cases e : i = a
              · subst e; exact hz0
              · exact hz.out i h1 (by omega)
            clear hz0
            go_wp2
            go_roundw
            case rel => exact ⟨a + 1, by omega, by omega, by go_num, S3, HZ.out⟩
            case measure => simp [intOf]; omega
          · have hzb : (F a k == 0) = false := by simpa using hz0
            have hza := nzF_eq (f := F) (k := k) hna har hz.out (fun _ => hz0)
            have hnr : n < r := by omega
            have hane : (a : Int) ≠ r := by omega
            have HRS2 := Lib.hid (HRS.out.trans (if_pos (by rw [hza]; exact hlr)))
            have HZA := Lib.hid hza
            clear hz0 hza hz
            obtain ⟨P, hP⟩ : ∃ P, P = n * c := ⟨_, rfl⟩
            have hrp := rowP hnr hlt hr hc hP
            rw [← EL.out] at hrp
            have HPP := Lib.hid hP
            clear hP
            go_wp2_with fail
            refine (row_in _ hnr (by omega) hr hc EL.out hLc hcb HPP.out).mono ?_; rintro e w4 ⟨rfl, hb4⟩
            have S4 := S3.call HWB.out hb4
            rw [← sw_0 n a F] at S4
            clear kb c0 c1 c2 S3 hb4 hgw z1
            have kb := KB.out.below (S4).bel HB0.out
            have c0 := kb.cell' (i := 0) rfl
            have c1 := kb.cell' (i := 1) rfl
            have c2 := kb.cell' (i := 2) rfl
            go_wp2
            clear kb c0 c1 c2
            go_loopw [48] (fun i wr => ∃ j : Nat, j ≤ c ∧ i = .int .i64 j ∧ RS W.heap.size w2 (some ⟨g, 0, none⟩) r c L cap wr (swJ n a j F) (.slice PA n pc) ps) (fun i _ => c - (intOf i).toNat)
            case atStart => exact ⟨0, Nat.zero_le _, rfl, S4⟩
            case round =>
              clear S4
              obtain ⟨j, hj, rfl, S⟩ := hrel
              by_cases hljc : j < c
              · obtain ⟨a1, a2, a3⟩ := rowP hlr hljc hr hc HQ.out
                obtain ⟨b1, b2, b3⟩ := rowP hnr hljc hr hc HPP.out
                rw [← EL.out] at a1 a2 a3 b1 b2 b3
                have hst := sw_step F hnr hlr hljc
                rw [← HQ.out, ← HPP.out] at hst
                have HST := Lib.hid hst
                have hsr := S.size HWB.out
                have hSS := Lib.hid S
                clear hst S
                go_wp2
                obtain ⟨y, hy⟩ : ∃ y, y = F := ⟨_, rfl⟩
                refine wp_region_net2 (by kernel_rfl) [.eq (.slice (some ⟨g, P, none⟩) c (cap - P)), .eq (.int .i64 j), .eq (.agg #[.int .i64 r, .int .i64 c, .slice (some ⟨g, 0, none⟩) L cap]), .eq (.int .i64 a), .eq (.slice (some ⟨g, Q, none⟩) c (cap - Q)), .eq (.int .i64 j), .eq (.agg #[.int .i64 r, .int .i64 c, .slice (some ⟨g, 0, none⟩) L cap]), .eq (.int .i64 a), .eq (.slice (some ⟨g, Q, none⟩) c (cap - Q)), .eq (.int .i64 j), .eq (.pointer (some ⟨g, Q + j, none⟩)), .eq (.int .i64 (F a j)), .eq (.slice (some ⟨g, P, none⟩) c (cap - P)), .eq (.int .i64 j), .eq (.pointer (some ⟨g, P + j, none⟩)), .eq (.int .i64 (F n j)), .eq (.pointer (some ⟨g, P + j, none⟩))] [[], [], [], [], [2, 3], [], [], [], [2, 3, 4, 6, 7], [], [2, 3, 4, 6, 7, 8, 9], [2, 3, 4, 6, 7, 8, 9, 10], [], [], [12, 13], [12, 13, 14], [0, 1, 2, 3, 4, 6, 7, 8, 9, 10, 11, 12, 13, 14, 15], [0, 1, 2, 3, 4, 6, 7, 8, 9, 10, 11, 12, 13, 14, 15, 16], [0, 1, 2, 3, 4, 5, 6, 7, 8, 9, 10, 11, 12, 13, 14, 15, 16, 17], [0, 1, 2, 3, 4, 5, 6, 7, 8, 9, 10, 11, 12, 13, 14, 15, 16, 17, 18]] 17 5 [0, 1, 2, 3, 4, 6, 7, 8, 9, 10, 11, 12, 13, 14, 15, 16] (by kernel_rfl) rfl ⟨trivial, trivial, trivial, trivial, trivial, trivial, trivial, trivial, trivial, trivial, trivial, trivial, trivial, trivial, trivial, trivial, trivial, trivial⟩ ⟨?_, ?_, ?_, ?_, ?_, ?_, ?_, ?_, ?_, ?_, ?_, ?_, ?_, ?_, ?_, ?_, ?_, trivial⟩ ?_ ?_
                · intro x w hb hk Q' hQ
                  clear hk
                  simp only [netAct, dstAt, List.getElem?_toArray, List.getElem?_cons_zero, List.getElem?_cons_succ, Option.bind_some, Act.put, List.setIfInBounds_toArray, List.set_cons_zero, List.set_cons_succ] at hQ ⊢
                  go_wp2
                  exact hQ (.slice (some ⟨g, P, none⟩) c (cap - P)) _ (Below.refl _ _) rfl
                · intro x w hb hk Q' hQ
                  clear hk
                  simp only [netAct, dstAt, List.getElem?_toArray, List.getElem?_cons_zero, List.getElem?_cons_succ, Option.bind_some, Act.put, List.setIfInBounds_toArray, List.set_cons_zero, List.set_cons_succ] at hQ ⊢
                  go_wp2
                  exact hQ (.int .i64 j) _ (Below.refl _ _) rfl
                · intro x w hb hk Q' hQ
                  clear hk
                  simp only [netAct, dstAt, List.getElem?_toArray, List.getElem?_cons_zero, List.getElem?_cons_succ, Option.bind_some, Act.put, List.setIfInBounds_toArray, List.set_cons_zero, List.set_cons_succ] at hQ ⊢
                  have S := hSS.out.call HWB.out hb
                  have kb := KB.out.below (S).bel HB0.out
                  have c0 := kb.cell' (i := 0) rfl
                  have c1 := kb.cell' (i := 1) rfl
                  have c2 := kb.cell' (i := 2) rfl
                  go_wp2
                  exact hQ (.agg #[.int .i64 r, .int .i64 c, .slice (some ⟨g, 0, none⟩) L cap]) _ (Below.refl _ _) rfl
                · intro x w hb hk Q' hQ
                  clear hk
                  simp only [netAct, dstAt, List.getElem?_toArray, List.getElem?_cons_zero, List.getElem?_cons_succ, Option.bind_some, Act.put, List.setIfInBounds_toArray, List.set_cons_zero, List.set_cons_succ] at hQ ⊢
                  go_wp2
                  exact hQ (.int .i64 a) _ (Below.refl _ _) rfl
                · intro x w hb hk Q' hQ
                  have h2 : x.v 2 = .agg #[.int .i64 r, .int .i64 c, .slice (some ⟨g, 0, none⟩) L cap] := (hk 2 (by decide)).1
                  have h3 : x.v 3 = .int .i64 a := (hk 3 (by decide)).1
                  clear hk
                  simp only [netAct, dstAt, List.getElem?_toArray, List.getElem?_cons_zero, List.getElem?_cons_succ, Option.bind_some, Act.put, List.setIfInBounds_toArray, List.set_cons_zero, List.set_cons_succ] at hQ ⊢
                  simp only [h2, h3] at hQ ⊢
                  clear h2 h3
                  go_wp2_with fail
                  refine (row_in _ hlr (by omega) hr hc EL.out hLc hcb HQ.out).mono ?_; rintro e w5 ⟨rfl, hb5⟩
                  go_wp2
                  exact hQ _ _ hb5 rfl
                · intro x w hb hk Q' hQ
                  clear hk
                  simp only [netAct, dstAt, List.getElem?_toArray, List.getElem?_cons_zero, List.getElem?_cons_succ, Option.bind_some, Act.put, List.setIfInBounds_toArray, List.set_cons_zero, List.set_cons_succ] at hQ ⊢
                  go_wp2
                  exact hQ (.int .i64 j) _ (Below.refl _ _) rfl
                · intro x w hb hk Q' hQ
                  clear hk
                  simp only [netAct, dstAt, List.getElem?_toArray, List.getElem?_cons_zero, List.getElem?_cons_succ, Option.bind_some, Act.put, List.setIfInBounds_toArray, List.set_cons_zero, List.set_cons_succ] at hQ ⊢
                  have S := hSS.out.call HWB.out hb
                  have kb := KB.out.below (S).bel HB0.out
                  have c0 := kb.cell' (i := 0) rfl
                  have c1 := kb.cell' (i := 1) rfl
                  have c2 := kb.cell' (i := 2) rfl
                  go_wp2
                  exact hQ (.agg #[.int .i64 r, .int .i64 c, .slice (some ⟨g, 0, none⟩) L cap]) _ (Below.refl _ _) rfl
                · intro x w hb hk Q' hQ
                  clear hk
                  simp only [netAct, dstAt, List.getElem?_toArray, List.getElem?_cons_zero, List.getElem?_cons_succ, Option.bind_some, Act.put, List.setIfInBounds_toArray, List.set_cons_zero, List.set_cons_succ] at hQ ⊢
                  go_wp2
                  exact hQ (.int .i64 a) _ (Below.refl _ _) rfl
                · intro x w hb hk Q' hQ
                  have h6 : x.v 6 = .agg #[.int .i64 r, .int .i64 c, .slice (some ⟨g, 0, none⟩) L cap] := (hk 6 (by decide)).1
                  have h7 : x.v 7 = .int .i64 a := (hk 7 (by decide)).1
                  clear hk
                  simp only [netAct, dstAt, List.getElem?_toArray, List.getElem?_cons_zero, List.getElem?_cons_succ, Option.bind_some, Act.put, List.setIfInBounds_toArray, List.set_cons_zero, List.set_cons_succ] at hQ ⊢
                  simp only [h6, h7] at hQ ⊢
                  clear h6 h7
                  go_wp2_with fail
                  refine (row_in _ hlr (by omega) hr hc EL.out hLc hcb HQ.out).mono ?_; rintro e w5 ⟨rfl, hb5⟩
                  go_wp2
                  exact hQ _ _ hb5 rfl
                · intro x w hb hk Q' hQ
                  clear hk
                  simp only [netAct, dstAt, List.getElem?_toArray, List.getElem?_cons_zero, List.getElem?_cons_succ, Option.bind_some, Act.put, List.setIfInBounds_toArray, List.set_cons_zero, List.set_cons_succ] at hQ ⊢
                  go_wp2
                  exact hQ (.int .i64 j) _ (Below.refl _ _) rfl
                · intro x w hb hk Q' hQ
                  have h8 : x.v 8 = .slice (some ⟨g, Q, none⟩) c (cap - Q) := (hk 8 (by decide)).1
                  have h9 : x.v 9 = .int .i64 j := (hk 9 (by decide)).1
                  clear hk
                  simp only [netAct, dstAt, List.getElem?_toArray, List.getElem?_cons_zero, List.getElem?_cons_succ, Option.bind_some, Act.put, List.setIfInBounds_toArray, List.set_cons_zero, List.set_cons_succ] at hQ ⊢
                  simp only [h8, h9] at hQ ⊢
                  clear h8 h9
                  go_wp2
                  exact hQ (.pointer (some ⟨g, Q + j, none⟩)) _ (Below.refl _ _) rfl
                · intro x w hb hk Q' hQ
                  have h10 : x.v 10 = .pointer (some ⟨g, Q + j, none⟩) := (hk 10 (by decide)).1
                  clear hk
                  simp only [netAct, dstAt, List.getElem?_toArray, List.getElem?_cons_zero, List.getElem?_cons_succ, Option.bind_some, Act.put, List.setIfInBounds_toArray, List.set_cons_zero, List.set_cons_succ] at hQ ⊢
                  simp only [h10] at hQ ⊢
                  clear h10
                  have S := hSS.out.call HWB.out hb
                  have z := (S.cellP hlr hljc HQ.out).1
                  rw [sw_rest] at z
                  go_wp2
                  exact hQ (.int .i64 (F a j)) _ (Below.refl _ _) rfl
                · intro x w hb hk Q' hQ
                  clear hk
                  simp only [netAct, dstAt, List.getElem?_toArray, List.getElem?_cons_zero, List.getElem?_cons_succ, Option.bind_some, Act.put, List.setIfInBounds_toArray, List.set_cons_zero, List.set_cons_succ] at hQ ⊢
                  go_wp2
                  exact hQ (.slice (some ⟨g, P, none⟩) c (cap - P)) _ (Below.refl _ _) rfl
                · intro x w hb hk Q' hQ
                  clear hk
                  simp only [netAct, dstAt, List.getElem?_toArray, List.getElem?_cons_zero, List.getElem?_cons_succ, Option.bind_some, Act.put, List.setIfInBounds_toArray, List.set_cons_zero, List.set_cons_succ] at hQ ⊢
                  go_wp2
                  exact hQ (.int .i64 j) _ (Below.refl _ _) rfl
                · intro x w hb hk Q' hQ
                  have h12 : x.v 12 = .slice (some ⟨g, P, none⟩) c (cap - P) := (hk 12 (by decide)).1
                  have h13 : x.v 13 = .int .i64 j := (hk 13 (by decide)).1
                  clear hk
                  simp only [netAct, dstAt, List.getElem?_toArray, List.getElem?_cons_zero, List.getElem?_cons_succ, Option.bind_some, Act.put, List.setIfInBounds_toArray, List.set_cons_zero, List.set_cons_succ] at hQ ⊢
                  simp only [h12, h13] at hQ ⊢
                  clear h12 h13
                  go_wp2
                  exact hQ (.pointer (some ⟨g, P + j, none⟩)) _ (Below.refl _ _) rfl
                · intro x w hb hk Q' hQ
                  have h14 : x.v 14 = .pointer (some ⟨g, P + j, none⟩) := (hk 14 (by decide)).1
                  clear hk
                  simp only [netAct, dstAt, List.getElem?_toArray, List.getElem?_cons_zero, List.getElem?_cons_succ, Option.bind_some, Act.put, List.setIfInBounds_toArray, List.set_cons_zero, List.set_cons_succ] at hQ ⊢
                  simp only [h14] at hQ ⊢
                  clear h14
                  have S := hSS.out.call HWB.out hb
                  have z := (S.cellP hnr hljc HPP.out).1
                  rw [sw_rest] at z
                  go_wp2
                  exact hQ (.int .i64 (F n j)) _ (Below.refl _ _) rfl
                · intro x w hb hk Q' hQ
                  have h0 : x.v 0 = .slice (some ⟨g, P, none⟩) c (cap - P) := (hk 0 (by decide)).1
                  have h1 : x.v 1 = .int .i64 j := (hk 1 (by decide)).1
                  clear hk
                  simp only [netAct, dstAt, List.getElem?_toArray, List.getElem?_cons_zero, List.getElem?_cons_succ, Option.bind_some, Act.put, List.setIfInBounds_toArray, List.set_cons_zero, List.set_cons_succ] at hQ ⊢
                  simp only [h0, h1] at hQ ⊢
                  clear h0 h1
                  go_wp2
                  exact hQ (.pointer (some ⟨g, P + j, none⟩)) _ (Below.refl _ _) rfl
                · intro x w hb hk hiv hdj
                  have h0 : x.v 0 = .slice (some ⟨g, P, none⟩) c (cap - P) := hk 0 (by decide)
                  have h1 : x.v 1 = .int .i64 j := hk 1 (by decide)
                  have h2 : x.v 2 = .agg #[.int .i64 r, .int .i64 c, .slice (some ⟨g, 0, none⟩) L cap] := hk 2 (by decide)
                  have h3 : x.v 3 = .int .i64 a := hk 3 (by decide)
                  have h4 : x.v 4 = .slice (some ⟨g, Q, none⟩) c (cap - Q) := hk 4 (by decide)
                  have h5 : x.v 5 = .int .i64 j := hk 5 (by decide)
                  have h6 : x.v 6 = .agg #[.int .i64 r, .int .i64 c, .slice (some ⟨g, 0, none⟩) L cap] := hk 6 (by decide)
                  have h7 : x.v 7 = .int .i64 a := hk 7 (by decide)
                  have h8 : x.v 8 = .slice (some ⟨g, Q, none⟩) c (cap - Q) := hk 8 (by decide)
                  have h9 : x.v 9 = .int .i64 j := hk 9 (by decide)
                  have h10 : x.v 10 = .pointer (some ⟨g, Q + j, none⟩) := hk 10 (by decide)
                  have h11 : x.v 11 = .int .i64 (F a j) := hk 11 (by decide)
                  have h12 : x.v 12 = .slice (some ⟨g, P, none⟩) c (cap - P) := hk 12 (by decide)
                  have h13 : x.v 13 = .int .i64 j := hk 13 (by decide)
                  have h14 : x.v 14 = .pointer (some ⟨g, P + j, none⟩) := hk 14 (by decide)
                  have h15 : x.v 15 = .int .i64 (F n j) := hk 15 (by decide)
                  have h16 : x.v 16 = .pointer (some ⟨g, P + j, none⟩) := hk 16 (by decide)
                  clear hk
                  simp only [netAct, dstAt, List.getElem?_toArray, List.getElem?_cons_zero, List.getElem?_cons_succ, Option.bind_some, Act.put, List.setIfInBounds_toArray, List.set_cons_zero, List.set_cons_succ]
                  simp only [List.drop_succ_cons, List.drop_zero, h0, h1, h2, h3, h4, h5, h6, h7, h8, h9, h10, h11, h12, h13, h14, h15, h16]
                  clear h0 h1 h2 h3 h4 h5 h6 h7 h8 h9 h10 h11 h12 h13 h14 h15 h16
                  have S := hSS.out.call HWB.out hb
                  have ia := (S.cellP hlr hljc HQ.out)
                  have ib := (S.cellP hnr hljc HPP.out)
                  rw [sw_rest] at ia ib
                  have S2 := S.put2 hBg (S.size HWB.out) ia.2.1 ib.2.1 HST.out
                  have S1 := S.put (J := P + j) (x := F a j) hBg (S.size HWB.out) ia.2.1 (by rw [HPP.out]; exact flat_set _ _ hnr hljc)
                  obtain ⟨q1, _, q2⟩ := S1.cellP hlr hljc HQ.out
                  obtain ⟨p1, _, p2⟩ := ib
                  have HS2 := Lib.hid S2
                  clear ia S S1 S2 hiv hdj
                  go_wp2
                  go_roundw
                  case rel => exact ⟨j + 1, by omega, by go_num, HS2.out⟩
                  case measure => simp [intOf]; omega
                · intro x w hb hk hiv hdj om os hom hos
                  simp only [List.getElem?_cons_zero, List.getElem?_cons_succ, Option.some.injEq] at hom hos
                  subst hom hos
                  have h0 : x.v 0 = .slice (some ⟨g, P, none⟩) c (cap - P) := hk 0 (by decide)
                  have h1 : x.v 1 = .int .i64 j := hk 1 (by decide)
                  have h2 : x.v 2 = .agg #[.int .i64 r, .int .i64 c, .slice (some ⟨g, 0, none⟩) L cap] := hk 2 (by decide)
                  have h3 : x.v 3 = .int .i64 a := hk 3 (by decide)
                  have h4 : x.v 4 = .slice (some ⟨g, Q, none⟩) c (cap - Q) := hk 4 (by decide)
                  have h6 : x.v 6 = .agg #[.int .i64 r, .int .i64 c, .slice (some ⟨g, 0, none⟩) L cap] := hk 6 (by decide)
                  have h7 : x.v 7 = .int .i64 a := hk 7 (by decide)
                  have h8 : x.v 8 = .slice (some ⟨g, Q, none⟩) c (cap - Q) := hk 8 (by decide)
                  have h9 : x.v 9 = .int .i64 j := hk 9 (by decide)
                  have h10 : x.v 10 = .pointer (some ⟨g, Q + j, none⟩) := hk 10 (by decide)
                  have h11 : x.v 11 = .int .i64 (F a j) := hk 11 (by decide)
                  have h12 : x.v 12 = .slice (some ⟨g, P, none⟩) c (cap - P) := hk 12 (by decide)
                  have h13 : x.v 13 = .int .i64 j := hk 13 (by decide)
                  have h14 : x.v 14 = .pointer (some ⟨g, P + j, none⟩) := hk 14 (by decide)
                  have h15 : x.v 15 = .int .i64 (F n j) := hk 15 (by decide)
                  have h16 : x.v 16 = .pointer (some ⟨g, P + j, none⟩) := hk 16 (by decide)
                  clear hk
                  simp only [List.foldl_cons, List.foldl_nil, netAct, dstAt, List.getElem?_toArray, List.getElem?_cons_zero, List.getElem?_cons_succ, Option.bind_some, Act.put, List.setIfInBounds_toArray, List.set_cons_zero, List.set_cons_succ]
                  simp only [List.drop_succ_cons, List.drop_zero, h0, h1, h2, h3, h4, h6, h7, h8, h9, h10, h11, h12, h13, h14, h15, h16]
                  clear h0 h1 h2 h3 h4 h6 h7 h8 h9 h10 h11 h12 h13 h14 h15 h16
                  have S := hSS.out.call HWB.out hb
                  have ia := (S.cellP hlr hljc HQ.out)
                  have ib := (S.cellP hnr hljc HPP.out)
                  rw [sw_rest] at ia ib
                  have S2 := S.put2 hBg (S.size HWB.out) ia.2.1 ib.2.1 HST.out
                  have S1 := S.put (J := P + j) (x := F a j) hBg (S.size HWB.out) ia.2.1 (by rw [HPP.out]; exact flat_set _ _ hnr hljc)
                  obtain ⟨q1, _, q2⟩ := S1.cellP hlr hljc HQ.out
                  obtain ⟨p1, _, p2⟩ := ib
                  have HS2 := Lib.hid S2
                  clear ia S S1 S2 hiv hdj
                  go_wp2
                  go_roundw
                  case rel => exact ⟨j + 1, by omega, by go_num, HS2.out⟩
                  case measure => simp [intOf]; omega
              · have hjc : j = c := by omega
                subst hjc
                have S := S.congr (sw_end n a r j F)
                have hin1 := inF_sw HIN.out hnr hlr
                obtain ⟨F1, hF1⟩ : ∃ F1, swA n a F = F1 := ⟨_, rfl⟩
                rw [hF1] at S hin1
                obtain ⟨x, hx⟩ : ∃ x, F1 n k = x := ⟨_, rfl⟩
                obtain ⟨z1, hxI, _⟩ := S.cellP hnr hlt HPP.out
                rw [hx] at z1 hxI
                obtain ⟨s, hs⟩ : ∃ s, invP p x = s := ⟨_, rfl⟩
                have hsr := invP_r (x := x) hpr
                rw [hs] at hsr
                have HS := Lib.hid hs
                have HX := Lib.hid hx
                have HXI := Lib.hid hxI
                have HF1 := Lib.hid hF1
                have HIN1 := Lib.hid hin1
                have hSS := Lib.hid S
                clear hs hx hxI hF1 hin1 S
                go_wp2_with fail
                refine (inverseMod_any p x _ HP.out HXI.out).mono ?_; rintro e w5 ⟨rfl, hww⟩; replace hww := hww.symm; subst hww
                rw [HS.out]
                have S := hSS.out
                rw [← sc_0 p n s F1] at S
                go_wp2
                clear z1
                go_loopw [78] (fun i wr => ∃ j' : Nat, j' ≤ j ∧ i = .int .i64 j' ∧ RS W.heap.size w2 (some ⟨g, 0, none⟩) r j L cap wr (scJ p n s j' F1) (.slice PA n pc) ps) (fun i _ => j - (intOf i).toNat)
                case atStart => exact ⟨0, Nat.zero_le _, rfl, S⟩
                case round =>
                  clear S hSS
                  obtain ⟨j', hj', rfl, S⟩ := hrel
                  by_cases hl4 : j' < j
                  · obtain ⟨b1, b2, b3⟩ := rowP hnr hl4 hr hc HPP.out
                    rw [← EL.out] at b1 b2 b3
                    obtain ⟨z1, _, z2⟩ := S.cellP hnr hl4 HPP.out
                    rw [sc_rest] at z1
                    have hi1 := HIN1.out n j' hnr hl4
                    have hst := sc_step (p := p) (s := s) F1 hnr hl4
                    obtain ⟨a4, ha4⟩ : ∃ a4, F1 n j' = a4 := ⟨_, rfl⟩
                    rw [ha4] at z1 hi1 hst
                    rw [← HPP.out] at hst
                    have k0 : 0 ≤ a4 * s := Int.mul_nonneg hi1.1 hsr.1
                    have k1 : a4 * s ≤ 4 * 4 := Int.mul_le_mul (by omega) hsr.2 hsr.1 (by omega)
                    obtain ⟨K, hK⟩ : ∃ K, a4 * s = K := ⟨_, rfl⟩
                    rw [hK] at k0 k1 hst
                    have hKw : wrap64 (a4 * s) = K := by rw [hK]; exact IntWalk.wrap64_in _ ⟨by omega, by omega⟩
                    have ht : K.tmod p = K % p := Int.tmod_eq_emod_of_nonneg k0
                    have hr1 := emod_rng (x := K) hpr.1
                    have S2 := S.put (J := P + j') (x := K % p) hBg (S.size HWB.out) (by unfold I64; omega) hst
                    have HS2 := Lib.hid S2
                    clear ha4 hK hst S2 S k0 k1 hr1 hi1
                    go_wp2
                    go_roundw
                    case rel => exact ⟨j' + 1, by omega, by go_num, HS2.out⟩
                    case measure => simp [intOf]; omega
                  · have hje : j' = j := by omega
                    subst hje
                    have S := S.congr (sc_end p n r j' s F1)
                    have hin2 := inF_sc (s := s) (n := n) hpr.1 HIN1.out
                    obtain ⟨F2, hF2⟩ : ∃ F2, scA p n s F1 = F2 := ⟨_, rfl⟩
                    rw [hF2] at S hin2
                    have hfin : Hid (rdF p r F n k = elA p n k F2) := by
                      show _ = _
                      rw [rdF, HZA.out, HF1.out, HX.out, HS.out, hF2]
                    have HIN2 := Lib.hid hin2
                    clear hF2 hin2
                    rw [← el_0 p n k F2] at S
                    have kb := KB.out.below (S).bel HB0.out
                    have c0 := kb.cell' (i := 0) rfl
                    have c1 := kb.cell' (i := 1) rfl
                    have c2 := kb.cell' (i := 2) rfl
                    go_wp2
                    clear kb c0 c1 c2
                    go_loopw [95] (fun i wr => ∃ i' : Nat, i' ≤ r ∧ i = .int .i64 i' ∧ RS W.heap.size w2 (some ⟨g, 0, none⟩) r j' L cap wr (elI p n k i' F2) (.slice PA n pc) ps) (fun i _ => r - (intOf i).toNat)
                    case atStart => exact ⟨0, Nat.zero_le _, rfl, S⟩
                    case round =>
                      clear S
                      obtain ⟨i, hi, rfl, S⟩ := hrel
                      by_cases hl5 : i < r
                      · by_cases hin : i = n
                        · subst hin
                          rw [el_skip] at S
                          go_wp2
                          go_roundw
                          case rel => exact ⟨i + 1, by omega, by go_num, S⟩
                          case measure => simp [intOf]; omega
                        · have hne : ((i : Int) != n) = true := by rw [bne_iff_ne]; omega
                          have hine : ¬ ((i : Int) = n) := by omega
                          obtain ⟨R, hR⟩ : ∃ R, R = i * j' := ⟨_, rfl⟩
                          obtain ⟨a1, a2, a3⟩ := rowP hl5 hlt hr hc hR
                          have hap := rows_apart hin hR HPP.out
                          have HR := Lib.hid hR
                          rw [← EL.out] at a1 a2 a3
                          have hSS := Lib.hid S
                          have hr5 := HIN2.out i k hl5 hlt
                          obtain ⟨q, hq⟩ : ∃ q, F2 i k = q := ⟨_, rfl⟩
                          rw [hq] at hr5
                          have HQQ := Lib.hid hq
                          have hamel := am_el (p := p) (n := n) (k := k) (i := i) (r := r) (c := j') F2 hnr hin
                          rw [hq, ← EL.out, ← HR.out, ← HPP.out] at hamel
                          have HAM := Lib.hid hamel
                          have HNE := Lib.hid hin
                          clear hR hq hamel hin S
                          go_wp2
                          refine wp_region_net (by kernel_rfl) [.eq (.int .i64 p), .eq (.agg #[.int .i64 r, .int .i64 j', .slice (some ⟨g, 0, none⟩) L cap]), .eq (.int .i64 i), .eq (.slice (some ⟨g, R, none⟩) j' (cap - R)), .eq (.int .i64 p), .eq (.agg #[.int .i64 r, .int .i64 j', .slice (some ⟨g, 0, none⟩) L cap]), .eq (.int .i64 i), .eq (.slice (some ⟨g, R, none⟩) j' (cap - R)), .eq (.int .i64 k), .eq (.pointer (some ⟨g, R + k, none⟩)), .eq (.int .i64 q), .eq (.int .i64 (p - q)), .eq (.slice (some ⟨g, P, none⟩) j' (cap - P))] [[], [], [], [1, 2], [], [], [], [1, 2, 3, 5, 6], [], [1, 2, 3, 5, 6, 7, 8], [1, 2, 3, 5, 6, 7, 8, 9], [1, 2, 3, 4, 5, 6, 7, 8, 9, 10], [], [0, 1, 2, 3, 4, 5, 6, 7, 8, 9, 10, 11, 12]] 13 (by kernel_rfl) ⟨trivial, trivial, trivial, trivial, trivial, trivial, trivial, trivial, trivial, trivial, trivial, trivial, trivial, trivial⟩ ⟨?_, ?_, ?_, ?_, ?_, ?_, ?_, ?_, ?_, ?_, ?_, ?_, ?_, trivial⟩ ?_
                          · intro x w hb hk Q' hQ
                            clear hk
                            simp only [netAct, dstAt, List.getElem?_toArray, List.getElem?_cons_zero, List.getElem?_cons_succ, Option.bind_some, Act.put, List.setIfInBounds_toArray, List.set_cons_zero, List.set_cons_succ] at hQ ⊢
                            go_wp2
                            exact hQ (.int .i64 p) _ (Below.refl _ _) rfl
                          · intro x w hb hk Q' hQ
                            clear hk
                            simp only [netAct, dstAt, List.getElem?_toArray, List.getElem?_cons_zero, List.getElem?_cons_succ, Option.bind_some, Act.put, List.setIfInBounds_toArray, List.set_cons_zero, List.set_cons_succ] at hQ ⊢
                            have S := hSS.out.call HWB.out hb
                            have kb := KB.out.below (S).bel HB0.out
                            have c0 := kb.cell' (i := 0) rfl
                            have c1 := kb.cell' (i := 1) rfl
                            have c2 := kb.cell' (i := 2) rfl
                            go_wp2
                            exact hQ (.agg #[.int .i64 r, .int .i64 j', .slice (some ⟨g, 0, none⟩) L cap]) _ (Below.refl _ _) rfl
                          · intro x w hb hk Q' hQ
                            clear hk
                            simp only [netAct, dstAt, List.getElem?_toArray, List.getElem?_cons_zero, List.getElem?_cons_succ, Option.bind_some, Act.put, List.setIfInBounds_toArray, List.set_cons_zero, List.set_cons_succ] at hQ ⊢
                            go_wp2
                            exact hQ (.int .i64 i) _ (Below.refl _ _) rfl
                          · intro x w hb hk Q' hQ
                            have h1 : x.v 1 = .agg #[.int .i64 r, .int .i64 j', .slice (some ⟨g, 0, none⟩) L cap] := (hk 1 (by decide)).1
                            have h2 : x.v 2 = .int .i64 i := (hk 2 (by decide)).1
                            clear hk
                            simp only [netAct, dstAt, List.getElem?_toArray, List.getElem?_cons_zero, List.getElem?_cons_succ, Option.bind_some, Act.put, List.setIfInBounds_toArray, List.set_cons_zero, List.set_cons_succ] at hQ ⊢
                            simp only [h1, h2] at hQ ⊢
                            clear h1 h2
                            go_wp2_with fail
                            refine (row_in _ hl5 (by omega) hr hc EL.out hLc hcb HR.out).mono ?_; rintro e w5 ⟨rfl, hb5⟩
                            go_wp2
                            exact hQ _ _ hb5 rfl
                          · intro x w hb hk Q' hQ
                            clear hk
                            simp only [netAct, dstAt, List.getElem?_toArray, List.getElem?_cons_zero, List.getElem?_cons_succ, Option.bind_some, Act.put, List.setIfInBounds_toArray, List.set_cons_zero, List.set_cons_succ] at hQ ⊢
                            go_wp2
                            exact hQ (.int .i64 p) _ (Below.refl _ _) rfl
                          · intro x w hb hk Q' hQ
                            clear hk
                            simp only [netAct, dstAt, List.getElem?_toArray, List.getElem?_cons_zero, List.getElem?_cons_succ, Option.bind_some, Act.put, List.setIfInBounds_toArray, List.set_cons_zero, List.set_cons_succ] at hQ ⊢
                            have S := hSS.out.call HWB.out hb
                            have kb := KB.out.below (S).bel HB0.out
                            have c0 := kb.cell' (i := 0) rfl
                            have c1 := kb.cell' (i := 1) rfl
                            have c2 := kb.cell' (i := 2) rfl
                            go_wp2
                            exact hQ (.agg #[.int .i64 r, .int .i64 j', .slice (some ⟨g, 0, none⟩) L cap]) _ (Below.refl _ _) rfl
                          · intro x w hb hk Q' hQ
                            clear hk
                            simp only [netAct, dstAt, List.getElem?_toArray, List.getElem?_cons_zero, List.getElem?_cons_succ, Option.bind_some, Act.put, List.setIfInBounds_toArray, List.set_cons_zero, List.set_cons_succ] at hQ ⊢
                            go_wp2
                            exact hQ (.int .i64 i) _ (Below.refl _ _) rfl
                          · intro x w hb hk Q' hQ
                            have h5 : x.v 5 = .agg #[.int .i64 r, .int .i64 j', .slice (some ⟨g, 0, none⟩) L cap] := (hk 5 (by decide)).1
                            have h6 : x.v 6 = .int .i64 i := (hk 6 (by decide)).1
                            clear hk
                            simp only [netAct, dstAt, List.getElem?_toArray, List.getElem?_cons_zero, List.getElem?_cons_succ, Option.bind_some, Act.put, List.setIfInBounds_toArray, List.set_cons_zero, List.set_cons_succ] at hQ ⊢
                            simp only [h5, h6] at hQ ⊢
                            clear h5 h6
                            go_wp2_with fail
                            refine (row_in _ hl5 (by omega) hr hc EL.out hLc hcb HR.out).mono ?_; rintro e w5 ⟨rfl, hb5⟩
                            go_wp2
                            exact hQ _ _ hb5 rfl
                          · intro x w hb hk Q' hQ
                            clear hk
                            simp only [netAct, dstAt, List.getElem?_toArray, List.getElem?_cons_zero, List.getElem?_cons_succ, Option.bind_some, Act.put, List.setIfInBounds_toArray, List.set_cons_zero, List.set_cons_succ] at hQ ⊢
                            go_wp2
                            exact hQ (.int .i64 k) _ (Below.refl _ _) rfl
                          · intro x w hb hk Q' hQ
                            have h7 : x.v 7 = .slice (some ⟨g, R, none⟩) j' (cap - R) := (hk 7 (by decide)).1
                            have h8 : x.v 8 = .int .i64 k := (hk 8 (by decide)).1
                            clear hk
                            simp only [netAct, dstAt, List.getElem?_toArray, List.getElem?_cons_zero, List.getElem?_cons_succ, Option.bind_some, Act.put, List.setIfInBounds_toArray, List.set_cons_zero, List.set_cons_succ] at hQ ⊢
                            simp only [h7, h8] at hQ ⊢
                            clear h7 h8
                            go_wp2
                            exact hQ (.pointer (some ⟨g, R + k, none⟩)) _ (Below.refl _ _) rfl
                          · intro x w hb hk Q' hQ
                            have h9 : x.v 9 = .pointer (some ⟨g, R + k, none⟩) := (hk 9 (by decide)).1
                            clear hk
                            simp only [netAct, dstAt, List.getElem?_toArray, List.getElem?_cons_zero, List.getElem?_cons_succ, Option.bind_some, Act.put, List.setIfInBounds_toArray, List.set_cons_zero, List.set_cons_succ] at hQ ⊢
                            simp only [h9] at hQ ⊢
                            clear h9
                            have S := hSS.out.call HWB.out hb
                            have z := (S.cellP hl5 hlt HR.out).1
                            rw [el_rest, HQQ.out] at z
                            go_wp2
                            exact hQ (.int .i64 q) _ (Below.refl _ _) rfl
                          · intro x w hb hk Q' hQ
                            have h4 : x.v 4 = .int .i64 p := (hk 4 (by decide)).1
                            have h10 : x.v 10 = .int .i64 q := (hk 10 (by decide)).1
                            clear hk
                            simp only [netAct, dstAt, List.getElem?_toArray, List.getElem?_cons_zero, List.getElem?_cons_succ, Option.bind_some, Act.put, List.setIfInBounds_toArray, List.set_cons_zero, List.set_cons_succ] at hQ ⊢
                            simp only [h4, h10] at hQ ⊢
                            clear h4 h10
                            go_wp2
                            exact hQ (.int .i64 (p - q)) _ (Below.refl _ _) rfl
                          · intro x w hb hk Q' hQ
                            clear hk
                            simp only [netAct, dstAt, List.getElem?_toArray, List.getElem?_cons_zero, List.getElem?_cons_succ, Option.bind_some, Act.put, List.setIfInBounds_toArray, List.set_cons_zero, List.set_cons_succ] at hQ ⊢
                            go_wp2
                            exact hQ (.slice (some ⟨g, P, none⟩) j' (cap - P)) _ (Below.refl _ _) rfl
                          · intro x w hb hk hiv hdj
                            have h0 : x.v 0 = .int .i64 p := hk 0 (by decide)
                            have h1 : x.v 1 = .agg #[.int .i64 r, .int .i64 j', .slice (some ⟨g, 0, none⟩) L cap] := hk 1 (by decide)
                            have h2 : x.v 2 = .int .i64 i := hk 2 (by decide)
                            have h3 : x.v 3 = .slice (some ⟨g, R, none⟩) j' (cap - R) := hk 3 (by decide)
                            have h4 : x.v 4 = .int .i64 p := hk 4 (by decide)
                            have h5 : x.v 5 = .agg #[.int .i64 r, .int .i64 j', .slice (some ⟨g, 0, none⟩) L cap] := hk 5 (by decide)
                            have h6 : x.v 6 = .int .i64 i := hk 6 (by decide)
                            have h7 : x.v 7 = .slice (some ⟨g, R, none⟩) j' (cap - R) := hk 7 (by decide)
                            have h8 : x.v 8 = .int .i64 k := hk 8 (by decide)
                            have h9 : x.v 9 = .pointer (some ⟨g, R + k, none⟩) := hk 9 (by decide)
                            have h10 : x.v 10 = .int .i64 q := hk 10 (by decide)
                            have h11 : x.v 11 = .int .i64 (p - q) := hk 11 (by decide)
                            have h12 : x.v 12 = .slice (some ⟨g, P, none⟩) j' (cap - P) := hk 12 (by decide)
                            clear hk
                            simp only [netAct, dstAt, List.getElem?_toArray, List.getElem?_cons_zero, List.getElem?_cons_succ, Option.bind_some, Act.put, List.setIfInBounds_toArray, List.set_cons_zero, List.set_cons_succ]
                            simp only [List.drop_succ_cons, List.drop_zero, h0, h1, h2, h3, h4, h5, h6, h7, h8, h9, h10, h11, h12]
                            clear h0 h1 h2 h3 h4 h5 h6 h7 h8 h9 h10 h11 h12
                            have S := hSS.out.call HWB.out hb
                            have hown := S.own
                            rw [rowF_flat, ← EL.out] at hown
                            have hfr : ∀ z, z < L → 0 ≤ (fun j => elI p n k i F2 (j / j') (j % j')) z ∧ (fun j => elI p n k i F2 (j / j') (j % j')) z ≤ 4 := by
                              intro z hz
                              rw [EL.out] at hz
                              obtain ⟨a, b, ha, hb', rfl⟩ := ix_of hz
                              simp only [ix_div hb', ix_mod hb']
                              have := inF_elI (n := n) (k := k) (i := i) hpr.1 HIN2.out a b ha hb'
                              omega
                            have HOW := Lib.hid hown
                            have HFR := Lib.hid hfr
                            have HS6 := Lib.hid S
                            clear hown hfr S hiv hdj
                            go_wp2_with fail
                            refine (addMultiple_in p (p - q) g R P j' L cap (cap - R) (cap - P) W.heap.size (fun j => elI p n k i F2 (j / j') (j % j')) _ hpr (by omega) HOW.out a2 hrp.2.1 hap (by omega) (by omega) (by omega) HFR.out).mono ?_; rintro e w6 ⟨rfl, ho6, hg6⟩
                            rw [HAM.out] at ho6
                            have S7 := HS6.out.turn hBg (HS6.out.size HWB.out) ho6 hg6
                            clear ho6 hg6
                            go_wp2
                            go_roundw
                            case rel => exact ⟨i + 1, by omega, by go_num, S7⟩
                            case measure => simp [intOf]; omega
                      · have hir : i = r := by omega
                        subst hir
                        have S := S.congr (el_end p n k i j' F2)
                        rw [← hfin.out] at S
                        have hS8 := S.call HWB.out (below_alloc wr (.cells #[.int .i64 k] 3))
                        have hsz8 := hS8.size HWB.out
                        have HS8 := Lib.hid hS8
                        clear S hS8
                        (go_wp2_with (at_builtin; refine Hold.stop ?_)); unfold Hold
                        refine wpList_appI rfl (.tmp 117) (.tmp 119) rfl W.heap.size _ (.slice PA n pc) ps rfl HS8.out.ownP.1 _ _ _ [(k : Int)] rfl rfl (SlI.one wr _ k ⟨by omega, by omega⟩) (by rw [HN.out]; simp; omega) hsz8 ?_
                        intro v9 w9 ho9 hg9 hv9
                        have S9 := HS8.out.app hsz8 ho9 hg9 hv9
                        clear ho9 hg9 hv9
                        go_wp2
                        go_roundw
                        case rel => exact ⟨k + 1, by omega, by go_num, by rw [HRS2.out]; exact S9⟩
                        case measure => simp [intOf]; omega
        · have hae : a = r := by omega
          have HRS2 := Lib.hid (HRS.out.trans (if_neg (by rw [nzF_eq (f := F) (k := k) hna har hz.out (fun h => absurd h hlr)]; exact hlr)))
          subst hae
          clear hz
          go_wp2
          go_roundw
          case rel => exact ⟨k + 1, by omega, by go_num, by rw [HRS2.out]; exact S⟩
          case measure => simp [intOf]; omega
    · have hkc : k = c := by omega
      have HKC := Lib.hid hkc
      have sz := SZ.out
      have sB := S.size HWB.out
      have k4 := KB.out.below S.bel HB0.out
      have k3' := KR.out.below S.bel (by omega)
      have z0 := k4.cell' (i := 0) rfl
      have z1 := k4.cell' (i := 1) rfl
      have z2 := k4.cell' (i := 2) rfl
      have p0 := k3'.cell' (i := 0) rfl
      have p1 := k3'.cell' (i := 1) rfl
      have p2 := k3'.cell' (i := 2) rfl
      have f2 := k3'.frozen
      have h2 := chg3 wr (w0.heap.size + 1) (.int .i64 (r : Int)) (.int .i64 c) (.slice A L cap)
      have gw : Below w0.heap.size w0 wr := (G2.out).trans (S.bel.mono (by omega))
      have gs := gw.size
      have hfl := HL.out
      have oA : IntsO wr W.heap.size wr.heap.size (.slice A L cap) (flat r c F) := S.fam.1 (_, flat r c F) (by simp)
      have oA2 := (oA.chg h2 (.inr (by omega))).wider (lo' := w0.heap.size) (hi' := wr.heap.size) (by omega) (Nat.le_refl _)
      have oP2 := (S.ownP.chg h2 (.inr (by omega))).wider (lo' := w0.heap.size) (hi' := wr.heap.size) (by omega) (Nat.le_refl _)
      have fg := gw.trans (h2.below (by omega) gs)
      have OA2 := Lib.hid oA2
      have OP2 := Lib.hid oP2
      have FG := Lib.hid fg
      clear oA oA2 oP2 fg gw h2 k3' k4 S hkc hfl
      go_wp2
      refine bodyPost_ret (v := .tuple #[.agg #[.int .i64 (r : Int), .int .i64 c, .slice A L cap], .slice PA n pc]) (by simp [results, go_sem, p0, p1, p2]) rfl ⟨_, _, rfl, ?_, ?_, FG.out⟩
      · refine ⟨_, rfl, ?_, by simp only [I64]; omega, by simp only [I64]; omega⟩
        have e : flat r c (rdTo p r f c).1 = flat r c F := by rw [← HFF.out, HKC.out]
        rw [e]
        exact (OA2.out).wider (Nat.le_refl _) (by simp)
      · have e : (rdTo p r f c).2 = ps := by rw [← HPS.out, HKC.out]
        rw [e]
        exact (OP2.out).wider (Nat.le_refl _) (by simp)
end Go.Proofs.YtaefpblpfjhgoaaGreat

/- Ranks: the program's rank. -/
namespace Go.Proofs.YtaefpblpfjhgoaaGreat
set_option linter.unusedVariables false
set_option linter.unusedSimpArgs false
open Go.RowKit

def rkF (p : Int) (r c : Nat) (f : Nat → Nat → Int) : Nat := (rdTo p r f c).2.length
end Go.Proofs.YtaefpblpfjhgoaaGreat

/- Ranks by counting: the kernel of a matrix has as many vectors as its reduced form says; the inequality of Frobenius. Plain. -/
namespace Go.Proofs.YtaefpblpfjhgoaaGreat
set_option linter.unusedVariables false
set_option linter.unusedSimpArgs false
open Go.RowKit

/-! ### sums -/
theorem sg_add (a b : Nat → Int) : ∀ n, sgF (fun t => a t + b t) n = sgF a n + sgF b n
  | 0 => rfl
  | n + 1 => by simp only [sgF]; rw [sg_add a b n]; omega
theorem sg_mul (s : Int) (a : Nat → Int) : ∀ n, sgF (fun t => s * a t) n = s * sgF a n
  | 0 => by simp [sgF]
  | n + 1 => by simp only [sgF]; rw [sg_mul s a n, Int.mul_add]
theorem sg_congr {a b : Nat → Int} : ∀ {n}, (∀ t, t < n → a t = b t) → sgF a n = sgF b n
  | 0, _ => rfl
  | n + 1, h => by simp only [sgF]; rw [sg_congr fun t ht => h t (by omega), h n (by omega)]
theorem sg_0 : ∀ n, sgF (fun _ => 0) n = 0
  | 0 => rfl
  | n + 1 => by simp only [sgF]; rw [sg_0 n]; rfl
theorem sg_dvd {p : Int} {a : Nat → Int} : ∀ {n}, (∀ t, t < n → p ∣ a t) → p ∣ sgF a n
  | 0, _ => ⟨0, by simp [sgF]⟩
  | n + 1, h => Int.dvd_add (sg_dvd fun t ht => h t (by omega)) (h n (by omega))
theorem sg_sub (a b : Nat → Int) : ∀ n, sgF (fun t => a t - b t) n = sgF a n - sgF b n
  | 0 => rfl
  | n + 1 => by simp only [sgF]; rw [sg_sub a b n]; omega
theorem sg_swap (h : Nat → Nat → Int) (m : Nat) : ∀ n, sgF (fun s => sgF (fun t => h s t) m) n = sgF (fun t => sgF (fun s => h s t) n) m
  | 0 => by simp only [sgF]; rw [sg_0]
  | n + 1 => by
    simp only [sgF]
    rw [sg_swap h m n, ← sg_add]
theorem sg_one {h : Nat → Int} {b0 : Nat} : ∀ {n}, b0 < n → sgF (fun b => if b = b0 then h b else 0) n = h b0
  | n + 1, hb => by
    simp only [sgF]
    by_cases e : n = b0
    · rw [if_pos e, sg_congr (b := fun _ => 0) fun t ht => if_neg (by omega), sg_0, e]; omega
    · rw [if_neg e, sg_one (by omega)]; omega
theorem emod_cg (p a : Int) : p ∣ a % p - a := ⟨-(a / p), by rw [Int.emod_def, Int.mul_neg]; omega⟩
theorem cg_dvd {p a b : Int} (h : p ∣ a - b) : p ∣ a ↔ p ∣ b := by
  constructor
  · intro k
    have := Int.dvd_sub k h
    rwa [show a - (a - b) = b by omega] at this
  · intro k
    have := Int.dvd_add h k
    rwa [show a - b + b = a by omega] at this
theorem cg_mulL {p a b : Int} (x : Int) (h : p ∣ a - b) : p ∣ a * x - b * x := by
  rw [← Int.sub_mul]; exact Int.dvd_mul_of_dvd_left h
theorem cg_mulR {p a b : Int} (x : Int) (h : p ∣ a - b) : p ∣ x * a - x * b := by
  rw [← Int.mul_sub]; exact Int.dvd_mul_of_dvd_right h
theorem sg_cg {p : Int} {a b : Nat → Int} {n : Nat} (h : ∀ t, t < n → p ∣ a t - b t) : p ∣ sgF a n - sgF b n := by
  rw [← sg_sub]; exact sg_dvd h

/-! ### the kernel and the steps of elimination -/
def Ker (p : Int) (r : Nat) (f : Nat → Nat → Int) (k : Nat) (x : Nat → Int) : Prop := ∀ i, i < r → p ∣ sgF (fun t => f i t * x t) k
theorem ker_congr {p : Int} {r k : Nat} {f : Nat → Nat → Int} {x y : Nat → Int} (h : ∀ t, t < k → p ∣ x t - y t) : Ker p r f k x ↔ Ker p r f k y :=
  ⟨fun hx i hi => (cg_dvd (sg_cg fun t ht => cg_mulR (f i t) (h t ht))).1 (hx i hi), fun hx i hi => (cg_dvd (sg_cg fun t ht => cg_mulR (f i t) (h t ht))).2 (hx i hi)⟩
theorem ker_sw {p : Int} {r n t k : Nat} {f : Nat → Nat → Int} {x : Nat → Int} (hn : n < r) (ht : t < r) : Ker p r (swA n t f) k x ↔ Ker p r f k x := by
  constructor
  · intro h i hi
    by_cases e : i = t
    · subst e
      have := h n hn
      simpa only [swA, if_true] using this
    · by_cases e2 : i = n
      · subst e2
        have := h t ht
        simp only [swA] at this
        by_cases e3 : t = i
        · exact absurd e3.symm e
        · simpa only [if_neg e3, if_true] using this
      · have := h i hi
        simpa only [swA, if_neg e, if_neg e2] using this
  · intro h i hi
    simp only [swA]
    by_cases e : i = n
    · simp only [if_pos e]; exact h t ht
    · by_cases e2 : i = t
      · simp only [if_neg e, if_pos e2]; exact h n hn
      · simp only [if_neg e, if_neg e2]; exact h i hi
theorem ker_sc {p s y : Int} {r n k : Nat} {f : Nat → Nat → Int} {x : Nat → Int} (hs : p ∣ s * y - 1) : Ker p r (scA p n s f) k x ↔ Ker p r f k x := by
  have key : ∀ i, (p ∣ sgF (fun t => scA p n s f i t * x t) k) ↔ p ∣ sgF (fun t => f i t * x t) k := by
    intro i
    by_cases e : i = n
    · have h1 : p ∣ sgF (fun t => scA p n s f i t * x t) k - s * sgF (fun t => f i t * x t) k := by
        rw [← sg_mul]
        refine sg_cg fun t _ => ?_
        simp only [scA, if_pos e]
        rw [← Int.mul_assoc, Int.mul_comm s]
        exact cg_mulL _ (emod_cg _ _)
      rw [cg_dvd h1]
      constructor
      · intro h
        obtain ⟨c, hc⟩ := h
        obtain ⟨d, hd⟩ := hs
        refine ⟨c * y - d * sgF (fun t => f i t * x t) k, ?_⟩
        rw [Int.mul_sub, ← Int.mul_assoc, ← hc, ← Int.mul_assoc, ← hd, Int.sub_mul, Int.one_mul]
        rw [show s * sgF (fun t => f i t * x t) k * y = s * y * sgF (fun t => f i t * x t) k by rw [Int.mul_right_comm]]
        omega
      · exact fun h => Int.dvd_mul_of_dvd_right h
    · simp only [scA, if_neg e]
  exact ⟨fun h i hi => (key i).1 (h i hi), fun h i hi => (key i).2 (h i hi)⟩
theorem ker_el {p : Int} {r n k m : Nat} {f : Nat → Nat → Int} {x : Nat → Int} (hn : n < r) : Ker p r (elA p n k f) m x ↔ Ker p r f m x := by
  have key : ∀ i, i ≠ n → p ∣ sgF (fun t => elA p n k f i t * x t) m - (sgF (fun t => f i t * x t) m + (p - f i k) * sgF (fun t => f n t * x t) m) := by
    intro i hi
    rw [← sg_mul, ← sg_add]
    refine sg_cg fun t _ => ?_
    simp only [elA, if_pos hi]
    rw [← Int.mul_assoc, ← Int.add_mul]
    exact cg_mulL _ (emod_cg _ _)
  constructor
  · intro h i hi
    have hn' := h n hn
    simp only [elA, ne_eq, not_true_eq_false, if_false] at hn'
    by_cases e : i = n
    · rw [e]; exact hn'
    · have h1 := (cg_dvd (key i e)).1 (h i hi)
      have := Int.dvd_sub h1 (Int.dvd_mul_of_dvd_right (b := p - f i k) hn')
      rwa [Int.add_sub_cancel] at this
  · intro h i hi
    by_cases e : i = n
    · subst e
      simp only [elA, ne_eq, not_true_eq_false, if_false]
      exact h i hi
    · exact (cg_dvd (key i e)).2 (Int.dvd_add (h i hi) (Int.dvd_mul_of_dvd_right (h n hn)))
theorem inv_cg {p x : Int} (hp : isFld p = true) (h1 : 1 ≤ x) (h2 : x ≤ p - 1) : p ∣ invP p x * x - 1 := by
  obtain ⟨_, _, h, _⟩ := invP_ok hp h1 h2
  rw [Int.mul_comm]
  have := emod_cg p (x * invP p x)
  rw [h] at this
  have := Int.dvd_neg.2 this
  rwa [Int.neg_sub] at this
theorem ker_to {p : Int} {r c : Nat} {f : Nat → Nat → Int} (hp : isFld p = true) (hp2 : 2 ≤ p) (hf : InF p r c f) : ∀ k, k ≤ c → ∀ m x, Ker p r (rdTo p r f k).1 m x ↔ Ker p r f m x
  | 0, _, _, _ => Iff.rfl
  | k + 1, hk, m, x => by
    have ih := ker_to hp hp2 hf k (by omega) m x
    have hg := inF_to hp2 hf k
    have hl := (rdTo_len p r f k).1
    simp only [rdTo]
    split
    · rename_i h1
      have hn := nzF_le (f := (rdTo p r f k).1) (k := k) hl
      have hne := nzF_ne hl h1
      have hr := hg _ k h1 (by omega)
      rw [← ih, rdF, ker_el (by omega), ker_sc (y := swA (rdTo p r f k).2.length (nzF (rdTo p r f k).1 k (rdTo p r f k).2.length r) (rdTo p r f k).1 (rdTo p r f k).2.length k), ker_sw (by omega) h1]
      simp only [swA, if_true]
      exact inv_cg hp (by omega) hr.2
    · exact ih

/-! ### the reduced form -/
structure Rd (r : Nat) (g : Nat → Nat → Int) (ps : List Int) (k : Nat) : Prop where
  pos : ∀ j, j < ps.length → ∃ b : Nat, ps[j]? = some (b : Int) ∧ b < k ∧ ∀ i, i < r → g i b = if i = j then 1 else 0
  low : ∀ i b, ps.length ≤ i → i < r → b < k → g i b = 0
theorem nzF_0 {f : Nat → Nat → Int} {k n r : Nat} (h : ¬ nzF f k n r < r) {i : Nat} (h1 : n ≤ i) (h2 : i < r) : f i k = 0 := by
  apply Classical.byContradiction
  intro hne
  apply h
  have key : ∀ m a, a ≤ i → i < a + m → nzGo f k a m < a + m := by
    intro m
    induction m with
    | zero => intro a h3 h4; omega
    | succ m ih =>
      intro a h3 h4
      simp only [nzGo]
      split
      · rename_i h5
        have : a ≠ i := by rintro rfl; exact hne h5
        have := ih (a + 1) (by omega) (by omega)
        omega
      · omega
  have := key (r - n) n h1 (by omega)
  unfold nzF
  omega
theorem rd_step {p : Int} {r c k t : Nat} {g : Nat → Nat → Int} {ps : List Int} (hp : isFld p = true) (hp2 : 2 ≤ p) (hg : InF p r c g) (hk : k < c) (ih : Rd r g ps k) (hn : ps.length ≤ t) (ht : t < r) (hne : g t k ≠ 0) :
    Rd r (elA p ps.length k (scA p ps.length (invP p (swA ps.length t g ps.length k)) (swA ps.length t g))) (ps ++ [(k : Int)]) (k + 1) := by
  obtain ⟨hpos, hlow⟩ := ih
  have hr := hg t k ht hk
  have h01 : (0 : Int) % p = 0 := Int.zero_emod p
  have h11 : (1 : Int) % p = 1 := Int.emod_eq_of_lt (by omega) (by omega)
  generalize hN : ps.length = n at *
  have hs : swA n t g n k = g t k := by simp [swA]
  rw [hs]
  obtain ⟨_, _, hi1, _⟩ := invP_ok hp (show 1 ≤ g t k by omega) hr.2
  generalize hS : invP p (g t k) = s at *
  have e_nk : scA p n s (swA n t g) n k = 1 := by simp only [scA, if_true, swA]; exact hi1
  have sw_lo : ∀ i b, n ≤ i → i < r → b < k → swA n t g i b = 0 := by
    intro i b h2 h3 h4
    simp only [swA]
    split
    · exact hlow t b hn ht h4
    · split
      · exact hlow _ b (Nat.le_refl _) (by omega) h4
      · exact hlow i b h2 h3 h4
  have sc_lo : ∀ i b, n ≤ i → i < r → b < k → scA p n s (swA n t g) i b = 0 := by
    intro i b h2 h3 h4
    simp only [scA]
    split
    · rw [sw_lo i b h2 h3 h4, Int.zero_mul, h01]
    · exact sw_lo i b h2 h3 h4
  constructor
  · intro j hj
    rw [List.length_append, List.length_singleton, hN] at hj
    by_cases e : j < n
    · obtain ⟨b, h5, h6, h7⟩ := hpos j e
      refine ⟨b, by rw [List.getElem?_append_left (by omega)]; exact h5, by omega, fun i hi => ?_⟩
      have hnb : scA p n s (swA n t g) n b = 0 := sc_lo n b (Nat.le_refl _) (by omega) h6
      simp only [elA]
      by_cases hin : i = n
      · rw [if_neg (by simpa using hin), hin, hnb, if_neg (by omega)]
      · rw [if_pos hin, hnb, Int.mul_zero, Int.add_zero]
        rcases Nat.lt_or_ge i n with hlt | hge
        · have : scA p n s (swA n t g) i b = g i b := by simp only [scA, if_neg hin, swA]; rw [if_neg (by omega)]
          rw [this, h7 i hi]
          split
          · exact h11
          · exact h01
        · rw [sc_lo i b hge hi h6, h01, if_neg (by omega)]
    · obtain rfl : j = n := by omega
      refine ⟨k, by rw [List.getElem?_append_right (by omega), hN]; simp, by omega, fun i hi => ?_⟩
      simp only [elA]
      by_cases hin : i = j
      · rw [if_neg (by simpa using hin), hin, e_nk, if_pos rfl]
      · rw [if_pos hin, e_nk, if_neg hin, Int.mul_one]
        rw [show scA p j s (swA j t g) i k + (p - scA p j s (swA j t g) i k) = p by omega, Int.emod_self]
  · intro i b h2 h3 h4
    rw [List.length_append, List.length_singleton, hN] at h2
    simp only [elA]
    rw [if_pos (by omega)]
    rcases Nat.lt_or_ge b k with hlt | hge
    · rw [sc_lo i b (by omega) h3 hlt, sc_lo n b (Nat.le_refl _) (by omega) hlt, Int.mul_zero, Int.add_zero, h01]
    · obtain rfl : b = k := by omega
      rw [e_nk, Int.mul_one, show scA p n s (swA n t g) i b + (p - scA p n s (swA n t g) i b) = p by omega, Int.emod_self]
theorem rd_to {p : Int} {r c : Nat} {f : Nat → Nat → Int} (hp : isFld p = true) (hp2 : 2 ≤ p) (hf : InF p r c f) : ∀ k, k ≤ c → Rd r (rdTo p r f k).1 (rdTo p r f k).2 k
  | 0, _ => ⟨fun j hj => absurd hj (by simp [rdTo]), fun i b _ _ hb => absurd hb (by omega)⟩
  | k + 1, hk => by
    have ih := rd_to hp hp2 hf k (by omega)
    have hg := inF_to hp2 hf k
    have hl := (rdTo_len p r f k).1
    simp only [rdTo]
    split
    · rename_i h1
      have hn := nzF_le (f := (rdTo p r f k).1) (k := k) hl
      have hne := nzF_ne hl h1
      exact rd_step hp hp2 hg (by omega) ih hn.1 h1 hne
    · rename_i h1
      refine ⟨fun j hj => ?_, fun i b h2 h3 h4 => ?_⟩
      · obtain ⟨b, h5, h6, h7⟩ := ih.pos j hj
        exact ⟨b, h5, by omega, h7⟩
      · rcases Nat.lt_or_ge b k with h | h
        · exact ih.low i b h2 h3 h
        · obtain rfl : b = k := by omega
          exact nzF_0 h1 h2 h3
/-! ### counting -/
/-- pairs -/
def prs {α β : Type} (l : List α) (m : List β) : List (α × β) := l.flatMap fun x => m.map fun y => (x, y)
/-- all vectors of n numbers from 0 up to p -/
def vecs (p : Nat) : Nat → List (List Int)
  | 0 => [[]]
  | n + 1 => (prs (vecs p n) (List.range p)).map fun z => z.1 ++ [(z.2 : Int)]
def IsV (p : Nat) (n : Nat) (x : List Int) : Prop := x.length = n ∧ ∀ e ∈ x, 0 ≤ e ∧ e < p
def at0 (x : List Int) (t : Nat) : Int := x.getD t 0
/-- the vector in reduced numbers -/
def can (p : Nat) (k : Nat) (v : Nat → Int) : List Int := (List.range k).map fun b => v b % (p : Int)
def kerB (p : Nat) (r : Nat) (f : Nat → Nat → Int) (k : Nat) (x : List Int) : Bool := (List.range r).all fun i => decide ((p : Int) ∣ sgF (fun t => f i t * at0 x t) k)
def kerL (p : Nat) (r : Nat) (f : Nat → Nat → Int) (k : Nat) : List (List Int) := (vecs p k).filter (kerB p r f k)
/-! ### how many vectors the kernel has -/
theorem ker_k {p : Int} {r : Nat} {f : Nat → Nat → Int} {k : Nat} {x y : Nat → Int} (h : ∀ t, t < k → x t = y t) : Ker p r f k x ↔ Ker p r f k y :=
  ker_congr fun t ht => by rw [h t ht, Int.sub_self]; exact Int.dvd_zero p
/-- the solution for a column without a leading one -/
theorem sol_at {r k : Nat} {g : Nat → Nat → Int} {ps : List Int} (h : Rd r g ps k) (hc : ∀ i, ps.length ≤ i → i < r → g i k = 0) : ∃ x0 : Nat → Int, ∀ i, i < r → sgF (fun b => g i b * x0 b) k = - g i k := by
  have hps : ∀ j, j < ps.length → ∃ b : Nat, ps.getD j 0 = (b : Int) ∧ b < k ∧ ∀ i, i < r → g i b = if i = j then 1 else 0 := fun j hj => by
    obtain ⟨b, h1, h2⟩ := h.pos j hj
    exact ⟨b, by rw [List.getD_eq_getElem?_getD, h1]; rfl, h2⟩
  refine ⟨fun b => sgF (fun j => if (b : Int) = ps.getD j 0 then - g j k else 0) ps.length, fun i hi => ?_⟩
  have e1 : ∀ b, g i b * sgF (fun j => if (b : Int) = ps.getD j 0 then - g j k else 0) ps.length = sgF (fun j => if (b : Int) = ps.getD j 0 then g i b * - g j k else 0) ps.length := by
    intro b
    rw [← sg_mul]
    refine sg_congr fun j _ => ?_
    split <;> simp
  rw [sg_congr fun b _ => e1 b, sg_swap]
  have e2 : ∀ j, j < ps.length → sgF (fun b : Nat => if (b : Int) = ps.getD j 0 then g i b * - g j k else 0) k = if j = i then - g j k else 0 := by
    intro j hj
    obtain ⟨b, h1, h2, h3⟩ := hps j hj
    rw [sg_congr (b := fun t => if t = b then g i t * - g j k else 0) fun t _ => by rw [h1]; simp only [Int.natCast_inj]]
    rw [sg_one h2, h3 i hi]
    by_cases e : i = j
    · subst e; simp
    · rw [if_neg e, if_neg (by omega)]; simp
  rw [sg_congr e2]
  rcases Nat.lt_or_ge i ps.length with hlt | hge
  · rw [sg_one (h := fun j => - g j k) hlt]
  · rw [sg_congr (b := fun _ => 0) fun t ht => if_neg (by omega), sg_0, hc i hge hi]; rfl
/-- a matrix times a vector -/
def appF (f : Nat → Nat → Int) (c : Nat) (x : Nat → Int) (i : Nat) : Int := sgF (fun t => f i t * x t) c
end Go.Proofs.YtaefpblpfjhgoaaGreat

/- The reduced form of a matrix is told by its kernel. Plain. -/
namespace Go.Proofs.YtaefpblpfjhgoaaGreat
set_option linter.unusedVariables false
set_option linter.unusedSimpArgs false
open Go.RowKit

/-- a step of the elimination leaves the columns before it -/
theorem rd_keep {p : Int} {r c k : Nat} {g : Nat → Nat → Int} {ps : List Int} (hp2 : 2 ≤ p) (hg : InF p r c g) (hk : k < c) (h : Rd r g ps k) (ht : nzF g k ps.length r < r) (hn : ps.length ≤ r) : ∀ i b, i < r → b < k → rdF p r g ps.length k i b = g i b := by
  intro i b hi hb
  have hnt := (nzF_le (f := g) (k := k) hn).1
  have h01 : (0 : Int) % p = 0 := Int.zero_emod p
  generalize hT : nzF g k ps.length r = t at *
  generalize hN : ps.length = n at *
  have hlow : ∀ i b, n ≤ i → i < r → b < k → g i b = 0 := fun i b h1 h2 h3 => h.low i b (by omega) h2 h3
  have sw_lo : ∀ i, n ≤ i → i < r → swA n t g i b = 0 := by
    intro i h2 h3
    simp only [swA]
    split
    · exact hlow t b hnt ht hb
    · split
      · exact hlow _ b (Nat.le_refl _) (by omega) hb
      · exact hlow i b h2 h3 hb
  have sc_lo : ∀ s i, n ≤ i → i < r → scA p n s (swA n t g) i b = 0 := by
    intro s i h2 h3
    simp only [scA]
    split
    · rw [sw_lo i h2 h3, Int.zero_mul, h01]
    · exact sw_lo i h2 h3
  simp only [rdF, hT, elA]
  rcases Nat.lt_or_ge i n with h1 | h1
  · have e : scA p n (invP p (swA n t g n k)) (swA n t g) i b = g i b := by
      simp only [scA, swA]
      rw [if_neg (by omega), if_neg (by omega), if_neg (by omega)]
    rw [if_pos (by omega), e, sc_lo _ n (Nat.le_refl _) (by omega), Int.mul_zero, Int.add_zero]
    have := hg i b hi (by omega)
    exact Int.emod_eq_of_lt (by omega) (by omega)
  · rw [sc_lo _ i h1 hi, hlow i b h1 hi hb, sc_lo _ n (Nat.le_refl _) (by omega), Int.mul_zero, Int.add_zero, h01, ite_self]
theorem rdTo_step {p : Int} {r : Nat} {f : Nat → Nat → Int} {k : Nat} : rdTo p r f (k + 1) = if nzF (rdTo p r f k).1 k (rdTo p r f k).2.length r < r then (rdF p r (rdTo p r f k).1 (rdTo p r f k).2.length k, (rdTo p r f k).2 ++ [(k : Int)]) else rdTo p r f k := rdTo_succ p r f k
/-- rows begin with their leading ones -/
theorem rdTo_lead {p : Int} {r c : Nat} {f : Nat → Nat → Int} (hp : isFld p = true) (hp2 : 2 ≤ p) (hf : InF p r c f) : ∀ k, k ≤ c → ∀ (j b : Nat), (rdTo p r f k).2[j]? = some (b : Int) → ∀ t : Nat, t < b → (rdTo p r f k).1 j t = 0
  | 0, _, j, b, h, _, _ => by simp [rdTo] at h
  | k + 1, hk, j, b, h, t, ht => by
    have hl := (rdTo_len p r f k).1
    rw [rdTo_step] at h ⊢
    split at h
    · rename_i h1
      rw [if_pos h1]
      have hrd := rd_to hp hp2 hf k (by omega)
      have hjr : j < r := by
        have := lt_of_some h
        have hn := (nzF_le (f := (rdTo p r f k).1) (k := k) hl).1
        simp only [List.length_append, List.length_singleton] at this
        omega
      rcases Nat.lt_or_ge j (rdTo p r f k).2.length with h2 | h2
      · rw [List.getElem?_append_left h2] at h
        have hb := (rdTo_mem p r f k b (List.mem_of_getElem? h)).2
        show rdF p r (rdTo p r f k).1 (rdTo p r f k).2.length k j t = 0
        rw [rd_keep hp2 (inF_to hp2 hf k) (by omega) hrd h1 hl j t hjr (by omega)]
        exact rdTo_lead hp hp2 hf k (by omega) j b h t ht
      · have hj : j = (rdTo p r f k).2.length := by
          have := lt_of_some h
          simp only [List.length_append, List.length_singleton] at this
          omega
        rw [List.getElem?_append_right h2, hj, Nat.sub_self] at h
        simp only [List.getElem?_cons_zero, Option.some.injEq] at h
        show rdF p r (rdTo p r f k).1 (rdTo p r f k).2.length k j t = 0
        rw [rd_keep hp2 (inF_to hp2 hf k) (by omega) hrd h1 hl j t hjr (by omega)]
        exact hrd.low j t (by omega) hjr (by omega)
    · rename_i h1
      rw [if_neg h1]
      exact rdTo_lead hp hp2 hf k (by omega) j b h t ht
theorem ker_zero {p : Int} {r m c : Nat} {f : Nat → Nat → Int} {x : Nat → Int} (hm : m ≤ c) (hx : ∀ t, m ≤ t → x t = 0) : Ker p r f c x ↔ Ker p r f m x := by
  have e : ∀ d i, sgF (fun t => f i t * x t) (m + d) = sgF (fun t => f i t * x t) m := by
    intro d i
    induction d with
    | zero => rfl
    | succ d ih => rw [← Nat.add_assoc, sgF, ih, hx _ (by omega), Int.mul_zero, Int.add_zero]
  obtain ⟨d, rfl⟩ := Nat.exists_eq_add_of_le hm
  exact forall_congr' fun i => by rw [e d i]
/-- equal kernels: equal in all beginnings -/
theorem ker_pre {p : Int} {r r' c : Nat} {f f' : Nat → Nat → Int} (h : ∀ x, Ker p r f c x ↔ Ker p r' f' c x) {m : Nat} (hm : m ≤ c) (x : Nat → Int) : Ker p r f m x ↔ Ker p r' f' m x := by
  have e : ∀ (r : Nat) (f : Nat → Nat → Int), Ker p r f m x ↔ Ker p r f m (fun t => if t < m then x t else 0) := fun r f => ker_k fun t ht => by rw [if_pos ht]
  rw [e r f, e r' f', ← ker_zero hm fun t ht => if_neg (by omega), ← ker_zero (r := r') (f := f') hm fun t ht => if_neg (by omega)]
  exact h _
theorem rng_eq {p a b : Int} (ha : 0 ≤ a ∧ a ≤ p - 1) (hb : 0 ≤ b ∧ b ≤ p - 1) (h : p ∣ a - b) : a = b := by
  have := Int.emod_emod_of_dvd
  have h1 : a % p = b % p := Int.emod_eq_emod_iff_emod_sub_eq_zero.2 (Int.emod_eq_zero_of_dvd h)
  rwa [Int.emod_eq_of_lt ha.1 (by omega), Int.emod_eq_of_lt hb.1 (by omega)] at h1
theorem rd_free {p : Int} {r r' c k : Nat} {g g' : Nat → Nat → Int} {ps : List Int} (hp2 : 2 ≤ p) (hg : InF p r c g) (hg' : InF p r' c g') (hk : k < c) (h : Rd r g ps k) (he : ∀ i, i < ps.length → ∀ b, b < k → g i b = g' i b) (h' : Rd r' g' ps k) (hr : ps.length ≤ r) (hr' : ps.length ≤ r')
    (hK : ∀ x, Ker p r g (k + 1) x → Ker p r' g' (k + 1) x) (hc : ∀ i, ps.length ≤ i → i < r → g i k = 0) : (∀ i, ps.length ≤ i → i < r' → g' i k = 0) ∧ ∀ i, i < ps.length → g i k = g' i k := by
  obtain ⟨x0, hx0⟩ := sol_at h hc
  have hin := hK (fun t => if t < k then x0 t else 1) fun i hi => by
    simp only [sgF, Nat.lt_irrefl, if_false, Int.mul_one]
    rw [sg_congr (b := fun t => g i t * x0 t) fun t ht => by rw [if_pos ht], hx0 i hi]
    exact ⟨0, by omega⟩
  have e : ∀ i, i < r' → p ∣ sgF (fun t => g' i t * x0 t) k + g' i k := fun i hi => by
    have := hin i hi
    simp only [sgF, Nat.lt_irrefl, if_false, Int.mul_one] at this
    rwa [sg_congr (b := fun t => g' i t * x0 t) fun t ht => by rw [if_pos ht]] at this
  constructor
  · intro i h1 h2
    have := e i h2
    rw [sg_congr (b := fun _ => 0) fun t ht => by rw [h'.low i t h1 h2 ht, Int.zero_mul], sg_0, Int.zero_add] at this
    have hb := hg' i k h2 hk
    exact rng_eq hb ⟨by omega, by omega⟩ (by rwa [Int.sub_zero])
  · intro i h1
    have := e i (by omega)
    rw [sg_congr (b := fun t => g i t * x0 t) fun t ht => by rw [he i h1 t ht], hx0 i (by omega)] at this
    exact (rng_eq (hg' i k (by omega) hk) (hg i k (by omega) hk) (by rwa [Int.add_comm, ← Int.sub_eq_add_neg] at this)).symm
/-- one kernel: one reduced form -/
theorem rd_uniq {p : Int} {r r' c : Nat} {f f' : Nat → Nat → Int} (hp : isFld p = true) (hp2 : 2 ≤ p) (hf : InF p r c f) (hf' : InF p r' c f') (hK : ∀ x, Ker p r f c x ↔ Ker p r' f' c x) :
    ∀ k, k ≤ c → (rdTo p r f k).2 = (rdTo p r' f' k).2 ∧ ∀ i, i < (rdTo p r f k).2.length → ∀ b, b < k → (rdTo p r f k).1 i b = (rdTo p r' f' k).1 i b
  | 0, _ => ⟨rfl, fun i hi => absurd hi (by simp [rdTo])⟩
  | k + 1, hk => by
    obtain ⟨ih1, ih2⟩ := rd_uniq hp hp2 hf hf' hK k (by omega)
    have g1 := inF_to hp2 hf k
    have g2 := inF_to hp2 hf' k
    have d1 := rd_to hp hp2 hf k (by omega)
    have d2 := rd_to hp hp2 hf' k (by omega)
    have l1 := (rdTo_len p r f k).1
    have l2 := (rdTo_len p r' f' k).1
    rw [← ih1] at d2 l2
    have hk1 : ∀ x, Ker p r (rdTo p r f k).1 (k + 1) x ↔ Ker p r' (rdTo p r' f' k).1 (k + 1) x := fun x => by
      rw [ker_to hp hp2 hf k (by omega), ker_to hp hp2 hf' k (by omega)]
      exact ker_pre hK hk x
    have hz : ∀ (r : Nat) (g : Nat → Nat → Int) (n : Nat), n ≤ r → (∀ i, n ≤ i → i < r → g i k = 0) → ¬ nzF g k n r < r := fun r g n hn h hlt => nzF_ne hn hlt (h _ (nzF_le hn).1 hlt)
    rw [rdTo_step, rdTo_step (f := f'), ← ih1]
    by_cases h1 : nzF (rdTo p r f k).1 k (rdTo p r f k).2.length r < r
    · have h2 : nzF (rdTo p r' f' k).1 k (rdTo p r f k).2.length r' < r' := by
        apply Classical.byContradiction
        intro h2
        have := (rd_free hp2 g2 g1 (by omega) d2 (fun i hi b hb => (ih2 i hi b hb).symm) d1 l2 l1 (fun x hx => (hk1 x).2 hx) fun i a b => nzF_0 h2 a b).1
        exact hz r _ _ l1 this h1
      rw [if_pos h1, if_pos h2]
      refine ⟨rfl, fun i hi b hb => ?_⟩
      simp only [List.length_append, List.length_singleton] at hi
      have n1 := (nzF_le (f := (rdTo p r f k).1) (k := k) l1).1
      have n2 := (nzF_le (f := (rdTo p r' f' k).1) (k := k) l2).1
      show rdF p r (rdTo p r f k).1 (rdTo p r f k).2.length k i b = rdF p r' (rdTo p r' f' k).1 (rdTo p r f k).2.length k i b
      rcases Nat.lt_or_ge b k with hbk | hbk
      · rw [rd_keep hp2 g1 (by omega) d1 h1 l1 i b (by omega) hbk, rd_keep hp2 g2 (by omega) d2 h2 l2 i b (by omega) hbk]
        rcases Nat.lt_or_ge i (rdTo p r f k).2.length with hin | hin
        · exact ih2 i hin b hbk
        · rw [d1.low i b hin (by omega) hbk, d2.low i b hin (by omega) hbk]
      · obtain rfl : b = k := by omega
        have s1 := rd_step hp hp2 g1 (by omega) d1 n1 h1 (nzF_ne l1 h1)
        have s2 := rd_step hp hp2 g2 (by omega) d2 n2 h2 (nzF_ne l2 h2)
        obtain ⟨b1, e1, _, u1⟩ := s1.pos (rdTo p r f b).2.length (by simp)
        obtain ⟨b2, e2, _, u2⟩ := s2.pos (rdTo p r f b).2.length (by simp)
        rw [List.getElem?_append_right (Nat.le_refl _), Nat.sub_self] at e1 e2
        simp only [List.getElem?_cons_zero, Option.some.injEq, Int.natCast_inj] at e1 e2
        subst e1
        subst e2
        have v1 := u1 i (by omega)
        have v2 := u2 i (by omega)
        simp only [rdF]
        rw [v1, v2]
    · have h2 : ¬ nzF (rdTo p r' f' k).1 k (rdTo p r f k).2.length r' < r' := by
        have := (rd_free hp2 g1 g2 (by omega) d1 ih2 d2 l1 l2 (fun x hx => (hk1 x).1 hx) fun i a b => nzF_0 h1 a b).1
        exact hz r' _ _ l2 this
      rw [if_neg h1, if_neg h2]
      refine ⟨ih1, fun i hi b hb => ?_⟩
      rcases Nat.lt_or_ge b k with hbk | hbk
      · exact ih2 i hi b hbk
      · obtain rfl : b = k := by omega
        exact (rd_free hp2 g1 g2 (by omega) d1 ih2 d2 l1 l2 (fun x hx => (hk1 x).1 hx) fun i a b => nzF_0 h1 a b).2 i hi
end Go.Proofs.YtaefpblpfjhgoaaGreat

/- The span of all columns and that of the pivot columns: one kernel. Plain. -/
namespace Go.Proofs.YtaefpblpfjhgoaaGreat
set_option linter.unusedVariables false
set_option linter.unusedSimpArgs false
open Go.RowKit

/-- the vector that tells column j by the pivot columns -/
def zvec (g : Nat → Nat → Int) (ps : List Int) (j t : Nat) : Int := (if t = j then 1 else 0) - sgF (fun i => if (t : Int) = ps.getD i 0 then g i j else 0) ps.length
theorem zvec_sum {g : Nat → Nat → Int} {ps : List Int} {c j : Nat} (hj : j < c) (hps : ∀ i, i < ps.length → ∃ b : Nat, ps.getD i 0 = (b : Int) ∧ b < c) (h : Nat → Int) :
    sgF (fun t => h t * zvec g ps j t) c = h j - sgF (fun i => g i j * h (ps.getD i 0).toNat) ps.length := by
  have e1 : sgF (fun t => h t * zvec g ps j t) c = sgF (fun t => (if t = j then h t else 0) - sgF (fun i => if (t : Int) = ps.getD i 0 then h t * g i j else 0) ps.length) c := by
    refine sg_congr fun t _ => ?_
    rw [zvec, Int.mul_sub, ← sg_mul]
    congr 1
    · split <;> simp
    · exact sg_congr fun i _ => by split <;> simp
  rw [e1, sg_sub, sg_one hj, sg_swap]
  congr 1
  refine sg_congr fun i hi => ?_
  obtain ⟨b, hb, hbc⟩ := hps i hi
  rw [hb, sg_congr (b := fun t => if t = b then h t * g i j else 0) fun t _ => by simp only [Int.natCast_inj], sg_one hbc, Int.toNat_natCast, Int.mul_comm]
theorem rd_pos {p : Int} {r c : Nat} {f : Nat → Nat → Int} (hp : isFld p = true) (hp2 : 2 ≤ p) (hf : InF p r c f) (i : Nat) (hi : i < (rdTo p r f c).2.length) : ∃ b : Nat, (rdTo p r f c).2.getD i 0 = (b : Int) ∧ b < c ∧ ∀ a, a < r → (rdTo p r f c).1 a b = if a = i then 1 else 0 := by
  obtain ⟨b, h1, h2, h3⟩ := (rd_to hp hp2 hf c (Nat.le_refl _)).pos i hi
  exact ⟨b, by rw [List.getD_eq_getElem?_getD, h1]; rfl, h2, h3⟩
/-- each column is a combination of the pivot columns -/
theorem col_piv {p : Int} {r c : Nat} {f : Nat → Nat → Int} (hp : isFld p = true) (hp2 : 2 ≤ p) (hf : InF p r c f) {j : Nat} (hj : j < c) : ∀ a, a < r → p ∣ f a j - sgF (fun i => (rdTo p r f c).1 i j * f a ((rdTo p r f c).2.getD i 0).toNat) (rdTo p r f c).2.length := by
  have hps : ∀ i, i < (rdTo p r f c).2.length → ∃ b : Nat, (rdTo p r f c).2.getD i 0 = (b : Int) ∧ b < c := fun i hi => by
    obtain ⟨b, h1, h2, _⟩ := rd_pos hp hp2 hf i hi
    exact ⟨b, h1, h2⟩
  have hk : Ker p r (rdTo p r f c).1 c (zvec (rdTo p r f c).1 (rdTo p r f c).2 j) := fun a ha => by
    rw [zvec_sum hj hps]
    have e : sgF (fun i => (rdTo p r f c).1 i j * (rdTo p r f c).1 a ((rdTo p r f c).2.getD i 0).toNat) (rdTo p r f c).2.length = sgF (fun i => if i = a then (rdTo p r f c).1 i j else 0) (rdTo p r f c).2.length := sg_congr fun i hi => by
      obtain ⟨b, h1, _, h3⟩ := rd_pos hp hp2 hf i hi
      rw [h1, Int.toNat_natCast, h3 a ha]
      by_cases e : a = i
      · rw [if_pos e, if_pos e.symm, Int.mul_one]
      · rw [if_neg e, if_neg (fun h => e h.symm), Int.mul_zero]
    rw [e]
    rcases Nat.lt_or_ge a (rdTo p r f c).2.length with h | h
    · rw [sg_one (h := fun i => (rdTo p r f c).1 i j) h]
      exact ⟨0, by omega⟩
    · rw [sg_congr (b := fun _ => 0) fun t ht => if_neg (by omega), sg_0, (rd_to hp hp2 hf c (Nat.le_refl _)).low a j h ha hj]
      exact ⟨0, by omega⟩
  have hk2 := (ker_to hp hp2 hf c (Nat.le_refl _) c _).1 hk
  intro a ha
  have := hk2 a ha
  rwa [zvec_sum hj hps] at this
/-- columns as rows, all of them or the pivots alone -/
def trF (f : Nat → Nat → Int) (a b : Nat) : Int := f b a
def pvF (f : Nat → Nat → Int) (ps : List Int) (a b : Nat) : Int := f b (ps.getD a 0).toNat
theorem span_ker {p : Int} {r c : Nat} {f : Nat → Nat → Int} (hp : isFld p = true) (hp2 : 2 ≤ p) (hf : InF p r c f) (x : Nat → Int) : Ker p c (trF f) r x ↔ Ker p (rdTo p r f c).2.length (pvF f (rdTo p r f c).2) r x := by
  constructor
  · intro h i hi
    obtain ⟨b, h1, h2, _⟩ := rd_pos hp hp2 hf i hi
    have := h b h2
    rw [sg_congr (b := fun t => trF f b t * x t) fun t _ => by rw [pvF, h1, Int.toNat_natCast]; rfl]
    exact this
  · intro h j hj
    have e : p ∣ sgF (fun t => trF f j t * x t) r - sgF (fun t => sgF (fun i => (rdTo p r f c).1 i j * (f t ((rdTo p r f c).2.getD i 0).toNat * x t)) (rdTo p r f c).2.length) r := by
      refine sg_cg fun t ht => ?_
      have := cg_mulL (x t) (col_piv hp hp2 hf hj t ht)
      rw [Int.mul_comm (sgF _ _) (x t), ← sg_mul] at this
      rw [sg_congr (b := fun i => x t * ((rdTo p r f c).1 i j * f t ((rdTo p r f c).2.getD i 0).toNat)) fun i _ => by rw [← Int.mul_assoc, Int.mul_comm (x t)]]
      exact this
    refine (cg_dvd e).2 ?_
    rw [sg_swap]
    refine sg_dvd fun i hi => ?_
    rw [sg_mul]
    exact Int.dvd_mul_of_dvd_right (h i hi)
theorem inF_tr {p : Int} {r c : Nat} {f : Nat → Nat → Int} (hf : InF p r c f) : InF p c r (trF f) := fun a b ha hb => hf b a hb ha
theorem inF_pv {p : Int} {r c : Nat} {f : Nat → Nat → Int} (hp : isFld p = true) (hp2 : 2 ≤ p) (hf : InF p r c f) : InF p (rdTo p r f c).2.length r (pvF f (rdTo p r f c).2) := fun a b ha hb => by
  obtain ⟨b', h1, h2, _⟩ := rd_pos hp hp2 hf a ha
  rw [pvF, h1, Int.toNat_natCast]
  exact hf b b' hb h2
/-- both reduced forms agree -/
theorem span_eq {p : Int} {r c : Nat} {f : Nat → Nat → Int} (hp : isFld p = true) (hp2 : 2 ≤ p) (hf : InF p r c f) :
    (rdTo p c (trF f) r).2 = (rdTo p (rdTo p r f c).2.length (pvF f (rdTo p r f c).2) r).2 ∧ ∀ i, i < (rdTo p c (trF f) r).2.length → ∀ b, b < r → (rdTo p c (trF f) r).1 i b = (rdTo p (rdTo p r f c).2.length (pvF f (rdTo p r f c).2) r).1 i b :=
  rd_uniq hp hp2 (inF_tr hf) (inF_pv hp hp2 hf) (span_ker hp hp2 hf) r (Nat.le_refl _)
end Go.Proofs.YtaefpblpfjhgoaaGreat

/- The basis of a kernel, plain. -/
namespace Go.Proofs.YtaefpblpfjhgoaaGreat
set_option linter.unusedVariables false
set_option linter.unusedSimpArgs false
open Go.RowKit

/-- the vector for column k, with i rows met -/
def kvG (p : Int) (g : Nat → Nat → Int) (ps : List Int) (k : Nat) : Nat → Nat → Int
  | 0, t => if t = k then 1 else 0
  | i + 1, t => if (t : Int) = ps.getD i 0 then (- g i k) % p else kvG p g ps k i t
def kerM (p : Int) (c : Nat) (g : Nat → Nat → Int) (ps L : List Int) : List (List Int) := L.map fun k => rowF c (kvG p g ps k.toNat ps.length)
/-- the basis of the kernel -/
def kerR (p : Int) (r c : Nat) (f : Nat → Nat → Int) : List (List Int) := kerM p c (rdTo p r f c).1 (rdTo p r f c).2 (freeV (rdTo p r f c).2 c)
theorem freeV_at {l : List Int} {k j : Nat} {x : Int} (h : (freeV l k)[j]? = some x) : ∃ n : Nat, x = (n : Int) ∧ n < k ∧ x ∉ l := by
  have := List.mem_of_getElem? h
  simp only [freeV, List.mem_filter, List.mem_map, List.mem_range, Bool.not_eq_true', decide_eq_false_iff_not] at this
  obtain ⟨⟨n, hn, rfl⟩, h2⟩ := this
  exact ⟨n, rfl, hn, h2⟩
end Go.Proofs.YtaefpblpfjhgoaaGreat

/- Coordinates modulo a space: the rests of the unit vectors. Plain. -/
namespace Go.Proofs.YtaefpblpfjhgoaaGreat
set_option linter.unusedVariables false
set_option linter.unusedSimpArgs false
open Go.RowKit

/-- the rest of unit vector j after i rows -/
def rsO (p : Int) (g : Nat → Nat → Int) (ps : List Int) (j : Nat) : Nat → Nat → Int
  | 0, t => if t = j then 1 else 0
  | i + 1, t => (rsO p g ps j i t + (p - rsO p g ps j i (ps.getD i 0).toNat) * g i t) % p
structure Piv (r c : Nat) (g : Nat → Nat → Int) (ps : List Int) : Prop where
  at_ : ∀ i, i < ps.length → ∃ b : Nat, ps.getD i 0 = (b : Int) ∧ b < c ∧ ∀ a, a < r → g a b = if a = i then 1 else 0
  len : ps.length ≤ r
theorem Piv.inj {r c : Nat} {g : Nat → Nat → Int} {ps : List Int} (h : Piv r c g ps) {i i' : Nat} (hi : i < ps.length) (hi' : i' < ps.length) (e : ps.getD i 0 = ps.getD i' 0) : i = i' := by
  obtain ⟨b, h1, _, h3⟩ := h.at_ i hi
  obtain ⟨b', h1', _, h3'⟩ := h.at_ i' hi'
  have eb : b = b' := by rw [h1, h1'] at e; exact Int.natCast_inj.1 e
  subst eb
  have hl := h.len
  have u1 := h3 i (by omega)
  have u2 := h3' i (by omega)
  rw [if_pos rfl] at u1
  by_cases e2 : i = i'
  · exact e2
  · rw [if_neg e2] at u2; omega
theorem rsO_all {p : Int} {r c : Nat} {g : Nat → Nat → Int} {ps : List Int} (hp2 : 2 ≤ p) (hg : InF p r c g) (h : Piv r c g ps) (j : Nat) : ∀ n, n ≤ ps.length →
    ((∀ i, i < n → ps.getD i 0 ≠ (j : Int)) ∧ ∀ t, t < c → rsO p g ps j n t = if t = j then 1 else 0) ∨ (∃ i, i < n ∧ ps.getD i 0 = (j : Int) ∧ ∀ t, t < c → rsO p g ps j n t = ((if t = j then 1 else 0) - g i t) % p)
  | 0, _ => .inl ⟨fun i hi => absurd hi (by omega), fun t _ => rfl⟩
  | n + 1, hn => by
    obtain ⟨b, hb, hbc, hb3⟩ := h.at_ n (by omega)
    have hl := h.len
    rcases rsO_all hp2 hg h j n (by omega) with ⟨h1, h2⟩ | ⟨i, hi, h1, h2⟩
    · by_cases e : b = j
      · refine .inr ⟨n, by omega, by rw [hb, e], fun t ht => ?_⟩
        rw [rsO, hb, Int.toNat_natCast, h2 b hbc, if_pos e, h2 t ht, Int.sub_mul, Int.one_mul, show (if t = j then (1 : Int) else 0) + (p * g n t - g n t) = (if t = j then 1 else 0) - g n t + p * g n t by omega, Int.add_mul_emod_self_left]
      · refine .inl ⟨fun i hi => ?_, fun t ht => ?_⟩
        · rcases Nat.lt_or_ge i n with h3 | h3
          · exact h1 i h3
          · obtain rfl : i = n := by omega
            rw [hb]; intro e2; exact e (Int.natCast_inj.1 e2)
        · rw [rsO, hb, Int.toNat_natCast, h2 b hbc, if_neg e, h2 t ht, Int.sub_zero, Int.add_mul_emod_self_left]
          split
          · exact Int.emod_eq_of_lt (by omega) (by omega)
          · exact Int.emod_eq_of_lt (by omega) (by omega)
    · refine .inr ⟨i, by omega, h1, fun t ht => ?_⟩
      have hbj : b ≠ j := by
        rintro rfl
        have := h.inj (i := n) (i' := i) (by omega) (by omega) (by rw [hb, h1])
        omega
      rw [rsO, hb, Int.toNat_natCast, h2 b hbc, if_neg hbj, hb3 i (by omega), if_neg (by omega), h2 t ht]
      rw [show ((0 : Int) - 0) % p = 0 by simp, Int.sub_zero, Int.add_mul_emod_self_left, Int.emod_emod_of_dvd _ (Int.dvd_refl p)]
theorem kvG_all {p : Int} (g : Nat → Nat → Int) (ps : List Int) (k j : Nat) : ∀ n, 
    ((∀ i, i < n → ps.getD i 0 ≠ (j : Int)) ∧ kvG p g ps k n j = if j = k then 1 else 0) ∨ (∃ i, i < n ∧ ps.getD i 0 = (j : Int) ∧ kvG p g ps k n j = (- g i k) % p)
  | 0 => .inl ⟨fun i hi => absurd hi (by omega), rfl⟩
  | n + 1 => by
    by_cases e : (j : Int) = ps.getD n 0
    · exact .inr ⟨n, by omega, e.symm, by rw [kvG, if_pos e]⟩
    · rw [kvG, if_neg e]
      rcases kvG_all g ps k j n with ⟨h1, h2⟩ | ⟨i, hi, h1, h2⟩
      · refine .inl ⟨fun i hi => ?_, h2⟩
        rcases Nat.lt_or_ge i n with h3 | h3
        · exact h1 i h3
        · obtain rfl : i = n := by omega
          exact fun e2 => e e2.symm
      · exact .inr ⟨i, by omega, h1, h2⟩
/-- the coordinate of unit vector j at a free column -/
theorem rsO_kv {p : Int} {r c : Nat} {g : Nat → Nat → Int} {ps : List Int} (hp2 : 2 ≤ p) (hg : InF p r c g) (h : Piv r c g ps) {k j : Nat} (hk : k < c) (hkp : (k : Int) ∉ ps) : rsO p g ps j ps.length k = kvG p g ps k ps.length j := by
  have hne : ∀ i, i < ps.length → ps.getD i 0 = (j : Int) → j ≠ k := by
    rintro i hi e rfl
    refine hkp ?_
    rw [← e, List.getD_eq_getElem?_getD, List.getElem?_eq_getElem hi]
    exact List.getElem_mem hi
  rcases rsO_all hp2 hg h j ps.length (Nat.le_refl _) with ⟨h1, h2⟩ | ⟨i, hi, h1, h2⟩
  · rcases kvG_all (p := p) g ps k j ps.length with ⟨h3, h4⟩ | ⟨i, hi, h3, _⟩
    · rw [h2 k hk, h4]
      by_cases e : k = j
      · rw [if_pos e, if_pos e.symm]
      · rw [if_neg e, if_neg fun e2 => e e2.symm]
    · exact absurd h3 (h1 i hi)
  · rcases kvG_all (p := p) g ps k j ps.length with ⟨h3, _⟩ | ⟨i', hi', h3, h4⟩
    · exact absurd h1 (h3 i hi)
    · obtain rfl : i = i' := h.inj hi hi' (h1.trans h3.symm)
      rw [h2 k hk, h4, if_neg (fun e => hne i hi h1 e.symm), Int.zero_sub]
theorem piv_rd {p : Int} {r c : Nat} {f : Nat → Nat → Int} (hp : isFld p = true) (hp2 : 2 ≤ p) (hf : InF p r c f) : Piv r c (rdTo p r f c).1 (rdTo p r f c).2 := ⟨rd_pos hp hp2 hf, (rdTo_len p r f c).1⟩
end Go.Proofs.YtaefpblpfjhgoaaGreat

/- The program's leading and leadings. -/
namespace Go.Proofs.YtaefpblpfjhgoaaGreat
set_option linter.unusedVariables false
set_option linter.unusedSimpArgs false
open Go.RowKit

theorem leadF_any (x : Int) (w : World) : Calls Tryz.prog 140 #[.int .i64 x] w fun e w' => e = .returned (.bool (x != 0)) ∧ w' = w := by
  go_enter Tryz.func140, Tryz.ntmps140
  go_wp2
  go_ret
  exact ⟨rfl, rfl⟩
set_option maxHeartbeats 400000 in
theorem indexFuncL_any (u : Value) (xs : List Int) (w : World) (hu : SlI w w.heap.size u xs) :
    Calls Tryz.prog 139 #[u, .func (Fn.func 140) #[] #[]] w fun e w' => e = .returned (.int .i64 (fidx (fun x => x != 0) xs)) ∧ Below w.heap.size w w' := by
  obtain ⟨A, c, rfl, _, _, hn, hx⟩ := hu.open_
  clear hu
  go_enter Tryz.func139, Tryz.ntmps139
  go_wp2
  go_loopw [8] (fun i wr => ∃ k : Nat, k ≤ xs.length ∧ i = .int .i64 k ∧ Below w.heap.size w wr ∧ Hid (∀ y ∈ xs.take k, (y != 0) = false)) (fun i _ => xs.length - (intOf i).toNat)
  case atStart => exact ⟨0, Nat.zero_le _, rfl, Below.refl _ _, by intro y hy; simp at hy⟩
  case round =>
    obtain ⟨k, hk, rfl, hbel, hno⟩ := hrel
    by_cases hlt : k < xs.length
    · obtain ⟨b, o, x, rfl, hb, HX, c1, _⟩ := SlI.at_ hx hlt
      have d1 := bcell hbel hb c1
      clear hx c1
      have HC := leadF_any x wr
      obtain ⟨B, hB⟩ : ∃ B, (x != 0) = B := ⟨_, rfl⟩
      rw [hB] at HC
      have HC := Lib.hid HC
      have HB := Lib.hid hB
      clear hB
      cases B
      · go_wp2_with fail
        refine (unhide HC).mono ?_; rintro e w1 ⟨rfl, hww⟩
        replace hww := hww.symm
        subst hww
        go_wp2
        go_roundw
        case rel =>
          refine ⟨k + 1, by omega, by go_num, hbel, fun y hy => ?_⟩
          rw [take_snoc HX.out, List.mem_append, List.mem_singleton] at hy
          rcases hy with hy | rfl
          · exact hno.out y hy
          · exact HB.out
        case measure => simp [intOf]; omega
      · have hfin := Lib.hid (fidx_some (p := fun x => x != 0) HX.out HB.out hno.out)
        go_wp2_with fail
        refine (unhide HC).mono ?_; rintro e w1 ⟨rfl, hww⟩
        replace hww := hww.symm
        subst hww
        go_wp2
        go_ret
        exact ⟨by rw [hfin.out]; rfl, hbel⟩
    · go_wp2
      go_ret
      have h1 := hno.out
      rw [List.take_of_length_le (by omega)] at h1
      exact ⟨by rw [fidx_none h1]; rfl, hbel⟩
theorem leading_any (u : Value) (xs : List Int) (w : World) (hu : SlI w w.heap.size u xs) :
    Calls Tryz.prog 111 #[u] w fun e w' => e = .returned (.int .i64 (fidx (fun x => x != 0) xs)) ∧ Below w.heap.size w w' := by
  have hu1 := hu
  obtain ⟨A, c, rfl, _⟩ := hu1
  have HC := Lib.hid (indexFuncL_any _ xs w hu)
  obtain ⟨z, hz⟩ : ∃ z, fidx (fun x => x != 0) xs = z := ⟨_, rfl⟩
  rw [hz] at HC ⊢
  clear hu hz
  go_enter Tryz.func111, Tryz.ntmps111
  go_wp2_with fail
  refine HC.out.mono ?_; rintro e w1 ⟨rfl, hb1⟩
  go_wp2
  go_ret
  exact ⟨rfl, hb1⟩
/-- the leading column of a reduced row -/
theorem lead_row {c b : Nat} {g : Nat → Int} (hb : b < c) (h0 : ∀ t, t < b → g t = 0) (h1 : g b ≠ 0) : fidx (fun x => x != 0) (rowF c g) = (b : Int) := by
  refine fidx_some (rowF_get g hb) (by simpa using h1) fun y hy => ?_
  obtain ⟨i, hi⟩ := List.mem_iff_getElem?.1 hy
  rw [List.getElem?_take] at hi
  split at hi
  · rename_i hib
    rw [rowF_get g (by omega)] at hi
    injection hi with hi
    rw [← hi, h0 i hib]; rfl
  · cases hi
end Go.Proofs.YtaefpblpfjhgoaaGreat

/- The program's leadings and rest. -/
namespace Go.Proofs.YtaefpblpfjhgoaaGreat
set_option linter.unusedVariables false
set_option linter.unusedSimpArgs false
open Go.RowKit

/-- the leading columns of rows -/
def Leads (n c : Nat) (g : Nat → Nat → Int) (ps : List Int) : Prop := ps.length = n ∧ ∀ k, k < n → ∃ b : Nat, ps[k]? = some (b : Int) ∧ b < c ∧ fidx (fun x => x != 0) (rowF c (g k)) = (b : Int)
theorem leads_rd {p : Int} {r c : Nat} {f : Nat → Nat → Int} (hp : isFld p = true) (hp2 : 2 ≤ p) (hf : InF p r c f) : Leads (rdTo p r f c).2.length c (rdTo p r f c).1 (rdTo p r f c).2 := by
  refine ⟨rfl, fun k hk => ?_⟩
  obtain ⟨b, h1, h2, h3⟩ := (rd_to hp hp2 hf c (Nat.le_refl _)).pos k hk
  have hl := (rdTo_len p r f c).1
  exact ⟨b, h1, h2, lead_row h2 (rdTo_lead hp hp2 hf c (Nat.le_refl _) k b h1) (by rw [h3 k (by omega), if_pos rfl]; decide)⟩
set_option maxHeartbeats 1600000 in
theorem leadings_any (n c : Nat) (g : Nat → Nat → Int) (ps : List Int) (z : Int) (u : Value) (w0 : World) (hn : n ≤ 1000) (hc : c ≤ 1000) (hu : SlII w0 w0.heap.size u (rowsF n c g)) (hps : Leads n c g ps) :
    Calls Tryz.prog 83 #[.agg #[.int .i64 z, u]] w0 fun e w' => ∃ v, e = .returned v ∧ IntsO w' w0.heap.size w'.heap.size v ps ∧ Below w0.heap.size w0 w' := by
  have hu1 := hu
  obtain ⟨UA, uc, rfl, _⟩ := hu1
  rw [rowsF_length] at hu ⊢
  obtain ⟨W, hW⟩ : ∃ W, W = w0.alloc (.cells #[.int .i64 z, .slice UA n uc] 59) := ⟨_, rfl⟩
  have g0 : Below w0.heap.size w0 W := by rw [hW]; exact below_alloc _ _
  have kB : Blk W w0.heap.size 59 #[.int .i64 z, .slice UA n uc] := by rw [hW]; exact Blk.new _ _ _
  have HU := Lib.hid (SlII.next g0 hu)
  have HL := Lib.hid hps.1
  have HP := Lib.hid hps.2
  have c1 := kB.cell' (i := 1) rfl
  clear hu hps
  go_enter Tryz.func83, Tryz.ntmps83
  go_wp2
  rw [← hW]; clear hW
  go_wp2
  go_loopw [3, 9] (fun out i wr => ∃ k : Nat, k ≤ n ∧ i = .int .i64 k ∧ OwnI wr W.heap.size out (ps.take k) ∧ Below W.heap.size W wr) (fun _ i _ => n - (intOf i).toNat)
  case atStart => exact ⟨0, Nat.zero_le _, rfl, OwnI.nil _ _, Below.refl _ _⟩
  case round =>
    clear c1
    obtain ⟨k, hk, rfl, ho, hb⟩ := hrel
    have sb := hb.size
    by_cases hlt : k < n
    · obtain ⟨bb, oo, lr, A', c', eK, hbb, HXL, r1, hrow⟩ := SlII.at_ (k := k) (xs := rowsF n c g) (by rw [rowsF_length]; exact HU.out) (by rw [rowsF_length]; exact hlt)
      subst eK
      have hlr := HXL.out
      rw [rowsF_get _ hlt] at hlr
      injection hlr with hlr
      subst hlr
      rw [rowF_length] at r1 hrow
      obtain ⟨b, hb1, hb2, hb3⟩ := HP.out k hlt
      have r1' := bcell hb hbb r1
      have HRW := Lib.hid (SlI.next hb hrow)
      have HB3 := Lib.hid hb3
      have HTK := Lib.hid (take_snoc hb1)
      obtain ⟨OA, oc, eo, _, _⟩ := ho.form
      have hlen : (ps.take k).length = k := by rw [List.length_take, HL.out]; omega
      rw [hlen] at eo
      subst eo
      have HO := Lib.hid ho
      have HB := Lib.hid hb
      clear hrow r1 hb1 hb3 ho hb HXL
      go_wp2_with fail
      refine (leading_any _ (rowF c (g k)) _ HRW.out).mono ?_; rintro e w1 ⟨rfl, hb1⟩
      rw [HB3.out]
      have ho1 := HO.out.below hb1
      have hB1 := HB.out.trans (hb1.mono sb)
      have s1 := hb1.size
      have HO1 := Lib.hid ho1
      have HB1 := Lib.hid hB1
      have hlo := ho1.lt
      clear r1' ho1 hB1 hb1
      (go_wp2_with (at_builtin; refine Hold.stop ?_)); unfold Hold
      obtain ⟨X, hX⟩ : ∃ X, X = w1.alloc (.cells #[.int .i64 (b : Int)] 3) := ⟨_, rfl⟩
      have gn : Below w1.heap.size w1 X := by rw [hX]; exact below_alloc _ _
      have h1x : SlI X X.heap.size (.slice (some ⟨w1.heap.size, 0, none⟩) 1 1) [(b : Int)] := by rw [hX]; exact SlI.one _ _ _ (by simp only [I64]; omega)
      have ho3 := (HO1.out).below gn
      have gns := gn.size
      rw [← hX]
      clear hX
      refine wpList_appI rfl (.tmp 13) (.tmp 16) rfl W.heap.size X.heap.size _ _ rfl ho3 _ 1 1 [(b : Int)] rfl rfl h1x (by simp; omega) (by omega) ?_
      intro v' w' h1 h2 h3
      rw [← HTK.out] at h1
      have hbX := below_grown h2 (B := W.heap.size) (fun k hk => (hlo k hk).1) (by omega)
      have H1 := Lib.hid h1
      have G1 := Lib.hid ((HB1.out).trans ((gn.mono (by omega)).trans hbX))
      clear h1 h2 h3 hbX gn ho3 h1x hlo
      go_wp2
      go_roundw
      case rel => exact ⟨k + 1, by omega, by go_num, H1.out, G1.out⟩
      case measure => simp [intOf]; omega
    · obtain rfl : k = n := by omega
      rw [List.take_of_length_le (by have := HL.out; omega)] at ho
      have HO := Lib.hid (IntsO.of_own ho)
      have GF := Lib.hid (bthen g0 hb)
      have s0 := g0.size
      clear ho hb
      go_wp2
      go_ret
      exact ⟨_, rfl, HO.out.wider s0 (Nat.le_refl _), GF.out⟩
end Go.Proofs.YtaefpblpfjhgoaaGreat

/- The program's rest of a unit vector. -/
namespace Go.Proofs.YtaefpblpfjhgoaaGreat
set_option linter.unusedVariables false
set_option linter.unusedSimpArgs false
open Go.RowKit

theorem rsO_rng {p : Int} (hp2 : 2 ≤ p) (g : Nat → Nat → Int) (ps : List Int) (j : Nat) : ∀ n t, 0 ≤ rsO p g ps j n t ∧ rsO p g ps j n t ≤ p - 1
  | 0, t => by simp only [rsO]; split <;> omega
  | n + 1, t => by simp only [rsO]; exact emod_rng hp2
set_option maxHeartbeats 1600000 in
theorem rest_any (p : Int) (n c : Nat) (g : Nat → Nat → Int) (ps : List Int) (z : Int) (u v : Value) (j : Nat) (w0 : World) (hp : 2 ≤ p ∧ p ≤ 5) (hn : n ≤ 1000) (hc : c ≤ 1000) (hu : SlII w0 w0.heap.size u (rowsF n c g)) (hg : InF p n c g) (hps : Leads n c g ps)
    (hv : SlI w0 w0.heap.size v (rowF c fun t => if t = j then 1 else 0)) :
    Calls Tryz.prog 86 #[.agg #[.int .i64 z, u], .int .i64 p, v] w0 fun e w' => ∃ v, e = .returned v ∧ IntsO w' w0.heap.size w'.heap.size v (rowF c (rsO p g ps j n)) ∧ Below w0.heap.size w0 w' := by
  have hu1 := hu
  obtain ⟨UA, uc, rfl, _⟩ := hu1
  have hv1 := hv
  obtain ⟨VA, vc, rfl, _⟩ := hv1
  rw [rowsF_length] at hu ⊢
  rw [rowF_length] at hv ⊢
  obtain ⟨W, hW⟩ : ∃ W, W = w0.alloc (.cells #[.int .i64 z, .slice UA n uc] 59) := ⟨_, rfl⟩
  have g0 : Below w0.heap.size w0 W := by rw [hW]; exact below_alloc _ _
  have kB : Blk W w0.heap.size 59 #[.int .i64 z, .slice UA n uc] := by rw [hW]; exact Blk.new _ _ _
  have HU := Lib.hid (SlII.next g0 hu)
  have HV := Lib.hid (SlI.next g0 hv)
  have HP := Lib.hid hps.2
  have HG := Lib.hid hg
  clear hu hps hv hg
  go_enter Tryz.func86, Tryz.ntmps86
  go_wp2_with fail
  rw [← hW]; clear hW
  refine (clone_own _ (rowF c fun t => if t = j then 1 else 0) _ HV.out).mono ?_; rintro e w1 ⟨v1, rfl, hO1, hb1⟩
  obtain ⟨OA, oc, eo⟩ := hO1.form
  rw [rowF_length] at eo
  subst eo
  have k1 := kB.call hb1
  have c1 := k1.cell' (i := 1) rfl
  have s1 := hb1.size
  have hO1' : IntsO w1 W.heap.size w1.heap.size (.slice OA c oc) (rowF c (rsO p g ps j 0)) := hO1
  have s0 := g0.size
  clear hO1
  go_wp2
  clear c1
  go_loopw [15] (fun i wr => ∃ k : Nat, k ≤ n ∧ i = .int .i64 k ∧ IntsO wr W.heap.size w1.heap.size (.slice OA c oc) (rowF c (rsO p g ps j k)) ∧ Below W.heap.size W wr ∧ w1.heap.size ≤ wr.heap.size) (fun i _ => n - (intOf i).toNat)
  case atStart => exact ⟨0, Nat.zero_le _, rfl, hO1', hb1, Nat.le_refl _⟩
  case round =>
    clear hO1' hb1
    obtain ⟨k, hk, rfl, ho, hb, hs⟩ := hrel
    have sb := hb.size
    by_cases hlt : k < n
    · obtain ⟨bb, oo, lr, A', c', eK, hbb, HXL, r1, hrow⟩ := SlII.at_ (k := k) (xs := rowsF n c g) (by rw [rowsF_length]; exact HU.out) (by rw [rowsF_length]; exact hlt)
      subst eK
      have hlr := HXL.out
      rw [rowsF_get _ hlt] at hlr
      injection hlr with hlr
      subst hlr
      rw [rowF_length] at r1 hrow
      obtain ⟨b, hb1, hb2, hb3⟩ := HP.out k hlt
      have r1' := bcell hb hbb r1
      have HROW := Lib.hid hrow
      have HRW := Lib.hid (SlI.next hb hrow)
      have HB3 := Lib.hid hb3
      have HB1 := Lib.hid hb1
      have HO := Lib.hid ho
      have HB := Lib.hid hb
      clear hrow r1 hb1 hb3 ho hb HXL
      go_wp2_with fail
      refine (leading_any _ (rowF c (g k)) _ HRW.out).mono ?_; rintro e w2 ⟨rfl, hb2'⟩
      rw [HB3.out]
      have ho2 := HO.out.below hb2'
      have hB2 := HB.out.trans (hb2'.mono sb)
      have s2 := hb2'.size
      obtain ⟨go, co, eo, hg1, hg2, _⟩ := ho2.at_ (by rw [rowF_length]; omega)
      simp only [Value.slice.injEq] at eo
      obtain ⟨eo, eo2, eo3⟩ := eo
      clear eo2 eo3
      subst eo
      have oc1 := (ho2.1.cellG (j := b) (by rw [rowF_length]; exact hb2)).1
      rw [rowF_getD _ hb2] at oc1
      obtain ⟨x, hx⟩ : ∃ x, rsO p g ps j k b = x := ⟨_, rfl⟩
      have hxr := rsO_rng hp.1 g ps j k b
      rw [hx] at oc1 hxr
      have HX := Lib.hid hx
      have hcap : c ≤ oc ∧ oc ≤ 9223372036854775807 := by
        obtain ⟨_, _, e, h1, h2⟩ := ho2.1.form
        rw [rowF_length] at e h1
        injection e with _ _ e3
        subst e3
        exact ⟨h1, h2⟩
      have HO2 := Lib.hid ho2
      have HB2 := Lib.hid hB2
      clear r1' ho2 hB2 hb2' hx
      go_wp2_with fail
      refine (addMultiple_own p (p - x) go 0 c c oc oc W.heap.size w1.heap.size (rsO p g ps j k) (g k) _ _ hp (by omega) HO2.out ⟨hg1, hg2⟩ (by omega) (by omega) hcap (by omega) (SlI.more (Nat.le_refl _) (SlI.below HB2.out HROW.out)) (fun i hi => by have := rsO_rng hp.1 g ps j k i; omega) (fun i hi => by have := HG.out k i hlt hi; omega)).mono ?_; rintro e w3 ⟨rfl, ho3, hch, hsz⟩
      have hst : rowF c (amF p (p - x) 0 c (rsO p g ps j k) (g k)) = rowF c (rsO p g ps j (k + 1)) := rowF_congr fun t ht => by
        have hb1 := HB1.out
        rw [rsO, List.getD_eq_getElem?_getD, hb1, Option.getD_some, Int.toNat_natCast, HX.out]
        simp [amF, ht]
      rw [hst] at ho3
      have HO3 := Lib.hid ho3
      have HB3' := Lib.hid (HB2.out.trans (hch.below (Nat.le_refl _) (by omega)))
      have hs3 : w1.heap.size ≤ w3.heap.size := by omega
      clear oc1 ho3 hch hst hsz
      go_wp2
      go_roundw
      case rel => exact ⟨k + 1, by omega, by go_num, HO3.out, HB3'.out, hs3⟩
      case measure => simp [intOf]; omega
    · obtain rfl : k = n := by omega
      have HO := Lib.hid ho
      have GF := Lib.hid (bthen g0 hb)
      clear ho hb
      go_wp2
      go_ret
      exact ⟨_, rfl, HO.out.wider s0 hs, GF.out⟩
end Go.Proofs.YtaefpblpfjhgoaaGreat

/- The program's freeColumns and kernel. -/
namespace Go.Proofs.YtaefpblpfjhgoaaGreat
set_option linter.unusedVariables false
set_option linter.unusedSimpArgs false
open Go.RowKit

set_option maxHeartbeats 1600000 in
theorem freeColumns_any (c : Nat) (u : Value) (l : List Int) (w0 : World) (hc : c ≤ 1000) (hu : SlI w0 w0.heap.size u l) :
    Calls Tryz.prog 82 #[.int .i64 c, u] w0 fun e w' => ∃ v, e = .returned v ∧ IntsO w' w0.heap.size w'.heap.size v (freeV l c) ∧ Below w0.heap.size w0 w' := by
  have hu1 := hu
  obtain ⟨A, ac, rfl, _⟩ := hu1
  have HU := Lib.hid hu
  clear hu
  obtain ⟨ll, hll⟩ : ∃ n, l.length = n := ⟨_, rfl⟩
  rw [hll] at HU ⊢
  clear hll
  go_enter Tryz.func82, Tryz.ntmps82
  go_wp2
  go_loopw [5, 8] (fun out i wr => ∃ k : Nat, k ≤ c ∧ i = .int .i64 k ∧ OwnI wr w0.heap.size out (freeV l k) ∧ Below w0.heap.size w0 wr) (fun _ i _ => c - (intOf i).toNat)
  case atStart => exact ⟨0, Nat.zero_le _, rfl, OwnI.nil _ _, Below.refl _ _⟩
  case round =>
    obtain ⟨k, hk, rfl, ho, hb⟩ := hrel
    have s0 := hb.size
    by_cases hlt : k < c
    · obtain ⟨OA, oc, rfl, _, _⟩ := ho.form
      go_wp2_with fail
      refine (contains_any _ l k _ (SlI.more s0 (SlI.below hb HU.out))).mono ?_; rintro e w1 ⟨rfl, hww⟩
      replace hww := hww.symm
      subst hww
      rcases hd : decide ((k : Int) ∈ l) with _ | _
      · have HN := Lib.hid (freeV_yes hd)
        have hfl := freeV_length l k
        have HO := Lib.hid ho
        have HB := Lib.hid hb
        have hlo2 := ho.lt
        clear hd ho hb
        (go_wp2_with (at_builtin; refine Hold.stop ?_)); unfold Hold
        obtain ⟨X, hX⟩ : ∃ X, X = wr.alloc (.cells #[.int .i64 (k : Int)] 3) := ⟨_, rfl⟩
        have gn : Below wr.heap.size wr X := by rw [hX]; exact below_alloc _ _
        have h1x : SlI X X.heap.size (.slice (some ⟨wr.heap.size, 0, none⟩) 1 1) [(k : Int)] := by rw [hX]; exact SlI.one _ _ _ (by simp only [I64]; omega)
        have ho3 := (HO.out).below gn
        have gns := gn.size
        rw [← hX]
        clear hX
        refine wpList_appI rfl (.tmp 15) (.tmp 17) rfl w0.heap.size X.heap.size _ _ rfl ho3 _ 1 1 [(k : Int)] rfl rfl h1x (by simp; omega) (by omega) ?_
        intro v' w' h1 h2 h3
        rw [← HN.out] at h1
        have hbX := below_grown h2 (B := w0.heap.size) (fun k hk => (hlo2 k hk).1) (by omega)
        have H1 := Lib.hid h1
        have G1 := Lib.hid ((HB.out).trans ((gn.mono s0).trans hbX))
        clear h1 h2 h3 hbX gn ho3 h1x
        go_wp2
        go_roundw
        case rel => exact ⟨k + 1, by omega, by go_num, H1.out, G1.out⟩
        case measure => simp [intOf]; omega
      · have HN := Lib.hid (freeV_no hd)
        have HO := Lib.hid ho
        have HB := Lib.hid hb
        clear hd ho hb
        go_wp2
        go_roundw
        case rel => exact ⟨k + 1, by omega, by go_num, by rw [HN.out]; exact HO.out, HB.out⟩
        case measure => simp [intOf]; omega
    · obtain rfl : k = c := by omega
      go_wp2
      go_ret
      exact ⟨_, rfl, IntsO.of_own ho, hb⟩
end Go.Proofs.YtaefpblpfjhgoaaGreat

/- The program's kernel. -/
namespace Go.Proofs.YtaefpblpfjhgoaaGreat
set_option linter.unusedVariables false
set_option linter.unusedSimpArgs false
open Go.RowKit

theorem SlI.atM {w : World} {B n c : Nat} {A : Option Addr} {xs : List Int} {k : Nat} (h : SlI w B (.slice A n c) xs) (hn : xs.length = n) (hk : k < n) :
    ∃ b o x, A = some ⟨b, o, none⟩ ∧ b < B ∧ Hid (xs[k]? = some x) ∧ w.cell? ⟨b, o + k, none⟩ = some (.int .i64 x) ∧ -9223372036854775808 ≤ x ∧ x ≤ 9223372036854775807 := by
  subst hn
  exact SlI.at_ h hk
theorem rd_ps {p : Int} {r c : Nat} {f : Nat → Nat → Int} (hp : isFld p = true) (hp2 : 2 ≤ p) (hf : InF p r c f) : ∀ (j : Nat) (x : Int), (rdTo p r f c).2[j]? = some x → ∃ b : Nat, x = (b : Int) ∧ b < c := by
  intro j x hx
  obtain ⟨b, h1, h2, _⟩ := (rd_to hp hp2 hf c (Nat.le_refl _)).pos j (lt_of_some hx)
  rw [h1] at hx
  injection hx with hx
  exact ⟨b, hx.symm, h2⟩
end Go.Proofs.YtaefpblpfjhgoaaGreat

/- Sums of representations, plain: representations told by functions. -/
namespace Go.Proofs.YtaefpblpfjhgoaaGreat
set_option linter.unusedVariables false
set_option linter.unusedSimpArgs false
open Go.RowKit

def tN (q : Qv) (i : Nat) : Nat := (q.t.getD i 0).toNat
def fN (q : Qv) (i : Nat) : Nat := (q.f.getD i 0).toNat
/-- a representation told by its dimensions and its numbers -/
def rpF (p : Int) (q : Qv) (D : Nat → Nat) (E : Nat → Nat → Nat → Int) : Rp :=
  ⟨p, q, rowF q.v.toNat fun v => (D v : Int), msF q.f.length fun i => mxF (D (tN q i)) (D (fN q i)) (E i)⟩
/-- the numbers of a sum -/
def dsE (r c : Nat) (e g : Nat → Nat → Int) : Nat → Nat → Int := blF r (bsF c e fun _ _ => 0) (bsF c (fun _ _ => 0) g)
def dsF (q : Qv) (D : Nat → Nat) (E G : Nat → Nat → Nat → Int) (i : Nat) : Nat → Nat → Int := dsE (D (tN q i)) (D (fN q i)) (E i) (G i)
def ivN (a b : Nat) (v : Nat) : Nat := if a ≤ v ∧ v < b + 1 then 1 else 0
end Go.Proofs.YtaefpblpfjhgoaaGreat

/- The reference's l3Block. -/
namespace Go.Proofs.YtaefpblpfjhgoaaGreat
set_option linter.unusedVariables false
set_option linter.unusedSimpArgs false
open Go.RowKit

def bkA (c : Nat) (f : Nat → Nat → Int) (i k a b : Nat) : Int := if a < i ∧ b < c ∨ a = i ∧ b < k then f a b else 0
def bkB (r c : Nat) (f g : Nat → Nat → Int) (i k a b : Nat) : Int := if r ≤ a ∧ c ≤ b ∧ (a < r + i ∨ a = r + i ∧ b < c + k) then g (a - r) (b - c) else bkA c f r 0 a b
end Go.Proofs.YtaefpblpfjhgoaaGreat

/- blocks: two matrices on the diagonal, one above. -/
namespace Go.Proofs.YtaefpblpfjhgoaaGreat
set_option linter.unusedVariables false
set_option linter.unusedSimpArgs false
open Go.RowKit

end Go.Proofs.YtaefpblpfjhgoaaGreat

/- The program's directSum. -/
namespace Go.Proofs.YtaefpblpfjhgoaaGreat
set_option linter.unusedVariables false
set_option linter.unusedSimpArgs false
open Go.RowKit

def addK (D D' : Nat → Nat) (k v : Nat) : Nat := if v < k then D v + D' v else D v
def dsMs (q : Qv) (D D' : Nat → Nat) (E E' : Nat → Nat → Nat → Int) (k i : Nat) : Mx := if i < k then mxF (D (tN q i) + D' (tN q i)) (D (fN q i) + D' (fN q i)) (dsF q D E E' i) else mxF (D (tN q i)) (D (fN q i)) (E i)
theorem Blk.apart {w : World} {g g' : Nat} {t t' : TypeId} {cs cs' : Array Value} (h : Blk w g t cs) (k : Blk w g' t' cs') (ht : t ≠ t') : g ≠ g' := by
  rintro rfl
  unfold Blk at h k
  rw [h] at k
  injection k with k
  injection k with _ k
  exact ht k
end Go.Proofs.YtaefpblpfjhgoaaGreat

/- Sums of intervals, plain. -/
namespace Go.Proofs.YtaefpblpfjhgoaaGreat
set_option linter.unusedVariables false
set_option linter.unusedSimpArgs false
open Go.RowKit

/-- dimensions and numbers of a sum of intervals -/
def smS (q : Qv) (L : List (Nat × Nat)) : (Nat → Nat) × (Nat → Nat → Nat → Int) :=
  L.foldl (fun S x => (fun v => S.1 v + ivN x.1 x.2 v, dsF q S.1 S.2 fun _ _ _ => 1)) (fun _ => 0, fun _ _ _ => 0)
def smR (p : Int) (q : Qv) (L : List (Nat × Nat)) : Rp := rpF p q (smS q L).1 (smS q L).2
def smO (q : Qv) (L : List (Nat × Nat)) : Bool := areDims q (rowF q.v.toNat fun v => ((smS q L).1 v : Int))
/-- the intervals of bars, one behind the other -/
def barsX (l : List Bar) : List (Nat × Nat) := l.flatMap fun b => List.replicate b.2.2.toNat (b.1.toNat, b.2.1.toNat)
def rzOk (p : Int) (q : Qv) (l : List Bar) : Bool := isFld p && (isZ q && areB (lineQ q.v) l)
def rzP (p : Int) (q : Qv) (l : List Bar) : Rp × Bool := if rzOk p q l && smO q (barsX l) then (smR p q (barsX l), true) else (rp0, false)
end Go.Proofs.YtaefpblpfjhgoaaGreat

/- The reference's DirectSum. -/
namespace Go.Proofs.YtaefpblpfjhgoaaGreat
set_option linter.unusedVariables false
set_option linter.unusedSimpArgs false
open Go.RowKit

def sumR (p : Int) (q : Qv) (D D' : Nat → Nat) (E E' : Nat → Nat → Nat → Int) : Rp := rpF p q (fun v => D v + D' v) (dsF q D E E')
def sumP (p : Int) (q : Qv) (D D' : Nat → Nat) (E E' : Nat → Nat → Nat → Int) : Rp × Bool := if isRep (sumR p q D D' E E') then (sumR p q D D' E E', true) else (rp0, false)
def sumM (q : Qv) (D D' : Nat → Nat) (E E' : Nat → Nat → Nat → Int) (i : Nat) : Mx := mxF (D (tN q i) + D' (tN q i)) (D (fN q i) + D' (fN q i)) (dsE (D (tN q i)) (D (fN q i)) (E i) (E' i))
theorem rowF_snoc (n : Nat) (g : Nat → Int) : rowF (n + 1) g = rowF n g ++ [g n] := by simp [rowF, List.range_succ]
theorem OwnI.fresh {w : World} {base g : Nat} (h : Blk w g 3 #[]) (hb : base ≤ g) : OwnI w base (.slice (some ⟨g, 0, none⟩) 0 0) [] := by
  have h1 := h.own (base := base) (n := 0) (cap := 0) (size := 1) hb (Nat.le_refl _) (by simp only [maxLen]; omega) (by simp)
  exact ⟨by simpa using h1, by simp, fun x hx => by simp at hx⟩
theorem RowO.fresh {w : World} {base g : Nat} {T : TypeId} {sz : Nat} (h : Blk w g T #[]) (hb : base ≤ g) : RowO T sz w base w.heap.size (.slice (some ⟨g, 0, none⟩) 0 0) 0 [] := by
  have h1 := h.own (base := base) (n := 0) (cap := 0) (size := sz) hb (Nat.le_refl _) (by simp only [maxLen]; omega) (by simp)
  exact ⟨by simpa using h1, fun k hk => by simp [Value.ownBlock] at hk; subst hk; exact h.lt, by omega⟩
end Go.Proofs.YtaefpblpfjhgoaaGreat

/- The program's projectionBy. -/
namespace Go.Proofs.YtaefpblpfjhgoaaGreat
set_option linter.unusedVariables false
set_option linter.unusedSimpArgs false
open Go.RowKit

def pjF (p : Int) (g : Nat → Nat → Int) (ps L : List Int) (n j a : Nat) : Int := rsO p g ps j n (L.getD a 0).toNat
set_option maxHeartbeats 3200000 in
set_option maxRecDepth 100000 in
theorem projBy_any (p : Int) (n c : Nat) (g : Nat → Nat → Int) (ps : List Int) (u : Value) (w0 : World) (hp : 2 ≤ p ∧ p ≤ 5) (hn : n ≤ 1000) (hc : c ≤ 100) (hu : SlII w0 w0.heap.size u (rowsF n c g)) (hg : InF p n c g) (hps : Leads n c g ps) :
    Calls Tryz.prog 36 #[.int .i64 p, .agg #[.int .i64 c, u]] w0 fun e w' => ∃ v, e = .returned v ∧ MxO w' w0.heap.size w'.heap.size v (mxF (freeV ps c).length c (fun a j => pjF p g ps (freeV ps c) n j a)) ∧ Below w0.heap.size w0 w' := by
  have hu1 := hu
  obtain ⟨UA, uc, rfl, _⟩ := hu1
  rw [rowsF_length] at hu ⊢
  obtain ⟨V, hV⟩ : ∃ z, w0.alloc (.cells #[.int .i64 c, .slice UA n uc] 59) = z := ⟨_, rfl⟩
  obtain ⟨W, hW⟩ : ∃ z, V.alloc (.cells #[.int .i64 0, .int .i64 0, .slice none 0 0] 50) = z := ⟨_, rfl⟩
  have gV : Below w0.heap.size w0 V := by rw [← hV]; exact below_alloc _ _
  have sV : V.heap.size = w0.heap.size + 1 := by rw [← hV]; simp
  have kV : Blk V w0.heap.size 59 #[.int .i64 c, .slice UA n uc] := by rw [← hV]; exact Blk.new _ _ _
  have gW : Below V.heap.size V W := by rw [← hW]; exact below_alloc _ _
  have sW : W.heap.size = V.heap.size + 1 := by rw [← hW]; simp
  have kM : Blk W V.heap.size 50 #[.int .i64 0, .int .i64 0, .slice none 0 0] := by rw [← hW]; exact Blk.new _ _ _
  rw [sV] at kM
  have kB := kV.call gW
  have g0 := gV.trans (gW.mono (by omega))
  have HU := Lib.hid (SlII.next g0 hu)
  have HP := Lib.hid hps
  have HG := Lib.hid hg
  have sW2 : Hid (W.heap.size = w0.heap.size + 2) := by show _ = _; omega
  clear hu hps hg gV gW kV
  go_enter Tryz.func36, Tryz.ntmps36
  go_wp2_with fail
  clear hV hW sV sW
  refine wp_region_net (by kernel_rfl) [.eq (.pointer (some ⟨w0.heap.size, 0, none⟩)), .eq (.int .i64 c), .eq (.agg #[.int .i64 c, .slice UA n uc]), rel 3 (fun u lo hi w => IntsO w lo hi u ps), rel 4 (fun u lo hi w => IntsO w lo hi u (freeV ps c)), .rel (fun x w => IntsO w (x.lo 4) (x.hi 4) (x.v 5) (freeV ps c))] [[], [0], [], [2], [0, 1, 2, 3], [0, 1, 2, 3, 4]] 6 (by kernel_rfl) ⟨trivial, trivial, trivial, rel_stable (fun u lo hi w w' h hb => h.below hb), rel_stable (fun u lo hi w w' h hb => h.below hb), fun x w w' h hb => h.below hb, trivial⟩ ⟨?_, ?_, ?_, ?_, ?_, ?_, trivial⟩ ?_
  · intro x w hb hk Q' hQ
    clear hk
    simp only [netAct, dstAt, List.getElem?_toArray, List.getElem?_cons_zero, List.getElem?_cons_succ, Option.bind_some, Act.put, List.setIfInBounds_toArray, List.set_cons_zero, List.set_cons_succ] at hQ ⊢
    go_wp2
    exact hQ (.pointer (some ⟨w0.heap.size, 0, none⟩)) _ (Below.refl _ _) rfl
  · intro x w hb hk Q' hQ
    have h0 : x.v 0 = .pointer (some ⟨w0.heap.size, 0, none⟩) := (hk 0 (by decide)).1
    clear hk
    simp only [netAct, dstAt, List.getElem?_toArray, List.getElem?_cons_zero, List.getElem?_cons_succ, Option.bind_some, Act.put, List.setIfInBounds_toArray, List.set_cons_zero, List.set_cons_succ] at hQ ⊢
    simp only [h0] at hQ ⊢
    clear h0
    have z0 := (kB.call hb).cell' (i := 0) rfl
    go_wp2
    exact hQ (.int .i64 c) _ (Below.refl _ _) rfl
  · intro x w hb hk Q' hQ
    clear hk
    simp only [netAct, dstAt, List.getElem?_toArray, List.getElem?_cons_zero, List.getElem?_cons_succ, Option.bind_some, Act.put, List.setIfInBounds_toArray, List.set_cons_zero, List.set_cons_succ] at hQ ⊢
    have z0 := (kB.call hb).cell' (i := 0) rfl
    have z1 := (kB.call hb).cell' (i := 1) rfl
    go_wp2
    exact hQ (.agg #[.int .i64 c, .slice UA n uc]) _ (Below.refl _ _) rfl
  · intro x w hb hk Q' hQ
    have h2 : x.v 2 = .agg #[.int .i64 c, .slice UA n uc] := (hk 2 (by decide)).1
    clear hk
    simp only [netAct, dstAt, List.getElem?_toArray, List.getElem?_cons_zero, List.getElem?_cons_succ, Option.bind_some, Act.put, List.setIfInBounds_toArray, List.set_cons_zero, List.set_cons_succ] at hQ ⊢
    simp only [h2] at hQ ⊢
    clear h2
    have HX := Lib.hid (SlII.next hb HU.out)
    go_wp2_with fail
    have hq := leadings_any n c g ps c (.slice UA n uc) w hn (by omega) (by have := HX.out; exact this) HP.out
    refine hq.mono ?_; rintro e w5 ⟨v5, rfl, hO5, hb5⟩
    go_wp2
    exact hQ _ _ hb5 hO5
  · intro x w hb hk Q' hQ
    have h0 : x.v 0 = .pointer (some ⟨w0.heap.size, 0, none⟩) := (hk 0 (by decide)).1
    have h1 : x.v 1 = .int .i64 c := (hk 1 (by decide)).1
    have h2 : x.v 2 = .agg #[.int .i64 c, .slice UA n uc] := (hk 2 (by decide)).1
    have h3 : IntsO w (x.lo 3) (x.hi 3) (x.v 3) ps := (hk 3 (by decide)).1
    have s3 := (hk 3 (by decide)).2
    clear hk
    simp only [netAct, dstAt, List.getElem?_toArray, List.getElem?_cons_zero, List.getElem?_cons_succ, Option.bind_some, Act.put, List.setIfInBounds_toArray, List.set_cons_zero, List.set_cons_succ] at hQ ⊢
    simp only [h0, h1, h2] at hQ ⊢
    clear h0 h1 h2
    have H3 := Lib.hid h3.rd
    go_wp2_with fail
    refine (freeColumns_any c _ ps _ (by omega) H3.out).mono ?_; rintro e w5 ⟨v5, rfl, hO5, hb5⟩
    go_wp2
    exact hQ _ _ hb5 hO5
  · intro x w hb hk Q' hQ
    have h0 : x.v 0 = .pointer (some ⟨w0.heap.size, 0, none⟩) := (hk 0 (by decide)).1
    have h1 : x.v 1 = .int .i64 c := (hk 1 (by decide)).1
    have h2 : x.v 2 = .agg #[.int .i64 c, .slice UA n uc] := (hk 2 (by decide)).1
    have h3 : IntsO w (x.lo 3) (x.hi 3) (x.v 3) ps := (hk 3 (by decide)).1
    have h4 : IntsO w (x.lo 4) (x.hi 4) (x.v 4) (freeV ps c) := (hk 4 (by decide)).1
    have s3 := (hk 3 (by decide)).2
    have s4 := (hk 4 (by decide)).2
    clear hk
    simp only [netAct, dstAt, List.getElem?_toArray, List.getElem?_cons_zero, List.getElem?_cons_succ, Option.bind_some, Act.put, List.setIfInBounds_toArray, List.set_cons_zero, List.set_cons_succ] at hQ ⊢
    simp only [h0, h1, h2] at hQ ⊢
    clear h0 h1 h2
    have H4 := Lib.hid h4
    go_wp2
    exact hQ _ _ (Below.refl _ _) H4.out
  · intro x w hb hk hiv hdj
    have h0 : x.v 0 = .pointer (some ⟨w0.heap.size, 0, none⟩) := hk 0 (by decide)
    have h1 : x.v 1 = .int .i64 c := hk 1 (by decide)
    have h2 : x.v 2 = .agg #[.int .i64 c, .slice UA n uc] := hk 2 (by decide)
    have h3 : IntsO w (x.lo 3) (x.hi 3) (x.v 3) ps := hk 3 (by decide)
    have h4 : IntsO w (x.lo 4) (x.hi 4) (x.v 4) (freeV ps c) := hk 4 (by decide)
    have h5 : IntsO w (x.lo 4) (x.hi 4) (x.v 5) (freeV ps c) := hk 5 (by decide)
    clear hk
    simp only [netAct, dstAt, List.getElem?_toArray, List.getElem?_cons_zero, List.getElem?_cons_succ, Option.bind_some, Act.put, List.setIfInBounds_toArray, List.set_cons_zero, List.set_cons_succ]
    simp only [List.drop_succ_cons, List.drop_zero, h0, h1, h2]
    clear h0 h1 h2
    obtain ⟨FA, fc, ev⟩ := h5.form
    rw [ev] at h5 ⊢
    have HLF0 := h5.rd
    have gf0 := g0.trans (hb.mono g0.size)
    have kB1 := kB.call hb
    have kM1 := kM.call hb
    have HU1 := Lib.hid (SlII.next hb HU.out)
    have hsb := hb.size
    clear h5 h4 h3 ev kB kM hb hiv
    have hfl := freeV_length ps c
    have HFV0 := fun (j : Nat) (x : Int) (hx : (freeV ps c)[j]? = some x) => freeV_at hx
    obtain ⟨L, hL⟩ : ∃ L, freeV ps c = L := ⟨_, rfl⟩
    rw [hL] at HLF0 HFV0 hfl ⊢
    obtain ⟨K, hK⟩ : ∃ n, L.length = n := ⟨_, rfl⟩
    rw [hK] at HLF0 hfl ⊢
    have HK := Lib.hid hK
    have HLF := Lib.hid HLF0
    have HFV := Lib.hid HFV0
    have HLL := Lib.hid hL
    clear hL hK HLF0 HFV0
    have GF0 := Lib.hid gf0
    have c0 := kB1.cell' (i := 0) rfl
    clear gf0
    go_wp2_with fail
    refine (identity_any c _ (by omega)).mono ?_; rintro e w2 ⟨v2, rfl, hI, hb2⟩
    obtain ⟨MA, mc, em⟩ := hI.form
    subst em
    have HI := Lib.hid hI.rd
    have hw2 := hb2.size
    clear hI c0
    go_wp2_with fail
    refine (rows_any _ c c idF _ HI.out (by omega) (by omega)).mono ?_; rintro e w3 ⟨v3, rfl, hR, hb3⟩
    obtain ⟨RA, rc, er, _⟩ := hR.form2
    rw [rowsF_length] at er
    subst er
    have g13 := bthen hb2 hb3
    have s13 := g13.size
    have HR := Lib.hid hR.rd
    have HLF3 := Lib.hid (SlI.next g13 HLF.out)
    have HU3 := Lib.hid (SlII.next g13 HU1.out)
    have kB3 := kB1.call g13
    have kM3 := kM1.call g13
    have lB := kB3.lt
    have lM := kM3.lt
    have G3 := Lib.hid (GF0.out.trans (g13.mono GF0.out.size))
    clear hb2 hb3 hR g13 kB1 kM1
    go_wp2
    go_loopw [6, 23] (fun out i wr => ∃ k : Nat, k ≤ c ∧ i = .int .i64 k ∧ IntssO wr w3.heap.size wr.heap.size out (rowsF k K (pjF p g ps L n)) ∧ Below w3.heap.size w3 wr) (fun _ i _ => c - (intOf i).toNat)
    case atStart => exact ⟨0, Nat.zero_le _, rfl, by simpa [rowsF] using IntssO.nil w3 w3.heap.size w3.heap.size, Below.refl _ _⟩
    case round =>
      obtain ⟨k, hk, rfl, hO, hbr⟩ := hrel
      have sr := hbr.size
      obtain ⟨OA, oc, eo, _, _, _⟩ := hO.form2
      rw [rowsF_length] at eo
      subst eo
      by_cases hlt : k < c
      · obtain ⟨bb, oo, lr, A', c', eK, hbb, HXL, r1, hrow⟩ := SlII.at_ (k := k) (xs := rowsF c c idF) (by rw [rowsF_length]; exact HR.out) (by rw [rowsF_length]; exact hlt)
        subst eK
        have hlr := HXL.out
        rw [rowsF_get _ hlt] at hlr
        injection hlr with hlr
        subst hlr
        rw [rowF_length] at r1 hrow
        have r1' := bcell hbr hbb r1
        have HROW := Lib.hid (SlI.next hbr hrow)
        have kBr := kB3.call hbr
        have z0 := kBr.cell' (i := 0) rfl
        have z1 := kBr.cell' (i := 1) rfl
        have HUr := Lib.hid (SlII.next hbr HU3.out)
        have HO := Lib.hid hO
        have HB := Lib.hid hbr
        obtain ⟨H4, hH4⟩ : ∃ z, wr.heap.size = z := ⟨_, rfl⟩
        clear hO hbr r1 hrow HXL kBr
        go_wp2_with fail
        refine (rest_any p n c g ps c (.slice UA n uc) _ k wr hp hn (by omega) (by have := HUr.out; exact this) HG.out HP.out (by have := HROW.out; rw [show rowF c (idF k) = rowF c (fun t => if t = k then 1 else 0) from rowF_congr fun t _ => by simp [idF, eq_comm]] at this; exact this)).mono ?_; rintro e w5 ⟨v5, rfl, hO5, hb5⟩
        obtain ⟨VA, vc, ev⟩ := hO5.form
        rw [rowF_length] at ev
        subst ev
        have HV5 := Lib.hid hO5.rd
        have s5 := hb5.size
        have hB5 := HB.out.trans (hb5.mono sr)
        have hO5' := HO.out.below hb5
        rw [hH4] at hO5'
        have hH4l : H4 ≤ wr.heap.size := Nat.le_of_eq hH4.symm
        have hH4g : wr.heap.size ≤ H4 := Nat.le_of_eq hH4
        have HO5 := Lib.hid hO5'
        have HB5 := Lib.hid hB5
        clear hO5 hb5 hB5 hO5' r1' z0 z1 HO HB hH4
        go_wp2
        go_loopw [10, 33] (fun out i wr => ∃ t : Nat, t ≤ K ∧ i = .int .i64 t ∧ OwnI wr w5.heap.size out (rowF t (pjF p g ps L n k)) ∧ Below w3.heap.size w3 wr ∧ Below w5.heap.size w5 wr ∧ IntssO wr w3.heap.size H4 (.slice OA k oc) (rowsF k K (pjF p g ps L n))) (fun _ i _ => K - (intOf i).toNat)
        case atStart => exact ⟨0, Nat.zero_le _, rfl, OwnI.nil _ _, HB5.out, Below.refl _ _, HO5.out⟩
        case round =>
          clear HO5 HB5
          obtain ⟨t, ht, rfl, ho, hb, hb5, hO⟩ := hrel
          have ss := hb5.size
          by_cases htl : t < K
          · obtain ⟨QA, qc, eq, _, _⟩ := ho.form
            rw [rowF_length] at eq
            subst eq
            obtain ⟨bf, of_, x, ef, hbf, HX, f1, _⟩ := SlI.atM (k := t) HLF3.out HK.out htl
            subst ef
            obtain ⟨fk, rfl, hfk, _⟩ := HFV.out t x HX.out
            obtain ⟨bv, ov, x, ev, hbv, HXV, v1, _⟩ := SlI.atM (k := fk) HV5.out (rowF_length _ _) hfk
            subst ev
            have hxv := HXV.out
            rw [rowF_get _ hfk] at hxv
            injection hxv with hxv
            have hxr := rsO_rng hp.1 g ps k n fk
            rw [hxv] at hxr
            have HXE : Hid (x = pjF p g ps L n k t) := by
              show _ = _
              have := HX.out
              rw [pjF, List.getD_eq_getElem?_getD, this, Option.getD_some, Int.toNat_natCast, hxv]
            have z1 := bcell hb hbf f1
            have z2 := bcell hb5 hbv v1
            have HO := Lib.hid ho
            have HB := Lib.hid hb
            have HB5 := Lib.hid hb5
            have HOO := Lib.hid hO
            have hlo2 := ho.lt
            clear ho hb hb5 hO f1 v1 HXV hxv HX
            (go_wp2_with (at_builtin; refine Hold.stop ?_)); unfold Hold
            obtain ⟨X, hX⟩ : ∃ X, X = wr.alloc (.cells #[.int .i64 x] 3) := ⟨_, rfl⟩
            have gn : Below wr.heap.size wr X := by rw [hX]; exact below_alloc _ _
            have h1x : SlI X X.heap.size (.slice (some ⟨wr.heap.size, 0, none⟩) 1 1) [x] := by rw [hX]; exact SlI.one _ _ _ (by simp only [I64]; omega)
            have ho3 := (HO.out).below gn
            have gns := gn.size
            rw [← hX]
            clear hX
            refine wpList_appI rfl (.tmp 37) (.tmp 42) rfl w5.heap.size X.heap.size _ _ rfl ho3 _ 1 1 [x] rfl rfl h1x (by simp [rowF_length]; omega) (by omega) ?_
            intro v' w' h1 h2 h3
            rw [HXE.out, ← rowF_snoc] at h1
            have hbX := below_grown h2 (B := w5.heap.size) (fun k hk => (hlo2 k hk).1) (by omega)
            have H1 := Lib.hid h1
            have hg := (gn.mono ss).trans hbX
            have G1 := Lib.hid (HB.out.trans (hg.mono (by omega)))
            have G5 := Lib.hid (HB5.out.trans hg)
            have O1 := Lib.hid (HOO.out.chg (chg_belowB hg) (.inl (by omega)))
            clear h1 h2 h3 hbX hg gn ho3 h1x z1 z2
            go_wp2
            go_roundw
            case rel => exact ⟨t + 1, by omega, by go_num, H1.out, G1.out, G5.out, O1.out⟩
            case measure => simp [intOf]; omega
          · obtain rfl : t = K := by omega
            obtain ⟨QA, qc, eq, _, _⟩ := ho.form
            rw [rowF_length] at eq
            subst eq
            obtain ⟨Z, hZ⟩ : ∃ Z, wr.alloc (.cells #[.slice QA t qc] 22) = Z := ⟨_, rfl⟩
            obtain ⟨gz, hgz⟩ : ∃ z, wr.heap.size = z := ⟨_, rfl⟩
            have bZ : Below wr.heap.size wr Z := by rw [← hZ]; exact below_alloc _ _
            have kZ : Blk Z gz 22 #[.slice QA t qc] := by rw [← hZ, ← hgz]; exact Blk.new _ _ _
            have HOZ := Lib.hid (hO.below bZ)
            have HRZ := Lib.hid ((IntsO.of_own ho).below bZ)
            have HBZ := Lib.hid (hb.trans (bZ.mono (by omega)))
            have sZ := bZ.size
            have C0 := Lib.hid (kZ.cell' (i := 0) rfl)
            have hgz2 : wr.heap.size ≤ gz := Nat.le_of_eq hgz
            have hgz3 : gz ≤ wr.heap.size := Nat.le_of_eq hgz.symm
            clear ho hb hb5 hO bZ kZ
            (go_wp2_with (at_builtin; refine Hold.stop ?_)); unfold Hold
            clear hZ hgz
            refine wpList_appR (by rfl) (.tmp 45) (.tmp 47) (by rfl) w3.heap.size H4 w5.heap.size wr.heap.size _ _ _ (by rfl) HOZ.out (some ⟨gz, 0, none⟩) 1 _ (by rfl) ⟨_, _, rfl, C0.out⟩ HRZ.out (by omega) (by omega) (by omega) (by rw [rowsF_length]; omega) (by omega) (by omega) ?_
            intro v' w' h1 h2 h3
            have hsn := rowsF_succ k t (pjF p g ps L n)
            rw [← hsn] at h1
            have H1 := Lib.hid h1
            have H2 := Lib.hid (HBZ.out.trans h2)
            clear h1 h2 h3 hsn
            go_wp2
            go_roundw
            case rel => exact ⟨k + 1, by omega, by go_num, H1.out, H2.out⟩
            case measure => simp [intOf]; omega
      · obtain rfl : k = c := by omega
        have HO := Lib.hid hO.rd
        have kMr := kM3.call hbr
        have G4 := Lib.hid (bthen G3.out hbr)
        clear hO hbr
        go_wp2_with fail
        refine (fromColumns_any _ K k (fun a j => pjF p g ps L n j a) wr (by have := HO.out; exact this) (by omega) (by omega)).mono ?_; rintro e w7 ⟨v7, rfl, hM, hb7⟩
        have k7 := kMr.call hb7
        have gf := bthen G4.out hb7
        obtain ⟨A7, a7, e7⟩ := hM.form
        subst e7
        simp only [mxF, flat_length] at hM ⊢
        obtain ⟨ML, hML⟩ : ∃ z, K * k = z := ⟨_, rfl⟩
        rw [hML] at hM ⊢
        have HML := Lib.hid hML
        have p0 := k7.cell' (i := 0) rfl
        have p1 := k7.cell' (i := 1) rfl
        have p2 := k7.cell' (i := 2) rfl
        have fr := k7.frozen
        have h2 := chg3 w7 (w0.heap.size + 1) (.int .i64 (K : Int)) (.int .i64 k) (.slice A7 ML a7)
        have gs := gf.size
        have sz := sW2.out
        have OF := Lib.hid ((hM.chg h2 (.inr (by omega))).wider (lo' := w0.heap.size) (hi' := w7.heap.size) (by omega) (Nat.le_refl _))
        have GF := Lib.hid (gf.trans (h2.below (by omega) gs))
        clear hM gf h2 hb7 k7 kMr hML sz
        go_wp2
        exact bodyPost_ret (v := .agg #[.int .i64 (K : Int), .int .i64 k, .slice A7 ML a7]) (by simp [results, go_sem, p0, p1, p2]) rfl ⟨_, rfl, by rw [HLL.out, HK.out]; have := OF.out; simpa [mxF] using this, by have := GF.out; simpa using this⟩
end Go.Proofs.YtaefpblpfjhgoaaGreat

/- The program's span. -/
namespace Go.Proofs.YtaefpblpfjhgoaaGreat
set_option linter.unusedVariables false
set_option linter.unusedSimpArgs false
open Go.RowKit

set_option maxHeartbeats 3200000 in
set_option maxRecDepth 100000 in
theorem span_any (p : Int) (u : Value) (r c : Nat) (f : Nat → Nat → Int) (w0 : World) (hp : isFld p = true) (hr : r ≤ 1000) (hc : c ≤ 1000) (hu : SlII w0 w0.heap.size u (rowsF r c f)) (hf : InF p r c f) :
    Calls Tryz.prog 33 #[.int .i64 p, .int .i64 c, u] w0 fun e w' => ∃ v, e = .returned (.agg #[.int .i64 c, v]) ∧ IntssO w' w0.heap.size w'.heap.size v (rowsF (rdTo p r f c).2.length c (rdTo p r f c).1) ∧ Below w0.heap.size w0 w' := by
  have hpr := isFld_r hp
  have hu1 := hu
  obtain ⟨UA, uc, rfl, _⟩ := hu1
  rw [rowsF_length] at hu ⊢
  obtain ⟨W, hW⟩ : ∃ W, W = w0.alloc (.cells #[.int .i64 0, .slice none 0 0] 59) := ⟨_, rfl⟩
  have g0 : Below w0.heap.size w0 W := by rw [hW]; exact below_alloc _ _
  have kR : Blk W w0.heap.size 59 #[.int .i64 0, .slice none 0 0] := by rw [hW]; exact Blk.new _ _ _
  have sW : W.heap.size = w0.heap.size + 1 := by rw [hW]; simp
  have SW := Lib.hid sW
  have HU := Lib.hid (SlII.next g0 hu)
  have HF := Lib.hid hf
  have HP := Lib.hid hp
  clear hu hf hp sW
  go_enter Tryz.func33, Tryz.ntmps33
  go_wp2_with fail
  rw [← hW]; clear hW
  refine (fromRows_any _ c r f _ HU.out hr hc).mono ?_; rintro e w1 ⟨v1, rfl, hM, hb1⟩
  obtain ⟨A1, a1, e1⟩ := hM.form
  simp only [mxF] at e1
  have HM := Lib.hid hM.rd
  rw [e1] at HM ⊢
  have g1 := bthen g0 hb1
  have kR1 := kR.call hb1
  clear hM e1 hb1
  go_wp2_with fail
  refine (implReduce_any p _ r c f _ HP.out hr hc HM.out HF.out).mono ?_; rintro e w2 ⟨m, v, rfl, hM2, hI, hb2⟩
  have hpl := rdTo_len p r f c
  obtain ⟨g, hg⟩ : ∃ g, (rdTo p r f c).1 = g := ⟨_, rfl⟩
  obtain ⟨ps, hps⟩ : ∃ ps, (rdTo p r f c).2 = ps := ⟨_, rfl⟩
  rw [hg] at hM2
  rw [hps] at hI hpl
  have HG := Lib.hid hg
  have HPS := Lib.hid hps
  clear hg hps
  obtain ⟨MA, mc, em⟩ := hM2.form
  obtain ⟨PA, pc, ev⟩ := hI.form
  subst em ev
  simp only [mxF, flat_length] at hM2 ⊢
  obtain ⟨ML, hML⟩ : ∃ z, r * c = z := ⟨_, rfl⟩
  rw [hML] at hM2 ⊢
  have HML := Lib.hid hML
  obtain ⟨pn, hpn⟩ : ∃ n, ps.length = n := ⟨_, rfl⟩
  rw [hpn] at hI hpl ⊢
  have HPN := Lib.hid hpn
  clear hML hpn
  obtain ⟨W3, hW3⟩ : ∃ z, w2.alloc (.cells #[.int .i64 r, .int .i64 c, .slice MA ML mc] 50) = z := ⟨_, rfl⟩
  have ga : Below w2.heap.size w2 W3 := by rw [← hW3]; exact below_alloc _ _
  have kM : Blk W3 w2.heap.size 50 #[.int .i64 r, .int .i64 c, .slice MA ML mc] := by rw [← hW3]; exact Blk.new _ _ _
  have HM3 := Lib.hid (hM2.below ga).rd
  have g23 := bthen hb2 ga
  have G3 := Lib.hid (bthen g1 g23)
  have kR3 := kR1.call g23
  have lR := kR3.lt
  have s3 := g23.size
  have s1 := g1.size
  clear hM2 hI ga hb2 g23 g1 kR1 kR
  go_wp2
  clear hW3
  go_loopw [9, 21] (fun out i wr => ∃ k : Nat, k ≤ pn ∧ i = .int .i64 k ∧ IntssO wr W3.heap.size wr.heap.size out (rowsF k c g) ∧ Below W3.heap.size W3 wr) (fun _ i _ => pn - (intOf i).toNat)
  case atStart => exact ⟨0, Nat.zero_le _, rfl, by simpa [rowsF] using IntssO.nil W3 W3.heap.size W3.heap.size, Below.refl _ _⟩
  case round =>
    obtain ⟨k, hk, rfl, hO, hb⟩ := hrel
    have sb := hb.size
    obtain ⟨OA, oc, eo, _, _, _⟩ := hO.form2
    rw [rowsF_length] at eo
    subst eo
    by_cases hlt : k < pn
    · have kMr := kM.call hb
      have m0 := kMr.cell' (i := 0) rfl
      have m1 := kMr.cell' (i := 1) rfl
      have m2 := kMr.cell' (i := 2) rfl
      have HMr := Lib.hid (MxR.next hb HM3.out)
      have HO := Lib.hid hO
      have HB := Lib.hid hb
      clear hO hb kMr
      go_wp2_with fail
      refine (row_any _ r c k g _ HMr.out hr hc (by omega)).mono ?_; rintro e w5 ⟨v5, rfl, hS, hb5⟩
      have hS1 := hS
      obtain ⟨VA, vc, ev, _⟩ := hS1
      rw [rowF_length] at ev
      subst ev
      have HS := Lib.hid hS
      have hO5 := HO.out.below hb5
      have hB5 := HB.out.trans (hb5.mono sb)
      have s5 := hb5.size
      clear hS m0 m1 m2 hb5
      go_wp2_with fail
      refine (clone_own _ (rowF c (g k)) _ HS.out).mono ?_; rintro e w6 ⟨v6, rfl, hR, hb6⟩
      obtain ⟨RA, rc, ev⟩ := hR.form
      rw [rowF_length] at ev
      subst ev
      obtain ⟨Z, hZ⟩ : ∃ Z, w6.alloc (.cells #[.slice RA c rc] 22) = Z := ⟨_, rfl⟩
      obtain ⟨gz, hgz⟩ : ∃ z, w6.heap.size = z := ⟨_, rfl⟩
      have bZ : Below w6.heap.size w6 Z := by rw [← hZ]; exact below_alloc _ _
      have kZ : Blk Z gz 22 #[.slice RA c rc] := by rw [← hZ, ← hgz]; exact Blk.new _ _ _
      have s6 := hb6.size
      have sZ := bZ.size
      have HOZ := Lib.hid ((hO5.below hb6).below bZ)
      have HRZ := Lib.hid (hR.below bZ)
      have HBZ := Lib.hid ((hB5.trans (hb6.mono (by omega))).trans (bZ.mono (by omega)))
      have C0 := Lib.hid (kZ.cell' (i := 0) rfl)
      have hgz2 : w6.heap.size ≤ gz := Nat.le_of_eq hgz
      have hgz3 : gz ≤ w6.heap.size := Nat.le_of_eq hgz.symm
      clear hR hO5 hB5 hb6 bZ kZ
      (go_wp2_with (at_builtin; refine Hold.stop ?_)); unfold Hold
      clear hZ hgz
      refine wpList_appR (by rfl) (.tmp 24) (.tmp 29) (by rfl) W3.heap.size _ w5.heap.size w6.heap.size _ _ _ (by rfl) HOZ.out (some ⟨gz, 0, none⟩) 1 _ (by rfl) ⟨_, _, rfl, C0.out⟩ HRZ.out (by omega) (by omega) (by omega) (by rw [rowsF_length]; omega) (by omega) (by omega) ?_
      intro v' w' h1 h2 h3
      have hsn := rowsF_succ k c g
      rw [← hsn] at h1
      have H1 := Lib.hid h1
      have H2 := Lib.hid (HBZ.out.trans h2)
      clear h1 h2 h3 hsn
      go_wp2
      go_roundw
      case rel => exact ⟨k + 1, by omega, by go_num, H1.out, H2.out⟩
      case measure => simp [intOf]; omega
    · obtain rfl : k = pn := by omega
      have kz := kR3.call hb
      have fr := kz.frozen
      have z0 := kz.cell' (i := 0) rfl
      have z1 := kz.cell' (i := 1) rfl
      have gf := bthen G3.out hb
      have sz := SW.out
      have hc2 : Chg w0.heap.size (w0.heap.size + 1) wr ((wr.setCell ⟨w0.heap.size, 0, none⟩ (.int .i64 c)).setCell ⟨w0.heap.size, 1, none⟩ (.slice OA k oc)) := (chg_set (w := wr) (p := ⟨w0.heap.size, 0, none⟩) (u := .int .i64 c) (Nat.le_refl _) (Nat.lt_succ_self _)).trans (chg_set (p := ⟨w0.heap.size, 1, none⟩) (u := .slice OA k oc) (Nat.le_refl _) (Nat.lt_succ_self _))
      have OF := Lib.hid ((hO.chg hc2 (.inr (by omega))).wider (lo' := w0.heap.size) (hi' := wr.heap.size) (by omega) (Nat.le_refl _))
      have GF := Lib.hid (gf.trans (hc2.below (Nat.le_refl _) gf.size))
      clear hO hb kz gf hc2
      go_wp2
      exact bodyPost_ret (v := .agg #[.int .i64 c, .slice OA k oc]) (by simp [results, go_sem, z0, z1]) rfl ⟨_, rfl, by have := OF.out; rw [HPS.out, HG.out, HPN.out]; simpa using this, GF.out⟩
end Go.Proofs.YtaefpblpfjhgoaaGreat
