/- FnFiltrations: the law holds for every argument. Part 8 of 18 of the proof: Red1, Rank0, RankT, RTab, FltR, Det0, Kind0, FinA, FinB, RtP. No condition. -/
import Derived.Test.YtgabmemalaklbaaGreatBFiltrations7
import Derived.Laws.Bits128
import Derived.Sort.LotA
/- Elimination: the program's reduce. -/
namespace Go.Proofs.YtgabmemalaklbaaGreat
set_option linter.unusedVariables false
set_option linter.unusedSimpArgs false
open Go.RowKit

set_option maxHeartbeats 12800000 in
set_option maxRecDepth 100000 in
theorem implReduce_any (p : Int) (u : Value) (r c : Nat) (f : Nat → Nat → Int) (w0 : World) (hp : isFld p = true) (hr : r ≤ 1000) (hc : c ≤ 1000) (hu : MxR w0 w0.heap.size u (mxF r c f)) (hf : InF p r c f) :
    Calls Tryz.prog 93 #[.int .i64 p, u] w0 fun e w' => ∃ m v, e = .returned (.tuple #[m, v]) ∧ MxO w' w0.heap.size w'.heap.size m (mxF r c (rdTo p r f c).1) ∧ IntsO w' w0.heap.size w'.heap.size v (rdTo p r f c).2 ∧ Below w0.heap.size w0 w' := by
  have hpr := isFld_r hp
  have hu' := hu
  obtain ⟨UA, uc, rfl⟩ := hu.form
  simp only [mxF] at hu hu' ⊢
  rw [flat_length] at hu hu' ⊢
  obtain ⟨UL, hUL⟩ : ∃ n, r * c = n := ⟨_, rfl⟩
  rw [hUL] at hu hu' ⊢
  have HUL := Lib.hid hUL
  clear hUL hu
  obtain ⟨W, hW⟩ : ∃ W, W = (w0.alloc (.cells #[.int .i64 r, .int .i64 c, .slice UA UL uc] 62)).alloc (.cells #[.int .i64 0, .int .i64 0, .slice none 0 0] 62) := ⟨_, rfl⟩
  have g0 : Below w0.heap.size w0 W := by rw [hW]; exact ((Below.refl _ _).alloc (Nat.le_refl _) _).alloc (by simp) _
  have kB : Blk W w0.heap.size 62 #[.int .i64 r, .int .i64 c, .slice UA UL uc] := by rw [hW]; exact (Blk.new _ _ _).alloc _
  have kR : Blk W (w0.heap.size + 1) 62 #[.int .i64 0, .int .i64 0, .slice none 0 0] := by
    rw [hW]
    have := Blk.new (w0.alloc (.cells #[.int .i64 r, .int .i64 c, .slice UA UL uc] 62)) 62 #[.int .i64 0, .int .i64 0, .slice none 0 0]
    simpa only [World.size_alloc] using this
  have sz : W.heap.size = w0.heap.size + 1 + 1 := by rw [hW]; simp
  have SZ := Lib.hid sz
  have HU := Lib.hid (MxR.next g0 hu')
  have HF := Lib.hid hf
  have HP := Lib.hid hp
  have c0 := kB.cell' (i := 0) rfl
  have c1 := kB.cell' (i := 1) rfl
  have c2 := kB.cell' (i := 2) rfl
  clear hu' sz hf hp
  go_enter Tryz.func93, Tryz.ntmps93
  go_wp2_with fail
  rw [← hW]; clear hW
  refine (mxClone_any _ _ _ HU.out).mono ?_; rintro e w1 ⟨v1, rfl, hM, hb1⟩
  obtain ⟨A, cap, ev⟩ := hM.form
  subst ev
  simp only [flat_length] at hM ⊢
  obtain ⟨L, hL⟩ : ∃ n, r * c = n := ⟨_, rfl⟩
  rw [hL] at hM ⊢
  have HL := Lib.hid hL
  clear hL
  have kB1 := kB.call hb1
  have kR1 := kR.call hb1
  have g1 := bthen g0 hb1
  clear c0 c1 c2
  have c0 := kB1.cell' (i := 0) rfl
  have c1 := kB1.cell' (i := 1) rfl
  have c2 := kB1.cell' (i := 2) rfl
  have fr := kB1.frozen
  have s1 := hb1.size
  have sz := SZ.out
  obtain ⟨w2, hw2⟩ : ∃ w2, w2 = ((w1.setCell ⟨w0.heap.size, 0, none⟩ (.int .i64 r)).setCell ⟨w0.heap.size, 1, none⟩ (.int .i64 c)).setCell ⟨w0.heap.size, 2, none⟩ (.slice A L cap) := ⟨_, rfl⟩
  have hch : Chg w0.heap.size (w0.heap.size + 1) w1 w2 := by rw [hw2]; exact chg3 w1 _ _ _ _
  have kB2 : Blk w2 w0.heap.size 62 #[.int .i64 r, .int .i64 c, .slice A L cap] := by rw [hw2]; exact ((kB1.set_ 0 _).set_ 1 _).set_ 2 _
  have kR2 := kR1.chg hch (.inr (by omega))
  have g2 : Below w0.heap.size w0 w2 := g1.trans (hch.below (Nat.le_refl _) (by omega))
  have s2 := hch.size
  obtain ⟨sA, esA, hIA, _, _⟩ := hM
  simp only [Value.agg.injEq, Array.mk.injEq, List.cons.injEq, and_true, true_and] at esA
  subst esA
  have hI2 := hIA.chg hch (.inr (by omega))
  have hS0 : RS W.heap.size w2 A r c L cap w2 (rdTo p r f 0).1 (.slice none 0 0) (rdTo p r f 0).2 := by
    refine ⟨Below.refl _ _, ?_⟩
    refine ⟨fun q hq => ?_, List.pairwise_pair.2 (Classical.em _)⟩
    simp only [List.mem_cons, List.not_mem_nil, or_false] at hq
    rcases hq with rfl | rfl
    · exact hI2.wider (Nat.le_refl _) s2
    · exact ⟨OwnI.nil _ _, by simp [Value.ownBlock]⟩
  have KB := Lib.hid kB2
  have KR := Lib.hid kR2
  have G2 := Lib.hid g2
  have hWB : W.heap.size ≤ w2.heap.size := by omega
  have HB0 : Hid (w0.heap.size < W.heap.size) := by show _ < _; omega
  have HWB := Lib.hid hWB
  clear kB kB1 kR kR1 g0 g1 hIA hI2 hch kB2 kR2 g2 s1 s2 sz hb1 hWB
  go_wp2
  rw [← hw2]; clear hw2 c0 c1 c2 fr
  go_loopw [6, 18] (fun pv i wr => ∃ k : Nat, k ≤ c ∧ i = .int .i64 k ∧ RS W.heap.size w2 A r c L cap wr (rdTo p r f k).1 pv (rdTo p r f k).2) (fun _ i _ => c - (intOf i).toNat)
  case atStart => exact ⟨0, Nat.zero_le _, rfl, hS0⟩
  case round =>
    clear hS0
    obtain ⟨k, hk, rfl, S⟩ := hrel
    obtain ⟨PA, pc, ev, _, _⟩ := S.ownP.1.form
    subst ev
    have hln := rdTo_len p r f k
    have hin := inF_to hpr.1 HF.out k
    have hrs := rdTo_succ p r f k
    obtain ⟨F, hFF⟩ : ∃ F, (rdTo p r f k).1 = F := ⟨_, rfl⟩
    obtain ⟨ps, hps⟩ : ∃ ps, (rdTo p r f k).2 = ps := ⟨_, rfl⟩
    have hpm := rdTo_mem p r f k
    rw [hps] at hpm
    rw [hFF, hps] at S hrs
    rw [hps] at hln
    rw [hFF] at hin
    rw [hps]
    obtain ⟨n, hn⟩ : ∃ n, ps.length = n := ⟨_, rfl⟩
    rw [hn] at hln hrs S ⊢
    have HRS := Lib.hid hrs
    clear hrs
    have HPM := Lib.hid hpm
    have HN := Lib.hid hn
    have HIN := Lib.hid hin
    have HFF := Lib.hid hFF
    have HPS := Lib.hid hps
    clear hFF hps hn hin hpm
    by_cases hlt : k < c
    · have kb := KB.out.below (S).bel HB0.out
      have c0 := kb.cell' (i := 0) rfl
      have c1 := kb.cell' (i := 1) rfl
      have c2 := kb.cell' (i := 2) rfl
      have hSS := Lib.hid S
      clear kb
      go_wp2
      go_loopw [8] (fun i wr => ∃ a : Nat, n ≤ a ∧ a ≤ r ∧ i = .int .i64 a ∧ RS W.heap.size w2 A r c L cap wr F (.slice PA n pc) ps ∧ Hid (∀ i, n ≤ i → i < a → F i k = 0)) (fun i _ => r - (intOf i).toNat)
      case atStart => exact ⟨n, Nat.le_refl _, hln.1, rfl, S, fun i h1 h2 => by omega⟩
      case round =>
        clear c0 c1 c2 S
        obtain ⟨a, hna, har, rfl, S, hz⟩ := hrel
        have kb := KB.out.below (S).bel HB0.out
        have c0 := kb.cell' (i := 0) rfl
        have c1 := kb.cell' (i := 1) rfl
        have c2 := kb.cell' (i := 2) rfl
        by_cases hlr : a < r
        · obtain ⟨P1, _, P3⟩ := rowP hlr hlt hr hc rfl
          obtain ⟨g, eA, eL, hLc, hcb, hBg, hgw⟩ := S.addr (by omega)
          subst eA
          obtain ⟨Q, hQ⟩ : ∃ Q, Q = a * c := ⟨_, rfl⟩
          have HQ := Lib.hid hQ
          have EL := Lib.hid eL
          rw [← hQ] at P1
          rw [← eL] at P1 P3
          clear hQ eL
          go_wp2_with fail
          refine (row_in _ hlr (by omega) hr hc EL.out hLc hcb HQ.out).mono ?_; rintro e w3 ⟨rfl, hb3⟩
          have S3 := S.call HWB.out hb3
          obtain ⟨z1, _, _⟩ := S3.cellP hlr hlt HQ.out
          clear kb c0 c1 c2 S hb3
          have kb := KB.out.below (S3).bel HB0.out
          have c0 := kb.cell' (i := 0) rfl
          have c1 := kb.cell' (i := 1) rfl
          have c2 := kb.cell' (i := 2) rfl
          by_cases hz0 : F a k = 0
          · rw [hz0] at z1
            have HZ : Hid (∀ i, n ≤ i → i < a + 1 → F i k = 0) := fun i h1 h2 => by
              by_cases e : i = a
              · subst e; exact hz0
              · exact hz.out i h1 (by omega)
            clear hz0
            go_wp2
            go_roundw
            case rel => exact ⟨a + 1, by omega, by omega, by go_num, S3, HZ.out⟩
            case measure => simp [intOf]; omega
          · have hzb : (F a k == 0) = false := by simpa using hz0
            have hza := nzF_eq (f := F) (k := k) hna har hz.out (fun _ => hz0)
            have hnr : n < r := by omega
            have hane : (a : Int) ≠ r := by omega
            have HRS2 := Lib.hid (HRS.out.trans (if_pos (by rw [hza]; exact hlr)))
            have HZA := Lib.hid hza
            clear hz0 hza hz
            obtain ⟨P, hP⟩ : ∃ P, P = n * c := ⟨_, rfl⟩
            have hrp := rowP hnr hlt hr hc hP
            rw [← EL.out] at hrp
            have HPP := Lib.hid hP
            clear hP
            go_wp2_with fail
            refine (row_in _ hnr (by omega) hr hc EL.out hLc hcb HPP.out).mono ?_; rintro e w4 ⟨rfl, hb4⟩
            have S4 := S3.call HWB.out hb4
            rw [← sw_0 n a F] at S4
            clear kb c0 c1 c2 S3 hb4 hgw z1
            have kb := KB.out.below (S4).bel HB0.out
            have c0 := kb.cell' (i := 0) rfl
            have c1 := kb.cell' (i := 1) rfl
            have c2 := kb.cell' (i := 2) rfl
            go_wp2
            clear kb c0 c1 c2
            go_loopw [48] (fun i wr => ∃ j : Nat, j ≤ c ∧ i = .int .i64 j ∧ RS W.heap.size w2 (some ⟨g, 0, none⟩) r c L cap wr (swJ n a j F) (.slice PA n pc) ps) (fun i _ => c - (intOf i).toNat)
            case atStart => exact ⟨0, Nat.zero_le _, rfl, S4⟩
            case round =>
              clear S4
              obtain ⟨j, hj, rfl, S⟩ := hrel
              by_cases hljc : j < c
              · obtain ⟨a1, a2, a3⟩ := rowP hlr hljc hr hc HQ.out
                obtain ⟨b1, b2, b3⟩ := rowP hnr hljc hr hc HPP.out
                rw [← EL.out] at a1 a2 a3 b1 b2 b3
                have hst := sw_step F hnr hlr hljc
                rw [← HQ.out, ← HPP.out] at hst
                have HST := Lib.hid hst
                have hsr := S.size HWB.out
                have hSS := Lib.hid S
                clear hst S
                go_wp2
                obtain ⟨y, hy⟩ : ∃ y, y = F := ⟨_, rfl⟩
                refine wp_region_net2 (by kernel_rfl) [.eq (.slice (some ⟨g, P, none⟩) c (cap - P)), .eq (.int .i64 j), .eq (.agg #[.int .i64 r, .int .i64 c, .slice (some ⟨g, 0, none⟩) L cap]), .eq (.int .i64 a), .eq (.slice (some ⟨g, Q, none⟩) c (cap - Q)), .eq (.int .i64 j), .eq (.agg #[.int .i64 r, .int .i64 c, .slice (some ⟨g, 0, none⟩) L cap]), .eq (.int .i64 a), .eq (.slice (some ⟨g, Q, none⟩) c (cap - Q)), .eq (.int .i64 j), .eq (.pointer (some ⟨g, Q + j, none⟩)), .eq (.int .i64 (F a j)), .eq (.slice (some ⟨g, P, none⟩) c (cap - P)), .eq (.int .i64 j), .eq (.pointer (some ⟨g, P + j, none⟩)), .eq (.int .i64 (F n j)), .eq (.pointer (some ⟨g, P + j, none⟩))] [[], [], [], [], [2, 3], [], [], [], [2, 3, 4, 6, 7], [], [2, 3, 4, 6, 7, 8, 9], [2, 3, 4, 6, 7, 8, 9, 10], [], [], [12, 13], [12, 13, 14], [0, 1, 2, 3, 4, 6, 7, 8, 9, 10, 11, 12, 13, 14, 15], [0, 1, 2, 3, 4, 6, 7, 8, 9, 10, 11, 12, 13, 14, 15, 16], [0, 1, 2, 3, 4, 5, 6, 7, 8, 9, 10, 11, 12, 13, 14, 15, 16, 17], [0, 1, 2, 3, 4, 5, 6, 7, 8, 9, 10, 11, 12, 13, 14, 15, 16, 17, 18]] 17 5 [0, 1, 2, 3, 4, 6, 7, 8, 9, 10, 11, 12, 13, 14, 15, 16] (by kernel_rfl) rfl ⟨trivial, trivial, trivial, trivial, trivial, trivial, trivial, trivial, trivial, trivial, trivial, trivial, trivial, trivial, trivial, trivial, trivial, trivial⟩ ⟨?_, ?_, ?_, ?_, ?_, ?_, ?_, ?_, ?_, ?_, ?_, ?_, ?_, ?_, ?_, ?_, ?_, trivial⟩ ?_ ?_
                · intro x w hb hk Q' hQ
                  clear hk
                  simp only [netAct, dstAt, List.getElem?_toArray, List.getElem?_cons_zero, List.getElem?_cons_succ, Option.bind_some, Act.put, List.setIfInBounds_toArray, List.set_cons_zero, List.set_cons_succ] at hQ ⊢
                  go_wp2
                  exact hQ (.slice (some ⟨g, P, none⟩) c (cap - P)) _ (Below.refl _ _) rfl
                · intro x w hb hk Q' hQ
                  clear hk
                  simp only [netAct, dstAt, List.getElem?_toArray, List.getElem?_cons_zero, List.getElem?_cons_succ, Option.bind_some, Act.put, List.setIfInBounds_toArray, List.set_cons_zero, List.set_cons_succ] at hQ ⊢
                  go_wp2
                  exact hQ (.int .i64 j) _ (Below.refl _ _) rfl
                · intro x w hb hk Q' hQ
                  clear hk
                  simp only [netAct, dstAt, List.getElem?_toArray, List.getElem?_cons_zero, List.getElem?_cons_succ, Option.bind_some, Act.put, List.setIfInBounds_toArray, List.set_cons_zero, List.set_cons_succ] at hQ ⊢
                  have S := hSS.out.call HWB.out hb
                  have kb := KB.out.below (S).bel HB0.out
                  have c0 := kb.cell' (i := 0) rfl
                  have c1 := kb.cell' (i := 1) rfl
                  have c2 := kb.cell' (i := 2) rfl
                  go_wp2
                  exact hQ (.agg #[.int .i64 r, .int .i64 c, .slice (some ⟨g, 0, none⟩) L cap]) _ (Below.refl _ _) rfl
                · intro x w hb hk Q' hQ
                  clear hk
                  simp only [netAct, dstAt, List.getElem?_toArray, List.getElem?_cons_zero, List.getElem?_cons_succ, Option.bind_some, Act.put, List.setIfInBounds_toArray, List.set_cons_zero, List.set_cons_succ] at hQ ⊢
                  go_wp2
                  exact hQ (.int .i64 a) _ (Below.refl _ _) rfl
                · intro x w hb hk Q' hQ
                  have h2 : x.v 2 = .agg #[.int .i64 r, .int .i64 c, .slice (some ⟨g, 0, none⟩) L cap] := (hk 2 (by decide)).1
                  have h3 : x.v 3 = .int .i64 a := (hk 3 (by decide)).1
                  clear hk
                  simp only [netAct, dstAt, List.getElem?_toArray, List.getElem?_cons_zero, List.getElem?_cons_succ, Option.bind_some, Act.put, List.setIfInBounds_toArray, List.set_cons_zero, List.set_cons_succ] at hQ ⊢
                  simp only [h2, h3] at hQ ⊢
                  clear h2 h3
                  go_wp2_with fail
                  refine (row_in _ hlr (by omega) hr hc EL.out hLc hcb HQ.out).mono ?_; rintro e w5 ⟨rfl, hb5⟩
                  go_wp2
                  exact hQ _ _ hb5 rfl
                · intro x w hb hk Q' hQ
                  clear hk
                  simp only [netAct, dstAt, List.getElem?_toArray, List.getElem?_cons_zero, List.getElem?_cons_succ, Option.bind_some, Act.put, List.setIfInBounds_toArray, List.set_cons_zero, List.set_cons_succ] at hQ ⊢
                  go_wp2
                  exact hQ (.int .i64 j) _ (Below.refl _ _) rfl
                · intro x w hb hk Q' hQ
                  clear hk
                  simp only [netAct, dstAt, List.getElem?_toArray, List.getElem?_cons_zero, List.getElem?_cons_succ, Option.bind_some, Act.put, List.setIfInBounds_toArray, List.set_cons_zero, List.set_cons_succ] at hQ ⊢
                  have S := hSS.out.call HWB.out hb
                  have kb := KB.out.below (S).bel HB0.out
                  have c0 := kb.cell' (i := 0) rfl
                  have c1 := kb.cell' (i := 1) rfl
                  have c2 := kb.cell' (i := 2) rfl
                  go_wp2
                  exact hQ (.agg #[.int .i64 r, .int .i64 c, .slice (some ⟨g, 0, none⟩) L cap]) _ (Below.refl _ _) rfl
                · intro x w hb hk Q' hQ
                  clear hk
                  simp only [netAct, dstAt, List.getElem?_toArray, List.getElem?_cons_zero, List.getElem?_cons_succ, Option.bind_some, Act.put, List.setIfInBounds_toArray, List.set_cons_zero, List.set_cons_succ] at hQ ⊢
                  go_wp2
                  exact hQ (.int .i64 a) _ (Below.refl _ _) rfl
                · intro x w hb hk Q' hQ
                  have h6 : x.v 6 = .agg #[.int .i64 r, .int .i64 c, .slice (some ⟨g, 0, none⟩) L cap] := (hk 6 (by decide)).1
                  have h7 : x.v 7 = .int .i64 a := (hk 7 (by decide)).1
                  clear hk
                  simp only [netAct, dstAt, List.getElem?_toArray, List.getElem?_cons_zero, List.getElem?_cons_succ, Option.bind_some, Act.put, List.setIfInBounds_toArray, List.set_cons_zero, List.set_cons_succ] at hQ ⊢
                  simp only [h6, h7] at hQ ⊢
                  clear h6 h7
                  go_wp2_with fail
                  refine (row_in _ hlr (by omega) hr hc EL.out hLc hcb HQ.out).mono ?_; rintro e w5 ⟨rfl, hb5⟩
                  go_wp2
                  exact hQ _ _ hb5 rfl
                · intro x w hb hk Q' hQ
                  clear hk
                  simp only [netAct, dstAt, List.getElem?_toArray, List.getElem?_cons_zero, List.getElem?_cons_succ, Option.bind_some, Act.put, List.setIfInBounds_toArray, List.set_cons_zero, List.set_cons_succ] at hQ ⊢
                  go_wp2
                  exact hQ (.int .i64 j) _ (Below.refl _ _) rfl
                · intro x w hb hk Q' hQ
                  have h8 : x.v 8 = .slice (some ⟨g, Q, none⟩) c (cap - Q) := (hk 8 (by decide)).1
                  have h9 : x.v 9 = .int .i64 j := (hk 9 (by decide)).1
                  clear hk
                  simp only [netAct, dstAt, List.getElem?_toArray, List.getElem?_cons_zero, List.getElem?_cons_succ, Option.bind_some, Act.put, List.setIfInBounds_toArray, List.set_cons_zero, List.set_cons_succ] at hQ ⊢
                  simp only [h8, h9] at hQ ⊢
                  clear h8 h9
                  go_wp2
                  exact hQ (.pointer (some ⟨g, Q + j, none⟩)) _ (Below.refl _ _) rfl
                · intro x w hb hk Q' hQ
                  have h10 : x.v 10 = .pointer (some ⟨g, Q + j, none⟩) := (hk 10 (by decide)).1
                  clear hk
                  simp only [netAct, dstAt, List.getElem?_toArray, List.getElem?_cons_zero, List.getElem?_cons_succ, Option.bind_some, Act.put, List.setIfInBounds_toArray, List.set_cons_zero, List.set_cons_succ] at hQ ⊢
                  simp only [h10] at hQ ⊢
                  clear h10
                  have S := hSS.out.call HWB.out hb
                  have z := (S.cellP hlr hljc HQ.out).1
                  rw [sw_rest] at z
                  go_wp2
                  exact hQ (.int .i64 (F a j)) _ (Below.refl _ _) rfl
                · intro x w hb hk Q' hQ
                  clear hk
                  simp only [netAct, dstAt, List.getElem?_toArray, List.getElem?_cons_zero, List.getElem?_cons_succ, Option.bind_some, Act.put, List.setIfInBounds_toArray, List.set_cons_zero, List.set_cons_succ] at hQ ⊢
                  go_wp2
                  exact hQ (.slice (some ⟨g, P, none⟩) c (cap - P)) _ (Below.refl _ _) rfl
                · intro x w hb hk Q' hQ
                  clear hk
                  simp only [netAct, dstAt, List.getElem?_toArray, List.getElem?_cons_zero, List.getElem?_cons_succ, Option.bind_some, Act.put, List.setIfInBounds_toArray, List.set_cons_zero, List.set_cons_succ] at hQ ⊢
                  go_wp2
                  exact hQ (.int .i64 j) _ (Below.refl _ _) rfl
                · intro x w hb hk Q' hQ
                  have h12 : x.v 12 = .slice (some ⟨g, P, none⟩) c (cap - P) := (hk 12 (by decide)).1
                  have h13 : x.v 13 = .int .i64 j := (hk 13 (by decide)).1
                  clear hk
                  simp only [netAct, dstAt, List.getElem?_toArray, List.getElem?_cons_zero, List.getElem?_cons_succ, Option.bind_some, Act.put, List.setIfInBounds_toArray, List.set_cons_zero, List.set_cons_succ] at hQ ⊢
                  simp only [h12, h13] at hQ ⊢
                  clear h12 h13
                  go_wp2
                  exact hQ (.pointer (some ⟨g, P + j, none⟩)) _ (Below.refl _ _) rfl
                · intro x w hb hk Q' hQ
                  have h14 : x.v 14 = .pointer (some ⟨g, P + j, none⟩) := (hk 14 (by decide)).1
                  clear hk
                  simp only [netAct, dstAt, List.getElem?_toArray, List.getElem?_cons_zero, List.getElem?_cons_succ, Option.bind_some, Act.put, List.setIfInBounds_toArray, List.set_cons_zero, List.set_cons_succ] at hQ ⊢
                  simp only [h14] at hQ ⊢
                  clear h14
                  have S := hSS.out.call HWB.out hb
                  have z := (S.cellP hnr hljc HPP.out).1
                  rw [sw_rest] at z
                  go_wp2
                  exact hQ (.int .i64 (F n j)) _ (Below.refl _ _) rfl
                · intro x w hb hk Q' hQ
                  have h0 : x.v 0 = .slice (some ⟨g, P, none⟩) c (cap - P) := (hk 0 (by decide)).1
                  have h1 : x.v 1 = .int .i64 j := (hk 1 (by decide)).1
                  clear hk
                  simp only [netAct, dstAt, List.getElem?_toArray, List.getElem?_cons_zero, List.getElem?_cons_succ, Option.bind_some, Act.put, List.setIfInBounds_toArray, List.set_cons_zero, List.set_cons_succ] at hQ ⊢
                  simp only [h0, h1] at hQ ⊢
                  clear h0 h1
                  go_wp2
                  exact hQ (.pointer (some ⟨g, P + j, none⟩)) _ (Below.refl _ _) rfl
                · intro x w hb hk hiv hdj
                  have h0 : x.v 0 = .slice (some ⟨g, P, none⟩) c (cap - P) := hk 0 (by decide)
                  have h1 : x.v 1 = .int .i64 j := hk 1 (by decide)
                  have h2 : x.v 2 = .agg #[.int .i64 r, .int .i64 c, .slice (some ⟨g, 0, none⟩) L cap] := hk 2 (by decide)
                  have h3 : x.v 3 = .int .i64 a := hk 3 (by decide)
                  have h4 : x.v 4 = .slice (some ⟨g, Q, none⟩) c (cap - Q) := hk 4 (by decide)
                  have h5 : x.v 5 = .int .i64 j := hk 5 (by decide)
                  have h6 : x.v 6 = .agg #[.int .i64 r, .int .i64 c, .slice (some ⟨g, 0, none⟩) L cap] := hk 6 (by decide)
                  have h7 : x.v 7 = .int .i64 a := hk 7 (by decide)
                  have h8 : x.v 8 = .slice (some ⟨g, Q, none⟩) c (cap - Q) := hk 8 (by decide)
                  have h9 : x.v 9 = .int .i64 j := hk 9 (by decide)
                  have h10 : x.v 10 = .pointer (some ⟨g, Q + j, none⟩) := hk 10 (by decide)
                  have h11 : x.v 11 = .int .i64 (F a j) := hk 11 (by decide)
                  have h12 : x.v 12 = .slice (some ⟨g, P, none⟩) c (cap - P) := hk 12 (by decide)
                  have h13 : x.v 13 = .int .i64 j := hk 13 (by decide)
                  have h14 : x.v 14 = .pointer (some ⟨g, P + j, none⟩) := hk 14 (by decide)
                  have h15 : x.v 15 = .int .i64 (F n j) := hk 15 (by decide)
                  have h16 : x.v 16 = .pointer (some ⟨g, P + j, none⟩) := hk 16 (by decide)
                  clear hk
                  simp only [netAct, dstAt, List.getElem?_toArray, List.getElem?_cons_zero, List.getElem?_cons_succ, Option.bind_some, Act.put, List.setIfInBounds_toArray, List.set_cons_zero, List.set_cons_succ]
                  simp only [List.drop_succ_cons, List.drop_zero, h0, h1, h2, h3, h4, h5, h6, h7, h8, h9, h10, h11, h12, h13, h14, h15, h16]
                  clear h0 h1 h2 h3 h4 h5 h6 h7 h8 h9 h10 h11 h12 h13 h14 h15 h16
                  have S := hSS.out.call HWB.out hb
                  have ia := (S.cellP hlr hljc HQ.out)
                  have ib := (S.cellP hnr hljc HPP.out)
                  rw [sw_rest] at ia ib
                  have S2 := S.put2 hBg (S.size HWB.out) ia.2.1 ib.2.1 HST.out
                  have S1 := S.put (J := P + j) (x := F a j) hBg (S.size HWB.out) ia.2.1 (by rw [HPP.out]; exact flat_set _ _ hnr hljc)
                  obtain ⟨q1, _, q2⟩ := S1.cellP hlr hljc HQ.out
                  obtain ⟨p1, _, p2⟩ := ib
                  have HS2 := Lib.hid S2
                  clear ia S S1 S2 hiv hdj
                  go_wp2
                  go_roundw
                  case rel => exact ⟨j + 1, by omega, by go_num, HS2.out⟩
                  case measure => simp [intOf]; omega
                · intro x w hb hk hiv hdj om os hom hos
                  simp only [List.getElem?_cons_zero, List.getElem?_cons_succ, Option.some.injEq] at hom hos
                  subst hom hos
                  have h0 : x.v 0 = .slice (some ⟨g, P, none⟩) c (cap - P) := hk 0 (by decide)
                  have h1 : x.v 1 = .int .i64 j := hk 1 (by decide)
                  have h2 : x.v 2 = .agg #[.int .i64 r, .int .i64 c, .slice (some ⟨g, 0, none⟩) L cap] := hk 2 (by decide)
                  have h3 : x.v 3 = .int .i64 a := hk 3 (by decide)
                  have h4 : x.v 4 = .slice (some ⟨g, Q, none⟩) c (cap - Q) := hk 4 (by decide)
                  have h6 : x.v 6 = .agg #[.int .i64 r, .int .i64 c, .slice (some ⟨g, 0, none⟩) L cap] := hk 6 (by decide)
                  have h7 : x.v 7 = .int .i64 a := hk 7 (by decide)
                  have h8 : x.v 8 = .slice (some ⟨g, Q, none⟩) c (cap - Q) := hk 8 (by decide)
                  have h9 : x.v 9 = .int .i64 j := hk 9 (by decide)
                  have h10 : x.v 10 = .pointer (some ⟨g, Q + j, none⟩) := hk 10 (by decide)
                  have h11 : x.v 11 = .int .i64 (F a j) := hk 11 (by decide)
                  have h12 : x.v 12 = .slice (some ⟨g, P, none⟩) c (cap - P) := hk 12 (by decide)
                  have h13 : x.v 13 = .int .i64 j := hk 13 (by decide)
                  have h14 : x.v 14 = .pointer (some ⟨g, P + j, none⟩) := hk 14 (by decide)
                  have h15 : x.v 15 = .int .i64 (F n j) := hk 15 (by decide)
                  have h16 : x.v 16 = .pointer (some ⟨g, P + j, none⟩) := hk 16 (by decide)
                  clear hk
                  simp only [List.foldl_cons, List.foldl_nil, netAct, dstAt, List.getElem?_toArray, List.getElem?_cons_zero, List.getElem?_cons_succ, Option.bind_some, Act.put, List.setIfInBounds_toArray, List.set_cons_zero, List.set_cons_succ]
                  simp only [List.drop_succ_cons, List.drop_zero, h0, h1, h2, h3, h4, h6, h7, h8, h9, h10, h11, h12, h13, h14, h15, h16]
                  clear h0 h1 h2 h3 h4 h6 h7 h8 h9 h10 h11 h12 h13 h14 h15 h16
                  have S := hSS.out.call HWB.out hb
                  have ia := (S.cellP hlr hljc HQ.out)
                  have ib := (S.cellP hnr hljc HPP.out)
                  rw [sw_rest] at ia ib
                  have S2 := S.put2 hBg (S.size HWB.out) ia.2.1 ib.2.1 HST.out
                  have S1 := S.put (J := P + j) (x := F a j) hBg (S.size HWB.out) ia.2.1 (by rw [HPP.out]; exact flat_set _ _ hnr hljc)
                  obtain ⟨q1, _, q2⟩ := S1.cellP hlr hljc HQ.out
                  obtain ⟨p1, _, p2⟩ := ib
                  have HS2 := Lib.hid S2
                  clear ia S S1 S2 hiv hdj
                  go_wp2
                  go_roundw
                  case rel => exact ⟨j + 1, by omega, by go_num, HS2.out⟩
                  case measure => simp [intOf]; omega
              · have hjc : j = c := by omega
                subst hjc
                have S := S.congr (sw_end n a r j F)
                have hin1 := inF_sw HIN.out hnr hlr
                obtain ⟨F1, hF1⟩ : ∃ F1, swA n a F = F1 := ⟨_, rfl⟩
                rw [hF1] at S hin1
                obtain ⟨x, hx⟩ : ∃ x, F1 n k = x := ⟨_, rfl⟩
                obtain ⟨z1, hxI, _⟩ := S.cellP hnr hlt HPP.out
                rw [hx] at z1 hxI
                obtain ⟨s, hs⟩ : ∃ s, invP p x = s := ⟨_, rfl⟩
                have hsr := invP_r (x := x) hpr
                rw [hs] at hsr
                have HS := Lib.hid hs
                have HX := Lib.hid hx
                have HXI := Lib.hid hxI
                have HF1 := Lib.hid hF1
                have HIN1 := Lib.hid hin1
                have hSS := Lib.hid S
                clear hs hx hxI hF1 hin1 S
                go_wp2_with fail
                refine (inverseMod_any p x _ HP.out HXI.out).mono ?_; rintro e w5 ⟨rfl, hww⟩; replace hww := hww.symm; subst hww
                rw [HS.out]
                have S := hSS.out
                rw [← sc_0 p n s F1] at S
                go_wp2
                clear z1
                go_loopw [78] (fun i wr => ∃ j' : Nat, j' ≤ j ∧ i = .int .i64 j' ∧ RS W.heap.size w2 (some ⟨g, 0, none⟩) r j L cap wr (scJ p n s j' F1) (.slice PA n pc) ps) (fun i _ => j - (intOf i).toNat)
                case atStart => exact ⟨0, Nat.zero_le _, rfl, S⟩
                case round =>
                  clear S hSS
                  obtain ⟨j', hj', rfl, S⟩ := hrel
                  by_cases hl4 : j' < j
                  · obtain ⟨b1, b2, b3⟩ := rowP hnr hl4 hr hc HPP.out
                    rw [← EL.out] at b1 b2 b3
                    obtain ⟨z1, _, z2⟩ := S.cellP hnr hl4 HPP.out
                    rw [sc_rest] at z1
                    have hi1 := HIN1.out n j' hnr hl4
                    have hst := sc_step (p := p) (s := s) F1 hnr hl4
                    obtain ⟨a4, ha4⟩ : ∃ a4, F1 n j' = a4 := ⟨_, rfl⟩
                    rw [ha4] at z1 hi1 hst
                    rw [← HPP.out] at hst
                    have k0 : 0 ≤ a4 * s := Int.mul_nonneg hi1.1 hsr.1
                    have k1 : a4 * s ≤ 4 * 4 := Int.mul_le_mul (by omega) hsr.2 hsr.1 (by omega)
                    obtain ⟨K, hK⟩ : ∃ K, a4 * s = K := ⟨_, rfl⟩
                    rw [hK] at k0 k1 hst
                    have hKw : wrap64 (a4 * s) = K := by rw [hK]; exact IntWalk.wrap64_in _ ⟨by omega, by omega⟩
                    have ht : K.tmod p = K % p := Int.tmod_eq_emod_of_nonneg k0
                    have hr1 := emod_rng (x := K) hpr.1
                    have S2 := S.put (J := P + j') (x := K % p) hBg (S.size HWB.out) (by unfold I64; omega) hst
                    have HS2 := Lib.hid S2
                    clear ha4 hK hst S2 S k0 k1 hr1 hi1
                    go_wp2
                    go_roundw
                    case rel => exact ⟨j' + 1, by omega, by go_num, HS2.out⟩
                    case measure => simp [intOf]; omega
                  · have hje : j' = j := by omega
                    subst hje
                    have S := S.congr (sc_end p n r j' s F1)
                    have hin2 := inF_sc (s := s) (n := n) hpr.1 HIN1.out
                    obtain ⟨F2, hF2⟩ : ∃ F2, scA p n s F1 = F2 := ⟨_, rfl⟩
                    rw [hF2] at S hin2
                    have hfin : Hid (rdF p r F n k = elA p n k F2) := by
                      show _ = _
                      rw [rdF, HZA.out, HF1.out, HX.out, HS.out, hF2]
                    have HIN2 := Lib.hid hin2
                    clear hF2 hin2
                    rw [← el_0 p n k F2] at S
                    have kb := KB.out.below (S).bel HB0.out
                    have c0 := kb.cell' (i := 0) rfl
                    have c1 := kb.cell' (i := 1) rfl
                    have c2 := kb.cell' (i := 2) rfl
                    go_wp2
                    clear kb c0 c1 c2
                    go_loopw [95] (fun i wr => ∃ i' : Nat, i' ≤ r ∧ i = .int .i64 i' ∧ RS W.heap.size w2 (some ⟨g, 0, none⟩) r j' L cap wr (elI p n k i' F2) (.slice PA n pc) ps) (fun i _ => r - (intOf i).toNat)
                    case atStart => exact ⟨0, Nat.zero_le _, rfl, S⟩
                    case round =>
                      clear S
                      obtain ⟨i, hi, rfl, S⟩ := hrel
                      by_cases hl5 : i < r
                      · by_cases hin : i = n
                        · subst hin
                          rw [el_skip] at S
                          go_wp2
                          go_roundw
                          case rel => exact ⟨i + 1, by omega, by go_num, S⟩
                          case measure => simp [intOf]; omega
                        · have hne : ((i : Int) != n) = true := by rw [bne_iff_ne]; omega
                          have hine : ¬ ((i : Int) = n) := by omega
                          obtain ⟨R, hR⟩ : ∃ R, R = i * j' := ⟨_, rfl⟩
                          obtain ⟨a1, a2, a3⟩ := rowP hl5 hlt hr hc hR
                          have hap := rows_apart hin hR HPP.out
                          have HR := Lib.hid hR
                          rw [← EL.out] at a1 a2 a3
                          have hSS := Lib.hid S
                          have hr5 := HIN2.out i k hl5 hlt
                          obtain ⟨q, hq⟩ : ∃ q, F2 i k = q := ⟨_, rfl⟩
                          rw [hq] at hr5
                          have HQQ := Lib.hid hq
                          have hamel := am_el (p := p) (n := n) (k := k) (i := i) (r := r) (c := j') F2 hnr hin
                          rw [hq, ← EL.out, ← HR.out, ← HPP.out] at hamel
                          have HAM := Lib.hid hamel
                          have HNE := Lib.hid hin
                          clear hR hq hamel hin S
                          go_wp2
                          refine wp_region_net (by kernel_rfl) [.eq (.int .i64 p), .eq (.agg #[.int .i64 r, .int .i64 j', .slice (some ⟨g, 0, none⟩) L cap]), .eq (.int .i64 i), .eq (.slice (some ⟨g, R, none⟩) j' (cap - R)), .eq (.int .i64 p), .eq (.agg #[.int .i64 r, .int .i64 j', .slice (some ⟨g, 0, none⟩) L cap]), .eq (.int .i64 i), .eq (.slice (some ⟨g, R, none⟩) j' (cap - R)), .eq (.int .i64 k), .eq (.pointer (some ⟨g, R + k, none⟩)), .eq (.int .i64 q), .eq (.int .i64 (p - q)), .eq (.slice (some ⟨g, P, none⟩) j' (cap - P))] [[], [], [], [1, 2], [], [], [], [1, 2, 3, 5, 6], [], [1, 2, 3, 5, 6, 7, 8], [1, 2, 3, 5, 6, 7, 8, 9], [1, 2, 3, 4, 5, 6, 7, 8, 9, 10], [], [0, 1, 2, 3, 4, 5, 6, 7, 8, 9, 10, 11, 12]] 13 (by kernel_rfl) ⟨trivial, trivial, trivial, trivial, trivial, trivial, trivial, trivial, trivial, trivial, trivial, trivial, trivial, trivial⟩ ⟨?_, ?_, ?_, ?_, ?_, ?_, ?_, ?_, ?_, ?_, ?_, ?_, ?_, trivial⟩ ?_
                          · intro x w hb hk Q' hQ
                            clear hk
                            simp only [netAct, dstAt, List.getElem?_toArray, List.getElem?_cons_zero, List.getElem?_cons_succ, Option.bind_some, Act.put, List.setIfInBounds_toArray, List.set_cons_zero, List.set_cons_succ] at hQ ⊢
                            go_wp2
                            exact hQ (.int .i64 p) _ (Below.refl _ _) rfl
                          · intro x w hb hk Q' hQ
                            clear hk
                            simp only [netAct, dstAt, List.getElem?_toArray, List.getElem?_cons_zero, List.getElem?_cons_succ, Option.bind_some, Act.put, List.setIfInBounds_toArray, List.set_cons_zero, List.set_cons_succ] at hQ ⊢
                            have S := hSS.out.call HWB.out hb
                            have kb := KB.out.below (S).bel HB0.out
                            have c0 := kb.cell' (i := 0) rfl
                            have c1 := kb.cell' (i := 1) rfl
                            have c2 := kb.cell' (i := 2) rfl
                            go_wp2
                            exact hQ (.agg #[.int .i64 r, .int .i64 j', .slice (some ⟨g, 0, none⟩) L cap]) _ (Below.refl _ _) rfl
                          · intro x w hb hk Q' hQ
                            clear hk
                            simp only [netAct, dstAt, List.getElem?_toArray, List.getElem?_cons_zero, List.getElem?_cons_succ, Option.bind_some, Act.put, List.setIfInBounds_toArray, List.set_cons_zero, List.set_cons_succ] at hQ ⊢
                            go_wp2
                            exact hQ (.int .i64 i) _ (Below.refl _ _) rfl
                          · intro x w hb hk Q' hQ
                            have h1 : x.v 1 = .agg #[.int .i64 r, .int .i64 j', .slice (some ⟨g, 0, none⟩) L cap] := (hk 1 (by decide)).1
                            have h2 : x.v 2 = .int .i64 i := (hk 2 (by decide)).1
                            clear hk
                            simp only [netAct, dstAt, List.getElem?_toArray, List.getElem?_cons_zero, List.getElem?_cons_succ, Option.bind_some, Act.put, List.setIfInBounds_toArray, List.set_cons_zero, List.set_cons_succ] at hQ ⊢
                            simp only [h1, h2] at hQ ⊢
                            clear h1 h2
                            go_wp2_with fail
                            refine (row_in _ hl5 (by omega) hr hc EL.out hLc hcb HR.out).mono ?_; rintro e w5 ⟨rfl, hb5⟩
                            go_wp2
                            exact hQ _ _ hb5 rfl
                          · intro x w hb hk Q' hQ
                            clear hk
                            simp only [netAct, dstAt, List.getElem?_toArray, List.getElem?_cons_zero, List.getElem?_cons_succ, Option.bind_some, Act.put, List.setIfInBounds_toArray, List.set_cons_zero, List.set_cons_succ] at hQ ⊢
                            go_wp2
                            exact hQ (.int .i64 p) _ (Below.refl _ _) rfl
                          · intro x w hb hk Q' hQ
                            clear hk
                            simp only [netAct, dstAt, List.getElem?_toArray, List.getElem?_cons_zero, List.getElem?_cons_succ, Option.bind_some, Act.put, List.setIfInBounds_toArray, List.set_cons_zero, List.set_cons_succ] at hQ ⊢
                            have S := hSS.out.call HWB.out hb
                            have kb := KB.out.below (S).bel HB0.out
                            have c0 := kb.cell' (i := 0) rfl
                            have c1 := kb.cell' (i := 1) rfl
                            have c2 := kb.cell' (i := 2) rfl
                            go_wp2
                            exact hQ (.agg #[.int .i64 r, .int .i64 j', .slice (some ⟨g, 0, none⟩) L cap]) _ (Below.refl _ _) rfl
                          · intro x w hb hk Q' hQ
                            clear hk
                            simp only [netAct, dstAt, List.getElem?_toArray, List.getElem?_cons_zero, List.getElem?_cons_succ, Option.bind_some, Act.put, List.setIfInBounds_toArray, List.set_cons_zero, List.set_cons_succ] at hQ ⊢
                            go_wp2
                            exact hQ (.int .i64 i) _ (Below.refl _ _) rfl
                          · intro x w hb hk Q' hQ
                            have h5 : x.v 5 = .agg #[.int .i64 r, .int .i64 j', .slice (some ⟨g, 0, none⟩) L cap] := (hk 5 (by decide)).1
                            have h6 : x.v 6 = .int .i64 i := (hk 6 (by decide)).1
                            clear hk
                            simp only [netAct, dstAt, List.getElem?_toArray, List.getElem?_cons_zero, List.getElem?_cons_succ, Option.bind_some, Act.put, List.setIfInBounds_toArray, List.set_cons_zero, List.set_cons_succ] at hQ ⊢
                            simp only [h5, h6] at hQ ⊢
                            clear h5 h6
                            go_wp2_with fail
                            refine (row_in _ hl5 (by omega) hr hc EL.out hLc hcb HR.out).mono ?_; rintro e w5 ⟨rfl, hb5⟩
                            go_wp2
                            exact hQ _ _ hb5 rfl
                          · intro x w hb hk Q' hQ
                            clear hk
                            simp only [netAct, dstAt, List.getElem?_toArray, List.getElem?_cons_zero, List.getElem?_cons_succ, Option.bind_some, Act.put, List.setIfInBounds_toArray, List.set_cons_zero, List.set_cons_succ] at hQ ⊢
                            go_wp2
                            exact hQ (.int .i64 k) _ (Below.refl _ _) rfl
                          · intro x w hb hk Q' hQ
                            have h7 : x.v 7 = .slice (some ⟨g, R, none⟩) j' (cap - R) := (hk 7 (by decide)).1
                            have h8 : x.v 8 = .int .i64 k := (hk 8 (by decide)).1
                            clear hk
                            simp only [netAct, dstAt, List.getElem?_toArray, List.getElem?_cons_zero, List.getElem?_cons_succ, Option.bind_some, Act.put, List.setIfInBounds_toArray, List.set_cons_zero, List.set_cons_succ] at hQ ⊢
                            simp only [h7, h8] at hQ ⊢
                            clear h7 h8
                            go_wp2
                            exact hQ (.pointer (some ⟨g, R + k, none⟩)) _ (Below.refl _ _) rfl
                          · intro x w hb hk Q' hQ
                            have h9 : x.v 9 = .pointer (some ⟨g, R + k, none⟩) := (hk 9 (by decide)).1
                            clear hk
                            simp only [netAct, dstAt, List.getElem?_toArray, List.getElem?_cons_zero, List.getElem?_cons_succ, Option.bind_some, Act.put, List.setIfInBounds_toArray, List.set_cons_zero, List.set_cons_succ] at hQ ⊢
                            simp only [h9] at hQ ⊢
                            clear h9
                            have S := hSS.out.call HWB.out hb
                            have z := (S.cellP hl5 hlt HR.out).1
                            rw [el_rest, HQQ.out] at z
                            go_wp2
                            exact hQ (.int .i64 q) _ (Below.refl _ _) rfl
                          · intro x w hb hk Q' hQ
                            have h4 : x.v 4 = .int .i64 p := (hk 4 (by decide)).1
                            have h10 : x.v 10 = .int .i64 q := (hk 10 (by decide)).1
                            clear hk
                            simp only [netAct, dstAt, List.getElem?_toArray, List.getElem?_cons_zero, List.getElem?_cons_succ, Option.bind_some, Act.put, List.setIfInBounds_toArray, List.set_cons_zero, List.set_cons_succ] at hQ ⊢
                            simp only [h4, h10] at hQ ⊢
                            clear h4 h10
                            go_wp2
                            exact hQ (.int .i64 (p - q)) _ (Below.refl _ _) rfl
                          · intro x w hb hk Q' hQ
                            clear hk
                            simp only [netAct, dstAt, List.getElem?_toArray, List.getElem?_cons_zero, List.getElem?_cons_succ, Option.bind_some, Act.put, List.setIfInBounds_toArray, List.set_cons_zero, List.set_cons_succ] at hQ ⊢
                            go_wp2
                            exact hQ (.slice (some ⟨g, P, none⟩) j' (cap - P)) _ (Below.refl _ _) rfl
                          · intro x w hb hk hiv hdj
                            have h0 : x.v 0 = .int .i64 p := hk 0 (by decide)
                            have h1 : x.v 1 = .agg #[.int .i64 r, .int .i64 j', .slice (some ⟨g, 0, none⟩) L cap] := hk 1 (by decide)
                            have h2 : x.v 2 = .int .i64 i := hk 2 (by decide)
                            have h3 : x.v 3 = .slice (some ⟨g, R, none⟩) j' (cap - R) := hk 3 (by decide)
                            have h4 : x.v 4 = .int .i64 p := hk 4 (by decide)
                            have h5 : x.v 5 = .agg #[.int .i64 r, .int .i64 j', .slice (some ⟨g, 0, none⟩) L cap] := hk 5 (by decide)
                            have h6 : x.v 6 = .int .i64 i := hk 6 (by decide)
                            have h7 : x.v 7 = .slice (some ⟨g, R, none⟩) j' (cap - R) := hk 7 (by decide)
                            have h8 : x.v 8 = .int .i64 k := hk 8 (by decide)
                            have h9 : x.v 9 = .pointer (some ⟨g, R + k, none⟩) := hk 9 (by decide)
                            have h10 : x.v 10 = .int .i64 q := hk 10 (by decide)
                            have h11 : x.v 11 = .int .i64 (p - q) := hk 11 (by decide)
                            have h12 : x.v 12 = .slice (some ⟨g, P, none⟩) j' (cap - P) := hk 12 (by decide)
                            clear hk
                            simp only [netAct, dstAt, List.getElem?_toArray, List.getElem?_cons_zero, List.getElem?_cons_succ, Option.bind_some, Act.put, List.setIfInBounds_toArray, List.set_cons_zero, List.set_cons_succ]
                            simp only [List.drop_succ_cons, List.drop_zero, h0, h1, h2, h3, h4, h5, h6, h7, h8, h9, h10, h11, h12]
                            clear h0 h1 h2 h3 h4 h5 h6 h7 h8 h9 h10 h11 h12
                            have S := hSS.out.call HWB.out hb
                            have hown := S.own
                            rw [rowF_flat, ← EL.out] at hown
                            have hfr : ∀ z, z < L → 0 ≤ (fun j => elI p n k i F2 (j / j') (j % j')) z ∧ (fun j => elI p n k i F2 (j / j') (j % j')) z ≤ 4 := by
                              intro z hz
                              rw [EL.out] at hz
                              obtain ⟨a, b, ha, hb', rfl⟩ := ix_of hz
                              simp only [ix_div hb', ix_mod hb']
                              have := inF_elI (n := n) (k := k) (i := i) hpr.1 HIN2.out a b ha hb'
                              omega
                            have HOW := Lib.hid hown
                            have HFR := Lib.hid hfr
                            have HS6 := Lib.hid S
                            clear hown hfr S hiv hdj
                            go_wp2_with fail
                            refine (addMultiple_in p (p - q) g R P j' L cap (cap - R) (cap - P) W.heap.size (fun j => elI p n k i F2 (j / j') (j % j')) _ hpr (by omega) HOW.out a2 hrp.2.1 hap (by omega) (by omega) (by omega) HFR.out).mono ?_; rintro e w6 ⟨rfl, ho6, hg6⟩
                            rw [HAM.out] at ho6
                            have S7 := HS6.out.turn hBg (HS6.out.size HWB.out) ho6 hg6
                            clear ho6 hg6
                            go_wp2
                            go_roundw
                            case rel => exact ⟨i + 1, by omega, by go_num, S7⟩
                            case measure => simp [intOf]; omega
                      · have hir : i = r := by omega
                        subst hir
                        have S := S.congr (el_end p n k i j' F2)
                        rw [← hfin.out] at S
                        have hS8 := S.call HWB.out (below_alloc wr (.cells #[.int .i64 k] 3))
                        have hsz8 := hS8.size HWB.out
                        have HS8 := Lib.hid hS8
                        clear S hS8
                        (go_wp2_with (at_builtin; refine Hold.stop ?_)); unfold Hold
                        refine wpList_appI rfl (.tmp 117) (.tmp 119) rfl W.heap.size _ (.slice PA n pc) ps rfl HS8.out.ownP.1 _ _ _ [(k : Int)] rfl rfl (SlI.one wr _ k ⟨by omega, by omega⟩) (by rw [HN.out]; simp; omega) hsz8 ?_
                        intro v9 w9 ho9 hg9 hv9
                        have S9 := HS8.out.app hsz8 ho9 hg9 hv9
                        clear ho9 hg9 hv9
                        go_wp2
                        go_roundw
                        case rel => exact ⟨k + 1, by omega, by go_num, by rw [HRS2.out]; exact S9⟩
                        case measure => simp [intOf]; omega
        · have hae : a = r := by omega
          have HRS2 := Lib.hid (HRS.out.trans (if_neg (by rw [nzF_eq (f := F) (k := k) hna har hz.out (fun h => absurd h hlr)]; exact hlr)))
          subst hae
          clear hz
          go_wp2
          go_roundw
          case rel => exact ⟨k + 1, by omega, by go_num, by rw [HRS2.out]; exact S⟩
          case measure => simp [intOf]; omega
    · have hkc : k = c := by omega
      have HKC := Lib.hid hkc
      have sz := SZ.out
      have sB := S.size HWB.out
      have k4 := KB.out.below S.bel HB0.out
      have k3' := KR.out.below S.bel (by omega)
      have z0 := k4.cell' (i := 0) rfl
      have z1 := k4.cell' (i := 1) rfl
      have z2 := k4.cell' (i := 2) rfl
      have p0 := k3'.cell' (i := 0) rfl
      have p1 := k3'.cell' (i := 1) rfl
      have p2 := k3'.cell' (i := 2) rfl
      have f2 := k3'.frozen
      have h2 := chg3 wr (w0.heap.size + 1) (.int .i64 (r : Int)) (.int .i64 c) (.slice A L cap)
      have gw : Below w0.heap.size w0 wr := (G2.out).trans (S.bel.mono (by omega))
      have gs := gw.size
      have hfl := HL.out
      have oA : IntsO wr W.heap.size wr.heap.size (.slice A L cap) (flat r c F) := S.fam.1 (_, flat r c F) (by simp)
      have oA2 := (oA.chg h2 (.inr (by omega))).wider (lo' := w0.heap.size) (hi' := wr.heap.size) (by omega) (Nat.le_refl _)
      have oP2 := (S.ownP.chg h2 (.inr (by omega))).wider (lo' := w0.heap.size) (hi' := wr.heap.size) (by omega) (Nat.le_refl _)
      have fg := gw.trans (h2.below (by omega) gs)
      have OA2 := Lib.hid oA2
      have OP2 := Lib.hid oP2
      have FG := Lib.hid fg
      clear oA oA2 oP2 fg gw h2 k3' k4 S hkc hfl
      go_wp2
      refine bodyPost_ret (v := .tuple #[.agg #[.int .i64 (r : Int), .int .i64 c, .slice A L cap], .slice PA n pc]) (by simp [results, go_sem, p0, p1, p2]) rfl ⟨_, _, rfl, ?_, ?_, FG.out⟩
      · refine ⟨_, rfl, ?_, by simp only [I64]; omega, by simp only [I64]; omega⟩
        have e : flat r c (rdTo p r f c).1 = flat r c F := by rw [← HFF.out, HKC.out]
        rw [e]
        exact (OA2.out).wider (Nat.le_refl _) (by simp)
      · have e : (rdTo p r f c).2 = ps := by rw [← HPS.out, HKC.out]
        rw [e]
        exact (OP2.out).wider (Nat.le_refl _) (by simp)
end Go.Proofs.YtgabmemalaklbaaGreat

/- Ranks: the program's rank. -/
namespace Go.Proofs.YtgabmemalaklbaaGreat
set_option linter.unusedVariables false
set_option linter.unusedSimpArgs false
open Go.RowKit

def rkF (p : Int) (r c : Nat) (f : Nat → Nat → Int) : Nat := (rdTo p r f c).2.length
theorem rkF_le (p : Int) (r c : Nat) (f : Nat → Nat → Int) : rkF p r c f ≤ r ∧ rkF p r c f ≤ c := rdTo_len p r f c
set_option maxHeartbeats 1600000 in
set_option maxRecDepth 100000 in
theorem implRank_any (p : Int) (u : Value) (r c : Nat) (f : Nat → Nat → Int) (w0 : World) (hp : isFld p = true) (hr : r ≤ 1000) (hc : c ≤ 1000) (hu : MxR w0 w0.heap.size u (mxF r c f)) (hf : InF p r c f) :
    Calls Tryz.prog 80 #[.int .i64 p, u] w0 fun e w' => e = .returned (.int .i64 (rkF p r c f : Int)) ∧ Below w0.heap.size w0 w' := by
  have hu' := hu
  obtain ⟨UA, uc, rfl⟩ := hu.form
  simp only [mxF] at hu hu' ⊢
  rw [flat_length] at hu hu' ⊢
  obtain ⟨UL, hUL⟩ : ∃ n, r * c = n := ⟨_, rfl⟩
  rw [hUL] at hu hu' ⊢
  clear hUL hu
  obtain ⟨W, hW⟩ : ∃ W, W = w0.alloc (.cells #[.int .i64 r, .int .i64 c, .slice UA UL uc] 62) := ⟨_, rfl⟩
  have g0 : Below w0.heap.size w0 W := by rw [hW]; exact below_alloc _ _
  have kB : Blk W w0.heap.size 62 #[.int .i64 r, .int .i64 c, .slice UA UL uc] := by rw [hW]; exact Blk.new _ _ _
  have HU := Lib.hid (MxR.next g0 hu')
  have HF := Lib.hid hf
  have HP := Lib.hid hp
  have c0 := kB.cell' (i := 0) rfl
  have c1 := kB.cell' (i := 1) rfl
  have c2 := kB.cell' (i := 2) rfl
  clear hu' hf hp kB
  go_enter Tryz.func80, Tryz.ntmps80
  go_wp2_with fail
  rw [← hW]; clear hW
  refine (implReduce_any p _ r c f _ HP.out hr hc HU.out HF.out).mono ?_; rintro e w1 ⟨m, v, rfl, hM, hI, hb1⟩
  obtain ⟨MA, mc, em⟩ := hM.form
  obtain ⟨PA, pc, ev⟩ := hI.form
  subst em ev
  have g1 := bthen g0 hb1
  simp only [mxF]
  obtain ⟨rk, hrk⟩ : ∃ rk, rkF p r c f = rk := ⟨_, rfl⟩
  have hrk2 := hrk
  unfold rkF at hrk2
  rw [hrk2]
  have HRK := Lib.hid hrk
  clear hM hI hb1 g0 c0 c1 c2 hrk hrk2
  go_wp2
  go_ret
  exact ⟨by rw [HRK.out]; rfl, g1.alloc g1.size _⟩

end Go.Proofs.YtgabmemalaklbaaGreat

/- Ranks by counting: the kernel of a matrix has as many vectors as its reduced form says; the inequality of Frobenius. Plain. -/
namespace Go.Proofs.YtgabmemalaklbaaGreat
set_option linter.unusedVariables false
set_option linter.unusedSimpArgs false
open Go.RowKit

/-! ### sums -/
theorem sg_add (a b : Nat → Int) : ∀ n, sgF (fun t => a t + b t) n = sgF a n + sgF b n
  | 0 => rfl
  | n + 1 => by simp only [sgF]; rw [sg_add a b n]; omega
theorem sg_mul (s : Int) (a : Nat → Int) : ∀ n, sgF (fun t => s * a t) n = s * sgF a n
  | 0 => by simp [sgF]
  | n + 1 => by simp only [sgF]; rw [sg_mul s a n, Int.mul_add]
theorem sg_congr {a b : Nat → Int} : ∀ {n}, (∀ t, t < n → a t = b t) → sgF a n = sgF b n
  | 0, _ => rfl
  | n + 1, h => by simp only [sgF]; rw [sg_congr fun t ht => h t (by omega), h n (by omega)]
theorem sg_0 : ∀ n, sgF (fun _ => 0) n = 0
  | 0 => rfl
  | n + 1 => by simp only [sgF]; rw [sg_0 n]; rfl
theorem sg_dvd {p : Int} {a : Nat → Int} : ∀ {n}, (∀ t, t < n → p ∣ a t) → p ∣ sgF a n
  | 0, _ => ⟨0, by simp [sgF]⟩
  | n + 1, h => Int.dvd_add (sg_dvd fun t ht => h t (by omega)) (h n (by omega))
theorem sg_sub (a b : Nat → Int) : ∀ n, sgF (fun t => a t - b t) n = sgF a n - sgF b n
  | 0 => rfl
  | n + 1 => by simp only [sgF]; rw [sg_sub a b n]; omega
theorem sg_swap (h : Nat → Nat → Int) (m : Nat) : ∀ n, sgF (fun s => sgF (fun t => h s t) m) n = sgF (fun t => sgF (fun s => h s t) n) m
  | 0 => by simp only [sgF]; rw [sg_0]
  | n + 1 => by
    simp only [sgF]
    rw [sg_swap h m n, ← sg_add]
theorem sg_one {h : Nat → Int} {b0 : Nat} : ∀ {n}, b0 < n → sgF (fun b => if b = b0 then h b else 0) n = h b0
  | n + 1, hb => by
    simp only [sgF]
    by_cases e : n = b0
    · rw [if_pos e, sg_congr (b := fun _ => 0) fun t ht => if_neg (by omega), sg_0, e]; omega
    · rw [if_neg e, sg_one (by omega)]; omega
theorem emod_cg (p a : Int) : p ∣ a % p - a := ⟨-(a / p), by rw [Int.emod_def, Int.mul_neg]; omega⟩
theorem cg_dvd {p a b : Int} (h : p ∣ a - b) : p ∣ a ↔ p ∣ b := by
  constructor
  · intro k
    have := Int.dvd_sub k h
    rwa [show a - (a - b) = b by omega] at this
  · intro k
    have := Int.dvd_add h k
    rwa [show a - b + b = a by omega] at this
theorem cg_mulL {p a b : Int} (x : Int) (h : p ∣ a - b) : p ∣ a * x - b * x := by
  rw [← Int.sub_mul]; exact Int.dvd_mul_of_dvd_left h
theorem cg_mulR {p a b : Int} (x : Int) (h : p ∣ a - b) : p ∣ x * a - x * b := by
  rw [← Int.mul_sub]; exact Int.dvd_mul_of_dvd_right h
theorem sg_cg {p : Int} {a b : Nat → Int} {n : Nat} (h : ∀ t, t < n → p ∣ a t - b t) : p ∣ sgF a n - sgF b n := by
  rw [← sg_sub]; exact sg_dvd h

/-! ### the kernel and the steps of elimination -/
def Ker (p : Int) (r : Nat) (f : Nat → Nat → Int) (k : Nat) (x : Nat → Int) : Prop := ∀ i, i < r → p ∣ sgF (fun t => f i t * x t) k
theorem ker_congr {p : Int} {r k : Nat} {f : Nat → Nat → Int} {x y : Nat → Int} (h : ∀ t, t < k → p ∣ x t - y t) : Ker p r f k x ↔ Ker p r f k y :=
  ⟨fun hx i hi => (cg_dvd (sg_cg fun t ht => cg_mulR (f i t) (h t ht))).1 (hx i hi), fun hx i hi => (cg_dvd (sg_cg fun t ht => cg_mulR (f i t) (h t ht))).2 (hx i hi)⟩
theorem ker_sw {p : Int} {r n t k : Nat} {f : Nat → Nat → Int} {x : Nat → Int} (hn : n < r) (ht : t < r) : Ker p r (swA n t f) k x ↔ Ker p r f k x := by
  constructor
  · intro h i hi
    by_cases e : i = t
    · subst e
      have := h n hn
      simpa only [swA, if_true] using this
    · by_cases e2 : i = n
      · subst e2
        have := h t ht
        simp only [swA] at this
        by_cases e3 : t = i
        · exact absurd e3.symm e
        · simpa only [if_neg e3, if_true] using this
      · have := h i hi
        simpa only [swA, if_neg e, if_neg e2] using this
  · intro h i hi
    simp only [swA]
    by_cases e : i = n
    · simp only [if_pos e]; exact h t ht
    · by_cases e2 : i = t
      · simp only [if_neg e, if_pos e2]; exact h n hn
      · simp only [if_neg e, if_neg e2]; exact h i hi
theorem ker_sc {p s y : Int} {r n k : Nat} {f : Nat → Nat → Int} {x : Nat → Int} (hs : p ∣ s * y - 1) : Ker p r (scA p n s f) k x ↔ Ker p r f k x := by
  have key : ∀ i, (p ∣ sgF (fun t => scA p n s f i t * x t) k) ↔ p ∣ sgF (fun t => f i t * x t) k := by
    intro i
    by_cases e : i = n
    · have h1 : p ∣ sgF (fun t => scA p n s f i t * x t) k - s * sgF (fun t => f i t * x t) k := by
        rw [← sg_mul]
        refine sg_cg fun t _ => ?_
        simp only [scA, if_pos e]
        rw [← Int.mul_assoc, Int.mul_comm s]
        exact cg_mulL _ (emod_cg _ _)
      rw [cg_dvd h1]
      constructor
      · intro h
        obtain ⟨c, hc⟩ := h
        obtain ⟨d, hd⟩ := hs
        refine ⟨c * y - d * sgF (fun t => f i t * x t) k, ?_⟩
        rw [Int.mul_sub, ← Int.mul_assoc, ← hc, ← Int.mul_assoc, ← hd, Int.sub_mul, Int.one_mul]
        rw [show s * sgF (fun t => f i t * x t) k * y = s * y * sgF (fun t => f i t * x t) k by rw [Int.mul_right_comm]]
        omega
      · exact fun h => Int.dvd_mul_of_dvd_right h
    · simp only [scA, if_neg e]
  exact ⟨fun h i hi => (key i).1 (h i hi), fun h i hi => (key i).2 (h i hi)⟩
theorem ker_el {p : Int} {r n k m : Nat} {f : Nat → Nat → Int} {x : Nat → Int} (hn : n < r) : Ker p r (elA p n k f) m x ↔ Ker p r f m x := by
  have key : ∀ i, i ≠ n → p ∣ sgF (fun t => elA p n k f i t * x t) m - (sgF (fun t => f i t * x t) m + (p - f i k) * sgF (fun t => f n t * x t) m) := by
    intro i hi
    rw [← sg_mul, ← sg_add]
    refine sg_cg fun t _ => ?_
    simp only [elA, if_pos hi]
    rw [← Int.mul_assoc, ← Int.add_mul]
    exact cg_mulL _ (emod_cg _ _)
  constructor
  · intro h i hi
    have hn' := h n hn
    simp only [elA, ne_eq, not_true_eq_false, if_false] at hn'
    by_cases e : i = n
    · rw [e]; exact hn'
    · have h1 := (cg_dvd (key i e)).1 (h i hi)
      have := Int.dvd_sub h1 (Int.dvd_mul_of_dvd_right (b := p - f i k) hn')
      rwa [Int.add_sub_cancel] at this
  · intro h i hi
    by_cases e : i = n
    · subst e
      simp only [elA, ne_eq, not_true_eq_false, if_false]
      exact h i hi
    · exact (cg_dvd (key i e)).2 (Int.dvd_add (h i hi) (Int.dvd_mul_of_dvd_right (h n hn)))
theorem inv_cg {p x : Int} (hp : isFld p = true) (h1 : 1 ≤ x) (h2 : x ≤ p - 1) : p ∣ invP p x * x - 1 := by
  obtain ⟨_, _, h, _⟩ := invP_ok hp h1 h2
  rw [Int.mul_comm]
  have := emod_cg p (x * invP p x)
  rw [h] at this
  have := Int.dvd_neg.2 this
  rwa [Int.neg_sub] at this
theorem ker_to {p : Int} {r c : Nat} {f : Nat → Nat → Int} (hp : isFld p = true) (hp2 : 2 ≤ p) (hf : InF p r c f) : ∀ k, k ≤ c → ∀ m x, Ker p r (rdTo p r f k).1 m x ↔ Ker p r f m x
  | 0, _, _, _ => Iff.rfl
  | k + 1, hk, m, x => by
    have ih := ker_to hp hp2 hf k (by omega) m x
    have hg := inF_to hp2 hf k
    have hl := (rdTo_len p r f k).1
    simp only [rdTo]
    split
    · rename_i h1
      have hn := nzF_le (f := (rdTo p r f k).1) (k := k) hl
      have hne := nzF_ne hl h1
      have hr := hg _ k h1 (by omega)
      rw [← ih, rdF, ker_el (by omega), ker_sc (y := swA (rdTo p r f k).2.length (nzF (rdTo p r f k).1 k (rdTo p r f k).2.length r) (rdTo p r f k).1 (rdTo p r f k).2.length k), ker_sw (by omega) h1]
      simp only [swA, if_true]
      exact inv_cg hp (by omega) hr.2
    · exact ih

/-! ### the reduced form -/
structure Rd (r : Nat) (g : Nat → Nat → Int) (ps : List Int) (k : Nat) : Prop where
  pos : ∀ j, j < ps.length → ∃ b : Nat, ps[j]? = some (b : Int) ∧ b < k ∧ ∀ i, i < r → g i b = if i = j then 1 else 0
  low : ∀ i b, ps.length ≤ i → i < r → b < k → g i b = 0
theorem nzF_0 {f : Nat → Nat → Int} {k n r : Nat} (h : ¬ nzF f k n r < r) {i : Nat} (h1 : n ≤ i) (h2 : i < r) : f i k = 0 := by
  apply Classical.byContradiction
  intro hne
  apply h
  have key : ∀ m a, a ≤ i → i < a + m → nzGo f k a m < a + m := by
    intro m
    induction m with
    | zero => intro a h3 h4; omega
    | succ m ih =>
      intro a h3 h4
      simp only [nzGo]
      split
      · rename_i h5
        have : a ≠ i := by rintro rfl; exact hne h5
        have := ih (a + 1) (by omega) (by omega)
        omega
      · omega
  have := key (r - n) n h1 (by omega)
  unfold nzF
  omega
theorem rd_step {p : Int} {r c k t : Nat} {g : Nat → Nat → Int} {ps : List Int} (hp : isFld p = true) (hp2 : 2 ≤ p) (hg : InF p r c g) (hk : k < c) (ih : Rd r g ps k) (hn : ps.length ≤ t) (ht : t < r) (hne : g t k ≠ 0) :
    Rd r (elA p ps.length k (scA p ps.length (invP p (swA ps.length t g ps.length k)) (swA ps.length t g))) (ps ++ [(k : Int)]) (k + 1) := by
  obtain ⟨hpos, hlow⟩ := ih
  have hr := hg t k ht hk
  have h01 : (0 : Int) % p = 0 := Int.zero_emod p
  have h11 : (1 : Int) % p = 1 := Int.emod_eq_of_lt (by omega) (by omega)
  generalize hN : ps.length = n at *
  have hs : swA n t g n k = g t k := by simp [swA]
  rw [hs]
  obtain ⟨_, _, hi1, _⟩ := invP_ok hp (show 1 ≤ g t k by omega) hr.2
  generalize hS : invP p (g t k) = s at *
  have e_nk : scA p n s (swA n t g) n k = 1 := by simp only [scA, if_true, swA]; exact hi1
  have sw_lo : ∀ i b, n ≤ i → i < r → b < k → swA n t g i b = 0 := by
    intro i b h2 h3 h4
    simp only [swA]
    split
    · exact hlow t b hn ht h4
    · split
      · exact hlow _ b (Nat.le_refl _) (by omega) h4
      · exact hlow i b h2 h3 h4
  have sc_lo : ∀ i b, n ≤ i → i < r → b < k → scA p n s (swA n t g) i b = 0 := by
    intro i b h2 h3 h4
    simp only [scA]
    split
    · rw [sw_lo i b h2 h3 h4, Int.zero_mul, h01]
    · exact sw_lo i b h2 h3 h4
  constructor
  · intro j hj
    rw [List.length_append, List.length_singleton, hN] at hj
    by_cases e : j < n
    · obtain ⟨b, h5, h6, h7⟩ := hpos j e
      refine ⟨b, by rw [List.getElem?_append_left (by omega)]; exact h5, by omega, fun i hi => ?_⟩
      have hnb : scA p n s (swA n t g) n b = 0 := sc_lo n b (Nat.le_refl _) (by omega) h6
      simp only [elA]
      by_cases hin : i = n
      · rw [if_neg (by simpa using hin), hin, hnb, if_neg (by omega)]
      · rw [if_pos hin, hnb, Int.mul_zero, Int.add_zero]
        rcases Nat.lt_or_ge i n with hlt | hge
        · have : scA p n s (swA n t g) i b = g i b := by simp only [scA, if_neg hin, swA]; rw [if_neg (by omega)]
          rw [this, h7 i hi]
          split
          · exact h11
          · exact h01
        · rw [sc_lo i b hge hi h6, h01, if_neg (by omega)]
    · obtain rfl : j = n := by omega
      refine ⟨k, by rw [List.getElem?_append_right (by omega), hN]; simp, by omega, fun i hi => ?_⟩
      simp only [elA]
      by_cases hin : i = j
      · rw [if_neg (by simpa using hin), hin, e_nk, if_pos rfl]
      · rw [if_pos hin, e_nk, if_neg hin, Int.mul_one]
        rw [show scA p j s (swA j t g) i k + (p - scA p j s (swA j t g) i k) = p by omega, Int.emod_self]
  · intro i b h2 h3 h4
    rw [List.length_append, List.length_singleton, hN] at h2
    simp only [elA]
    rw [if_pos (by omega)]
    rcases Nat.lt_or_ge b k with hlt | hge
    · rw [sc_lo i b (by omega) h3 hlt, sc_lo n b (Nat.le_refl _) (by omega) hlt, Int.mul_zero, Int.add_zero, h01]
    · obtain rfl : b = k := by omega
      rw [e_nk, Int.mul_one, show scA p n s (swA n t g) i b + (p - scA p n s (swA n t g) i b) = p by omega, Int.emod_self]
theorem rd_to {p : Int} {r c : Nat} {f : Nat → Nat → Int} (hp : isFld p = true) (hp2 : 2 ≤ p) (hf : InF p r c f) : ∀ k, k ≤ c → Rd r (rdTo p r f k).1 (rdTo p r f k).2 k
  | 0, _ => ⟨fun j hj => absurd hj (by simp [rdTo]), fun i b _ _ hb => absurd hb (by omega)⟩
  | k + 1, hk => by
    have ih := rd_to hp hp2 hf k (by omega)
    have hg := inF_to hp2 hf k
    have hl := (rdTo_len p r f k).1
    simp only [rdTo]
    split
    · rename_i h1
      have hn := nzF_le (f := (rdTo p r f k).1) (k := k) hl
      have hne := nzF_ne hl h1
      exact rd_step hp hp2 hg (by omega) ih hn.1 h1 hne
    · rename_i h1
      refine ⟨fun j hj => ?_, fun i b h2 h3 h4 => ?_⟩
      · obtain ⟨b, h5, h6, h7⟩ := ih.pos j hj
        exact ⟨b, h5, by omega, h7⟩
      · rcases Nat.lt_or_ge b k with h | h
        · exact ih.low i b h2 h3 h
        · obtain rfl : b = k := by omega
          exact nzF_0 h1 h2 h3
/-! ### counting -/
theorem len_le_sub {α : Type} : ∀ {l m : List α}, l.Nodup → (∀ x ∈ l, x ∈ m) → l.length ≤ m.length
  | [], _, _, _ => Nat.zero_le _
  | a :: l, m, hn, hs => by
    obtain ⟨s, t, rfl⟩ := List.append_of_mem (hs a (by simp))
    rw [List.nodup_cons] at hn
    have := len_le_sub (l := l) (m := s ++ t) hn.2 (fun x hx => by
      have h1 := hs x (by simp [hx])
      have h2 : x ≠ a := fun e => hn.1 (e ▸ hx)
      simp only [List.mem_append, List.mem_cons] at h1 ⊢
      rcases h1 with h1 | h1 | h1
      · exact .inl h1
      · exact absurd h1 h2
      · exact .inr h1)
    simp only [List.length_cons, List.length_append] at this ⊢
    omega
theorem nodup_map {α β : Type} {φ : α → β} : ∀ {l : List α}, l.Nodup → (∀ x ∈ l, ∀ y ∈ l, φ x = φ y → x = y) → (l.map φ).Nodup
  | [], _, _ => by simp
  | a :: l, hn, hi => by
    rw [List.nodup_cons] at hn
    rw [List.map_cons, List.nodup_cons]
    refine ⟨fun h => ?_, nodup_map hn.2 fun x hx y hy => hi x (by simp [hx]) y (by simp [hy])⟩
    obtain ⟨y, hy, e⟩ := List.mem_map.1 h
    have := hi y (by simp [hy]) a (by simp) e
    exact hn.1 (this ▸ hy)
theorem inj_le {α β : Type} {φ : α → β} {l : List α} {m : List β} (hn : l.Nodup) (hi : ∀ x ∈ l, ∀ y ∈ l, φ x = φ y → x = y) (hm : ∀ x ∈ l, φ x ∈ m) : l.length ≤ m.length := by
  rw [← List.length_map (f := φ)]
  exact len_le_sub (nodup_map hn hi) fun y hy => by obtain ⟨x, hx, rfl⟩ := List.mem_map.1 hy; exact hm x hx
/-- pairs -/
def prs {α β : Type} (l : List α) (m : List β) : List (α × β) := l.flatMap fun x => m.map fun y => (x, y)
theorem prs_mem {α β : Type} {l : List α} {m : List β} {x : α} {y : β} : (x, y) ∈ prs l m ↔ x ∈ l ∧ y ∈ m := by
  simp only [prs, List.mem_flatMap, List.mem_map, Prod.mk.injEq]
  constructor
  · rintro ⟨a, ha, b, hb, rfl, rfl⟩; exact ⟨ha, hb⟩
  · rintro ⟨h1, h2⟩; exact ⟨x, h1, y, h2, rfl, rfl⟩
theorem prs_len {α β : Type} (m : List β) : ∀ l : List α, (prs l m).length = l.length * m.length
  | [] => by simp [prs]
  | a :: l => by
    have ih := prs_len m l
    simp only [prs, List.flatMap_cons, List.length_append, List.length_map, List.length_cons] at ih ⊢
    rw [ih, Nat.add_mul]; omega
theorem nodup_append {α : Type} {l m : List α} (h1 : l.Nodup) (h2 : m.Nodup) (h : ∀ x ∈ l, x ∉ m) : (l ++ m).Nodup := by
  rw [List.nodup_append]
  exact ⟨h1, h2, fun x hx y hy e => h x hx (e ▸ hy)⟩
theorem prs_nodup {α β : Type} {m : List β} (hm : m.Nodup) : ∀ {l : List α}, l.Nodup → (prs l m).Nodup
  | [], _ => by simp [prs]
  | a :: l, hn => by
    rw [List.nodup_cons] at hn
    have ih := prs_nodup hm hn.2
    show (m.map (fun y => (a, y)) ++ prs l m).Nodup
    refine nodup_append (nodup_map hm fun x _ y _ e => by injection e) ih ?_
    rintro ⟨x, y⟩ hx hy
    obtain ⟨z, _, e⟩ := List.mem_map.1 hx
    injection e with e1 e2
    exact hn.1 (e1 ▸ (prs_mem.1 hy).1)
/-- all vectors of n numbers from 0 up to p -/
def vecs (p : Nat) : Nat → List (List Int)
  | 0 => [[]]
  | n + 1 => (prs (vecs p n) (List.range p)).map fun z => z.1 ++ [(z.2 : Int)]
def IsV (p : Nat) (n : Nat) (x : List Int) : Prop := x.length = n ∧ ∀ e ∈ x, 0 ≤ e ∧ e < p
theorem vecs_mem {p : Nat} : ∀ {n : Nat} {x : List Int}, x ∈ vecs p n ↔ IsV p n x
  | 0, x => by
    simp only [vecs, List.mem_singleton, IsV]
    constructor
    · rintro rfl; simp
    · rintro ⟨h, _⟩; exact List.eq_nil_of_length_eq_zero h
  | n + 1, x => by
    simp only [vecs, List.mem_map]
    constructor
    · rintro ⟨⟨y, e⟩, h, rfl⟩
      obtain ⟨h1, h2⟩ := prs_mem.1 h
      obtain ⟨h3, h4⟩ := vecs_mem.1 h1
      rw [List.mem_range] at h2
      refine ⟨by simp [h3], fun z hz => ?_⟩
      simp only [List.mem_append, List.mem_singleton] at hz
      rcases hz with hz | rfl
      · exact h4 z hz
      · omega
    · rintro ⟨h1, h2⟩
      have hne : x ≠ [] := by rintro rfl; simp at h1
      have hl := h2 (x.getLast hne) (List.getLast_mem hne)
      refine ⟨(x.dropLast, (x.getLast hne).toNat), prs_mem.2 ⟨vecs_mem.2 ⟨by simp [h1], fun e he => h2 e (List.dropLast_subset x he)⟩, by rw [List.mem_range]; omega⟩, ?_⟩
      simp only
      rw [show (((x.getLast hne).toNat : Nat) : Int) = x.getLast hne by omega, List.dropLast_concat_getLast]
theorem vecs_nodup (p : Nat) : ∀ n, (vecs p n).Nodup
  | 0 => by simp [vecs]
  | n + 1 => by
    refine nodup_map (prs_nodup List.nodup_range (vecs_nodup p n)) ?_
    rintro ⟨x, a⟩ _ ⟨y, b⟩ _ e
    simp only at e
    have := List.append_inj_right' e rfl
    have h2 := List.append_inj_left' e rfl
    simp only [List.cons.injEq, Int.natCast_inj, and_true] at this
    rw [h2, this]
def at0 (x : List Int) (t : Nat) : Int := x.getD t 0
/-- the vector in reduced numbers -/
def can (p : Nat) (k : Nat) (v : Nat → Int) : List Int := (List.range k).map fun b => v b % (p : Int)
theorem can_v {p : Nat} (hp : 0 < p) (k : Nat) (v : Nat → Int) : IsV p k (can p k v) := by
  refine ⟨by simp [can], fun e he => ?_⟩
  simp only [can, List.mem_map] at he
  obtain ⟨b, _, rfl⟩ := he
  exact ⟨Int.emod_nonneg _ (by omega), Int.emod_lt_of_pos _ (by omega)⟩
theorem can_at {p k t : Nat} (v : Nat → Int) (h : t < k) : at0 (can p k v) t = v t % (p : Int) := by simp [at0, can, h]
theorem v_at {p n t : Nat} {x : List Int} (h : IsV p n x) (ht : t < n) : 0 ≤ at0 x t ∧ at0 x t < p := by
  have hl : t < x.length := by rw [h.1]; exact ht
  rw [at0, List.getD_eq_getElem?_getD, List.getElem?_eq_getElem hl]
  exact h.2 _ (List.getElem_mem hl)
theorem v_ext {p n : Nat} {x y : List Int} (hx : IsV p n x) (hy : IsV p n y) (h : ∀ t, t < n → (p : Int) ∣ at0 x t - at0 y t) : x = y := by
  apply List.ext_getElem (by rw [hx.1, hy.1])
  intro t h1 h2
  have ht : t < n := by rw [← hx.1]; exact h1
  have a := v_at hx ht
  have b := v_at hy ht
  have e : at0 x t = at0 y t := by
    obtain ⟨c, hc⟩ := h t ht
    have : c = 0 := by
      rcases Int.lt_trichotomy c 0 with h | h | h
      · have : (p : Int) * c ≤ (p : Int) * (-1) := Int.mul_le_mul_of_nonneg_left (by omega) (by omega)
        omega
      · exact h
      · have : (p : Int) * 1 ≤ (p : Int) * c := Int.mul_le_mul_of_nonneg_left (by omega) (by omega)
        omega
    rw [this, Int.mul_zero] at hc
    omega
  rw [at0, at0, List.getD_eq_getElem?_getD, List.getD_eq_getElem?_getD, List.getElem?_eq_getElem h1, List.getElem?_eq_getElem h2] at e
  exact e
theorem can_cg (p : Nat) {k t : Nat} (v : Nat → Int) (h : t < k) : (p : Int) ∣ at0 (can p k v) t - v t := by rw [can_at v h]; exact emod_cg _ _
def kerB (p : Nat) (r : Nat) (f : Nat → Nat → Int) (k : Nat) (x : List Int) : Bool := (List.range r).all fun i => decide ((p : Int) ∣ sgF (fun t => f i t * at0 x t) k)
theorem kerB_t {p r k : Nat} {f : Nat → Nat → Int} {x : List Int} : kerB p r f k x = true ↔ Ker p r f k (at0 x) := by
  simp only [kerB, List.all_eq_true, List.mem_range, decide_eq_true_eq]; rfl
def kerL (p : Nat) (r : Nat) (f : Nat → Nat → Int) (k : Nat) : List (List Int) := (vecs p k).filter (kerB p r f k)
theorem kerL_mem {p r k : Nat} {f : Nat → Nat → Int} {x : List Int} : x ∈ kerL p r f k ↔ IsV p k x ∧ Ker p r f k (at0 x) := by
  simp only [kerL, List.mem_filter, vecs_mem, kerB_t]
theorem kerL_nodup (p r : Nat) (f : Nat → Nat → Int) (k : Nat) : (kerL p r f k).Nodup := List.Pairwise.filter _ (vecs_nodup p k)
/-! ### how many vectors the kernel has -/
theorem at0_app {x : List Int} {e : Int} {t : Nat} (h : t < x.length) : at0 (x ++ [e]) t = at0 x t := by
  simp only [at0, List.getD_eq_getElem?_getD]; rw [List.getElem?_append_left h]
theorem at0_last {x : List Int} {e : Int} {k : Nat} (h : x.length = k) : at0 (x ++ [e]) k = e := by
  simp only [at0, List.getD_eq_getElem?_getD]; rw [List.getElem?_append_right (by omega), h]; simp
theorem isV_snoc {p k : Nat} {x : List Int} {e : Int} (h : IsV p k x) (h0 : 0 ≤ e) (h1 : e < p) : IsV p (k + 1) (x ++ [e]) := by
  refine ⟨by simp [h.1], fun z hz => ?_⟩
  simp only [List.mem_append, List.mem_singleton] at hz
  rcases hz with hz | rfl
  · exact h.2 z hz
  · exact ⟨h0, h1⟩
theorem isV_take {p k : Nat} {x : List Int} (h : IsV p (k + 1) x) : IsV p k (x.take k) := ⟨by simp [h.1], fun e he => h.2 e (List.mem_of_mem_take he)⟩
theorem at0_take {x : List Int} {k t : Nat} (h : t < k) : at0 (x.take k) t = at0 x t := by
  simp only [at0, List.getD_eq_getElem?_getD]; rw [List.getElem?_take, if_pos h]
/-- the solution for a column without a leading one -/
theorem sol_at {r k : Nat} {g : Nat → Nat → Int} {ps : List Int} (h : Rd r g ps k) (hc : ∀ i, ps.length ≤ i → i < r → g i k = 0) : ∃ x0 : Nat → Int, ∀ i, i < r → sgF (fun b => g i b * x0 b) k = - g i k := by
  have hps : ∀ j, j < ps.length → ∃ b : Nat, ps.getD j 0 = (b : Int) ∧ b < k ∧ ∀ i, i < r → g i b = if i = j then 1 else 0 := fun j hj => by
    obtain ⟨b, h1, h2⟩ := h.pos j hj
    exact ⟨b, by rw [List.getD_eq_getElem?_getD, h1]; rfl, h2⟩
  refine ⟨fun b => sgF (fun j => if (b : Int) = ps.getD j 0 then - g j k else 0) ps.length, fun i hi => ?_⟩
  have e1 : ∀ b, g i b * sgF (fun j => if (b : Int) = ps.getD j 0 then - g j k else 0) ps.length = sgF (fun j => if (b : Int) = ps.getD j 0 then g i b * - g j k else 0) ps.length := by
    intro b
    rw [← sg_mul]
    refine sg_congr fun j _ => ?_
    split <;> simp
  rw [sg_congr fun b _ => e1 b, sg_swap]
  have e2 : ∀ j, j < ps.length → sgF (fun b : Nat => if (b : Int) = ps.getD j 0 then g i b * - g j k else 0) k = if j = i then - g j k else 0 := by
    intro j hj
    obtain ⟨b, h1, h2, h3⟩ := hps j hj
    rw [sg_congr (b := fun t => if t = b then g i t * - g j k else 0) fun t _ => by rw [h1]; simp only [Int.natCast_inj]]
    rw [sg_one h2, h3 i hi]
    by_cases e : i = j
    · subst e; simp
    · rw [if_neg e, if_neg (by omega)]; simp
  rw [sg_congr e2]
  rcases Nat.lt_or_ge i ps.length with hlt | hge
  · rw [sg_one (h := fun j => - g j k) hlt]
  · rw [sg_congr (b := fun _ => 0) fun t ht => if_neg (by omega), sg_0, hc i hge hi]; rfl
theorem cnt_piv {p r c k t : Nat} {g : Nat → Nat → Int} (hp : isFld p = true) (hp2 : 2 ≤ p) (hg : InF p r c g) (hk : k < c) {ps : List Int} (h : Rd r g ps k) (h1 : ps.length ≤ t) (h2 : t < r) (hne : g t k ≠ 0) : (kerL p r g (k + 1)).length = (kerL p r g k).length := by
  have hr := hg t k h2 hk
  have last0 : ∀ x, x ∈ kerL p r g (k + 1) → at0 x k = 0 := by
    intro x hx
    obtain ⟨hv, hK⟩ := kerL_mem.1 hx
    have h3 := hK t h2
    simp only [sgF] at h3
    rw [sg_congr (b := fun _ => 0) (fun b hb => by rw [h.low t b h1 h2 hb, Int.zero_mul]), sg_0, Int.zero_add] at h3
    have h4 := inv_cg hp (show 1 ≤ g t k by omega) hr.2
    have h5 : (p : Int) ∣ at0 x k := by
      have h6 : (p : Int) ∣ invP p (g t k) * (g t k * at0 x k) := Int.dvd_mul_of_dvd_right h3
      rw [← Int.mul_assoc] at h6
      have h7 := cg_mulL (at0 x k) h4
      rw [Int.one_mul] at h7
      exact (cg_dvd h7).1 h6
    have h6 := v_at hv (Nat.lt_succ_self k)
    obtain ⟨m, hm⟩ := h5
    have : m = 0 := by
      rcases Int.lt_trichotomy m 0 with h | h | h
      · have : (p : Int) * m ≤ (p : Int) * (-1) := Int.mul_le_mul_of_nonneg_left (by omega) (by omega)
        omega
      · exact h
      · have : (p : Int) * 1 ≤ (p : Int) * m := Int.mul_le_mul_of_nonneg_left (by omega) (by omega)
        omega
    rw [this, Int.mul_zero] at hm
    exact hm
  apply Nat.le_antisymm
  · refine inj_le (φ := fun x => x.take k) (kerL_nodup _ _ _ _) ?_ ?_
    · intro x hx y hy e
      obtain ⟨hxv, _⟩ := kerL_mem.1 hx
      obtain ⟨hyv, _⟩ := kerL_mem.1 hy
      refine v_ext hxv hyv fun t ht => ?_
      by_cases e3 : t < k
      · rw [← at0_take (x := x) e3, ← at0_take (x := y) e3]
        rw [show x.take k = y.take k from e, Int.sub_self]; exact Int.dvd_zero _
      · obtain rfl : t = k := by omega
        rw [last0 x hx, last0 y hy]; exact Int.dvd_zero _
    · intro x hx
      obtain ⟨hv, hK⟩ := kerL_mem.1 hx
      refine kerL_mem.2 ⟨isV_take hv, fun i hi => ?_⟩
      have h3 := hK i hi
      simp only [sgF] at h3
      rw [last0 x hx, Int.mul_zero, Int.add_zero] at h3
      rw [sg_congr fun b hb => by rw [at0_take hb]]
      exact h3
  · refine inj_le (φ := fun x => x ++ [0]) (kerL_nodup _ _ _ _) (fun x _ y _ e => List.append_inj_left' e rfl) ?_
    intro x hx
    obtain ⟨hv, hK⟩ := kerL_mem.1 hx
    refine kerL_mem.2 ⟨isV_snoc hv (by omega) (by omega), fun i hi => ?_⟩
    simp only [sgF]
    rw [at0_last hv.1, Int.mul_zero, Int.add_zero, sg_congr fun b hb => by rw [at0_app (by rw [hv.1]; exact hb)]]
    exact hK i hi
theorem cnt_free {p r k : Nat} {g : Nat → Nat → Int} (hp2 : 2 ≤ p) {x0 : Nat → Int} (h : ∀ i, i < r → sgF (fun b => g i b * x0 b) k = - g i k) : (kerL p r g (k + 1)).length = (kerL p r g k).length * p := by
  have hp0 : 0 < p := by omega
  have lin : ∀ i, i < r → ∀ (x : Nat → Int) (y : Int), sgF (fun b => g i b * (x b + y * x0 b)) k = sgF (fun b => g i b * x b) k - g i k * y := by
    intro i hi x y
    have : ∀ b, g i b * (x b + y * x0 b) = g i b * x b + y * (g i b * x0 b) := fun b => by
      rw [Int.mul_add, ← Int.mul_assoc, ← Int.mul_assoc, Int.mul_comm (g i b) y]
    rw [sg_congr fun b _ => this b, sg_add, sg_mul, h i hi, Int.mul_neg, Int.mul_comm y]
    omega
  have hl : (prs (kerL p r g k) (List.range p)).length = (kerL p r g k).length * p := by rw [prs_len, List.length_range]
  rw [← hl]
  apply Nat.le_antisymm
  · refine inj_le (φ := fun x => (can p k (fun b => at0 x b + (- at0 x k) * x0 b), (at0 x k).toNat)) (kerL_nodup _ _ _ _) ?_ ?_
    · intro x hx y hy e
      obtain ⟨hxv, _⟩ := kerL_mem.1 hx
      obtain ⟨hyv, _⟩ := kerL_mem.1 hy
      have ax := v_at hxv (Nat.lt_succ_self k)
      have ay := v_at hyv (Nat.lt_succ_self k)
      injection e with e1 e2
      have e3 : at0 x k = at0 y k := by omega
      refine v_ext hxv hyv fun t ht => ?_
      by_cases e4 : t < k
      · have c1 := can_cg p (fun b => at0 x b + (- at0 x k) * x0 b) e4
        have c2 := can_cg p (fun b => at0 y b + (- at0 y k) * x0 b) e4
        rw [e1] at c1
        have := Int.dvd_sub c2 c1
        simp only [e3] at this
        rwa [show ∀ a b c d : Int, a - (b + c) - (a - (d + c)) = d - b by intros; omega] at this
      · obtain rfl : t = k := by omega
        rw [e3, Int.sub_self]; exact Int.dvd_zero _
    · intro x hx
      obtain ⟨hv, hK⟩ := kerL_mem.1 hx
      have ax := v_at hv (Nat.lt_succ_self k)
      refine prs_mem.2 ⟨kerL_mem.2 ⟨can_v hp0 _ _, ?_⟩, by rw [List.mem_range]; omega⟩
      rw [ker_congr fun t ht => can_cg p _ ht]
      intro i hi
      rw [lin i hi]
      have h3 := hK i hi
      simp only [sgF] at h3
      rw [Int.mul_neg, Int.sub_neg]
      exact h3
  · refine inj_le (φ := fun z => can p k (fun b => at0 z.1 b + (z.2 : Int) * x0 b) ++ [(z.2 : Int)]) (prs_nodup List.nodup_range (kerL_nodup _ _ _ _)) ?_ ?_
    · rintro ⟨x, a⟩ hx ⟨y, b⟩ hy e
      obtain ⟨hxv, _⟩ := kerL_mem.1 (prs_mem.1 hx).1
      obtain ⟨hyv, _⟩ := kerL_mem.1 (prs_mem.1 hy).1
      have e2 := List.append_inj_right' e rfl
      have e1 := List.append_inj_left' e rfl
      simp only [List.cons.injEq, Int.natCast_inj, and_true] at e2
      subst e2
      have : x = y := v_ext hxv hyv fun t ht => by
        have c1 := can_cg p (fun b => at0 x b + (a : Int) * x0 b) ht
        have c2 := can_cg p (fun b => at0 y b + (a : Int) * x0 b) ht
        rw [show can p k (fun b => at0 x b + (a : Int) * x0 b) = can p k (fun b => at0 y b + (a : Int) * x0 b) from e1] at c1
        have := Int.dvd_sub c2 c1
        try simp only at this
        rwa [show ∀ a b c d : Int, a - (b + c) - (a - (d + c)) = d - b by intros; omega] at this
      rw [this]
    · rintro ⟨x, a⟩ hx
      obtain ⟨h1, h2⟩ := prs_mem.1 hx
      obtain ⟨hv, hK⟩ := kerL_mem.1 h1
      rw [List.mem_range] at h2
      have hcv := can_v hp0 k (fun b => at0 x b + (a : Int) * x0 b)
      refine kerL_mem.2 ⟨isV_snoc hcv (by omega) (by omega), fun i hi => ?_⟩
      simp only [sgF]
      rw [at0_last hcv.1, sg_congr fun b hb => by rw [at0_app (by rw [hcv.1]; exact hb)]]
      have h3 : (p : Int) ∣ sgF (fun b => g i b * at0 (can p k fun b => at0 x b + (a : Int) * x0 b) b) k - sgF (fun b => g i b * (at0 x b + (a : Int) * x0 b)) k := sg_cg fun t ht => cg_mulR _ (can_cg p _ ht)
      rw [lin i hi] at h3
      have := Int.dvd_add h3 (hK i hi)
      rwa [show ∀ a b c : Int, a - (b - c) + b = a + c by intros; omega] at this
theorem kerL_congr {p r k : Nat} {f g : Nat → Nat → Int} (h : ∀ x, Ker p r f k x ↔ Ker p r g k x) : (kerL p r f k).length = (kerL p r g k).length := by
  apply Nat.le_antisymm <;> refine len_le_sub (kerL_nodup _ _ _ _) fun x hx => ?_
  · obtain ⟨a, b⟩ := kerL_mem.1 hx; exact kerL_mem.2 ⟨a, (h _).1 b⟩
  · obtain ⟨a, b⟩ := kerL_mem.1 hx; exact kerL_mem.2 ⟨a, (h _).2 b⟩
theorem ker_cnt {p r c : Nat} {f : Nat → Nat → Int} (hp : isFld p = true) (hp2 : 2 ≤ p) (hf : InF p r c f) : ∀ k, k ≤ c → (kerL p r f k).length * p ^ (rdTo p r f k).2.length = p ^ k
  | 0, _ => by
    have : kerL p r f 0 = [[]] := by
      simp only [kerL, vecs]
      rw [List.filter_cons_of_pos, List.filter_nil]
      rw [kerB_t]
      intro i _; exact Int.dvd_zero _
    rw [this]; simp [rdTo]
  | k + 1, hk => by
    have ih := ker_cnt hp hp2 hf k (by omega)
    have hR := rd_to hp (by omega) hf k (by omega)
    have hg := inF_to (show (2 : Int) ≤ p by omega) hf k
    have hl := (rdTo_len p r f k).1
    have e1 := kerL_congr (p := p) (r := r) (k := k) (f := (rdTo p r f k).1) (g := f) fun x => ker_to hp (by omega) hf k (by omega) k x
    have e2 := kerL_congr (p := p) (r := r) (k := k + 1) (f := (rdTo p r f k).1) (g := f) fun x => ker_to hp (by omega) hf k (by omega) (k + 1) x
    rw [← e1] at ih
    rw [← e2]
    simp only [rdTo]
    split
    · rename_i h1
      have hn := nzF_le (f := (rdTo p r f k).1) (k := k) hl
      rw [cnt_piv hp hp2 hg (by omega) hR hn.1 h1 (nzF_ne hl h1), List.length_append, List.length_singleton, Nat.pow_succ, ← Nat.mul_assoc, ih, Nat.pow_succ]
    · rename_i h1
      obtain ⟨x0, hx⟩ := sol_at hR fun i h2 h3 => nzF_0 h1 h2 h3
      rw [cnt_free hp2 hx, Nat.mul_right_comm, ih, Nat.pow_succ]
theorem rk_cnt {p r c : Nat} {f : Nat → Nat → Int} (hp : isFld p = true) (hp2 : 2 ≤ p) (hf : InF p r c f) : (kerL p r f c).length * p ^ rkF p r c f = p ^ c := ker_cnt hp hp2 hf c (Nat.le_refl c)
/-- a matrix times a vector -/
def appF (f : Nat → Nat → Int) (c : Nat) (x : Nat → Int) (i : Nat) : Int := sgF (fun t => f i t * x t) c
end Go.Proofs.YtgabmemalaklbaaGreat

/- RankTable: plain part. -/
namespace Go.Proofs.YtgabmemalaklbaaGreat
set_option linter.unusedVariables false
set_option linter.unusedSimpArgs false
open Go.RowKit

/-- the dimension at a vertex; the map of the arrow from there to the next one -/
def dN (x : Rp) (j : Nat) : Nat := (x.d.getD j 0).toNat
def mpF (x : Rp) (j : Nat) : Nat → Nat → Int := entry (x.m.getD j mx0).a (dN x j)
/-- the map from v to v + n -/
def pdF (x : Rp) (v : Nat) : Nat → Nat → Nat → Int
  | 0 => idF
  | n + 1 => muP x.p (dN x (v + n)) (mpF x (v + n)) (pdF x v n)
def rtF (x : Rp) (v w : Nat) : Int := if w < v then 0 else (rkF x.p (dN x w) (dN x v) (pdF x v (w - v)) : Int)
def okL (x : Rp) : Bool := isRep x && isL x.q
def rtM (x : Rp) : List (List Int) × Bool := if okL x then (matF x.d.length (rtF x), true) else ([], false)
def rtA (L : Nat) (f : Nat → Nat → Int) (v : Nat) : List (List Int) := (List.range L).map fun a => if a < v then rowF L (f a) else []
def rtR (L : Nat) (f : Nat → Nat → Int) (v k : Nat) : List Int := rowF L fun b => if b < k then f v b else 0
def rtBB (L : Nat) (f : Nat → Nat → Int) (v k : Nat) : List (List Int) := (List.range L).map fun a => if a < v then rowF L (f a) else if a = v then rtR L f v k else []
theorem rtA_0 (L : Nat) (f : Nat → Nat → Int) : rtA L f 0 = List.replicate L [] := by
  simp only [rtA]
  rw [← List.length_range (n := L), ← List.map_const', List.length_range]
  refine List.map_congr_left fun a _ => ?_
  rw [if_neg (by omega)]
theorem rtA_length (L : Nat) (f : Nat → Nat → Int) (v : Nat) : (rtA L f v).length = L := by simp [rtA]
theorem rtBB_get {L v : Nat} (f : Nat → Nat → Int) (k : Nat) (h : v < L) : (rtBB L f v k)[v]? = some (rtR L f v k) := by
  simp [rtBB, h]
theorem rtR_0 (L : Nat) (f : Nat → Nat → Int) (v : Nat) : List.replicate L 0 = rtR L f v 0 := by
  rw [show List.replicate L (0 : Int) = rowF L (fun _ => 0) from by rw [rowF, List.map_const', List.length_range]]
  exact rowF_congr fun b _ => by rw [if_neg (by omega)]
theorem rtR_set {L v k : Nat} (f : Nat → Nat → Int) : (rtR L f v k).set k (f v k) = rtR L f v (k + 1) := by
  rw [rtR, rowF_set]
  refine rowF_congr fun b _ => ?_
  by_cases e : b = k
  · rw [if_pos e, if_pos (by omega), e]
  · rw [if_neg e]
    by_cases h : b < k
    · rw [if_pos h, if_pos (by omega)]
    · rw [if_neg h, if_neg (by omega)]
theorem rtR_diag {L v : Nat} (f : Nat → Nat → Int) (h0 : ∀ w, w < v → f v w = 0) : (rtR L f v 0).set v (f v v) = rtR L f v (v + 1) := by
  rw [rtR, rowF_set]
  refine rowF_congr fun b _ => ?_
  by_cases e : b = v
  · rw [if_pos e, if_pos (by omega), e]
  · rw [if_neg e, if_neg (by omega)]
    by_cases h : b < v
    · rw [if_pos (by omega), h0 b h]
    · rw [if_neg (by omega)]
theorem rt_set {L v : Nat} {F G : Nat → List Int} {r : List Int} (h : ∀ a, a ≠ v → F a = G a) (hv : G v = r) : ((List.range L).map F).set v r = (List.range L).map G := by
  apply List.ext_getElem?
  intro a
  rw [List.getElem?_set, List.length_map, List.length_range]
  by_cases ha : a < L
  · by_cases e : v = a
    · subst e
      rw [if_pos rfl, if_pos ha]
      simp [ha, hv]
    · rw [if_neg e]
      simp [ha, h a (fun h => e h.symm)]
  · by_cases e : v = a
    · subst e
      rw [if_pos rfl, if_neg ha]
      simp [Nat.le_of_not_lt ha]
    · rw [if_neg e]
      simp [Nat.le_of_not_lt ha]
theorem rtA_set {L v : Nat} (f : Nat → Nat → Int) : (rtA L f v).set v (List.replicate L 0) = rtBB L f v 0 := by
  refine rt_set (fun a ha => ?_) ?_
  · by_cases h : a < v
    · rw [if_pos h, if_pos h]
    · rw [if_neg h, if_neg h, if_neg ha]
  · rw [if_neg (by omega), if_pos rfl]
    exact (rtR_0 L f v).symm
theorem rtBB_set {L v k k' : Nat} (f : Nat → Nat → Int) : (rtBB L f v k).set v (rtR L f v k') = rtBB L f v k' := by
  refine rt_set (fun a ha => ?_) ?_
  · by_cases h : a < v
    · rw [if_pos h, if_pos h]
    · rw [if_neg h, if_neg h, if_neg ha, if_neg ha]
  · rw [if_neg (by omega), if_pos rfl]
theorem rtR_end (L : Nat) (f : Nat → Nat → Int) (v : Nat) : rtR L f v L = rowF L (f v) := rowF_congr fun b hb => by rw [if_pos hb]
theorem rtBB_end (L : Nat) (f : Nat → Nat → Int) (v : Nat) : rtBB L f v L = rtA L f (v + 1) := by
  refine List.map_congr_left fun a _ => ?_
  by_cases h : a < v
  · rw [if_pos h, if_pos (by omega)]
  · rw [if_neg h]
    by_cases e : a = v
    · rw [if_pos e, if_pos (by omega), rtR_end, e]
    · rw [if_neg e, if_neg (by omega)]
theorem rtA_end (L : Nat) (f : Nat → Nat → Int) : rtA L f L = matF L f := List.map_congr_left fun a ha => by rw [if_pos (List.mem_range.1 ha)]

/-! ### the identity's rank -/
theorem rk_id {p : Nat} (hp : isFld p = true) (d : Nat) : rkF p d d idF = d := by
  have hp2 : 2 ≤ p := by have := isFld_r hp; omega
  have hf : InF p d d idF := fun a b _ _ => by unfold idF; split <;> omega
  have hc := rk_cnt hp hp2 hf
  have h1 : (kerL p d idF d).length = 1 := by
    have hK : ∀ x, x ∈ kerL p d idF d → ∀ t, t < d → (p : Int) ∣ at0 x t - 0 := by
      intro x hx t ht
      have h := (kerL_mem.1 hx).2 t ht
      rw [sg_congr (b := fun s => if s = t then at0 x s else 0) fun s _ => by
        unfold idF
        by_cases e : t = s
        · rw [if_pos e, if_pos e.symm, Int.one_mul]
        · rw [if_neg e, if_neg (fun h => e h.symm), Int.zero_mul], sg_one (h := fun s => at0 x s) ht] at h
      rwa [Int.sub_zero]
    have hz : List.replicate d (0 : Int) ∈ kerL p d idF d := by
      refine kerL_mem.2 ⟨⟨by simp, fun e he => ?_⟩, fun i hi => ?_⟩
      · obtain ⟨_, rfl⟩ := List.mem_replicate.1 he
        omega
      · refine sg_dvd fun t ht => ?_
        have : at0 (List.replicate d (0 : Int)) t = 0 := by simp [at0, ht]
        rw [this, Int.mul_zero]; exact Int.dvd_zero _
    apply Nat.le_antisymm
    · refine len_le_sub (m := [List.replicate d (0 : Int)]) (kerL_nodup _ _ _ _) fun x hx => ?_
      rw [List.mem_singleton]
      refine v_ext (kerL_mem.1 hx).1 (kerL_mem.1 hz).1 fun t ht => ?_
      have : at0 (List.replicate d (0 : Int)) t = 0 := by simp [at0, ht]
      rw [this]
      exact hK x hx t ht
    · exact List.length_pos_of_mem hz
  rw [h1, Nat.one_mul] at hc
  exact (Nat.pow_right_inj (by omega)).1 hc

/-! ### a valid representation of a line -/
theorem okL_t {x : Rp} (h : okL x = true) : isRep x = true ∧ isL x.q = true ∧ isFld x.p = true ∧ 1 ≤ x.d.length ∧ x.d.length ≤ 5 ∧ x.m.length + 1 = x.d.length ∧ (∀ j, j < x.d.length → x.d[j]? = some (dN x j : Int) ∧ dN x j ≤ 4) ∧
    ∀ j, j + 1 < x.d.length → x.m[j]? = some (mxF (dN x (j + 1)) (dN x j) (mpF x j)) ∧ InF x.p (dN x (j + 1)) (dN x j) (mpF x j) := by
  simp only [okL, Bool.and_eq_true] at h
  obtain ⟨h1, h2⟩ := h
  obtain ⟨a1, a2, a3, _⟩ := isRep_t.1 h1
  obtain ⟨b1, b2, b3, _⟩ := areDims_t.1 a2
  obtain ⟨⟨c1, c2⟩, c3, _⟩ := isQ_t.1 b1
  have hL := h2
  simp only [isL, Bool.and_eq_true, decide_eq_true_eq, List.all_eq_true, List.mem_range] at hL
  obtain ⟨⟨_, d1⟩, d2⟩ := hL
  have hd : ∀ j, j < x.d.length → x.d[j]? = some (dN x j : Int) ∧ dN x j ≤ 4 := fun j hj => by
    have e := List.getElem?_eq_getElem hj
    have := b3 _ (List.mem_of_getElem? e)
    have e2 : dN x j = (x.d[j]).toNat := by rw [dN, List.getD_eq_getElem?_getD, e]; rfl
    refine ⟨by rw [e, e2]; congr 1; omega, by omega⟩
  refine ⟨h1, h2, a1, by omega, by omega, by omega, hd, fun j hj => ?_⟩
  have hk : j < x.q.f.length := by omega
  obtain ⟨m, nf, nt, yf, yt, em, ef, et, df, dt, hm, hr, _⟩ := isRep_at h1 hk
  have h3 := d2 j hk
  simp only [List.getD_eq_getElem?_getD, ef, et, Option.getD_some, lnAt, decide_eq_true_eq] at h3
  obtain rfl : nf = j := by omega
  obtain rfl : nt = nf + 1 := by omega
  have e1 := (hd nf (by omega)).1
  have e2 := (hd (nf + 1) (by omega)).1
  rw [df] at e1
  rw [dt] at e2
  injection e1 with e1
  injection e2 with e2
  have e1' : yf = dN x nf := by omega
  have e2' : yt = dN x (nf + 1) := by omega
  have e3 : mpF x nf = entry m.a yf := by rw [mpF, List.getD_eq_getElem?_getD, em, e1']; rfl
  rw [e3, ← e1', ← e2']
  exact ⟨by rw [em]; congr 1, hr⟩
theorem pdF_inF {x : Rp} (hp : isFld x.p = true) (v : Nat) : ∀ n, InF x.p (dN x (v + n)) (dN x v) (pdF x v n)
  | 0 => fun a b _ _ => by
    have := isFld_r hp
    simp only [pdF, idF]
    split <;> omega
  | n + 1 => fun a b _ _ => by
    have := isFld_r hp
    exact muP_rng this.1 _ _ _ _ _
theorem rtF_diag {x : Rp} (hp : isFld x.p = true) (v : Nat) : rtF x v v = dN x v := by
  obtain ⟨P, hP⟩ := Int.eq_ofNat_of_zero_le (show 0 ≤ x.p by have := isFld_r hp; omega)
  rw [rtF, if_neg (by omega), Nat.sub_self, pdF]
  have hp' := hp
  rw [hP] at hp' ⊢
  rw [rk_id hp']
theorem rtF_low (x : Rp) {v w : Nat} (h : w < v) : rtF x v w = 0 := if_pos h
theorem rtF_rng {x : Rp} (hd : ∀ j, dN x j ≤ 4) (v w : Nat) : 0 ≤ rtF x v w ∧ rtF x v w ≤ 4 := by
  unfold rtF
  split
  · omega
  · have := rkF_le x.p (dN x w) (dN x v) (pdF x v (w - v))
    have := hd w
    omega
theorem dN_all {x : Rp} (h : okL x = true) (j : Nat) : dN x j ≤ 4 := by
  obtain ⟨_, _, _, _, _, _, h1, _⟩ := okL_t h
  by_cases hj : j < x.d.length
  · exact (h1 j hj).2
  · simp [dN, List.getD_eq_getElem?_getD, List.getElem?_eq_none (Nat.le_of_not_lt hj)]
end Go.Proofs.YtgabmemalaklbaaGreat

/- The rank of the matrix of a function: the number of its values. Plain. -/
namespace Go.Proofs.YtgabmemalaklbaaGreat
set_option linter.unusedVariables false
set_option linter.unusedSimpArgs false
open Go.RowKit

/-- places whose value has not been met before -/
def fst1 (g : Nat → Nat) (i : Nat) : Bool := (List.range i).all fun j => decide (g j ≠ g i)
theorem fst1_t {g : Nat → Nat} {i : Nat} : fst1 g i = true ↔ ∀ j, j < i → g j ≠ g i := by
  simp [fst1]
def fsts (g : Nat → Nat) (c : Nat) : List Nat := (List.range c).filter (fst1 g)
theorem fsts_mem {g : Nat → Nat} {c i : Nat} : i ∈ fsts g c ↔ i < c ∧ ∀ j, j < i → g j ≠ g i := by
  rw [fsts, List.mem_filter, List.mem_range, fst1_t]
theorem fsts_succ (g : Nat → Nat) (c : Nat) : fsts g (c + 1) = fsts g c ++ if fst1 g c = true then [c] else [] := by
  rw [fsts, List.range_succ, List.filter_append]
  rcases h : fst1 g c <;> simp [fsts, h]
theorem fsts_nodup (g : Nat → Nat) (c : Nat) : (fsts g c).Nodup := List.Pairwise.filter _ List.nodup_range
/-- the first place that has a place's value -/
theorem fst_at (g : Nat → Nat) : ∀ (i : Nat), ∃ j, j ≤ i ∧ g j = g i ∧ ∀ k, k < j → g k ≠ g i := by
  intro i
  induction i using Nat.strongRecOn with
  | _ i ih =>
    by_cases h : ∀ k, k < i → g k ≠ g i
    · exact ⟨i, Nat.le_refl _, rfl, h⟩
    · simp only [Classical.not_forall, ne_eq, Classical.not_not] at h
      obtain ⟨k, hk, e⟩ := h
      obtain ⟨j, h1, h2, h3⟩ := ih k hk
      exact ⟨j, by omega, by rw [h2, e], fun t ht => by rw [← e]; exact h3 t ht⟩
theorem sg_two {h : Nat → Int} {b0 : Nat} {y : Int} {n : Nat} (hb : b0 < n) : sgF (fun b => h b * (if b = b0 then y else 0)) n = h b0 * y := by
  rw [sg_congr (b := fun b => if b = b0 then h b * y else 0) fun b _ => by split <;> simp]
  exact sg_one (h := fun b => h b * y) hb
theorem fn_cnt {p r : Nat} (hp2 : 2 ≤ p) {g : Nat → Nat} {f : Nat → Nat → Int} : ∀ {c}, (∀ i, i < c → g i < r) → (∀ k i, k < r → i < c → f k i = if g i = k then 1 else 0) → (kerL p r f c).length * p ^ (fsts g c).length = p ^ c
  | 0, _, _ => by
    have h : kerL p r f 0 = [[]] := by simp [kerL, vecs, kerB, sgF]
    simp [h, fsts]
  | c + 1, hg, hf => by
    have ih := fn_cnt hp2 (g := g) (f := f) (c := c) (fun i hi => hg i (by omega)) fun k i hk hi => hf k i hk (by omega)
    rw [fsts_succ]
    by_cases h1 : fst1 g c = true
    · rw [if_pos h1]
      rw [fst1_t] at h1
      have hz : ∀ x, x ∈ kerL p r f (c + 1) → at0 x c = 0 := by
        intro x hx
        obtain ⟨hv, hK⟩ := kerL_mem.1 hx
        have h2 := hK (g c) (hg c (by omega))
        rw [sg_congr (b := fun t => at0 x t * (if t = c then 1 else 0)) fun t ht => ?_, sg_two (h := fun t => at0 x t) (Nat.lt_succ_self c), Int.mul_one] at h2
        · have h3 := v_at hv (Nat.lt_succ_self c)
          obtain ⟨d, hd⟩ := h2
          rcases Int.lt_trichotomy d 0 with h | h | h
          · have : (p : Int) * d ≤ (p : Int) * (-1) := Int.mul_le_mul_of_nonneg_left (by omega) (by omega)
            omega
          · rw [h, Int.mul_zero] at hd; exact hd
          · have : (p : Int) * 1 ≤ (p : Int) * d := Int.mul_le_mul_of_nonneg_left (by omega) (by omega)
            omega
        · rw [hf _ _ (hg c (by omega)) ht, Int.mul_comm]
          by_cases e : t = c
          · rw [if_pos (by rw [e]), if_pos e]
          · rw [if_neg (h1 t (by omega)), if_neg e]
      have hl : (kerL p r f (c + 1)).length = (kerL p r f c).length := by
        apply Nat.le_antisymm
        · refine inj_le (φ := fun x => x.take c) (kerL_nodup _ _ _ _) (fun x hx y hy e => ?_) fun x hx => ?_
          · obtain ⟨hxv, _⟩ := kerL_mem.1 hx
            obtain ⟨hyv, _⟩ := kerL_mem.1 hy
            refine v_ext hxv hyv fun t ht => ?_
            by_cases e4 : t < c
            · rw [← at0_take (x := x) e4, ← at0_take (x := y) e4, show x.take c = y.take c from e, Int.sub_self]; exact Int.dvd_zero _
            · obtain rfl : t = c := by omega
              rw [hz x hx, hz y hy, Int.sub_self]; exact Int.dvd_zero _
          · obtain ⟨hv, hK⟩ := kerL_mem.1 hx
            refine kerL_mem.2 ⟨isV_take hv, fun i hi => ?_⟩
            have h2 := hK i hi
            simp only [sgF] at h2
            rw [hz x hx, Int.mul_zero, Int.add_zero] at h2
            rw [sg_congr fun t ht => by rw [at0_take ht]]
            exact h2
        · refine inj_le (φ := fun x => x ++ [0]) (kerL_nodup _ _ _ _) (fun x hx y hy e => List.append_inj_left' e rfl) fun x hx => ?_
          obtain ⟨hv, hK⟩ := kerL_mem.1 hx
          refine kerL_mem.2 ⟨isV_snoc hv (by omega) (by omega), fun i hi => ?_⟩
          simp only [sgF]
          rw [at0_last hv.1, Int.mul_zero, Int.add_zero, sg_congr fun b hb => by rw [at0_app (by rw [hv.1]; exact hb)]]
          exact hK i hi
      rw [hl, List.length_append, List.length_singleton, Nat.pow_succ, Nat.pow_succ, ← Nat.mul_assoc, ih]
    · rw [if_neg h1, List.append_nil]
      obtain ⟨j, hj, e, _⟩ := fst_at g c
      have hjc : j < c := by
        rcases Nat.lt_or_ge j c with h | h
        · exact h
        · exfalso
          apply h1
          rw [fst1_t]
          obtain rfl : j = c := by omega
          assumption
      rw [cnt_free hp2 (x0 := fun b => if b = j then -1 else 0) fun i hi => ?_, Nat.mul_right_comm, ih, Nat.pow_succ]
      rw [sg_two (h := fun b => f i b) hjc, hf i j hi (by omega), hf i c hi (by omega), e, Int.mul_neg, Int.mul_one]
/-- the rank of the matrix of a function -/
theorem fn_rk {p r c : Nat} (hp : isFld p = true) {g : Nat → Nat} {f : Nat → Nat → Int} (hg : ∀ i, i < c → g i < r) (hf : ∀ k i, k < r → i < c → f k i = if g i = k then 1 else 0) : rkF p r c f = (fsts g c).length := by
  have hp2 : 2 ≤ p := by have := isFld_r hp; omega
  have h1 := fn_cnt hp2 hg hf
  have hi : InF p r c f := fun a b ha hb => by rw [hf a b ha hb]; split <;> omega
  have h2 := rk_cnt hp hp2 hi
  rw [← h1] at h2
  have hk : 0 < (kerL p r f c).length := by
    rcases Nat.eq_zero_or_pos (kerL p r f c).length with h | h
    · rw [h, Nat.zero_mul] at h1
      have := Nat.pow_pos (n := c) (show 0 < p by omega)
      omega
    · exact h
  exact (Nat.pow_right_inj (by omega)).1 (Nat.eq_of_mul_eq_mul_left hk h2)
end Go.Proofs.YtgabmemalaklbaaGreat

/- Determinants by the first row: plain part; parts of slices. -/
namespace Go.Proofs.YtgabmemalaklbaaGreat
set_option linter.unusedVariables false
set_option linter.unusedSimpArgs false
open Go.RowKit

def dsF (h : Nat → Int) : Nat → Int
  | 0 => 0
  | n + 1 => dsF h n + h n
def cutR (k : Nat) (r : List Int) : List Int := r.take k ++ r.drop (k + 1)
def mnr (k : Nat) (m : List (List Int)) : List (List Int) := m.tail.map (cutR k)
def sgK (k : Nat) : Int := if k % 2 = 0 then 1 else -1
def fst0 (m : List (List Int)) (k : Nat) : Int := (m.getD 0 []).getD k 0
def detL : Nat → List (List Int) → Int
  | 0, _ => 1
  | n + 1, m => dsF (fun k => sgK k * fst0 m k * detL n (mnr k m)) (n + 1)
def dB : Nat → Int
  | 0 => 1
  | n + 1 => (n + 1 : Nat) * (12 * dB n)
structure Sq (n : Nat) (m : List (List Int)) : Prop where
  len : m.length = n
  row : ∀ r ∈ m, r.length = n
  rng : ∀ r ∈ m, ∀ x ∈ r, -12 ≤ x ∧ x ≤ 12
theorem cutR_length {k : Nat} {r : List Int} {n : Nat} (h : r.length = n + 1) (hk : k ≤ n) : (cutR k r).length = n := by simp [cutR]; omega
theorem cutR_mem {k : Nat} {r : List Int} {x : Int} (h : x ∈ cutR k r) : x ∈ r := by
  rcases List.mem_append.1 h with h | h
  · exact List.mem_of_mem_take h
  · exact List.mem_of_mem_drop h
theorem Sq.mnr {n k : Nat} {m : List (List Int)} (h : Sq (n + 1) m) (hk : k ≤ n) : Sq n (mnr k m) := by
  refine ⟨by simp [Go.Proofs.YtgabmemalaklbaaGreat.mnr, h.len], fun r hr => ?_, fun r hr x hx => ?_⟩
  · obtain ⟨s, hs, rfl⟩ := List.mem_map.1 hr
    exact cutR_length (h.row s (List.mem_of_mem_tail hs)) hk
  · obtain ⟨s, hs, rfl⟩ := List.mem_map.1 hr
    exact h.rng s (List.mem_of_mem_tail hs) x (cutR_mem hx)
def detS (n : Nat) (m : List (List Int)) (k : Nat) : Int := dsF (fun k => sgK k * fst0 m k * detL n (mnr k m)) k
/-! ### parts of slices that are read -/
theorem SlII.two {w : World} {t : TypeId} {a b : Value} {l m : List Int} (ha : SlI w w.heap.size a l) (hb : SlI w w.heap.size b m) :
    SlII (w.alloc (.cells #[a, b] t)) (w.alloc (.cells #[a, b] t)).heap.size (.slice (some ⟨w.heap.size, 0, none⟩) 2 2) [l, m] := by
  have hbel := below_alloc w (.cells #[a, b] t)
  have hk := Blk.new w t #[a, b]
  refine ⟨some ⟨w.heap.size, 0, none⟩, 2, rfl, by simp, by omega, by simp, fun _ => ⟨w.heap.size, 0, rfl, hk.lt, fun j x hj => ?_⟩⟩
  match j, hj with
  | 0, hj => injection hj with hj; subst hj; exact ⟨a, hk.cell' rfl, SlI.next hbel ha⟩
  | 1, hj => injection hj with hj; subst hj; exact ⟨b, hk.cell' rfl, SlI.next hbel hb⟩
/-- an element, the slice's address known -/
theorem SlI.elt {w : World} {B b o c k : Nat} {xs : List Int} (h : SlI w B (.slice (some ⟨b, o, none⟩) xs.length c) xs) (hk : k < xs.length) : ∃ x, xs[k]? = some x ∧ b < B ∧ w.cell? ⟨b, o + k, none⟩ = some (.int .i64 x) ∧ -9223372036854775808 ≤ x ∧ x ≤ 9223372036854775807 := by
  obtain ⟨b', o', x, e, h1, h2, h3, h4⟩ := SlI.at_ h hk
  injection e with e
  injection e with e1 e2
  subst e1 e2
  exact ⟨x, h2.out, h1, h3, h4⟩
theorem SlII.elt {w : World} {B b o c k : Nat} {xs : List (List Int)} (h : SlII w B (.slice (some ⟨b, o, none⟩) xs.length c) xs) (hk : k < xs.length) : ∃ l A' c', xs[k]? = some l ∧ b < B ∧ w.cell? ⟨b, o + k, none⟩ = some (.slice A' l.length c') ∧ SlI w B (.slice A' l.length c') l ∧ l.length ≤ c' ∧ c' ≤ 9223372036854775807 := by
  obtain ⟨b', o', l, A', c', e, h1, h2, h3, h4⟩ := SlII.at_ h hk
  injection e with e
  injection e with e1 e2
  subst e1 e2
  have h5 := h4
  obtain ⟨_, _, e, h6, h7, _⟩ := h5
  injection e with _ _ e
  subst e
  exact ⟨l, A', c', h2.out, h1, h3, h4, h6, h7⟩
theorem SlI.addr {w : World} {B c : Nat} {A : Option Addr} {xs : List Int} (h : SlI w B (.slice A xs.length c) xs) (h0 : 0 < xs.length) : ∃ b o, A = some ⟨b, o, none⟩ ∧ b < B := by
  obtain ⟨b, o, _, e, h1, _⟩ := SlI.at_ (k := 0) h h0
  exact ⟨b, o, e, h1⟩
theorem SlII.addr {w : World} {B c : Nat} {A : Option Addr} {xs : List (List Int)} (h : SlII w B (.slice A xs.length c) xs) (h0 : 0 < xs.length) : ∃ b o, A = some ⟨b, o, none⟩ ∧ b < B := by
  obtain ⟨b, o, _, _, _, e, h1, _⟩ := SlII.at_ (k := 0) h h0
  exact ⟨b, o, e, h1⟩
theorem SlI.form2 {w : World} {B : Nat} {v : Value} {l : List Int} (h : SlI w B v l) : ∃ A c, v = .slice A l.length c := by
  obtain ⟨A, c, e, _⟩ := h
  exact ⟨A, c, e⟩
end Go.Proofs.YtgabmemalaklbaaGreat

/- Kinds of quivers: minors by sets of rows; plain part. -/
namespace Go.Proofs.YtgabmemalaklbaaGreat
set_option linter.unusedVariables false
set_option linter.unusedSimpArgs false
open Go.RowKit

def bitT (s v : Nat) : Bool := s / 2 ^ v % 2 == 1
def bitL (s n : Nat) : List Nat := (List.range n).filter (bitT s)
def mnRow (s n : Nat) (g : Nat → Int) : List Int := (bitL s n).map g
def mnTo (s n : Nat) (g : Nat → Nat → Int) (k : Nat) : List (List Int) := (bitL s k).map fun v => mnRow s n (g v)
def mnL (s n : Nat) (g : Nat → Nat → Int) : List (List Int) := mnTo s n g n
def dtS (s n : Nat) (g : Nat → Nat → Int) : Int := detL (bitL s n).length (mnL s n g)
def kdGo (n : Nat) (g : Nat → Nat → Int) : Nat → Nat → Int → Int
  | 0, _, k => k
  | m + 1, s, k => if dtS s n g < 0 then 3 else kdGo n g m (s + 1) (if dtS s n g = 0 then 2 else k)
def kindQ (q : Qv) : Int := if isQ q then kdGo q.v.toNat (ent q q.f.length) (2 ^ q.v.toNat - 1) 1 1 else 0
end Go.Proofs.YtgabmemalaklbaaGreat

/- Quivers of finite kind: sums, quadratic forms, positive forms; the patterns of at most five vertices, looked at one by one. Plain. -/
namespace Go.Proofs.YtgabmemalaklbaaGreat
set_option linter.unusedVariables false
set_option linter.unusedSimpArgs false
open Go.RowKit

/-! ### sums -/
def sm : Nat → (Nat → Int) → Int
  | 0, _ => 0
  | n + 1, f => sm n f + f n
theorem sm_congr {f g : Nat → Int} : ∀ n, (∀ i, i < n → f i = g i) → sm n f = sm n g
  | 0, _ => rfl
  | n + 1, h => by rw [sm, sm, sm_congr n fun i hi => h i (by omega), h n (by omega)]
theorem sm_add (f g : Nat → Int) : ∀ n, sm n (fun i => f i + g i) = sm n f + sm n g
  | 0 => rfl
  | n + 1 => by rw [sm, sm, sm, sm_add f g n]; omega
theorem sm_sub (f g : Nat → Int) : ∀ n, sm n (fun i => f i - g i) = sm n f - sm n g
  | 0 => rfl
  | n + 1 => by rw [sm, sm, sm, sm_sub f g n]; omega
theorem sm_mul (c : Int) (f : Nat → Int) : ∀ n, sm n (fun i => c * f i) = c * sm n f
  | 0 => by simp [sm]
  | n + 1 => by rw [sm, sm, sm_mul c f n, Int.mul_add]
theorem sm_zero : ∀ n, sm n (fun _ => 0) = 0
  | 0 => rfl
  | n + 1 => by rw [sm, sm_zero n]; rfl
theorem sm_one {f : Nat → Int} {k : Nat} : ∀ n, k < n → (∀ i, i < n → i ≠ k → f i = 0) → sm n f = f k
  | 0, h, _ => by omega
  | n + 1, h, h0 => by
    rw [sm]
    by_cases e : k = n
    · subst e
      rw [sm_congr (g := fun _ => 0) k fun i hi => h0 i (by omega) (by omega), sm_zero]; omega
    · rw [sm_one n (by omega) fun i hi hn => h0 i (by omega) hn, h0 n (by omega) (by omega)]; omega
theorem sm_nonneg {f : Nat → Int} : ∀ n, (∀ i, i < n → 0 ≤ f i) → 0 ≤ sm n f
  | 0, _ => by simp [sm]
  | n + 1, h => by
    have := sm_nonneg n fun i hi => h i (by omega)
    have := h n (by omega)
    rw [sm]; omega
/-- the bilinear form of g -/
def bil (n : Nat) (g : Nat → Nat → Int) (x y : Nat → Int) : Int := sm n fun a => sm n fun b => g a b * x a * y b
theorem bil_row (n : Nat) (g : Nat → Nat → Int) (x y : Nat → Int) : bil n g x y = sm n fun a => x a * sm n fun b => g a b * y b := by
  unfold bil
  apply sm_congr
  intro a _
  rw [← sm_mul]
  apply sm_congr
  intro b _
  rw [Int.mul_comm (g a b) (x a), Int.mul_assoc]
/-! ### positive forms -/
def pvF : Nat → (Nat → Nat → Int) → Bool
  | 0, _ => true
  | n + 1, A => decide (0 < A 0 0) && pvF n fun a b => A 0 0 * A (a + 1) (b + 1) - A (a + 1) 0 * A 0 (b + 1)
def pIdx (a b : Nat) : Nat := b * (b - 1) / 2 + a
def gL (l : List Bool) (a b : Nat) : Int := if a = b then 2 else if (if a < b then l.getD (pIdx a b) false else l.getD (pIdx b a) false) then -1 else 0
/-- rows of a pattern: for each vertex b its neighbours a < b, the last first -/
def rowsL : Nat → List Bool → List (List Bool)
  | 0, _ => []
  | b + 1, l => rowsL b l ++ [((List.range b).map fun a => l.getD (pIdx a b) false).reverse]
def dotB : List Bool → List Nat → Nat
  | true :: r, x :: s => x + dotB r s
  | false :: r, _ :: s => dotB r s
  | _, _ => 0
/-- how many ways to go on with 0, 1, 2 at each vertex that is left, to the form's value 1: xs is what has been chosen, the last first; p the squares, m the edges -/
def cntR : List (List Bool) → List Nat → Nat → Nat → Nat
  | [], _, p, m => if p == m + 1 then 1 else 0
  | row :: rs, xs, p, m => cntR rs (0 :: xs) p m + cntR rs (1 :: xs) (p + 1) (m + dotB row xs) + cntR rs (2 :: xs) (p + 4) (m + 2 * dotB row xs)
def finOK (n : Nat) (l : List Bool) : Bool := (List.range n).all (fun v => pvF n fun a b => 4 * gL l a b - if a = v ∧ b = v then 1 else 0) && Nat.ble (cntR (rowsL n l) [] 0 0) 20
/-- circles and the star of five: their edges, their vertices as a set -/
def wits : List (List Nat × Nat) := [([0, 1, 2], 7), ([0, 3, 4], 11), ([0, 6, 7], 19), ([1, 3, 5], 13), ([1, 6, 8], 21), ([3, 6, 9], 25), ([2, 4, 5], 14), ([2, 7, 8], 22), ([4, 7, 9], 26), ([5, 8, 9], 28), ([0, 2, 3, 5], 15), ([0, 1, 4, 5], 15), ([1, 2, 3, 4], 15), ([0, 2, 6, 8], 23), ([0, 1, 7, 8], 23), ([1, 2, 6, 7], 23), ([0, 4, 6, 9], 27), ([0, 3, 7, 9], 27), ([3, 4, 6, 7], 27), ([1, 5, 6, 9], 29), ([1, 3, 8, 9], 29), ([3, 5, 6, 8], 29), ([2, 5, 7, 9], 30), ([2, 4, 8, 9], 30), ([4, 5, 7, 8], 30), ([0, 2, 5, 6, 9], 31), ([0, 2, 3, 8, 9], 31), ([0, 4, 5, 6, 8], 31), ([0, 1, 4, 8, 9], 31), ([0, 3, 5, 7, 8], 31), ([0, 1, 5, 7, 9], 31), ([1, 2, 4, 6, 9], 31), ([1, 2, 3, 7, 9], 31), ([1, 4, 5, 6, 7], 31), ([1, 3, 4, 7, 8], 31), ([2, 3, 4, 6, 8], 31), ([2, 3, 5, 6, 7], 31), ([0, 1, 3, 6], 31), ([0, 2, 4, 7], 31), ([1, 2, 5, 8], 31), ([3, 4, 5, 9], 31), ([6, 7, 8, 9], 31)]
def witAt (l : List Bool) : List (List Nat × Nat) → Nat
  | [] => 0
  | (e, s) :: r => if e.all fun i => l.getD i false then s else witAt l r
def patOK (n : Nat) (l : List Bool) : Bool := match witAt l wits with
  | 0 => finOK n l
  | s + 1 => decide (dtS (s + 1) n (gL l) ≤ 0)
def allBL : Nat → List Bool → (List Bool → Bool) → Bool
  | 0, acc, f => f acc
  | m + 1, acc, f => allBL m (true :: acc) f && allBL m (false :: acc) f
end Go.Proofs.YtgabmemalaklbaaGreat

/- Quivers of finite kind: the roots: all come from the unit vectors by reflections; their numbers are at most 2, they are at most twenty. Plain. -/
namespace Go.Proofs.YtgabmemalaklbaaGreat
set_option linter.unusedVariables false
set_option linter.unusedSimpArgs false
open Go.RowKit

/-! ### minors of one and of two vertices -/
theorem dtS_congr {s n : Nat} {g h : Nat → Nat → Int} (e : ∀ a b, a < n → b < n → g a b = h a b) : dtS s n g = dtS s n h := by
  have hm : ∀ v, v ∈ bitL s n → v < n := fun v hv => List.mem_range.1 (List.mem_filter.1 hv).1
  have : mnL s n g = mnL s n h := by
    unfold mnL mnTo mnRow
    apply List.map_congr_left
    intro v hv
    apply List.map_congr_left
    intro w hw
    exact e v w (hm v hv) (hm w hw)
  rw [dtS, dtS, this]
theorem bitL_1 : ∀ n, n ≤ 5 → ∀ a, a < n → bitL (2 ^ a) n = [a] := by decide
theorem bitL_2 : ∀ n, n ≤ 5 → ∀ b, b < n → ∀ a, a < b → bitL (2 ^ a + 2 ^ b) n = [a, b] := by decide
theorem dtS_1 {n a : Nat} (hn : n ≤ 5) (ha : a < n) (g : Nat → Nat → Int) : dtS (2 ^ a) n g = g a a := by
  simp [dtS, mnL, mnTo, mnRow, bitL_1 n hn a ha, detL, dsF, sgK, fst0]
theorem dtS_2 {n a b : Nat} (hn : n ≤ 5) (hb : b < n) (ha : a < b) (g : Nat → Nat → Int) : dtS (2 ^ a + 2 ^ b) n g = g a a * g b b - g a b * g b a := by
  simp [dtS, mnL, mnTo, mnRow, bitL_2 n hn b hb a ha, detL, dsF, sgK, fst0, mnr, cutR]
  grind
theorem kdGo_1 (n : Nat) (g : Nat → Nat → Int) : ∀ m s k, kdGo n g m s k = 1 → k = 1 ∧ ∀ t, s ≤ t → t < s + m → 0 < dtS t n g
  | 0, s, k, h => ⟨h, fun t h1 h2 => by omega⟩
  | m + 1, s, k, h => by
    simp only [kdGo] at h
    split at h
    · omega
    · rename_i hd
      obtain ⟨h1, h2⟩ := kdGo_1 n g m (s + 1) _ h
      split at h1
      · omega
      · rename_i hz
        refine ⟨h1, fun t ht1 ht2 => ?_⟩
        by_cases e : t = s
        · subst e; omega
        · exact h2 t (by omega) (by omega)
/-! ### the pattern of a quiver of finite kind -/
def prsF : List (Nat × Nat) := [(0, 1), (0, 2), (1, 2), (0, 3), (1, 3), (2, 3), (0, 4), (1, 4), (2, 4), (3, 4)]
theorem prsF_at : ∀ n, n ≤ 5 → ∀ b, b < n → ∀ a, a < b → (prsF.take (n * (n - 1) / 2))[pIdx a b]? = some (a, b) := by decide
def patG (n : Nat) (g : Nat → Nat → Int) : List Bool := (prsF.take (n * (n - 1) / 2)).map fun p => decide (g p.1 p.2 = -1)
theorem patG_length (n : Nat) (hn : n ≤ 5) (g : Nat → Nat → Int) : (patG n g).length = n * (n - 1) / 2 := by
  have : ∀ n, n ≤ 5 → (prsF.take (n * (n - 1) / 2)).length = n * (n - 1) / 2 := by decide
  rw [patG, List.length_map, this n hn]
theorem patG_at {n a b : Nat} (hn : n ≤ 5) (hb : b < n) (ha : a < b) (g : Nat → Nat → Int) : (patG n g).getD (pIdx a b) false = decide (g a b = -1) := by
  rw [patG, List.getD_eq_getElem?_getD, List.getElem?_map, prsF_at n hn b hb a ha]; rfl
theorem two_pow_lt {a n : Nat} (h : a < n) : 2 ^ a < 2 ^ n := Nat.pow_lt_pow_right (by omega) h
theorem fin_pat {q : Qv} (hk : kindQ q = 1) : isQ q = true ∧ ∃ l : List Bool, l.length = q.v.toNat * (q.v.toNat - 1) / 2 ∧ (∀ a b, a < q.v.toNat → b < q.v.toNat → ent q q.f.length a b = gL l a b) ∧ ∀ s, 1 ≤ s → s < 2 ^ q.v.toNat → 0 < dtS s q.v.toNat (gL l) := by
  by_cases hq : isQ q = true
  case neg => simp [kindQ, hq] at hk
  refine ⟨hq, ?_⟩
  rw [kindQ, if_pos hq] at hk
  have hn : q.v.toNat ≤ 5 := by have := (isQ_t.1 hq).1; omega
  generalize q.v.toNat = n at hk hn ⊢
  obtain ⟨_, hd⟩ := kdGo_1 _ _ _ _ _ hk
  have hpos : 0 < 2 ^ n := Nat.two_pow_pos n
  have hd' : ∀ s, 1 ≤ s → s < 2 ^ n → 0 < dtS s n (ent q q.f.length) := fun s h1 h2 => hd s h1 (by omega)
  have hdiag : ∀ a, a < n → ent q q.f.length a a = 2 := by
    intro a ha
    have h1 := hd' (2 ^ a) (Nat.one_le_two_pow) (two_pow_lt ha)
    rw [dtS_1 hn ha] at h1
    unfold ent at h1 ⊢
    simp at h1 ⊢
    omega
  have hsym : ∀ a b, ent q q.f.length a b = ent q q.f.length b a := fun a b => by
    unfold ent; simp only [eq_comm (a := a) (b := b)]; omega
  have hoff : ∀ a b, a < b → b < n → ent q q.f.length a b = 0 ∨ ent q q.f.length a b = -1 := by
    intro a b ha hb
    have hlt : 2 ^ a + 2 ^ b < 2 ^ n := by
      have h1 : 2 ^ a < 2 ^ b := two_pow_lt ha
      have h2 : 2 ^ (b + 1) ≤ 2 ^ n := Nat.pow_le_pow_right (by omega) hb
      rw [Nat.pow_succ] at h2; omega
    have h1 := hd' (2 ^ a + 2 ^ b) (Nat.le_trans Nat.one_le_two_pow (Nat.le_add_right (2 ^ a) (2 ^ b))) hlt
    rw [dtS_2 hn hb ha, hdiag a (by omega), hdiag b hb, hsym b a] at h1
    have h2 : ent q q.f.length a b ≤ 0 := by unfold ent; rw [if_neg (by omega)]; omega
    generalize ent q q.f.length a b = m at h1 h2
    rcases Int.lt_or_le m (-1) with h3 | h3
    · have : 0 ≤ (-m - 2) * (-m + 2) := Int.mul_nonneg (by omega) (by omega)
      have e : (-m - 2) * (-m + 2) = m * m - 4 := by grind
      omega
    · omega
  have hg : ∀ a b, a < n → b < n → ent q q.f.length a b = gL (patG n (ent q q.f.length)) a b := by
    intro a b ha hb
    unfold gL
    by_cases e : a = b
    · subst e; rw [if_pos rfl, hdiag a ha]
    · rw [if_neg e]
      by_cases hab : a < b
      · rw [if_pos hab, patG_at hn hb hab]
        rcases hoff a b hab hb with h | h <;> rw [h] <;> simp
      · rw [if_neg hab, patG_at hn ha (by omega), hsym a b]
        rcases hoff b a (by omega) ha with h | h <;> rw [h] <;> simp
  refine ⟨patG n (ent q q.f.length), patG_length n hn _, hg, fun s h1 h2 => ?_⟩
  rw [← dtS_congr hg]
  exact hd' s h1 h2
theorem bil_congr {n : Nat} {g h : Nat → Nat → Int} {x x' y y' : Nat → Int} (e : ∀ a b, a < n → b < n → g a b = h a b) (ex : ∀ a, a < n → x a = x' a) (ey : ∀ a, a < n → y a = y' a) : bil n g x y = bil n h x' y' := by
  unfold bil
  apply sm_congr; intro a ha; apply sm_congr; intro b hb
  rw [e a b ha hb, ex a ha, ey b hb]
theorem bil_ind {n u v : Nat} (hu : u < n) (hv : v < n) (c : Int) (x y : Nat → Int) : bil n (fun a b => if a = u ∧ b = v then c else 0) x y = c * x u * y v := by
  unfold bil
  rw [sm_one (k := u) n hu, sm_one (k := v) n hv]
  · simp
  · intro i _ hi; simp [hi]
  · intro i _ hi
    rw [sm_congr (g := fun _ => 0) n fun b _ => by simp [hi], sm_zero]
theorem bil_gsub (n : Nat) (g h : Nat → Nat → Int) (x y : Nat → Int) : bil n (fun a b => g a b - h a b) x y = bil n g x y - bil n h x y := by
  unfold bil
  rw [← sm_sub]
  apply sm_congr; intro a _; rw [← sm_sub]; apply sm_congr; intro b _; grind
/-- What a pattern that has been looked at gives. -/
structure FinG (n : Nat) (g : Nat → Nat → Int) : Prop where
  symm : ∀ a b, g a b = g b a
  diag : ∀ a, g a a = 2
  off : ∀ a b, a ≠ b → g a b ≤ 0
  pos : ∀ x : Nat → Int, (∃ i, i < n ∧ x i ≠ 0) → ∀ v, v < n → x v * x v < 4 * bil n g x x
namespace FinG
variable {n : Nat} {g : Nat → Nat → Int} (G : FinG n g)
include G
end FinG
/-- the vector x moved along v -/
def mvF (x : Nat → Int) (v : Nat) (c : Int) (i : Nat) : Int := if i = v then x i - c else x i
/-! ### vectors as lists -/
def vx (x : List Int) (i : Nat) : Int := x.getD i 0
/-- the form of Euler -/
def eulV (x y : List Int) (n : Nat) : Int := sm n fun v => vx x v * vx y v
def eulA (q : Qv) (x y : List Int) (k : Nat) : Int := sm k fun i => vx x (vx q.f i).toNat * vx y (vx q.t i).toNat
def eul (q : Qv) (x y : List Int) : Int := eulV x y q.v.toNat - eulA q x y q.f.length
theorem bil_idn (n : Nat) (x y : Nat → Int) : bil n (fun a b => if a = b then 2 else 0) x y = 2 * sm n fun v => x v * y v := by
  rw [bil_row, ← sm_mul]
  apply sm_congr; intro a ha
  rw [sm_one (k := a) n ha fun i _ hi => by rw [if_neg (fun h => hi h.symm)]; simp]
  simp; grind
theorem ent_eul {q : Qv} (hq : isQ q = true) (x : List Int) : ∀ k, k ≤ q.f.length → bil q.v.toNat (ent q k) (vx x) (vx x) = 2 * (eulV x x q.v.toNat - eulA q x x k)
  | 0, _ => by
    rw [bil_congr (h := fun a b => if a = b then 2 else 0) (x' := vx x) (y' := vx x) (fun a b _ _ => ent_zero q a b) (fun _ _ => rfl) (fun _ _ => rfl), bil_idn]
    simp [eulV, eulA, sm]
  | k + 1, hk => by
    obtain ⟨_, hl, _, hf, ht⟩ := isQ_t.1 hq
    have h1 : q.f[k]? = some q.f[k] := List.getElem?_eq_getElem (by omega)
    have h2 : q.t[k]? = some q.t[k] := List.getElem?_eq_getElem (by omega)
    have r1 := hf _ (List.mem_of_getElem? h1)
    have r2 := ht _ (List.mem_of_getElem? h2)
    obtain ⟨u, hu⟩ : ∃ u : Nat, q.f[k] = (u : Int) := ⟨q.f[k].toNat, by omega⟩
    obtain ⟨v, hv⟩ : ∃ v : Nat, q.t[k] = (v : Int) := ⟨q.t[k].toNat, by omega⟩
    rw [hu] at h1 r1
    rw [hv] at h2 r2
    have e1 : vx q.f k = u := by rw [vx, List.getD_eq_getElem?_getD, h1]; rfl
    have e2 : vx q.t k = v := by rw [vx, List.getD_eq_getElem?_getD, h2]; rfl
    rw [bil_congr (h := fun a b => (ent q k a b - (if a = u ∧ b = v then 1 else 0)) - (if a = v ∧ b = u then 1 else 0)) (x' := vx x) (y' := vx x) (fun a b _ _ => ent_succ h1 h2 a b) (fun _ _ => rfl) (fun _ _ => rfl)]
    rw [bil_gsub _ (fun a b => ent q k a b - (if a = u ∧ b = v then 1 else 0)), bil_gsub _ (ent q k), ent_eul hq x k (by omega), bil_ind (by omega) (by omega), bil_ind (by omega) (by omega)]
    simp only [eulA, sm, e1, e2, Int.toNat_natCast]
    grind
/-- unit vectors -/
def uniV (n v : Nat) : List Int := (List.range n).map fun i => if i = v then 1 else 0
/-- a positive root of q, as a list -/
structure isRt (q : Qv) (x : List Int) : Prop where
  len : x.length = q.v.toNat
  nn : ∀ i, i < x.length → 0 ≤ vx x i
  one : eul q x x = 1
theorem eul_bil {q : Qv} (hq : isQ q = true) (x : List Int) : bil q.v.toNat (ent q q.f.length) (vx x) (vx x) = 2 * eul q x x := ent_eul hq x _ (Nat.le_refl _)
theorem fin_isQ {q : Qv} (hk : kindQ q = 1) : isQ q = true := (fin_pat hk).1
theorem isRt.two {q : Qv} (hk : kindQ q = 1) {x : List Int} (h : isRt q x) : bil q.v.toNat (ent q q.f.length) (vx x) (vx x) = 2 := by rw [eul_bil (fin_isQ hk), h.one]; rfl
def sumL (x : List Int) : Int := sm x.length (vx x)
/-! ### how many roots -/
def lstR : List (List Bool) → List Nat → Nat → Nat → List (List Nat)
  | [], xs, p, m => if p == m + 1 then [xs] else []
  | row :: rs, xs, p, m => lstR rs (0 :: xs) p m ++ lstR rs (1 :: xs) (p + 1) (m + dotB row xs) ++ lstR rs (2 :: xs) (p + 4) (m + 2 * dotB row xs)
/-- the squares and the edges behind more numbers -/
def runR : List (List Bool) → List Nat → List Nat → Nat → Nat → Nat × Nat
  | row :: rs, y :: ys, xs, p, m => runR rs ys (y :: xs) (p + y * y) (m + y * dotB row xs)
  | _, _, _, p, m => (p, m)
def ltN (X : Nat → Nat) (n : Nat) : List Nat := (List.range n).map X
end Go.Proofs.YtgabmemalaklbaaGreat

/- The positive roots: plain. -/
namespace Go.Proofs.YtgabmemalaklbaaGreat
set_option linter.unusedVariables false
set_option linter.unusedSimpArgs false
open Go.RowKit Go.Sort

/-! ### the order by the sum and then lexicographically -/
def lexB : List Int → List Int → Bool
  | a :: s, b :: t => if a = b then lexB s t else decide (a < b)
  | _, _ => false
def ltR (x y : List Int) : Bool := if x.sum = y.sum then lexB x y else decide (x.sum < y.sum)
/-- two lists in strict order with the same members are the same -/
theorem strict_unique {α : Type} {R : α → α → Bool} (hi : ∀ x, R x x = false) (ha : ∀ x y, R x y = true → R y x = false) : ∀ l m : List α, l.Pairwise (fun a b => R a b = true) → m.Pairwise (fun a b => R a b = true) → (∀ x, x ∈ l ↔ x ∈ m) → l = m
  | [], [], _, _, _ => rfl
  | [], b :: m, _, _, h => by have := (h b).2 (by simp); simp at this
  | a :: l, [], _, _, h => by have := (h a).1 (by simp); simp at this
  | a :: l, b :: m, hl, hm, h => by
    rw [List.pairwise_cons] at hl hm
    have hab : a = b := by
      rcases List.mem_cons.1 ((h a).1 (by simp)) with e | h1
      · exact e
      · rcases List.mem_cons.1 ((h b).2 (by simp)) with e | h2
        · exact e.symm
        · have := ha _ _ (hm.1 a h1)
          rw [hl.1 b h2] at this
          cases this
    subst hab
    rw [strict_unique hi ha l m hl.2 hm.2 fun x => ⟨fun hx => ?_, fun hx => ?_⟩]
    · rcases List.mem_cons.1 ((h x).1 (by simp [hx])) with e | h1
      · subst e; have := hl.1 x hx; rw [hi] at this; cases this
      · exact h1
    · rcases List.mem_cons.1 ((h x).2 (by simp [hx])) with e | h1
      · subst e; have := hm.1 x hx; rw [hi] at this; cases this
      · exact h1
/-! ### the box in lexicographic order -/
/-- which vector of the box a list is -/
def bxI (m : Nat) : List Int → Nat
  | [] => 0
  | a :: s => a.toNat * (m + 1) ^ s.length + bxI m s
/-! ### the roots in the box -/

def rtB (q : Qv) (V k : Nat) : List (List Int) := ((List.range k).map (bxV 4 V)).filter fun x => eul q x x == 1
/-- **the positive roots, in order** -/
def insR (L : List (List Int)) (x : List Int) : List (List Int) := L.filter (fun y => ltR y x) ++ x :: L.filter (fun y => !ltR y x)
def rtsQ (q : Qv) : List (List Int) := (rtB q q.v.toNat (5 ^ q.v.toNat)).foldl insR []
/-! ### insertion sort is stable -/

def ltS (L : List (List Int)) (i j : Nat) : Bool := decide ((L.getD i []).sum < (L.getD j []).sum)
def ltT (L : List (List Int)) (i j : Nat) : Bool := decide ((L.getD i []).sum < (L.getD j []).sum ∨ ((L.getD i []).sum = (L.getD j []).sum ∧ i < j))
structure StIx (n i : Nat) (d : Array Nat) : Prop where
  size : d.size = n
  lo : ∀ k, k < i → d[k]! < i
  hi : ∀ k, i ≤ k → k < n → d[k]! = k
theorem swp_at (d : Array Nat) (i j k : Nat) (hi : i < d.size) (hj : j < d.size) : (swp d i j)[k]! = if k = j then d[i]! else if k = i then d[j]! else d[k]! := by
  simp only [swp]
  by_cases h1 : k = j
  · subst h1; simp [hj]
  · rw [if_neg h1]
    by_cases h2 : k = i
    · subst h2; simp [hi, h1]; grind
    · simp [h1, h2]; grind
theorem swp_size (d : Array Nat) (i j : Nat) : (swp d i j).size = d.size := by simp [swp]
theorem oGo (lt : Nat → Nat → Bool) (a b i : Nat) (d : Array Nat) (h : i < b) : insOuter lt a b i d = insOuter lt a b (i + 1) (insInner lt a i d) := by rw [insOuter, if_pos h]
theorem oStop (lt : Nat → Nat → Bool) (a b i : Nat) (d : Array Nat) (h : ¬ i < b) : insOuter lt a b i d = d := by rw [insOuter, if_neg h]
def rngA (n : Nat) : Array Nat := (List.range n).toArray
def srtA (L : List (List Int)) (n : Nat) : List Nat := (insertionSort (ltS L) (rngA n) 0 n).toList
end Go.Proofs.YtgabmemalaklbaaGreat
