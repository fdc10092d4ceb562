/- FnFiltrations: the law holds for every argument. Part 4 of 18 of the proof: Comp2, LineOf, MkI, BarsM, NetC, NetU, Seat. No condition. -/
import Derived.Test.YtgabmemalaklbaaGreatBFiltrations3
/- The reference's ComponentsAt. -/
namespace Go.Proofs.YtgabmemalaklbaaGreat
set_option linter.unusedVariables false
set_option linter.unusedSimpArgs false
open Go.RowKit

set_option maxHeartbeats 1600000 in
theorem specComponentsAt_any (u : Value) (q : Filt) (t : Int) (w : World) (hu : FiR w w.heap.size u q) (ht : I64 t) :
    Calls Tryz.prog 21 #[u, .int .i64 t] w fun e w' => ∃ v, e = .returned v ∧ IntsO w' w.heap.size w'.heap.size v (compsQ q t) ∧ Below w.heap.size w w' := by
  have hu' := hu
  obtain ⟨A, c, C, d, rfl, hf, hT, hr, lf, lt⟩ := hu.open_
  have g0 : Below w.heap.size w ((w.alloc (.cells #[.int .i64 q.stages, .slice A q.birth.length c, .slice C q.ends.length d] 27)).alloc (.cells #[] 3)) := ((Below.refl _ _).alloc (Nat.le_refl _) _).alloc (by simp) _
  have kB : Blk ((w.alloc (.cells #[.int .i64 q.stages, .slice A q.birth.length c, .slice C q.ends.length d] 27)).alloc (.cells #[] 3)) w.heap.size 27 #[.int .i64 q.stages, .slice A q.birth.length c, .slice C q.ends.length d] := (Blk.new _ _ _).alloc _
  have ho0 : OwnI ((w.alloc (.cells #[.int .i64 q.stages, .slice A q.birth.length c, .slice C q.ends.length d] 27)).alloc (.cells #[] 3)) w.heap.size (.slice (some ⟨w.heap.size + 1, 0, none⟩) 0 0) [] := by
    have := OwnI.made (w := w.alloc (.cells #[.int .i64 q.stages, .slice A q.birth.length c, .slice C q.ends.length d] 27)) (base := w.heap.size) _ rfl (by simp)
    simpa only [World.size_alloc] using this
  clear hu
  obtain ⟨B, hB⟩ : ∃ B, (isF q && inR t 0 (q.stages - 1)) = B := ⟨_, rfl⟩
  cases B
  · have HC : Hid (compsQ q t = []) := by show _ = _; rw [compsQ, hB]; rfl
    have HB := Lib.hid hB
    clear hB
    go_enter Tryz.func21, Tryz.ntmps21
    go_wp2
    go_loopw [5, 6] (fun a i wr => a = (.slice (some ⟨w.heap.size + 1, 0, none⟩) 0 0) ∧ i = .int .i64 0 ∧ OwnI wr w.heap.size a [] ∧ Below w.heap.size w wr ∧ Blk wr w.heap.size 27 #[.int .i64 q.stages, .slice A q.birth.length c, .slice C q.ends.length d]) (fun _ i _ => 0)
    case atStart => exact ⟨rfl, rfl, ho0, g0, kB⟩
    case round =>
      clear g0 kB ho0
      obtain ⟨rfl, rfl, hown, hbel, hkB⟩ := hrel
      have e0 := hkB.cell' (i := 0) rfl
      have e1 := hkB.cell' (i := 1) rfl
      have e2 := hkB.cell' (i := 2) rfl
      by_cases hlt : 0 < q.birth.length
      · have hFr := FiR.more (B' := wr.heap.size) (by have := hbel.size; omega) (FiR.below hbel hu')
        rcases hq : isF q with _ | _
        · go_wp2_with fail
          refine (specIsFiltration_any _ _ _ hFr).mono ?_; rintro e w1 ⟨rfl, hb1⟩
          rw [hq]
          have hkB1 := hkB.call hb1
          have hown1 := hown.below hb1
          have hbel1 := hbel.trans (hb1.mono hbel.size)
          clear e0 e1 e2 hkB hown hbel hb1 hFr
          have e0 := hkB1.cell' (i := 0) rfl
          have e1 := hkB1.cell' (i := 1) rfl
          have e2 := hkB1.cell' (i := 2) rfl
          go_wp2
          have hown0 := hown1
          have hbel0 := hbel1
          have hkB0 := hkB1
          clear hown1 hbel1 hkB1 e0 e1 e2
          go_loopw [7] (fun i wr => i = .int .i64 0 ∧ OwnI wr w.heap.size (.slice (some ⟨w.heap.size + 1, 0, none⟩) 0 0) [] ∧ Below w.heap.size w wr) (fun _ _ => 0)
          case atStart => exact ⟨rfl, hown0, hbel0⟩
          case round =>
            clear hown0 hbel0 hkB0
            obtain ⟨rfl, hown, hbel⟩ := hrel
            go_wp2
            exact bodyPost_ret (v := (.slice (some ⟨w.heap.size + 1, 0, none⟩) 0 0)) (by simp [results, go_sem]) rfl ⟨_, rfl, by rw [HC.out]; exact IntsO.of_own hown, hbel⟩
        · have hin : inR t 0 (q.stages - 1) = false := by have := HB.out; rwa [hq, Bool.true_and] at this
          obtain ⟨hl1, hl2, hl3, hl4, hl5⟩ := isF_lens hq
          go_wp2_with fail
          refine (specIsFiltration_any _ _ _ hFr).mono ?_; rintro e w1 ⟨rfl, hb1⟩
          rw [hq]
          have hkB1 := hkB.call hb1
          have hown1 := hown.below hb1
          have hbel1 := hbel.trans (hb1.mono hbel.size)
          clear e0 e1 e2 hkB hown hbel hb1 hFr
          have e0 := hkB1.cell' (i := 0) rfl
          have e1 := hkB1.cell' (i := 1) rfl
          have e2 := hkB1.cell' (i := 2) rfl
          go_wp2_with fail
          refine (l1In_any _ _ _ _).mono ?_; rintro e w9 ⟨rfl, rfl⟩
          rw [hin]
          go_wp2
          have hown0 := hown1
          have hbel0 := hbel1
          have hkB0 := hkB1
          clear hown1 hbel1 hkB1 e0 e1 e2
          go_loopw [7] (fun i wr => i = .int .i64 0 ∧ OwnI wr w.heap.size (.slice (some ⟨w.heap.size + 1, 0, none⟩) 0 0) [] ∧ Below w.heap.size w wr) (fun _ _ => 0)
          case atStart => exact ⟨rfl, hown0, hbel0⟩
          case round =>
            clear hown0 hbel0 hkB0
            obtain ⟨rfl, hown, hbel⟩ := hrel
            go_wp2
            exact bodyPost_ret (v := (.slice (some ⟨w.heap.size + 1, 0, none⟩) 0 0)) (by simp [results, go_sem]) rfl ⟨_, rfl, by rw [HC.out]; exact IntsO.of_own hown, hbel⟩
      · have hlt0 : q.birth.length ≤ 0 := by omega
        go_wp2
        have hown0 := hown
        have hbel0 := hbel
        have hkB0 := hkB
        clear hown hbel hkB e0 e1 e2
        go_loopw [7] (fun i wr => i = .int .i64 0 ∧ OwnI wr w.heap.size (.slice (some ⟨w.heap.size + 1, 0, none⟩) 0 0) [] ∧ Below w.heap.size w wr) (fun _ _ => 0)
        case atStart => exact ⟨rfl, hown0, hbel0⟩
        case round =>
          clear hown0 hbel0 hkB0
          obtain ⟨rfl, hown, hbel⟩ := hrel
          go_wp2
          exact bodyPost_ret (v := (.slice (some ⟨w.heap.size + 1, 0, none⟩) 0 0)) (by simp [results, go_sem]) rfl ⟨_, rfl, by rw [HC.out]; exact IntsO.of_own hown, hbel⟩
  · have HC : Hid (compsQ q t = compQ q t) := by show _ = _; rw [compsQ, hB]; rfl
    rw [Bool.and_eq_true] at hB
    obtain ⟨hq, hin⟩ := hB
    obtain ⟨hl1, hl2, hl3, hl4, hl5⟩ := isF_lens hq
    go_enter Tryz.func21, Tryz.ntmps21
    go_wp2

    go_loopw [5, 6] (fun a i wr => ∃ k : Nat, k ≤ q.birth.length ∧ i = .int .i64 k ∧ OwnI wr w.heap.size a ((comp0 q.birth t).take k) ∧ Below w.heap.size w wr ∧ Blk wr w.heap.size 27 #[.int .i64 q.stages, .slice A q.birth.length c, .slice C q.ends.length d]) (fun _ i _ => q.birth.length - (intOf i).toNat)
    case atStart => exact ⟨0, Nat.zero_le _, rfl, ho0, g0, kB⟩
    case round =>
      clear g0 kB ho0
      obtain ⟨k, hk, rfl, hown, hbel, hkB⟩ := hrel
      have hlk : ((comp0 q.birth t).take k).length = k := by rw [List.length_take, comp0_length]; omega
      obtain ⟨ol, hol⟩ : ∃ ol, (comp0 q.birth t).take k = ol := ⟨_, rfl⟩
      rw [hol] at hown hlk
      have HOL := Lib.hid hol
      have HLK := Lib.hid hlk
      clear hol hlk
      obtain ⟨OA, oc, rfl, _, _⟩ := hown.form
      have e0 := hkB.cell' (i := 0) rfl
      have e1 := hkB.cell' (i := 1) rfl
      have e2 := hkB.cell' (i := 2) rfl
      by_cases hlt : k < q.birth.length
      · obtain ⟨b, o, x, rfl, hb, HX, x1, _⟩ := SlI.at_ hf hlt
        have hFr := FiR.more (B' := wr.heap.size) (by have := hbel.size; omega) (FiR.below hbel hu')
        go_wp2_with fail
        refine (specIsFiltration_any _ _ _ hFr).mono ?_; rintro e w1 ⟨rfl, hb1⟩
        rw [hq]
        have hkB1 := hkB.call hb1
        have hown1 := hown.below hb1
        have hbel1 := hbel.trans (hb1.mono hbel.size)
        have x2 := bcell hbel1 hb x1
        clear e0 e1 e2 hkB hown hbel hb1 x1 hFr
        have e0 := hkB1.cell' (i := 0) rfl
        have e1 := hkB1.cell' (i := 1) rfl
        go_wp2_with fail
        refine (l1In_any _ _ _ _).mono ?_; rintro e w9 ⟨rfl, rfl⟩
        rw [hin]
        by_cases hxt : t < x
        · have HIF := Lib.hid (show (if t < x then (-1 : Int) else (k : Int)) = -1 from if_pos hxt)
          have hko := hown1.alloc (.cells #[.int .i64 (-1)] 3)
          have hka := hkB1.call (below_alloc w9 (.cells #[.int .i64 (-1)] 3))
          have hst : Hid (ol ++ [-1] = (comp0 q.birth t).take (k + 1)) := by show _ = _; rw [take_snoc (comp0_get HX.out), HOL.out, HIF.out]
          (go_wp2_with (at_builtin; refine Hold.stop ?_)); unfold Hold
          refine wpList_appI rfl (.tmp 42) (.tmp 43) rfl w.heap.size _ (.slice OA ol.length oc) ol rfl hko _ _ _ [(-1 : Int)] rfl rfl (SlI.one w9 _ (-1) ⟨by omega, by omega⟩) (by have := HLK.out; simp only [List.length_singleton]; omega) (by have := hbel1.size; simp; omega) ?_
          intro v1 w3 ho1 hg1 hv1
          rw [hst.out] at ho1
          have hk3 := hka.grown hg1 (hko.blkne hka (by decide))
          have hb3 := (hbel1.alloc hbel1.size (.cells #[.int .i64 (-1)] 3)).grown hg1 (by have := hbel1.size; simp; omega) (fun j hj => (hko.lt j hj).1)
          clear e0 e1 hko hka hg1 hv1 hown1 hkB1 hbel1
          go_wp2
          go_roundw
          case rel => exact ⟨k + 1, by omega, by go_num, ho1, hb3, hk3⟩
          case measure => simp [intOf]; omega
        · have hxt' : x ≤ t := by omega
          have HIF := Lib.hid (show (if t < x then (-1 : Int) else (k : Int)) = k from if_neg hxt)
          have hko := hown1.alloc (.cells #[.int .i64 k] 3)
          have hka := hkB1.call (below_alloc w9 (.cells #[.int .i64 k] 3))
          have hst : Hid (ol ++ [(k : Int)] = (comp0 q.birth t).take (k + 1)) := by show _ = _; rw [take_snoc (comp0_get HX.out), HOL.out, HIF.out]
          (go_wp2_with (at_builtin; refine Hold.stop ?_)); unfold Hold
          refine wpList_appI rfl (.tmp 38) (.tmp 40) rfl w.heap.size _ (.slice OA ol.length oc) ol rfl hko _ _ _ [(k : Int)] rfl rfl (SlI.one w9 _ (k) ⟨by omega, by omega⟩) (by have := HLK.out; simp only [List.length_singleton]; omega) (by have := hbel1.size; simp; omega) ?_
          intro v1 w3 ho1 hg1 hv1
          rw [hst.out] at ho1
          have hk3 := hka.grown hg1 (hko.blkne hka (by decide))
          have hb3 := (hbel1.alloc hbel1.size (.cells #[.int .i64 k] 3)).grown hg1 (by have := hbel1.size; simp; omega) (fun j hj => (hko.lt j hj).1)
          clear e0 e1 hko hka hg1 hv1 hown1 hkB1 hbel1
          go_wp2
          go_roundw
          case rel => exact ⟨k + 1, by omega, by go_num, ho1, hb3, hk3⟩
          case measure => simp [intOf]; omega
      · have hend : ol = itN (rndE t q.ends) (comp0 q.birth t) 0 := by
          rw [← HOL.out, List.take_of_length_le (by rw [comp0_length]; omega)]; rfl
        have hkn : k = q.birth.length := by omega
        have hlk' := HLK.out
        obtain ⟨g, rfl, hgl⟩ : ∃ g, OA = some ⟨g, 0, none⟩ ∧ w.heap.size ≤ g := by
          rcases hown.1.2 with ⟨e, _⟩ | ⟨g, cap, cur, e, hg, _⟩
          · injection e with _ e _
            omega
          · injection e with e _ _
            exact ⟨g, e, hg⟩
        rw [hlk'] at hown ⊢
        rw [hend] at hown
        have HKN := Lib.hid hkn
        clear hkn hlk' hend
        go_wp2
        have hown0 := hown
        have hbel0 := hbel
        have hkB0 := hkB
        clear hown hbel hkB e0 e1 e2 hk hlt
        have hlen1 := Lib.hid (fun n => itN_length t q.ends (comp0 q.birth t) n)
        have hkp : k ≤ 4 := by have := HKN.out; omega
        go_loopw [7] (fun i wr => ∃ n : Nat, n ≤ k ∧ i = .int .i64 n ∧ OwnI wr w.heap.size (.slice (some ⟨g, 0, none⟩) k oc) (itN (rndE t q.ends) (comp0 q.birth t) n) ∧ Below w.heap.size w wr ∧ Blk wr w.heap.size 27 #[.int .i64 q.stages, .slice A q.birth.length c, .slice C q.ends.length d]) (fun i _ => k - (intOf i).toNat)
        case atStart => exact ⟨0, Nat.zero_le _, rfl, hown0, hbel0, hkB0⟩
        case round =>
          clear hown0 hbel0 hkB0
          obtain ⟨n, hn, rfl, hown, hbel, hkB⟩ := hrel
          have e1 := hkB.cell' (i := 1) rfl
          have e2 := hkB.cell' (i := 2) rfl
          by_cases hlt : n < k
          · have hLX := Lib.hid (((hlen1.out n).trans (comp0_length q.birth t)).trans HKN.out.symm)
            obtain ⟨X, hX⟩ : ∃ X, itN (rndE t q.ends) (comp0 q.birth t) n = X := ⟨_, rfl⟩
            rw [hX] at hown hLX
            have HX := Lib.hid hX
            clear hX
            go_wp2
            have hown1 := hown
            have hbel1 := hbel
            have hkB1 := hkB
            clear hown hbel hkB e1 e2
            go_loopw [8] (fun i wr => ∃ m : Nat, m ≤ q.ends.length ∧ i = .int .i64 m ∧ OwnI wr w.heap.size (.slice (some ⟨g, 0, none⟩) k oc) ((q.ends.take m).foldl (stepE t) X) ∧ Below w.heap.size w wr ∧ Blk wr w.heap.size 27 #[.int .i64 q.stages, .slice A q.birth.length c, .slice C q.ends.length d]) (fun i _ => q.ends.length - (intOf i).toNat)
            case atStart => exact ⟨0, Nat.zero_le _, rfl, hown1, hbel1, hkB1⟩
            case round =>
              clear hown1 hbel1 hkB1
              obtain ⟨m, hm, rfl, hown, hbel, hkB⟩ := hrel
              have e1 := hkB.cell' (i := 1) rfl
              have e2 := hkB.cell' (i := 2) rfl
              by_cases hltm : m < q.ends.length
              · obtain ⟨b, o, l, A', c', rfl, hb, HL, x1, hl⟩ := SlII.at_ hT hltm
                obtain ⟨i, j, et, rfl, hi, hj⟩ := isF_end hq HL.out
                have hik : i < k := by have := HKN.out; omega
                have hjk : j < k := by have := HKN.out; omega
                have x2 := bcell hbel hb x1
                obtain ⟨b', o', y0, rfl, hb', HY0, j0, _⟩ := SlI.at_ (k := 0) hl (by simp)
                obtain ⟨b2, o2, y1, E1, _, HY1, j1, _⟩ := SlI.at_ (k := 1) hl (by simp)
                obtain ⟨b3, o3, y2, E2, _, HY2, j2, _⟩ := SlI.at_ (k := 2) hl (by simp)
                have F1 := HY0.out
                have F2 := HY1.out
                have F3 := HY2.out
                simp only [List.getElem?_cons_zero, List.getElem?_cons_succ, Option.some.injEq] at F1 F2 F3 E1 E2
                injection E1 with E1a E1b
                injection E2 with E2a E2b
                subst F1 F2 F3 E1a E1b E2a E2b
                have j0' := bcell hbel hb' j0
                have j1' := bcell hbel hb' j1
                have j2' := bcell hbel hb' j2
                clear j0 j1 j2 HY0 HY1 HY2 x1 hl
                simp only [List.length_cons, List.length_nil, Nat.zero_add, Nat.reduceAdd] at x2
                simp only [Nat.add_zero] at j0'
                have hs := fold_snoc (t := t) (out := X) HL.out
                obtain ⟨Y, hY⟩ : ∃ Y, (q.ends.take m).foldl (stepE t) X = Y := ⟨_, rfl⟩
                have hLY : Hid (Y.length = k) := by show _ = _; rw [← hY, foldE_length, hLX.out]
                rw [hY] at hs hown
                clear hY
                obtain ⟨ci, ri⟩ := hown.cellG (j := i) (by rw [hLY.out]; exact hik)
                obtain ⟨cj, rj⟩ := hown.cellG (j := j) (by rw [hLY.out]; exact hjk)
                have fi := hown.frozenG i
                have fj := hown.frozenG j
                by_cases het : et ≤ t
                · have het' : ¬ t < et := by omega
                  simp only [stepE, if_pos het, Int.toNat_natCast] at hs
                  obtain ⟨x, hx⟩ : ∃ x, Y.getD i 0 = x := ⟨_, rfl⟩
                  obtain ⟨y, hy⟩ : ∃ y, Y.getD j 0 = y := ⟨_, rfl⟩
                  rw [hx] at ci ri hs
                  rw [hy] at cj rj hs
                  obtain ⟨M, hM⟩ : ∃ M, (if y < x then y else x) = M := ⟨_, rfl⟩
                  have hmM : min x y = M := by rw [← hM]; split <;> omega
                  rw [hmM] at hs
                  have hrM : I64 M := by rw [← hM]; split <;> assumption
                  have HS := Lib.hid hs
                  clear hx hy hmM hs
                  go_wp2_with fail
                  go_quiet (fail)
                  obtain ⟨Wq, hWq⟩ : ∃ Wq, Wq = wr.drewN nq := ⟨_, rfl⟩
                  rw [← hWq]
                  have hownq : OwnI Wq w.heap.size (.slice (some ⟨g, 0, none⟩) k oc) Y := by rw [hWq]; exact hown.drewN nq
                  have hbelq : Below w.heap.size w Wq := by rw [hWq]; exact below_drewN hbel nq
                  have hkq : Blk Wq w.heap.size 27 #[.int .i64 q.stages, .slice A q.birth.length c, .slice (some ⟨b, o, none⟩) q.ends.length d] := by rw [hWq]; exact hkB.drewN nq
                  have hne := hownq.blkne hkq (by decide)
                  have di := (hownq.cellG (j := i) (by rw [hLY.out]; exact hik)).1
                  have dj := (hownq.cellG (j := j) (by rw [hLY.out]; exact hjk)).1
                  have fi' := hownq.frozenG i
                  have fj' := hownq.frozenG j
                  have hp := hownq.put (j := i) hrM
                  have dj2 := (hp.1.cellG (j := j) (by rw [List.length_set, hLY.out]; exact hjk)).1
                  have fj2 := hp.1.frozenG j
                  have hp2 := hp.1.put (j := j) hrM
                  have hg1 := hbelq.grown hp.2 (by have := hbelq.size; omega) (fun j hj => by injection hj with hj; omega)
                  have hg2 := hg1.grown hp2.2 (by have := hg1.size; omega) (fun j hj => by injection hj with hj; omega)
                  have hk2 := (hkq.grown hp.2 hne).grown hp2.2 hne
                  rw [← HS.out] at hp2
                  have HPO := Lib.hid hp2.1
                  have HG2 := Lib.hid hg2
                  have HK2 := Lib.hid hk2
                  clear hp hp2 hg1 hg2 hk2 hownq hkq hbelq fi fj ci cj j0' j1' j2' hWq hown hkB e1 e2 hM hbel hne
                  go_wp2
                  go_roundw
                  case rel => exact ⟨m + 1, by omega, by go_num, HPO.out, HG2.out, HK2.out⟩
                  case measure => simp [intOf]; omega
                · have het' : t < et := by omega
                  simp only [stepE, if_neg het] at hs
                  rw [← hs] at hown
                  clear hs
                  go_wp2
                  go_roundw
                  case rel => exact ⟨m + 1, by omega, by go_num, hown, hbel, hkB⟩
                  case measure => simp [intOf]; omega
              · have hst : Hid (itN (rndE t q.ends) (comp0 q.birth t) (n + 1) = (q.ends.take m).foldl (stepE t) X) := by
                  show _ = _
                  rw [itN, HX.out, rndE, List.take_of_length_le (by omega)]
                rw [← hst.out] at hown
                go_wp2
                go_roundw
                case rel => exact ⟨n + 1, by omega, by go_num, hown, hbel, hkB⟩
                case measure => simp [intOf]; omega
          · have hst : Hid (compQ q t = itN (rndE t q.ends) (comp0 q.birth t) n) := by show _ = _; rw [compQ, ← HKN.out, show k = n by omega]
            rw [← hst.out] at hown
            go_wp2
            exact bodyPost_ret (v := (.slice (some ⟨g, 0, none⟩) k oc)) (by simp [results, go_sem]) rfl ⟨_, rfl, by rw [HC.out]; exact IntsO.of_own hown, hbel⟩
end Go.Proofs.YtgabmemalaklbaaGreat

/- The two LineOf. -/
namespace Go.Proofs.YtgabmemalaklbaaGreat
set_option linter.unusedVariables false
set_option linter.unusedSimpArgs false
open Go.RowKit

def lineF (k : Nat) : List Int := (List.range k).map fun i : Nat => (i : Int)
def lineT (k : Nat) : List Int := (List.range k).map fun i : Nat => (i : Int) + 1
theorem lineF_succ (k : Nat) : lineF (k + 1) = lineF k ++ [(k : Int)] := by simp [lineF, List.range_succ]
theorem lineT_succ (k : Nat) : lineT (k + 1) = lineT k ++ [(k : Int) + 1] := by simp [lineT, List.range_succ]
theorem fam_nil2 {w : World} {lo hi : Nat} : Fam w lo hi [(.slice none 0 0, []), (.slice none 0 0, [])] := by
  refine ⟨fun p hp => ?_, ?_⟩
  · simp only [List.mem_cons, List.not_mem_nil, or_false, or_self] at hp
    subst hp
    exact ⟨OwnI.nil _ _, fun k hk => by simp [Value.ownBlock] at hk⟩
  · simp [Value.ownBlock]
theorem fam_made2 (w : World) {lo : Nat} (h : lo ≤ w.heap.size) : Fam ((w.alloc (.cells #[] 3)).alloc (.cells #[] 3)) lo (w.heap.size + 1 + 1) [(.slice (some ⟨w.heap.size, 0, none⟩) 0 0, []), (.slice (some ⟨w.heap.size + 1, 0, none⟩) 0 0, [])] := by
  refine fam_two (mi := w.heap.size + 1) ⟨(OwnI.made _ rfl h).alloc _, fun k hk => by simp [Value.ownBlock] at hk; omega⟩ ⟨?_, fun k hk => by simp [Value.ownBlock] at hk; omega⟩ (by omega) (by omega)
  have := OwnI.made (w := w.alloc (.cells #[] 3)) (base := w.heap.size + 1) _ rfl (by simp)
  simpa only [World.size_alloc] using this
/-- The line of n vertices. -/
def lineQ (n : Int) : Qv := if inR n 1 5 then ⟨n, lineF (n - 1).toNat, lineT (n - 1).toNat⟩ else ⟨0, [], []⟩

theorem line_mid {w w1 : World} {gq : Nat} {N x : Int} {A C : Option Addr} {n n' c d : Nat} {l l' : List Int} (hgq : w.heap.size < gq) (hb1 : Below w.heap.size w w1) (hF1 : Fam w1 w.heap.size w1.heap.size [(.slice A n c, l), (.slice C n' d, l')])
    {V V' : Value} (hq1 : Blk w1 gq 31 #[.int .i64 N, V, V']) (hr1 : Blk w1 w.heap.size 31 #[.int .i64 0, .slice none 0 0, .slice none 0 0]) :
    let W := (w1.setCell ⟨gq, 1, none⟩ (.slice A n c)).alloc (.cells #[.int .i64 x] 3)
    Below w.heap.size w W ∧ Fam W w.heap.size w1.heap.size [(.slice A n c, l), (.slice C n' d, l')] ∧ Blk W gq 31 #[.int .i64 N, .slice A n c, V'] ∧ Blk W w.heap.size 31 #[.int .i64 0, .slice none 0 0, .slice none 0 0] ∧ OwnI W w.heap.size (.slice C n' d) l' := by
  intro W
  have hF2 : Fam W w.heap.size w1.heap.size [(.slice A n c, l), (.slice C n' d, l')] := (hF1.setBlk (i := 1) hq1 (by decide) (.slice A n c)).below (below_alloc _ _)
  refine ⟨(hb1.setCell (by simp; omega) _).alloc (by have := hb1.size; simpa using this) _, hF2, (hq1.set_ 1 _).alloc _, (hr1.far (by simp; omega) _).alloc _, (hF2.1 (_, l') (by simp)).1⟩

set_option maxHeartbeats 800000 in
theorem implLineOf_any (n : Int) (w : World) (_ : I64 n) :
    Calls Tryz.prog 18 #[.int .i64 n] w fun e w' => ∃ v, e = .returned (.tuple #[v, .bool (inR n 1 5)]) ∧ QuivO w' w.heap.size w'.heap.size v (lineQ n) ∧ Below w.heap.size w w' := by
  rcases hin : inR n 1 5 with _ | _
  · have e1 : lineQ n = ⟨0, [], []⟩ := by simp [lineQ, hin]
    rw [e1]
    clear e1
    go_enter Tryz.func18, Tryz.ntmps18
    go_wp2_with (go_at_call 48; refine (within_any _ _ _ _).mono ?_; rintro e w' ⟨rfl, rfl⟩; rw [hin])
    exact bodyPost_ret (v := .tuple #[.agg #[.int .i64 0, .slice none 0 0, .slice none 0 0], .bool false]) (by simp [results, go_sem]) rfl ⟨_, rfl, ⟨_, _, rfl, fam_nil2, ⟨by decide, by decide⟩⟩, below_alloc _ _⟩
  · have hb := inR_t.1 hin
    obtain ⟨m, rfl⟩ : ∃ m : Nat, n = (m : Int) + 1 := ⟨(n - 1).toNat, by omega⟩
    have e1 : lineQ ((m : Int) + 1) = ⟨(m : Int) + 1, lineF m, lineT m⟩ := by simp [lineQ, hin]
    rw [e1]
    clear e1
    go_enter Tryz.func18, Tryz.ntmps18
    go_wp2_with (go_at_call 48; refine (within_any _ _ _ _).mono ?_; rintro e w' ⟨rfl, rfl⟩; rw [hin])
    go_loopw [14] (fun i wr => ∃ (k : Nat) (a b : Value), k ≤ m ∧ i = .int .i64 k ∧ Below w.heap.size w wr ∧ Blk wr w.heap.size 31 #[.int .i64 0, .slice none 0 0, .slice none 0 0] ∧ Blk wr (w.heap.size + 1) 31 #[.int .i64 ((m : Int) + 1), a, b] ∧
      Fam wr w.heap.size wr.heap.size [(a, lineF k), (b, lineT k)]) (fun i _ => m - (intOf i).toNat)
    case atStart =>
      refine ⟨0, .slice none 0 0, .slice none 0 0, Nat.zero_le _, rfl, ((Below.refl _ _).alloc (Nat.le_refl _) _).alloc (by simp) _, (Blk.new _ _ _).alloc _, ?_, ?_⟩
      · have := Blk.new (w.alloc (.cells #[.int .i64 0, .slice none 0 0, .slice none 0 0] 31)) 31 #[.int .i64 ((m : Int) + 1), .slice none 0 0, .slice none 0 0]
        simpa only [World.size_alloc] using this
      · exact fam_nil2
    case round =>
      obtain ⟨k, a, b, hk, rfl, hbel, hbr, hbq, hF⟩ := hrel
      by_cases hlt : k < m
      · have fa : OwnI wr w.heap.size a (lineF k) := (hF.1 (a, lineF k) (by simp)).1
        have fb : OwnI wr w.heap.size b (lineT k) := (hF.1 (b, lineT k) (by simp)).1
        obtain ⟨A, c, rfl, _, _⟩ := fa.form
        obtain ⟨C, d, rfl, _, _⟩ := fb.form
        have q1 := hbq.cell' (i := 1) rfl
        have hs := hbel.size
        have lF : (lineF k).length = k := by simp [lineF]
        have lT : (lineT k).length = k := by simp [lineT]
        have g0 := below_alloc wr (.cells #[.int .i64 (k : Int)] 3)
        have hF0 := hF.below g0
        have hq0 := hbq.call g0
        have hr0 := hbr.call g0
        have fa0 : OwnI (wr.alloc (.cells #[.int .i64 (k : Int)] 3)) w.heap.size (.slice A (lineF k).length c) (lineF k) := fa.alloc _
        have hne0 := fa0.blkne hq0 (by decide)
        have hne0' := fa0.blkne hr0 (by decide)
        have hb0 := hbel.trans (g0.mono hs)
        have HL := Lib.hid (And.intro lF lT)
        clear lF lT
        (go_wp2_with (at_builtin; refine Hold.stop ?_)); unfold Hold
        refine wpList_appI rfl (.tmp 18) (.tmp 20) rfl w.heap.size _ (.slice A (lineF k).length c) (lineF k) rfl fa0 _ _ _ [(k : Int)] rfl rfl (SlI.one wr _ k ⟨by omega, by omega⟩) (by have := HL.out; simp; omega) (by simp; omega) ?_
        intro v1 w1 ho1 hg1 hv1
        rw [← lineF_succ] at ho1
        have hF1 := hF0.app (w' := w1) (L1 := []) (by have := hg1.size; simp at this; omega) ho1 hg1 hv1
        obtain ⟨A1, c1, rfl, _, _⟩ := ho1.form
        have hq1 := hq0.grown hg1 hne0
        have hr1 := hr0.grown hg1 hne0'
        have hb1 := hb0.grown hg1 (by simp; omega) (fun j hj => (fa0.lt j hj).1)
        have y1 := hq1.cell' (i := 1) rfl
        have y2 := hq1.cell' (i := 2) rfl
        have fy := hq1.frozen
        clear hg1 hv1 hF0 hq0 hr0 hne0 hne0' hb0 fa fb fa0 q1 hF hbq hbr g0 ho1
        (go_wp2_with (at_builtin; refine Hold.stop ?_)); unfold Hold
        obtain ⟨hb2, hF2, hq2, hr2, fb2⟩ := line_mid (x := (k : Int) + 1) (by omega) hb1 hF1 hq1 hr1
        refine wpList_appI rfl (.tmp 24) (.tmp 27) rfl w.heap.size _ (.slice C (lineT k).length d) (lineT k) rfl fb2 _ _ _ [(k : Int) + 1] rfl rfl (SlI.one' _ _ ((k : Int) + 1) ⟨by omega, by omega⟩ (by simp)) (by have := HL.out; simp; omega) (by have := hb1.size; simp; omega) ?_
        intro v2 w2 ho2 hg2 hv2
        rw [← lineT_succ] at ho2
        have hF3 := hF2.app (w' := w2) (L1 := [(_, lineF (k + 1))]) (by have := hg2.size; simp at this; omega) ho2 hg2 hv2
        obtain ⟨C1, d1, rfl, _, _⟩ := ho2.form
        have hq3 := hq2.grown hg2 (fb2.blkne hq2 (by decide))
        have hr3 := hr2.grown hg2 (fb2.blkne hr2 (by decide))
        have hb3 := hb2.grown hg2 hb2.size (fun j hj => (fb2.lt j hj).1)
        have z2 := hq3.cell' (i := 2) rfl
        have fz := hq3.frozen
        clear y1 y2 fy hb1 hF1 hq1 hr1 hb2 hF2 hq2 hr2 fb2 ho2 hg2 hv2 hbel
        go_wp2
        go_roundw
        case rel => exact ⟨k + 1, _, _, by omega, by go_num, hb3.setCell (by simp) _, hr3.far (by simp) _, hq3.set_ 2 _, (hF3.setBlk hq3 (by decide) _).mono (Nat.le_refl _) (by simp)⟩
        case measure => simp [intOf]; omega
      · obtain rfl : k = m := by omega
        have fa : OwnI wr w.heap.size a (lineF k) := (hF.1 (a, lineF k) (by simp)).1
        have fb : OwnI wr w.heap.size b (lineT k) := (hF.1 (b, lineT k) (by simp)).1
        obtain ⟨A, c, rfl, _, _⟩ := fa.form
        obtain ⟨C, d, rfl, _, _⟩ := fb.form
        have q0 := hbq.cell' (i := 0) rfl
        have q1 := hbq.cell' (i := 1) rfl
        have q2 := hbq.cell' (i := 2) rfl
        have r0 := hbr.cell' (i := 0) rfl
        have r1 := hbr.cell' (i := 1) rfl
        have r2 := hbr.cell' (i := 2) rfl
        have fr := hbr.frozen
        go_wp2
        refine bodyPost_ret (v := .tuple #[.agg #[.int .i64 ((k : Int) + 1), .slice A (lineF k).length c, .slice C (lineT k).length d], .bool true]) (by simp [results, go_sem, r0, r1, r2]) rfl ⟨_, rfl, ⟨_, _, rfl, ?_, ⟨by simp only; omega, by simp only; omega⟩⟩, ?_⟩
        · have h1 := hF.setBlk (i := 0) hbr (by decide) (.int .i64 ((k : Int) + 1))
          have h2 := h1.setBlk (i := 1) (hbr.set_ 0 _) (by decide) (.slice A (lineF k).length c)
          have h3 := h2.setBlk (i := 2) ((hbr.set_ 0 _).set_ 1 _) (by decide) (.slice C (lineT k).length d)
          simpa using h3
        · exact ((hbel.setCell (by simp) _).setCell (by simp) _).setCell (by simp) _

set_option maxHeartbeats 800000 in
theorem specLineOf_any (n : Int) (w : World) (_ : I64 n) :
    Calls Tryz.prog 19 #[.int .i64 n] w fun e w' => ∃ v, e = .returned (.tuple #[v, .bool (inR n 1 5)]) ∧ QuivO w' w.heap.size w'.heap.size v (lineQ n) ∧ Below w.heap.size w w' := by
  rcases hin : inR n 1 5 with _ | _
  · have e1 : lineQ n = ⟨0, [], []⟩ := by simp [lineQ, hin]
    rw [e1]
    clear e1
    go_enter Tryz.func19, Tryz.ntmps19
    go_wp2_with (go_at_call 55; refine (l1In_any _ _ _ _).mono ?_; rintro e w' ⟨rfl, rfl⟩; rw [hin])
    exact bodyPost_ret (v := .tuple #[.agg #[.int .i64 0, .slice none 0 0, .slice none 0 0], .bool false]) (by simp [results, go_sem]) rfl ⟨_, rfl, ⟨_, _, rfl, fam_nil2, ⟨by decide, by decide⟩⟩, below_alloc _ _⟩
  · have hb := inR_t.1 hin
    obtain ⟨m, rfl⟩ : ∃ m : Nat, n = (m : Int) + 1 := ⟨(n - 1).toNat, by omega⟩
    have e1 : lineQ ((m : Int) + 1) = ⟨(m : Int) + 1, lineF m, lineT m⟩ := by simp [lineQ, hin]
    rw [e1]
    clear e1
    go_enter Tryz.func19, Tryz.ntmps19
    go_wp2_with (go_at_call 55; refine (l1In_any _ _ _ _).mono ?_; rintro e w' ⟨rfl, rfl⟩; rw [hin])
    go_loopw [5] (fun i wr => ∃ (k : Nat) (a b : Value), k ≤ m ∧ i = .int .i64 ((k : Int) + 1) ∧ Below w.heap.size w wr ∧ Blk wr w.heap.size 31 #[.int .i64 0, .slice none 0 0, .slice none 0 0] ∧ Blk wr (w.heap.size + 1 + 1 + 1) 31 #[.int .i64 ((m : Int) + 1), a, b] ∧
      Fam wr w.heap.size wr.heap.size [(a, lineF k), (b, lineT k)]) (fun i _ => m + 1 - (intOf i).toNat)
    case atStart =>
      refine ⟨0, .slice (some ⟨w.heap.size + 1, 0, none⟩) 0 0, .slice (some ⟨w.heap.size + 1 + 1, 0, none⟩) 0 0, Nat.zero_le _, rfl, ((((Below.refl _ _).alloc (Nat.le_refl _) _).alloc (by simp) _).alloc (by simp; omega) _).alloc (by simp; omega) _, (((Blk.new _ _ _).alloc _).alloc _).alloc _, ?_, ?_⟩
      · have := Blk.new (((w.alloc (.cells #[.int .i64 0, .slice none 0 0, .slice none 0 0] 31)).alloc (.cells #[] 3)).alloc (.cells #[] 3)) 31 #[.int .i64 ((m : Int) + 1), .slice (some ⟨w.heap.size + 1, 0, none⟩) 0 0, .slice (some ⟨w.heap.size + 1 + 1, 0, none⟩) 0 0]
        simpa only [World.size_alloc] using this
      · have h := fam_made2 (w.alloc (.cells #[.int .i64 0, .slice none 0 0, .slice none 0 0] 31)) (lo := w.heap.size) (by simp)
        simp only [World.size_alloc] at h
        exact (h.below (below_alloc _ _)).mono (Nat.le_refl _) (by simp)
    case round =>
      obtain ⟨k, a, b, hk, rfl, hbel, hbr, hbq, hF⟩ := hrel
      by_cases hlt : k < m
      · have fa : OwnI wr w.heap.size a (lineF k) := (hF.1 (a, lineF k) (by simp)).1
        have fb : OwnI wr w.heap.size b (lineT k) := (hF.1 (b, lineT k) (by simp)).1
        obtain ⟨A, c, rfl, _, _⟩ := fa.form
        obtain ⟨C, d, rfl, _, _⟩ := fb.form
        have q1 := hbq.cell' (i := 1) rfl
        have hs := hbel.size
        have lF : (lineF k).length = k := by simp [lineF]
        have lT : (lineT k).length = k := by simp [lineT]
        have g0 := below_alloc wr (.cells #[.int .i64 (k : Int)] 3)
        have hF0 := hF.below g0
        have hq0 := hbq.call g0
        have hr0 := hbr.call g0
        have fa0 : OwnI (wr.alloc (.cells #[.int .i64 (k : Int)] 3)) w.heap.size (.slice A (lineF k).length c) (lineF k) := fa.alloc _
        have hne0 := fa0.blkne hq0 (by decide)
        have hne0' := fa0.blkne hr0 (by decide)
        have hb0 := hbel.trans (g0.mono hs)
        have HL := Lib.hid (And.intro lF lT)
        clear lF lT
        (go_wp2_with (at_builtin; refine Hold.stop ?_)); unfold Hold
        refine wpList_appI rfl (.tmp 20) (.tmp 23) rfl w.heap.size _ (.slice A (lineF k).length c) (lineF k) rfl fa0 _ _ _ [(k : Int)] rfl rfl (SlI.one wr _ k ⟨by omega, by omega⟩) (by have := HL.out; simp; omega) (by simp; omega) ?_
        intro v1 w1 ho1 hg1 hv1
        rw [← lineF_succ] at ho1
        have hF1 := hF0.app (w' := w1) (L1 := []) (by have := hg1.size; simp at this; omega) ho1 hg1 hv1
        obtain ⟨A1, c1, rfl, _, _⟩ := ho1.form
        have hq1 := hq0.grown hg1 hne0
        have hr1 := hr0.grown hg1 hne0'
        have hb1 := hb0.grown hg1 (by simp; omega) (fun j hj => (fa0.lt j hj).1)
        have y1 := hq1.cell' (i := 1) rfl
        have y2 := hq1.cell' (i := 2) rfl
        have fy := hq1.frozen
        clear hg1 hv1 hF0 hq0 hr0 hne0 hne0' hb0 fa fb fa0 q1 hF hbq hbr g0 ho1
        (go_wp2_with (at_builtin; refine Hold.stop ?_)); unfold Hold
        obtain ⟨hb2, hF2, hq2, hr2, fb2⟩ := line_mid (x := (k : Int) + 1) (by omega) hb1 hF1 hq1 hr1
        refine wpList_appI rfl (.tmp 27) (.tmp 29) rfl w.heap.size _ (.slice C (lineT k).length d) (lineT k) rfl fb2 _ _ _ [(k : Int) + 1] rfl rfl (SlI.one' _ _ ((k : Int) + 1) ⟨by omega, by omega⟩ (by simp)) (by have := HL.out; simp; omega) (by have := hb1.size; simp; omega) ?_
        intro v2 w2 ho2 hg2 hv2
        rw [← lineT_succ] at ho2
        have hF3 := hF2.app (w' := w2) (L1 := [(_, lineF (k + 1))]) (by have := hg2.size; simp at this; omega) ho2 hg2 hv2
        obtain ⟨C1, d1, rfl, _, _⟩ := ho2.form
        have hq3 := hq2.grown hg2 (fb2.blkne hq2 (by decide))
        have hr3 := hr2.grown hg2 (fb2.blkne hr2 (by decide))
        have hb3 := hb2.grown hg2 hb2.size (fun j hj => (fb2.lt j hj).1)
        have z2 := hq3.cell' (i := 2) rfl
        have fz := hq3.frozen
        clear y1 y2 fy hb1 hF1 hq1 hr1 hb2 hF2 hq2 hr2 fb2 ho2 hg2 hv2 hbel
        go_wp2
        go_roundw
        case rel => exact ⟨k + 1, _, _, by omega, by go_num, hb3.setCell (by simp <;> omega) _, hr3.far (by simp <;> omega) _, hq3.set_ 2 _, (hF3.setBlk hq3 (by decide) _).mono (Nat.le_refl _) (by simp)⟩
        case measure => simp [intOf]; omega
      · obtain rfl : k = m := by omega
        have fa : OwnI wr w.heap.size a (lineF k) := (hF.1 (a, lineF k) (by simp)).1
        have fb : OwnI wr w.heap.size b (lineT k) := (hF.1 (b, lineT k) (by simp)).1
        obtain ⟨A, c, rfl, _, _⟩ := fa.form
        obtain ⟨C, d, rfl, _, _⟩ := fb.form
        have q0 := hbq.cell' (i := 0) rfl
        have q1 := hbq.cell' (i := 1) rfl
        have q2 := hbq.cell' (i := 2) rfl
        have r0 := hbr.cell' (i := 0) rfl
        have r1 := hbr.cell' (i := 1) rfl
        have r2 := hbr.cell' (i := 2) rfl
        have fr := hbr.frozen
        go_wp2
        refine bodyPost_ret (v := .tuple #[.agg #[.int .i64 ((k : Int) + 1), .slice A (lineF k).length c, .slice C (lineT k).length d], .bool true]) (by simp [results, go_sem, r0, r1, r2]) rfl ⟨_, rfl, ⟨_, _, rfl, ?_, ⟨by simp only; omega, by simp only; omega⟩⟩, ?_⟩
        · have h1 := hF.setBlk (i := 0) hbr (by decide) (.int .i64 ((k : Int) + 1))
          have h2 := h1.setBlk (i := 1) (hbr.set_ 0 _) (by decide) (.slice A (lineF k).length c)
          have h3 := h2.setBlk (i := 2) ((hbr.set_ 0 _).set_ 1 _) (by decide) (.slice C (lineT k).length d)
          simpa using h3
        · exact ((hbel.setCell (by simp) _).setCell (by simp) _).setCell (by simp) _

end Go.Proofs.YtgabmemalaklbaaGreat

/- make of rows of ints and of rows of rows, in any world. -/
namespace Go.Proofs.YtgabmemalaklbaaGreat
set_option linter.unusedVariables false
set_option linter.unusedSimpArgs false
open Go.RowKit

theorem run_mkII (w : World) {n : Nat} (hn : n ≤ 1000000) : (Instr.makeSlice 25 (.int .i64 (n : Int)) (.int .i64 (n : Int))).run Tryz.prog w = .ok (.slice (some ⟨w.heap.size, 0, none⟩) n n) (w.alloc (.cells (mkCells (.slice none 0 0) n) 24)) := by
  obtain ⟨i0, hi, hz0, hz1, hz2⟩ := info_parts infoInts
  have hmk := run_mk (P := Tryz.prog) Tryz.underlying25 hi hz0 (n := n) (by rw [hz2]; omega) (by omega)
  rw [hz1, Nat.mul_one] at hmk
  exact hmk w
theorem run_mkI (w : World) {n : Nat} (hn : n ≤ 1000000) : (Instr.makeSlice 24 (.int .i64 (n : Int)) (.int .i64 (n : Int))).run Tryz.prog w = .ok (.slice (some ⟨w.heap.size, 0, none⟩) n n) (w.alloc (.cells (mkCells (.int .i64 0) n) 3)) := by
  obtain ⟨i0, hi, hz0, hz1, hz2⟩ := info_parts infoInt
  have hmk := run_mk (P := Tryz.prog) Tryz.underlying24 hi hz0 (n := n) (by rw [hz2]; omega) (by omega)
  rw [hz1, Nat.mul_one] at hmk
  exact hmk w
end Go.Proofs.YtgabmemalaklbaaGreat

/- Bars in memory of the call's own: marks, the look at marks, append of one bar. -/
namespace Go.Proofs.YtgabmemalaklbaaGreat
set_option linter.unusedVariables false
set_option linter.unusedSimpArgs false
open Go.RowKit

def BarsO.mk (k : Int) (l : List Bar) : List Bar := (List.range l.length).map fun i : Nat => (k + 3 * i, k + 3 * i + 1, k + 3 * i + 1 + 1)
/-- the first j marked -/
def bmTo (k : Int) (l : List Bar) (j : Nat) : List Bar := (BarsO.mk k l).take j ++ l.drop j
/-- append of one bar -/
theorem wpList_appB {w : World} {ops : Array Oper} {rest : List Oper} {o : Oper} {a : Act} {Q : Exit → Act → World → Prop} (hgd : o.guard = none) (s x : Operand)
    (ho : o.op = .call { callee := .builtin .append, args := #[s, x], argTypes := #[37, 37] })
    (lo hi : Nat) (v : Value) (l : List Bar) (hs : a.eval s = v) (hown : BarsO w lo hi v l) (g c : Nat) (b : Bar) (hx : a.eval x = .slice (some ⟨g, 0, none⟩) 1 c) (hg : Blk w g 70 #[.int .i64 b.1, .int .i64 b.2.1, .int .i64 b.2.2]) (hb : IBar b)
    (hn : l.length ≤ 1000000) (hlo : lo ≤ w.heap.size)
    (h : ∀ v' w', BarsO w' lo w'.heap.size v' (l ++ [b]) → Below lo w w' → w.grownBy w' v.ownBlock → wpList Tryz.prog ops Q rest (a.put o.dst v') w') : wpList Tryz.prog ops Q (o :: rest) a w := by
  obtain ⟨i0, hi', hz0, hz1, hz2⟩ := info_parts infoBar
  refine wpList_append_G w hgd s x _ ho lo 70 i0 _ 3 24 Tryz.underlying37 hi' hz0 hz1 hz2 rfl (by decide) v l.length _ hs hown.1.1 _ 1 c [.int .i64 b.1, .int .i64 b.2.1, .int .i64 b.2.2] hx ⟨rfl, .inr ⟨g, 0, rfl, fun j y hj => ?_⟩⟩ ?_ (by simp only [maxLen]; omega) (by omega) hlo fun v' w' h1 h2 h3 => ?_
  · have hj3 := lt_of_some hj
    simp only [List.length_cons, List.length_nil] at hj3
    rw [Nat.zero_add]
    match j, hj with
    | 0, hj => rw [hg.cell]; exact hj
    | 1, hj => rw [hg.cell]; exact hj
    | 2, hj => rw [hg.cell]; exact hj
    | j + 3, hj => omega
  · intro y hy
    simp only [List.mem_cons, List.not_mem_nil, or_false] at hy
    rcases hy with rfl | rfl | rfl <;> rfl
  · refine h v' w' ⟨⟨?_, fun k hk => (h1.lt k hk).2, by simp; omega⟩, fun y hy => ?_⟩ (below_grown h2 (fun k hk => (hown.1.1.lt k hk).1) hlo) h2
    · rw [barCs_append, List.length_append]
      exact h1
    · rcases List.mem_append.1 hy with hy | hy
      · exact hown.2 y hy
      · rw [List.mem_singleton] at hy
        subst hy
        exact hb

theorem BarsO.made0 (w : World) {lo : Nat} (h : lo ≤ w.heap.size) : BarsO (w.alloc (.cells #[] 70)) lo (w.alloc (.cells #[] 70)).heap.size (.slice (some ⟨w.heap.size, 0, none⟩) 0 0) [] :=
  ⟨⟨World.ownsRow_made w #[] 0 h (by simp [maxLen]) (by simp), by simp [Value.ownBlock], by simp⟩, by simp⟩
end Go.Proofs.YtgabmemalaklbaaGreat

/- The law of Net.lean, for a region in which one operation of the net (g) writes into memory that operations ahead of it made (an append): behind it only equations and what waits for it are known. -/
namespace Go.Proofs.YtgabmemalaklbaaGreat
set_option linter.unusedVariables false
set_option linter.unusedSimpArgs false
open Go.RowKit
section
variable {P : Program}
section
variable {ops : Array Oper} {Q : Exit → Act → World → Prop} {sp : List NS} {D N : List (List Nat)} {m g : Nat} {a0 : Act} {w0 : World} {E : Nat → Bool}
/-- what is to be shown of operation i: at g the memory from w0's size on may have been turned -/
def netDoC (P : Program) (ops : Array Oper) (sp : List NS) (D N : List (List Nat)) (g : Nat) (a0 : Act) (w0 : World) (i : Nat) (o : Oper) : Prop :=
  ∀ (x : Gh) (w : World), Below w0.heap.size w0 w → (∀ j ∈ N.getD i [], known sp D x j w ∧ x.hi j ≤ w.heap.size) → ∀ Q' : Exit → Act → World → Prop,
    (∀ u w', Below (bif i == g then w0.heap.size else w.heap.size) w w' → (sp.getD i (.eq undef)).holds i (D.getD i []) (x.set i u w.heap.size w'.heap.size) w' → Q' .normal ((netAct ops a0 x.v i).put o.dst u) w') → wpList P ops Q' [o] (netAct ops a0 x.v i) w

def netAllC (P : Program) (ops : Array Oper) (sp : List NS) (D N : List (List Nat)) (g : Nat) (a0 : Act) (w0 : World) : Nat → List Oper → Prop
  | _, [] => True
  | i, o :: l => netDoC P ops sp D N g a0 w0 i o ∧ netAllC P ops sp D N g a0 w0 (i + 1) l
/-- what is known behind g -/
def consB (sp : List NS) (D : List (List Nat)) (g : Nat) : List Nat → Prop
  | [] => True
  | i :: l => (i = g ∨ (D.getD i []).contains g = true ∨ ∃ u, sp.getD i (.eq undef) = .eq u) ∧ consB sp D g l
end
end
end Go.Proofs.YtgabmemalaklbaaGreat

/- The law of Net.lean for a region with guarded operations: what is said of an operation that its guard passes by is that its value is undef. -/
namespace Go.Proofs.YtgabmemalaklbaaGreat
set_option linter.unusedVariables false
set_option linter.unusedSimpArgs false
open Go.RowKit

section
variable {P : Program}
theorem tmps_eqU {a b : Act} {t : Tmp} (h : a.eval (.tmp t) = b.eval (.tmp t)) (hs : b.tmps.size = a.tmps.size) : a.tmps[t]? = b.tmps[t]? := by
  simp only [Act.eval, Array.getD_eq_getD_getElem?] at h
  by_cases hlt : t < b.tmps.size
  · have hlt' : t < a.tmps.size := hs ▸ hlt
    rw [Array.getElem?_eq_getElem hlt, Array.getElem?_eq_getElem hlt'] at h ⊢
    simpa using h
  · have hge := Nat.le_of_not_lt hlt
    rw [Array.getElem?_eq_none (hs ▸ hge : a.tmps.size ≤ t), Array.getElem?_eq_none hge]
/-- the test of a region: D tells what each operation waits for, m where the tail begins -/
def netAtU (ops : Array Oper) (D : List (List Nat)) (m i : Nat) (o : Oper) : Bool :=
  (directOf o).all (· < i) && (D.getD i []).all (fun j => decide (j < i) && ((directOf o).contains j || (directOf o).any fun k => (D.getD k []).contains j)) &&
  (List.range ops.size).all (fun k => match dstAt ops k with
    | none => true
    | some d => (!(o.looksAt ops).contains d || (D.getD i []).contains k || (D.getD k []).contains i) && (k == i || dstAt ops i != some d || (D.getD i []).contains k || (D.getD k []).contains i)) &&
  (decide (i < m) || (List.range i).all fun j => (D.getD i []).contains j)
def netFromU (ops : Array Oper) (D : List (List Nat)) (m : Nat) : Nat → List Oper → Bool
  | _, [] => true
  | i, o :: l => netAtU ops D m i o && netFromU ops D m (i + 1) l
def netBU (ops : Array Oper) (D : List (List Nat)) (m : Nat) : Bool := decide (m ≤ ops.size) && Region.noSelect ops && netFromU ops D m 0 ops.toList
theorem netFrom_specU {ops : Array Oper} {D : List (List Nat)} {m : Nat} : ∀ (l : List Oper) (k : Nat), netFromU ops D m k l = true → ∀ j o, l[j]? = some o → netAtU ops D m (k + j) o = true
  | [], _, _, _, _, h => by simp at h
  | x :: l, k, h, 0, o, hj => by
    simp only [netFromU, Bool.and_eq_true] at h
    simp at hj
    subst hj
    exact h.1
  | x :: l, k, h, j + 1, o, hj => by
    simp only [netFromU, Bool.and_eq_true] at h
    have := netFrom_specU l (k + 1) h.2 j o (by simpa using hj)
    rwa [show k + 1 + j = k + (j + 1) by omega] at this

structure NetOkU (ops : Array Oper) (D : List (List Nat)) (m i : Nat) (o : Oper) : Prop where
  direct : ∀ e ∈ o.after, Region.binds .any e = true → e.on < i
  dlt : ∀ j ∈ D.getD i [], j < i
  danc : ∀ (S : Nat → Prop), (∀ e ∈ o.after, Region.binds .any e = true → S e.on) → (∀ k, S k → ∀ j ∈ D.getD k [], S j) → ∀ j ∈ D.getD i [], S j
  looks : ∀ k d, dstAt ops k = some d → d ∈ o.looksAt ops → k ∈ D.getD i [] ∨ i ∈ D.getD k []
  dsts : ∀ k d, k ≠ i → dstAt ops k = some d → dstAt ops i = some d → k ∈ D.getD i [] ∨ i ∈ D.getD k []
  tail : m ≤ i → ∀ j, j < i → j ∈ D.getD i []
theorem netAt_specU {ops : Array Oper} {D : List (List Nat)} {m i : Nat} {o : Oper} (h : netAtU ops D m i o = true) : NetOkU ops D m i o := by
  simp only [netAtU, Bool.and_eq_true, List.all_eq_true, Bool.or_eq_true, decide_eq_true_eq, List.mem_range] at h
  obtain ⟨⟨⟨h2, h3⟩, h4⟩, h5⟩ := h
  have hdir : ∀ e ∈ o.after, Region.binds .any e = true → e.on ∈ directOf o := fun e he hb => by
    unfold directOf
    rw [List.mem_map]
    exact ⟨e, by rw [List.mem_filter]; exact ⟨by simpa using he, hb⟩, rfl⟩
  have hk : ∀ {k : Nat} {d : Tmp}, dstAt ops k = some d → k < ops.size := fun {k d} hd => by
    rcases Nat.lt_or_ge k ops.size with h | h
    · exact h
    · simp [dstAt, Array.getElem?_eq_none h] at hd
  refine ⟨fun e he hb => h2 _ (hdir e he hb), fun j hj => (h3 j hj).1, fun S hS hc j hj => ?_, fun k d hd hl => ?_, fun k d hne hd hdi => ?_, fun hm j hj => ?_⟩
  · have hD : ∀ k ∈ directOf o, S k := fun k hk => by
      unfold directOf at hk
      rw [List.mem_map] at hk
      obtain ⟨e, he, rfl⟩ := hk
      rw [List.mem_filter] at he
      exact hS e (by simpa using he.1) he.2
    rcases (h3 j hj).2 with h | h
    · exact hD j (by simpa using h)
    · rw [List.any_eq_true] at h
      obtain ⟨k, hk, hkj⟩ := h
      exact hc k (hD k hk) j (by simpa using hkj)
  · have := h4 k (hk hd)
    rw [hd] at this
    simp only [Bool.and_eq_true, Bool.or_eq_true, Bool.not_eq_true', List.contains_iff_mem, List.contains_eq_mem, decide_eq_true_eq, decide_eq_false_iff_not] at this
    rcases this.1 with (h | h) | h
    · exact absurd hl h
    · exact .inl h
    · exact .inr h
  · have := h4 k (hk hd)
    rw [hd] at this
    simp only [Bool.and_eq_true, Bool.or_eq_true, List.contains_eq_mem, decide_eq_true_eq, beq_iff_eq, bne_iff_ne] at this
    rcases this.2 with ((h | h) | h) | h
    · exact absurd h hne
    · exact absurd hdi h
    · exact .inl h
    · exact .inr h
  · rcases h5 with h | h
    · omega
    · simpa using h j hj

section
variable {ops : Array Oper} {Q : Exit → Act → World → Prop} {sp : List NS} {D : List (List Nat)} {m : Nat} {a0 : Act} {w0 : World}
/-- the tail, in the order of the text -/
theorem net_tailU (hok : ∀ i o, ops[i]? = some o → NetOkU ops D m i o) : ∀ (fuel k : Nat) (listed : Array Bool) (a : Act) (w : World), fuel + k = ops.size → m ≤ k → listed.size = ops.size → (∀ j, listed.getD j false = decide (j < k)) →
    wpList P ops Q (ops.toList.drop k) a w → wpAny P .any ops Q fuel listed a w
  | fuel, k, listed, a, w, hf, hm, hls, hl, h => by
    have hld : ∀ j, j < ops.size → listed.getD j true = decide (j < k) := fun j hj => by
      rw [← hl j]
      simp [Array.getD_eq_getD_getElem?, Array.getElem?_eq_getElem (show j < listed.size by omega)]
    have hr : ∀ i ∈ Region.ready .any ops listed, i = k ∧ k < ops.size := fun i hi => by
      obtain ⟨h0, o, ho, hall⟩ := mem_ready.1 hi
      have hin := (Array.getElem?_eq_some_iff.1 ho).1
      rw [hld i hin] at h0
      have hik : k ≤ i := by simpa using h0
      refine ⟨?_, by omega⟩
      have hcl := (hok i o ho).danc (fun j => j < k) (fun e he hb => by have := hall e he hb; rw [hl] at this; simpa using this) (fun j hj x hx => by
        have hjs : j < ops.size := by omega
        have := (hok j _ (Array.getElem?_eq_getElem hjs)).dlt x hx
        omega)
      rcases Nat.lt_or_ge k i with hlt | hge
      · have := hcl k ((hok i o ho).tail (by omega) k hlt)
        omega
      · omega
    cases fuel with
    | zero =>
      refine ⟨?_, ?_⟩
      · apply List.eq_nil_iff_forall_not_mem.2
        intro i hi
        have := hr i hi
        omega
      · rw [List.drop_of_length_le (by simp; omega)] at h
        exact h
    | succ fuel =>
      have hks : k < ops.size := by omega
      have hke := Array.getElem?_eq_getElem hks
      have hdrop : ops.toList.drop k = ops[k] :: ops.toList.drop (k + 1) := by
        rw [List.drop_eq_getElem_cons (by simpa using hks)]
        simp
      rw [hdrop] at h
      have hready : k ∈ Region.ready .any ops listed := mem_ready.2 ⟨by rw [hld k hks]; simp, _, hke, fun e he hb => by rw [hl]; simpa using (hok k _ hke).direct e he hb⟩
      refine ⟨fun h0 => (by rw [h0] at hready; cases hready), fun i hi => ?_⟩
      obtain ⟨rfl, _⟩ := hr i hi
      unfold wpOp
      simp only [hke]
      have nxt : ∀ a w, wpList P ops Q (ops.toList.drop (i + 1)) a w → wpAny P .any ops Q fuel (listed.setIfInBounds i true) a w := fun a w h =>
        net_tailU hok fuel (i + 1) _ a w (by omega) (by omega) (by simpa using hls) (fun j => by
          by_cases e : i = j
          · subst e
            simp [Array.getD_eq_getD_getElem?, Array.getElem?_setIfInBounds, hls, hks]
          · rw [getD_set_ne _ e, hl]
            congr 1
            rw [eq_iff_iff]
            omega) h
      by_cases hw : Region.wanted ops[i] (yielded ops a.tmps) = true
      · simp only [wpList, hw, if_true] at h ⊢
        rcases h with h | h
        · exact .inl (Oper.wp_mono nxt h)
        · exact .inr h
      · rw [Bool.not_eq_true] at hw
        simp only [wpList, hw, Bool.false_eq_true, if_false] at h ⊢
        exact nxt _ _ h

theorem net_anyU (hB : netBU ops D m = true) (hst : ∀ s ∈ sp, s.stable) (hdo : ∀ i o, i < m → ops[i]? = some o → netDo P ops sp D a0 w0 i o)
    (hend : ∀ x w, Below w0.heap.size w0 w → (∀ i, i < m → known sp D x i w) → (∀ i, i < m → w0.heap.size ≤ x.lo i ∧ x.lo i ≤ x.hi i ∧ x.hi i ≤ w.heap.size) → (∀ i j, i < m → j < m → i ≠ j → x.hi i ≤ x.lo j ∨ x.hi j ≤ x.lo i) → wpList P ops Q (ops.toList.drop m) (netAct ops a0 x.v m) w) :
    ∀ (fuel : Nat) (listed : Array Bool) (x : Gh) (w : World), ((List.range ops.size).filter fun j => !listed.getD j false).length = fuel → listed.size = ops.size → (∀ j, m ≤ j → listed.getD j false = false) →
      (∀ i, listed.getD i false = true → ∀ j ∈ D.getD i [], listed.getD j false = true) → Below w0.heap.size w0 w → (∀ i, listed.getD i false = true → known sp D x i w) → (∀ i, listed.getD i false = true → w0.heap.size ≤ x.lo i ∧ x.lo i ≤ x.hi i ∧ x.hi i ≤ w.heap.size) →
      (∀ i j, listed.getD i false = true → listed.getD j false = true → i ≠ j → x.hi i ≤ x.lo j ∨ x.hi j ≤ x.lo i) →
      wpAny P .any ops Q fuel listed (actP ops a0 x.v (fun j => listed.getD j false) ops.size) w := by
  simp only [netBU, Bool.and_eq_true, decide_eq_true_eq] at hB
  obtain ⟨⟨hm, hns⟩, hnf⟩ := hB
  have hok : ∀ i o, ops[i]? = some o → NetOkU ops D m i o := fun i o ho => netAt_specU (by
    have := netFrom_specU ops.toList 0 hnf i o (by simpa using ho)
    simpa using this)
  have hst' : ∀ i, (sp.getD i (.eq undef)).stable := fun i => by
    rw [List.getD_eq_getElem?_getD]
    rcases h : sp[i]? with _ | s
    · trivial
    · exact hst s (List.mem_of_getElem? h)
  intro fuel
  induction fuel with
  | zero =>
    intro listed x w hc hls hlm hcl hb hkn hiv hdj
    -- all are listed: then m is the region's size
    have hall : ∀ j, j < ops.size → listed.getD j false = true := fun j hj => by
      rw [List.length_eq_zero_iff, List.filter_eq_nil_iff] at hc
      have := hc j (List.mem_range.2 hj)
      simpa using this
    have hms : m = ops.size := by
      rcases Nat.lt_or_ge m ops.size with h | h
      · have := hall m h
        rw [hlm m (Nat.le_refl _)] at this
        cases this
      · omega
    refine net_tailU hok 0 ops.size listed _ w (by omega) (by omega) hls (fun j => ?_) ?_
    · by_cases hj : j < ops.size
      · rw [hall j hj]; simp [hj]
      · rw [hlm j (by omega)]; simp [hj]
    · have := hend x w hb (fun i hi => hkn i (hall i (by omega))) (fun i hi => hiv i (hall i (by omega))) (fun i j hi hj => hdj i j (hall i (by omega)) (hall j (by omega)))
      rw [← actP_net (p := fun j => listed.getD j false) m (fun j hj => hall j (by omega))] at this
      rwa [hms] at this
  | succ fuel ih =>
    intro listed x w hc hls hlm hcl hb hkn hiv hdj
    by_cases hfull : ∀ j, j < m → listed.getD j false = true
    · -- the tail
      have hl : ∀ j, listed.getD j false = decide (j < m) := fun j => by
        by_cases hj : j < m
        · rw [hfull j hj]; simp [hj]
        · rw [hlm j (by omega)]; simp [hj]
      have hcnt : fuel + 1 + m = ops.size := by
        rw [← hc]
        have e : (List.range ops.size).filter (fun j => !listed.getD j false) = (List.range' m (ops.size - m)) := by
          have e1 : (List.range ops.size) = List.range m ++ List.range' m (ops.size - m) := by
            have h := List.range'_append_1 (s := 0) (m := m) (n := ops.size - m)
            rw [Nat.zero_add] at h
            rw [List.range_eq_range', List.range_eq_range', h]
            congr 1
            omega
          rw [e1, List.filter_append]
          rw [List.filter_eq_nil_iff.2 (fun j hj => by rw [hl]; simp at hj ⊢; exact hj), List.nil_append]
          rw [List.filter_eq_self.2 (fun j hj => by rw [hl]; simp [List.mem_range'] at hj ⊢; omega)]
        rw [e, List.length_range']
        omega
      refine net_tailU hok (fuel + 1) m listed _ w (by omega) (Nat.le_refl _) hls hl ?_
      have := hend x w hb (fun i hi => hkn i (hfull i hi)) (fun i hi => hiv i (hfull i hi)) (fun i j hi hj => hdj i j (hfull i hi) (hfull j hj))
      rw [← actP_net (p := fun j => listed.getD j false) m hfull] at this
      rwa [actP_none (p := fun j => listed.getD j false) ops.size m hm (fun j h1 _ => hlm j h1)]
    · -- one of the net
      have hne : Region.ready .any ops listed ≠ [] := by
        intro h0
        -- the least that is not listed is ready
        have : ∀ n, ∀ j, j < n → j < m → listed.getD j false = true := by
          intro n
          induction n with
          | zero => intro j hj; omega
          | succ n ihn =>
            intro j hj hjm
            by_cases e : j < n
            · exact ihn j e hjm
            · rcases hlj : listed.getD j false with _ | _
              · exfalso
                have hjs : j < ops.size := by omega
                have hje := Array.getElem?_eq_getElem hjs
                have : j ∈ Region.ready .any ops listed := mem_ready.2 ⟨by
                  rw [← hlj]
                  simp [Array.getD_eq_getD_getElem?, Array.getElem?_eq_getElem (show j < listed.size by omega)], _, hje, fun e he hb => by
                  have := (hok j _ hje).direct e he hb
                  exact ihn e.on (by omega) (by omega)⟩
                rw [h0] at this
                cases this
              · rfl
        exact hfull fun j hj => this (j + 1) j (by omega) hj
      refine ⟨fun h0 => absurd h0 hne, fun i hi => ?_⟩
      obtain ⟨h0, o, ho, hall⟩ := mem_ready.1 hi
      have his := (Array.getElem?_eq_some_iff.1 ho).1
      have hO := hok i o ho
      have hDl : ∀ j ∈ D.getD i [], listed.getD j false = true := hO.danc (fun j => listed.getD j false = true) hall (fun k hk j hj => hcl k hk j hj)
      have him : i < m := by
        rcases Nat.lt_or_ge i m with h | h
        · exact h
        · exact absurd (fun j hj => hDl j (hO.tail h j (by omega))) hfull
      have hli : listed.getD i false = false := by
        rw [← h0]
        simp [Array.getD_eq_getD_getElem?, Array.getElem?_eq_getElem (show i < listed.size by omega)]
      have hpre := hdo i o him ho x w hb (fun j hj => ⟨hkn j (hDl j hj), (hiv j (hDl j hj)).2.2⟩) (fun e b w' => e = .normal ∧ ∃ u, b = (netAct ops a0 x.v i).put o.dst u ∧ (Below w.heap.size w w' ∧ (sp.getD i (.eq undef)).holds i (D.getD i []) (x.set i u w.heap.size w'.heap.size) w'))
        (fun u w' h1 h2 => ⟨rfl, u, rfl, h1, h2⟩)
      have heq : ∀ t ∈ o.looksAt ops, (actP ops a0 x.v (fun j => listed.getD j false) ops.size).eval (.tmp t) = (netAct ops a0 x.v i).eval (.tmp t) := fun t hlook => by
        have e1 : netAct ops a0 x.v i = actP ops a0 x.v (fun j => decide (j < i)) ops.size := by
          rw [actP_none (p := fun j => decide (j < i)) ops.size i (by omega) (fun j h1 _ => by simp; omega)]
          exact (actP_net (p := fun j => decide (j < i)) i (fun j hj => by simp [hj])).symm
        rw [e1]
        refine actP_eval t ops.size fun j hj hd => ?_
        rcases hO.looks j t hd hlook with h | h
        · rw [hDl j h]; have := hO.dlt j h; simp [this]
        · have hlt := (hok j _ (Array.getElem?_eq_getElem hj)).dlt i h
          have : listed.getD j false = false := by
            rcases hlj : listed.getD j false with _ | _
            · rfl
            · have := hcl j hlj i h
              rw [hli] at this
              cases this
          rw [this]; simp; omega
      have hsz : (netAct ops a0 x.v i).tmps.size = (actP ops a0 x.v (fun j => listed.getD j false) ops.size).tmps.size := by
        rw [actP_size, ← actP_net (p := fun _ => true) i (fun _ _ => rfl), actP_size]
      have hexec : execOp (actP ops a0 x.v (fun j => listed.getD j false) ops.size).eval o = execOp (netAct ops a0 x.v i).eval o := by
        refine execOp_congr o (fun cs b => Region.noSelect_spec hns i o cs b ho) fun y hx => ?_
        by_cases hxt : ∃ t, y = .tmp t
        · obtain ⟨t, rfl⟩ := hxt
          exact heq t (List.mem_append_left _ (List.mem_filterMap.2 ⟨.tmp t, by simpa using hx, rfl⟩))
        · exact actP_evalC y (fun t h => hxt ⟨t, h⟩) _ _
      have hwEq : Region.wanted o (yielded ops (actP ops a0 x.v (fun j => listed.getD j false) ops.size).tmps) = Region.wanted o (yielded ops (netAct ops a0 x.v i).tmps) := by
        unfold Region.wanted
        cases hg : o.guard with
        | none => rfl
        | some gw =>
          obtain ⟨g, want⟩ := gw
          have hy : yielded ops (actP ops a0 x.v (fun j => listed.getD j false) ops.size).tmps g = yielded ops (netAct ops a0 x.v i).tmps g := by
            unfold yielded
            cases ht : (ops[g]?).bind (·.dst) with
            | none => rfl
            | some t =>
              have h1 := heq t (by simp [Oper.looksAt, hg, ht])
              simp only [Option.bind_some, tmps_eqU h1 hsz]
          simp only [hy]
      have hnl : ¬ LetsOut (fun (e : Exit) (b : Act) (w' : World) => e = .normal ∧ ∃ u, b = (netAct ops a0 x.v i).put o.dst u ∧ (Below w.heap.size w w' ∧ (sp.getD i (.eq undef)).holds i (D.getD i []) (x.set i u w.heap.size w'.heap.size) w')) := by
        rintro ⟨b, w', h, _⟩
        cases h
      suffices step : ∀ u w', Below w.heap.size w w' → (sp.getD i (.eq undef)).holds i (D.getD i []) (x.set i u w.heap.size w'.heap.size) w' →
          wpAny P .any ops Q fuel (listed.setIfInBounds i true) ((actP ops a0 x.v (fun j => listed.getD j false) ops.size).put o.dst u) w' by
        by_cases hwant : Region.wanted o (yielded ops (netAct ops a0 x.v i).tmps) = true
        · simp only [wpList, hwant, if_true] at hpre
          rcases hpre with hpre | hpre
          case inr => exact absurd hpre.2 hnl
          simp only [true_and] at hpre
          have hT := wp_transfer (Q2 := Q) hexec hsz (fun c b w' h => by cases h.1) hnl hpre
          unfold wpOp
          simp only [ho, hwEq, hwant, if_true]
          refine .inl (Oper.wp_mono ?_ hT)
          rintro b w' ⟨u, rfl, hbw, hh⟩
          exact step u w' hbw hh
        · rw [Bool.not_eq_true] at hwant
          simp only [wpList, hwant, Bool.false_eq_true, if_false, true_and] at hpre
          obtain ⟨u, he, hbw, hh⟩ := hpre
          unfold wpOp
          simp only [ho, hwEq, hwant, Bool.false_eq_true, if_false]
          rw [act_put_eq he hsz]
          exact step u w hbw hh
      intro u w' hbw hh
      have hdst : o.dst = dstAt ops i := by simp [dstAt, ho]
      have hlq : ∀ j, (listed.setIfInBounds i true).getD j false = (listed.getD j false || j == i) := fun j => by
        by_cases e : i = j
        · subst e
          simp [Array.getD_eq_getD_getElem?, Array.getElem?_setIfInBounds, hls, his]
        · rw [getD_set_ne _ e]
          simp [Ne.symm e]
      rw [hdst, actP_add (v' := (x.set i u w.heap.size w'.heap.size).v) (q := fun j => (listed.setIfInBounds i true).getD j false) (fun j hj _ => by simp [Gh.set, hj]) (by simp [Gh.set]) hli hlq (fun j d hij hlj hdj hdi => by
        rcases hO.dsts j d (by omega) hdj hdi with h | h
        · have := hO.dlt j h; omega
        · have := hcl j hlj i h
          rw [hli] at this
          cases this) ops.size his]
      refine ih _ _ _ ?_ (by simpa using hls) (fun j hj => by rw [hlq, hlm j hj]; simp; omega) (fun k hk j hj => ?_) (hb.trans (hbw.mono hb.size)) (fun k hk => ?_) (fun k hk => ?_) (fun k j hk hj hkj => ?_)
      · -- the count
        have hmem : i ∈ (List.range ops.size).filter fun j => !listed.getD j false := by
          rw [List.mem_filter]; exact ⟨List.mem_range.2 his, by rw [hli]; rfl⟩
        have e : (List.range ops.size).filter (fun j => !(listed.setIfInBounds i true).getD j false) = ((List.range ops.size).filter fun j => !listed.getD j false).filter (fun j => j != i) := by
          rw [List.filter_filter]
          congr 1
          funext j
          rw [hlq]
          simp [Bool.not_or, Bool.and_comm, bne]
        have hnd : ((List.range ops.size).filter fun j => !listed.getD j false).Nodup := List.nodup_range.filter _
        rw [e]
        have := List.length_erase_of_mem hmem
        rw [hnd.erase_eq_filter, hc] at this
        simpa using this
      · rw [hlq] at hk ⊢
        simp only [Bool.or_eq_true, beq_iff_eq] at hk ⊢
        rcases hk with hk | rfl
        · exact .inl (hcl k hk j hj)
        · exact .inl (hDl j hj)
      · rw [hlq] at hk
        simp only [Bool.or_eq_true, beq_iff_eq] at hk
        unfold known
        by_cases e : k = i
        · subst e
          exact hh
        · rcases hk with hk | hk
          · refine NS.holds_congr (x := x) (fun j hj => ?_) (NS.holds_stable (hst' k) (hkn k hk) hbw)
            have hji : j ≠ i := by
              rcases hj with rfl | hj
              · exact e
              · rintro rfl
                have := hcl k hk j hj
                rw [hli] at this
                cases this
            simp [Gh.set, hji]
          · exact absurd hk e
      · rw [hlq] at hk
        simp only [Bool.or_eq_true, beq_iff_eq] at hk
        by_cases e : k = i
        · subst e
          simp only [Gh.set, if_true]
          exact ⟨hb.size, hbw.size, Nat.le_refl _⟩
        · have := hiv k (hk.resolve_right e)
          have := hbw.size
          simp only [Gh.set, if_neg e]
          omega
      · rw [hlq] at hk hj
        simp only [Bool.or_eq_true, beq_iff_eq] at hk hj
        by_cases e : k = i
        · subst e
          have := hiv j (hj.resolve_right (Ne.symm hkj))
          simp only [Gh.set, if_true, if_neg (Ne.symm hkj)]
          exact .inr (by omega)
        · by_cases e' : j = i
          · subst e'
            have := hiv k (hk.resolve_right e)
            simp only [Gh.set, if_true, if_neg e]
            exact .inl (by omega)
          · simp only [Gh.set, if_neg e, if_neg e']
            exact hdj k j (hk.resolve_right e) (hj.resolve_right e') hkj

/-- THE LAW. -/
theorem wp_region_netU {id : Nat} {l : List Oper} {w : World} (hmo : P.follows .mixedOrders = true) (sp : List NS) (D : List (List Nat)) (m : Nat) (hB : netBU l.toArray D m = true) (hst : stableAll sp)
    (hdo : netAll P l.toArray sp D a0 w 0 (l.take m))
    (hend : ∀ x w', Below w.heap.size w w' → (∀ i, i < m → known sp D x i w') → (∀ i, i < m → w.heap.size ≤ x.lo i ∧ x.lo i ≤ x.hi i ∧ x.hi i ≤ w'.heap.size) → (∀ i j, i < m → j < m → i ≠ j → x.hi i ≤ x.lo j ∨ x.hi j ≤ x.lo i) → wpList P l.toArray Q (l.drop m) (netAct l.toArray a0 x.v m) w') : (Code.region id l.toArray true).wp P Q a0 w := by
  replace hst := stableAll_spec hst
  have hdo : ∀ i o, i < m → l[i]? = some o → netDo P l.toArray sp D a0 w.drew i o := fun i o hi ho => by
    have := netAll_spec (l.take m) 0 hdo i o (by rw [List.getElem?_take, if_pos hi]; exact ho)
    rw [Nat.zero_add] at this
    exact fun v w1 hb => this v w1 ⟨hb.os, hb.tape, hb.output, hb.size, hb.block⟩
  refine wp_region_any hmo ?_
  have h := net_anyU (w0 := w.drew) (a0 := a0) (Q := Q) (P := P) (sp := sp) hB hst (fun i o hi ho => hdo i o hi (by simpa using ho)) (fun x w' hb hk hiv hdj => by simpa using hend x w' (show Below w.heap.size w w' from ⟨hb.os, hb.tape, hb.output, hb.size, hb.block⟩) hk hiv hdj)
    l.toArray.size (Array.replicate l.toArray.size false) ⟨fun _ => undef, fun _ => 0, fun _ => 0⟩ w.drew
    (by rw [List.filter_eq_self.2 (fun j _ => by rw [repl_getD]; rfl), List.length_range])
    (by simp) (fun j _ => repl_getD _ _)
    (fun i hi => by rw [repl_getD] at hi; cases hi)
    (Below.refl _ _)
    (fun i hi => by rw [repl_getD] at hi; cases hi)
    (fun i hi => by rw [repl_getD] at hi; cases hi)
    (fun i j hi => by rw [repl_getD] at hi; cases hi)
  have e : actP l.toArray a0 (fun _ => undef) (fun j => (Array.replicate l.toArray.size false).getD j false) l.toArray.size = a0 :=
    actP_none l.toArray.size 0 (by omega) (fun j _ _ => repl_getD _ _)
  rw [e] at h
  exact h
end
end
end Go.Proofs.YtgabmemalaklbaaGreat

/- Facts of the whole program that every row asks for, each met once for the seat. -/
namespace Go.Proofs.YtgabmemalaklbaaGreat
set_option linter.unusedVariables false
set_option linter.unusedSimpArgs false
open Go.RowKit

theorem seatEnter : Tryz.prog.mayEnter = true := by kernel_rfl
theorem seatLifts : (false == Tryz.prog.liftsFinal) = true := by kernel_rfl
theorem seatMake : (Tryz.prog.make == some .cut) = true := by kernel_rfl
theorem band {a b : Bool} (h : a = true) (k : b = true) : (a && b) = true := by rw [h, k]; rfl
end Go.Proofs.YtgabmemalaklbaaGreat
