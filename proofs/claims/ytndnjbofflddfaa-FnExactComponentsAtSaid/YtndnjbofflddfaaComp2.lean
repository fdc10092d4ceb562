/- The reference's ComponentsAt. -/
import Derived.Test.YtndnjbofflddfaaComp
namespace Go.Proofs.Ytndnjbofflddfaa
set_option linter.unusedVariables false
set_option linter.unusedSimpArgs false
open Go.RowKit

set_option maxHeartbeats 1600000 in
theorem specComponentsAt_any (u : Value) (q : Filt) (t : Int) (w : World) (hu : FiR w w.heap.size u q) (ht : I64 t) :
    Calls Try.prog 50 #[u, .int .i64 t] w fun e w' => ∃ v, e = .returned v ∧ IntsO w' w.heap.size w'.heap.size v (compsQ q t) ∧ Below w.heap.size w w' := by
  have hu' := hu
  obtain ⟨A, c, C, d, rfl, hf, hT, hr, lf, lt⟩ := hu.open_
  have g0 : Below w.heap.size w ((w.alloc (.cells #[.int .i64 q.stages, .slice A q.birth.length c, .slice C q.ends.length d] 52)).alloc (.cells #[] 3)) := ((Below.refl _ _).alloc (Nat.le_refl _) _).alloc (by simp) _
  have kB : Blk ((w.alloc (.cells #[.int .i64 q.stages, .slice A q.birth.length c, .slice C q.ends.length d] 52)).alloc (.cells #[] 3)) w.heap.size 52 #[.int .i64 q.stages, .slice A q.birth.length c, .slice C q.ends.length d] := (Blk.new _ _ _).alloc _
  have ho0 : OwnI ((w.alloc (.cells #[.int .i64 q.stages, .slice A q.birth.length c, .slice C q.ends.length d] 52)).alloc (.cells #[] 3)) w.heap.size (.slice (some ⟨w.heap.size + 1, 0, none⟩) 0 0) [] := by
    have := OwnI.made (w := w.alloc (.cells #[.int .i64 q.stages, .slice A q.birth.length c, .slice C q.ends.length d] 52)) (base := w.heap.size) _ rfl (by simp)
    simpa only [World.size_alloc] using this
  clear hu
  obtain ⟨B, hB⟩ : ∃ B, (isF q && inR t 0 (q.stages - 1)) = B := ⟨_, rfl⟩
  cases B
  · have HC : Hid (compsQ q t = []) := by show _ = _; rw [compsQ, hB]; rfl
    have HB := Lib.hid hB
    clear hB
    go_enter Try.func50, Try.ntmps50
    go_wp2
    go_loopw [5, 6] (fun a i wr => a = (.slice (some ⟨w.heap.size + 1, 0, none⟩) 0 0) ∧ i = .int .i64 0 ∧ OwnI wr w.heap.size a [] ∧ Below w.heap.size w wr ∧ Blk wr w.heap.size 52 #[.int .i64 q.stages, .slice A q.birth.length c, .slice C q.ends.length d]) (fun _ i _ => 0)
    case atStart => exact ⟨rfl, rfl, ho0, g0, kB⟩
    case round =>
      clear g0 kB ho0
      obtain ⟨rfl, rfl, hown, hbel, hkB⟩ := hrel
      have e0 := hkB.cell' (i := 0) rfl
      have e1 := hkB.cell' (i := 1) rfl
      have e2 := hkB.cell' (i := 2) rfl
      by_cases hlt : 0 < q.birth.length
      · have hFr := FiR.more (B' := wr.heap.size) (by have := hbel.size; omega) (FiR.below hbel hu')
        rcases hq : isF q with _ | _
        · go_wp2_with fail
          refine (specIsFiltration_any _ _ _ hFr).mono ?_; rintro e w1 ⟨rfl, hb1⟩
          rw [hq]
          have hkB1 := hkB.call hb1
          have hown1 := hown.below hb1
          have hbel1 := hbel.trans (hb1.mono hbel.size)
          clear e0 e1 e2 hkB hown hbel hb1 hFr
          have e0 := hkB1.cell' (i := 0) rfl
          have e1 := hkB1.cell' (i := 1) rfl
          have e2 := hkB1.cell' (i := 2) rfl
          go_wp2
          have hown0 := hown1
          have hbel0 := hbel1
          have hkB0 := hkB1
          clear hown1 hbel1 hkB1 e0 e1 e2
          go_loopw [7] (fun i wr => i = .int .i64 0 ∧ OwnI wr w.heap.size (.slice (some ⟨w.heap.size + 1, 0, none⟩) 0 0) [] ∧ Below w.heap.size w wr) (fun _ _ => 0)
          case atStart => exact ⟨rfl, hown0, hbel0⟩
          case round =>
            clear hown0 hbel0 hkB0
            obtain ⟨rfl, hown, hbel⟩ := hrel
            go_wp2
            exact bodyPost_ret (v := (.slice (some ⟨w.heap.size + 1, 0, none⟩) 0 0)) (by simp [results, go_sem]) rfl ⟨_, rfl, by rw [HC.out]; exact IntsO.of_own hown, hbel⟩
        · have hin : inR t 0 (q.stages - 1) = false := by have := HB.out; rwa [hq, Bool.true_and] at this
          obtain ⟨hl1, hl2, hl3, hl4, hl5⟩ := isF_lens hq
          go_wp2_with fail
          refine (specIsFiltration_any _ _ _ hFr).mono ?_; rintro e w1 ⟨rfl, hb1⟩
          rw [hq]
          have hkB1 := hkB.call hb1
          have hown1 := hown.below hb1
          have hbel1 := hbel.trans (hb1.mono hbel.size)
          clear e0 e1 e2 hkB hown hbel hb1 hFr
          have e0 := hkB1.cell' (i := 0) rfl
          have e1 := hkB1.cell' (i := 1) rfl
          have e2 := hkB1.cell' (i := 2) rfl
          go_wp2_with fail
          refine (l1In_any _ _ _ _).mono ?_; rintro e w9 ⟨rfl, rfl⟩
          rw [hin]
          go_wp2
          have hown0 := hown1
          have hbel0 := hbel1
          have hkB0 := hkB1
          clear hown1 hbel1 hkB1 e0 e1 e2
          go_loopw [7] (fun i wr => i = .int .i64 0 ∧ OwnI wr w.heap.size (.slice (some ⟨w.heap.size + 1, 0, none⟩) 0 0) [] ∧ Below w.heap.size w wr) (fun _ _ => 0)
          case atStart => exact ⟨rfl, hown0, hbel0⟩
          case round =>
            clear hown0 hbel0 hkB0
            obtain ⟨rfl, hown, hbel⟩ := hrel
            go_wp2
            exact bodyPost_ret (v := (.slice (some ⟨w.heap.size + 1, 0, none⟩) 0 0)) (by simp [results, go_sem]) rfl ⟨_, rfl, by rw [HC.out]; exact IntsO.of_own hown, hbel⟩
      · have hlt0 : q.birth.length ≤ 0 := by omega
        go_wp2
        have hown0 := hown
        have hbel0 := hbel
        have hkB0 := hkB
        clear hown hbel hkB e0 e1 e2
        go_loopw [7] (fun i wr => i = .int .i64 0 ∧ OwnI wr w.heap.size (.slice (some ⟨w.heap.size + 1, 0, none⟩) 0 0) [] ∧ Below w.heap.size w wr) (fun _ _ => 0)
        case atStart => exact ⟨rfl, hown0, hbel0⟩
        case round =>
          clear hown0 hbel0 hkB0
          obtain ⟨rfl, hown, hbel⟩ := hrel
          go_wp2
          exact bodyPost_ret (v := (.slice (some ⟨w.heap.size + 1, 0, none⟩) 0 0)) (by simp [results, go_sem]) rfl ⟨_, rfl, by rw [HC.out]; exact IntsO.of_own hown, hbel⟩
  · have HC : Hid (compsQ q t = compQ q t) := by show _ = _; rw [compsQ, hB]; rfl
    rw [Bool.and_eq_true] at hB
    obtain ⟨hq, hin⟩ := hB
    obtain ⟨hl1, hl2, hl3, hl4, hl5⟩ := isF_lens hq
    go_enter Try.func50, Try.ntmps50
    go_wp2

    go_loopw [5, 6] (fun a i wr => ∃ k : Nat, k ≤ q.birth.length ∧ i = .int .i64 k ∧ OwnI wr w.heap.size a ((comp0 q.birth t).take k) ∧ Below w.heap.size w wr ∧ Blk wr w.heap.size 52 #[.int .i64 q.stages, .slice A q.birth.length c, .slice C q.ends.length d]) (fun _ i _ => q.birth.length - (intOf i).toNat)
    case atStart => exact ⟨0, Nat.zero_le _, rfl, ho0, g0, kB⟩
    case round =>
      clear g0 kB ho0
      obtain ⟨k, hk, rfl, hown, hbel, hkB⟩ := hrel
      have hlk : ((comp0 q.birth t).take k).length = k := by rw [List.length_take, comp0_length]; omega
      obtain ⟨ol, hol⟩ : ∃ ol, (comp0 q.birth t).take k = ol := ⟨_, rfl⟩
      rw [hol] at hown hlk
      have HOL := Lib.hid hol
      have HLK := Lib.hid hlk
      clear hol hlk
      obtain ⟨OA, oc, rfl, _, _⟩ := hown.form
      have e0 := hkB.cell' (i := 0) rfl
      have e1 := hkB.cell' (i := 1) rfl
      have e2 := hkB.cell' (i := 2) rfl
      by_cases hlt : k < q.birth.length
      · obtain ⟨b, o, x, rfl, hb, HX, x1, _⟩ := SlI.at_ hf hlt
        have hFr := FiR.more (B' := wr.heap.size) (by have := hbel.size; omega) (FiR.below hbel hu')
        go_wp2_with fail
        refine (specIsFiltration_any _ _ _ hFr).mono ?_; rintro e w1 ⟨rfl, hb1⟩
        rw [hq]
        have hkB1 := hkB.call hb1
        have hown1 := hown.below hb1
        have hbel1 := hbel.trans (hb1.mono hbel.size)
        have x2 := bcell hbel1 hb x1
        clear e0 e1 e2 hkB hown hbel hb1 x1 hFr
        have e0 := hkB1.cell' (i := 0) rfl
        have e1 := hkB1.cell' (i := 1) rfl
        go_wp2_with fail
        refine (l1In_any _ _ _ _).mono ?_; rintro e w9 ⟨rfl, rfl⟩
        rw [hin]
        by_cases hxt : t < x
        · have HIF := Lib.hid (show (if t < x then (-1 : Int) else (k : Int)) = -1 from if_pos hxt)
          have hko := hown1.alloc (.cells #[.int .i64 (-1)] 3)
          have hka := hkB1.call (below_alloc w9 (.cells #[.int .i64 (-1)] 3))
          have hst : Hid (ol ++ [-1] = (comp0 q.birth t).take (k + 1)) := by show _ = _; rw [take_snoc (comp0_get HX.out), HOL.out, HIF.out]
          (go_wp2_with (at_builtin; refine Hold.stop ?_)); unfold Hold
          refine wpList_appI rfl (.tmp 42) (.tmp 43) rfl w.heap.size _ (.slice OA ol.length oc) ol rfl hko _ _ _ [(-1 : Int)] rfl rfl (SlI.one w9 _ (-1) ⟨by omega, by omega⟩) (by have := HLK.out; simp only [List.length_singleton]; omega) (by have := hbel1.size; simp; omega) ?_
          intro v1 w3 ho1 hg1 hv1
          rw [hst.out] at ho1
          have hk3 := hka.grown hg1 (hko.blkne hka (by decide))
          have hb3 := (hbel1.alloc hbel1.size (.cells #[.int .i64 (-1)] 3)).grown hg1 (by have := hbel1.size; simp; omega) (fun j hj => (hko.lt j hj).1)
          clear e0 e1 hko hka hg1 hv1 hown1 hkB1 hbel1
          go_wp2
          go_roundw
          case rel => exact ⟨k + 1, by omega, by go_num, ho1, hb3, hk3⟩
          case measure => simp [intOf]; omega
        · have hxt' : x ≤ t := by omega
          have HIF := Lib.hid (show (if t < x then (-1 : Int) else (k : Int)) = k from if_neg hxt)
          have hko := hown1.alloc (.cells #[.int .i64 k] 3)
          have hka := hkB1.call (below_alloc w9 (.cells #[.int .i64 k] 3))
          have hst : Hid (ol ++ [(k : Int)] = (comp0 q.birth t).take (k + 1)) := by show _ = _; rw [take_snoc (comp0_get HX.out), HOL.out, HIF.out]
          (go_wp2_with (at_builtin; refine Hold.stop ?_)); unfold Hold
          refine wpList_appI rfl (.tmp 38) (.tmp 40) rfl w.heap.size _ (.slice OA ol.length oc) ol rfl hko _ _ _ [(k : Int)] rfl rfl (SlI.one w9 _ (k) ⟨by omega, by omega⟩) (by have := HLK.out; simp only [List.length_singleton]; omega) (by have := hbel1.size; simp; omega) ?_
          intro v1 w3 ho1 hg1 hv1
          rw [hst.out] at ho1
          have hk3 := hka.grown hg1 (hko.blkne hka (by decide))
          have hb3 := (hbel1.alloc hbel1.size (.cells #[.int .i64 k] 3)).grown hg1 (by have := hbel1.size; simp; omega) (fun j hj => (hko.lt j hj).1)
          clear e0 e1 hko hka hg1 hv1 hown1 hkB1 hbel1
          go_wp2
          go_roundw
          case rel => exact ⟨k + 1, by omega, by go_num, ho1, hb3, hk3⟩
          case measure => simp [intOf]; omega
      · have hend : ol = itN (rndE t q.ends) (comp0 q.birth t) 0 := by
          rw [← HOL.out, List.take_of_length_le (by rw [comp0_length]; omega)]; rfl
        have hkn : k = q.birth.length := by omega
        have hlk' := HLK.out
        obtain ⟨g, rfl, hgl⟩ : ∃ g, OA = some ⟨g, 0, none⟩ ∧ w.heap.size ≤ g := by
          rcases hown.1.2 with ⟨e, _⟩ | ⟨g, cap, cur, e, hg, _⟩
          · injection e with _ e _
            omega
          · injection e with e _ _
            exact ⟨g, e, hg⟩
        rw [hlk'] at hown ⊢
        rw [hend] at hown
        have HKN := Lib.hid hkn
        clear hkn hlk' hend
        go_wp2
        have hown0 := hown
        have hbel0 := hbel
        have hkB0 := hkB
        clear hown hbel hkB e0 e1 e2 hk hlt
        have hlen1 := Lib.hid (fun n => itN_length t q.ends (comp0 q.birth t) n)
        have hkp : k ≤ 4 := by have := HKN.out; omega
        go_loopw [7] (fun i wr => ∃ n : Nat, n ≤ k ∧ i = .int .i64 n ∧ OwnI wr w.heap.size (.slice (some ⟨g, 0, none⟩) k oc) (itN (rndE t q.ends) (comp0 q.birth t) n) ∧ Below w.heap.size w wr ∧ Blk wr w.heap.size 52 #[.int .i64 q.stages, .slice A q.birth.length c, .slice C q.ends.length d]) (fun i _ => k - (intOf i).toNat)
        case atStart => exact ⟨0, Nat.zero_le _, rfl, hown0, hbel0, hkB0⟩
        case round =>
          clear hown0 hbel0 hkB0
          obtain ⟨n, hn, rfl, hown, hbel, hkB⟩ := hrel
          have e1 := hkB.cell' (i := 1) rfl
          have e2 := hkB.cell' (i := 2) rfl
          by_cases hlt : n < k
          · have hLX := Lib.hid (((hlen1.out n).trans (comp0_length q.birth t)).trans HKN.out.symm)
            obtain ⟨X, hX⟩ : ∃ X, itN (rndE t q.ends) (comp0 q.birth t) n = X := ⟨_, rfl⟩
            rw [hX] at hown hLX
            have HX := Lib.hid hX
            clear hX
            go_wp2
            have hown1 := hown
            have hbel1 := hbel
            have hkB1 := hkB
            clear hown hbel hkB e1 e2
            go_loopw [8] (fun i wr => ∃ m : Nat, m ≤ q.ends.length ∧ i = .int .i64 m ∧ OwnI wr w.heap.size (.slice (some ⟨g, 0, none⟩) k oc) ((q.ends.take m).foldl (stepE t) X) ∧ Below w.heap.size w wr ∧ Blk wr w.heap.size 52 #[.int .i64 q.stages, .slice A q.birth.length c, .slice C q.ends.length d]) (fun i _ => q.ends.length - (intOf i).toNat)
            case atStart => exact ⟨0, Nat.zero_le _, rfl, hown1, hbel1, hkB1⟩
            case round =>
              clear hown1 hbel1 hkB1
              obtain ⟨m, hm, rfl, hown, hbel, hkB⟩ := hrel
              have e1 := hkB.cell' (i := 1) rfl
              have e2 := hkB.cell' (i := 2) rfl
              by_cases hltm : m < q.ends.length
              · obtain ⟨b, o, l, A', c', rfl, hb, HL, x1, hl⟩ := SlII.at_ hT hltm
                obtain ⟨i, j, et, rfl, hi, hj⟩ := isF_end hq HL.out
                have hik : i < k := by have := HKN.out; omega
                have hjk : j < k := by have := HKN.out; omega
                have x2 := bcell hbel hb x1
                obtain ⟨b', o', y0, rfl, hb', HY0, j0, _⟩ := SlI.at_ (k := 0) hl (by simp)
                obtain ⟨b2, o2, y1, E1, _, HY1, j1, _⟩ := SlI.at_ (k := 1) hl (by simp)
                obtain ⟨b3, o3, y2, E2, _, HY2, j2, _⟩ := SlI.at_ (k := 2) hl (by simp)
                have F1 := HY0.out
                have F2 := HY1.out
                have F3 := HY2.out
                simp only [List.getElem?_cons_zero, List.getElem?_cons_succ, Option.some.injEq] at F1 F2 F3 E1 E2
                injection E1 with E1a E1b
                injection E2 with E2a E2b
                subst F1 F2 F3 E1a E1b E2a E2b
                have j0' := bcell hbel hb' j0
                have j1' := bcell hbel hb' j1
                have j2' := bcell hbel hb' j2
                clear j0 j1 j2 HY0 HY1 HY2 x1 hl
                simp only [List.length_cons, List.length_nil, Nat.zero_add, Nat.reduceAdd] at x2
                simp only [Nat.add_zero] at j0'
                have hs := fold_snoc (t := t) (out := X) HL.out
                obtain ⟨Y, hY⟩ : ∃ Y, (q.ends.take m).foldl (stepE t) X = Y := ⟨_, rfl⟩
                have hLY : Hid (Y.length = k) := by show _ = _; rw [← hY, foldE_length, hLX.out]
                rw [hY] at hs hown
                clear hY
                obtain ⟨ci, ri⟩ := hown.cellG (j := i) (by rw [hLY.out]; exact hik)
                obtain ⟨cj, rj⟩ := hown.cellG (j := j) (by rw [hLY.out]; exact hjk)
                have fi := hown.frozenG i
                have fj := hown.frozenG j
                by_cases het : et ≤ t
                · have het' : ¬ t < et := by omega
                  simp only [stepE, if_pos het, Int.toNat_natCast] at hs
                  obtain ⟨x, hx⟩ : ∃ x, Y.getD i 0 = x := ⟨_, rfl⟩
                  obtain ⟨y, hy⟩ : ∃ y, Y.getD j 0 = y := ⟨_, rfl⟩
                  rw [hx] at ci ri hs
                  rw [hy] at cj rj hs
                  obtain ⟨M, hM⟩ : ∃ M, (if y < x then y else x) = M := ⟨_, rfl⟩
                  have hmM : min x y = M := by rw [← hM]; split <;> omega
                  rw [hmM] at hs
                  have hrM : I64 M := by rw [← hM]; split <;> assumption
                  have HS := Lib.hid hs
                  clear hx hy hmM hs
                  go_wp2_with fail
                  go_quiet (fail)
                  obtain ⟨Wq, hWq⟩ : ∃ Wq, Wq = wr.drewN nq := ⟨_, rfl⟩
                  rw [← hWq]
                  have hownq : OwnI Wq w.heap.size (.slice (some ⟨g, 0, none⟩) k oc) Y := by rw [hWq]; exact hown.drewN nq
                  have hbelq : Below w.heap.size w Wq := by rw [hWq]; exact below_drewN hbel nq
                  have hkq : Blk Wq w.heap.size 52 #[.int .i64 q.stages, .slice A q.birth.length c, .slice (some ⟨b, o, none⟩) q.ends.length d] := by rw [hWq]; exact hkB.drewN nq
                  have hne := hownq.blkne hkq (by decide)
                  have di := (hownq.cellG (j := i) (by rw [hLY.out]; exact hik)).1
                  have dj := (hownq.cellG (j := j) (by rw [hLY.out]; exact hjk)).1
                  have fi' := hownq.frozenG i
                  have fj' := hownq.frozenG j
                  have hp := hownq.put (j := i) hrM
                  have dj2 := (hp.1.cellG (j := j) (by rw [List.length_set, hLY.out]; exact hjk)).1
                  have fj2 := hp.1.frozenG j
                  have hp2 := hp.1.put (j := j) hrM
                  have hg1 := hbelq.grown hp.2 (by have := hbelq.size; omega) (fun j hj => by injection hj with hj; omega)
                  have hg2 := hg1.grown hp2.2 (by have := hg1.size; omega) (fun j hj => by injection hj with hj; omega)
                  have hk2 := (hkq.grown hp.2 hne).grown hp2.2 hne
                  rw [← HS.out] at hp2
                  have HPO := Lib.hid hp2.1
                  have HG2 := Lib.hid hg2
                  have HK2 := Lib.hid hk2
                  clear hp hp2 hg1 hg2 hk2 hownq hkq hbelq fi fj ci cj j0' j1' j2' hWq hown hkB e1 e2 hM hbel hne
                  go_wp2
                  go_roundw
                  case rel => exact ⟨m + 1, by omega, by go_num, HPO.out, HG2.out, HK2.out⟩
                  case measure => simp [intOf]; omega
                · have het' : t < et := by omega
                  simp only [stepE, if_neg het] at hs
                  rw [← hs] at hown
                  clear hs
                  go_wp2
                  go_roundw
                  case rel => exact ⟨m + 1, by omega, by go_num, hown, hbel, hkB⟩
                  case measure => simp [intOf]; omega
              · have hst : Hid (itN (rndE t q.ends) (comp0 q.birth t) (n + 1) = (q.ends.take m).foldl (stepE t) X) := by
                  show _ = _
                  rw [itN, HX.out, rndE, List.take_of_length_le (by omega)]
                rw [← hst.out] at hown
                go_wp2
                go_roundw
                case rel => exact ⟨n + 1, by omega, by go_num, hown, hbel, hkB⟩
                case measure => simp [intOf]; omega
          · have hst : Hid (compQ q t = itN (rndE t q.ends) (comp0 q.birth t) n) := by show _ = _; rw [compQ, ← HKN.out, show k = n by omega]
            rw [← hst.out] at hown
            go_wp2
            exact bodyPost_ret (v := (.slice (some ⟨g, 0, none⟩) k oc)) (by simp [results, go_sem]) rfl ⟨_, rfl, by rw [HC.out]; exact IntsO.of_own hown, hbel⟩
end Go.Proofs.Ytndnjbofflddfaa
