/- The two ComponentsAt. -/
import Derived.Test.YtndnjbofflddfaaFiltC
import Derived.Shelf.RegionOpenPlain
namespace Go.Proofs.Ytndnjbofflddfaa
set_option linter.unusedVariables false
set_option linter.unusedSimpArgs false
open Go.RowKit

theorem isF_end {q : Filt} {k : Nat} {l : List Int} (h : isF q = true) (hl : q.ends[k]? = some l) : ∃ (i j : Nat) (s : Int), l = [(i : Int), (j : Int), s] ∧ i < q.birth.length ∧ j < q.birth.length := by
  simp only [isF, Bool.and_eq_true] at h
  have h2 := List.all_eq_true.1 h.2 l (List.mem_of_getElem? hl)
  match l, h2 with
  | [a, b, s], h2 =>
    simp only [okEnd, Bool.and_eq_true, inR_t] at h2
    obtain ⟨⟨⟨⟨h1, h3⟩, h4, h5⟩, _⟩, _⟩ := h2
    exact ⟨a.toNat, b.toNat, s, by rw [Int.toNat_of_nonneg h1, Int.toNat_of_nonneg h4], by omega, by omega⟩
theorem isF_lens {q : Filt} (h : isF q = true) : 1 ≤ q.birth.length ∧ q.birth.length ≤ 4 ∧ q.ends.length ≤ 8 ∧ 1 ≤ q.stages ∧ q.stages ≤ 5 := by
  simp only [isF, Bool.and_eq_true, inR_t, decide_eq_true_eq] at h
  omega

/-- the points of a stage -/
def comp0 (bi : List Int) (t : Int) : List Int := (List.range bi.length).map fun i => if t < bi.getD i 0 then -1 else (i : Int)
def stepE (t : Int) (out : List Int) (e : List Int) : List Int :=
  match e with
  | [a, b, s] => if s ≤ t then (out.set a.toNat (min (out.getD a.toNat 0) (out.getD b.toNat 0))).set b.toNat (min (out.getD a.toNat 0) (out.getD b.toNat 0)) else out
  | _ => out
def rndE (t : Int) (ends : List (List Int)) (out : List Int) : List Int := ends.foldl (stepE t) out
def itN (f : List Int → List Int) (x : List Int) : Nat → List Int
  | 0 => x
  | n + 1 => f (itN f x n)
def compQ (q : Filt) (t : Int) : List Int := itN (rndE t q.ends) (comp0 q.birth t) q.birth.length
def compsQ (q : Filt) (t : Int) : List Int := if isF q && inR t 0 (q.stages - 1) then compQ q t else []
theorem stepE_length (t : Int) (out e : List Int) : (stepE t out e).length = out.length := by
  unfold stepE
  split
  · split <;> simp
  · rfl
theorem OwnI.put {w : World} {base g n cap j : Nat} {l : List Int} {x : Int} (h : OwnI w base (.slice (some ⟨g, 0, none⟩) n cap) l) (hx : I64 x) : OwnI (w.setCell ⟨g, j, none⟩ (.int .i64 x)) base (.slice (some ⟨g, 0, none⟩) n cap) (l.set j x) ∧ w.grownBy (w.setCell ⟨g, j, none⟩ (.int .i64 x)) (some g) := by
  obtain ⟨h1, h2, h3⟩ := h
  have hn : n = l.length := by
    rcases h1.2 with ⟨e, _⟩ | ⟨g', cap', cur, e, _⟩
    · cases e
    · injection e with _ e _
  subst hn
  have hst := h1.stored j (.int .i64 x)
  refine ⟨⟨?_, by simpa using h2, fun y hy => ?_⟩, hst.2⟩
  · rw [List.map_set, List.length_set]
    exact hst.1
  · rcases List.mem_or_eq_of_mem_set hy with hy | rfl
    · exact h3 y hy
    · exact hx
theorem OwnI.cellG {w : World} {base g n cap j : Nat} {l : List Int} (h : OwnI w base (.slice (some ⟨g, 0, none⟩) n cap) l) (hj : j < l.length) : w.cell? ⟨g, j, none⟩ = some (.int .i64 (l.getD j 0)) ∧ I64 (l.getD j 0) := by
  obtain ⟨h1, h2, h3⟩ := h
  have hn : n = l.length := by
    rcases h1.2 with ⟨e, _⟩ | ⟨g', cap', cur, e, _⟩
    · cases e
    · injection e with _ e _
  subst hn
  have hc := h1.cellAt j (by omega)
  have e : l.getD j 0 = l[j] := by rw [List.getD_eq_getElem?_getD, List.getElem?_eq_getElem hj]; rfl
  rw [e]
  exact ⟨by rw [hc]; simp [hj], h3 _ (List.getElem_mem hj)⟩
theorem OwnI.frozenG {w : World} {base g n cap : Nat} {l : List Int} (h : OwnI w base (.slice (some ⟨g, 0, none⟩) n cap) l) (j : Nat) : w.frozen? ⟨g, j, none⟩ = false := by
  obtain ⟨h1, h2, h3⟩ := h
  have hn : n = l.length := by
    rcases h1.2 with ⟨e, _⟩ | ⟨g', cap', cur, e, _⟩
    · cases e
    · injection e with _ e _
  subst hn
  exact h1.frozenAt j
theorem OwnI.made0 {w : World} {base N : Nat} (hb : base ≤ w.heap.size) (hN : N ≤ 17592186044416) : OwnI (w.alloc (.cells (mkCells (.int .i64 0) N) 3)) base (.slice (some ⟨w.heap.size, 0, none⟩) N N) (List.replicate N 0) := by
  have e : (mkCells (.int .i64 0) N).toList.take (N * 1) = (List.replicate N (0 : Int)).map (Value.int .i64) := by
    have : (mkCells (.int .i64 0) N).toList = List.replicate N (.int .i64 0) := toList_madeCells_one _ _
    rw [this, Nat.mul_one, List.take_of_length_le (by simp), List.map_replicate]
  have h := (Blk.new w 3 (mkCells (.int .i64 0) N)).own (base := base) (n := N) (cap := N) (size := 1) hb (Nat.le_refl _) (by simp only [maxLen]; omega) (by rw [mkCells_size]; omega)
  rw [e] at h
  refine ⟨by simpa using h, by simpa using hN, fun x hx => ?_⟩
  obtain ⟨_, rfl⟩ := List.mem_replicate.1 hx
  exact ⟨by decide, by decide⟩
/-- behind k points of the first loop -/
def compTo (bi : List Int) (t : Int) (k : Nat) : List Int := (comp0 bi t).take k ++ List.replicate (bi.length - k) 0
theorem comp0_length (bi : List Int) (t : Int) : (comp0 bi t).length = bi.length := by simp [comp0]
theorem comp0_get {bi : List Int} {t x : Int} {k : Nat} (hx : bi[k]? = some x) : (comp0 bi t)[k]? = some (if t < x then -1 else (k : Int)) := by
  have hk := lt_of_some hx
  have e : bi[k] = x := by rw [List.getElem?_eq_getElem hk] at hx; injection hx
  simp [comp0, hk, e]
theorem compTo_step {bi : List Int} {t x : Int} {k : Nat} (hx : bi[k]? = some x) : (compTo bi t k).set k (if t < x then -1 else (k : Int)) = compTo bi t (k + 1) := by
  have hk := lt_of_some hx
  have hl : ((comp0 bi t).take k).length = k := by simp [comp0_length]; omega
  rw [compTo, compTo, take_snoc (comp0_get hx), List.set_append_right _ _ (by omega), hl, Nat.sub_self]
  rw [show bi.length - k = (bi.length - (k + 1)) + 1 by omega, List.replicate_succ]
  simp
theorem compTo_length (bi : List Int) (t : Int) (k : Nat) (hk : k ≤ bi.length) : (compTo bi t k).length = bi.length := by
  simp [compTo, comp0_length]; omega
theorem foldE_length (t : Int) : ∀ (ends : List (List Int)) (out : List Int), (ends.foldl (stepE t) out).length = out.length
  | [], _ => rfl
  | e :: r, out => by rw [List.foldl_cons, foldE_length t r, stepE_length]
theorem itN_length (t : Int) (ends : List (List Int)) (x : List Int) : ∀ n, (itN (rndE t ends) x n).length = x.length
  | 0 => rfl
  | n + 1 => by rw [itN, rndE, foldE_length, itN_length t ends x n]
theorem fold_snoc {t : Int} {ends : List (List Int)} {k : Nat} {l out : List Int} (hl : ends[k]? = some l) : (ends.take (k + 1)).foldl (stepE t) out = stepE t ((ends.take k).foldl (stepE t) out) l := by
  rw [take_snoc hl, List.foldl_append]; rfl

set_option maxHeartbeats 800000 in
theorem components_any (u : Value) (q : Filt) (t : Int) (w : World) (hu : FiR w w.heap.size u q) (hq : isF q = true) :
    Calls Try.prog 84 #[u, .int .i64 t] w fun e w' => ∃ v, e = .returned v ∧ IntsO w' w.heap.size w'.heap.size v (compQ q t) ∧ Below w.heap.size w w' := by
  obtain ⟨A, c, C, d, rfl, hf, hT, hr, lf, lt⟩ := hu.open_
  clear hu
  obtain ⟨hl1, hl2, hl3, hl4, hl5⟩ := isF_lens hq
  obtain ⟨W, hW⟩ : ∃ W, W = w.alloc (.cells #[.int .i64 q.stages, .slice A q.birth.length c, .slice C q.ends.length d] 52) := ⟨_, rfl⟩
  have g0 : Below w.heap.size w W := by rw [hW]; exact below_alloc _ _
  have kB : Blk W w.heap.size 52 #[.int .i64 q.stages, .slice A q.birth.length c, .slice C q.ends.length d] := by rw [hW]; exact Blk.new _ _ _
  have c1 := kB.cell' (i := 1) rfl
  have c2 := kB.cell' (i := 2) rfl
  obtain ⟨i0, hi, hz0, hz1, hz2⟩ := info_parts infoInt
  have hmk := run_mk (P := Try.prog) Try.underlying28 hi hz0 (n := q.birth.length) (by rw [hz2]; omega) (by omega)
  rw [hz1] at hmk
  clear hi hz0 hz1 hz2
  have kB2 := kB.call (below_alloc W (.cells (mkCells (.int .i64 0) q.birth.length) 3))
  have g2 := bthen g0 (below_alloc W (.cells (mkCells (.int .i64 0) q.birth.length) 3))
  have ho2 := OwnI.made0 (w := W) (base := w.heap.size) (N := q.birth.length) g0.size lf
  have zW : W.heap.size = w.heap.size + 1 := by rw [hW]; simp
  rw [zW] at ho2
  clear zW
  obtain ⟨W2, hW2⟩ : ∃ W2, W2 = W.alloc (.cells (mkCells (.int .i64 0) q.birth.length) 3) := ⟨_, rfl⟩
  rw [← hW2] at kB2 g2 ho2
  rw [hW] at hW2
  clear kB c1 c2 g0 hW W
  go_enter Try.func84, Try.ntmps84
  go_wp2
  rw [← hW2]; clear hW2
  have hlen0 := compTo_length q.birth t
  go_loopw [18] (fun i wr => ∃ k : Nat, k ≤ q.birth.length ∧ i = .int .i64 k ∧ OwnI wr w.heap.size (.slice (some ⟨w.heap.size + 1, 0, none⟩) q.birth.length q.birth.length) (compTo q.birth t k) ∧ Below w.heap.size w wr ∧ Blk wr w.heap.size 52 #[.int .i64 q.stages, .slice A q.birth.length c, .slice C q.ends.length d]) (fun i _ => q.birth.length - (intOf i).toNat)
  case atStart => exact ⟨0, Nat.zero_le _, rfl, by simpa [compTo] using ho2, g2, kB2⟩
  case round =>
    clear ho2 g2 kB2 hmk
    obtain ⟨k, hk, rfl, hown, hbel, hkB⟩ := hrel
    have e1 := hkB.cell' (i := 1) rfl
    have e2 := hkB.cell' (i := 2) rfl
    by_cases hlt : k < q.birth.length
    · obtain ⟨b, o, x, rfl, hb, HX, x1, _⟩ := SlI.at_ hf hlt
      have x2 := bcell hbel hb x1
      have hcl := Lib.hid (hlen0 k (by omega))
      obtain ⟨cc, _⟩ := hown.cellG (j := k) (by rw [hcl.out]; exact hlt)
      have fz := hown.frozenG k
      have hp := (hown.put (j := k) (x := (k : Int)) ⟨by omega, by omega⟩)
      have hg1 := hbel.grown hp.2 (by have := hbel.size; omega) (fun j hj => by injection hj with hj; omega)
      have hk1 := hkB.grown hp.2 (by simp)
      clear x1
      by_cases hxt : t < x
      · have hst := compTo_step (t := t) HX.out
        rw [if_pos hxt] at hst
        have HST := Lib.hid hst
        have hp2 := (hp.1.put (j := k) (x := (-1 : Int)) ⟨by omega, by omega⟩)
        rw [List.set_set, HST.out] at hp2
        have hg2 := hg1.grown hp2.2 (by have := hg1.size; omega) (fun j hj => by injection hj with hj; omega)
        have hk2 := hk1.grown hp2.2 (by simp)
        have hpo := hp2.1
        clear hp hp2 hst hg1 hk1 hown hbel hkB hlen0
        go_wp2
        go_roundw
        case rel => exact ⟨k + 1, by omega, by go_num, hpo, hg2, hk2⟩
        case measure => simp [intOf]; omega
      · have hst := compTo_step (t := t) HX.out
        rw [if_neg hxt] at hst
        have HST := Lib.hid hst
        have hpo := hp.1
        rw [HST.out] at hpo
        clear hp hst hown hbel hkB hlen0
        go_wp2
        go_roundw
        case rel => exact ⟨k + 1, by omega, by go_num, hpo, hg1, hk1⟩
        case measure => simp [intOf]; omega
    · have hend : compTo q.birth t k = itN (rndE t q.ends) (comp0 q.birth t) 0 := by
        rw [compTo, show q.birth.length - k = 0 by omega, List.take_of_length_le (by rw [comp0_length]; omega)]
        simp [itN]
      rw [hend] at hown
      go_wp2
      clear hlt hlen0 hend
      have hown0 := hown
      have hbel0 := hbel
      have hkB0 := hkB
      clear hown hbel hkB e1 e2 hk
      have hlen1 := Lib.hid (fun n => itN_length t q.ends (comp0 q.birth t) n)
      go_loopw [36] (fun i wr => ∃ k : Nat, k ≤ q.birth.length ∧ i = .int .i64 k ∧ OwnI wr w.heap.size (.slice (some ⟨w.heap.size + 1, 0, none⟩) q.birth.length q.birth.length) (itN (rndE t q.ends) (comp0 q.birth t) k) ∧ Below w.heap.size w wr ∧ Blk wr w.heap.size 52 #[.int .i64 q.stages, .slice A q.birth.length c, .slice C q.ends.length d]) (fun i _ => q.birth.length - (intOf i).toNat)
      case atStart => exact ⟨0, Nat.zero_le _, rfl, hown0, hbel0, hkB0⟩
      case round =>
        clear hown0 hbel0 hkB0
        obtain ⟨k, hk, rfl, hown, hbel, hkB⟩ := hrel
        have e1 := hkB.cell' (i := 1) rfl
        have e2 := hkB.cell' (i := 2) rfl
        by_cases hlt : k < q.birth.length
        · have hLX := Lib.hid ((hlen1.out k).trans (comp0_length q.birth t))
          obtain ⟨X, hX⟩ : ∃ X, itN (rndE t q.ends) (comp0 q.birth t) k = X := ⟨_, rfl⟩
          rw [hX] at hown hLX
          have HX := Lib.hid hX
          clear hX
          go_wp2
          have hown1 := hown
          have hbel1 := hbel
          have hkB1 := hkB
          clear hown hbel hkB e1 e2
          go_loopw [41] (fun i wr => ∃ m : Nat, m ≤ q.ends.length ∧ i = .int .i64 m ∧ OwnI wr w.heap.size (.slice (some ⟨w.heap.size + 1, 0, none⟩) q.birth.length q.birth.length) ((q.ends.take m).foldl (stepE t) X) ∧ Below w.heap.size w wr ∧ Blk wr w.heap.size 52 #[.int .i64 q.stages, .slice A q.birth.length c, .slice C q.ends.length d]) (fun i _ => q.ends.length - (intOf i).toNat)
          case atStart => exact ⟨0, Nat.zero_le _, rfl, hown1, hbel1, hkB1⟩
          case round =>
            clear hown1 hbel1 hkB1
            obtain ⟨m, hm, rfl, hown, hbel, hkB⟩ := hrel
            have e1 := hkB.cell' (i := 1) rfl
            have e2 := hkB.cell' (i := 2) rfl
            by_cases hltm : m < q.ends.length
            · obtain ⟨b, o, l, A', c', rfl, hb, HL, x1, hl⟩ := SlII.at_ hT hltm
              obtain ⟨i, j, et, rfl, hi, hj⟩ := isF_end hq HL.out
              have x2 := bcell hbel hb x1
              obtain ⟨b', o', y0, rfl, hb', HY0, j0, _⟩ := SlI.at_ (k := 0) hl (by simp)
              obtain ⟨b2, o2, y1, E1, _, HY1, j1, _⟩ := SlI.at_ (k := 1) hl (by simp)
              obtain ⟨b3, o3, y2, E2, _, HY2, j2, _⟩ := SlI.at_ (k := 2) hl (by simp)
              have F1 := HY0.out
              have F2 := HY1.out
              have F3 := HY2.out
              simp only [List.getElem?_cons_zero, List.getElem?_cons_succ, Option.some.injEq] at F1 F2 F3 E1 E2
              injection E1 with E1a E1b
              injection E2 with E2a E2b
              subst F1 F2 F3 E1a E1b E2a E2b
              have j0' := bcell hbel hb' j0
              have j1' := bcell hbel hb' j1
              have j2' := bcell hbel hb' j2
              clear j0 j1 j2 HY0 HY1 HY2 x1 hl
              simp only [List.length_cons, List.length_nil, Nat.zero_add, Nat.reduceAdd] at x2
              simp only [Nat.add_zero] at j0'
              have hs := fold_snoc (t := t) (out := X) HL.out
              obtain ⟨Y, hY⟩ : ∃ Y, (q.ends.take m).foldl (stepE t) X = Y := ⟨_, rfl⟩
              have hLY : Hid (Y.length = q.birth.length) := by show _ = _; rw [← hY, foldE_length, hLX.out]
              rw [hY] at hs hown
              clear hY
              obtain ⟨ci, ri⟩ := hown.cellG (j := i) (by rw [hLY.out]; exact hi)
              obtain ⟨cj, rj⟩ := hown.cellG (j := j) (by rw [hLY.out]; exact hj)
              have fi := hown.frozenG i
              have fj := hown.frozenG j
              by_cases het : et ≤ t
              · simp only [stepE, if_pos het, Int.toNat_natCast] at hs
                obtain ⟨x, hx⟩ : ∃ x, Y.getD i 0 = x := ⟨_, rfl⟩
                obtain ⟨y, hy⟩ : ∃ y, Y.getD j 0 = y := ⟨_, rfl⟩
                rw [hx] at ci ri hs
                rw [hy] at cj rj hs
                obtain ⟨M, hM⟩ : ∃ M, (if y < x then y else x) = M := ⟨_, rfl⟩
                have hmM : min x y = M := by rw [← hM]; split <;> omega
                rw [hmM] at hs
                have hrM : I64 M := by rw [← hM]; split <;> assumption
                have HS := Lib.hid hs
                clear hx hy hmM hs
                go_wp2_with fail
                go_quiet (fail)
                obtain ⟨Wq, hWq⟩ : ∃ Wq, Wq = wr.drewN nq := ⟨_, rfl⟩
                rw [← hWq]
                have hownq : OwnI Wq w.heap.size (.slice (some ⟨w.heap.size + 1, 0, none⟩) q.birth.length q.birth.length) Y := by rw [hWq]; exact hown.drewN nq
                have hbelq : Below w.heap.size w Wq := by rw [hWq]; exact below_drewN hbel nq
                have hkq : Blk Wq w.heap.size 52 #[.int .i64 q.stages, .slice A q.birth.length c, .slice (some ⟨b, o, none⟩) q.ends.length d] := by rw [hWq]; exact hkB.drewN nq
                have k0 : Wq.cell? ⟨b', o', none⟩ = some (.int .i64 i) := by rw [hWq]; exact j0'
                have k1 : Wq.cell? ⟨b', o' + 1, none⟩ = some (.int .i64 j) := by rw [hWq]; exact j1'
                have ci' := hownq.cellG (j := i) (by rw [hLY.out]; exact hi)
                have cj' := hownq.cellG (j := j) (by rw [hLY.out]; exact hj)
                have fi' := hownq.frozenG i
                have fj' := hownq.frozenG j
                have di := ci'.1
                have dj := cj'.1
                have hp := hownq.put (j := i) hrM
                have dj2 := (hp.1.cellG (j := j) (by rw [List.length_set, hLY.out]; exact hj)).1
                have fj2 := hp.1.frozenG j
                have hmo : Try.prog.follows .mixedOrders = true := by kernel_rfl
                have hp2 := hp.1.put (j := j) hrM
                have hg1 := hbelq.grown hp.2 (by have := hbelq.size; omega) (fun j hj => by injection hj with hj; omega)
                have hg2 := hg1.grown hp2.2 (by have := hg1.size; omega) (fun j hj => by injection hj with hj; omega)
                have hk2 := (hkq.grown hp.2 (by simp)).grown hp2.2 (by simp)
                rw [← HS.out] at hp2
                have HPO := Lib.hid hp2.1
                have HG2 := Lib.hid hg2
                have HK2 := Lib.hid hk2
                clear hp hp2 hg1 hg2 hk2 hownq hkq hbelq ci' cj' fi fj ci cj j0' j1' j2' hWq hown hkB e1 e2 hM
                go_wp2_with fail
                go_region_o
                go_wp2
                go_roundw
                case rel => exact ⟨m + 1, by omega, by go_num, HPO.out.drewN 1, below_drewN HG2.out 1, HK2.out.drewN 1⟩
                case measure => simp [intOf]; omega
              · have het' : t < et := by omega
                simp only [stepE, if_neg het] at hs
                rw [← hs] at hown
                clear hs
                go_wp2
                go_roundw
                case rel => exact ⟨m + 1, by omega, by go_num, hown, hbel, hkB⟩
                case measure => simp [intOf]; omega
            · have hst : Hid (itN (rndE t q.ends) (comp0 q.birth t) (k + 1) = (q.ends.take m).foldl (stepE t) X) := by
                show _ = _
                rw [itN, HX.out, rndE, List.take_of_length_le (by omega)]
              rw [← hst.out] at hown
              go_wp2
              go_roundw
              case rel => exact ⟨k + 1, by omega, by go_num, hown, hbel, hkB⟩
              case measure => simp [intOf]; omega
        · have hst : Hid (compQ q t = itN (rndE t q.ends) (comp0 q.birth t) k) := by show _ = _; rw [compQ, show q.birth.length = k by omega]
          rw [← hst.out] at hown
          go_wp2
          exact bodyPost_ret (v := .slice (some ⟨w.heap.size + 1, 0, none⟩) q.birth.length q.birth.length) (by simp [results, go_sem]) rfl ⟨_, rfl, IntsO.of_own hown, hbel⟩

set_option maxHeartbeats 400000 in
theorem hasStage_any (u : Value) (q : Filt) (t : Int) (w : World) (hu : FiR w w.heap.size u q) :
    Calls Try.prog 83 #[u, .int .i64 t] w fun e w' => e = .returned (.bool (isF q && inR t 0 (q.stages - 1))) ∧ Below w.heap.size w w' := by
  obtain ⟨A, c, C, d, rfl, hf, hT, hr, lf, lt⟩ := hu.open_
  obtain ⟨W, hW⟩ : ∃ W, W = w.alloc (.cells #[.int .i64 q.stages, .slice A q.birth.length c, .slice C q.ends.length d] 52) := ⟨_, rfl⟩
  have g0 : Below w.heap.size w W := by rw [hW]; exact below_alloc _ _
  have kB : Blk W w.heap.size 52 #[.int .i64 q.stages, .slice A q.birth.length c, .slice C q.ends.length d] := by rw [hW]; exact Blk.new _ _ _
  have c0 := kB.cell' (i := 0) rfl
  have c1 := kB.cell' (i := 1) rfl
  have c2 := kB.cell' (i := 2) rfl
  have h0 := FiR.next g0 hu
  clear hu
  rcases hq : isF q with _ | _
  · go_enter Try.func83, Try.ntmps83
    go_wp2_with fail
    rw [← hW]; clear hW
    refine (implIsFiltration_any _ _ _ h0).mono ?_; rintro e w1 ⟨rfl, hb1⟩
    rw [hq]
    go_wp2
    go_ret
    exact ⟨rfl, bthen g0 hb1⟩
  · have hs := isF_lens hq
    obtain ⟨_, _, _, hs1, hs2⟩ := hs
    go_enter Try.func83, Try.ntmps83
    go_wp2_with fail
    rw [← hW]; clear hW
    refine (implIsFiltration_any _ _ _ h0).mono ?_; rintro e w1 ⟨rfl, hb1⟩
    rw [hq]
    have d0 := (kB.call hb1).cell' (i := 0) rfl
    clear c0 c1 c2
    go_wp2_with fail
    refine (within_any _ _ _ _).mono ?_; rintro e w' ⟨rfl, rfl⟩
    go_wp2
    go_ret
    exact ⟨by simp, bthen g0 hb1⟩

set_option maxHeartbeats 400000 in
theorem implComponentsAt_any (u : Value) (q : Filt) (t : Int) (w : World) (hu : FiR w w.heap.size u q) (_ : I64 t) :
    Calls Try.prog 51 #[u, .int .i64 t] w fun e w' => ∃ v, e = .returned v ∧ IntsO w' w.heap.size w'.heap.size v (compsQ q t) ∧ Below w.heap.size w w' := by
  have hu' := hu
  obtain ⟨A, c, C, d, rfl, hf, hT, hr, lf, lt⟩ := hu.open_
  obtain ⟨W, hW⟩ : ∃ W, W = w.alloc (.cells #[.int .i64 q.stages, .slice A q.birth.length c, .slice C q.ends.length d] 52) := ⟨_, rfl⟩
  have g0 : Below w.heap.size w W := by rw [hW]; exact below_alloc _ _
  have kB : Blk W w.heap.size 52 #[.int .i64 q.stages, .slice A q.birth.length c, .slice C q.ends.length d] := by rw [hW]; exact Blk.new _ _ _
  have c0 := kB.cell' (i := 0) rfl
  have c1 := kB.cell' (i := 1) rfl
  have c2 := kB.cell' (i := 2) rfl
  have h0 := FiR.next g0 hu'
  clear hu hu' hf hT
  obtain ⟨B, hB⟩ : ∃ B, (isF q && inR t 0 (q.stages - 1)) = B := ⟨_, rfl⟩
  have HB := Lib.hid hB
  clear hB
  cases B
  · have HC : Hid (compsQ q t = []) := by show _ = _; rw [compsQ, HB.out]; rfl
    go_enter Try.func51, Try.ntmps51
    go_wp2_with fail
    rw [← hW]; clear hW
    refine (hasStage_any _ _ _ _ h0).mono ?_; rintro e w1 ⟨rfl, hb1⟩
    rw [HB.out]
    go_wp2
    exact bodyPost_ret (v := .slice none 0 0) (by simp [results, go_sem]) rfl ⟨_, rfl, by rw [HC.out]; exact ⟨OwnI.nil _ _, fun k hk => by simp [Value.ownBlock] at hk⟩, bthen g0 hb1⟩
  · have HC : Hid (compsQ q t = compQ q t) := by show _ = _; rw [compsQ, HB.out]; rfl
    have hq := HB.out
    rw [Bool.and_eq_true] at hq
    have hq := hq.1
    go_enter Try.func51, Try.ntmps51
    go_wp2_with fail
    rw [← hW]; clear hW
    refine (hasStage_any _ _ _ _ h0).mono ?_; rintro e w1 ⟨rfl, hb1⟩
    rw [HB.out]
    have d0 := (kB.call hb1).cell' (i := 0) rfl
    have d1 := (kB.call hb1).cell' (i := 1) rfl
    have d2 := (kB.call hb1).cell' (i := 2) rfl
    clear c0 c1 c2
    have h1 := FiR.next hb1 h0
    go_wp2_with fail
    refine (components_any _ _ _ _ h1 hq).mono ?_; rintro e w2 ⟨v, rfl, ho, hb2⟩
    go_wp2
    have g1 := bthen g0 hb1
    exact bodyPost_ret (v := v) (by simp [results, go_sem]) rfl ⟨_, rfl, by rw [HC.out]; exact ho.wider g1.size (Nat.le_refl _), bthen g1 hb2⟩
end Go.Proofs.Ytndnjbofflddfaa
