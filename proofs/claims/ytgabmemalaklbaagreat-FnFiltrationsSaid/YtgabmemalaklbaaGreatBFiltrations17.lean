/- FnFiltrations: the law holds for every argument. Part 17 of 18 of the proof: ElJ, ElS. No condition. -/
import Derived.Test.YtgabmemalaklbaaGreatBFiltrations16
import Derived.Deep.LoopGhost
import Derived.Deep.CutRange
/- ElderBars: the program's. -/
namespace Go.Proofs.YtgabmemalaklbaaGreat
set_option linter.unusedVariables false
set_option linter.unusedSimpArgs false
open Go.RowKit

def iniF (k : Nat) (i : Nat) : Int := if i < k then (i : Int) else 0
theorem iniF_step (n k : Nat) : (rowF n (iniF k)).set k (k : Int) = rowF n (iniF (k + 1)) := by
  rw [rowF_set]
  apply rowF_congr
  intro a _
  unfold iniF
  by_cases h : a = k
  · subst h; rw [if_pos rfl, if_pos (by omega)]
  · rw [if_neg h]
    by_cases h2 : a < k
    · rw [if_pos h2, if_pos (by omega)]
    · rw [if_neg h2, if_neg (by omega)]
theorem iniF_0 (n : Nat) : rowF n (iniF 0) = List.replicate n 0 := by
  rw [rowF, List.eq_replicate_iff]
  refine ⟨by simp, fun x hx => ?_⟩
  obtain ⟨i, _, rfl⟩ := List.mem_map.1 hx
  simp [iniF]
theorem iniF_n (n : Nat) (S : Int) : rowF n (iniF n) = (ebInit n S).head := by
  rw [rowF, ebInit]
  apply List.map_congr_left
  intro i hi
  rw [iniF, if_pos (List.mem_range.1 hi)]
theorem okE_three {n : Nat} {S : Int} {e : List Int} (h : okE n S e) : ∃ (i j : Nat) (t : Int), e = [(i : Int), (j : Int), t] ∧ i < n ∧ j < n ∧ 0 ≤ t ∧ t ≤ S - 1 := by
  obtain ⟨h1, h2, h3, h4, h5, h6, h7⟩ := h
  match e, h7 with
  | [a, b, t], _ =>
    simp only [vx, List.getD_cons_zero, List.getD_cons_succ] at *
    exact ⟨a.toNat, b.toNat, t, by rw [Int.toNat_of_nonneg h1, Int.toNat_of_nonneg h3], by omega, by omega, h5, h6⟩
theorem foldB_snoc {bi : List Int} {L : List (List Int)} {k : Nat} {e : List Int} (s : EbS) (h : L[k]? = some e) : (L.take (k + 1)).foldl (ebStep bi) s = ebStep bi ((L.take k).foldl (ebStep bi) s) e := by
  rw [take_snoc h, List.foldl_append]; rfl
theorem sortE_len (S : Int) (l : List (List Int)) : (sortE S l).length ≤ S.toNat * l.length := by
  rw [sortE]
  have : ∀ n : Nat, ((List.range n).flatMap fun t : Nat => l.filter fun e => vx e 2 == (t : Int)).length ≤ n * l.length := by
    intro n
    induction n with
    | zero => simp
    | succ n ih =>
      rw [List.range_succ, List.flatMap_append, List.length_append]
      have := List.length_filter_le (fun e => vx e 2 == (n : Int)) l
      simp only [List.flatMap_cons, List.flatMap_nil, List.append_nil]
      rw [Nat.succ_mul]; omega
  exact this _
/-- the first k numbers replaced -/
def mpTo (g : Int → Int) (l : List Int) (k : Nat) : List Int := (l.take k).map g ++ l.drop k
theorem mpTo_0 (g : Int → Int) (l : List Int) : mpTo g l 0 = l := by simp [mpTo]
theorem mpTo_len (g : Int → Int) (l : List Int) (k : Nat) : (mpTo g l k).length = l.length := by simp [mpTo]; omega
theorem mpTo_at {g : Int → Int} {l : List Int} {k : Nat} (h : k < l.length) : (mpTo g l k).getD k 0 = vx l k := by
  rw [mpTo, vx, List.getD_eq_getElem?_getD, List.getElem?_append_right (by simp; omega)]
  simp [List.length_take, Nat.min_eq_left (Nat.le_of_lt h), List.getD_eq_getElem?_getD]
theorem mpTo_step {g : Int → Int} {l : List Int} {k : Nat} (h : k < l.length) : (mpTo g l k).set k (g (vx l k)) = mpTo g l (k + 1) := by
  have e : l[k]? = some (vx l k) := by rw [vx, List.getD_eq_getElem?_getD, List.getElem?_eq_getElem h]; rfl
  have hl : ((l.take k).map g).length = k := by simp; omega
  rw [mpTo, mpTo, take_snoc e, List.map_append, List.set_append_right _ _ (by omega), hl, Nat.sub_self, List.drop_eq_getElem_cons h, List.set_cons_zero]
  simp
theorem mpTo_same {g : Int → Int} {l : List Int} {k : Nat} (h : k < l.length) (hg : g (vx l k) = vx l k) : mpTo g l k = mpTo g l (k + 1) := by
  rw [← mpTo_step h, hg]
  apply List.ext_getElem?
  intro j
  rw [List.getElem?_set]
  split
  · rename_i e
    subst e
    have h1 : k < (mpTo g l k).length := by rw [mpTo_len]; exact h
    have h2 := mpTo_at (g := g) h
    rw [List.getD_eq_getElem?_getD, List.getElem?_eq_getElem h1, Option.getD_some] at h2
    rw [if_pos h1, List.getElem?_eq_getElem h1, h2]
  · rfl
theorem mpTo_all (g : Int → Int) (l : List Int) {k : Nat} (h : l.length ≤ k) : mpTo g l k = l.map g := by
  rw [mpTo, List.take_of_length_le h, List.drop_of_length_le h, List.append_nil]
theorem ebX_1 {bi : List Int} {a b : Nat} (h : vx bi b < vx bi a) : ebX bi a b = true := by simp [ebX, h]
theorem ebX_2 {bi : List Int} {a b : Nat} (h : vx bi b = vx bi a) (h2 : (b : Int) < a) : ebX bi a b = true := by simp [ebX, h]; omega
theorem ebX_3 {bi : List Int} {a b : Nat} (h : vx bi b = vx bi a) (h2 : ¬ (b : Int) < a) : ebX bi a b = false := by simp [ebX, h]; omega
theorem ebX_4 {bi : List Int} {a b : Nat} (h : ¬ vx bi b < vx bi a) (h2 : ¬ vx bi b = vx bi a) : ebX bi a b = false := by simp [ebX]; omega
def finTo (f : Filt) (s : EbS) (q : Nat) : List Bar := s.out ++ ((List.range q).filter fun i => vx s.head i == (i : Int)).map fun i => (vx f.birth i, f.stages - 1, 0)
theorem finTo_yes {f : Filt} {s : EbS} {q : Nat} (h : vx s.head q = (q : Int)) : finTo f s (q + 1) = finTo f s q ++ [(vx f.birth q, f.stages - 1, 0)] := by
  rw [finTo, List.range_succ, List.filter_append, List.map_append, ← List.append_assoc, finTo]
  simp [h]
theorem finTo_no {f : Filt} {s : EbS} {q : Nat} (h : vx s.head q ≠ (q : Int)) : finTo f s (q + 1) = finTo f s q := by
  rw [finTo, List.range_succ, List.filter_append, List.map_append, finTo]
  simp [h]
theorem finTo_len (f : Filt) (s : EbS) (q : Nat) : (finTo f s q).length ≤ s.out.length + q := by
  have h := List.length_filter_le (fun i : Nat => vx s.head i == (i : Int)) (List.range q)
  rw [List.length_range] at h
  rw [finTo, List.length_append, List.length_map]
  omega
theorem out_len (bi : List Int) : ∀ (L : List (List Int)) (s : EbS), (L.foldl (ebStep bi) s).out.length ≤ s.out.length + L.length
  | [], s => by simp
  | e :: L, s => by
    have h1 := out_len bi L (ebStep bi s e)
    have h2 : (ebStep bi s e).out.length ≤ s.out.length + 1 := by
      rw [ebStep]
      split
      · omega
      · show (if _ then _ else _ : List Bar).length ≤ _
        split
        · simp
        · omega
    rw [List.foldl_cons, List.length_cons]; omega
set_option maxRecDepth 100000 in
set_option maxHeartbeats 8000000 in
theorem implElderBars_any (u : Value) (f : Filt) (w0 : World) (hu : FiR w0 w0.heap.size u f) :
    Calls Tryz.prog 8 #[u] w0 fun e w' => ∃ o, e = .returned (.tuple #[o, .bool (ebQ f).2]) ∧ BarsO w' w0.heap.size w'.heap.size o (ebQ f).1 ∧ Below w0.heap.size w0 w' := by
  have hu' := hu
  obtain ⟨A, c, C, d, rfl, hf, hT, hr, lf, lt⟩ := hu.open_
  clear hu
  obtain ⟨W, hW⟩ : ∃ W, w0.alloc (.cells #[.int .i64 f.stages, .slice A f.birth.length c, .slice C f.ends.length d] 27) = W := ⟨_, rfl⟩
  have g0 : Below w0.heap.size w0 W := by rw [← hW]; exact below_alloc _ _
  have kB : Blk W w0.heap.size 27 #[.int .i64 f.stages, .slice A f.birth.length c, .slice C f.ends.length d] := by rw [← hW]; exact Blk.new _ _ _
  have HU := Lib.hid (FiR.next g0 hu')
  have c0 := kB.cell' (i := 0) rfl
  have c1 := kB.cell' (i := 1) rfl
  have c2 := kB.cell' (i := 2) rfl
  by_cases hq : isF f = true
  case neg =>
    have HE := Lib.hid (show ebQ f = ([], false) by rw [ebQ, if_neg hq])
    rw [Bool.not_eq_true] at hq
    rw [HE.out]
    have HQ := Lib.hid hq
    clear hq kB hu' hf hT
    go_enter Tryz.func8, Tryz.ntmps8
    go_wp2_with fail
    clear hW
    refine (implIsFiltration_any _ f _ HU.out).mono ?_; rintro e w1 ⟨rfl, hb1⟩
    rw [HQ.out]
    go_wp2
    go_ret2
    exact ⟨_, rfl, BarsO.nil _ _ _, bthen g0 hb1⟩
  case pos =>
  have HE := Lib.hid (ebQ_impl hq)
  obtain ⟨hS, hnb, hm8, hbi, hee⟩ := isF_ok hq
  obtain ⟨i0, hi', hz0, hz1, hz2⟩ := info_parts infoInt
  have hmk := run_mk (P := Tryz.prog) Tryz.underlying24 hi' hz0 (n := f.birth.length) (by rw [hz2]; omega) (by omega)
  rw [hz1] at hmk
  clear hi' hz0 hz1 hz2
  have HQ := Lib.hid hq
  have HFB := Lib.hid (SlI.next g0 hf)
  have HFE := Lib.hid (SlII.next g0 hT)
  have HBI := Lib.hid hbi
  have HEE := Lib.hid hee
  have HI0 := Lib.hid (EbI.init f.birth.length f.stages f.birth)
  clear hq hu' hf hT hbi hee
  go_enter Tryz.func8, Tryz.ntmps8
  go_wp2_with fail
  clear hW
  refine (implIsFiltration_any _ f _ HU.out).mono ?_; rintro e w1 ⟨rfl, hb1⟩
  rw [HQ.out]
  have k1 := kB.call hb1
  have HFB1 := Lib.hid (SlI.next hb1 HFB.out)
  have HFE1 := SlII.next hb1 HFE.out
  have G1 := Lib.hid (bthen g0 hb1)
  obtain ⟨vs, hvs, hvl, hvr⟩ := SlII.vs HFE1
  have HVS := Lib.hid hvs
  have HVL := Lib.hid hvl
  clear c0 c1 c2 hvs hvl hb1 HFE HFE1 HFB
  have c0 := k1.cell' (i := 0) rfl
  have c1 := k1.cell' (i := 1) rfl
  have c2 := k1.cell' (i := 2) rfl
  go_wp2_with fail
  refine (cloneV_any _ vs w1 HVS.out (by rw [HVL.out]; omega)).mono ?_; rintro e w2 ⟨v2, rfl, ho2, hb2⟩
  have k2 := k1.call hb2
  have HFB2 := Lib.hid (SlI.next hb2 HFB1.out)
  have G2 := Lib.hid (bthen G1.out hb2)
  have HSRT := Lib.hid (sortEdges_any v2 vs f.ends f.stages w1.heap.size w1.heap.size w2 ho2 HVL.out (Nat.le_refl _) hb2.size hb2.size (fun j u l h1 h2 => SlI.below hb2 (hvr j u l h1 h2)) hm8 ⟨by omega, by omega⟩ (fun e he => by have := HEE.out e he; exact ⟨this.2.2.2.2.2.2, this.2.2.2.2.1, this.2.2.2.2.2.1⟩))
  have hs12 := hb2.size
  have hg1s := G1.out.size
  have hk1w := k1.lt
  have hb02 := hb2
  clear c0 c1 c2 hvr HVS ho2
  have c0 := k2.cell' (i := 0) rfl
  have c1 := k2.cell' (i := 1) rfl
  have c2 := k2.cell' (i := 2) rfl
  go_wp2_with fail
  refine HSRT.out.mono ?_; rintro e w3 ⟨rfl, hEL, hb3⟩
  have k3 := k2.below hb3 (by omega)
  have HFB3 := Lib.hid (SlI.more (show w1.heap.size ≤ w3.heap.size by have := hb3.size; omega) (SlI.below hb3 (SlI.below hb02 HFB1.out)))
  have G3 := Lib.hid (bthen G1.out (hb02.trans hb3))
  obtain ⟨EL, hELe⟩ : ∃ EL, sortE f.stages f.ends = EL := ⟨_, rfl⟩
  have hELn := sortE_len f.stages f.ends
  rw [hELe] at hEL hELn
  have HOK := Lib.hid (show ∀ e ∈ EL, okE f.birth.length f.stages e from fun e he => HEE.out e (by rw [← hELe] at he; exact sortE_mem he))
  have HRUN := Lib.hid (show ebRun f = EL.foldl (ebStep f.birth) (ebInit f.birth.length f.stages) by rw [ebRun, hELe])
  have hELn2 : EL.length ≤ 40 := by
    have : f.stages.toNat * f.ends.length ≤ 5 * 8 := Nat.mul_le_mul (by omega) hm8
    omega
  obtain ⟨vA, vc, rfl⟩ : ∃ vA vc, v2 = .slice vA EL.length vc := by obtain ⟨A', c', e, _⟩ := hEL; exact ⟨A', c', e⟩
  obtain ⟨m, hm⟩ : ∃ m, EL.length = m := ⟨_, rfl⟩
  have HELR := Lib.hid hEL
  have HM := Lib.hid hm
  obtain ⟨W4, hW4⟩ : ∃ W4, w3.alloc (.cells (mkCells (.int .i64 0) f.birth.length) 3) = W4 := ⟨_, rfl⟩
  have g4 : Below w3.heap.size w3 W4 := by rw [← hW4]; exact below_alloc _ _
  have HO4 := Lib.hid (show OwnI W4 w3.heap.size (.slice (some ⟨w3.heap.size, 0, none⟩) f.birth.length f.birth.length) (rowF f.birth.length (iniF 0)) by
    have := OwnI.made0 (w := w3) (base := w3.heap.size) (N := f.birth.length) (Nat.le_refl _) lf
    rw [hW4] at this
    rw [iniF_0]; exact this)
  have K3 := Lib.hid k3
  have G4 := Lib.hid g4
  have hsz4 := g4.size
  have hk3 := k3.lt
  clear c0 c1 c2 hEL hm hELn hELe hb2 hb02 hb3 k1 k2 HFB1 HFB2 HSRT G1 G2 hg1s hs12 hk1w kB HVL g4
  have c0 := k3.cell' (i := 0) rfl
  have c1 := k3.cell' (i := 1) rfl
  have c2 := k3.cell' (i := 2) rfl
  clear k3
  go_wp2
  clear hW4 hmk c0 c1 c2
  go_loopw [6, 30] (fun _ i wr => ∃ k : Nat, k ≤ f.birth.length ∧ i = .int .i64 k ∧ OwnI wr w3.heap.size (.slice (some ⟨w3.heap.size, 0, none⟩) f.birth.length f.birth.length) (rowF f.birth.length (iniF k)) ∧ Below w3.heap.size w3 wr) (fun _ i _ => f.birth.length - (intOf i).toNat)
  case atStart => exact ⟨0, Nat.zero_le _, rfl, HO4.out, G4.out⟩
  case round =>
    obtain ⟨k, hk, rfl, hown, hbel⟩ := hrel
    have hwr := hbel.size
    by_cases hlt : k < f.birth.length
    · obtain ⟨cc, _⟩ := hown.cellG (j := k) (by rw [rowF_length]; exact hlt)
      have fz := hown.frozenG k
      have hp := hown.put (j := k) (x := (k : Int)) ⟨by omega, by omega⟩
      rw [iniF_step] at hp
      have HP := Lib.hid hp.1
      have HB := Lib.hid (hbel.grown hp.2 hwr (fun j hj => by injection hj with hj; omega))
      clear hp hown hbel
      go_wp2
      go_roundw
      case rel => exact ⟨k + 1, by omega, by go_num, HP.out, HB.out⟩
      case measure => simp [intOf]; omega
    · have hkn : k = f.birth.length := by omega
      have HO5 := Lib.hid (show OwnI wr w3.heap.size (.slice (some ⟨w3.heap.size, 0, none⟩) f.birth.length f.birth.length) (ebInit f.birth.length f.stages).head by rw [hkn] at hown; rw [← iniF_n]; exact hown)
      have HB5 := Lib.hid hbel
      obtain ⟨w5, hw5⟩ : ∃ z, z = wr := ⟨_, rfl⟩
      subst hw5
      clear hkn hown hbel
      go_wp2
      go_loopg [7, 9, 10, 11, 12, 13, 40] EL.length (fun gk o _ _ _ _ _ i wr => ∃ (k hi : Nat), k ≤ EL.length ∧ EL.length - k ≤ gk ∧ i = .int .i64 k ∧ OwnI wr w3.heap.size (.slice (some ⟨w3.heap.size, 0, none⟩) f.birth.length f.birth.length) ((EL.take k).foldl (ebStep f.birth) (ebInit f.birth.length f.stages)).head ∧ BarsO wr (w3.heap.size + 1) hi o ((EL.take k).foldl (ebStep f.birth) (ebInit f.birth.length f.stages)).out ∧ hi ≤ wr.heap.size ∧ Below w3.heap.size w3 wr)
      case atStart => exact ⟨0, w5.heap.size, Nat.zero_le _, by omega, rfl, HO5.out, BarsO.nil _ _ _, Nat.le_refl _, HB5.out⟩
      case round =>
        obtain ⟨k, hi, hk, hgk, rfl, hown, hbar, hhi, hbel⟩ := hrel
        obtain ⟨s, hs⟩ : ∃ s, (EL.take k).foldl (ebStep f.birth) (ebInit f.birth.length f.stages) = s := ⟨_, rfl⟩
        rw [hs] at hown hbar
        have hI : EbI f.birth.length f.stages f.birth s := by rw [← hs]; exact EbI.fold (fun i hi => (HBI.out i hi).1) _ _ HI0.out fun e he => HOK.out e (List.mem_of_mem_take he)
        have hol : s.out.length ≤ 40 := by
          have := out_len f.birth (EL.take k) (ebInit f.birth.length f.stages)
          rw [hs, List.length_take] at this
          simp only [ebInit, List.length_nil] at this
          omega
        have HS := Lib.hid hs
        clear hs
        have hwr := hbel.size
        obtain ⟨OA, oc, eO, _, _⟩ := hbar.form
        subst eO
        by_cases hlt : k < EL.length
        · obtain ⟨b, o, l, A', c', eA, hb, HL, x1, hl⟩ := SlII.at_ HELR.out hlt
          subst eA
          obtain ⟨i, j, et, rfl, hi1, hj1, ht0, htS⟩ := okE_three (HOK.out l (List.mem_of_getElem? HL.out))
          have HSN := Lib.hid (foldB_snoc (bi := f.birth) (ebInit f.birth.length f.stages) HL.out)
          rw [HS.out] at HSN
          obtain ⟨b', o', y0, rfl, hb', HY0, j0, _⟩ := SlI.at_ (k := 0) hl (by simp)
          obtain ⟨b2, o2, y1, E1, _, HY1, j1, _⟩ := SlI.at_ (k := 1) hl (by simp)
          obtain ⟨b3, o3, y2, E2, _, HY2, j2, _⟩ := SlI.at_ (k := 2) hl (by simp)
          have F1 := HY0.out
          have F2 := HY1.out
          have F3 := HY2.out
          simp only [List.getElem?_cons_zero, List.getElem?_cons_succ, Option.some.injEq] at F1 F2 F3 E1 E2
          injection E1 with E1a E1b
          injection E2 with E2a E2b
          subst F1 F2 F3 E1a E1b E2a E2b
          have z0 := bcell hbel hb' j0
          have z1 := bcell hbel hb' j1
          have z2 := bcell hbel hb' j2
          have x2 := bcell hbel hb x1
          simp only [List.length_cons, List.length_nil, Nat.zero_add, Nat.reduceAdd] at x2
          simp only [Nat.add_zero] at z0
          have hbw : b' < wr.heap.size := by omega
          clear j0 j1 j2 HY0 HY1 HY2 x1 hl hb hb'
          obtain ⟨a1, a2, a3⟩ := hI.hr i hi1
          obtain ⟨b1, b2, b3⟩ := hI.hr j hj1
          obtain ⟨ci, _⟩ := hown.cellG (j := i) (by rw [hI.hl]; exact hi1)
          obtain ⟨cj, _⟩ := hown.cellG (j := j) (by rw [hI.hl]; exact hj1)
          have ci' : wr.cell? ⟨w3.heap.size, i, none⟩ = some (.int .i64 (vx s.head i)) := ci
          have cj' : wr.cell? ⟨w3.heap.size, j, none⟩ = some (.int .i64 (vx s.head j)) := cj
          clear ci cj
          obtain ⟨a, ha⟩ := Int.eq_ofNat_of_zero_le a1
          obtain ⟨bn, hbn⟩ := Int.eq_ofNat_of_zero_le b1
          have hoA : ebA s [(i : Int), (j : Int), et] = (a : Int) := by rw [← ha]; simp [ebA, vx]
          have hoB : ebB s [(i : Int), (j : Int), et] = (bn : Int) := by rw [← hbn]; simp [ebB, vx]
          rw [ha] at ci' a2
          rw [hbn] at cj' b2
          have haL : a < f.birth.length := by omega
          have hbL : bn < f.birth.length := by omega
          obtain ⟨ba, oa, ya, rfl, hba, HYA, za0, _⟩ := SlI.at_ HFB3.out haL
          obtain ⟨bb, ob, yb, eAB, _, HYB, zb0, _⟩ := SlI.at_ HFB3.out hbL
          injection eAB with eAB
          injection eAB with e1 e2
          subst e1 e2
          have za := bcell hbel hba za0
          have zb := bcell hbel hba zb0
          have hbaw : ba < wr.heap.size := by omega
          have hyar := HBI.out a haL
          have hybr := HBI.out bn hbL
          have eya : vx f.birth a = ya := by rw [vx, List.getD_eq_getElem?_getD, HYA.out]; rfl
          have eyb : vx f.birth bn = yb := by rw [vx, List.getD_eq_getElem?_getD, HYB.out]; rfl
          rw [eya] at hyar
          rw [eyb] at hybr
          have HHL := Lib.hid hI.hl
          have hoW : w3.heap.size < wr.heap.size := (hown.lt _ rfl).2
          have kr := K3.out.below hbel K3.out.lt
          have hkw := kr.lt
          have zc0 := kr.cell' (i := 0) rfl
          have zc1 := kr.cell' (i := 1) rfl
          have HOW := Lib.hid hown
          have HBAR := Lib.hid hbar
          have HBE := Lib.hid hbel
          have HEYA := Lib.hid eya
          have HEYB := Lib.hid eyb
          clear hown hbar hbel eya eyb za0 zb0 hI ha hbn a1 a2 a3 b1 b2 b3 HYA HYB kr
          have q0 := InB.cell hbw z0
          have q1 := InB.cell hbw z1
          have qi := InB.cell hoW ci'
          have qj := InB.cell hoW cj'
          by_cases hab : a = bn
          · have HST := Lib.hid (show ebStep f.birth s [(i : Int), (j : Int), et] = s by rw [ebStep, hoA, hoB, if_pos (by omega)])
            have habB : ((a : Int) == (bn : Int)) = true := by rw [hab]; simp
            clear hoA hoB hab
            go_wp2
            (refine wp_region_inB (by kernel_rfl) (by kernel_rfl) ?_; (repeat (go_big_quiet_step (fail))); refine wpQuiet_nil ?_; intro w1 hw'; obtain ⟨s1, hw1⟩ := hw'; have hb1 := s1.below; rw [← hw1] at hb1; clear hw1 s1)
            go_wp2
            go_roundg (EL.length - (k + 1))
            case rel => exact ⟨k + 1, hi, by omega, by omega, by go_num, by rw [HSN.out, HST.out]; exact HOW.out.below hb1, by rw [HSN.out, HST.out]; exact HBAR.out.below hb1, by have := hb1.size; omega, HBE.out.trans (hb1.mono (by omega))⟩
            case measure => omega
          · have habB : ((a : Int) == (bn : Int)) = false := beq_eq_false_iff_ne.2 (by omega)
            have HST := Lib.hid (show ebStep f.birth s [(i : Int), (j : Int), et] = ebJoin f.birth et s (ebElder f.birth a bn) (ebOther f.birth a bn) by rw [ebStep, hoA, hoB, if_neg (by omega)]; simp [vx])
            clear hoA hoB hab
            go_wp2
            (refine wp_region_inB (by kernel_rfl) (by kernel_rfl) ?_; (repeat (go_big_quiet_step (fail))); refine wpQuiet_nil ?_; intro w1 hw'; obtain ⟨s1, hw1⟩ := hw'; have hb1 := s1.below; rw [← hw1] at hb1; clear hw1 s1)
            have p1 := InB.cell (show w0.heap.size < w1.heap.size by have := hb1.size; omega) (bcell hb1 hkw zc1)
            have pa := InB.cell (show ba < w1.heap.size by have := hb1.size; omega) (bcell hb1 hbaw za)
            have pb := InB.cell (show ba < w1.heap.size by have := hb1.size; omega) (bcell hb1 hbaw zb)
            clear q0 q1 qi qj
            have hba1 := hb1
            obtain ⟨wa, hwa⟩ : ∃ z, z = w1 := ⟨_, rfl⟩
            subst hwa
            clear hb1
            go_upto_region 17 with fail
            go_cut [40, 87] from 40 to 128 (fun sk sv wx => ∃ X : Bool, sk = .int .i64 k ∧ sv = .bool X ∧ Hid (X = ebX f.birth a bn) ∧ Below wr.heap.size wr wx)
            case first =>
              by_cases h1 : yb < ya
              · have hd1 : decide (yb < ya) = true := decide_eq_true h1
                have HX := Lib.hid (ebX_1 (bi := f.birth) (a := a) (b := bn) (by rw [HEYA.out, HEYB.out]; exact h1))
                (refine wp_region_inB (by kernel_rfl) (by kernel_rfl) ?_; (repeat (go_big_quiet_step (fail))); refine wpQuiet_nil ?_; intro w1 hw'; obtain ⟨s1, hw1⟩ := hw'; have hb1 := s1.below; rw [← hw1] at hb1; clear hw1 s1)
                have hbz := hba1.trans (hb1.mono hba1.size)
                clear hb1
                go_wp2
                go_meet
                case rel => exact ⟨true, rfl, rfl, HX.out.symm, hbz⟩
              · have hd1 : decide (yb < ya) = false := decide_eq_false h1
                by_cases h2 : yb = ya
                · have hd2 : (yb == ya) = true := by rw [h2]; simp
                  by_cases h3 : (bn : Int) < (a : Int)
                  · have hd3 : decide ((bn : Int) < (a : Int)) = true := decide_eq_true h3
                    have HX := Lib.hid (ebX_2 (bi := f.birth) (a := a) (b := bn) (by rw [HEYA.out, HEYB.out]; exact h2) h3)
                    clear h1 h2
                    (refine wp_region_inB (by kernel_rfl) (by kernel_rfl) ?_; (repeat (go_big_quiet_step (fail))); refine wpQuiet_nil ?_; intro w1 hw'; obtain ⟨s1, hw1⟩ := hw'; have hb1 := s1.below; rw [← hw1] at hb1; clear hw1 s1)
                    have hbz := hba1.trans (hb1.mono hba1.size)
                    clear hb1
                    go_wp2
                    go_meet
                    case rel => exact ⟨true, rfl, rfl, HX.out.symm, hbz⟩
                  · have hd3 : decide ((bn : Int) < (a : Int)) = false := decide_eq_false h3
                    have HX := Lib.hid (ebX_3 (bi := f.birth) (a := a) (b := bn) (by rw [HEYA.out, HEYB.out]; exact h2) h3)
                    clear h1 h2
                    (refine wp_region_inB (by kernel_rfl) (by kernel_rfl) ?_; (repeat (go_big_quiet_step (fail))); refine wpQuiet_nil ?_; intro w1 hw'; obtain ⟨s1, hw1⟩ := hw'; have hb1 := s1.below; rw [← hw1] at hb1; clear hw1 s1)
                    have hbz := hba1.trans (hb1.mono hba1.size)
                    clear hb1
                    go_wp2
                    go_meet
                    case rel => exact ⟨false, rfl, rfl, HX.out.symm, hbz⟩
                · have hd2 : (yb == ya) = false := beq_eq_false_iff_ne.2 h2
                  have HX := Lib.hid (ebX_4 (bi := f.birth) (a := a) (b := bn) (by rw [HEYA.out, HEYB.out]; exact h1) (by rw [HEYA.out, HEYB.out]; exact h2))
                  clear h1 h2
                  (refine wp_region_inB (by kernel_rfl) (by kernel_rfl) ?_; (repeat (go_big_quiet_step (fail))); refine wpQuiet_nil ?_; intro w1 hw'; obtain ⟨s1, hw1⟩ := hw'; have hb1 := s1.below; rw [← hw1] at hb1; clear hw1 s1)
                  have hbz := hba1.trans (hb1.mono hba1.size)
                  clear hb1
                  go_wp2
                  go_meet
                  case rel => exact ⟨false, rfl, rfl, HX.out.symm, hbz⟩
            case rest =>
              obtain ⟨X, rfl, rfl, HX, hbc⟩ := hcut
              clear p1 pa pb hba1
              obtain ⟨wb, hwb⟩ : ∃ z, z = wc := ⟨_, rfl⟩
              subst hwb
              go_upto_if 87 with fail
              go_cut [10, 11, 40] from 40 to 128 (fun sx sy sk wx => ∃ (x y : Nat), sk = .int .i64 k ∧ sx = .int .i64 x ∧ sy = .int .i64 y ∧ x < f.birth.length ∧ y < f.birth.length ∧ Hid (ebStep f.birth s [(i : Int), (j : Int), et] = ebJoin f.birth et s (x : Int) (y : Int)) ∧ wx = wb)
              case first =>
                cases X
                · have HJ := Lib.hid (show ebStep f.birth s [(i : Int), (j : Int), et] = ebJoin f.birth et s (a : Int) (bn : Int) by rw [HST.out, ebElder, ebOther, ← HX.out]; rfl)
                  go_wp2
                  go_meet
                  case rel => exact ⟨a, bn, rfl, rfl, rfl, haL, hbL, HJ, rfl⟩
                · have HJ := Lib.hid (show ebStep f.birth s [(i : Int), (j : Int), et] = ebJoin f.birth et s (bn : Int) (a : Int) by rw [HST.out, ebElder, ebOther, ← HX.out]; rfl)
                  go_wp2
                  go_meet
                  case rel => exact ⟨bn, a, rfl, rfl, rfl, hbL, haL, HJ, rfl⟩
              case rest =>
                obtain ⟨x, y, rfl, rfl, rfl, hxL, hyL, HJ, hwc⟩ := hcut
                replace hwc := hwc.symm
                subst hwc
                clear HX HST HEYA HEYB za zb hyar hybr X haL hbL z0 z1 x2 ci' cj' habB
                obtain ⟨bc, oc2, yy, eAC, _, HYY, zy0, _⟩ := SlI.at_ HFB3.out hyL
                injection eAC with eAC
                injection eAC with e1 e2
                subst e1 e2
                have zy := bcell hbc hbaw (bcell HBE.out hba zy0)
                have hyyr := HBI.out y hyL
                have eyy : vx f.birth y = yy := by rw [vx, List.getD_eq_getElem?_getD, HYY.out]; rfl
                rw [eyy] at hyyr
                have HEYY := Lib.hid eyy
                have hwbs := hbc.size
                have z2' := bcell hbc hbw z2
                have zc1' := bcell hbc hkw zc1
                have HOW2 := Lib.hid (HOW.out.below hbc)
                have HBAR2 := Lib.hid (HBAR.out.below hbc)
                have HBE2 := Lib.hid (HBE.out.trans (hbc.mono hwr))
                clear HYY zy0 eyy HOW HBAR HBE hbc z2 zc0 zc1
                go_upto_region 19 with fail
                go_cut [40, 99] from 40 to 128 (fun sk sv wx => ∃ X : Bool, sk = .int .i64 k ∧ sv = .bool X ∧ Hid (X = decide (yy ≤ et - 1)) ∧ Below wb.heap.size wb wx)
                case first =>
                  have r1 := InB.cell (show w0.heap.size < wb.heap.size by omega) zc1'
                  have ry := InB.cell (show ba < wb.heap.size by omega) zy
                  have r2 := InB.cell (show b' < wb.heap.size by omega) z2'
                  (refine wp_region_inB (by kernel_rfl) (by kernel_rfl) ?_; (repeat (go_big_quiet_step (fail))); refine wpQuiet_nil ?_; intro w1 hw'; obtain ⟨s1, hw1⟩ := hw'; have hb1 := s1.below; rw [← hw1] at hb1; clear hw1 s1)
                  go_wp2
                  go_meet
                  case rel => exact ⟨_, rfl, rfl, rfl, hb1⟩
                case rest =>
                obtain ⟨X, rfl, rfl, HX, hb1⟩ := hcut
                have hwcs := hb1.size
                have fu1 := bcell hb1 (show w0.heap.size < wb.heap.size by omega) zc1'
                have fuy := bcell hb1 (show ba < wb.heap.size by omega) zy
                have fu2 := bcell hb1 (show b' < wb.heap.size by omega) z2'
                have HOWC := Lib.hid (HOW2.out.below hb1)
                have HBARC := Lib.hid ((HBAR2.out.below hb1).wider (Nat.le_refl _) (show hi ≤ wc.heap.size by omega))
                have HBC := Lib.hid (HBE2.out.trans (hb1.mono (by omega)))
                clear hb1 zc1' zy z2' HOW2 HBAR2 HBE2
                go_upto_if 99 with fail
                go_cut [7, 40] from 40 to 128 (fun so sk wx => ∃ OUT : List Bar, sk = .int .i64 k ∧ BarsO wx (w3.heap.size + 1) wx.heap.size so OUT ∧ Hid (OUT = (ebJoin f.birth et s (x : Int) (y : Int)).out) ∧ OwnI wx w3.heap.size (.slice (some ⟨w3.heap.size, 0, none⟩) f.birth.length f.birth.length) s.head ∧ Below w3.heap.size w3 wx)
                case first =>
                  cases X
                  · have hle : ¬ yy ≤ et - 1 := of_decide_eq_false HX.out.symm
                    have HOUT := Lib.hid (show s.out = (ebJoin f.birth et s (x : Int) (y : Int)).out by
                      show _ = if vx f.birth (y : Int).toNat ≤ et - 1 then s.out ++ [(vx f.birth (y : Int).toNat, et - 1, 0)] else s.out
                      rw [Int.toNat_natCast, HEYY.out, if_neg hle])
                    clear hle
                    go_wp2
                    go_meet
                    case rel => exact ⟨_, rfl, HBARC.out, HOUT, HOWC.out, HBC.out⟩
                  · have hle : yy ≤ et - 1 := of_decide_eq_true HX.out.symm
                    have HOUT := Lib.hid (show s.out ++ [(yy, et - 1, (0 : Int))] = (ebJoin f.birth et s (x : Int) (y : Int)).out by
                      show _ = if vx f.birth (y : Int).toNat ≤ et - 1 then s.out ++ [(vx f.birth (y : Int).toNat, et - 1, 0)] else s.out
                      rw [Int.toNat_natCast, HEYY.out, if_pos hle])
                    clear hle
                    go_wp2
                    refine wp_region_net (by kernel_rfl) [.eq (.slice OA s.out.length oc), .eq (.pointer (some ⟨w0.heap.size, 1, none⟩)), .eq (.slice (some ⟨ba, oa, none⟩) f.birth.length c), .eq (.int .i64 (y : Int)), .eq (.pointer (some ⟨ba, oa + y, none⟩)), .eq (.int .i64 yy), .eq (.slice (some ⟨b', o', none⟩) 3 c'), .eq (.pointer (some ⟨b', o' + 2, none⟩)), .eq (.int .i64 et), .eq (.int .i64 (et - 1)), .eq (.agg #[.int .i64 yy, .int .i64 (et - 1), .int .i64 0]), rel 11 (fun u lo hi w => ∃ g, u = .slice (some ⟨g, 0, none⟩) 1 1 ∧ Blk w g 70 #[.int .i64 yy, .int .i64 (et - 1), .int .i64 0])] [[], [], [1], [], [1, 2, 3], [1, 2, 3, 4], [], [6], [6, 7], [6, 7, 8], [1, 2, 3, 4, 5, 6, 7, 8, 9], [1, 2, 3, 4, 5, 6, 7, 8, 9, 10], [0, 1, 2, 3, 4, 5, 6, 7, 8, 9, 10, 11], [0, 1, 2, 3, 4, 5, 6, 7, 8, 9, 10, 11, 12]] 12 (by kernel_rfl) ⟨trivial, trivial, trivial, trivial, trivial, trivial, trivial, trivial, trivial, trivial, trivial, rel_stable (fun u lo hi w w' ⟨g, e, h⟩ hb => ⟨g, e, h.call hb⟩), trivial⟩ ⟨?_, ?_, ?_, ?_, ?_, ?_, ?_, ?_, ?_, ?_, ?_, ?_, trivial⟩ ?_
                    · intro x w hb hk Q' hQ
                      clear hk
                      simp only [netAct, dstAt, List.getElem?_toArray, List.getElem?_cons_zero, List.getElem?_cons_succ, Option.bind_some, Act.put, List.setIfInBounds_toArray, List.set_cons_zero, List.set_cons_succ] at hQ ⊢
                      go_wp2
                      exact hQ (.slice OA s.out.length oc) _ (Below.refl _ _) rfl
                    · intro x w hb hk Q' hQ
                      clear hk
                      simp only [netAct, dstAt, List.getElem?_toArray, List.getElem?_cons_zero, List.getElem?_cons_succ, Option.bind_some, Act.put, List.setIfInBounds_toArray, List.set_cons_zero, List.set_cons_succ] at hQ ⊢
                      go_wp2
                      exact hQ (.pointer (some ⟨w0.heap.size, 1, none⟩)) _ (Below.refl _ _) rfl
                    · intro x w hb hk Q' hQ
                      have h1 : x.v 1 = .pointer (some ⟨w0.heap.size, 1, none⟩) := (hk 1 (by decide)).1
                      clear hk
                      simp only [netAct, dstAt, List.getElem?_toArray, List.getElem?_cons_zero, List.getElem?_cons_succ, Option.bind_some, Act.put, List.setIfInBounds_toArray, List.set_cons_zero, List.set_cons_succ] at hQ ⊢
                      simp only [h1] at hQ ⊢
                      clear h1
                      have q0 := bcell hb (by omega) fu1
                      go_wp2
                      exact hQ (.slice (some ⟨ba, oa, none⟩) f.birth.length c) _ (Below.refl _ _) rfl
                    · intro x w hb hk Q' hQ
                      clear hk
                      simp only [netAct, dstAt, List.getElem?_toArray, List.getElem?_cons_zero, List.getElem?_cons_succ, Option.bind_some, Act.put, List.setIfInBounds_toArray, List.set_cons_zero, List.set_cons_succ] at hQ ⊢
                      go_wp2
                      exact hQ (.int .i64 (y : Int)) _ (Below.refl _ _) rfl
                    · intro x w hb hk Q' hQ
                      have h2 : x.v 2 = .slice (some ⟨ba, oa, none⟩) f.birth.length c := (hk 2 (by decide)).1
                      have h3 : x.v 3 = .int .i64 (y : Int) := (hk 3 (by decide)).1
                      clear hk
                      simp only [netAct, dstAt, List.getElem?_toArray, List.getElem?_cons_zero, List.getElem?_cons_succ, Option.bind_some, Act.put, List.setIfInBounds_toArray, List.set_cons_zero, List.set_cons_succ] at hQ ⊢
                      simp only [h2, h3] at hQ ⊢
                      clear h2 h3
                      go_wp2
                      exact hQ (.pointer (some ⟨ba, oa + y, none⟩)) _ (Below.refl _ _) rfl
                    · intro x w hb hk Q' hQ
                      have h4 : x.v 4 = .pointer (some ⟨ba, oa + y, none⟩) := (hk 4 (by decide)).1
                      clear hk
                      simp only [netAct, dstAt, List.getElem?_toArray, List.getElem?_cons_zero, List.getElem?_cons_succ, Option.bind_some, Act.put, List.setIfInBounds_toArray, List.set_cons_zero, List.set_cons_succ] at hQ ⊢
                      simp only [h4] at hQ ⊢
                      clear h4
                      have q0 := bcell hb (by omega) fuy
                      go_wp2
                      exact hQ (.int .i64 yy) _ (Below.refl _ _) rfl
                    · intro x w hb hk Q' hQ
                      clear hk
                      simp only [netAct, dstAt, List.getElem?_toArray, List.getElem?_cons_zero, List.getElem?_cons_succ, Option.bind_some, Act.put, List.setIfInBounds_toArray, List.set_cons_zero, List.set_cons_succ] at hQ ⊢
                      go_wp2
                      exact hQ (.slice (some ⟨b', o', none⟩) 3 c') _ (Below.refl _ _) rfl
                    · intro x w hb hk Q' hQ
                      have h6 : x.v 6 = .slice (some ⟨b', o', none⟩) 3 c' := (hk 6 (by decide)).1
                      clear hk
                      simp only [netAct, dstAt, List.getElem?_toArray, List.getElem?_cons_zero, List.getElem?_cons_succ, Option.bind_some, Act.put, List.setIfInBounds_toArray, List.set_cons_zero, List.set_cons_succ] at hQ ⊢
                      simp only [h6] at hQ ⊢
                      clear h6
                      go_wp2
                      exact hQ (.pointer (some ⟨b', o' + 2, none⟩)) _ (Below.refl _ _) rfl
                    · intro x w hb hk Q' hQ
                      have h7 : x.v 7 = .pointer (some ⟨b', o' + 2, none⟩) := (hk 7 (by decide)).1
                      clear hk
                      simp only [netAct, dstAt, List.getElem?_toArray, List.getElem?_cons_zero, List.getElem?_cons_succ, Option.bind_some, Act.put, List.setIfInBounds_toArray, List.set_cons_zero, List.set_cons_succ] at hQ ⊢
                      simp only [h7] at hQ ⊢
                      clear h7
                      have q0 := bcell hb (by omega) fu2
                      go_wp2
                      exact hQ (.int .i64 et) _ (Below.refl _ _) rfl
                    · intro x w hb hk Q' hQ
                      have h8 : x.v 8 = .int .i64 et := (hk 8 (by decide)).1
                      clear hk
                      simp only [netAct, dstAt, List.getElem?_toArray, List.getElem?_cons_zero, List.getElem?_cons_succ, Option.bind_some, Act.put, List.setIfInBounds_toArray, List.set_cons_zero, List.set_cons_succ] at hQ ⊢
                      simp only [h8] at hQ ⊢
                      clear h8
                      go_wp2
                      exact hQ (.int .i64 (et - 1)) _ (Below.refl _ _) rfl
                    · intro x w hb hk Q' hQ
                      have h5 : x.v 5 = .int .i64 yy := (hk 5 (by decide)).1
                      have h9 : x.v 9 = .int .i64 (et - 1) := (hk 9 (by decide)).1
                      clear hk
                      simp only [netAct, dstAt, List.getElem?_toArray, List.getElem?_cons_zero, List.getElem?_cons_succ, Option.bind_some, Act.put, List.setIfInBounds_toArray, List.set_cons_zero, List.set_cons_succ] at hQ ⊢
                      simp only [h5, h9] at hQ ⊢
                      clear h5 h9
                      go_wp2
                      exact hQ (.agg #[.int .i64 yy, .int .i64 (et - 1), .int .i64 0]) _ (Below.refl _ _) rfl
                    · intro x w hb hk Q' hQ
                      have h1 : x.v 1 = .pointer (some ⟨w0.heap.size, 1, none⟩) := (hk 1 (by decide)).1
                      have h2 : x.v 2 = .slice (some ⟨ba, oa, none⟩) f.birth.length c := (hk 2 (by decide)).1
                      have h3 : x.v 3 = .int .i64 (y : Int) := (hk 3 (by decide)).1
                      have h4 : x.v 4 = .pointer (some ⟨ba, oa + y, none⟩) := (hk 4 (by decide)).1
                      have h5 : x.v 5 = .int .i64 yy := (hk 5 (by decide)).1
                      have h6 : x.v 6 = .slice (some ⟨b', o', none⟩) 3 c' := (hk 6 (by decide)).1
                      have h7 : x.v 7 = .pointer (some ⟨b', o' + 2, none⟩) := (hk 7 (by decide)).1
                      have h8 : x.v 8 = .int .i64 et := (hk 8 (by decide)).1
                      have h9 : x.v 9 = .int .i64 (et - 1) := (hk 9 (by decide)).1
                      have h10 : x.v 10 = .agg #[.int .i64 yy, .int .i64 (et - 1), .int .i64 0] := (hk 10 (by decide)).1
                      clear hk
                      simp only [netAct, dstAt, List.getElem?_toArray, List.getElem?_cons_zero, List.getElem?_cons_succ, Option.bind_some, Act.put, List.setIfInBounds_toArray, List.set_cons_zero, List.set_cons_succ] at hQ ⊢
                      simp only [h1, h2, h3, h4, h5, h6, h7, h8, h9, h10] at hQ ⊢
                      clear h1 h2 h3 h4 h5 h6 h7 h8 h9 h10
                      go_wp2
                      exact hQ _ _ (below_alloc _ _) ⟨_, rfl, Blk.new _ _ _⟩
                    · intro x w hb hk hiv hdj
                      have h0 : x.v 0 = .slice OA s.out.length oc := hk 0 (by decide)
                      have h1 : x.v 1 = .pointer (some ⟨w0.heap.size, 1, none⟩) := hk 1 (by decide)
                      have h2 : x.v 2 = .slice (some ⟨ba, oa, none⟩) f.birth.length c := hk 2 (by decide)
                      have h3 : x.v 3 = .int .i64 (y : Int) := hk 3 (by decide)
                      have h4 : x.v 4 = .pointer (some ⟨ba, oa + y, none⟩) := hk 4 (by decide)
                      have h5 : x.v 5 = .int .i64 yy := hk 5 (by decide)
                      have h6 : x.v 6 = .slice (some ⟨b', o', none⟩) 3 c' := hk 6 (by decide)
                      have h7 : x.v 7 = .pointer (some ⟨b', o' + 2, none⟩) := hk 7 (by decide)
                      have h8 : x.v 8 = .int .i64 et := hk 8 (by decide)
                      have h9 : x.v 9 = .int .i64 (et - 1) := hk 9 (by decide)
                      have h10 : x.v 10 = .agg #[.int .i64 yy, .int .i64 (et - 1), .int .i64 0] := hk 10 (by decide)
                      have h11 : ∃ g, (x.v 11) = .slice (some ⟨g, 0, none⟩) 1 1 ∧ Blk w g 70 #[.int .i64 yy, .int .i64 (et - 1), .int .i64 0] := hk 11 (by decide)
                      clear hk
                      simp only [netAct, dstAt, List.getElem?_toArray, List.getElem?_cons_zero, List.getElem?_cons_succ, Option.bind_some, Act.put, List.setIfInBounds_toArray, List.set_cons_zero, List.set_cons_succ]
                      simp only [List.drop_succ_cons, List.drop_zero, h0, h1, h2, h3, h4, h5, h6, h7, h8, h9, h10]
                      clear h0 h1 h2 h3 h4 h5 h6 h7 h8 h9 h10
                      obtain ⟨g11, e11, hk11⟩ := h11
                      rw [e11]
                      have HBARW := Lib.hid (HBARC.out.below hb)
                      have HOWW := Lib.hid (HOWC.out.below hb)
                      have HBW := Lib.hid (HBC.out.trans (hb.mono (by omega)))
                      have hbsz := hb.size
                      have HK11 := Lib.hid hk11
                      clear hiv hdj hb hk11 e11
                      refine wpList_appB (by rfl) (.tmp 100) (.tmp 111) (by rfl) (w3.heap.size + 1) wc.heap.size (.slice OA s.out.length oc) s.out (by rfl) HBARW.out g11 1 (yy, et - 1, 0) (by rfl) HK11.out ⟨⟨by simp only; omega, by simp only; omega⟩, ⟨by simp only; omega, by simp only; omega⟩, ⟨by simp only; omega, by simp only; omega⟩⟩ (by omega) (by omega) ?_
                      intro v9 w9 ho9 hb9 hg9
                      have HOWX := Lib.hid (HOWW.out.kept hg9 (by
                        right
                        intro e
                        have := (HBARW.out.1.1.lt w3.heap.size e.symm).1
                        omega))
                      have HBARX := Lib.hid ho9
                      have HBX := Lib.hid (HBW.out.trans (hb9.mono (by omega)))
                      clear ho9 hb9 hg9
                      go_wp2
                      go_meet
                      case rel => exact ⟨_, rfl, HBARX.out, HOUT, HOWX.out, HBX.out⟩
                case rest =>
                  obtain ⟨OUT, rfl, hbarX, HOUT, howX, hbX⟩ := hcut
                  obtain ⟨wX, hwX⟩ : ∃ z, z = wc := ⟨_, rfl⟩
                  subst hwX
                  obtain ⟨wd, hwd⟩ : ∃ z, z = wr := ⟨_, rfl⟩
                  subst hwd
                  obtain ⟨gF, hgF⟩ : ∃ gF : Int → Int, gF = fun h => if h = (y : Int) then (x : Int) else h := ⟨_, rfl⟩
                  have HGY := Lib.hid (show gF (y : Int) = (x : Int) by rw [hgF]; simp)
                  have HGN := Lib.hid (show ∀ h, h ≠ (y : Int) → gF h = h from fun h hh => by rw [hgF]; exact if_neg hh)
                  have HGM := Lib.hid (show s.head.map gF = (ebJoin f.birth et s (x : Int) (y : Int)).head by rw [hgF]; rfl)
                  have HOWX := Lib.hid howX
                  have HBARX := Lib.hid hbarX
                  have HBX := Lib.hid hbX
                  clear fu1 fuy fu2 HOWC HBARC HBC HEYY hyyr hwbs hwcs HX hgF howX hbarX hbX hbaw hbw hkw hoW hyL hba hwr hhi
                  go_wp2
                  go_loopw [12, 13, 115] (fun _ _ i wr => ∃ q : Nat, q ≤ f.birth.length ∧ i = .int .i64 q ∧ OwnI wr w3.heap.size (.slice (some ⟨w3.heap.size, 0, none⟩) f.birth.length f.birth.length) (mpTo gF s.head q) ∧ BarsO wr (w3.heap.size + 1) wX.heap.size u7 OUT ∧ wX.heap.size ≤ wr.heap.size ∧ Below w3.heap.size w3 wr) (fun _ _ i _ => f.birth.length - (intOf i).toNat)
                  case atStart => exact ⟨0, Nat.zero_le _, rfl, by rw [mpTo_0]; exact HOWX.out, HBARX.out, Nat.le_refl _, HBX.out⟩
                  case round =>
                    obtain ⟨q, hq, rfl, hown, hbar, hszX, hbel⟩ := hrel
                    have hszq := hbel.size
                    by_cases hql : q < f.birth.length
                    · obtain ⟨cq, _⟩ := hown.cellG (j := q) (by rw [mpTo_len, HHL.out]; exact hql)
                      rw [mpTo_at (by rw [HHL.out]; exact hql)] at cq
                      have fz := hown.frozenG q
                      have hST := mpTo_step (g := gF) (l := s.head) (k := q) (by rw [HHL.out]; exact hql)
                      have hSM := mpTo_same (g := gF) (l := s.head) (k := q) (by rw [HHL.out]; exact hql)
                      obtain ⟨h, hh⟩ : ∃ h, vx s.head q = h := ⟨_, rfl⟩
                      rw [hh] at cq hST hSM
                      clear hh
                      by_cases hy : h = (y : Int)
                      · have hyb : (h == (y : Int)) = true := by rw [hy]; simp
                        have hp := hown.put (j := q) (x := (x : Int)) ⟨by omega, by omega⟩
                        rw [hy, HGY.out] at hST
                        rw [hST] at hp
                        have HP := Lib.hid hp.1
                        have HBA := Lib.hid (hbar.grownFar hp.2 (by omega))
                        have HBB := Lib.hid (hbel.grown hp.2 hszq (fun j hj => by injection hj with hj; omega))
                        clear hp hown hbar hbel hy hST hSM
                        go_wp2
                        go_roundw
                        case rel => exact ⟨q + 1, by omega, by go_num, HP.out, HBA.out, by simp [World.setCell]; omega, HBB.out⟩
                        case measure => simp [intOf]; omega
                      · have hyb : (h == (y : Int)) = false := beq_eq_false_iff_ne.2 hy
                        have HP := Lib.hid hown
                        have HSM := Lib.hid (hSM (HGN.out h hy))
                        have HBA := Lib.hid hbar
                        have HBB := Lib.hid hbel
                        clear hown hbar hbel hy hST hSM
                        go_wp2
                        go_roundw
                        case rel => exact ⟨q + 1, by omega, by go_num, by rw [← HSM.out]; exact HP.out, HBA.out, hszX, HBB.out⟩
                        case measure => simp [intOf]; omega
                    · have HP := Lib.hid (show OwnI wr w3.heap.size (.slice (some ⟨w3.heap.size, 0, none⟩) f.birth.length f.birth.length) (ebStep f.birth s [(i : Int), (j : Int), et]).head by
                        rw [HJ.out, ← HGM.out]
                        rw [mpTo_all _ _ (by rw [HHL.out]; omega)] at hown
                        exact hown)
                      have HBA := Lib.hid (show BarsO wr (w3.heap.size + 1) wX.heap.size u7 (ebStep f.birth s [(i : Int), (j : Int), et]).out by rw [HJ.out, ← HOUT.out]; exact hbar)
                      have HBB := Lib.hid hbel
                      clear hown hbar hbel
                      go_wp2
                      go_roundg (EL.length - (k + 1))
                      case rel => exact ⟨k + 1, wX.heap.size, by omega, by omega, by go_num, by rw [HSN.out]; exact HP.out, by rw [HSN.out]; exact HBA.out, hszX, HBB.out⟩
                      case measure => omega
        · have hke : k = EL.length := by omega
          have HRN := Lib.hid (show s = ebRun f by rw [← HS.out, hke, List.take_length, HRUN.out])
          have HHL := Lib.hid hI.hl
          have HRT := Lib.hid hI
          have HOW := Lib.hid hown
          have HBAR := Lib.hid hbar
          have HBE := Lib.hid hbel
          obtain ⟨wd, hwd⟩ : ∃ z, z = wr := ⟨_, rfl⟩
          subst hwd
          clear hown hbar hbel hke hI
          have HHI := Lib.hid hhi
          go_wp2
          go_loopw [7, 14, 15, 131] (fun o _ _ i wr => ∃ (q hi : Nat), q ≤ f.birth.length ∧ i = .int .i64 q ∧ OwnI wr w3.heap.size (.slice (some ⟨w3.heap.size, 0, none⟩) f.birth.length f.birth.length) s.head ∧ BarsO wr (w3.heap.size + 1) hi o (finTo f s q) ∧ hi ≤ wr.heap.size ∧ Below w3.heap.size w3 wr) (fun _ _ _ i _ => f.birth.length - (intOf i).toNat)
          case atStart => exact ⟨0, hi, Nat.zero_le _, rfl, HOW.out, by rw [show finTo f s 0 = s.out by simp [finTo]]; exact HBAR.out, HHI.out, HBE.out⟩
          case round =>
            obtain ⟨q, hiq, hq, rfl, hown, hbar, hhq, hbel⟩ := hrel
            have hfl := finTo_len f s q
            have hfl2 : (finTo f s q).length ≤ 100 := by omega
            have hszq := hbel.size
            by_cases hql : q < f.birth.length
            · obtain ⟨cq, _⟩ := hown.cellG (j := q) (by rw [HHL.out]; exact hql)
              have cq' : wr.cell? ⟨w3.heap.size, q, none⟩ = some (.int .i64 (vx s.head q)) := cq
              clear cq
              have hY := finTo_yes (f := f) (s := s) (q := q)
              have hN := finTo_no (f := f) (s := s) (q := q)
              obtain ⟨h, hh⟩ : ∃ h, vx s.head q = h := ⟨_, rfl⟩
              rw [hh] at cq' hY hN
              obtain ⟨FT, hFT⟩ : ∃ FT, finTo f s q = FT := ⟨_, rfl⟩
              rw [hFT] at hbar hfl2 hY hN
              obtain ⟨OB, ob, eOB, _, _⟩ := hbar.form
              subst eOB
              clear hh hFT hfl
              by_cases hy : h = (q : Int)
              · have hyb : (h == (q : Int)) = true := by rw [hy]; simp
                obtain ⟨ba, oa, yq, rfl, hba, HYQ, zq0, _⟩ := SlI.at_ HFB3.out hql
                have eyq : vx f.birth q = yq := by rw [vx, List.getD_eq_getElem?_getD, HYQ.out]; rfl
                have hyr := HBI.out q hql
                rw [eyq] at hyr hY
                have HY := Lib.hid (hY hy)
                have zq := bcell hbel hba zq0
                have kr := K3.out.below hbel K3.out.lt
                have hkw := kr.lt
                have hbaw : ba < wr.heap.size := by omega
                have hoW : w3.heap.size < wr.heap.size := (hown.lt _ rfl).2
                have zc0 := kr.cell' (i := 0) rfl
                have zc1 := kr.cell' (i := 1) rfl
                have HOWC := Lib.hid hown
                have HBARC := Lib.hid hbar
                have HBC := Lib.hid hbel
                clear hY hN hy hown hbar hbel kr zq0 HYQ eyq
                go_wp2
                refine wp_region_net (by kernel_rfl) [.eq (.slice OB FT.length ob), .eq (.pointer (some ⟨w0.heap.size, 1, none⟩)), .eq (.slice (some ⟨ba, oa, none⟩) f.birth.length c), .eq (.int .i64 (q : Int)), .eq (.pointer (some ⟨ba, oa + q, none⟩)), .eq (.int .i64 yq), .eq (.pointer (some ⟨w0.heap.size, 0, none⟩)), .eq (.int .i64 f.stages), .eq (.int .i64 (f.stages - 1)), .eq (.agg #[.int .i64 yq, .int .i64 (f.stages - 1), .int .i64 0]), rel 10 (fun u lo hi w => ∃ g, u = .slice (some ⟨g, 0, none⟩) 1 1 ∧ Blk w g 70 #[.int .i64 yq, .int .i64 (f.stages - 1), .int .i64 0])] [[], [], [1], [], [1, 2, 3], [1, 2, 3, 4], [], [6], [6, 7], [1, 2, 3, 4, 5, 6, 7, 8], [1, 2, 3, 4, 5, 6, 7, 8, 9], [0, 1, 2, 3, 4, 5, 6, 7, 8, 9, 10], [0, 1, 2, 3, 4, 5, 6, 7, 8, 9, 10, 11]] 11 (by kernel_rfl) ⟨trivial, trivial, trivial, trivial, trivial, trivial, trivial, trivial, trivial, trivial, rel_stable (fun u lo hi w w' ⟨g, e, h⟩ hb => ⟨g, e, h.call hb⟩), trivial⟩ ⟨?_, ?_, ?_, ?_, ?_, ?_, ?_, ?_, ?_, ?_, ?_, trivial⟩ ?_
                · intro x w hb hk Q' hQ
                  clear hk
                  simp only [netAct, dstAt, List.getElem?_toArray, List.getElem?_cons_zero, List.getElem?_cons_succ, Option.bind_some, Act.put, List.setIfInBounds_toArray, List.set_cons_zero, List.set_cons_succ] at hQ ⊢
                  go_wp2
                  exact hQ (.slice OB FT.length ob) _ (Below.refl _ _) rfl
                · intro x w hb hk Q' hQ
                  clear hk
                  simp only [netAct, dstAt, List.getElem?_toArray, List.getElem?_cons_zero, List.getElem?_cons_succ, Option.bind_some, Act.put, List.setIfInBounds_toArray, List.set_cons_zero, List.set_cons_succ] at hQ ⊢
                  go_wp2
                  exact hQ (.pointer (some ⟨w0.heap.size, 1, none⟩)) _ (Below.refl _ _) rfl
                · intro x w hb hk Q' hQ
                  have h1 : x.v 1 = .pointer (some ⟨w0.heap.size, 1, none⟩) := (hk 1 (by decide)).1
                  clear hk
                  simp only [netAct, dstAt, List.getElem?_toArray, List.getElem?_cons_zero, List.getElem?_cons_succ, Option.bind_some, Act.put, List.setIfInBounds_toArray, List.set_cons_zero, List.set_cons_succ] at hQ ⊢
                  simp only [h1] at hQ ⊢
                  clear h1
                  have q0 := bcell hb (by omega) zc1
                  go_wp2
                  exact hQ (.slice (some ⟨ba, oa, none⟩) f.birth.length c) _ (Below.refl _ _) rfl
                · intro x w hb hk Q' hQ
                  clear hk
                  simp only [netAct, dstAt, List.getElem?_toArray, List.getElem?_cons_zero, List.getElem?_cons_succ, Option.bind_some, Act.put, List.setIfInBounds_toArray, List.set_cons_zero, List.set_cons_succ] at hQ ⊢
                  go_wp2
                  exact hQ (.int .i64 (q : Int)) _ (Below.refl _ _) rfl
                · intro x w hb hk Q' hQ
                  have h2 : x.v 2 = .slice (some ⟨ba, oa, none⟩) f.birth.length c := (hk 2 (by decide)).1
                  have h3 : x.v 3 = .int .i64 (q : Int) := (hk 3 (by decide)).1
                  clear hk
                  simp only [netAct, dstAt, List.getElem?_toArray, List.getElem?_cons_zero, List.getElem?_cons_succ, Option.bind_some, Act.put, List.setIfInBounds_toArray, List.set_cons_zero, List.set_cons_succ] at hQ ⊢
                  simp only [h2, h3] at hQ ⊢
                  clear h2 h3
                  go_wp2
                  exact hQ (.pointer (some ⟨ba, oa + q, none⟩)) _ (Below.refl _ _) rfl
                · intro x w hb hk Q' hQ
                  have h4 : x.v 4 = .pointer (some ⟨ba, oa + q, none⟩) := (hk 4 (by decide)).1
                  clear hk
                  simp only [netAct, dstAt, List.getElem?_toArray, List.getElem?_cons_zero, List.getElem?_cons_succ, Option.bind_some, Act.put, List.setIfInBounds_toArray, List.set_cons_zero, List.set_cons_succ] at hQ ⊢
                  simp only [h4] at hQ ⊢
                  clear h4
                  have q0 := bcell hb (by omega) zq
                  go_wp2
                  exact hQ (.int .i64 yq) _ (Below.refl _ _) rfl
                · intro x w hb hk Q' hQ
                  clear hk
                  simp only [netAct, dstAt, List.getElem?_toArray, List.getElem?_cons_zero, List.getElem?_cons_succ, Option.bind_some, Act.put, List.setIfInBounds_toArray, List.set_cons_zero, List.set_cons_succ] at hQ ⊢
                  go_wp2
                  exact hQ (.pointer (some ⟨w0.heap.size, 0, none⟩)) _ (Below.refl _ _) rfl
                · intro x w hb hk Q' hQ
                  have h6 : x.v 6 = .pointer (some ⟨w0.heap.size, 0, none⟩) := (hk 6 (by decide)).1
                  clear hk
                  simp only [netAct, dstAt, List.getElem?_toArray, List.getElem?_cons_zero, List.getElem?_cons_succ, Option.bind_some, Act.put, List.setIfInBounds_toArray, List.set_cons_zero, List.set_cons_succ] at hQ ⊢
                  simp only [h6] at hQ ⊢
                  clear h6
                  have q0 := bcell hb (by omega) zc0
                  go_wp2
                  exact hQ (.int .i64 f.stages) _ (Below.refl _ _) rfl
                · intro x w hb hk Q' hQ
                  have h7 : x.v 7 = .int .i64 f.stages := (hk 7 (by decide)).1
                  clear hk
                  simp only [netAct, dstAt, List.getElem?_toArray, List.getElem?_cons_zero, List.getElem?_cons_succ, Option.bind_some, Act.put, List.setIfInBounds_toArray, List.set_cons_zero, List.set_cons_succ] at hQ ⊢
                  simp only [h7] at hQ ⊢
                  clear h7
                  go_wp2
                  exact hQ (.int .i64 (f.stages - 1)) _ (Below.refl _ _) rfl
                · intro x w hb hk Q' hQ
                  have h5 : x.v 5 = .int .i64 yq := (hk 5 (by decide)).1
                  have h8 : x.v 8 = .int .i64 (f.stages - 1) := (hk 8 (by decide)).1
                  clear hk
                  simp only [netAct, dstAt, List.getElem?_toArray, List.getElem?_cons_zero, List.getElem?_cons_succ, Option.bind_some, Act.put, List.setIfInBounds_toArray, List.set_cons_zero, List.set_cons_succ] at hQ ⊢
                  simp only [h5, h8] at hQ ⊢
                  clear h5 h8
                  go_wp2
                  exact hQ (.agg #[.int .i64 yq, .int .i64 (f.stages - 1), .int .i64 0]) _ (Below.refl _ _) rfl
                · intro x w hb hk Q' hQ
                  have h1 : x.v 1 = .pointer (some ⟨w0.heap.size, 1, none⟩) := (hk 1 (by decide)).1
                  have h2 : x.v 2 = .slice (some ⟨ba, oa, none⟩) f.birth.length c := (hk 2 (by decide)).1
                  have h3 : x.v 3 = .int .i64 (q : Int) := (hk 3 (by decide)).1
                  have h4 : x.v 4 = .pointer (some ⟨ba, oa + q, none⟩) := (hk 4 (by decide)).1
                  have h5 : x.v 5 = .int .i64 yq := (hk 5 (by decide)).1
                  have h6 : x.v 6 = .pointer (some ⟨w0.heap.size, 0, none⟩) := (hk 6 (by decide)).1
                  have h7 : x.v 7 = .int .i64 f.stages := (hk 7 (by decide)).1
                  have h8 : x.v 8 = .int .i64 (f.stages - 1) := (hk 8 (by decide)).1
                  have h9 : x.v 9 = .agg #[.int .i64 yq, .int .i64 (f.stages - 1), .int .i64 0] := (hk 9 (by decide)).1
                  clear hk
                  simp only [netAct, dstAt, List.getElem?_toArray, List.getElem?_cons_zero, List.getElem?_cons_succ, Option.bind_some, Act.put, List.setIfInBounds_toArray, List.set_cons_zero, List.set_cons_succ] at hQ ⊢
                  simp only [h1, h2, h3, h4, h5, h6, h7, h8, h9] at hQ ⊢
                  clear h1 h2 h3 h4 h5 h6 h7 h8 h9
                  go_wp2
                  exact hQ _ _ (below_alloc _ _) ⟨_, rfl, Blk.new _ _ _⟩
                · intro x w hb hk hiv hdj
                  have h0 : x.v 0 = .slice OB FT.length ob := hk 0 (by decide)
                  have h1 : x.v 1 = .pointer (some ⟨w0.heap.size, 1, none⟩) := hk 1 (by decide)
                  have h2 : x.v 2 = .slice (some ⟨ba, oa, none⟩) f.birth.length c := hk 2 (by decide)
                  have h3 : x.v 3 = .int .i64 (q : Int) := hk 3 (by decide)
                  have h4 : x.v 4 = .pointer (some ⟨ba, oa + q, none⟩) := hk 4 (by decide)
                  have h5 : x.v 5 = .int .i64 yq := hk 5 (by decide)
                  have h6 : x.v 6 = .pointer (some ⟨w0.heap.size, 0, none⟩) := hk 6 (by decide)
                  have h7 : x.v 7 = .int .i64 f.stages := hk 7 (by decide)
                  have h8 : x.v 8 = .int .i64 (f.stages - 1) := hk 8 (by decide)
                  have h9 : x.v 9 = .agg #[.int .i64 yq, .int .i64 (f.stages - 1), .int .i64 0] := hk 9 (by decide)
                  have h10 : ∃ g, (x.v 10) = .slice (some ⟨g, 0, none⟩) 1 1 ∧ Blk w g 70 #[.int .i64 yq, .int .i64 (f.stages - 1), .int .i64 0] := hk 10 (by decide)
                  clear hk
                  simp only [netAct, dstAt, List.getElem?_toArray, List.getElem?_cons_zero, List.getElem?_cons_succ, Option.bind_some, Act.put, List.setIfInBounds_toArray, List.set_cons_zero, List.set_cons_succ]
                  simp only [List.drop_succ_cons, List.drop_zero, h0, h1, h2, h3, h4, h5, h6, h7, h8, h9]
                  clear h0 h1 h2 h3 h4 h5 h6 h7 h8 h9
                  obtain ⟨g11, e11, hk11⟩ := h10
                  rw [e11]
                  have HBARW := Lib.hid (HBARC.out.below hb)
                  have HOWW := Lib.hid (HOWC.out.below hb)
                  have HBW := Lib.hid (HBC.out.trans (hb.mono (by omega)))
                  have hbsz := hb.size
                  have HK11 := Lib.hid hk11
                  clear hiv hdj hb hk11 e11
                  refine wpList_appB (by rfl) (.tmp 139) (.tmp 149) (by rfl) (w3.heap.size + 1) hiq (.slice OB FT.length ob) FT (by rfl) HBARW.out g11 1 (yq, f.stages - 1, 0) (by rfl) HK11.out ⟨⟨by simp only; omega, by simp only; omega⟩, ⟨by simp only; omega, by simp only; omega⟩, ⟨by simp only; omega, by simp only; omega⟩⟩ (by omega) (by omega) ?_
                  intro v9 w9 ho9 hb9 hg9
                  have HOWX := Lib.hid (HOWW.out.kept hg9 (by
                    right
                    intro e
                    have := (HBARW.out.1.1.lt w3.heap.size e.symm).1
                    omega))
                  have HBARX := Lib.hid ho9
                  have HBX := Lib.hid (HBW.out.trans (hb9.mono (by omega)))
                  clear ho9 hb9 hg9
                  go_wp2
                  go_roundw
                  case rel => exact ⟨q + 1, w9.heap.size, by omega, by go_num, HOWX.out, by rw [HY.out]; exact HBARX.out, Nat.le_refl _, HBX.out⟩
                  case measure => simp [intOf]; omega
              · have hyb : (h == (q : Int)) = false := beq_eq_false_iff_ne.2 hy
                have HN := Lib.hid (hN hy)
                have HOWX := Lib.hid hown
                have HBARX := Lib.hid hbar
                have HBX := Lib.hid hbel
                clear hY hN hy hown hbar hbel
                go_wp2
                go_roundw
                case rel => exact ⟨q + 1, hiq, by omega, by go_num, HOWX.out, by rw [HN.out]; exact HBARX.out, hhq, HBX.out⟩
                case measure => simp [intOf]; omega
            · have HFE := Lib.hid (show finTo f s q = ebFin f (ebRun f) by rw [← HRN.out, show q = f.birth.length by omega]; rfl)
              have HCB := countBars_any _ (finTo f s q) wr hbar.rd (by omega)
              rw [HFE.out] at HCB
              have HCB := Lib.hid HCB
              have HBX := Lib.hid hbel
              obtain ⟨OB, ob, eOB, _, _⟩ := hbar.form
              subst eOB
              clear hown hbar hbel
              go_wp2_with fail
              refine HCB.out.mono ?_; rintro e w9 ⟨v9, rfl, ho9, hb9⟩
              have HO9 := Lib.hid ho9
              have hs9 := hb9.size
              clear HCB ho9
              go_wp2
              go_ret2
              have hg3 := G3.out.size
              exact ⟨_, by rw [HE.out]; rfl, by rw [HE.out]; exact HO9.out.wider (by omega) (Nat.le_refl _), G3.out.trans ((HBX.out.trans (hb9.mono hszq)).mono hg3)⟩
end Go.Proofs.YtgabmemalaklbaaGreat

/- ElderBars: the reference's. -/
namespace Go.Proofs.YtgabmemalaklbaaGreat
set_option linter.unusedVariables false
set_option linter.unusedSimpArgs false
open Go.RowKit

def runTo (f : Filt) (t : Nat) : EbS := ((List.range t).flatMap fun t : Nat => f.ends.filter fun e => vx e 2 == (t : Int)).foldl (ebStep f.birth) (ebInit f.birth.length f.stages)
theorem runTo_S (f : Filt) : runTo f f.stages.toNat = ebRun f := rfl
def runIn (f : Filt) (t i : Nat) : EbS := ((f.ends.take i).filter fun e => vx e 2 == (t : Int)).foldl (ebStep f.birth) (runTo f t)
theorem runIn_0 (f : Filt) (t : Nat) : runIn f t 0 = runTo f t := by simp [runIn]
theorem runIn_all {f : Filt} {t i : Nat} (h : f.ends.length ≤ i) : runIn f t i = runTo f (t + 1) := by
  rw [runIn, List.take_of_length_le h, runTo, runTo, List.range_succ, List.flatMap_append, List.foldl_append]
  simp
theorem runIn_yes {f : Filt} {t i : Nat} {e : List Int} (he : f.ends[i]? = some e) (h : vx e 2 = (t : Int)) : runIn f t (i + 1) = ebStep f.birth (runIn f t i) e := by
  rw [runIn, take_snoc he, List.filter_append, List.foldl_append, runIn]
  simp [h]
theorem runIn_no {f : Filt} {t i : Nat} {e : List Int} (he : f.ends[i]? = some e) (h : vx e 2 ≠ (t : Int)) : runIn f t (i + 1) = runIn f t i := by
  rw [runIn, take_snoc he, List.filter_append, List.foldl_append, runIn]
  simp [h]
theorem runIn_I {f : Filt} (h : isF f = true) (t i : Nat) : EbI f.birth.length f.stages f.birth (runIn f t i) := by
  obtain ⟨_, _, _, hb, he⟩ := isF_ok h
  have h1 : EbI f.birth.length f.stages f.birth (runTo f t) := EbI.fold (fun i hi => (hb i hi).1) _ _ (EbI.init _ _ _) fun e hm => by
    simp only [List.mem_flatMap] at hm
    obtain ⟨_, _, hm⟩ := hm
    exact he e (List.mem_filter.1 hm).1
  exact EbI.fold (fun i hi => (hb i hi).1) _ _ h1 fun e hm => he e (List.mem_of_mem_take (List.mem_filter.1 hm).1)
theorem OwnI.some_ {w : World} {base n : Nat} {v : Value} {l : List Int} (h : OwnI w base v l) (hn : l.length = n) (h0 : 0 < n) : ∃ g c, v = .slice (some ⟨g, 0, none⟩) n c ∧ base ≤ g ∧ g < w.heap.size := by
  obtain ⟨h1, h2, h3⟩ := h
  rcases h1.2 with ⟨_, h⟩ | ⟨g, cap, cur, rfl, hg, hh, _⟩
  · omega
  · exact ⟨g, cap, by rw [hn], hg, (Array.getElem?_eq_some_iff.1 hh).1⟩
def cntTo (f : Filt) (s : EbS) (v w : Int) (k : Nat) : Int := sm k fun i => if vx f.birth i = v ∧ vx s.last i = w then 1 else 0
theorem cntTo_yes {f : Filt} {s : EbS} {v w : Int} {k : Nat} (h1 : vx f.birth k = v) (h2 : vx s.last k = w) : cntTo f s v w (k + 1) = cntTo f s v w k + 1 := by
  rw [cntTo, sm, if_pos ⟨h1, h2⟩]; rfl
theorem cntTo_no {f : Filt} {s : EbS} {v w : Int} {k : Nat} (h : ¬ (vx f.birth k = v ∧ vx s.last k = w)) : cntTo f s v w (k + 1) = cntTo f s v w k := by
  rw [cntTo, sm, if_neg h, Int.add_zero]; rfl
theorem cntTo_rng (f : Filt) (s : EbS) (v w : Int) : ∀ k : Nat, 0 ≤ cntTo f s v w k ∧ cntTo f s v w k ≤ k
  | 0 => by simp [cntTo, sm]
  | k + 1 => by
    have := cntTo_rng f s v w k
    by_cases h : vx f.birth k = v ∧ vx s.last k = w
    · rw [cntTo_yes h.1 h.2]; omega
    · rw [cntTo_no h]; omega
theorem spRow_step (f : Filt) (s : EbS) (v k : Nat) : spRow f s v (k + 1) = spRow f s v k ++ spEl f s v (v + k) := by simp [spRow, List.range_succ]
theorem spTo_step (f : Filt) (s : EbS) (v : Nat) : spTo f s (v + 1) = spTo f s v ++ spRow f s v (f.stages.toNat - v) := by simp [spTo, List.range_succ]
theorem spRow_len (f : Filt) (s : EbS) (v : Nat) : ∀ k, (spRow f s v k).length ≤ k
  | 0 => by simp [spRow]
  | k + 1 => by
    have := spRow_len f s v k
    rw [spRow_step, List.length_append]
    have : (spEl f s v (v + k)).length ≤ 1 := by rw [spEl]; split <;> simp
    omega
theorem spTo_len (f : Filt) (s : EbS) (h : f.stages.toNat ≤ 5) : ∀ v, (spTo f s v).length ≤ v * 5
  | 0 => by simp [spTo]
  | v + 1 => by
    have h1 := spTo_len f s h v
    have h2 := spRow_len f s v (f.stages.toNat - v)
    rw [spTo_step, List.length_append]
    omega
theorem rowFsE (n : Nat) (f : Nat → Int) : rowF (n + 1) f = rowF n f ++ [f n] := by simp [rowF, List.range_succ]
theorem apart_new {v' v u : Value} {w : World} {base : Nat} {l : List Int} (h : v.ownBlock = none ∨ v.ownBlock ≠ u.ownBlock) (hv : v'.ownBlock = v.ownBlock ∨ v'.ownBlock = some w.heap.size) (hu : OwnI w base u l) : v'.ownBlock = none ∨ v'.ownBlock ≠ u.ownBlock := by
  rcases hv with e | e
  · rw [e]; exact h
  · right
    rw [e]
    intro e2
    have := (hu.lt _ e2.symm).2
    omega
theorem apart_symm {v u : Value} (h : v.ownBlock = none ∨ v.ownBlock ≠ u.ownBlock) : u.ownBlock = none ∨ u.ownBlock ≠ v.ownBlock := by
  rcases hu : u.ownBlock with _ | g
  · exact .inl rfl
  · right
    rcases h with h | h
    · rw [h]; simp
    · rw [hu] at h; exact fun e => h e.symm
set_option maxRecDepth 100000 in
set_option maxHeartbeats 8000000 in
theorem specElderBars_any (u : Value) (f : Filt) (w0 : World) (hu : FiR w0 w0.heap.size u f) :
    Calls Tryz.prog 9 #[u] w0 fun e w' => ∃ o, e = .returned (.tuple #[o, .bool (ebQ f).2]) ∧ BarsO w' w0.heap.size w'.heap.size o (ebQ f).1 ∧ Below w0.heap.size w0 w' := by
  have hu' := hu
  obtain ⟨A, c, C, d, rfl, hf, hT, hr, lf, lt⟩ := hu.open_
  clear hu
  obtain ⟨W, hW⟩ : ∃ W, w0.alloc (.cells #[.int .i64 f.stages, .slice A f.birth.length c, .slice C f.ends.length d] 27) = W := ⟨_, rfl⟩
  have g0 : Below w0.heap.size w0 W := by rw [← hW]; exact below_alloc _ _
  have kB : Blk W w0.heap.size 27 #[.int .i64 f.stages, .slice A f.birth.length c, .slice C f.ends.length d] := by rw [← hW]; exact Blk.new _ _ _
  have HU := Lib.hid (FiR.next g0 hu')
  have c0 := kB.cell' (i := 0) rfl
  have c1 := kB.cell' (i := 1) rfl
  have c2 := kB.cell' (i := 2) rfl
  by_cases hq : isF f = true
  case neg =>
    have HE := Lib.hid (show ebQ f = ([], false) by rw [ebQ, if_neg hq])
    rw [Bool.not_eq_true] at hq
    rw [HE.out]
    have HQ := Lib.hid hq
    clear hq kB hu' hf hT
    go_enter Tryz.func9, Tryz.ntmps9
    go_wp2_with fail
    clear hW
    refine (specIsFiltration_any _ f _ HU.out).mono ?_; rintro e w1 ⟨rfl, hb1⟩
    rw [HQ.out]
    have HB := Lib.hid (BarsO.made0 w1 (lo := w0.heap.size) (bthen g0 hb1).size)
    go_wp2
    go_ret2
    exact ⟨_, rfl, HB.out, (bthen g0 hb1).alloc (bthen g0 hb1).size _⟩
  case pos =>
  have HE := Lib.hid (show ebQ f = (spBars f (ebRun f), true) by rw [ebQ, if_pos hq])
  obtain ⟨hS, hnb, hm8, hbi, hee⟩ := isF_ok hq
  have HQ := Lib.hid hq
  have HFB := Lib.hid (SlI.next g0 hf)
  have HFE := Lib.hid (SlII.next g0 hT)
  have HBI := Lib.hid hbi
  have HEE := Lib.hid hee
  clear hq hu' hf hT hbi hee
  go_enter Tryz.func9, Tryz.ntmps9
  go_wp2_with fail
  clear hW
  refine (specIsFiltration_any _ f _ HU.out).mono ?_; rintro e w1 ⟨rfl, hb1⟩
  rw [HQ.out]
  have k1 := kB.call hb1
  have K1 := Lib.hid k1
  have HFB1 := Lib.hid (SlI.next hb1 HFB.out)
  have HFE1 := Lib.hid (SlII.next hb1 HFE.out)
  have G1 := Lib.hid (bthen g0 hb1)
  have hg1s := G1.out.size
  have hk1w := k1.lt
  clear c0 c1 c2 hb1 HFE HFB
  have c0 := k1.cell' (i := 0) rfl
  have c1 := k1.cell' (i := 1) rfl
  have c2 := k1.cell' (i := 2) rfl
  clear k1
  obtain ⟨W2, hW2⟩ : ∃ W2, (w1.alloc (.cells #[] 3)).alloc (.cells #[] 3) = W2 := ⟨_, rfl⟩
  have g2 : Below w1.heap.size w1 W2 := by rw [← hW2]; exact ((Below.refl _ _).alloc (Nat.le_refl _) _).alloc (by simp) _
  have HO2 := Lib.hid (show OwnI W2 w1.heap.size (.slice (some ⟨w1.heap.size, 0, none⟩) 0 0) [] by rw [← hW2]; exact (OwnI.made 3 rfl (Nat.le_refl _) : OwnI (w1.alloc (.cells #[] 3)) w1.heap.size _ []).alloc _)
  have HL2 := Lib.hid (show OwnI W2 w1.heap.size (.slice (some ⟨w1.heap.size + 1, 0, none⟩) 0 0) [] by
    rw [← hW2]
    have := (OwnI.made (w := w1.alloc (.cells #[] 3)) (base := w1.heap.size) 3 rfl (by simp) : OwnI _ w1.heap.size (.slice (some ⟨(w1.alloc (.cells #[] 3)).heap.size, 0, none⟩) 0 0) [])
    simpa only [World.size_alloc] using this)
  have G2 := Lib.hid g2
  have hs2 := g2.size
  clear g2 g0 kB
  go_wp2
  clear hW2
  go_loopw [5, 6, 7] (fun a b i wr => ∃ k : Nat, k ≤ f.birth.length ∧ i = .int .i64 k ∧ OwnI wr w1.heap.size a (rowF k fun i => (i : Int)) ∧ OwnI wr w1.heap.size b (List.replicate k (f.stages - 1)) ∧ (a.ownBlock = none ∨ a.ownBlock ≠ b.ownBlock) ∧ Below w1.heap.size w1 wr) (fun _ _ i _ => f.birth.length - (intOf i).toNat)
  case atStart => exact ⟨0, Nat.zero_le _, rfl, HO2.out, HL2.out, .inr (by simp [Value.ownBlock]), G2.out⟩
  case round =>
    obtain ⟨k, hk, rfl, hA, hL, hne, hbel⟩ := hrel
    have hws := hbel.size
    have hal := rowF_length k (fun i => (i : Int))
    have HSA := Lib.hid (rowFsE k (fun i => (i : Int)))
    have HSL := Lib.hid (List.replicate_succ' (n := k) (a := f.stages - 1))
    by_cases hlt : k < f.birth.length
    · obtain ⟨al, hale⟩ : ∃ al, rowF k (fun i => (i : Int)) = al := ⟨_, rfl⟩
      rw [hale] at hA hal HSA
      obtain ⟨bl, hble⟩ : ∃ bl, List.replicate k (f.stages - 1) = bl := ⟨_, rfl⟩
      have hbl : bl.length = k := by rw [← hble]; simp
      rw [hble] at hL HSL
      obtain ⟨AA, ac, eA, _, _⟩ := hA.form
      obtain ⟨LA, lc, eL, _, _⟩ := hL.form
      subst eA eL
      rw [hal] at hA hne ⊢
      rw [hbl] at hL hne ⊢
      have HAL := Lib.hid hal
      have HBL := Lib.hid hbl
      clear hale hble hal hbl
      have bp := below_alloc wr (.cells #[.int .i64 (k : Int)] 3)
      have HA1 := Lib.hid (hA.below bp)
      have HL1 := Lib.hid (hL.below bp)
      have HB1 := Lib.hid (hbel.trans (bp.mono hws))
      have hbs := bp.size
      have HNE := Lib.hid hne
      have HONE := Lib.hid (SlI.one wr 3 (k : Int) ⟨by omega, by omega⟩)
      have kr := K1.out.below hbel K1.out.lt
      clear hA hL hne hbel c0 c1 c2 bp
      (go_wp2_with (at_builtin; refine Hold.stop ?_)); unfold Hold
      refine wpList_appI rfl (.tmp 33) (.tmp 35) rfl w1.heap.size _ (.slice AA k ac) al rfl HA1.out _ _ _ [(k : Int)] rfl rfl HONE.out (by have := HAL.out; simp only [List.length_singleton]; omega) (by simp; omega) ?_
      intro v3 w3 ho3 hg3 hv3
      have HA3 := Lib.hid (show OwnI w3 w1.heap.size v3 (rowF (k + 1) fun i => (i : Int)) by rw [HSA.out]; exact ho3)
      have HL3 := Lib.hid (HL1.out.kept hg3 (apart_symm HNE.out))
      have HNE3 := Lib.hid (apart_new HNE.out hv3 HL1.out)
      have hb3 : Below w1.heap.size w1 w3 := HB1.out.trans (below_grown hg3 (fun j hj => (HA1.out.lt j hj).1) (by simp; omega))
      have HB3 := Lib.hid hb3
      have hs3 := hb3.size
      have kr3 := K1.out.below hb3 K1.out.lt
      have c0 := kr3.cell' (i := 0) rfl
      have bq := below_alloc w3 (.cells #[.int .i64 (f.stages - 1)] 3)
      have HA4 := Lib.hid (HA3.out.below bq)
      have HL4 := Lib.hid (HL3.out.below bq)
      have HB4 := Lib.hid (HB3.out.trans (bq.mono hs3))
      have HONE4 := Lib.hid (SlI.one w3 3 (f.stages - 1) ⟨by omega, by omega⟩)
      clear ho3 hg3 hv3 hb3 bq kr kr3 HA1 HL1 HONE
      (go_wp2_with (at_builtin; refine Hold.stop ?_)); unfold Hold
      refine wpList_appI rfl (.tmp 37) (.tmp 41) rfl w1.heap.size _ (.slice LA k lc) bl rfl HL4.out _ _ _ [f.stages - 1] rfl rfl HONE4.out (by have := HBL.out; simp only [List.length_singleton]; omega) (by simp; omega) ?_
      intro v5 w5 ho5 hg5 hv5
      have HL5 := Lib.hid (show OwnI w5 w1.heap.size v5 (List.replicate (k + 1) (f.stages - 1)) by rw [HSL.out]; exact ho5)
      have HA5 := Lib.hid (HA4.out.kept hg5 HNE3.out)
      have HNE5 := Lib.hid (apart_symm (apart_new (apart_symm HNE3.out) hv5 HA4.out))
      have HB5 := Lib.hid (HB4.out.trans (below_grown hg5 (fun j hj => (HL4.out.lt j hj).1) (by simp; omega)))
      clear ho5 hg5 hv5 c0
      go_wp2
      go_roundw
      case rel => exact ⟨k + 1, by omega, by go_num, HA5.out, HL5.out, HNE5.out, HB5.out⟩
      case measure => simp [intOf]; omega
    · have hkn : k = f.birth.length := by omega
      subst hkn
      obtain ⟨gh, ch, eH, hgh, hghw⟩ := hA.some_ (rowF_length _ _) (by omega)
      obtain ⟨gl, cl, eL, hgl, hglw⟩ := hL.some_ (List.length_replicate ..) (by omega)
      subst eH eL
      have hnq : gh ≠ gl := by
        rintro rfl
        rcases hne with h | h
        · simp [Value.ownBlock] at h
        · exact h rfl
      have HA0 := Lib.hid (show OwnI wr w1.heap.size (.slice (some ⟨gh, 0, none⟩) f.birth.length ch) (runTo f 0).head from hA)
      have HL0 := Lib.hid (show OwnI wr w1.heap.size (.slice (some ⟨gl, 0, none⟩) f.birth.length cl) (runTo f 0).last from hL)
      have HB0 := Lib.hid hbel
      obtain ⟨w5, hw5⟩ : ∃ z, z = wr := ⟨_, rfl⟩
      subst hw5
      obtain ⟨SN, hSN⟩ := Int.eq_ofNat_of_zero_le (show 0 ≤ f.stages by omega)
      have HSN := Lib.hid hSN
      have hSN5 : SN ≤ 5 := by omega
      clear hA hL hne hbel hal HSA HSL c0 c1 c2 hSN hlt hk
      go_wp2
      go_loopw [8, 9, 10, 11, 12, 13] (fun t _ _ _ _ _ wr => ∃ T : Nat, T ≤ SN ∧ t = .int .i64 T ∧ OwnI wr w1.heap.size (.slice (some ⟨gh, 0, none⟩) f.birth.length ch) (runTo f T).head ∧ OwnI wr w1.heap.size (.slice (some ⟨gl, 0, none⟩) f.birth.length cl) (runTo f T).last ∧ Below w1.heap.size w1 wr) (fun t _ _ _ _ _ _ => SN - (intOf t).toNat)
      case atStart => exact ⟨0, Nat.zero_le _, rfl, HA0.out, HL0.out, HB0.out⟩
      case round =>
        obtain ⟨T, hT, rfl, hA, hL, hbel⟩ := hrel
        have hws := hbel.size
        have kr := K1.out.below hbel K1.out.lt
        have c0 := kr.cell' (i := 0) rfl
        by_cases hTS : T < SN
        · have hdT : decide ((T : Int) < f.stages) = true := decide_eq_true (by rw [HSN.out]; omega)
          have HA1 := Lib.hid (show OwnI wr w1.heap.size (.slice (some ⟨gh, 0, none⟩) f.birth.length ch) (runIn f T 0).head by rw [runIn_0]; exact hA)
          have HL1 := Lib.hid (show OwnI wr w1.heap.size (.slice (some ⟨gl, 0, none⟩) f.birth.length cl) (runIn f T 0).last by rw [runIn_0]; exact hL)
          have HB1 := Lib.hid hbel
          obtain ⟨w6, hw6⟩ : ∃ z, z = wr := ⟨_, rfl⟩
          subst hw6
          clear hA hL hbel kr
          go_wp2
          clear c0
          go_loopg [9, 10, 11, 12, 13] f.ends.length (fun gk i _ _ _ _ wr => ∃ k : Nat, k ≤ f.ends.length ∧ f.ends.length - k ≤ gk ∧ i = .int .i64 k ∧ OwnI wr w1.heap.size (.slice (some ⟨gh, 0, none⟩) f.birth.length ch) (runIn f T k).head ∧ OwnI wr w1.heap.size (.slice (some ⟨gl, 0, none⟩) f.birth.length cl) (runIn f T k).last ∧ Below w1.heap.size w1 wr)
          case atStart => exact ⟨0, Nat.zero_le _, by omega, rfl, HA1.out, HL1.out, HB1.out⟩
          case round =>
            obtain ⟨k, hk, hgk, rfl, hA, hL, hbel⟩ := hrel
            have hws := hbel.size
            have kr := K1.out.below hbel K1.out.lt
            have c1 := kr.cell' (i := 1) rfl
            have c2 := kr.cell' (i := 2) rfl
            by_cases hlt : k < f.ends.length
            · obtain ⟨b, o, l, A', c', rfl, hb, HL, x1, hl⟩ := SlII.at_ HFE1.out hlt
              obtain ⟨i, j, et, rfl, hi1, hj1, ht0, htS⟩ := okE_three (HEE.out l (List.mem_of_getElem? HL.out))
              have hI := runIn_I HQ.out T k
              have HY := Lib.hid (runIn_yes (f := f) (t := T) HL.out)
              have HN := Lib.hid (runIn_no (f := f) (t := T) HL.out)
              obtain ⟨s, hs⟩ : ∃ s, runIn f T k = s := ⟨_, rfl⟩
              rw [hs] at hA hL hI HY HN
              obtain ⟨b', o', y0, rfl, hb', HY0, j0, _⟩ := SlI.at_ (k := 0) hl (by simp)
              obtain ⟨b2, o2, y1, E1, _, HY1, j1, _⟩ := SlI.at_ (k := 1) hl (by simp)
              obtain ⟨b3, o3, y2, E2, _, HY2, j2, _⟩ := SlI.at_ (k := 2) hl (by simp)
              have F1 := HY0.out
              have F2 := HY1.out
              have F3 := HY2.out
              simp only [List.getElem?_cons_zero, List.getElem?_cons_succ, Option.some.injEq] at F1 F2 F3 E1 E2
              injection E1 with E1a E1b
              injection E2 with E2a E2b
              subst F1 F2 F3 E1a E1b E2a E2b
              have z0 := bcell hbel hb' j0
              have z1 := bcell hbel hb' j1
              have z2 := bcell hbel hb' j2
              have x2 := bcell hbel hb x1
              simp only [List.length_cons, List.length_nil, Nat.zero_add, Nat.reduceAdd] at x2
              simp only [Nat.add_zero] at z0
              have hbw : b' < wr.heap.size := by omega
              clear j0 j1 j2 HY0 HY1 HY2 x1 hl hb hb' hs
              by_cases het : et = (T : Int)
              case neg =>
                have hd := bne_iff_ne.2 het
                have HNN := Lib.hid (HN.out (by simpa [vx] using het))
                have HAX := Lib.hid hA
                have HLX := Lib.hid hL
                have HBX := Lib.hid hbel
                clear hA hL hbel HY HN kr het
                go_wp2
                go_roundg (f.ends.length - (k + 1))
                case rel => exact ⟨k + 1, by omega, by omega, by go_num, by rw [HNN.out]; exact HAX.out, by rw [HNN.out]; exact HLX.out, HBX.out⟩
                case measure => omega
              case pos =>
              have hd : (et != (T : Int)) = false := by rw [het]; simp
              have HSN2 := Lib.hid (HY.out (by simpa [vx] using het))
              have HET := Lib.hid het
              clear HY HN het
              obtain ⟨a1, a2, a3⟩ := hI.hr i hi1
              obtain ⟨b1, b2, b3⟩ := hI.hr j hj1
              obtain ⟨ci, _⟩ := hA.cellG (j := i) (by rw [hI.hl]; exact hi1)
              obtain ⟨cj, _⟩ := hA.cellG (j := j) (by rw [hI.hl]; exact hj1)
              have ci' : wr.cell? ⟨gh, i, none⟩ = some (.int .i64 (vx s.head i)) := ci
              have cj' : wr.cell? ⟨gh, j, none⟩ = some (.int .i64 (vx s.head j)) := cj
              clear ci cj
              obtain ⟨a, ha⟩ := Int.eq_ofNat_of_zero_le a1
              obtain ⟨bn, hbn⟩ := Int.eq_ofNat_of_zero_le b1
              have hoA : ebA s [(i : Int), (j : Int), et] = (a : Int) := by rw [← ha]; simp [ebA, vx]
              have hoB : ebB s [(i : Int), (j : Int), et] = (bn : Int) := by rw [← hbn]; simp [ebB, vx]
              rw [ha] at ci' a2
              rw [hbn] at cj' b2
              have haL : a < f.birth.length := by omega
              have hbL : bn < f.birth.length := by omega
              obtain ⟨ba, oa, ya, rfl, hba, HYA, za0, _⟩ := SlI.at_ HFB1.out haL
              obtain ⟨bb, ob, yb, eAB, _, HYB, zb0, _⟩ := SlI.at_ HFB1.out hbL
              injection eAB with eAB
              injection eAB with e1 e2
              subst e1 e2
              have za := bcell hbel hba za0
              have zb := bcell hbel hba zb0
              have hbaw : ba < wr.heap.size := by omega
              have hyar := HBI.out a haL
              have hybr := HBI.out bn hbL
              have eya : vx f.birth a = ya := by rw [vx, List.getD_eq_getElem?_getD, HYA.out]; rfl
              have eyb : vx f.birth bn = yb := by rw [vx, List.getD_eq_getElem?_getD, HYB.out]; rfl
              rw [eya] at hyar
              rw [eyb] at hybr
              have HHL := Lib.hid hI.hl
              have HLL := Lib.hid hI.ll
              have hkw := kr.lt
              have HOA := Lib.hid hA
              have HOL := Lib.hid hL
              have HBE := Lib.hid hbel
              have HEYA := Lib.hid eya
              have HEYB := Lib.hid eyb
              clear hA hL hbel eya eyb za0 zb0 hI ha hbn a1 a2 a3 b1 b2 b3 HYA HYB kr
              by_cases hab : a = bn
              · have HST := Lib.hid (show ebStep f.birth s [(i : Int), (j : Int), et] = s by rw [ebStep, hoA, hoB, if_pos (by omega)])
                have habB : ((a : Int) == (bn : Int)) = true := by rw [hab]; simp
                clear hoA hoB hab
                go_wp2
                go_roundg (f.ends.length - (k + 1))
                case rel => exact ⟨k + 1, by omega, by omega, by go_num, by rw [HSN2.out, HST.out]; exact HOA.out, by rw [HSN2.out, HST.out]; exact HOL.out, HBE.out⟩
                case measure => omega
              · have habB : ((a : Int) == (bn : Int)) = false := beq_eq_false_iff_ne.2 (by omega)
                have HST := Lib.hid (show ebStep f.birth s [(i : Int), (j : Int), et] = ebJoin f.birth et s (ebElder f.birth a bn) (ebOther f.birth a bn) by rw [ebStep, hoA, hoB, if_neg (by omega)]; simp [vx])
                clear hoA hoB hab
                have p1 := InB.cell hkw c1
                have pa := InB.cell hbaw za
                have pb := InB.cell hbaw zb
                go_upto_region 21 with fail
                go_cut [116] from 49 to 139 (fun sv wx => ∃ X : Bool, sv = .bool X ∧ Hid (X = ebX f.birth a bn) ∧ Below wr.heap.size wr wx)
                case first =>
                  by_cases h1 : yb < ya
                  · have hd1 : decide (yb < ya) = true := decide_eq_true h1
                    have HX := Lib.hid (ebX_1 (bi := f.birth) (a := a) (b := bn) (by rw [HEYA.out, HEYB.out]; exact h1))
                    (refine wp_region_inB (by kernel_rfl) (by kernel_rfl) ?_; (repeat (go_big_quiet_step (fail))); refine wpQuiet_nil ?_; intro w1 hw'; obtain ⟨s1, hw1⟩ := hw'; have hb1 := s1.below; rw [← hw1] at hb1; clear hw1 s1)
                    go_wp2
                    go_meet
                    case rel => exact ⟨true, rfl, HX.out.symm, hb1⟩
                  · have hd1 : decide (yb < ya) = false := decide_eq_false h1
                    by_cases h2 : yb = ya
                    · have hd2 : (ya == yb) = true := by rw [h2]; simp
                      by_cases h3 : (bn : Int) < (a : Int)
                      · have hd3 : decide ((bn : Int) < (a : Int)) = true := decide_eq_true h3
                        have HX := Lib.hid (ebX_2 (bi := f.birth) (a := a) (b := bn) (by rw [HEYA.out, HEYB.out]; exact h2) h3)
                        clear h1 h2
                        (refine wp_region_inB (by kernel_rfl) (by kernel_rfl) ?_; (repeat (go_big_quiet_step (fail))); refine wpQuiet_nil ?_; intro w1 hw'; obtain ⟨s1, hw1⟩ := hw'; have hb1 := s1.below; rw [← hw1] at hb1; clear hw1 s1)
                        go_wp2
                        go_meet
                        case rel => exact ⟨true, rfl, HX.out.symm, hb1⟩
                      · have hd3 : decide ((bn : Int) < (a : Int)) = false := decide_eq_false h3
                        have HX := Lib.hid (ebX_3 (bi := f.birth) (a := a) (b := bn) (by rw [HEYA.out, HEYB.out]; exact h2) h3)
                        clear h1 h2
                        (refine wp_region_inB (by kernel_rfl) (by kernel_rfl) ?_; (repeat (go_big_quiet_step (fail))); refine wpQuiet_nil ?_; intro w1 hw'; obtain ⟨s1, hw1⟩ := hw'; have hb1 := s1.below; rw [← hw1] at hb1; clear hw1 s1)
                        go_wp2
                        go_meet
                        case rel => exact ⟨false, rfl, HX.out.symm, hb1⟩
                    · have hd2 : (ya == yb) = false := beq_eq_false_iff_ne.2 (fun e => h2 e.symm)
                      have HX := Lib.hid (ebX_4 (bi := f.birth) (a := a) (b := bn) (by rw [HEYA.out, HEYB.out]; exact h1) (by rw [HEYA.out, HEYB.out]; exact h2))
                      clear h1 h2
                      (refine wp_region_inB (by kernel_rfl) (by kernel_rfl) ?_; (repeat (go_big_quiet_step (fail))); refine wpQuiet_nil ?_; intro w1 hw'; obtain ⟨s1, hw1⟩ := hw'; have hb1 := s1.below; rw [← hw1] at hb1; clear hw1 s1)
                      go_wp2
                      go_meet
                      case rel => exact ⟨false, rfl, HX.out.symm, hb1⟩
                case rest =>
                  obtain ⟨X, rfl, HX, hbc⟩ := hcut
                  clear p1 pa pb
                  obtain ⟨wb, hwb⟩ : ∃ z, z = wc := ⟨_, rfl⟩
                  subst hwb
                  go_upto_if 116 with fail
                  go_cut [10, 11] from 49 to 139 (fun sx sy wx => ∃ (x y : Nat), sx = .int .i64 x ∧ sy = .int .i64 y ∧ x < f.birth.length ∧ y < f.birth.length ∧ Hid (ebStep f.birth s [(i : Int), (j : Int), et] = ebJoin f.birth et s (x : Int) (y : Int)) ∧ wx = wb)
                  case first =>
                    cases X
                    · have HJ := Lib.hid (show ebStep f.birth s [(i : Int), (j : Int), et] = ebJoin f.birth et s (a : Int) (bn : Int) by rw [HST.out, ebElder, ebOther, ← HX.out]; rfl)
                      go_wp2
                      go_meet
                      case rel => exact ⟨a, bn, rfl, rfl, haL, hbL, HJ, rfl⟩
                    · have HJ := Lib.hid (show ebStep f.birth s [(i : Int), (j : Int), et] = ebJoin f.birth et s (bn : Int) (a : Int) by rw [HST.out, ebElder, ebOther, ← HX.out]; rfl)
                      go_wp2
                      go_meet
                      case rel => exact ⟨bn, a, rfl, rfl, hbL, haL, HJ, rfl⟩
                  case rest =>
                    obtain ⟨x, y, rfl, rfl, hxL, hyL, HJ, hwc⟩ := hcut
                    replace hwc := hwc.symm
                    subst hwc
                    have HOA2 := Lib.hid (HOA.out.below hbc)
                    have hOL2 := HOL.out.below hbc
                    have hBE2 := HBE.out.trans (hbc.mono hws)
                    have hbs := hBE2.size
                    obtain ⟨cly, _⟩ := hOL2.cellG (j := y) (by rw [HLL.out]; exact hyL)
                    have fl := hOL2.frozenG y
                    have hp := hOL2.put (j := y) (x := (T : Int) - 1) ⟨by omega, by omega⟩
                    obtain ⟨ov, hov⟩ : ∃ ov, s.last.getD y 0 = ov := ⟨_, rfl⟩
                    rw [hov] at cly
                    have HL9 := Lib.hid (show OwnI (wb.setCell ⟨gl, y, none⟩ (.int .i64 ((T : Int) - 1))) w1.heap.size (.slice (some ⟨gl, 0, none⟩) f.birth.length cl) (ebJoin f.birth et s (x : Int) (y : Int)).last by
                      have := hp.1
                      rw [← HET.out] at this
                      rw [show (ebJoin f.birth et s (x : Int) (y : Int)).last = s.last.set y (et - 1) from rfl]
                      rw [← HET.out]
                      exact this)
                    have HA9 := Lib.hid (HOA2.out.kept hp.2 (.inr (by simp [Value.ownBlock]; exact hnq)))
                    have HB9 := Lib.hid (hBE2.grown hp.2 hbs (fun j hj => by injection hj with hj; omega))
                    clear HX HST HEYA HEYB za zb hyar hybr X haL hbL z0 z1 x2 ci' cj' habB hOL2 hBE2 hp hov HOA HOL HBE hbc z2 c1 c2
                    obtain ⟨gF, hgF⟩ : ∃ gF : Int → Int, gF = fun h => if h = (y : Int) then (x : Int) else h := ⟨_, rfl⟩
                    have HGY := Lib.hid (show gF (y : Int) = (x : Int) by rw [hgF]; simp)
                    have HGN := Lib.hid (show ∀ h, h ≠ (y : Int) → gF h = h from fun h hh => by rw [hgF]; exact if_neg hh)
                    have HGM := Lib.hid (show s.head.map gF = (ebJoin f.birth et s (x : Int) (y : Int)).head by rw [hgF]; rfl)
                    clear hgF
                    obtain ⟨wd, hwd⟩ : ∃ z, z = wr := ⟨_, rfl⟩
                    subst hwd
                    have HJL := Lib.hid HJ.out
                    obtain ⟨JJ, hJJ⟩ : ∃ JJ, ebJoin f.birth et s (x : Int) (y : Int) = JJ := ⟨_, rfl⟩
                    rw [hJJ] at HL9 HGM HJL
                    clear hJJ HJ
                    go_wp2
                    go_loopw [13] (fun i wr => ∃ q : Nat, q ≤ f.birth.length ∧ i = .int .i64 q ∧ OwnI wr w1.heap.size (.slice (some ⟨gh, 0, none⟩) f.birth.length ch) (mpTo gF s.head q) ∧ OwnI wr w1.heap.size (.slice (some ⟨gl, 0, none⟩) f.birth.length cl) JJ.last ∧ Below w1.heap.size w1 wr) (fun i _ => f.birth.length - (intOf i).toNat)
                    case atStart => exact ⟨0, Nat.zero_le _, rfl, by rw [mpTo_0]; exact HA9.out, HL9.out, HB9.out⟩
                    case round =>
                      obtain ⟨q, hq, rfl, hown, hlas, hbel⟩ := hrel
                      have hszq := hbel.size
                      by_cases hql : q < f.birth.length
                      · obtain ⟨cq, _⟩ := hown.cellG (j := q) (by rw [mpTo_len, HHL.out]; exact hql)
                        rw [mpTo_at (by rw [HHL.out]; exact hql)] at cq
                        have fz := hown.frozenG q
                        have hST := mpTo_step (g := gF) (l := s.head) (k := q) (by rw [HHL.out]; exact hql)
                        have hSM := mpTo_same (g := gF) (l := s.head) (k := q) (by rw [HHL.out]; exact hql)
                        obtain ⟨h, hh⟩ : ∃ h, vx s.head q = h := ⟨_, rfl⟩
                        rw [hh] at cq hST hSM
                        clear hh
                        by_cases hy : h = (y : Int)
                        · have hyb : (h == (y : Int)) = true := by rw [hy]; simp
                          have hp := hown.put (j := q) (x := (x : Int)) ⟨by omega, by omega⟩
                          rw [hy, HGY.out] at hST
                          rw [hST] at hp
                          have HP := Lib.hid hp.1
                          have HBA := Lib.hid (hlas.kept hp.2 (.inr (by simp [Value.ownBlock]; exact fun e => hnq e.symm)))
                          have HBB := Lib.hid (hbel.grown hp.2 hszq (fun j hj => by injection hj with hj; omega))
                          clear hp hown hlas hbel hy hST hSM
                          go_wp2
                          go_roundw
                          case rel => exact ⟨q + 1, by omega, by go_num, HP.out, HBA.out, HBB.out⟩
                          case measure => simp [intOf]; omega
                        · have hyb : (h == (y : Int)) = false := beq_eq_false_iff_ne.2 hy
                          have HP := Lib.hid hown
                          have HSM := Lib.hid (hSM (HGN.out h hy))
                          have HBA := Lib.hid hlas
                          have HBB := Lib.hid hbel
                          clear hown hlas hbel hy hST hSM
                          go_wp2
                          go_roundw
                          case rel => exact ⟨q + 1, by omega, by go_num, by rw [← HSM.out]; exact HP.out, HBA.out, HBB.out⟩
                          case measure => simp [intOf]; omega
                      · have HP := Lib.hid (show OwnI wr w1.heap.size (.slice (some ⟨gh, 0, none⟩) f.birth.length ch) (runIn f T (k + 1)).head by
                          rw [HSN2.out, HJL.out, ← HGM.out]
                          rw [mpTo_all _ _ (by rw [HHL.out]; omega)] at hown
                          exact hown)
                        have HBA := Lib.hid (show OwnI wr w1.heap.size (.slice (some ⟨gl, 0, none⟩) f.birth.length cl) (runIn f T (k + 1)).last by rw [HSN2.out, HJL.out]; exact hlas)
                        have HBB := Lib.hid hbel
                        clear hown hlas hbel
                        go_wp2
                        go_roundg (f.ends.length - (k + 1))
                        case rel => exact ⟨k + 1, by omega, by omega, by go_num, HP.out, HBA.out, HBB.out⟩
                        case measure => omega
            · have hke : k = f.ends.length := by omega
              have HA7 := Lib.hid (show OwnI wr w1.heap.size (.slice (some ⟨gh, 0, none⟩) f.birth.length ch) (runTo f (T + 1)).head by rw [← runIn_all (i := k) (by omega)]; exact hA)
              have HL7 := Lib.hid (show OwnI wr w1.heap.size (.slice (some ⟨gl, 0, none⟩) f.birth.length cl) (runTo f (T + 1)).last by rw [← runIn_all (i := k) (by omega)]; exact hL)
              have HB7 := Lib.hid hbel
              clear hA hL hbel hke kr
              go_wp2
              go_roundw
              case rel => exact ⟨T + 1, by omega, by go_num, HA7.out, HL7.out, HB7.out⟩
              case measure => simp [intOf]; omega
        · have hdT : decide ((T : Int) < f.stages) = false := decide_eq_false (by rw [HSN.out]; omega)
          have hTe : T = SN := by omega
          have HLE := Lib.hid (show OwnI wr w1.heap.size (.slice (some ⟨gl, 0, none⟩) f.birth.length cl) (ebRun f).last by rw [← runTo_S, show f.stages.toNat = T by rw [hTe]; have := HSN.out; omega]; exact hL)
          have hII := runIn_I HQ.out T 0
          rw [runIn_0] at hII
          have HLL := Lib.hid (show (ebRun f).last.length = f.birth.length by rw [← runTo_S, show f.stages.toNat = T by rw [hTe]; have := HSN.out; omega]; exact hII.ll)
          have HSP := Lib.hid (show f.stages.toNat = SN by have := HSN.out; omega)
          obtain ⟨s, hs⟩ : ∃ s, ebRun f = s := ⟨_, rfl⟩
          rw [hs] at HLE HLL HE
          have HBE := Lib.hid hbel
          obtain ⟨wE, hwE⟩ : ∃ z, z = wr := ⟨_, rfl⟩
          subst hwE
          have HO8 := Lib.hid (BarsO.made0 wE (lo := wE.heap.size) (Nat.le_refl _))
          have HKE := Lib.hid kr
          have bE := below_alloc wE (.cells #[] 70)
          have HB8 := Lib.hid bE
          have hs8 := bE.size
          clear hA hL hbel kr hTe hII hs bE
          go_wp2
          clear c0
          go_loopw [14, 15, 16, 17, 18] (fun o v _ _ _ wr => ∃ (V hi : Nat), V ≤ SN ∧ v = .int .i64 V ∧ BarsO wr wE.heap.size hi o (spTo f s V) ∧ hi ≤ wr.heap.size ∧ Below wE.heap.size wE wr) (fun _ v _ _ _ _ => SN - (intOf v).toNat)
          case atStart => exact ⟨0, _, Nat.zero_le _, rfl, HO8.out, Nat.le_refl _, HB8.out⟩
          case round =>
            obtain ⟨V, hi, hV, rfl, hbar, hhi, hbel⟩ := hrel
            have kr := HKE.out.below hbel HKE.out.lt
            have c0 := kr.cell' (i := 0) rfl
            by_cases hVS : V < SN
            · have hdV : decide ((V : Int) < f.stages) = true := decide_eq_true (by rw [HSN.out]; omega)
              rw [show spTo f s V = spTo f s V ++ spRow f s V (V - V) by simp [spRow]] at hbar
              have HBR := Lib.hid hbar
              have HBB := Lib.hid hbel
              have HHI := Lib.hid hhi
              obtain ⟨wF, hwF⟩ : ∃ z, z = wr := ⟨_, rfl⟩
              subst hwF
              clear hbar hbel kr
              go_wp2
              clear c0
              go_loopw [14, 16, 17, 18] (fun o v _ _ wr => ∃ (D hi : Nat), V ≤ D ∧ D ≤ SN ∧ v = .int .i64 D ∧ BarsO wr wE.heap.size hi o (spTo f s V ++ spRow f s V (D - V)) ∧ hi ≤ wr.heap.size ∧ Below wE.heap.size wE wr) (fun _ v _ _ _ => SN - (intOf v).toNat)
              case atStart => exact ⟨V, hi, Nat.le_refl _, hV, rfl, HBR.out, HHI.out, HBB.out⟩
              case round =>
                obtain ⟨D, hi2, hVD, hD, rfl, hbar, hhi2, hbel⟩ := hrel
                have hws2 := hbel.size
                have kr := HKE.out.below hbel HKE.out.lt
                have c0 := kr.cell' (i := 0) rfl
                have c1 := kr.cell' (i := 1) rfl
                by_cases hDS : D < SN
                · have hdD : decide ((D : Int) < f.stages) = true := decide_eq_true (by rw [HSN.out]; omega)
                  have HLR := Lib.hid (HLE.out.below hbel)
                  have HFBr := Lib.hid (SlI.below hbel (SlI.more (show w1.heap.size ≤ wE.heap.size by have := HBE.out.size; omega) (SlI.below HBE.out HFB1.out)))
                  have hlen : (spTo f s V ++ spRow f s V (D - V)).length ≤ 100 := by
                    have h1 := spTo_len f s (by rw [HSP.out]; omega) V
                    have h2 := spRow_len f s V (D - V)
                    rw [List.length_append]; omega
                  have HBR := Lib.hid hbar
                  have HBB := Lib.hid hbel
                  have HHI2 := Lib.hid hhi2
                  have hrs := spRow_step f s V (D - V)
                  rw [show V + (D - V) = D by omega, show D - V + 1 = D + 1 - V by omega] at hrs
                  have HRS := Lib.hid hrs
                  obtain ⟨OB, ob, eOB, _, _⟩ := hbar.form
                  subst eOB
                  obtain ⟨PR, hPR⟩ : ∃ PR, spTo f s V ++ spRow f s V (D - V) = PR := ⟨_, rfl⟩
                  rw [hPR] at HBR hlen ⊢
                  have HPR := Lib.hid hPR
                  obtain ⟨wG, hwG⟩ : ∃ z, z = wr := ⟨_, rfl⟩
                  subst hwG
                  clear hbar hbel kr hrs hPR
                  go_wp2
                  go_loopw [17, 18] (fun cc i wr => ∃ q : Nat, q ≤ f.birth.length ∧ i = .int .i64 q ∧ cc = .int .i64 (cntTo f s V D q) ∧ wr = wG) (fun _ i _ => f.birth.length - (intOf i).toNat)
                  case atStart => exact ⟨0, Nat.zero_le _, rfl, rfl, rfl⟩
                  case round =>
                    obtain ⟨q, hq, rfl, rfl, hwr⟩ := hrel
                    replace hwr := hwr.symm
                    subst hwr
                    have hcr := cntTo_rng f s V D q
                    have hcr1 := hcr.1
                    have hcr2 := hcr.2
                    have hY := cntTo_yes (f := f) (s := s) (v := V) (w := D) (k := q)
                    have hN := cntTo_no (f := f) (s := s) (v := V) (w := D) (k := q)
                    have hSP : cntTo f s V D f.birth.length = spCnt f s V D := rfl
                    have HSPC := Lib.hid hSP
                    obtain ⟨cn, hcn⟩ : ∃ cn, cntTo f s V D q = cn := ⟨_, rfl⟩
                    rw [hcn] at hcr1 hcr2 hY hN ⊢
                    have HCN := Lib.hid hcn
                    clear hcr hSP hcn
                    by_cases hql : q < f.birth.length
                    · obtain ⟨ba, oa, yq, rfl, hba, HYQ, zq, _⟩ := SlI.at_ HFBr.out hql
                      have eyq : vx f.birth q = yq := by rw [vx, List.getD_eq_getElem?_getD, HYQ.out]; rfl
                      obtain ⟨cl0, _⟩ := HLR.out.cellG (j := q) (by rw [HLL.out]; exact hql)
                      have cl1 : wG.cell? ⟨gl, q, none⟩ = some (.int .i64 (vx s.last q)) := cl0
                      rw [eyq] at hY hN
                      obtain ⟨lq, hlq⟩ : ∃ lq, vx s.last q = lq := ⟨_, rfl⟩
                      rw [hlq] at cl1 hY hN
                      clear cl0 eyq hlq HYQ
                      by_cases h1 : yq = (V : Int)
                      · have hb1 : (yq == (V : Int)) = true := by rw [h1]; simp
                        by_cases h2 : lq = (D : Int)
                        · have hb2 : (lq == (D : Int)) = true := by rw [h2]; simp
                          have HY := Lib.hid (hY h1 h2)
                          clear hY hN h1 h2
                          go_wp2
                          go_roundw
                          case rel => exact ⟨q + 1, by omega, by go_num, by rw [HY.out], by first | exact rfl | trivial⟩
                          case measure => simp [intOf]; omega
                        · have hb2 : (lq == (D : Int)) = false := beq_eq_false_iff_ne.2 h2
                          have HN := Lib.hid (hN (fun h => h2 h.2))
                          clear hY hN h1 h2
                          go_wp2
                          go_roundw
                          case rel => exact ⟨q + 1, by omega, by go_num, by rw [HN.out], by first | exact rfl | trivial⟩
                          case measure => simp [intOf]; omega
                      · have hb1 : (yq == (V : Int)) = false := beq_eq_false_iff_ne.2 h1
                        have HN := Lib.hid (hN (fun h => h1 h.1))
                        clear hY hN h1
                        go_wp2
                        go_roundw
                        case rel => exact ⟨q + 1, by omega, by go_num, by rw [HN.out], by first | exact rfl | trivial⟩
                        case measure => simp [intOf]; omega
                    · have hqn : q = f.birth.length := by omega
                      have HCE := Lib.hid (show spCnt f s V D = cn by rw [← HSPC.out, ← HCN.out, hqn])
                      clear hY hN hqn
                      by_cases hc0 : 0 < cn
                      · have hdc : decide (0 < cn) = true := decide_eq_true hc0
                        have HEL := Lib.hid (show spTo f s V ++ spRow f s V (D + 1 - V) = PR ++ [((V : Int), (D : Int), cn)] by
                          rw [HRS.out, ← List.append_assoc, HPR.out, spEl, HCE.out, if_pos hc0])
                        have bz := below_alloc wG (.cells #[.int .i64 (V : Int), .int .i64 (D : Int), .int .i64 cn] 70)
                        have HBZ := Lib.hid (HBR.out.below bz)
                        have HKZ := Lib.hid (Blk.new wG 70 #[.int .i64 (V : Int), .int .i64 (D : Int), .int .i64 cn])
                        have HZB := Lib.hid (HBB.out.trans (bz.mono hws2))
                        have hzs := bz.size
                        clear bz
                        (go_wp2_with (at_builtin; refine Hold.stop ?_)); unfold Hold
                        refine wpList_appB rfl (.tmp 178) (.tmp 183) rfl wE.heap.size hi2 (.slice OB PR.length ob) PR rfl HBZ.out wG.heap.size 1 ((V : Int), (D : Int), cn) rfl HKZ.out ⟨⟨by simp only; omega, by simp only; omega⟩, ⟨by simp only; omega, by simp only; omega⟩, ⟨by simp only; omega, by simp only; omega⟩⟩ (by omega) (by simp; omega) ?_
                        intro v9 w9 ho9 hb9 hg9
                        have HO9 := Lib.hid ho9
                        have HB9 := Lib.hid (HZB.out.trans hb9)
                        clear ho9 hb9 hg9
                        go_wp2
                        go_roundw
                        case rel => exact ⟨D + 1, w9.heap.size, by omega, by omega, by go_num, by rw [HEL.out]; exact HO9.out, Nat.le_refl _, HB9.out⟩
                        case measure => simp [intOf]; omega
                      · have hdc : decide (0 < cn) = false := decide_eq_false hc0
                        have HEL := Lib.hid (show spTo f s V ++ spRow f s V (D + 1 - V) = PR by
                          rw [HRS.out, ← List.append_assoc, HPR.out, spEl, HCE.out, if_neg hc0, List.append_nil])
                        go_wp2
                        go_roundw
                        case rel => exact ⟨D + 1, hi2, by omega, by omega, by go_num, by rw [HEL.out]; exact HBR.out, HHI2.out, HBB.out⟩
                        case measure => simp [intOf]; omega
                · have hdD : decide ((D : Int) < f.stages) = false := decide_eq_false (by rw [HSN.out]; omega)
                  have hst := spTo_step f s V
                  rw [HSP.out, show SN = D by omega] at hst
                  have HST := Lib.hid hst
                  have HBR := Lib.hid hbar
                  have HBB := Lib.hid hbel
                  clear hbar hbel kr hst
                  go_wp2
                  go_roundw
                  case rel => exact ⟨V + 1, hi2, by omega, by go_num, by rw [HST.out]; exact HBR.out, hhi2, HBB.out⟩
                  case measure => simp [intOf]; omega
            · have hdV : decide ((V : Int) < f.stages) = false := decide_eq_false (by rw [HSN.out]; omega)
              have HEN := Lib.hid (show spTo f s V = spBars f s by rw [spBars, HSP.out, show V = SN by omega])
              have HBR := Lib.hid hbar
              have HBB := Lib.hid hbel
              clear hbar hbel kr
              go_wp2
              go_ret2
              have hg1 := G1.out.size
              have hbe := HBE.out.size
              exact ⟨_, by rw [HE.out]; rfl, by rw [HE.out]; rw [← HEN.out]; exact HBR.out.wider (by omega) hhi, G1.out.trans ((HBE.out.trans (HBB.out.mono hbe)).mono hg1)⟩
end Go.Proofs.YtgabmemalaklbaaGreat
