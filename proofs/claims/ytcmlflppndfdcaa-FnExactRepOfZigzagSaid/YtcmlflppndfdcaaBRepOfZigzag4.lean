/- FnExactRepOfZigzag: for every argument the program's function returns what the reference's returns. Part 4 of 12 of the proof: AreB, LineOf, Pencil, MkI, DsF, BarsM, KitR2, Seat. No condition. -/
import Derived.Test.YtcmlflppndfdcaaBRepOfZigzag3
/- AreBars: the program's and the reference's. -/
namespace Go.Proofs.Ytcmlflppndfdcaa
set_option linter.unusedVariables false
set_option linter.unusedSimpArgs false
open Go.RowKit

def barAt (v : Int) (l : List Bar) (j : Nat) : Bool :=
  inR (l.getD j (0, 0, 0)).1 0 (v - 1) && (inR (l.getD j (0, 0, 0)).2.1 (l.getD j (0, 0, 0)).1 (v - 1) && (inR (l.getD j (0, 0, 0)).2.2 1 8 && (decide (j = 0) || decide (cmpB (l.getD (j - 1) (0, 0, 0)) (l.getD j (0, 0, 0)) < 0))))
def areB (q : Qv) (l : List Bar) : Bool := isL q && (List.range l.length).all (barAt q.v l)
def barsTo (v : Int) (l : List Bar) (k : Nat) : Prop := ∀ j, j < k → barAt v l j = true
theorem areB_noL {q : Qv} (l : List Bar) (h : isL q = false) : areB q l = false := by simp [areB, h]
theorem areB_bad {q : Qv} {l : List Bar} {k : Nat} (hk : k < l.length) (h : barAt q.v l k = false) : areB q l = false := by
  have : (List.range l.length).all (barAt q.v l) = false := by
    rw [List.all_eq_false]
    exact ⟨k, by simp [hk], by simp [h]⟩
  simp [areB, this]
theorem areB_yes {q : Qv} {l : List Bar} (h : isL q = true) (hb : barsTo q.v l l.length) : areB q l = true := by
  simp only [areB, h, Bool.true_and, List.all_eq_true, List.mem_range]
  exact hb
theorem barsTo_succ {v : Int} {l : List Bar} {k : Nat} (h : barsTo v l k) (hb : barAt v l k = true) : barsTo v l (k + 1) := fun j hj => by
  by_cases e : j = k
  · subst e; exact hb
  · exact h j (by omega)
theorem barAt_of {v : Int} {l : List Bar} {k : Nat} {x y z : Int} (h : l[k]? = some (x, y, z)) :
    barAt v l k = (inR x 0 (v - 1) && (inR y x (v - 1) && (inR z 1 8 && (decide (k = 0) || decide (cmpB (l.getD (k - 1) (0, 0, 0)) (x, y, z) < 0))))) := by
  have e : l.getD k (0, 0, 0) = (x, y, z) := by rw [List.getD_eq_getElem?_getD, h]; rfl
  simp only [barAt, e]

set_option maxHeartbeats 3200000 in
set_option maxRecDepth 100000 in
theorem implAreBars_any (u : Value) (q : Qv) (v : Value) (l : List Bar) (w0 : World) (hu : QvR w0 w0.heap.size u q) (hv : SlB w0 w0.heap.size v l) :
    Calls Try.prog 55 #[u, v] w0 fun e w' => e = .returned (.bool (areB q l)) ∧ Below w0.heap.size w0 w' := by
  have hu' := hu
  obtain ⟨A, c, C, c', rfl, hf, ht, hr, lf, lt⟩ := hu.open_
  obtain ⟨D, d, rfl, _, _, hn, hx⟩ := hv.open_
  clear hu hf ht hv
  obtain ⟨W, hW⟩ : ∃ W, W = w0.alloc (.cells #[.int .i64 q.v, .slice A q.f.length c, .slice C q.t.length c'] 28) := ⟨_, rfl⟩
  have g0 : Below w0.heap.size w0 W := by rw [hW]; exact below_alloc _ _
  have kq : Blk W w0.heap.size 28 #[.int .i64 q.v, .slice A q.f.length c, .slice C q.t.length c'] := by rw [hW]; exact Blk.new _ _ _
  have hq := QvR.next g0 hu'
  have c0 := kq.cell' (i := 0) rfl
  have c1 := kq.cell' (i := 1) rfl
  have c2 := kq.cell' (i := 2) rfl
  clear hu'
  rcases hL : isL q with _ | _
  · rw [areB_noL l hL]
    have HL := Lib.hid hL
    clear hL
    go_enter Try.func55, Try.ntmps55
    go_wp2_with fail
    rw [← hW]; clear hW
    refine (implIsLine_any _ _ _ hq).mono ?_; rintro e w1 ⟨rfl, hb1⟩
    rw [HL.out]
    go_wp2
    go_ret
    exact ⟨rfl, bthen g0 hb1⟩
  · have hv1 := (isQ_t.1 (by have := isL_noZ (q := q); rcases hz : isZ q with _ | _; exact absurd (this hz) (by simp [hL]); exact (isZ_t hz).1)).1
    have HL := Lib.hid hL
    clear hL
    go_enter Try.func55, Try.ntmps55
    go_wp2_with fail
    rw [← hW]; clear hW
    refine (implIsLine_any _ _ _ hq).mono ?_; rintro e w1 ⟨rfl, hb1⟩
    rw [HL.out]
    have kq1 := kq.call hb1
    have g1 := bthen g0 hb1
    have s1 := g1.size
    clear c0 c1 c2 kq hb1 g0 hq
    go_wp2
    go_loopw [12] (fun i wr => ∃ k : Nat, k ≤ l.length ∧ i = .int .i64 k ∧ Below w1.heap.size w1 wr ∧ Hid (barsTo q.v l k)) (fun i _ => l.length - (intOf i).toNat)
    case atStart => exact ⟨0, Nat.zero_le _, rfl, Below.refl _ _, fun j h => absurd h (by omega)⟩
    case round =>
      obtain ⟨k, hk, rfl, hbel, hto⟩ := hrel
      have gw := bthen g1 hbel
      have ws := hbel.size
      by_cases hlt : k < l.length
      · obtain ⟨b, o, x, y, z, rfl, hb, HX, y1, y2, y3, rx, ry, rz⟩ := SlB.at_ hx hlt
        have HBA := Lib.hid (barAt_of (v := q.v) HX.out)
        obtain ⟨X, hX⟩ : ∃ X, X = wr.alloc (.cells #[.int .i64 x, .int .i64 y, .int .i64 z] 67) := ⟨_, rfl⟩
        have gX : Below wr.heap.size wr X := by rw [hX]; exact below_alloc _ _
        have kX : Blk X wr.heap.size 67 #[.int .i64 x, .int .i64 y, .int .i64 z] := by rw [hX]; exact Blk.new _ _ _
        have kqX := (kq1.call hbel).call gX
        have z1 := bcell gw hb y1
        have z2 := bcell gw hb y2
        have z3 := bcell gw hb y3
        have e0 := fun s : InB X => (kX.call s.below).cell' (i := 0) rfl
        have e1 := fun s : InB X => (kX.call s.below).cell' (i := 1) rfl
        have e2 := fun s : InB X => (kX.call s.below).cell' (i := 2) rfl
        have q0 := fun s : InB X => (kqX.call s.below).cell' (i := 0) rfl
        have hGX := Lib.hid (bthen hbel gX)
        have sX := gX.size
        have gwX := bthen gw gX
        rcases h1 : inR x 0 (q.v - 1) with _ | _
        · have HF := Lib.hid (areB_bad (q := q) hlt (by rw [HBA.out, h1]; rfl))
          clear y1 y2 y3 kX kqX gw gX
          go_wp2
          rw [← hX]; clear hX z1 z2 z3
          (refine wp_region_inB (by kernel_rfl) (by kernel_rfl) ?_; (repeat (go_big_quiet_step ((go_at_call 98; exact InB.call_same (within_any _ _ _ _))))); refine wpQuiet_nil ?_; intro w1 hw'; obtain ⟨s1, hw1⟩ := hw'; have hb1 := s1.below; rw [← hw1] at hb1; clear hw1 s1)
          go_wp2
          go_ret
          exact ⟨by rw [HF.out]; rfl, gwX.trans (hb1.mono gwX.size)⟩
        rcases h2 : inR y x (q.v - 1) with _ | _
        · have HF := Lib.hid (areB_bad (q := q) hlt (by rw [HBA.out, h1, h2]; rfl))
          clear y1 y2 y3 kX kqX gw gX
          go_wp2
          rw [← hX]; clear hX z1 z2 z3
          (refine wp_region_inB (by kernel_rfl) (by kernel_rfl) ?_; (repeat (go_big_quiet_step ((go_at_call 98; exact InB.call_same (within_any _ _ _ _))))); refine wpQuiet_nil ?_; intro w1 hw'; obtain ⟨s1, hw1⟩ := hw'; have hb1 := s1.below; rw [← hw1] at hb1; clear hw1 s1)
          go_wp2
          go_ret
          exact ⟨by rw [HF.out]; rfl, gwX.trans (hb1.mono gwX.size)⟩
        rcases h3 : inR z 1 8 with _ | _
        · have HF := Lib.hid (areB_bad (q := q) hlt (by rw [HBA.out, h1, h2, h3]; rfl))
          clear y1 y2 y3 kX kqX gw gX
          go_wp2
          rw [← hX]; clear hX z1 z2 z3
          (refine wp_region_inB (by kernel_rfl) (by kernel_rfl) ?_; (repeat (go_big_quiet_step ((go_at_call 98; exact InB.call_same (within_any _ _ _ _))))); refine wpQuiet_nil ?_; intro w1 hw'; obtain ⟨s1, hw1⟩ := hw'; have hb1 := s1.below; rw [← hw1] at hb1; clear hw1 s1)
          go_wp2
          go_ret
          exact ⟨by rw [HF.out]; rfl, gwX.trans (hb1.mono gwX.size)⟩
        rcases Nat.eq_zero_or_pos k with rfl | hk0
        · have HT : Hid (barAt q.v l 0 = true) := by show _ = _; rw [HBA.out, h1, h2, h3]; rfl
          simp only [Nat.zero_mul, Nat.add_zero] at z1 z2 z3
          clear y1 y2 y3 kX kqX gw gX
          go_wp2
          rw [← hX]; clear hX z1 z2 z3
          (refine wp_region_inB (by kernel_rfl) (by kernel_rfl) ?_; (repeat (go_big_quiet_step ((go_at_call 98; exact InB.call_same (within_any _ _ _ _))))); refine wpQuiet_nil ?_; intro w1 hw'; obtain ⟨s1, hw1⟩ := hw'; have hb1 := s1.below; rw [← hw1] at hb1; clear hw1 s1)
          go_wp2
          go_roundw
          case rel => exact ⟨1, by omega, by go_num, hGX.out.trans (hb1.mono hGX.out.size), barsTo_succ hto.out HT.out⟩
          case measure => simp [intOf]; omega
        · obtain ⟨j, rfl⟩ : ∃ j, k = j + 1 := ⟨k - 1, by omega⟩
          obtain ⟨b', o', x', y', z', eb, _, HX', y1', y2', y3', _⟩ := SlB.at_ (k := j) hx (by omega)
          injection eb with eb
          injection eb with eb1 eb2
          subst eb1 eb2
          have hgj : l.getD j (0, 0, 0) = (x', y', z') := by rw [List.getD_eq_getElem?_getD, HX'.out]; rfl
          have HC : Hid (∀ X, Calls Try.prog 100 #[.agg #[.int .i64 x', .int .i64 y', .int .i64 z'], .agg #[.int .i64 x, .int .i64 y, .int .i64 z]] X fun e w' => e = .returned (.int .i64 (cmpB (x', y', z') (x, y, z))) ∧ Below X.heap.size X w') := fun X => compareBars_any x' y' z' x y z X
          have hcr := cmpB_r (x', y', z') (x, y, z)
          have hba := HBA.out
          rw [Nat.add_sub_cancel, hgj, h1, h2, h3] at hba
          obtain ⟨cv, hcv⟩ : ∃ cv, cmpB (x', y', z') (x, y, z) = cv := ⟨_, rfl⟩
          rw [hcv] at hba hcr HC
          have p1 := InB.cell (w := X) (by omega) (bcell gwX hb y1')
          have p2 := InB.cell (w := X) (by omega) (bcell gwX hb y2')
          have p3 := InB.cell (w := X) (by omega) (bcell gwX hb y3')
          have hw1 : IntKind.i64.wrap ((j : Int) + 1 - 1) = (j : Int) := by rw [show (j : Int) + 1 - 1 = j by omega]; exact IntWalk.i64_in _ (by omega)
          by_cases h5 : cv < 0
          · have HT : Hid (barAt q.v l (j + 1) = true) := by show _ = _; rw [hba]; simp [h5]
            have hd5 : decide (0 ≤ cv) = false := decide_eq_false (by omega)
            clear y1 y2 y3 kX kqX gw gX y1' y2' y3' hba hcv hgj hx
            go_wp2
            rw [← hX]; clear hX z1 z2 z3
            (refine wp_region_inB (by kernel_rfl) (by kernel_rfl) ?_; (repeat (go_big_quiet_step (first | (go_at_call 98; exact InB.call_same (within_any _ _ _ _)) | (go_at_call 100; exact InB.call (HC.out _))))); refine wpQuiet_nil ?_; intro w1 hw'; obtain ⟨s1, hw1⟩ := hw'; have hb1 := s1.below; rw [← hw1] at hb1; clear hw1 s1)
            go_wp2
            go_roundw
            case rel => exact ⟨j + 1 + 1, by omega, by go_num, hGX.out.trans (hb1.mono hGX.out.size), barsTo_succ hto.out HT.out⟩
            case measure => simp [intOf]; omega
          · have HF := Lib.hid (areB_bad (q := q) hlt (by rw [hba]; simp [h5]))
            have hd5 : decide (0 ≤ cv) = true := decide_eq_true (by omega)
            clear y1 y2 y3 kX kqX gw gX y1' y2' y3' hba hcv hgj hx
            go_wp2
            rw [← hX]; clear hX z1 z2 z3
            (refine wp_region_inB (by kernel_rfl) (by kernel_rfl) ?_; (repeat (go_big_quiet_step (first | (go_at_call 98; exact InB.call_same (within_any _ _ _ _)) | (go_at_call 100; exact InB.call (HC.out _))))); refine wpQuiet_nil ?_; intro w1 hw'; obtain ⟨s1, hw1⟩ := hw'; have hb1 := s1.below; rw [← hw1] at hb1; clear hw1 s1)
            go_wp2
            go_ret
            exact ⟨by rw [HF.out]; rfl, gwX.trans (hb1.mono gwX.size)⟩
      · have HT := Lib.hid (areB_yes HL.out (l := l) (by have := hto.out; rwa [show k = l.length by omega] at this))
        go_wp2
        go_ret
        exact ⟨by rw [HT.out]; rfl, gw⟩
set_option maxHeartbeats 3200000 in
set_option maxRecDepth 100000 in
theorem specAreBars_any (u : Value) (q : Qv) (v : Value) (l : List Bar) (w0 : World) (hu : QvR w0 w0.heap.size u q) (hv : SlB w0 w0.heap.size v l) :
    Calls Try.prog 34 #[u, v] w0 fun e w' => e = .returned (.bool (areB q l)) ∧ Below w0.heap.size w0 w' := by
  have hu' := hu
  obtain ⟨A, c, C, c', rfl, hf, ht, hr, lf, lt⟩ := hu.open_
  obtain ⟨D, d, rfl, _, _, hn, hx⟩ := hv.open_
  clear hu hf ht hv
  obtain ⟨W, hW⟩ : ∃ W, W = w0.alloc (.cells #[.int .i64 q.v, .slice A q.f.length c, .slice C q.t.length c'] 28) := ⟨_, rfl⟩
  have g0 : Below w0.heap.size w0 W := by rw [hW]; exact below_alloc _ _
  have kq : Blk W w0.heap.size 28 #[.int .i64 q.v, .slice A q.f.length c, .slice C q.t.length c'] := by rw [hW]; exact Blk.new _ _ _
  have hq := QvR.next g0 hu'
  have c0 := kq.cell' (i := 0) rfl
  have c1 := kq.cell' (i := 1) rfl
  have c2 := kq.cell' (i := 2) rfl
  clear hu'
  rcases hL : isL q with _ | _
  · rw [areB_noL l hL]
    have HL := Lib.hid hL
    clear hL
    go_enter Try.func34, Try.ntmps34
    go_wp2_with fail
    rw [← hW]; clear hW
    refine (specIsLine_any _ _ _ hq).mono ?_; rintro e w1 ⟨rfl, hb1⟩
    rw [HL.out]
    go_wp2
    go_ret
    exact ⟨rfl, bthen g0 hb1⟩
  · have hv1 := (isQ_t.1 (by have := isL_noZ (q := q); rcases hz : isZ q with _ | _; exact absurd (this hz) (by simp [hL]); exact (isZ_t hz).1)).1
    have HL := Lib.hid hL
    clear hL
    go_enter Try.func34, Try.ntmps34
    go_wp2_with fail
    rw [← hW]; clear hW
    refine (specIsLine_any _ _ _ hq).mono ?_; rintro e w1 ⟨rfl, hb1⟩
    rw [HL.out]
    have kq1 := kq.call hb1
    have g1 := bthen g0 hb1
    have s1 := g1.size
    clear c0 c1 c2 kq hb1 g0 hq
    go_wp2
    go_loopw [5] (fun i wr => ∃ k : Nat, k ≤ l.length ∧ i = .int .i64 k ∧ Below w1.heap.size w1 wr ∧ Hid (barsTo q.v l k)) (fun i _ => l.length - (intOf i).toNat)
    case atStart => exact ⟨0, Nat.zero_le _, rfl, Below.refl _ _, fun j h => absurd h (by omega)⟩
    case round =>
      obtain ⟨k, hk, rfl, hbel, hto⟩ := hrel
      have gw := bthen g1 hbel
      have ws := hbel.size
      by_cases hlt : k < l.length
      · obtain ⟨b, o, x, y, z, rfl, hb, HX, y1, y2, y3, rx, ry, rz⟩ := SlB.at_ hx hlt
        have HBA := Lib.hid (barAt_of (v := q.v) HX.out)
        have kqX := kq1.call hbel
        have z1 := InB.cell (w := wr) (by omega) (bcell gw hb y1)
        have z2 := InB.cell (w := wr) (by omega) (bcell gw hb y2)
        have z3 := InB.cell (w := wr) (by omega) (bcell gw hb y3)
        have q0 := fun s : InB wr => (kqX.call s.below).cell' (i := 0) rfl
        have hbl := Lib.hid hbel
        clear y1 y2 y3 kqX
        rcases h1 : inR x 0 (q.v - 1) with _ | _
        · have HF := Lib.hid (areB_bad (q := q) hlt (by rw [HBA.out, h1]; rfl))
          go_wp2
          (refine wp_region_inB (by kernel_rfl) (by kernel_rfl) ?_; (repeat (go_big_quiet_step ((go_at_call 90; exact InB.call_same (l1In_any _ _ _ _))))); refine wpQuiet_nil ?_; intro w1 hw'; obtain ⟨s1, hw1⟩ := hw'; have hb1 := s1.below; rw [← hw1] at hb1; clear hw1 s1)
          go_wp2
          go_ret
          exact ⟨by rw [HF.out]; rfl, gw.trans (hb1.mono gw.size)⟩
        rcases h2 : inR y x (q.v - 1) with _ | _
        · have HF := Lib.hid (areB_bad (q := q) hlt (by rw [HBA.out, h1, h2]; rfl))
          go_wp2
          (refine wp_region_inB (by kernel_rfl) (by kernel_rfl) ?_; (repeat (go_big_quiet_step ((go_at_call 90; exact InB.call_same (l1In_any _ _ _ _))))); refine wpQuiet_nil ?_; intro w1 hw'; obtain ⟨s1, hw1⟩ := hw'; have hb1 := s1.below; rw [← hw1] at hb1; clear hw1 s1)
          go_wp2
          go_ret
          exact ⟨by rw [HF.out]; rfl, gw.trans (hb1.mono gw.size)⟩
        rcases h3 : inR z 1 8 with _ | _
        · have HF := Lib.hid (areB_bad (q := q) hlt (by rw [HBA.out, h1, h2, h3]; rfl))
          go_wp2
          (refine wp_region_inB (by kernel_rfl) (by kernel_rfl) ?_; (repeat (go_big_quiet_step ((go_at_call 90; exact InB.call_same (l1In_any _ _ _ _))))); refine wpQuiet_nil ?_; intro w1 hw'; obtain ⟨s1, hw1⟩ := hw'; have hb1 := s1.below; rw [← hw1] at hb1; clear hw1 s1)
          go_wp2
          go_ret
          exact ⟨by rw [HF.out]; rfl, gw.trans (hb1.mono gw.size)⟩
        rcases Nat.eq_zero_or_pos k with rfl | hk0
        · have HT : Hid (barAt q.v l 0 = true) := by show _ = _; rw [HBA.out, h1, h2, h3]; rfl
          simp only [Nat.zero_mul, Nat.add_zero] at z1 z2 z3
          go_wp2
          (refine wp_region_inB (by kernel_rfl) (by kernel_rfl) ?_; (repeat (go_big_quiet_step ((go_at_call 90; exact InB.call_same (l1In_any _ _ _ _))))); refine wpQuiet_nil ?_; intro w1 hw'; obtain ⟨s1, hw1⟩ := hw'; have hb1 := s1.below; rw [← hw1] at hb1; clear hw1 s1)
          obtain ⟨wa, hwa⟩ : ∃ u, u = w1 := ⟨_, rfl⟩
          subst hwa
          have hb2 := hb1
          have g2 := gw.trans (hb1.mono gw.size)
          have B2 := Lib.hid (hbl.out.trans (hb1.mono ws))
          clear hb1
          clear z1 z2 z3
          go_wp2
          (refine wp_region_inB (by kernel_rfl) (by kernel_rfl) ?_; (repeat (go_big_quiet_step (fail))); refine wpQuiet_nil ?_; intro w1 hw'; obtain ⟨s1, hw1⟩ := hw'; have hb1 := s1.below; rw [← hw1] at hb1; clear hw1 s1)
          go_wp2
          go_roundw
          case rel => exact ⟨1, by omega, by go_num, B2.out.trans (hb1.mono B2.out.size), barsTo_succ hto.out HT.out⟩
          case measure => simp [intOf]; omega
        · obtain ⟨j, rfl⟩ : ∃ j, k = j + 1 := ⟨k - 1, by omega⟩
          obtain ⟨b', o', x', y', z', eb, _, HX', y1', y2', y3', _⟩ := SlB.at_ (k := j) hx (by omega)
          injection eb with eb
          injection eb with eb1 eb2
          subst eb1 eb2
          have hgj : l.getD j (0, 0, 0) = (x', y', z') := by rw [List.getD_eq_getElem?_getD, HX'.out]; rfl
          have hba := HBA.out
          rw [Nat.add_sub_cancel, hgj, h1, h2, h3] at hba
          have hcn := cmpB_neg (x := (x', y', z')) (y := (x, y, z))
          simp only at hcn
          have HBB := Lib.hid hba
          have HCN := Lib.hid hcn
          have p1 := bcell gw hb y1'
          have p2 := bcell gw hb y2'
          have hx2 := hx
          clear hba hgj hcn y1' y2' y3' hx
          go_wp2
          (refine wp_region_inB (by kernel_rfl) (by kernel_rfl) ?_; (repeat (go_big_quiet_step ((go_at_call 90; exact InB.call_same (l1In_any _ _ _ _))))); refine wpQuiet_nil ?_; intro w1 hw'; obtain ⟨s1, hw1⟩ := hw'; have hb1 := s1.below; rw [← hw1] at hb1; clear hw1 s1)
          obtain ⟨wa, hwa⟩ : ∃ u, u = w1 := ⟨_, rfl⟩
          subst hwa
          have hb2 := hb1
          have g2 := gw.trans (hb1.mono gw.size)
          have B2 := Lib.hid (hbl.out.trans (hb1.mono ws))
          clear hb1
          have v1 : ∀ s : InB wa, s.val.cell? ⟨b, o + (j + 1) * 3, none⟩ = some (.int .i64 x) := fun s => z1 ⟨s.val, hb2.trans (s.below.mono hb2.size)⟩
          have v2 : ∀ s : InB wa, s.val.cell? ⟨b, o + (j + 1) * 3 + 1, none⟩ = some (.int .i64 y) := fun s => z2 ⟨s.val, hb2.trans (s.below.mono hb2.size)⟩
          have sa := hb2.size
          have r1 := InB.cell (w := wa) (by omega) (bcell hb2 (by omega) p1)
          have r2 := InB.cell (w := wa) (by omega) (bcell hb2 (by omega) p2)
          have hw1 : IntKind.i64.wrap ((j : Int) + 1 - 1) = (j : Int) := by rw [show (j : Int) + 1 - 1 = j by omega]; exact IntWalk.i64_in _ (by omega)
          clear z1 z2 z3 p1 p2
          rcases Int.lt_trichotomy x x' with hxx | hxx | hxx
          · have HF := Lib.hid (areB_bad (q := q) hlt (by rw [HBB.out]; simp only [Bool.true_and, Bool.or_eq_false_iff, decide_eq_false_iff_not, HCN.out]; omega))
            go_wp2
            (refine wp_region_inB (by kernel_rfl) (by kernel_rfl) ?_; (repeat (go_big_quiet_step (fail))); refine wpQuiet_nil ?_; intro w1 hw'; obtain ⟨s1, hw1⟩ := hw'; have hb1 := s1.below; rw [← hw1] at hb1; clear hw1 s1)
            go_wp2
            go_ret
            exact ⟨by rw [HF.out]; rfl, g2.trans (hb1.mono g2.size)⟩
          · subst hxx
            have hxn : ¬ x < x := by omega
            by_cases hyy : y ≤ y'
            · have HF := Lib.hid (areB_bad (q := q) hlt (by rw [HBB.out]; simp only [Bool.true_and, Bool.or_eq_false_iff, decide_eq_false_iff_not, HCN.out]; omega))
              go_wp2
              (refine wp_region_inB (by kernel_rfl) (by kernel_rfl) ?_; (repeat (go_big_quiet_step (fail))); refine wpQuiet_nil ?_; intro w1 hw'; obtain ⟨s1, hw1⟩ := hw'; have hb1 := s1.below; rw [← hw1] at hb1; clear hw1 s1)
              go_wp2
              go_ret
              exact ⟨by rw [HF.out]; rfl, g2.trans (hb1.mono g2.size)⟩
            · have HT : Hid (barAt q.v l (j + 1) = true) := by
                have hc := HCN.out.2 (.inr ⟨rfl, by omega⟩)
                show _ = _; rw [HBB.out]; simp [hc]
              go_wp2
              (refine wp_region_inB (by kernel_rfl) (by kernel_rfl) ?_; (repeat (go_big_quiet_step (fail))); refine wpQuiet_nil ?_; intro w1 hw'; obtain ⟨s1, hw1⟩ := hw'; have hb1 := s1.below; rw [← hw1] at hb1; clear hw1 s1)
              go_wp2
              go_roundw
              case rel => exact ⟨j + 1 + 1, by omega, by go_num, B2.out.trans (hb1.mono B2.out.size), barsTo_succ hto.out HT.out⟩
              case measure => simp [intOf]; omega
          · have hxn : ¬ x < x' := by omega
            have hxe : (x == x') = false := by simp; omega
            have hxd : decide (x = x') = false := by simp; omega
            have hxl : decide (x < x') = false := by simp; omega
            have HT : Hid (barAt q.v l (j + 1) = true) := by
              have hc := HCN.out.2 (.inl hxx)
              show _ = _; rw [HBB.out]; simp [hc]
            go_wp2
            (refine wp_region_inB (by kernel_rfl) (by kernel_rfl) ?_; (repeat (go_big_quiet_step (fail))); refine wpQuiet_nil ?_; intro w1 hw'; obtain ⟨s1, hw1⟩ := hw'; have hb1 := s1.below; rw [← hw1] at hb1; clear hw1 s1)
            go_wp2
            go_roundw
            case rel => exact ⟨j + 1 + 1, by omega, by go_num, B2.out.trans (hb1.mono B2.out.size), barsTo_succ hto.out HT.out⟩
            case measure => simp [intOf]; omega
      · have HT := Lib.hid (areB_yes HL.out (l := l) (by have := hto.out; rwa [show k = l.length by omega] at this))
        go_wp2
        go_ret
        exact ⟨by rw [HT.out]; rfl, gw⟩
end Go.Proofs.Ytcmlflppndfdcaa

/- The two LineOf. -/
namespace Go.Proofs.Ytcmlflppndfdcaa
set_option linter.unusedVariables false
set_option linter.unusedSimpArgs false
open Go.RowKit

def lineF (k : Nat) : List Int := (List.range k).map fun i : Nat => (i : Int)
def lineT (k : Nat) : List Int := (List.range k).map fun i : Nat => (i : Int) + 1
theorem lineF_succ (k : Nat) : lineF (k + 1) = lineF k ++ [(k : Int)] := by simp [lineF, List.range_succ]
theorem lineT_succ (k : Nat) : lineT (k + 1) = lineT k ++ [(k : Int) + 1] := by simp [lineT, List.range_succ]
theorem fam_nil2 {w : World} {lo hi : Nat} : Fam w lo hi [(.slice none 0 0, []), (.slice none 0 0, [])] := by
  refine ⟨fun p hp => ?_, ?_⟩
  · simp only [List.mem_cons, List.not_mem_nil, or_false, or_self] at hp
    subst hp
    exact ⟨OwnI.nil _ _, fun k hk => by simp [Value.ownBlock] at hk⟩
  · simp [Value.ownBlock]
theorem fam_made2 (w : World) {lo : Nat} (h : lo ≤ w.heap.size) : Fam ((w.alloc (.cells #[] 3)).alloc (.cells #[] 3)) lo (w.heap.size + 1 + 1) [(.slice (some ⟨w.heap.size, 0, none⟩) 0 0, []), (.slice (some ⟨w.heap.size + 1, 0, none⟩) 0 0, [])] := by
  refine fam_two (mi := w.heap.size + 1) ⟨(OwnI.made _ rfl h).alloc _, fun k hk => by simp [Value.ownBlock] at hk; omega⟩ ⟨?_, fun k hk => by simp [Value.ownBlock] at hk; omega⟩ (by omega) (by omega)
  have := OwnI.made (w := w.alloc (.cells #[] 3)) (base := w.heap.size + 1) _ rfl (by simp)
  simpa only [World.size_alloc] using this
/-- The line of n vertices. -/
def lineQ (n : Int) : Qv := if inR n 1 5 then ⟨n, lineF (n - 1).toNat, lineT (n - 1).toNat⟩ else ⟨0, [], []⟩

theorem line_mid {w w1 : World} {gq : Nat} {N x : Int} {A C : Option Addr} {n n' c d : Nat} {l l' : List Int} (hgq : w.heap.size < gq) (hb1 : Below w.heap.size w w1) (hF1 : Fam w1 w.heap.size w1.heap.size [(.slice A n c, l), (.slice C n' d, l')])
    {V V' : Value} (hq1 : Blk w1 gq 28 #[.int .i64 N, V, V']) (hr1 : Blk w1 w.heap.size 28 #[.int .i64 0, .slice none 0 0, .slice none 0 0]) :
    let W := (w1.setCell ⟨gq, 1, none⟩ (.slice A n c)).alloc (.cells #[.int .i64 x] 3)
    Below w.heap.size w W ∧ Fam W w.heap.size w1.heap.size [(.slice A n c, l), (.slice C n' d, l')] ∧ Blk W gq 28 #[.int .i64 N, .slice A n c, V'] ∧ Blk W w.heap.size 28 #[.int .i64 0, .slice none 0 0, .slice none 0 0] ∧ OwnI W w.heap.size (.slice C n' d) l' := by
  intro W
  have hF2 : Fam W w.heap.size w1.heap.size [(.slice A n c, l), (.slice C n' d, l')] := (hF1.setBlk (i := 1) hq1 (by decide) (.slice A n c)).below (below_alloc _ _)
  refine ⟨(hb1.setCell (by simp; omega) _).alloc (by have := hb1.size; simpa using this) _, hF2, (hq1.set_ 1 _).alloc _, (hr1.far (by simp; omega) _).alloc _, (hF2.1 (_, l') (by simp)).1⟩

set_option maxHeartbeats 800000 in
theorem implLineOf_any (n : Int) (w : World) (_ : I64 n) :
    Calls Try.prog 52 #[.int .i64 n] w fun e w' => ∃ v, e = .returned (.tuple #[v, .bool (inR n 1 5)]) ∧ QuivO w' w.heap.size w'.heap.size v (lineQ n) ∧ Below w.heap.size w w' := by
  rcases hin : inR n 1 5 with _ | _
  · have e1 : lineQ n = ⟨0, [], []⟩ := by simp [lineQ, hin]
    rw [e1]
    clear e1
    go_enter Try.func52, Try.ntmps52
    go_wp2_with (go_at_call 98; refine (within_any _ _ _ _).mono ?_; rintro e w' ⟨rfl, rfl⟩; rw [hin])
    exact bodyPost_ret (v := .tuple #[.agg #[.int .i64 0, .slice none 0 0, .slice none 0 0], .bool false]) (by simp [results, go_sem]) rfl ⟨_, rfl, ⟨_, _, rfl, fam_nil2, ⟨by decide, by decide⟩⟩, below_alloc _ _⟩
  · have hb := inR_t.1 hin
    obtain ⟨m, rfl⟩ : ∃ m : Nat, n = (m : Int) + 1 := ⟨(n - 1).toNat, by omega⟩
    have e1 : lineQ ((m : Int) + 1) = ⟨(m : Int) + 1, lineF m, lineT m⟩ := by simp [lineQ, hin]
    rw [e1]
    clear e1
    go_enter Try.func52, Try.ntmps52
    go_wp2_with (go_at_call 98; refine (within_any _ _ _ _).mono ?_; rintro e w' ⟨rfl, rfl⟩; rw [hin])
    go_loopw [14] (fun i wr => ∃ (k : Nat) (a b : Value), k ≤ m ∧ i = .int .i64 k ∧ Below w.heap.size w wr ∧ Blk wr w.heap.size 28 #[.int .i64 0, .slice none 0 0, .slice none 0 0] ∧ Blk wr (w.heap.size + 1) 28 #[.int .i64 ((m : Int) + 1), a, b] ∧
      Fam wr w.heap.size wr.heap.size [(a, lineF k), (b, lineT k)]) (fun i _ => m - (intOf i).toNat)
    case atStart =>
      refine ⟨0, .slice none 0 0, .slice none 0 0, Nat.zero_le _, rfl, ((Below.refl _ _).alloc (Nat.le_refl _) _).alloc (by simp) _, (Blk.new _ _ _).alloc _, ?_, ?_⟩
      · have := Blk.new (w.alloc (.cells #[.int .i64 0, .slice none 0 0, .slice none 0 0] 28)) 28 #[.int .i64 ((m : Int) + 1), .slice none 0 0, .slice none 0 0]
        simpa only [World.size_alloc] using this
      · exact fam_nil2
    case round =>
      obtain ⟨k, a, b, hk, rfl, hbel, hbr, hbq, hF⟩ := hrel
      by_cases hlt : k < m
      · have fa : OwnI wr w.heap.size a (lineF k) := (hF.1 (a, lineF k) (by simp)).1
        have fb : OwnI wr w.heap.size b (lineT k) := (hF.1 (b, lineT k) (by simp)).1
        obtain ⟨A, c, rfl, _, _⟩ := fa.form
        obtain ⟨C, d, rfl, _, _⟩ := fb.form
        have q1 := hbq.cell' (i := 1) rfl
        have hs := hbel.size
        have lF : (lineF k).length = k := by simp [lineF]
        have lT : (lineT k).length = k := by simp [lineT]
        have g0 := below_alloc wr (.cells #[.int .i64 (k : Int)] 3)
        have hF0 := hF.below g0
        have hq0 := hbq.call g0
        have hr0 := hbr.call g0
        have fa0 : OwnI (wr.alloc (.cells #[.int .i64 (k : Int)] 3)) w.heap.size (.slice A (lineF k).length c) (lineF k) := fa.alloc _
        have hne0 := fa0.blkne hq0 (by decide)
        have hne0' := fa0.blkne hr0 (by decide)
        have hb0 := hbel.trans (g0.mono hs)
        have HL := Lib.hid (And.intro lF lT)
        clear lF lT
        (go_wp2_with (at_builtin; refine Hold.stop ?_)); unfold Hold
        refine wpList_appI rfl (.tmp 18) (.tmp 20) rfl w.heap.size _ (.slice A (lineF k).length c) (lineF k) rfl fa0 _ _ _ [(k : Int)] rfl rfl (SlI.one wr _ k ⟨by omega, by omega⟩) (by have := HL.out; simp; omega) (by simp; omega) ?_
        intro v1 w1 ho1 hg1 hv1
        rw [← lineF_succ] at ho1
        have hF1 := hF0.app (w' := w1) (L1 := []) (by have := hg1.size; simp at this; omega) ho1 hg1 hv1
        obtain ⟨A1, c1, rfl, _, _⟩ := ho1.form
        have hq1 := hq0.grown hg1 hne0
        have hr1 := hr0.grown hg1 hne0'
        have hb1 := hb0.grown hg1 (by simp; omega) (fun j hj => (fa0.lt j hj).1)
        have y1 := hq1.cell' (i := 1) rfl
        have y2 := hq1.cell' (i := 2) rfl
        have fy := hq1.frozen
        clear hg1 hv1 hF0 hq0 hr0 hne0 hne0' hb0 fa fb fa0 q1 hF hbq hbr g0 ho1
        (go_wp2_with (at_builtin; refine Hold.stop ?_)); unfold Hold
        obtain ⟨hb2, hF2, hq2, hr2, fb2⟩ := line_mid (x := (k : Int) + 1) (by omega) hb1 hF1 hq1 hr1
        refine wpList_appI rfl (.tmp 24) (.tmp 27) rfl w.heap.size _ (.slice C (lineT k).length d) (lineT k) rfl fb2 _ _ _ [(k : Int) + 1] rfl rfl (SlI.one' _ _ ((k : Int) + 1) ⟨by omega, by omega⟩ (by simp)) (by have := HL.out; simp; omega) (by have := hb1.size; simp; omega) ?_
        intro v2 w2 ho2 hg2 hv2
        rw [← lineT_succ] at ho2
        have hF3 := hF2.app (w' := w2) (L1 := [(_, lineF (k + 1))]) (by have := hg2.size; simp at this; omega) ho2 hg2 hv2
        obtain ⟨C1, d1, rfl, _, _⟩ := ho2.form
        have hq3 := hq2.grown hg2 (fb2.blkne hq2 (by decide))
        have hr3 := hr2.grown hg2 (fb2.blkne hr2 (by decide))
        have hb3 := hb2.grown hg2 hb2.size (fun j hj => (fb2.lt j hj).1)
        have z2 := hq3.cell' (i := 2) rfl
        have fz := hq3.frozen
        clear y1 y2 fy hb1 hF1 hq1 hr1 hb2 hF2 hq2 hr2 fb2 ho2 hg2 hv2 hbel
        go_wp2
        go_roundw
        case rel => exact ⟨k + 1, _, _, by omega, by go_num, hb3.setCell (by simp) _, hr3.far (by simp) _, hq3.set_ 2 _, (hF3.setBlk hq3 (by decide) _).mono (Nat.le_refl _) (by simp)⟩
        case measure => simp [intOf]; omega
      · obtain rfl : k = m := by omega
        have fa : OwnI wr w.heap.size a (lineF k) := (hF.1 (a, lineF k) (by simp)).1
        have fb : OwnI wr w.heap.size b (lineT k) := (hF.1 (b, lineT k) (by simp)).1
        obtain ⟨A, c, rfl, _, _⟩ := fa.form
        obtain ⟨C, d, rfl, _, _⟩ := fb.form
        have q0 := hbq.cell' (i := 0) rfl
        have q1 := hbq.cell' (i := 1) rfl
        have q2 := hbq.cell' (i := 2) rfl
        have r0 := hbr.cell' (i := 0) rfl
        have r1 := hbr.cell' (i := 1) rfl
        have r2 := hbr.cell' (i := 2) rfl
        have fr := hbr.frozen
        go_wp2
        refine bodyPost_ret (v := .tuple #[.agg #[.int .i64 ((k : Int) + 1), .slice A (lineF k).length c, .slice C (lineT k).length d], .bool true]) (by simp [results, go_sem, r0, r1, r2]) rfl ⟨_, rfl, ⟨_, _, rfl, ?_, ⟨by simp only; omega, by simp only; omega⟩⟩, ?_⟩
        · have h1 := hF.setBlk (i := 0) hbr (by decide) (.int .i64 ((k : Int) + 1))
          have h2 := h1.setBlk (i := 1) (hbr.set_ 0 _) (by decide) (.slice A (lineF k).length c)
          have h3 := h2.setBlk (i := 2) ((hbr.set_ 0 _).set_ 1 _) (by decide) (.slice C (lineT k).length d)
          simpa using h3
        · exact ((hbel.setCell (by simp) _).setCell (by simp) _).setCell (by simp) _

set_option maxHeartbeats 800000 in
theorem specLineOf_any (n : Int) (w : World) (_ : I64 n) :
    Calls Try.prog 50 #[.int .i64 n] w fun e w' => ∃ v, e = .returned (.tuple #[v, .bool (inR n 1 5)]) ∧ QuivO w' w.heap.size w'.heap.size v (lineQ n) ∧ Below w.heap.size w w' := by
  rcases hin : inR n 1 5 with _ | _
  · have e1 : lineQ n = ⟨0, [], []⟩ := by simp [lineQ, hin]
    rw [e1]
    clear e1
    go_enter Try.func50, Try.ntmps50
    go_wp2_with (go_at_call 90; refine (l1In_any _ _ _ _).mono ?_; rintro e w' ⟨rfl, rfl⟩; rw [hin])
    exact bodyPost_ret (v := .tuple #[.agg #[.int .i64 0, .slice none 0 0, .slice none 0 0], .bool false]) (by simp [results, go_sem]) rfl ⟨_, rfl, ⟨_, _, rfl, fam_nil2, ⟨by decide, by decide⟩⟩, below_alloc _ _⟩
  · have hb := inR_t.1 hin
    obtain ⟨m, rfl⟩ : ∃ m : Nat, n = (m : Int) + 1 := ⟨(n - 1).toNat, by omega⟩
    have e1 : lineQ ((m : Int) + 1) = ⟨(m : Int) + 1, lineF m, lineT m⟩ := by simp [lineQ, hin]
    rw [e1]
    clear e1
    go_enter Try.func50, Try.ntmps50
    go_wp2_with (go_at_call 90; refine (l1In_any _ _ _ _).mono ?_; rintro e w' ⟨rfl, rfl⟩; rw [hin])
    go_loopw [5] (fun i wr => ∃ (k : Nat) (a b : Value), k ≤ m ∧ i = .int .i64 ((k : Int) + 1) ∧ Below w.heap.size w wr ∧ Blk wr w.heap.size 28 #[.int .i64 0, .slice none 0 0, .slice none 0 0] ∧ Blk wr (w.heap.size + 1 + 1 + 1) 28 #[.int .i64 ((m : Int) + 1), a, b] ∧
      Fam wr w.heap.size wr.heap.size [(a, lineF k), (b, lineT k)]) (fun i _ => m + 1 - (intOf i).toNat)
    case atStart =>
      refine ⟨0, .slice (some ⟨w.heap.size + 1, 0, none⟩) 0 0, .slice (some ⟨w.heap.size + 1 + 1, 0, none⟩) 0 0, Nat.zero_le _, rfl, ((((Below.refl _ _).alloc (Nat.le_refl _) _).alloc (by simp) _).alloc (by simp; omega) _).alloc (by simp; omega) _, (((Blk.new _ _ _).alloc _).alloc _).alloc _, ?_, ?_⟩
      · have := Blk.new (((w.alloc (.cells #[.int .i64 0, .slice none 0 0, .slice none 0 0] 28)).alloc (.cells #[] 3)).alloc (.cells #[] 3)) 28 #[.int .i64 ((m : Int) + 1), .slice (some ⟨w.heap.size + 1, 0, none⟩) 0 0, .slice (some ⟨w.heap.size + 1 + 1, 0, none⟩) 0 0]
        simpa only [World.size_alloc] using this
      · have h := fam_made2 (w.alloc (.cells #[.int .i64 0, .slice none 0 0, .slice none 0 0] 28)) (lo := w.heap.size) (by simp)
        simp only [World.size_alloc] at h
        exact (h.below (below_alloc _ _)).mono (Nat.le_refl _) (by simp)
    case round =>
      obtain ⟨k, a, b, hk, rfl, hbel, hbr, hbq, hF⟩ := hrel
      by_cases hlt : k < m
      · have fa : OwnI wr w.heap.size a (lineF k) := (hF.1 (a, lineF k) (by simp)).1
        have fb : OwnI wr w.heap.size b (lineT k) := (hF.1 (b, lineT k) (by simp)).1
        obtain ⟨A, c, rfl, _, _⟩ := fa.form
        obtain ⟨C, d, rfl, _, _⟩ := fb.form
        have q1 := hbq.cell' (i := 1) rfl
        have hs := hbel.size
        have lF : (lineF k).length = k := by simp [lineF]
        have lT : (lineT k).length = k := by simp [lineT]
        have g0 := below_alloc wr (.cells #[.int .i64 (k : Int)] 3)
        have hF0 := hF.below g0
        have hq0 := hbq.call g0
        have hr0 := hbr.call g0
        have fa0 : OwnI (wr.alloc (.cells #[.int .i64 (k : Int)] 3)) w.heap.size (.slice A (lineF k).length c) (lineF k) := fa.alloc _
        have hne0 := fa0.blkne hq0 (by decide)
        have hne0' := fa0.blkne hr0 (by decide)
        have hb0 := hbel.trans (g0.mono hs)
        have HL := Lib.hid (And.intro lF lT)
        clear lF lT
        (go_wp2_with (at_builtin; refine Hold.stop ?_)); unfold Hold
        refine wpList_appI rfl (.tmp 20) (.tmp 23) rfl w.heap.size _ (.slice A (lineF k).length c) (lineF k) rfl fa0 _ _ _ [(k : Int)] rfl rfl (SlI.one wr _ k ⟨by omega, by omega⟩) (by have := HL.out; simp; omega) (by simp; omega) ?_
        intro v1 w1 ho1 hg1 hv1
        rw [← lineF_succ] at ho1
        have hF1 := hF0.app (w' := w1) (L1 := []) (by have := hg1.size; simp at this; omega) ho1 hg1 hv1
        obtain ⟨A1, c1, rfl, _, _⟩ := ho1.form
        have hq1 := hq0.grown hg1 hne0
        have hr1 := hr0.grown hg1 hne0'
        have hb1 := hb0.grown hg1 (by simp; omega) (fun j hj => (fa0.lt j hj).1)
        have y1 := hq1.cell' (i := 1) rfl
        have y2 := hq1.cell' (i := 2) rfl
        have fy := hq1.frozen
        clear hg1 hv1 hF0 hq0 hr0 hne0 hne0' hb0 fa fb fa0 q1 hF hbq hbr g0 ho1
        (go_wp2_with (at_builtin; refine Hold.stop ?_)); unfold Hold
        obtain ⟨hb2, hF2, hq2, hr2, fb2⟩ := line_mid (x := (k : Int) + 1) (by omega) hb1 hF1 hq1 hr1
        refine wpList_appI rfl (.tmp 27) (.tmp 29) rfl w.heap.size _ (.slice C (lineT k).length d) (lineT k) rfl fb2 _ _ _ [(k : Int) + 1] rfl rfl (SlI.one' _ _ ((k : Int) + 1) ⟨by omega, by omega⟩ (by simp)) (by have := HL.out; simp; omega) (by have := hb1.size; simp; omega) ?_
        intro v2 w2 ho2 hg2 hv2
        rw [← lineT_succ] at ho2
        have hF3 := hF2.app (w' := w2) (L1 := [(_, lineF (k + 1))]) (by have := hg2.size; simp at this; omega) ho2 hg2 hv2
        obtain ⟨C1, d1, rfl, _, _⟩ := ho2.form
        have hq3 := hq2.grown hg2 (fb2.blkne hq2 (by decide))
        have hr3 := hr2.grown hg2 (fb2.blkne hr2 (by decide))
        have hb3 := hb2.grown hg2 hb2.size (fun j hj => (fb2.lt j hj).1)
        have z2 := hq3.cell' (i := 2) rfl
        have fz := hq3.frozen
        clear y1 y2 fy hb1 hF1 hq1 hr1 hb2 hF2 hq2 hr2 fb2 ho2 hg2 hv2 hbel
        go_wp2
        go_roundw
        case rel => exact ⟨k + 1, _, _, by omega, by go_num, hb3.setCell (by simp <;> omega) _, hr3.far (by simp <;> omega) _, hq3.set_ 2 _, (hF3.setBlk hq3 (by decide) _).mono (Nat.le_refl _) (by simp)⟩
        case measure => simp [intOf]; omega
      · obtain rfl : k = m := by omega
        have fa : OwnI wr w.heap.size a (lineF k) := (hF.1 (a, lineF k) (by simp)).1
        have fb : OwnI wr w.heap.size b (lineT k) := (hF.1 (b, lineT k) (by simp)).1
        obtain ⟨A, c, rfl, _, _⟩ := fa.form
        obtain ⟨C, d, rfl, _, _⟩ := fb.form
        have q0 := hbq.cell' (i := 0) rfl
        have q1 := hbq.cell' (i := 1) rfl
        have q2 := hbq.cell' (i := 2) rfl
        have r0 := hbr.cell' (i := 0) rfl
        have r1 := hbr.cell' (i := 1) rfl
        have r2 := hbr.cell' (i := 2) rfl
        have fr := hbr.frozen
        go_wp2
        refine bodyPost_ret (v := .tuple #[.agg #[.int .i64 ((k : Int) + 1), .slice A (lineF k).length c, .slice C (lineT k).length d], .bool true]) (by simp [results, go_sem, r0, r1, r2]) rfl ⟨_, rfl, ⟨_, _, rfl, ?_, ⟨by simp only; omega, by simp only; omega⟩⟩, ?_⟩
        · have h1 := hF.setBlk (i := 0) hbr (by decide) (.int .i64 ((k : Int) + 1))
          have h2 := h1.setBlk (i := 1) (hbr.set_ 0 _) (by decide) (.slice A (lineF k).length c)
          have h3 := h2.setBlk (i := 2) ((hbr.set_ 0 _).set_ 1 _) (by decide) (.slice C (lineT k).length d)
          simpa using h3
        · exact ((hbel.setCell (by simp) _).setCell (by simp) _).setCell (by simp) _

end Go.Proofs.Ytcmlflppndfdcaa

/- Equal quivers, the quiver of pencils, the two IsPencil. -/
namespace Go.Proofs.Ytcmlflppndfdcaa
set_option linter.unusedVariables false
set_option linter.unusedSimpArgs false
open Go.RowKit

set_option maxHeartbeats 400000 in
theorem l6Same_any (u v : Value) (xs ys : List Int) (w : World) (hu : SlI w w.heap.size u xs) (hv : SlI w w.heap.size v ys) :
    Calls Try.prog 155 #[u, v] w fun e w' => e = .returned (.bool (decide (xs = ys))) ∧ Below w.heap.size w w' := by
  obtain ⟨A, c, rfl, _, _, hn, hx⟩ := hu.open_
  obtain ⟨C, d, rfl, _, _, hm, hy⟩ := hv.open_
  clear hu hv
  by_cases hnm : xs.length = ys.length
  · have heq : ((xs.length : Int) != ys.length) = false := by rw [bne_eq_false_iff_eq]; omega
    have HN := Lib.hid hnm
    clear hnm
    go_enter Try.func155, Try.ntmps155
    go_wp2
    go_loopw [5] (fun i wr => ∃ k q : Nat, k ≤ xs.length ∧ i = .int .i64 k ∧ wr = w.drewN q ∧ Hid (xs.take k = ys.take k)) (fun i _ => xs.length - (intOf i).toNat)
    case atStart => exact ⟨0, 0, Nat.zero_le _, rfl, rfl, rfl⟩
    case round =>
      obtain ⟨k, q, hk, rfl, rfl, hxy⟩ := hrel
      by_cases hlt : k < xs.length
      · have hlt' : k < ys.length := by have := HN.out; omega
        obtain ⟨b, o, x, rfl, hb, HX, c1, _⟩ := SlI.at_ hx hlt
        obtain ⟨b', o', x', rfl, hb', HX', c1', _⟩ := SlI.at_ hy hlt'
        clear hx hy
        by_cases hE : x = x'
        · subst hE
          go_wp2
          go_quiet (fail)
          go_wp2
          go_roundw
          case rel =>
            refine ⟨k + 1, q + nq, by omega, by go_num, rfl, ?_⟩
            show _ = _
            rw [take_snoc HX.out, take_snoc HX'.out, hxy.out]
          case measure => simp [intOf]; omega
        · have hne : (x != x') = true := by simpa using hE
          have hxy' : Hid (xs ≠ ys) := by
            rintro rfl
            have h2 := HX.out
            rw [HX'.out] at h2
            exact hE (by injection h2 with h2; exact h2.symm)
          clear hE
          go_wp2
          go_quiet (fail)
          go_wp2
          go_ret
          exact ⟨by rw [decide_eq_false hxy'.out]; rfl, below_drewN (drewN_below _ _ _) _⟩
      · go_wp2
        go_ret
        refine ⟨?_, drewN_below _ _ _⟩
        have h1 := hxy.out
        rw [List.take_of_length_le (by omega), List.take_of_length_le (by have := HN.out; omega)] at h1
        simp [h1]
  · have hne : ((xs.length : Int) != ys.length) = true := by rw [bne_iff_ne]; omega
    go_enter Try.func155, Try.ntmps155
    go_wp2
    go_ret
    refine ⟨?_, Below.refl _ _⟩
    rw [decide_eq_false (by rintro rfl; omega)]; rfl

set_option maxHeartbeats 800000 in
theorem specEqualQuivers_any (u v : Value) (p q : Qv) (w : World) (hu : QvR w w.heap.size u p) (hv : QvR w w.heap.size v q) :
    Calls Try.prog 130 #[u, v] w fun e w' => e = .returned (.bool (decide (p = q))) ∧ Below w.heap.size w w' := by
  obtain ⟨A, c, C, d, rfl, hf, ht, _, _, _⟩ := hu.open_
  obtain ⟨A', c', C', d', rfl, hf', ht', _, _, _⟩ := hv.open_
  clear hu hv
  obtain ⟨W, hW⟩ : ∃ W, W = (w.alloc (.cells #[.int .i64 p.v, .slice A p.f.length c, .slice C p.t.length d] 28)).alloc (.cells #[.int .i64 q.v, .slice A' q.f.length c', .slice C' q.t.length d'] 28) := ⟨_, rfl⟩
  have g0 : Below w.heap.size w W := by rw [hW]; exact ((Below.refl _ _).alloc (Nat.le_refl _) _).alloc (by simp) _
  have k1 : Blk W w.heap.size 28 #[.int .i64 p.v, .slice A p.f.length c, .slice C p.t.length d] := by rw [hW]; exact (Blk.new _ _ _).alloc _
  have k2 : Blk W (w.heap.size + 1) 28 #[.int .i64 q.v, .slice A' q.f.length c', .slice C' q.t.length d'] := by
    rw [hW]
    have := Blk.new (w.alloc (.cells #[.int .i64 p.v, .slice A p.f.length c, .slice C p.t.length d] 28)) 28 #[.int .i64 q.v, .slice A' q.f.length c', .slice C' q.t.length d']
    simpa only [World.size_alloc] using this
  replace hf := SlI.next g0 hf
  replace hf' := SlI.next g0 hf'
  replace ht := SlI.next g0 ht
  replace ht' := SlI.next g0 ht'
  by_cases h1 : p.v = q.v
  · have e1 : (p.v == q.v) = true := by rw [h1]; simp
    have H1 := Lib.hid h1
    clear h1
    by_cases h2 : p.f = q.f
    · have e2 : decide (p.f = q.f) = true := by simpa using h2
      have H2 := Lib.hid h2
      clear h2
      obtain ⟨B, hB⟩ : ∃ B, decide (p.t = q.t) = B := ⟨_, rfl⟩
      have HB := Lib.hid hB
      have hfin : decide (p = q) = B := by
        rw [← hB, decide_eq_decide, qv_ext]
        exact ⟨fun h => h.2.2, fun h => ⟨H1.out, H2.out, h⟩⟩
      rw [hfin]
      clear hfin hB
      go_enter Try.func130, Try.ntmps130
      go_wp2_with fail
      rw [← hW]; clear hW
      refine (l6Same_any _ _ _ _ _ hf hf').mono ?_; rintro e w1 ⟨rfl, hb1⟩
      clear hf hf'
      replace g0 := bthen g0 hb1
      replace ht := SlI.next hb1 ht
      replace ht' := SlI.next hb1 ht'
      replace k1 := k1.call hb1
      replace c0 := k1.cell' (i := 0) rfl
      replace c1 := k1.cell' (i := 1) rfl
      replace c2 := k1.cell' (i := 2) rfl
      replace k2 := k2.call hb1
      replace d0 := k2.cell' (i := 0) rfl
      replace d1 := k2.cell' (i := 1) rfl
      replace d2 := k2.cell' (i := 2) rfl
      clear hb1
      go_wp2_with fail
      refine (l6Same_any _ _ _ _ _ ht ht').mono ?_; rintro e w_2 ⟨rfl, hb_2⟩
      replace g0 := bthen g0 hb_2
      replace ht := SlI.next hb_2 ht
      replace ht' := SlI.next hb_2 ht'
      replace k1 := k1.call hb_2
      replace c0 := k1.cell' (i := 0) rfl
      replace c1 := k1.cell' (i := 1) rfl
      replace c2 := k1.cell' (i := 2) rfl
      replace k2 := k2.call hb_2
      replace d0 := k2.cell' (i := 0) rfl
      replace d1 := k2.cell' (i := 1) rfl
      replace d2 := k2.cell' (i := 2) rfl
      rw [HB.out]
      clear ht ht' k1 k2
      go_wp2
      go_ret
      exact ⟨rfl, g0⟩
    · have e2 : decide (p.f = q.f) = false := by simpa using h2
      have hfin : decide (p = q) = false := by
        simp only [decide_eq_false_iff_not, qv_ext]
        exact fun h => h2 h.2.1
      rw [hfin]
      clear hfin h2
      go_enter Try.func130, Try.ntmps130
      go_wp2_with fail
      rw [← hW]; clear hW
      refine (l6Same_any _ _ _ _ _ hf hf').mono ?_; rintro e w1 ⟨rfl, hb1⟩
      go_wp2
      go_ret
      exact ⟨rfl, bthen g0 hb1⟩
  · have e1 : (p.v == q.v) = false := by simpa using h1
    have hfin : decide (p = q) = false := by
      simp only [decide_eq_false_iff_not, qv_ext]
      exact fun h => h1 h.1
    rw [hfin]
    clear hfin h1
    go_enter Try.func130, Try.ntmps130
    go_wp2
    rw [← hW]
    go_ret
    exact ⟨rfl, g0⟩

/-- the quiver of pencils -/
def pQ : Qv := ⟨2, [0, 0], [1, 1]⟩
def isPen (x : Rp) : Bool := isRep x && decide (x.q = pQ)
end Go.Proofs.Ytcmlflppndfdcaa

/- make of rows of ints and of rows of rows, in any world. -/
namespace Go.Proofs.Ytcmlflppndfdcaa
set_option linter.unusedVariables false
set_option linter.unusedSimpArgs false
open Go.RowKit

theorem run_mkII (w : World) {n : Nat} (hn : n ≤ 1000000) : (Instr.makeSlice 51 (.int .i64 (n : Int)) (.int .i64 (n : Int))).run Try.prog w = .ok (.slice (some ⟨w.heap.size, 0, none⟩) n n) (w.alloc (.cells (mkCells (.slice none 0 0) n) 22)) := by
  obtain ⟨i0, hi, hz0, hz1, hz2⟩ := info_parts infoInts
  have hmk := run_mk (P := Try.prog) Try.underlying51 hi hz0 (n := n) (by rw [hz2]; omega) (by omega)
  rw [hz1, Nat.mul_one] at hmk
  exact hmk w
theorem run_mkI (w : World) {n : Nat} (hn : n ≤ 1000000) : (Instr.makeSlice 22 (.int .i64 (n : Int)) (.int .i64 (n : Int))).run Try.prog w = .ok (.slice (some ⟨w.heap.size, 0, none⟩) n n) (w.alloc (.cells (mkCells (.int .i64 0) n) 3)) := by
  obtain ⟨i0, hi, hz0, hz1, hz2⟩ := info_parts infoInt
  have hmk := run_mk (P := Try.prog) Try.underlying22 hi hz0 (n := n) (by rw [hz2]; omega) (by omega)
  rw [hz1, Nat.mul_one] at hmk
  exact hmk w
end Go.Proofs.Ytcmlflppndfdcaa

/- The reference's l9Fit at two valid representations of one quiver over one field. -/
namespace Go.Proofs.Ytcmlflppndfdcaa
set_option linter.unusedVariables false
set_option linter.unusedSimpArgs false
open Go.RowKit

set_option maxHeartbeats 1600000 in
set_option maxRecDepth 100000 in
theorem l9Fit_yes (ua ub : Value) (x y : Rp) (w0 : World) (ha : RpR w0 w0.heap.size ua x) (hb : RpR w0 w0.heap.size ub y) (hx : isRep x = true) (hy : isRep y = true) (hp : x.p = y.p) (hq : x.q = y.q) :
    Calls Try.prog 93 #[ua, ub] w0 fun e w' => e = .returned (.bool true) ∧ Below w0.heap.size w0 w' := by
  have ha' := ha
  have hb' := hb
  obtain ⟨A, a, C, c, Ea, ea, Ha, ha_, rfl, hqa, _, _, _, _, _⟩ := ha.open_
  obtain ⟨A2, a2, C2, c2, Eb, eb, Hb, hb_, rfl, hqb, _, _, _, _, _⟩ := hb.open_
  clear ha hb
  obtain ⟨W, hW⟩ : ∃ W, W = (w0.alloc (.cells #[.int .i64 x.p, .int .i64 x.q.v, .slice A x.q.f.length a, .slice C x.q.t.length c, .slice Ea x.d.length ea, .slice Ha x.m.length ha_] 31)).alloc (.cells #[.int .i64 y.p, .int .i64 y.q.v, .slice A2 y.q.f.length a2, .slice C2 y.q.t.length c2, .slice Eb y.d.length eb, .slice Hb y.m.length hb_] 31) := ⟨_, rfl⟩
  have g0 : Below w0.heap.size w0 W := by rw [hW]; exact ((Below.refl _ _).alloc (Nat.le_refl _) _).alloc (by simp) _
  have k1 : Blk W w0.heap.size 31 #[.int .i64 x.p, .int .i64 x.q.v, .slice A x.q.f.length a, .slice C x.q.t.length c, .slice Ea x.d.length ea, .slice Ha x.m.length ha_] := by rw [hW]; exact (Blk.new _ _ _).alloc _
  have k2 : Blk W (w0.heap.size + 1) 31 #[.int .i64 y.p, .int .i64 y.q.v, .slice A2 y.q.f.length a2, .slice C2 y.q.t.length c2, .slice Eb y.d.length eb, .slice Hb y.m.length hb_] := by
    rw [hW]
    have := Blk.new (w0.alloc (.cells #[.int .i64 x.p, .int .i64 x.q.v, .slice A x.q.f.length a, .slice C x.q.t.length c, .slice Ea x.d.length ea, .slice Ha x.m.length ha_] 31)) 31 #[.int .i64 y.p, .int .i64 y.q.v, .slice A2 y.q.f.length a2, .slice C2 y.q.t.length c2, .slice Eb y.d.length eb, .slice Hb y.m.length hb_]
    simpa only [World.size_alloc] using this
  have HXA := Lib.hid (RpR.next g0 ha')
  have HXB := Lib.hid (RpR.next g0 hb')
  have HQA := Lib.hid (QvR.next g0 hqa)
  have HQB := Lib.hid (QvR.next g0 hqb)
  have HX := Lib.hid hx
  have HY := Lib.hid hy
  have HQ := Lib.hid (show decide (x.q = y.q) = true by simpa using hq)
  have e1 : (x.p == y.p) = true := by simpa using hp
  clear ha' hb' hqa hqb hx hy hq hp
  go_enter Try.func93, Try.ntmps93
  go_wp2_with fail
  rw [← hW]; clear hW
  refine (specIsRep_any _ x _ HXA.out).mono ?_; rintro e w1 ⟨rfl, hb1⟩
  rw [HX.out]
  have gW := hb1
  replace g0 := bthen g0 hb1
  replace k1 := k1.call hb1
  replace c0 := k1.cell' (i := 0) rfl
  replace c1 := k1.cell' (i := 1) rfl
  replace c2 := k1.cell' (i := 2) rfl
  replace c3 := k1.cell' (i := 3) rfl
  replace c4 := k1.cell' (i := 4) rfl
  replace c5 := k1.cell' (i := 5) rfl
  replace k2 := k2.call hb1
  replace d0 := k2.cell' (i := 0) rfl
  replace d1 := k2.cell' (i := 1) rfl
  replace d2 := k2.cell' (i := 2) rfl
  replace d3 := k2.cell' (i := 3) rfl
  replace d4 := k2.cell' (i := 4) rfl
  replace d5 := k2.cell' (i := 5) rfl
  go_wp2_with fail
  refine (specIsRep_any _ y _ (RpR.next gW HXB.out)).mono ?_; rintro e w2 ⟨rfl, hb2⟩
  rw [HY.out]
  have gW2 := gW.trans (hb2.mono gW.size)
  replace g0 := bthen g0 hb2
  replace k1 := k1.call hb2
  replace c0 := k1.cell' (i := 0) rfl
  replace c1 := k1.cell' (i := 1) rfl
  replace c2 := k1.cell' (i := 2) rfl
  replace c3 := k1.cell' (i := 3) rfl
  replace c4 := k1.cell' (i := 4) rfl
  replace c5 := k1.cell' (i := 5) rfl
  replace k2 := k2.call hb2
  replace d0 := k2.cell' (i := 0) rfl
  replace d1 := k2.cell' (i := 1) rfl
  replace d2 := k2.cell' (i := 2) rfl
  replace d3 := k2.cell' (i := 3) rfl
  replace d4 := k2.cell' (i := 4) rfl
  replace d5 := k2.cell' (i := 5) rfl
  go_wp2_with fail
  refine (specEqualQuivers_any _ _ x.q y.q _ (QvR.next gW2 HQA.out) (QvR.next gW2 HQB.out)).mono ?_; rintro e w3 ⟨rfl, hb3⟩
  rw [HQ.out]
  replace g0 := bthen g0 hb3
  clear k1 k2
  go_wp2
  go_ret
  exact ⟨rfl, g0⟩
end Go.Proofs.Ytcmlflppndfdcaa

/- Bars in memory of the call's own: marks, the look at marks, append of one bar. -/
namespace Go.Proofs.Ytcmlflppndfdcaa
set_option linter.unusedVariables false
set_option linter.unusedSimpArgs false
open Go.RowKit

theorem chg_setB {w : World} {lo hi : Nat} {p : Addr} {u : Value} (h1 : lo ≤ p.block) (h2 : p.block < hi) : Chg lo hi w (w.setCell p u) :=
  ⟨rfl, rfl, rfl, by simp [World.setCell], fun k _ hne => Below.heap_setCell _ _ _ _ (by omega)⟩
def BarsO.mk (k : Int) (l : List Bar) : List Bar := (List.range l.length).map fun i : Nat => (k + 3 * i, k + 3 * i + 1, k + 3 * i + 1 + 1)
theorem bmk_length (k : Int) (l : List Bar) : (BarsO.mk k l).length = l.length := by simp [BarsO.mk]
theorem bmk_get {k : Int} {l : List Bar} {j : Nat} (h : j < l.length) : (BarsO.mk k l)[j]? = some (k + 3 * j, k + 3 * j + 1, k + 3 * j + 1 + 1) := by simp [BarsO.mk, h]
/-- the first j marked -/
def bmTo (k : Int) (l : List Bar) (j : Nat) : List Bar := (BarsO.mk k l).take j ++ l.drop j
theorem bmTo_length (k : Int) (l : List Bar) (j : Nat) : (bmTo k l j).length = l.length := by
  simp [bmTo, bmk_length]; omega
theorem bmTo_get {k : Int} {l : List Bar} {j : Nat} {x : Bar} (h : l[j]? = some x) : (bmTo k l j)[j]? = some x := by
  have hj := lt_of_some h
  rw [bmTo, List.getElem?_append_right (by simp [bmk_length]; omega), List.getElem?_drop, ← h]
  congr 1
  simp [bmk_length]; omega
theorem bmTo_set {k : Int} {l : List Bar} {j : Nat} (h : j < l.length) : (bmTo k l j).set j (k + 3 * j, k + 3 * j + 1, k + 3 * j + 1 + 1) = bmTo k l (j + 1) := by
  apply List.ext_getElem?
  intro i
  rw [List.getElem?_set, bmTo_length]
  by_cases e : j = i
  · subst e
    rw [if_pos rfl, if_pos h, bmTo, List.getElem?_append_left (by simp [bmk_length]; omega), List.getElem?_take, if_pos (by omega), bmk_get h]
  · rw [if_neg e]
    by_cases hi : i < j
    · rw [bmTo, bmTo, List.getElem?_append_left (by simp [bmk_length]; omega), List.getElem?_append_left (by simp [bmk_length]; omega), List.getElem?_take, List.getElem?_take, if_pos hi, if_pos (by omega)]
    · rw [bmTo, bmTo, List.getElem?_append_right (by simp [bmk_length]; omega), List.getElem?_append_right (by simp [bmk_length]; omega), List.getElem?_drop, List.getElem?_drop]
      congr 1
      simp [bmk_length]; omega
set_option maxHeartbeats 1600000 in
theorem bars_mark (v : Value) (l : List Bar) (k : Int) (lo hi : Nat) (w : World) (hv : BarsO w lo hi v l) (h0 : 0 ≤ k) (h1 : k ≤ 1125899906842624) (hn : l.length ≤ 1048576) :
    Calls Try.prog 17 #[v, .int .i64 k] w fun e w' => e = .returned (.int .i64 (k + (l.length * 3 : Nat))) ∧ BarsO w' lo hi v (BarsO.mk k l) ∧ Chg lo hi w w' := by
  obtain ⟨⟨ho, hh, hl⟩, hb⟩ := hv
  rcases ho.2 with ⟨rfl, hl0⟩ | ⟨g, cap, cur, rfl, hbg, hgg, hnc, hcm, _⟩
  · obtain rfl : l = [] := List.eq_nil_of_length_eq_zero hl0
    clear ho
    go_enter Try.func17, Try.ntmps17
    go_wp2
    refine wp_loop_rounds 1 ?_
    rw [rounds_succ]
    go_wp2
    go_ret
    exact ⟨by simp, BarsO.nil _ _ _, Chg.refl _ _ _⟩
  · have hgh := hh g (by simp [Value.ownBlock])
    obtain ⟨L, hL⟩ : ∃ n, l.length = n := ⟨_, rfl⟩
    have HL := Lib.hid hL
    have HH := Lib.hid hh
    rw [hL] at ho hl hn hnc ⊢
    clear hgg hL hh
    go_enter Try.func17, Try.ntmps17
    go_wp2
    go_loopw [1, 5] (fun q i wr => ∃ j : Nat, j ≤ L ∧ i = .int .i64 j ∧ q = .int .i64 (k + (3 * j : Nat)) ∧ wr.ownsRow lo 67 3 (.slice (some ⟨g, 0, none⟩) L cap) L (barCs (bmTo k l j)) ∧ Chg lo hi w wr) (fun _ i _ => L - (intOf i).toNat)
    case atStart => exact ⟨0, Nat.zero_le _, rfl, by simp, by simpa [bmTo] using ho, Chg.refl _ _ _⟩
    case round =>
      clear ho
      obtain ⟨j, hj, rfl, rfl, hown, hch⟩ := hrel
      by_cases hlt : j < L
      · have hjl : j < l.length := by rw [HL.out]; exact hlt
        have hcl := barCs_length (bmTo k l j)
        rw [bmTo_length, HL.out] at hcl
        have c0 := hown.cellAt (j * 3) (by omega)
        have c1 := hown.cellAt (j * 3 + 1) (by omega)
        have c2 := hown.cellAt (j * 3 + 2) (by omega)
        rw [List.getElem?_eq_getElem (by omega)] at c0 c1 c2
        obtain ⟨v0, c0'⟩ : ∃ v0, wr.cell? ⟨g, j * 3, none⟩ = some v0 := ⟨_, c0⟩
        obtain ⟨v1, c1'⟩ : ∃ v0, wr.cell? ⟨g, j * 3 + 1, none⟩ = some v0 := ⟨_, c1⟩
        obtain ⟨v2, c2'⟩ : ∃ v0, wr.cell? ⟨g, j * 3 + 2, none⟩ = some v0 := ⟨_, c2⟩
        have f0 := hown.frozenAt
        have st0 := hown.stored (j * 3) (.int .i64 (k + (3 * j : Nat)))
        have st1 := st0.1.stored (j * 3 + 1) (.int .i64 (k + (3 * j : Nat) + 1))
        have st2 := st1.1.stored (j * 3 + 2) (.int .i64 (k + (3 * j : Nat) + 1 + 1))
        have e := barCs_set (xs := bmTo k l j) (j := j) (by rw [bmTo_length]; exact hjl) (k + (3 * j : Nat), k + (3 * j : Nat) + 1, k + (3 * j : Nat) + 1 + 1)
        simp only at e
        rw [e, show ((3 * j : Nat) : Int) = 3 * (j : Int) by omega, bmTo_set hjl] at st2
        have hc2 : Chg lo hi w (((wr.setCell ⟨g, j * 3, none⟩ (.int .i64 (k + 3 * (j : Int)))).setCell ⟨g, j * 3 + 1, none⟩ (.int .i64 (k + 3 * (j : Int) + 1))).setCell ⟨g, j * 3 + 2, none⟩ (.int .i64 (k + 3 * (j : Int) + 1 + 1))) :=
          ((hch.trans (chg_setB hbg hgh)).trans (chg_setB hbg hgh)).trans (chg_setB hbg hgh)
        have ST := Lib.hid st2.1
        have HC := Lib.hid hc2
        have E3 := Lib.hid (show ((3 * j : Nat) : Int) = 3 * (j : Int) by omega)
        rw [E3.out]
        clear c0 c1 c2 hown hcl st0 st1 st2 e hch hc2
        go_wp2
        go_roundw
        case rel => exact ⟨j + 1, by omega, by go_num, by congr 1; omega, ST.out, HC.out⟩
        case measure => simp [intOf]; omega
      · have hjL : j = L := by omega
        have ST := Lib.hid (show wr.ownsRow lo 67 3 (.slice (some ⟨g, 0, none⟩) L cap) L (barCs (BarsO.mk k l)) by
          have : bmTo k l j = BarsO.mk k l := by rw [bmTo, hjL, ← HL.out, List.drop_length, List.append_nil, List.take_of_length_le (by rw [bmk_length]; omega)]
          rw [← this]; exact hown)
        clear hown
        go_wp2
        go_ret
        refine ⟨congrArg (fun z => Ending.returned (Value.int .i64 z)) (by omega), ⟨⟨by rw [bmk_length, HL.out]; exact ST.out, HH.out, by rw [bmk_length, HL.out]; exact hl⟩, fun x hx => ?_⟩, hch⟩
        simp only [BarsO.mk, List.mem_map, List.mem_range, HL.out] at hx
        obtain ⟨i, hi, rfl⟩ := hx
        refine ⟨⟨?_, ?_⟩, ⟨?_, ?_⟩, ⟨?_, ?_⟩⟩ <;> simp only <;> omega
/-- append of one bar -/
theorem wpList_appB {w : World} {ops : Array Oper} {rest : List Oper} {o : Oper} {a : Act} {Q : Exit → Act → World → Prop} (hgd : o.guard = none) (s x : Operand)
    (ho : o.op = .call { callee := .builtin .append, args := #[s, x], argTypes := #[35, 35] })
    (lo hi : Nat) (v : Value) (l : List Bar) (hs : a.eval s = v) (hown : BarsO w lo hi v l) (g c : Nat) (b : Bar) (hx : a.eval x = .slice (some ⟨g, 0, none⟩) 1 c) (hg : Blk w g 67 #[.int .i64 b.1, .int .i64 b.2.1, .int .i64 b.2.2]) (hb : IBar b)
    (hn : l.length ≤ 1000000) (hlo : lo ≤ w.heap.size)
    (h : ∀ v' w', BarsO w' lo w'.heap.size v' (l ++ [b]) → Below lo w w' → w.grownBy w' v.ownBlock → wpList Try.prog ops Q rest (a.put o.dst v') w') : wpList Try.prog ops Q (o :: rest) a w := by
  obtain ⟨i0, hi', hz0, hz1, hz2⟩ := info_parts infoBar
  refine wpList_append_G w hgd s x _ ho lo 67 i0 _ 3 24 Try.underlying35 hi' hz0 hz1 hz2 rfl (by decide) v l.length _ hs hown.1.1 _ 1 c [.int .i64 b.1, .int .i64 b.2.1, .int .i64 b.2.2] hx ⟨rfl, .inr ⟨g, 0, rfl, fun j y hj => ?_⟩⟩ ?_ (by simp only [maxLen]; omega) (by omega) hlo fun v' w' h1 h2 h3 => ?_
  · have hj3 := lt_of_some hj
    simp only [List.length_cons, List.length_nil] at hj3
    rw [Nat.zero_add]
    match j, hj with
    | 0, hj => rw [hg.cell]; exact hj
    | 1, hj => rw [hg.cell]; exact hj
    | 2, hj => rw [hg.cell]; exact hj
    | j + 3, hj => omega
  · intro y hy
    simp only [List.mem_cons, List.not_mem_nil, or_false] at hy
    rcases hy with rfl | rfl | rfl <;> rfl
  · refine h v' w' ⟨⟨?_, fun k hk => (h1.lt k hk).2, by simp; omega⟩, fun y hy => ?_⟩ (below_grown h2 (fun k hk => (hown.1.1.lt k hk).1) hlo) h2
    · rw [barCs_append, List.length_append]
      exact h1
    · rcases List.mem_append.1 hy with hy | hy
      · exact hown.2 y hy
      · rw [List.mem_singleton] at hy
        subst hy
        exact hb

theorem BarsO.made0 (w : World) {lo : Nat} (h : lo ≤ w.heap.size) : BarsO (w.alloc (.cells #[] 67)) lo (w.alloc (.cells #[] 67)).heap.size (.slice (some ⟨w.heap.size, 0, none⟩) 0 0) [] :=
  ⟨⟨World.ownsRow_made w #[] 0 h (by simp [maxLen]) (by simp), by simp [Value.ownBlock], by simp⟩, by simp⟩
end Go.Proofs.Ytcmlflppndfdcaa

/- What every law goes through: copies and marks of representations. -/
namespace Go.Proofs.Ytcmlflppndfdcaa
set_option linter.unusedVariables false
set_option linter.unusedSimpArgs false
open Go.RowKit

set_option maxHeartbeats 1600000 in
theorem rep_to (u : Value) (x : Rp) (w : World) (hu : RpR w w.heap.size u x) (hn : x.size ≤ 1048576) :
    Calls Try.prog 24 #[u] w fun e w' => ∃ v, e = .returned v ∧ RepO w' w.heap.size w'.heap.size v x ∧ Below w.heap.size w w' := by
  obtain ⟨A, a, C, c, E, e, H, h, rfl, hq, hd, hm, hp, _, _⟩ := hu.open_
  have hmI : Hid (∀ m ∈ x.m, I64 m.r ∧ I64 m.c) := fun m hmm => by
    obtain ⟨j, hj⟩ := List.getElem?_of_mem hmm
    obtain ⟨_, _, m', _, _, _, _, HX, _, _, _, _, h1, h2, _⟩ := SlM.at_ hm (lt_of_some hj)
    have := HX.out
    rw [hj] at this
    injection this with this
    subst this
    exact ⟨h1, h2⟩
  have hqv : I64 x.q.v := by obtain ⟨_, _, _, _, _, _, _, h, _⟩ := hq.open_; exact h
  clear hu
  simp only [Rp.size] at hn
  obtain ⟨Wa, hWa⟩ : ∃ W, W = (w.alloc (.cells #[.int .i64 x.p, .int .i64 x.q.v, .slice A x.q.f.length a, .slice C x.q.t.length c, .slice E x.d.length e, .slice H x.m.length h] 46)).alloc (.cells #[.int .i64 0, .int .i64 0, .slice none 0 0, .slice none 0 0, .slice none 0 0, .slice none 0 0] 31) := ⟨_, rfl⟩
  obtain ⟨Wb, hWb⟩ : ∃ W, W = Wa.alloc (.cells #[.int .i64 x.p, .int .i64 0, .slice none 0 0, .slice none 0 0, .slice none 0 0, .slice none 0 0] 31) := ⟨_, rfl⟩
  have za : Wa.heap.size = w.heap.size + 1 + 1 := by rw [hWa]; simp
  have zb : Wb.heap.size = w.heap.size + 1 + 1 + 1 := by rw [hWb]; simp [za]
  have kp : Blk Wb w.heap.size 46 #[.int .i64 x.p, .int .i64 x.q.v, .slice A x.q.f.length a, .slice C x.q.t.length c, .slice E x.d.length e, .slice H x.m.length h] := by rw [hWb, hWa]; exact ((Blk.new _ _ _).alloc _).alloc _
  have kr : Blk Wb (w.heap.size + 1) 31 #[.int .i64 0, .int .i64 0, .slice none 0 0, .slice none 0 0, .slice none 0 0, .slice none 0 0] := by
    rw [hWb, hWa]
    have := (Blk.new (w.alloc (.cells #[.int .i64 x.p, .int .i64 x.q.v, .slice A x.q.f.length a, .slice C x.q.t.length c, .slice E x.d.length e, .slice H x.m.length h] 46)) 31 #[.int .i64 0, .int .i64 0, .slice none 0 0, .slice none 0 0, .slice none 0 0, .slice none 0 0]).alloc (.cells #[.int .i64 x.p, .int .i64 0, .slice none 0 0, .slice none 0 0, .slice none 0 0, .slice none 0 0] 31)
    simpa only [World.size_alloc] using this
  have ko : Blk Wb (w.heap.size + 1 + 1) 31 #[.int .i64 x.p, .int .i64 0, .slice none 0 0, .slice none 0 0, .slice none 0 0, .slice none 0 0] := by
    rw [hWb, ← za]; exact Blk.new _ _ _
  have gb : Below w.heap.size w Wb := by rw [hWb, hWa]; exact (((Below.refl _ _).alloc (Nat.le_refl _) _).alloc (by simp) _).alloc (by simp; omega) _
  have ZB := Lib.hid zb
  clear za zb
  go_enter Try.func24, Try.ntmps24
  go_wp2_with fail
  rw [← hWa, ← hWb]
  clear hWa hWb
  refine (quiv_to _ _ _ (QvR.next gb hq) (by omega)).mono ?_; rintro e w1 ⟨v1, rfl, hQ, hb1⟩
  clear hq
  have s1 := hb1.size
  replace gb := bthen gb hb1
  replace kp := kp.call hb1
  replace pc0 := kp.cell' (i := 0) rfl
  replace pc1 := kp.cell' (i := 1) rfl
  replace pc2 := kp.cell' (i := 2) rfl
  replace pc3 := kp.cell' (i := 3) rfl
  replace pc4 := kp.cell' (i := 4) rfl
  replace pc5 := kp.cell' (i := 5) rfl
  replace kr := kr.call hb1
  replace r0 := kr.cell' (i := 0) rfl
  replace r1 := kr.cell' (i := 1) rfl
  replace r2 := kr.cell' (i := 2) rfl
  replace r3 := kr.cell' (i := 3) rfl
  replace r4 := kr.cell' (i := 4) rfl
  replace r5 := kr.cell' (i := 5) rfl
  replace ko := ko.call hb1
  replace o0 := ko.cell' (i := 0) rfl
  replace o1 := ko.cell' (i := 1) rfl
  replace o2 := ko.cell' (i := 2) rfl
  replace o3 := ko.cell' (i := 3) rfl
  replace o4 := ko.cell' (i := 4) rfl
  replace o5 := ko.cell' (i := 5) rfl
  clear hb1
  obtain ⟨qa, qb, rfl, hQF, _⟩ := hQ
  have fa : OwnI w1 _ qa x.q.f := (hQF.1 (qa, x.q.f) (by simp)).1
  have fb : OwnI w1 _ qb x.q.t := (hQF.1 (qb, x.q.t) (by simp)).1
  obtain ⟨A1, a1, rfl, _, _⟩ := fa.form
  obtain ⟨C1, c1, rfl, _, _⟩ := fb.form
  clear fa fb
  have fo := ko.frozen
  go_wp2_with fail
  clear pc0 pc1 pc2 pc3 pc4 pc5 r0 r1 r2 r3 r4 r5 o0 o1 o2 o3 o4 o5 fo
  obtain ⟨Wc, hWc⟩ : ∃ W, W = ((w1.setCell ⟨w.heap.size + 1 + 1, 1, none⟩ (.int .i64 x.q.v)).setCell ⟨w.heap.size + 1 + 1, 2, none⟩ (.slice A1 x.q.f.length a1)).setCell ⟨w.heap.size + 1 + 1, 3, none⟩ (.slice C1 x.q.t.length c1) := ⟨_, rfl⟩
  have zb := ZB.out
  have hC1 : Chg (w.heap.size + 1) (w.heap.size + 1 + 1 + 1) w1 Wc := by
    rw [hWc]
    exact ((chg_set (by simp) (by simp)).trans (chg_set (by simp) (by simp))).trans (chg_set (by simp) (by simp))
  have gc : Below w.heap.size w1 Wc := hC1.below (by omega) (by omega)
  have zc : Wc.heap.size = w1.heap.size := by rw [hWc]; simp
  have kp' : Blk Wc w.heap.size 46 #[.int .i64 x.p, .int .i64 x.q.v, .slice A x.q.f.length a, .slice C x.q.t.length c, .slice E x.d.length e, .slice H x.m.length h] := kp.chg hC1 (by omega)
  have kr' : Blk Wc (w.heap.size + 1) 31 #[.int .i64 0, .int .i64 0, .slice none 0 0, .slice none 0 0, .slice none 0 0, .slice none 0 0] := by rw [hWc]; exact ((kr.far (by simp) _).far (by simp) _).far (by simp) _
  have ko' : Blk Wc (w.heap.size + 1 + 1) 31 #[.int .i64 x.p, .int .i64 x.q.v, .slice A1 x.q.f.length a1, .slice C1 x.q.t.length c1, .slice none 0 0, .slice none 0 0] := by
    rw [hWc]; exact ((ko.set_ 1 _).set_ 2 _).set_ 3 _
  have hQF1 := hQF.chg hC1 (.inr (by omega))
  replace gb : Below w.heap.size w Wc := gb.trans gc
  rw [← hWc]
  clear hWc kp kr ko hQF hC1 gc
  have p4 := kp'.cell' (i := 4) rfl
  refine (ints_to _ _ _ (SlI.next gb hd) (by omega)).mono ?_; rintro e w2 ⟨v2, rfl, hD, hb2⟩
  obtain ⟨E1, e1, rfl, _, _⟩ := hD.1.form
  have s2 := hb2.size
  replace gb := bthen gb hb2
  replace kp' := kp'.call hb2
  replace kr' := kr'.call hb2
  replace ko' := ko'.call hb2
  replace hQF1 := hQF1.below hb2
  have p5 := kp'.cell' (i := 5) rfl
  have o4 := ko'.cell' (i := 4) rfl
  have fo := ko'.frozen
  clear hb2 hd p4
  go_wp2_with fail
  clear p5 o4 fo
  obtain ⟨Wd, hWd⟩ : ∃ W, W = w2.setCell ⟨w.heap.size + 1 + 1, 4, none⟩ (.slice E1 x.d.length e1) := ⟨_, rfl⟩
  have hC2 : Chg (w.heap.size + 1) (w.heap.size + 1 + 1 + 1) w2 Wd := by
    rw [hWd]
    exact chg_set (by simp) (by simp)
  have gd : Below w.heap.size w2 Wd := hC2.below (by omega) (by omega)
  have zd : Wd.heap.size = w2.heap.size := by rw [hWd]; simp
  replace kp' : Blk Wd w.heap.size 46 _ := kp'.chg hC2 (by omega)
  replace kr' : Blk Wd (w.heap.size + 1) 31 #[.int .i64 0, .int .i64 0, .slice none 0 0, .slice none 0 0, .slice none 0 0, .slice none 0 0] := by rw [hWd]; exact kr'.far (by simp) _
  replace ko' : Blk Wd (w.heap.size + 1 + 1) 31 #[.int .i64 x.p, .int .i64 x.q.v, .slice A1 x.q.f.length a1, .slice C1 x.q.t.length c1, .slice E1 x.d.length e1, .slice none 0 0] := by
    rw [hWd]; exact ko'.set_ 4 _
  replace hQF1 := hQF1.chg hC2 (.inr (by omega))
  replace hD := hD.chg hC2 (.inr (by omega))
  replace gb : Below w.heap.size w Wd := gb.trans gd
  rw [← hWd]
  clear hWd hC2 gd
  have p5 := kp'.cell' (i := 5) rfl
  refine (mats_to _ _ _ (SlM.next gb hm) (by simp only [szM] at hn; omega) (fun m hmm => by have := totA_mem hmm; simp only [szM] at hn; simp only [Mx.size]; omega)).mono ?_; rintro e w3 ⟨v3, rfl, hM, hb3⟩
  obtain ⟨vs, hO, hvl, hFM, _⟩ := hM
  obtain ⟨H1, h1, rfl, _, _⟩ := hO.form
  have HVL := Lib.hid hvl
  have s3 := hb3.size
  replace gb := bthen gb hb3
  replace kr' := kr'.call hb3
  replace ko' := ko'.call hb3
  replace hQF1 := hQF1.below hb3
  replace hD := hD.below hb3
  have o0 := ko'.cell' (i := 0) rfl
  have o1 := ko'.cell' (i := 1) rfl
  have o2 := ko'.cell' (i := 2) rfl
  have o3 := ko'.cell' (i := 3) rfl
  have o4 := ko'.cell' (i := 4) rfl
  have o5 := ko'.cell' (i := 5) rfl
  have r0 := kr'.cell' (i := 0) rfl
  have r1 := kr'.cell' (i := 1) rfl
  have r2 := kr'.cell' (i := 2) rfl
  have r3 := kr'.cell' (i := 3) rfl
  have r4 := kr'.cell' (i := 4) rfl
  have r5 := kr'.cell' (i := 5) rfl
  have fo := ko'.frozen
  have fr := kr'.frozen
  clear hb3 hm p5 kp' hvl
  have HZC := Lib.hid zc
  have HZD := Lib.hid zd
  clear zb zc zd
  go_wp2
  have zb := ZB.out
  have zc := HZC.out
  have zd := HZD.out
  have hF : Fam w3 Wb.heap.size w3.heap.size ([(.slice A1 x.q.f.length a1, x.q.f), (.slice C1 x.q.t.length c1, x.q.t)] ++ ([(.slice E1 x.d.length e1, x.d)] ++ vs.zip (x.m.map Mx.a))) :=
    Fam.join (mi := Wc.heap.size) (hQF1.mono (Nat.le_refl _) (by omega)) (Fam.join (mi := Wd.heap.size) ((Fam.one hD).mono (Nat.le_refl _) (by omega)) hFM (by omega) (by omega)) (by omega) (by omega)
  refine bodyPost_ret (v := .agg #[.int .i64 x.p, .int .i64 x.q.v, .slice A1 x.q.f.length a1, .slice C1 x.q.t.length c1, .slice E1 x.d.length e1, .slice H1 x.m.length h1]) (by simp [results, go_sem, r0, r1, r2, r3, r4, r5]) rfl ⟨_, rfl, ⟨_, _, _, _, vs, rfl, ?_, HVL.out, ?_, ⟨hp, hqv⟩, hmI.out⟩, ((((((gb.setCell (by simp; omega) _).setCell (by simp) _).setCell (by simp) _).setCell (by simp) _).setCell (by simp) _).setCell (by simp) _).setCell (by simp) _⟩
  · have hc : Chg (w.heap.size + 1) (w.heap.size + 1 + 1 + 1) w3 _ := ((((((chg_set (w := w3) (p := ⟨w.heap.size + 1 + 1, 5, none⟩) (u := .slice H1 x.m.length h1) (by simp) (by simp)).trans (chg_set (p := ⟨w.heap.size + 1, 0, none⟩) (u := .int .i64 x.p) (by simp) (by simp))).trans (chg_set (p := ⟨w.heap.size + 1, 1, none⟩) (u := .int .i64 x.q.v) (by simp) (by simp))).trans (chg_set (p := ⟨w.heap.size + 1, 2, none⟩) (u := .slice A1 x.q.f.length a1) (by simp) (by simp))).trans (chg_set (p := ⟨w.heap.size + 1, 3, none⟩) (u := .slice C1 x.q.t.length c1) (by simp) (by simp))).trans (chg_set (p := ⟨w.heap.size + 1, 4, none⟩) (u := .slice E1 x.d.length e1) (by simp) (by simp))).trans (chg_set (p := ⟨w.heap.size + 1, 5, none⟩) (u := .slice H1 x.m.length h1) (by simp) (by simp))
    exact RowO.mono (hO.chg hc (.inr (by omega))) (by omega) (by simp)
  · have hc : Chg (w.heap.size + 1) (w.heap.size + 1 + 1 + 1) w3 _ := ((((((chg_set (w := w3) (p := ⟨w.heap.size + 1 + 1, 5, none⟩) (u := .slice H1 x.m.length h1) (by simp) (by simp)).trans (chg_set (p := ⟨w.heap.size + 1, 0, none⟩) (u := .int .i64 x.p) (by simp) (by simp))).trans (chg_set (p := ⟨w.heap.size + 1, 1, none⟩) (u := .int .i64 x.q.v) (by simp) (by simp))).trans (chg_set (p := ⟨w.heap.size + 1, 2, none⟩) (u := .slice A1 x.q.f.length a1) (by simp) (by simp))).trans (chg_set (p := ⟨w.heap.size + 1, 3, none⟩) (u := .slice C1 x.q.t.length c1) (by simp) (by simp))).trans (chg_set (p := ⟨w.heap.size + 1, 4, none⟩) (u := .slice E1 x.d.length e1) (by simp) (by simp))).trans (chg_set (p := ⟨w.heap.size + 1, 5, none⟩) (u := .slice H1 x.m.length h1) (by simp) (by simp))
    exact Fam.mono (hF.chg hc (.inr (by omega))) (by omega) (by simp)

/-- rows of other elements are left alone -/
def KeepT (lo hi : Nat) (w w' : World) : Prop := ∀ (T : TypeId) (sz : Nat) (v : Value) (n : Nat) (cs : List Value), 3 ≠ T → RowO T sz w lo hi v n cs → RowO T sz w' lo hi v n cs
theorem KeepT.of_below {lo hi : Nat} {w w' : World} (hb : Below w.heap.size w w') : KeepT lo hi w w' := fun _ _ _ _ _ _ h => h.below hb
theorem KeepT.of_grown {lo hi base : Nat} {w w' : World} {u : Value} {l : List Int} (ho : OwnI w base u l) (hg : w.grownBy w' u.ownBlock) : KeepT lo hi w w' := fun _ _ _ _ _ ht h => h.grown ht ho hg
theorem KeepT.trans {lo hi : Nat} {a b c : World} (h : KeepT lo hi a b) (k : KeepT lo hi b c) : KeepT lo hi a c := fun T sz v n cs ht hr => k T sz v n cs ht (h T sz v n cs ht hr)

set_option maxHeartbeats 400000 in
theorem markQuiver_fam (a b : Value) (q : Qv) (L1 : List (Value × List Int)) (k : Int) (lo hi : Nat) (w : World) (hF : Fam w lo hi ([(a, q.f), (b, q.t)] ++ L1)) (hh : hi ≤ w.heap.size) (h0 : 0 ≤ k) (h1 : k ≤ 1125899906842624) :
    Calls Try.prog 16 #[.agg #[.int .i64 q.v, a, b], .int .i64 k] w fun e w' => e = .returned (.int .i64 (k + q.size)) ∧ Fam w' lo hi ([(a, mkI k q.f.length), (b, mkI (k + q.f.length) q.t.length)] ++ L1) ∧ Chg lo hi w w' ∧ KeepT lo hi w w' := by
  have fa : OwnI w lo a q.f := (hF.1 (a, q.f) (by simp)).1
  have fb : OwnI w lo b q.t := (hF.1 (b, q.t) (by simp)).1
  obtain ⟨A, c, rfl, _, _⟩ := fa.form
  obtain ⟨C, d, rfl, _, _⟩ := fb.form
  have la := fa.2.1
  have lb := fb.2.1
  have g0 := below_alloc w (.cells #[.int .i64 q.v, .slice A q.f.length c, .slice C q.t.length d] 28)
  have hF0 := hF.below g0
  go_enter Try.func16, Try.ntmps16
  go_wp2_with fail
  have fa0 : IntsO _ lo hi (.slice A q.f.length c) q.f := hF0.1 (_, q.f) (by simp)
  refine (markIntS_any _ _ _ lo _ fa0.1 h0 (by omega)).mono ?_; rintro e w1 ⟨rfl, ho1, hg1⟩
  have hF1 := Fam.turn (L1 := []) hF0 ho1 hg1
  have hc1 := chg_of_grown fa0 hg1
  have hk1 := KeepT.of_grown (lo := lo) (hi := hi) fa0.1 hg1
  have cB := ((Blk.new w 28 #[.int .i64 q.v, .slice A q.f.length c, .slice C q.t.length d]).chg hc1 (.inr hh)).cell' (i := 2) rfl
  have fb1 : IntsO w1 lo hi (.slice C q.t.length d) q.t := hF1.1 (_, q.t) (by simp)
  clear hF hF0 ho1 hg1 fa fb fa0
  go_wp2_with fail
  refine (markIntS_any _ _ _ lo _ fb1.1 (by omega) (by omega)).mono ?_; rintro e w2 ⟨rfl, ho2, hg2⟩
  have hF2 := Fam.turn (L1 := [(_, mkI k q.f.length)]) hF1 ho2 hg2
  have hc2 := chg_of_grown fb1 hg2
  have hk2 := KeepT.of_grown (lo := lo) (hi := hi) fb1.1 hg2
  clear ho2 hg2 fb1 hF1
  go_wp2
  go_ret
  refine ⟨?_, hF2, (Chg.of_below g0).trans (hc1.trans hc2), (KeepT.of_below g0).trans (hk1.trans hk2)⟩
  have e : k + (q.size : Int) = k + q.f.length + q.t.length := by simp only [Qv.size]; omega
  rw [e]; rfl

set_option maxHeartbeats 800000 in
theorem rep_mark (v : Value) (x : Rp) (k : Int) (lo hi : Nat) (w : World) (hv : RepO w lo hi v x) (hh : hi ≤ w.heap.size) (h0 : 0 ≤ k) (h1 : k ≤ 1099511627776) (hsz : x.size ≤ 1048576) :
    Calls Try.prog 18 #[v, .int .i64 k] w fun e w' => e = .returned (.int .i64 (k + x.marks)) ∧ RepO w' lo hi v (RepO.mk k x) ∧ Chg lo hi w w' := by
  obtain ⟨f, t, d, m, vs, rfl, ho, hl, hF, hI, _⟩ := hv
  have HL := Lib.hid hl
  clear hl
  have ff : OwnI w lo f x.q.f := (hF.1 (f, x.q.f) (by simp)).1
  have ft : OwnI w lo t x.q.t := (hF.1 (t, x.q.t) (by simp)).1
  have fd : OwnI w lo d x.d := (hF.1 (d, x.d) (by simp)).1
  obtain ⟨A, a, rfl, _, _⟩ := ff.form
  obtain ⟨C, c, rfl, _, _⟩ := ft.form
  obtain ⟨E, e, rfl, _, _⟩ := fd.form
  obtain ⟨H, h, rfl, _, _⟩ := ho.form
  have ht : totM x.m ≤ 4194304 := by rw [totM_eq]; simp only [Rp.size, szM] at hsz; omega
  have hqs : x.q.size ≤ 1048576 := by simp only [Rp.size] at hsz; omega
  have hds : x.d.length ≤ 1048576 := by simp only [Rp.size] at hsz; omega
  clear ff ft fd
  obtain ⟨W, hW⟩ : ∃ W, W = w.alloc (.cells #[.int .i64 x.p, .int .i64 x.q.v, .slice A x.q.f.length a, .slice C x.q.t.length c, .slice E x.d.length e, .slice H x.m.length h] 31) := ⟨_, rfl⟩
  have g0 : Below w.heap.size w W := by rw [hW]; exact below_alloc _ _
  have kB : Blk W w.heap.size 31 #[.int .i64 x.p, .int .i64 x.q.v, .slice A x.q.f.length a, .slice C x.q.t.length c, .slice E x.d.length e, .slice H x.m.length h] := by rw [hW]; exact Blk.new _ _ _
  replace hF := hF.below g0
  replace ho := ho.below g0
  have hs0 := g0.size
  have HF := Lib.hid hF
  clear hF
  go_enter Try.func18, Try.ntmps18
  go_wp2_with fail
  rw [← hW]; clear hW
  refine (markQuiver_fam _ _ x.q ([(.slice E x.d.length e, x.d)] ++ vs.zip (x.m.map Mx.a)) _ lo hi _ HF.out (by omega) h0 (by omega)).mono ?_; rintro e w1 ⟨rfl, hF1, hc1, hk1⟩
  have ho1 : OutM w1 lo hi (.slice H x.m.length h) vs x.m := hk1 _ _ _ _ _ (by decide) ho
  have kB1 := kB.chg hc1 (.inr hh)
  have c4 := kB1.cell' (i := 4) rfl
  have hd : IntsO w1 lo hi (.slice E x.d.length e) x.d := hF1.1 (_, x.d) (by simp)
  clear ho kB hk1
  have HF1 := Lib.hid hF1
  clear hF1
  go_wp2_with fail
  refine (markIntS_any _ _ _ lo _ hd.1 (by omega) (by omega)).mono ?_; rintro e w2 ⟨rfl, ho2, hg2⟩
  have hF2 := Fam.turn (L1 := [(_, mkI k x.q.f.length), (_, mkI (k + x.q.f.length) x.q.t.length)]) HF1.out ho2 hg2
  have hc2 := chg_of_grown hd hg2
  have hO2 : OutM w2 lo hi (.slice H x.m.length h) vs x.m := ho1.grown (by decide) hd.1 hg2
  have kB2 := kB1.chg hc2 (.inr hh)
  have c5 := kB2.cell' (i := 5) rfl
  have HF2 := Lib.hid hF2
  clear ho1 kB1 c4 hd HF1 ho2 hg2 hF2
  go_wp2_with fail
  refine (markMatrixS_fam _ vs x.m [(.slice A x.q.f.length a, mkI k x.q.f.length), (.slice C x.q.t.length c, mkI (k + x.q.f.length) x.q.t.length), (.slice E x.d.length e, mkI (k + x.q.size) x.d.length)] _ lo hi _ hO2 HL.out HF2.out (by omega) (by omega) (by omega)).mono ?_; rintro e w3 ⟨rfl, ho3, hF3, hc3⟩
  have hI3 : ∀ m ∈ mkMS (k + x.q.size + x.d.length) x.m, I64 m.r ∧ I64 m.c := by
    intro m hm
    obtain ⟨j, hj⟩ := List.getElem?_of_mem hm
    have hjl := lt_of_some hj
    rw [mkMS_length] at hjl
    have := mkMS_get x.m (k + x.q.size + x.d.length) j _ (List.getElem?_eq_getElem hjl)
    rw [hj] at this
    injection this with this
    subst this
    have hle := totM_take_le x.m j
    simp only
    exact ⟨⟨by omega, by omega⟩, ⟨by omega, by omega⟩⟩
  have HI3 := Lib.hid hI3
  have HO3 := Lib.hid ho3
  have HF3 := Lib.hid hF3
  clear hI3 ho3 hF3 HF2 hO2 HF
  have hL3 := Lib.hid (show vs.length = (mkMS (k + x.q.size + x.d.length) x.m).length by rw [mkMS_length]; exact HL.out)
  go_wp2
  go_ret
  refine ⟨?_, ⟨_, _, _, _, vs, ?_, HO3.out, hL3.out, HF3.out, hI, HI3.out⟩, (Chg.of_below g0).trans (hc1.trans (hc2.trans hc3))⟩
  · have e : k + (x.marks : Int) = k + x.q.size + x.d.length + totM x.m := by simp only [Rp.marks]; omega
    rw [e]; rfl
  · simp [RepO.mk, QuivO.mk, mkMS_length, mkI_length]

set_option maxHeartbeats 800000 in
theorem rep_held (v : Value) (x : Rp) (k : Int) (w : World) (hv : RpR w w.heap.size v (RepO.mk k x)) (h0 : 0 ≤ k) (h1 : k ≤ 1099511627776) (hsz : x.size ≤ 1048576) :
    Calls Try.prog 19 #[v, .int .i64 k] w fun e w' => e = .returned (.int .i64 (k + x.marks)) ∧ Below w.heap.size w w' := by
  obtain ⟨A, a, C, c, E, e, H, h, rfl, hq, hd, hm, _, _, _⟩ := hv.open_
  clear hv
  have ht : totM x.m ≤ 4194304 := by rw [totM_eq]; simp only [Rp.size, szM] at hsz; omega
  have hqs : x.q.size ≤ 1048576 := by simp only [Rp.size] at hsz; omega
  have hds : x.d.length ≤ 1048576 := by simp only [Rp.size] at hsz; omega
  obtain ⟨W, hW⟩ : ∃ W, W = w.alloc (.cells #[.int .i64 (RepO.mk k x).p, .int .i64 (RepO.mk k x).q.v, .slice A (RepO.mk k x).q.f.length a, .slice C (RepO.mk k x).q.t.length c, .slice E (RepO.mk k x).d.length e, .slice H (RepO.mk k x).m.length h] 31) := ⟨_, rfl⟩
  have g0 : Below w.heap.size w W := by rw [hW]; exact below_alloc _ _
  have kB : Blk W w.heap.size 31 #[.int .i64 (RepO.mk k x).p, .int .i64 (RepO.mk k x).q.v, .slice A (RepO.mk k x).q.f.length a, .slice C (RepO.mk k x).q.t.length c, .slice E (RepO.mk k x).d.length e, .slice H (RepO.mk k x).m.length h] := by rw [hW]; exact Blk.new _ _ _
  have hq' : QvR W W.heap.size (.agg #[.int .i64 (RepO.mk k x).q.v, .slice A (RepO.mk k x).q.f.length a, .slice C (RepO.mk k x).q.t.length c]) (QuivO.mk k x.q) := QvR.next g0 hq
  have hd' : SlI W W.heap.size (.slice E (RepO.mk k x).d.length e) (mkI (k + x.q.size) x.d.length) := SlI.next g0 hd
  have hm' : SlM W W.heap.size (.slice H (RepO.mk k x).m.length h) (mkMS (k + x.q.size + x.d.length) x.m) := SlM.next g0 hm
  clear hq hd hm
  generalize RepO.mk k x = y at *
  have n1 : ¬ (k + (x.q.size : Int) < 0) := by omega
  have n2 : ¬ (k + (x.q.size : Int) + x.d.length < 0) := by omega
  have n3 : ¬ (k + (x.q.size : Int) + x.d.length + totM x.m < 0) := by omega
  go_enter Try.func19, Try.ntmps19
  go_wp2_with fail
  rw [← hW]; clear hW
  refine (quiv_held _ _ _ _ hq' h0 (by omega)).mono ?_; rintro e w1 ⟨rfl, hb1⟩
  clear hq'
  replace g0 := bthen g0 hb1
  replace hd' := SlI.next hb1 hd'
  replace hm' := SlM.next hb1 hm'
  replace kB := kB.call hb1
  replace c0 := kB.cell' (i := 0) rfl
  replace c1 := kB.cell' (i := 1) rfl
  replace c2 := kB.cell' (i := 2) rfl
  replace c3 := kB.cell' (i := 3) rfl
  replace c4 := kB.cell' (i := 4) rfl
  replace c5 := kB.cell' (i := 5) rfl
  clear hb1
  go_wp2_with fail
  refine (heldIntS_any _ _ (k + x.q.size) _ _ hd' (by omega) (by omega)).mono ?_; rintro e w_1 ⟨rfl, hb_1⟩
  replace g0 := bthen g0 hb_1
  replace hd' := SlI.next hb_1 hd'
  replace hm' := SlM.next hb_1 hm'
  replace kB := kB.call hb_1
  replace c0 := kB.cell' (i := 0) rfl
  replace c1 := kB.cell' (i := 1) rfl
  replace c2 := kB.cell' (i := 2) rfl
  replace c3 := kB.cell' (i := 3) rfl
  replace c4 := kB.cell' (i := 4) rfl
  replace c5 := kB.cell' (i := 5) rfl
  go_wp2_with fail
  refine (heldMatrixS_any _ x.m (k + x.q.size + x.d.length) _ hm' (by omega) (by omega) (by omega)).mono ?_; rintro e w_2 ⟨rfl, hb_2⟩
  replace g0 := bthen g0 hb_2
  replace hd' := SlI.next hb_2 hd'
  replace hm' := SlM.next hb_2 hm'
  replace kB := kB.call hb_2
  replace c0 := kB.cell' (i := 0) rfl
  replace c1 := kB.cell' (i := 1) rfl
  replace c2 := kB.cell' (i := 2) rfl
  replace c3 := kB.cell' (i := 3) rfl
  replace c4 := kB.cell' (i := 4) rfl
  replace c5 := kB.cell' (i := 5) rfl
  clear hd' hm' kB
  go_wp2
  go_ret
  have e : k + (x.marks : Int) = k + x.q.size + x.d.length + totM x.m := by simp only [Rp.marks]; omega
  exact ⟨by rw [e]; rfl, g0⟩
end Go.Proofs.Ytcmlflppndfdcaa

/- Facts of the whole program that every row asks for, each met once for the seat. -/
namespace Go.Proofs.Ytcmlflppndfdcaa
set_option linter.unusedVariables false
set_option linter.unusedSimpArgs false
open Go.RowKit

theorem seatEnter : Try.prog.mayEnter = true := by kernel_rfl
theorem seatLifts : (false == Try.prog.liftsFinal) = true := by kernel_rfl
theorem seatMake : (Try.prog.make == some .cut) = true := by kernel_rfl
theorem band {a b : Bool} (h : a = true) (k : b = true) : (a && b) = true := by rw [h, k]; rfl
end Go.Proofs.Ytcmlflppndfdcaa
