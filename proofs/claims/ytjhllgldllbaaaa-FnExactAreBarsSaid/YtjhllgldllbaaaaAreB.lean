/- AreBars: the program's and the reference's. -/
import Derived.Test.YtjhllgldllbaaaaCmpB
import Derived.Test.YtjhllgldllbaaaaLine
namespace Go.Proofs.Ytjhllgldllbaaaa
set_option linter.unusedVariables false
set_option linter.unusedSimpArgs false
open Go.RowKit

def barAt (v : Int) (l : List Bar) (j : Nat) : Bool :=
  inR (l.getD j (0, 0, 0)).1 0 (v - 1) && (inR (l.getD j (0, 0, 0)).2.1 (l.getD j (0, 0, 0)).1 (v - 1) && (inR (l.getD j (0, 0, 0)).2.2 1 8 && (decide (j = 0) || decide (cmpB (l.getD (j - 1) (0, 0, 0)) (l.getD j (0, 0, 0)) < 0))))
def areB (q : Qv) (l : List Bar) : Bool := isL q && (List.range l.length).all (barAt q.v l)
def barsTo (v : Int) (l : List Bar) (k : Nat) : Prop := ∀ j, j < k → barAt v l j = true
theorem areB_noL {q : Qv} (l : List Bar) (h : isL q = false) : areB q l = false := by simp [areB, h]
theorem areB_bad {q : Qv} {l : List Bar} {k : Nat} (hk : k < l.length) (h : barAt q.v l k = false) : areB q l = false := by
  have : (List.range l.length).all (barAt q.v l) = false := by
    rw [List.all_eq_false]
    exact ⟨k, by simp [hk], by simp [h]⟩
  simp [areB, this]
theorem areB_yes {q : Qv} {l : List Bar} (h : isL q = true) (hb : barsTo q.v l l.length) : areB q l = true := by
  simp only [areB, h, Bool.true_and, List.all_eq_true, List.mem_range]
  exact hb
theorem barsTo_succ {v : Int} {l : List Bar} {k : Nat} (h : barsTo v l k) (hb : barAt v l k = true) : barsTo v l (k + 1) := fun j hj => by
  by_cases e : j = k
  · subst e; exact hb
  · exact h j (by omega)
theorem barAt_of {v : Int} {l : List Bar} {k : Nat} {x y z : Int} (h : l[k]? = some (x, y, z)) :
    barAt v l k = (inR x 0 (v - 1) && (inR y x (v - 1) && (inR z 1 8 && (decide (k = 0) || decide (cmpB (l.getD (k - 1) (0, 0, 0)) (x, y, z) < 0))))) := by
  have e : l.getD k (0, 0, 0) = (x, y, z) := by rw [List.getD_eq_getElem?_getD, h]; rfl
  simp only [barAt, e]

set_option maxHeartbeats 3200000 in
set_option maxRecDepth 100000 in
theorem implAreBars_any (u : Value) (q : Qv) (v : Value) (l : List Bar) (w0 : World) (hu : QvR w0 w0.heap.size u q) (hv : SlB w0 w0.heap.size v l) :
    Calls Try.prog 32 #[u, v] w0 fun e w' => e = .returned (.bool (areB q l)) ∧ Below w0.heap.size w0 w' := by
  have hu' := hu
  obtain ⟨A, c, C, c', rfl, hf, ht, hr, lf, lt⟩ := hu.open_
  obtain ⟨D, d, rfl, _, _, hn, hx⟩ := hv.open_
  clear hu hf ht hv
  obtain ⟨W, hW⟩ : ∃ W, W = w0.alloc (.cells #[.int .i64 q.v, .slice A q.f.length c, .slice C q.t.length c'] 26) := ⟨_, rfl⟩
  have g0 : Below w0.heap.size w0 W := by rw [hW]; exact below_alloc _ _
  have kq : Blk W w0.heap.size 26 #[.int .i64 q.v, .slice A q.f.length c, .slice C q.t.length c'] := by rw [hW]; exact Blk.new _ _ _
  have hq := QvR.next g0 hu'
  have c0 := kq.cell' (i := 0) rfl
  have c1 := kq.cell' (i := 1) rfl
  have c2 := kq.cell' (i := 2) rfl
  clear hu'
  rcases hL : isL q with _ | _
  · rw [areB_noL l hL]
    have HL := Lib.hid hL
    clear hL
    go_enter Try.func32, Try.ntmps32
    go_wp2_with fail
    rw [← hW]; clear hW
    refine (implIsLine_any _ _ _ hq).mono ?_; rintro e w1 ⟨rfl, hb1⟩
    rw [HL.out]
    go_wp2
    go_ret
    exact ⟨rfl, bthen g0 hb1⟩
  · have hv1 := (isQ_t.1 (by have := isL_noZ (q := q); rcases hz : isZ q with _ | _; exact absurd (this hz) (by simp [hL]); exact (isZ_t hz).1)).1
    have HL := Lib.hid hL
    clear hL
    go_enter Try.func32, Try.ntmps32
    go_wp2_with fail
    rw [← hW]; clear hW
    refine (implIsLine_any _ _ _ hq).mono ?_; rintro e w1 ⟨rfl, hb1⟩
    rw [HL.out]
    have kq1 := kq.call hb1
    have g1 := bthen g0 hb1
    have s1 := g1.size
    clear c0 c1 c2 kq hb1 g0 hq
    go_wp2
    go_loopw [12] (fun i wr => ∃ k : Nat, k ≤ l.length ∧ i = .int .i64 k ∧ Below w1.heap.size w1 wr ∧ Hid (barsTo q.v l k)) (fun i _ => l.length - (intOf i).toNat)
    case atStart => exact ⟨0, Nat.zero_le _, rfl, Below.refl _ _, fun j h => absurd h (by omega)⟩
    case round =>
      obtain ⟨k, hk, rfl, hbel, hto⟩ := hrel
      have gw := bthen g1 hbel
      have ws := hbel.size
      by_cases hlt : k < l.length
      · obtain ⟨b, o, x, y, z, rfl, hb, HX, y1, y2, y3, rx, ry, rz⟩ := SlB.at_ hx hlt
        have HBA := Lib.hid (barAt_of (v := q.v) HX.out)
        obtain ⟨X, hX⟩ : ∃ X, X = wr.alloc (.cells #[.int .i64 x, .int .i64 y, .int .i64 z] 80) := ⟨_, rfl⟩
        have gX : Below wr.heap.size wr X := by rw [hX]; exact below_alloc _ _
        have kX : Blk X wr.heap.size 80 #[.int .i64 x, .int .i64 y, .int .i64 z] := by rw [hX]; exact Blk.new _ _ _
        have kqX := (kq1.call hbel).call gX
        have z1 := bcell gw hb y1
        have z2 := bcell gw hb y2
        have z3 := bcell gw hb y3
        have e0 := fun s : InB X => (kX.call s.below).cell' (i := 0) rfl
        have e1 := fun s : InB X => (kX.call s.below).cell' (i := 1) rfl
        have e2 := fun s : InB X => (kX.call s.below).cell' (i := 2) rfl
        have q0 := fun s : InB X => (kqX.call s.below).cell' (i := 0) rfl
        have hGX := Lib.hid (bthen hbel gX)
        have sX := gX.size
        have gwX := bthen gw gX
        rcases h1 : inR x 0 (q.v - 1) with _ | _
        · have HF := Lib.hid (areB_bad (q := q) hlt (by rw [HBA.out, h1]; rfl))
          clear y1 y2 y3 kX kqX gw gX
          go_wp2
          rw [← hX]; clear hX z1 z2 z3
          (refine wp_region_inB (by kernel_rfl) (by kernel_rfl) ?_; (repeat (go_big_quiet_step ((go_at_call 65; exact InB.call_same (within_any _ _ _ _))))); refine wpQuiet_nil ?_; intro w1 hw'; obtain ⟨s1, hw1⟩ := hw'; have hb1 := s1.below; rw [← hw1] at hb1; clear hw1 s1)
          go_wp2
          go_ret
          exact ⟨by rw [HF.out]; rfl, gwX.trans (hb1.mono gwX.size)⟩
        rcases h2 : inR y x (q.v - 1) with _ | _
        · have HF := Lib.hid (areB_bad (q := q) hlt (by rw [HBA.out, h1, h2]; rfl))
          clear y1 y2 y3 kX kqX gw gX
          go_wp2
          rw [← hX]; clear hX z1 z2 z3
          (refine wp_region_inB (by kernel_rfl) (by kernel_rfl) ?_; (repeat (go_big_quiet_step ((go_at_call 65; exact InB.call_same (within_any _ _ _ _))))); refine wpQuiet_nil ?_; intro w1 hw'; obtain ⟨s1, hw1⟩ := hw'; have hb1 := s1.below; rw [← hw1] at hb1; clear hw1 s1)
          go_wp2
          go_ret
          exact ⟨by rw [HF.out]; rfl, gwX.trans (hb1.mono gwX.size)⟩
        rcases h3 : inR z 1 8 with _ | _
        · have HF := Lib.hid (areB_bad (q := q) hlt (by rw [HBA.out, h1, h2, h3]; rfl))
          clear y1 y2 y3 kX kqX gw gX
          go_wp2
          rw [← hX]; clear hX z1 z2 z3
          (refine wp_region_inB (by kernel_rfl) (by kernel_rfl) ?_; (repeat (go_big_quiet_step ((go_at_call 65; exact InB.call_same (within_any _ _ _ _))))); refine wpQuiet_nil ?_; intro w1 hw'; obtain ⟨s1, hw1⟩ := hw'; have hb1 := s1.below; rw [← hw1] at hb1; clear hw1 s1)
          go_wp2
          go_ret
          exact ⟨by rw [HF.out]; rfl, gwX.trans (hb1.mono gwX.size)⟩
        rcases Nat.eq_zero_or_pos k with rfl | hk0
        · have HT : Hid (barAt q.v l 0 = true) := by show _ = _; rw [HBA.out, h1, h2, h3]; rfl
          simp only [Nat.zero_mul, Nat.add_zero] at z1 z2 z3
          clear y1 y2 y3 kX kqX gw gX
          go_wp2
          rw [← hX]; clear hX z1 z2 z3
          (refine wp_region_inB (by kernel_rfl) (by kernel_rfl) ?_; (repeat (go_big_quiet_step ((go_at_call 65; exact InB.call_same (within_any _ _ _ _))))); refine wpQuiet_nil ?_; intro w1 hw'; obtain ⟨s1, hw1⟩ := hw'; have hb1 := s1.below; rw [← hw1] at hb1; clear hw1 s1)
          go_wp2
          go_roundw
          case rel => exact ⟨1, by omega, by go_num, hGX.out.trans (hb1.mono hGX.out.size), barsTo_succ hto.out HT.out⟩
          case measure => simp [intOf]; omega
        · obtain ⟨j, rfl⟩ : ∃ j, k = j + 1 := ⟨k - 1, by omega⟩
          obtain ⟨b', o', x', y', z', eb, _, HX', y1', y2', y3', _⟩ := SlB.at_ (k := j) hx (by omega)
          injection eb with eb
          injection eb with eb1 eb2
          subst eb1 eb2
          have hgj : l.getD j (0, 0, 0) = (x', y', z') := by rw [List.getD_eq_getElem?_getD, HX'.out]; rfl
          have HC : Hid (∀ X, Calls Try.prog 78 #[.agg #[.int .i64 x', .int .i64 y', .int .i64 z'], .agg #[.int .i64 x, .int .i64 y, .int .i64 z]] X fun e w' => e = .returned (.int .i64 (cmpB (x', y', z') (x, y, z))) ∧ Below X.heap.size X w') := fun X => compareBars_any x' y' z' x y z X
          have hcr := cmpB_r (x', y', z') (x, y, z)
          have hba := HBA.out
          rw [Nat.add_sub_cancel, hgj, h1, h2, h3] at hba
          obtain ⟨cv, hcv⟩ : ∃ cv, cmpB (x', y', z') (x, y, z) = cv := ⟨_, rfl⟩
          rw [hcv] at hba hcr HC
          have p1 := InB.cell (w := X) (by omega) (bcell gwX hb y1')
          have p2 := InB.cell (w := X) (by omega) (bcell gwX hb y2')
          have p3 := InB.cell (w := X) (by omega) (bcell gwX hb y3')
          have hw1 : IntKind.i64.wrap ((j : Int) + 1 - 1) = (j : Int) := by rw [show (j : Int) + 1 - 1 = j by omega]; exact IntWalk.i64_in _ (by omega)
          by_cases h5 : cv < 0
          · have HT : Hid (barAt q.v l (j + 1) = true) := by show _ = _; rw [hba]; simp [h5]
            have hd5 : decide (0 ≤ cv) = false := decide_eq_false (by omega)
            clear y1 y2 y3 kX kqX gw gX y1' y2' y3' hba hcv hgj hx
            go_wp2
            rw [← hX]; clear hX z1 z2 z3
            (refine wp_region_inB (by kernel_rfl) (by kernel_rfl) ?_; (repeat (go_big_quiet_step (first | (go_at_call 65; exact InB.call_same (within_any _ _ _ _)) | (go_at_call 78; exact InB.call (HC.out _))))); refine wpQuiet_nil ?_; intro w1 hw'; obtain ⟨s1, hw1⟩ := hw'; have hb1 := s1.below; rw [← hw1] at hb1; clear hw1 s1)
            go_wp2
            go_roundw
            case rel => exact ⟨j + 1 + 1, by omega, by go_num, hGX.out.trans (hb1.mono hGX.out.size), barsTo_succ hto.out HT.out⟩
            case measure => simp [intOf]; omega
          · have HF := Lib.hid (areB_bad (q := q) hlt (by rw [hba]; simp [h5]))
            have hd5 : decide (0 ≤ cv) = true := decide_eq_true (by omega)
            clear y1 y2 y3 kX kqX gw gX y1' y2' y3' hba hcv hgj hx
            go_wp2
            rw [← hX]; clear hX z1 z2 z3
            (refine wp_region_inB (by kernel_rfl) (by kernel_rfl) ?_; (repeat (go_big_quiet_step (first | (go_at_call 65; exact InB.call_same (within_any _ _ _ _)) | (go_at_call 78; exact InB.call (HC.out _))))); refine wpQuiet_nil ?_; intro w1 hw'; obtain ⟨s1, hw1⟩ := hw'; have hb1 := s1.below; rw [← hw1] at hb1; clear hw1 s1)
            go_wp2
            go_ret
            exact ⟨by rw [HF.out]; rfl, gwX.trans (hb1.mono gwX.size)⟩
      · have HT := Lib.hid (areB_yes HL.out (l := l) (by have := hto.out; rwa [show k = l.length by omega] at this))
        go_wp2
        go_ret
        exact ⟨by rw [HT.out]; rfl, gw⟩
set_option maxHeartbeats 3200000 in
set_option maxRecDepth 100000 in
theorem specAreBars_any (u : Value) (q : Qv) (v : Value) (l : List Bar) (w0 : World) (hu : QvR w0 w0.heap.size u q) (hv : SlB w0 w0.heap.size v l) :
    Calls Try.prog 31 #[u, v] w0 fun e w' => e = .returned (.bool (areB q l)) ∧ Below w0.heap.size w0 w' := by
  have hu' := hu
  obtain ⟨A, c, C, c', rfl, hf, ht, hr, lf, lt⟩ := hu.open_
  obtain ⟨D, d, rfl, _, _, hn, hx⟩ := hv.open_
  clear hu hf ht hv
  obtain ⟨W, hW⟩ : ∃ W, W = w0.alloc (.cells #[.int .i64 q.v, .slice A q.f.length c, .slice C q.t.length c'] 26) := ⟨_, rfl⟩
  have g0 : Below w0.heap.size w0 W := by rw [hW]; exact below_alloc _ _
  have kq : Blk W w0.heap.size 26 #[.int .i64 q.v, .slice A q.f.length c, .slice C q.t.length c'] := by rw [hW]; exact Blk.new _ _ _
  have hq := QvR.next g0 hu'
  have c0 := kq.cell' (i := 0) rfl
  have c1 := kq.cell' (i := 1) rfl
  have c2 := kq.cell' (i := 2) rfl
  clear hu'
  rcases hL : isL q with _ | _
  · rw [areB_noL l hL]
    have HL := Lib.hid hL
    clear hL
    go_enter Try.func31, Try.ntmps31
    go_wp2_with fail
    rw [← hW]; clear hW
    refine (specIsLine_any _ _ _ hq).mono ?_; rintro e w1 ⟨rfl, hb1⟩
    rw [HL.out]
    go_wp2
    go_ret
    exact ⟨rfl, bthen g0 hb1⟩
  · have hv1 := (isQ_t.1 (by have := isL_noZ (q := q); rcases hz : isZ q with _ | _; exact absurd (this hz) (by simp [hL]); exact (isZ_t hz).1)).1
    have HL := Lib.hid hL
    clear hL
    go_enter Try.func31, Try.ntmps31
    go_wp2_with fail
    rw [← hW]; clear hW
    refine (specIsLine_any _ _ _ hq).mono ?_; rintro e w1 ⟨rfl, hb1⟩
    rw [HL.out]
    have kq1 := kq.call hb1
    have g1 := bthen g0 hb1
    have s1 := g1.size
    clear c0 c1 c2 kq hb1 g0 hq
    go_wp2
    go_loopw [5] (fun i wr => ∃ k : Nat, k ≤ l.length ∧ i = .int .i64 k ∧ Below w1.heap.size w1 wr ∧ Hid (barsTo q.v l k)) (fun i _ => l.length - (intOf i).toNat)
    case atStart => exact ⟨0, Nat.zero_le _, rfl, Below.refl _ _, fun j h => absurd h (by omega)⟩
    case round =>
      obtain ⟨k, hk, rfl, hbel, hto⟩ := hrel
      have gw := bthen g1 hbel
      have ws := hbel.size
      by_cases hlt : k < l.length
      · obtain ⟨b, o, x, y, z, rfl, hb, HX, y1, y2, y3, rx, ry, rz⟩ := SlB.at_ hx hlt
        have HBA := Lib.hid (barAt_of (v := q.v) HX.out)
        have kqX := kq1.call hbel
        have z1 := InB.cell (w := wr) (by omega) (bcell gw hb y1)
        have z2 := InB.cell (w := wr) (by omega) (bcell gw hb y2)
        have z3 := InB.cell (w := wr) (by omega) (bcell gw hb y3)
        have q0 := fun s : InB wr => (kqX.call s.below).cell' (i := 0) rfl
        have hbl := Lib.hid hbel
        clear y1 y2 y3 kqX
        rcases h1 : inR x 0 (q.v - 1) with _ | _
        · have HF := Lib.hid (areB_bad (q := q) hlt (by rw [HBA.out, h1]; rfl))
          go_wp2
          (refine wp_region_inB (by kernel_rfl) (by kernel_rfl) ?_; (repeat (go_big_quiet_step ((go_at_call 61; exact InB.call_same (l1In_any _ _ _ _))))); refine wpQuiet_nil ?_; intro w1 hw'; obtain ⟨s1, hw1⟩ := hw'; have hb1 := s1.below; rw [← hw1] at hb1; clear hw1 s1)
          go_wp2
          go_ret
          exact ⟨by rw [HF.out]; rfl, gw.trans (hb1.mono gw.size)⟩
        rcases h2 : inR y x (q.v - 1) with _ | _
        · have HF := Lib.hid (areB_bad (q := q) hlt (by rw [HBA.out, h1, h2]; rfl))
          go_wp2
          (refine wp_region_inB (by kernel_rfl) (by kernel_rfl) ?_; (repeat (go_big_quiet_step ((go_at_call 61; exact InB.call_same (l1In_any _ _ _ _))))); refine wpQuiet_nil ?_; intro w1 hw'; obtain ⟨s1, hw1⟩ := hw'; have hb1 := s1.below; rw [← hw1] at hb1; clear hw1 s1)
          go_wp2
          go_ret
          exact ⟨by rw [HF.out]; rfl, gw.trans (hb1.mono gw.size)⟩
        rcases h3 : inR z 1 8 with _ | _
        · have HF := Lib.hid (areB_bad (q := q) hlt (by rw [HBA.out, h1, h2, h3]; rfl))
          go_wp2
          (refine wp_region_inB (by kernel_rfl) (by kernel_rfl) ?_; (repeat (go_big_quiet_step ((go_at_call 61; exact InB.call_same (l1In_any _ _ _ _))))); refine wpQuiet_nil ?_; intro w1 hw'; obtain ⟨s1, hw1⟩ := hw'; have hb1 := s1.below; rw [← hw1] at hb1; clear hw1 s1)
          go_wp2
          go_ret
          exact ⟨by rw [HF.out]; rfl, gw.trans (hb1.mono gw.size)⟩
        rcases Nat.eq_zero_or_pos k with rfl | hk0
        · have HT : Hid (barAt q.v l 0 = true) := by show _ = _; rw [HBA.out, h1, h2, h3]; rfl
          simp only [Nat.zero_mul, Nat.add_zero] at z1 z2 z3
          go_wp2
          (refine wp_region_inB (by kernel_rfl) (by kernel_rfl) ?_; (repeat (go_big_quiet_step ((go_at_call 61; exact InB.call_same (l1In_any _ _ _ _))))); refine wpQuiet_nil ?_; intro w1 hw'; obtain ⟨s1, hw1⟩ := hw'; have hb1 := s1.below; rw [← hw1] at hb1; clear hw1 s1)
          obtain ⟨wa, hwa⟩ : ∃ u, u = w1 := ⟨_, rfl⟩
          subst hwa
          have hb2 := hb1
          have g2 := gw.trans (hb1.mono gw.size)
          have B2 := Lib.hid (hbl.out.trans (hb1.mono ws))
          clear hb1
          clear z1 z2 z3
          go_wp2
          (refine wp_region_inB (by kernel_rfl) (by kernel_rfl) ?_; (repeat (go_big_quiet_step (fail))); refine wpQuiet_nil ?_; intro w1 hw'; obtain ⟨s1, hw1⟩ := hw'; have hb1 := s1.below; rw [← hw1] at hb1; clear hw1 s1)
          go_wp2
          go_roundw
          case rel => exact ⟨1, by omega, by go_num, B2.out.trans (hb1.mono B2.out.size), barsTo_succ hto.out HT.out⟩
          case measure => simp [intOf]; omega
        · obtain ⟨j, rfl⟩ : ∃ j, k = j + 1 := ⟨k - 1, by omega⟩
          obtain ⟨b', o', x', y', z', eb, _, HX', y1', y2', y3', _⟩ := SlB.at_ (k := j) hx (by omega)
          injection eb with eb
          injection eb with eb1 eb2
          subst eb1 eb2
          have hgj : l.getD j (0, 0, 0) = (x', y', z') := by rw [List.getD_eq_getElem?_getD, HX'.out]; rfl
          have hba := HBA.out
          rw [Nat.add_sub_cancel, hgj, h1, h2, h3] at hba
          have hcn := cmpB_neg (x := (x', y', z')) (y := (x, y, z))
          simp only at hcn
          have HBB := Lib.hid hba
          have HCN := Lib.hid hcn
          have p1 := bcell gw hb y1'
          have p2 := bcell gw hb y2'
          have hx2 := hx
          clear hba hgj hcn y1' y2' y3' hx
          go_wp2
          (refine wp_region_inB (by kernel_rfl) (by kernel_rfl) ?_; (repeat (go_big_quiet_step ((go_at_call 61; exact InB.call_same (l1In_any _ _ _ _))))); refine wpQuiet_nil ?_; intro w1 hw'; obtain ⟨s1, hw1⟩ := hw'; have hb1 := s1.below; rw [← hw1] at hb1; clear hw1 s1)
          obtain ⟨wa, hwa⟩ : ∃ u, u = w1 := ⟨_, rfl⟩
          subst hwa
          have hb2 := hb1
          have g2 := gw.trans (hb1.mono gw.size)
          have B2 := Lib.hid (hbl.out.trans (hb1.mono ws))
          clear hb1
          have v1 : ∀ s : InB wa, s.val.cell? ⟨b, o + (j + 1) * 3, none⟩ = some (.int .i64 x) := fun s => z1 ⟨s.val, hb2.trans (s.below.mono hb2.size)⟩
          have v2 : ∀ s : InB wa, s.val.cell? ⟨b, o + (j + 1) * 3 + 1, none⟩ = some (.int .i64 y) := fun s => z2 ⟨s.val, hb2.trans (s.below.mono hb2.size)⟩
          have sa := hb2.size
          have r1 := InB.cell (w := wa) (by omega) (bcell hb2 (by omega) p1)
          have r2 := InB.cell (w := wa) (by omega) (bcell hb2 (by omega) p2)
          have hw1 : IntKind.i64.wrap ((j : Int) + 1 - 1) = (j : Int) := by rw [show (j : Int) + 1 - 1 = j by omega]; exact IntWalk.i64_in _ (by omega)
          clear z1 z2 z3 p1 p2
          rcases Int.lt_trichotomy x x' with hxx | hxx | hxx
          · have HF := Lib.hid (areB_bad (q := q) hlt (by rw [HBB.out]; simp only [Bool.true_and, Bool.or_eq_false_iff, decide_eq_false_iff_not, HCN.out]; omega))
            go_wp2
            (refine wp_region_inB (by kernel_rfl) (by kernel_rfl) ?_; (repeat (go_big_quiet_step (fail))); refine wpQuiet_nil ?_; intro w1 hw'; obtain ⟨s1, hw1⟩ := hw'; have hb1 := s1.below; rw [← hw1] at hb1; clear hw1 s1)
            go_wp2
            go_ret
            exact ⟨by rw [HF.out]; rfl, g2.trans (hb1.mono g2.size)⟩
          · subst hxx
            have hxn : ¬ x < x := by omega
            by_cases hyy : y ≤ y'
            · have HF := Lib.hid (areB_bad (q := q) hlt (by rw [HBB.out]; simp only [Bool.true_and, Bool.or_eq_false_iff, decide_eq_false_iff_not, HCN.out]; omega))
              go_wp2
              (refine wp_region_inB (by kernel_rfl) (by kernel_rfl) ?_; (repeat (go_big_quiet_step (fail))); refine wpQuiet_nil ?_; intro w1 hw'; obtain ⟨s1, hw1⟩ := hw'; have hb1 := s1.below; rw [← hw1] at hb1; clear hw1 s1)
              go_wp2
              go_ret
              exact ⟨by rw [HF.out]; rfl, g2.trans (hb1.mono g2.size)⟩
            · have HT : Hid (barAt q.v l (j + 1) = true) := by
                have hc := HCN.out.2 (.inr ⟨rfl, by omega⟩)
                show _ = _; rw [HBB.out]; simp [hc]
              go_wp2
              (refine wp_region_inB (by kernel_rfl) (by kernel_rfl) ?_; (repeat (go_big_quiet_step (fail))); refine wpQuiet_nil ?_; intro w1 hw'; obtain ⟨s1, hw1⟩ := hw'; have hb1 := s1.below; rw [← hw1] at hb1; clear hw1 s1)
              go_wp2
              go_roundw
              case rel => exact ⟨j + 1 + 1, by omega, by go_num, B2.out.trans (hb1.mono B2.out.size), barsTo_succ hto.out HT.out⟩
              case measure => simp [intOf]; omega
          · have hxn : ¬ x < x' := by omega
            have hxe : (x == x') = false := by simp; omega
            have hxd : decide (x = x') = false := by simp; omega
            have hxl : decide (x < x') = false := by simp; omega
            have HT : Hid (barAt q.v l (j + 1) = true) := by
              have hc := HCN.out.2 (.inl hxx)
              show _ = _; rw [HBB.out]; simp [hc]
            go_wp2
            (refine wp_region_inB (by kernel_rfl) (by kernel_rfl) ?_; (repeat (go_big_quiet_step (fail))); refine wpQuiet_nil ?_; intro w1 hw'; obtain ⟨s1, hw1⟩ := hw'; have hb1 := s1.below; rw [← hw1] at hb1; clear hw1 s1)
            go_wp2
            go_roundw
            case rel => exact ⟨j + 1 + 1, by omega, by go_num, B2.out.trans (hb1.mono B2.out.size), barsTo_succ hto.out HT.out⟩
            case measure => simp [intOf]; omega
      · have HT := Lib.hid (areB_yes HL.out (l := l) (by have := hto.out; rwa [show k = l.length by omega] at this))
        go_wp2
        go_ret
        exact ⟨by rw [HT.out]; rfl, gw⟩
end Go.Proofs.Ytjhllgldllbaaaa
