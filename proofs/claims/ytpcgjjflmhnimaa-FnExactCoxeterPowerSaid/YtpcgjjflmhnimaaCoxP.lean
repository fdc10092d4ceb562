/- The program's CoxeterPower and CoxeterOf. -/
import Derived.Test.YtpcgjjflmhnimaaWord2
import Derived.Test.YtpcgjjflmhnimaaCoxOrd
namespace Go.Proofs.Ytpcgjjflmhnimaa
set_option linter.unusedVariables false
set_option linter.unusedSimpArgs false
open Go.RowKit

/-- a word's reflections, some times over -/
def powGo (q : Qv) (wd : List Int) : List Int → Nat → List Int × Bool
  | x, 0 => (x, true)
  | x, n + 1 => if (wordQ q x wd).2 then powGo q wd (wordQ q x wd).1 n else ([], false)
def coxP (q : Qv) (x : List Int) (n : Int) : List Int × Bool :=
  if (ordQ q).2 && isNum q x && inR n (-40) 40 then powGo q (if n < 0 then (ordQ q).1 else (ordQ q).1.reverse) x n.natAbs else ([], false)
theorem wordGo_no (q : Qv) : ∀ (wd x : List Int), (wordGo q x wd).2 = false → (wordGo q x wd).1 = []
  | [], x, h => by simp [wordGo] at h
  | v :: r, x, h => by
    unfold wordGo at h ⊢
    split
    · rename_i hb; rw [if_pos hb] at h; exact wordGo_no q r _ h
    · rfl
theorem wordQ_no {q : Qv} {x wd : List Int} (h : (wordQ q x wd).2 = false) : wordQ q x wd = ([], false) := by
  have h1 : (wordQ q x wd).1 = [] := by
    unfold wordQ at h ⊢
    split
    · rename_i hb; rw [if_pos hb] at h; exact wordGo_no q wd x h
    · rfl
  generalize wordQ q x wd = p at h h1
  obtain ⟨a, b⟩ := p
  simp only at h h1
  subst h h1
  rfl
theorem powGo_step {q : Qv} {wd x : List Int} {N k : Nat} (h : k < N) : powGo q wd x (N - k) = if (wordQ q x wd).2 then powGo q wd (wordQ q x wd).1 (N - (k + 1)) else ([], false) := by
  rw [show N - k = (N - (k + 1)) + 1 by omega, powGo]


theorem OwnI.form2 {w : World} {base : Nat} {v : Value} {l : List Int} (h : OwnI w base v l) : ∃ A c, v = .slice A l.length c := by
  obtain ⟨A, c, e, _⟩ := h.form
  exact ⟨A, c, e⟩

set_option maxHeartbeats 3200000 in
set_option maxRecDepth 20000 in
theorem implCoxeterPower_any (u : Value) (q : Qv) (xv : Value) (x : List Int) (n : Int) (w : World) (hu : QvR w w.heap.size u q) (hx : SlI w w.heap.size xv x) (hn : I64 n) :
    Calls Try.prog 56 #[u, xv, .int .i64 n] w fun e w' => ∃ r, e = .returned (.tuple #[r, .bool (coxP q x n).2]) ∧ IntsO w' w.heap.size w'.heap.size r (coxP q x n).1 ∧ Below w.heap.size w w' := by
  obtain ⟨A, c, C, d, eu⟩ := hu.form
  subst eu
  obtain ⟨XA, xc, rfl, _, _, lx, hx⟩ := hx.open_
  obtain ⟨W, hW⟩ : ∃ W, W = w.alloc (.cells #[.int .i64 q.v, .slice A q.f.length c, .slice C q.t.length d] 29) := ⟨_, rfl⟩
  have g0 : Below w.heap.size w W := by rw [hW]; exact below_alloc _ _
  have kB : Blk W w.heap.size 29 #[.int .i64 q.v, .slice A q.f.length c, .slice C q.t.length d] := by rw [hW]; exact Blk.new _ _ _
  have hlt0 : w.heap.size < W.heap.size := kB.lt
  have KB := Lib.hid kB
  have c0 := kB.cell' (i := 0) rfl
  have c1 := kB.cell' (i := 1) rfl
  have c2 := kB.cell' (i := 2) rfl
  have h0 := QvR.next g0 hu
  have hx0 := SlI.next g0 hx
  clear hu hx
  obtain ⟨ol, hol⟩ : ∃ l, (ordQ q).1 = l := ⟨_, rfl⟩
  have HOL := Lib.hid hol
  clear hol
  rcases hB1 : (ordQ q).2 with _ | _
  · have hF : Hid (coxP q x n = ([], false)) := by show _ = _; simp [coxP, hB1]
    go_enter Try.func56, Try.ntmps56
    go_wp2_with fail
    rw [← hW]; clear hW
    refine (implCoxeterOrder_any _ q _ h0).mono ?_; rintro e W9 ⟨ov, rfl, hO9, hb9⟩
    rw [HOL.out] at hO9
    obtain ⟨oA, oc, eov⟩ := hO9.1.form2
    subst eov
    rw [List.length_reverse] at hO9
    clear c0 c1 c2
    rw [hB1]
    have kB9 := kB.call hb9
    have c0 := kB9.cell' (i := 0) rfl
    have c1 := kB9.cell' (i := 1) rfl
    have c2 := kB9.cell' (i := 2) rfl
    go_wp2
    exact bodyPost_ret (v := .tuple #[.slice none 0 0, .bool false]) (by simp [results, go_sem]) rfl ⟨_, by rw [hF.out], by rw [hF.out]; exact IntsO.nil_ _ _ _, bthen g0 hb9⟩
  rcases hB2 : isNum q x with _ | _
  · have hF : Hid (coxP q x n = ([], false)) := by show _ = _; simp [coxP, hB2]
    have H2 := Lib.hid hB2
    clear hB2
    go_enter Try.func56, Try.ntmps56
    go_wp2_with fail
    rw [← hW]; clear hW
    refine (implCoxeterOrder_any _ q _ h0).mono ?_; rintro e W9 ⟨ov, rfl, hO9, hb9⟩
    rw [HOL.out] at hO9
    obtain ⟨oA, oc, eov⟩ := hO9.1.form2
    subst eov
    rw [List.length_reverse] at hO9
    clear c0 c1 c2
    rw [hB1]
    have kB9 := kB.call hb9
    have c0 := kB9.cell' (i := 0) rfl
    have c1 := kB9.cell' (i := 1) rfl
    have c2 := kB9.cell' (i := 2) rfl
    go_wp2_with fail
    refine (areNumbers_any _ _ _ _ _ (QvR.next hb9 h0) (SlI.next hb9 hx0)).mono ?_; rintro e w1 ⟨rfl, hb1⟩
    rw [H2.out]
    go_wp2
    exact bodyPost_ret (v := .tuple #[.slice none 0 0, .bool false]) (by simp [results, go_sem]) rfl ⟨_, by rw [hF.out], by rw [hF.out]; exact IntsO.nil_ _ _ _, bthen (bthen g0 hb9) hb1⟩
  rcases hB3 : inR n (-40) 40 with _ | _
  · have hF : Hid (coxP q x n = ([], false)) := by show _ = _; simp [coxP, hB3]
    have H2 := Lib.hid hB2
    have H3 := Lib.hid hB3
    clear hB2 hB3
    go_enter Try.func56, Try.ntmps56
    go_wp2_with fail
    rw [← hW]; clear hW
    refine (implCoxeterOrder_any _ q _ h0).mono ?_; rintro e W9 ⟨ov, rfl, hO9, hb9⟩
    rw [HOL.out] at hO9
    obtain ⟨oA, oc, eov⟩ := hO9.1.form2
    subst eov
    rw [List.length_reverse] at hO9
    clear c0 c1 c2
    rw [hB1]
    have kB9 := kB.call hb9
    have c0 := kB9.cell' (i := 0) rfl
    have c1 := kB9.cell' (i := 1) rfl
    have c2 := kB9.cell' (i := 2) rfl
    go_wp2_with fail
    refine (areNumbers_any _ _ _ _ _ (QvR.next hb9 h0) (SlI.next hb9 hx0)).mono ?_; rintro e w1 ⟨rfl, hb1⟩
    rw [H2.out]
    go_wp2_with fail
    refine (within_any _ _ _ _).mono ?_; rintro e w1 ⟨rfl, rfl⟩
    rw [H3.out]
    go_wp2
    exact bodyPost_ret (v := .tuple #[.slice none 0 0, .bool false]) (by simp [results, go_sem]) rfl ⟨_, by rw [hF.out], by rw [hF.out]; exact IntsO.nil_ _ _ _, bthen (bthen g0 hb9) hb1⟩
  obtain ⟨n1, n2⟩ := inR_t.1 hB3
  have HB := Lib.hid (And.intro hB1 (And.intro hB2 hB3))
  have H2 := Lib.hid hB2
  have H3 := Lib.hid hB3
  clear hB2 hB3
  by_cases hneg : n < 0
  · obtain ⟨N, hN⟩ : ∃ N : Nat, n = -(N : Int) := ⟨n.natAbs, by omega⟩
    subst hN
    have hneg' : ¬ ((N : Int) ≤ -(N : Int)) := by omega
    have hneg2 : -(N : Int) < (N : Int) := by omega
    have HP : Hid (coxP q x (-(N : Int)) = powGo q ol x (N - 0)) := by
      show _ = _
      rw [coxP, HB.out.1, HB.out.2.1, HB.out.2.2, HOL.out, if_pos hneg]
      simp
    go_enter Try.func56, Try.ntmps56
    go_wp2_with fail
    rw [← hW]; clear hW
    refine (implCoxeterOrder_any _ q _ h0).mono ?_; rintro e W9 ⟨ov, rfl, hO9, hb9⟩
    rw [HOL.out] at hO9
    obtain ⟨oA, oc, eov⟩ := hO9.1.form2
    subst eov
    rw [List.length_reverse] at hO9
    clear c0 c1 c2
    rw [hB1]
    have kB9 := kB.call hb9
    have c0 := kB9.cell' (i := 0) rfl
    have c1 := kB9.cell' (i := 1) rfl
    have c2 := kB9.cell' (i := 2) rfl
    go_wp2_with fail
    refine (areNumbers_any _ _ _ _ _ (QvR.next hb9 h0) (SlI.next hb9 hx0)).mono ?_; rintro e w1 ⟨rfl, hb1⟩
    rw [H2.out]
    go_wp2_with fail
    refine (within_any _ _ _ _).mono ?_; rintro e w1 ⟨rfl, rfl⟩
    rw [H3.out]
    go_wp2_with fail
    have hO1 := hO9.below hb1
    refine (reverse_own _ _ W.heap.size _ hO1.1).mono ?_; rintro e w2 ⟨rfl, ho2, hg2⟩
    rw [List.reverse_reverse] at ho2
    have hc2 := chg_of_grown hO1 hg2
    have hO2 : IntsO w2 W.heap.size W9.heap.size (.slice oA ol.length oc) ol := ⟨ho2, hO1.2⟩
    have gW2 : Below W.heap.size W w2 := (bthen hb9 hb1).trans (hc2.below (Nat.le_refl _) (bthen hb9 hb1).size)
    clear hO1 ho2 hg2 hc2 hO9 kB9
    go_wp2_with fail
    refine (clone_own _ x _ (SlI.next gW2 hx0)).mono ?_; rintro e w3 ⟨cv, rfl, hC, hb3⟩
    have gW := bthen gW2 hb3
    have gw : Below w.heap.size w w3 := g0.trans (gW.mono g0.size)
    have gl : w.heap.size ≤ w2.heap.size := by have := gW2.size; omega
    have hOr := hO2.below hb3
    obtain ⟨xA, xc', rfl⟩ := hC.1.form2
    clear hO2 gW2 hb3 hb9 hb1 c0 c1 c2 kB
    go_wp2
    go_loopw [10, 39] (fun a i wr => ∃ (k : Nat) (cur : List Int), k ≤ N ∧ i = .int .i64 k ∧ OwnI wr w.heap.size a cur ∧ Below w.heap.size w wr ∧ Below W.heap.size W wr ∧ IntsO wr W.heap.size W9.heap.size (.slice oA ol.length oc) ol ∧ Hid (coxP q x (-(N : Int)) = powGo q ol cur (N - k))) (fun _ i _ => N - (intOf i).toNat)
    case atStart => exact ⟨0, x, Nat.zero_le _, rfl, hC.1.lower gl, gw, gW, hOr, HP.out⟩
    case round =>
      clear hC gw gW hOr HP
      obtain ⟨k, cur, hk, rfl, hown, hbel, hbW, hord, hR⟩ := hrel
      have kB := KB.out.below hbW hlt0
      have c0 := kB.cell' (i := 0) rfl
      have c1 := kB.cell' (i := 1) rfl
      have c2 := kB.cell' (i := 2) rfl
      obtain ⟨OA, oc', rfl, _, _⟩ := hown.form
      have hbs := hbW.size
      clear kB
      by_cases hlt : k < N
      · have hst := powGo_step (q := q) (wd := ol) (x := cur) hlt
        rw [← hR.out] at hst
        have HST := Lib.hid hst
        clear hst hR
        have HC := implReflectWord_any _ q _ cur _ ol wr (QvR.next hbW h0) hown.rd hord.rd
        obtain ⟨nx, hnx⟩ : ∃ nx, wordQ q cur ol = nx := ⟨_, rfl⟩
        rw [hnx] at HC
        have HNX := Lib.hid hnx
        clear hnx
        obtain ⟨l, B⟩ := nx
        have HC := Lib.hid HC
        cases B
        · have hF : Hid (coxP q x (-(N : Int)) = ([], false)) := by show _ = _; rw [HST.out, HNX.out]; rfl
          go_wp2_with fail
          refine (unhide HC).mono ?_; rintro e w3 ⟨r, rfl, hr3, hb3⟩
          go_wp2
          exact bodyPost_ret (v := .tuple #[.slice none 0 0, .bool false]) (by simp [results, go_sem]) rfl ⟨_, by rw [hF.out], by rw [hF.out]; exact IntsO.nil_ _ _ _, hbel.trans (hb3.mono hbel.size)⟩
        · have hF : Hid (coxP q x (-(N : Int)) = powGo q ol l (N - (k + 1))) := by show _ = _; rw [HST.out, HNX.out]; rfl
          go_wp2_with fail
          refine (unhide HC).mono ?_; rintro e w3 ⟨r, rfl, hr3, hb3⟩
          have hW3 := bthen hbW hb3
          have hb4 := hbel.trans (hb3.mono hbel.size)
          have ho4 := hr3.1.lower hbel.size
          have hord3 := hord.below hb3
          clear hr3 hb3 hord hown
          go_wp2
          go_roundw
          case rel => exact ⟨k + 1, l, by omega, by go_num, ho4, hb4, hW3, hord3, hF.out⟩
          case measure => simp [intOf]; omega
      · have hF : Hid (coxP q x (-(N : Int)) = (cur, true)) := by show _ = _; rw [hR.out, show N - k = 0 by omega, powGo]
        go_wp2
        exact bodyPost_ret (v := .tuple #[.slice OA cur.length oc', .bool true]) (by simp [results, go_sem]) rfl ⟨_, by rw [hF.out], by rw [hF.out]; exact IntsO.of_own hown, hbel⟩
  · obtain ⟨N, hN⟩ : ∃ N : Nat, n = (N : Int) := ⟨n.natAbs, by omega⟩
    subst hN
    have HP : Hid (coxP q x (N : Int) = powGo q ol.reverse x (N - 0)) := by
      show _ = _
      rw [coxP, HB.out.1, HB.out.2.1, HB.out.2.2, HOL.out, if_neg hneg]
      simp
    go_enter Try.func56, Try.ntmps56
    go_wp2_with fail
    rw [← hW]; clear hW
    refine (implCoxeterOrder_any _ q _ h0).mono ?_; rintro e W9 ⟨ov, rfl, hO9, hb9⟩
    rw [HOL.out] at hO9
    obtain ⟨oA, oc, eov⟩ := hO9.1.form2
    subst eov
    rw [List.length_reverse] at hO9
    clear c0 c1 c2
    rw [hB1]
    have kB9 := kB.call hb9
    have c0 := kB9.cell' (i := 0) rfl
    have c1 := kB9.cell' (i := 1) rfl
    have c2 := kB9.cell' (i := 2) rfl
    go_wp2_with fail
    refine (areNumbers_any _ _ _ _ _ (QvR.next hb9 h0) (SlI.next hb9 hx0)).mono ?_; rintro e w1 ⟨rfl, hb1⟩
    rw [H2.out]
    go_wp2_with fail
    refine (within_any _ _ _ _).mono ?_; rintro e w1 ⟨rfl, rfl⟩
    rw [H3.out]
    have hO2 := hO9.below hb1
    have gW2 := bthen hb9 hb1
    go_wp2_with fail
    refine (clone_own _ x _ (SlI.next gW2 hx0)).mono ?_; rintro e w3 ⟨cv, rfl, hC, hb3⟩
    have gW := bthen gW2 hb3
    have gw : Below w.heap.size w w3 := g0.trans (gW.mono g0.size)
    have gl : w.heap.size ≤ w1.heap.size := by have := gW2.size; omega
    have hOr := hO2.below hb3
    obtain ⟨xA, xc', rfl⟩ := hC.1.form2
    clear hO2 gW2 hb3 hb9 hb1 c0 c1 c2 kB hO9 kB9
    go_wp2
    go_loopw [10, 39] (fun a i wr => ∃ (k : Nat) (cur : List Int), k ≤ N ∧ i = .int .i64 k ∧ OwnI wr w.heap.size a cur ∧ Below w.heap.size w wr ∧ Below W.heap.size W wr ∧ IntsO wr W.heap.size W9.heap.size (.slice oA ol.length oc) ol.reverse ∧ Hid (coxP q x (N : Int) = powGo q ol.reverse cur (N - k))) (fun _ i _ => N - (intOf i).toNat)
    case atStart => exact ⟨0, x, Nat.zero_le _, rfl, hC.1.lower gl, gw, gW, hOr, HP.out⟩
    case round =>
      clear hC gw gW hOr HP
      obtain ⟨k, cur, hk, rfl, hown, hbel, hbW, hord, hR⟩ := hrel
      have kB := KB.out.below hbW hlt0
      have c0 := kB.cell' (i := 0) rfl
      have c1 := kB.cell' (i := 1) rfl
      have c2 := kB.cell' (i := 2) rfl
      obtain ⟨OA, oc', rfl, _, _⟩ := hown.form
      have hbs := hbW.size
      clear kB
      by_cases hlt : k < N
      · have hst := powGo_step (q := q) (wd := ol.reverse) (x := cur) hlt
        rw [← hR.out] at hst
        have HST := Lib.hid hst
        clear hst hR
        have HC := implReflectWord_any _ q _ cur _ ol.reverse wr (QvR.next hbW h0) hown.rd hord.rd
        obtain ⟨nx, hnx⟩ : ∃ nx, wordQ q cur ol.reverse = nx := ⟨_, rfl⟩
        rw [hnx] at HC
        have HNX := Lib.hid hnx
        clear hnx
        obtain ⟨l, B⟩ := nx
        have HC := Lib.hid HC
        cases B
        · have hF : Hid (coxP q x (N : Int) = ([], false)) := by show _ = _; rw [HST.out, HNX.out]; rfl
          go_wp2_with fail
          refine (unhide HC).mono ?_; rintro e w3 ⟨r, rfl, hr3, hb3⟩
          go_wp2
          exact bodyPost_ret (v := .tuple #[.slice none 0 0, .bool false]) (by simp [results, go_sem]) rfl ⟨_, by rw [hF.out], by rw [hF.out]; exact IntsO.nil_ _ _ _, hbel.trans (hb3.mono hbel.size)⟩
        · have hF : Hid (coxP q x (N : Int) = powGo q ol.reverse l (N - (k + 1))) := by show _ = _; rw [HST.out, HNX.out]; rfl
          go_wp2_with fail
          refine (unhide HC).mono ?_; rintro e w3 ⟨r, rfl, hr3, hb3⟩
          have hW3 := bthen hbW hb3
          have hb4 := hbel.trans (hb3.mono hbel.size)
          have ho4 := hr3.1.lower hbel.size
          have hord3 := hord.below hb3
          clear hr3 hb3 hord hown
          go_wp2
          go_roundw
          case rel => exact ⟨k + 1, l, by omega, by go_num, ho4, hb4, hW3, hord3, hF.out⟩
          case measure => simp [intOf]; omega
      · have hF : Hid (coxP q x (N : Int) = (cur, true)) := by show _ = _; rw [hR.out, show N - k = 0 by omega, powGo]
        go_wp2
        exact bodyPost_ret (v := .tuple #[.slice OA cur.length oc', .bool true]) (by simp [results, go_sem]) rfl ⟨_, by rw [hF.out], by rw [hF.out]; exact IntsO.of_own hown, hbel⟩

set_option maxHeartbeats 800000 in
theorem implCoxeterOf_any (u : Value) (q : Qv) (xv : Value) (x : List Int) (w : World) (hu : QvR w w.heap.size u q) (hx : SlI w w.heap.size xv x) :
    Calls Try.prog 45 #[u, xv] w fun e w' => ∃ r, e = .returned (.tuple #[r, .bool (coxP q x 1).2]) ∧ IntsO w' w.heap.size w'.heap.size r (coxP q x 1).1 ∧ Below w.heap.size w w' := by
  obtain ⟨A, c, C, d, eu⟩ := hu.form
  subst eu
  obtain ⟨W, hW⟩ : ∃ W, W = w.alloc (.cells #[.int .i64 q.v, .slice A q.f.length c, .slice C q.t.length d] 29) := ⟨_, rfl⟩
  have g0 : Below w.heap.size w W := by rw [hW]; exact below_alloc _ _
  have kB : Blk W w.heap.size 29 #[.int .i64 q.v, .slice A q.f.length c, .slice C q.t.length d] := by rw [hW]; exact Blk.new _ _ _
  have c0 := kB.cell' (i := 0) rfl
  have c1 := kB.cell' (i := 1) rfl
  have c2 := kB.cell' (i := 2) rfl
  have gs := g0.size
  go_enter Try.func45, Try.ntmps45
  go_wp2_with fail
  rw [← hW]; clear hW
  refine (implCoxeterPower_any _ q _ x 1 _ (QvR.next g0 hu) (SlI.next g0 hx) (by simp [I64])).mono ?_; rintro e w1 ⟨r, rfl, hr, hb1⟩
  obtain ⟨rA, rc, rfl⟩ := hr.1.form2
  go_wp2
  exact bodyPost_ret (v := .tuple #[.slice rA (coxP q x 1).1.length rc, .bool (coxP q x 1).2]) (by simp [results, go_sem]) rfl ⟨_, rfl, hr.wider gs (Nat.le_refl _), bthen g0 hb1⟩
end Go.Proofs.Ytpcgjjflmhnimaa
