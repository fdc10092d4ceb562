/- FnExactKnitRow: for every argument the program's function returns what the reference's returns. Part 8 of 9 of the proof: Refl3, Word, Word2, CoxP, KnO, CoxP2, Minor, RowAt, RowZ, ColZ, FromC, Tran, Besd, Conc, Det. No condition. -/
import Derived.Test.YtgbchoenmpoojaaBKnitRow7
import Derived.Shelf.Spec.SlicesGrow
/- The program's ReflectDims. -/
namespace Go.Proofs.Ytgbchoenmpoojaa
set_option linter.unusedVariables false
set_option linter.unusedSimpArgs false
open Go.RowKit

theorem clone_any (u : Value) (xs : List Int) (w : World) (hu : SlI w w.heap.size u xs) (hp : 0 < xs.length) (hr : ∀ y ∈ xs, I64 y) :
    Calls Try.prog 75 #[u] w fun e w' => ∃ g c, e = .returned (.slice (some ⟨g, 0, none⟩) xs.length c) ∧ OwnI w' w.heap.size (.slice (some ⟨g, 0, none⟩) xs.length c) xs ∧ xs.length ≤ c ∧ c ≤ 9223372036854775807 ∧ Below w.heap.size w w' := by
  obtain ⟨A, c, rfl, _, _, hn, hx⟩ := hu
  obtain ⟨b, o, rfl, hb, hc⟩ := hx hp
  refine (Any.slices_Clone_int Try.laysClone b o xs.length c xs w (Nat.le_refl _) (by omega) (fun j hj => ?_)).mono ?_
  · have h := (hc j (xs.getD j 0) (by rw [List.getD_eq_getElem?_getD, List.getElem?_eq_getElem hj]; rfl)).1
    simpa using h
  · rintro e w' ⟨v', rfl, ho, hnn, hb⟩
    rw [List.take_of_length_le (Nat.le_refl _)] at ho
    rcases ho.2 with ⟨e, _⟩ | ⟨g, cap, cur, rfl, hg, hh, hnc, hcm, _⟩
    · exact absurd e hnn
    · exact ⟨g, cap, rfl, ⟨ho, hn, hr⟩, hnc, by simp only [maxLen] at hcm; omega, hb⟩

theorem set_self {x : List Int} {n : Nat} : x.set n (x.getD n 0) = x := by
  apply List.ext_getElem?
  intro i
  rw [List.getElem?_set]
  by_cases e : n = i
  · subst e
    rw [if_pos rfl]
    by_cases h : n < x.length
    · rw [if_pos h, List.getD_eq_getElem?_getD, List.getElem?_eq_getElem h]; rfl
    · rw [if_neg h, List.getElem?_eq_none (by omega)]
  · rw [if_neg e]
theorem IntssO.entry {w : World} {lo hi V i : Nat} {g : Nat → Nat → Int} {mv : Value} {ll : List (List Int)} (h : IntssO w lo hi mv ll) (e : ll = matF V g) (hi' : i < V) : ∃ gm cm gr cr, mv = .slice (some ⟨gm, 0, none⟩) V cm ∧ w.cell? ⟨gm, i, none⟩ = some (.slice (some ⟨gr, 0, none⟩) V cr) ∧ OwnI w lo (.slice (some ⟨gr, 0, none⟩) V cr) (rowF V (g i)) ∧ lo ≤ gr ∧ V ≤ cr ∧ cr ≤ 9223372036854775807 := by
  subst e
  obtain ⟨vs, h1, h2, h3⟩ := h
  obtain ⟨gr, cr, hv, ho, hc1, hc2, hg1, _⟩ := h3.rowAt h2 (matF_get g hi') (by rw [rowF_length]; omega)
  rw [rowF_length] at hv ho hc1
  rw [matF_length] at h2
  have hf := h1
  rcases h1.1.2 with ⟨_, h0⟩ | ⟨gm, cap, cur, rfl, _, _, _, _, _⟩
  · omega
  · rw [h2] at hf ⊢
    exact ⟨gm, cap, gr, cr, rfl, hf.cellS hv, ho, hg1, hc1, hc2⟩

set_option maxHeartbeats 1600000 in
set_option maxRecDepth 20000 in
theorem implReflectDims_any (u : Value) (q : Qv) (xv : Value) (x : List Int) (v : Int) (w : World) (hu : QvR w w.heap.size u q) (hx : SlI w w.heap.size xv x) (_ : I64 v) :
    Calls Try.prog 116 #[u, xv, .int .i64 v] w fun e w' => ∃ r, e = .returned (.tuple #[r, .bool (reflQ q x v).2]) ∧ IntsO w' w.heap.size w'.heap.size r (reflQ q x v).1 ∧ Below w.heap.size w w' := by
  have hu' := hu
  obtain ⟨A, c, C, d, rfl, hf, hT, hr, lf, lt⟩ := hu.open_
  have hx' := hx
  obtain ⟨XA, xc, rfl, _, _, lx, _⟩ := hx.open_
  clear hu hx hf hT
  obtain ⟨W, hW⟩ : ∃ W, W = w.alloc (.cells #[.int .i64 q.v, .slice A q.f.length c, .slice C q.t.length d] 27) := ⟨_, rfl⟩
  have g0 : Below w.heap.size w W := by rw [hW]; exact below_alloc _ _
  have kB : Blk W w.heap.size 27 #[.int .i64 q.v, .slice A q.f.length c, .slice C q.t.length d] := by rw [hW]; exact Blk.new _ _ _
  have c0 := kB.cell' (i := 0) rfl
  have c1 := kB.cell' (i := 1) rfl
  have c2 := kB.cell' (i := 2) rfl
  have h0 := QvR.next g0 hu'
  have hx0 := SlI.next g0 hx'
  have HXO := Lib.hid hx'
  clear hu' hx'
  rcases hq : isNum q x with _ | _
  · have hF : Hid (reflQ q x v = ([], false)) := by show _ = _; simp [reflQ, hq]
    go_enter Try.func116, Try.ntmps116
    go_wp2_with fail
    first | (rw [← hW]; clear hW) | skip
    refine (areNumbers_any _ _ _ _ _ h0 hx0).mono ?_; rintro e w1 ⟨rfl, hb1⟩
    rw [hq]
    have g1 := bthen g0 hb1
    go_wp2
    exact bodyPost_ret (v := .tuple #[.slice none 0 0, .bool false]) (by simp [results, go_sem]) rfl ⟨_, by rw [hF.out], by rw [hF.out]; exact IntsO.nil_ _ _ _, g1⟩
  obtain ⟨hq1, hq2, hq3⟩ := isNum_t.1 hq
  obtain ⟨⟨hv1, hv2⟩, hlen, hl6, _, _⟩ := isQ_t.1 hq1
  have HQ1 := Lib.hid hq1
  have HQ3 := Lib.hid hq3
  have HQ2 := Lib.hid hq2
  have HLE := Lib.hid hlen
  clear hq1 hq2 hq3 hlen
  rcases hin : inR v 0 (q.v - 1) with _ | _
  · have hF : Hid (reflQ q x v = ([], false)) := by show _ = _; simp [reflQ, hin]
    go_enter Try.func116, Try.ntmps116
    go_wp2_with fail
    rw [← hW]; clear hW
    refine (areNumbers_any _ _ _ _ _ h0 hx0).mono ?_; rintro e w1 ⟨rfl, hb1⟩
    rw [hq]
    have g1 := bthen g0 hb1
    have k1 := kB.call hb1
    have h1 := QvR.next hb1 h0
    clear c0 c1 c2
    have d0 := k1.cell' (i := 0) rfl
    have d1 := k1.cell' (i := 1) rfl
    have d2 := k1.cell' (i := 2) rfl
    go_wp2_with fail
    refine (hasVertex_any _ _ _ _ h1 ⟨hv1, hv2⟩).mono ?_; rintro e w2 ⟨rfl, hb2⟩
    rw [hin]
    have g2 := bthen g1 hb2
    go_wp2
    exact bodyPost_ret (v := .tuple #[.slice none 0 0, .bool false]) (by simp [results, go_sem]) rfl ⟨_, by rw [hF.out], by rw [hF.out]; exact IntsO.nil_ _ _ _, g2⟩
  have hvr := inR_t.1 hin
  obtain ⟨n, rfl⟩ : ∃ n : Nat, v = n := ⟨v.toNat, by omega⟩
  obtain ⟨V, hV⟩ : ∃ V : Nat, q.v = V := ⟨q.v.toNat, by omega⟩
  have hnV : n < V := by omega
  have hV5 : V ≤ 5 := by omega
  have hV1 : 0 < V := by omega
  have hsV : Hid (symM q = matF V (ent q q.f.length)) := by show _ = _; rw [symM, hV]; rfl
  have hxV : Hid (x.length = V) := by have := HQ2.out; show _ = _; omega
  have hlp := loop_ent (q := q) (v := n) HLE.out
  obtain ⟨z, hz⟩ : ∃ z, ent q q.f.length n n = z := ⟨_, rfl⟩
  rw [hz] at hlp
  have HZ := Lib.hid hz
  clear hz hvr hv1 hv2
  have hv1 : 1 ≤ q.v ∧ q.v ≤ 5 := by omega
  have HV1 := Lib.hid hv1
  clear hv1 hV
  rcases hlo : loopQ q n with _ | _
  · have hF : Hid (reflQ q x n = (reflL q x n, true)) := by show _ = _; simp [reflQ, hq, hin, hlo]
    rw [hlo] at hlp
    go_enter Try.func116, Try.ntmps116
    go_wp2_with fail
    rw [← hW]; clear hW
    refine (areNumbers_any _ _ _ _ _ h0 hx0).mono ?_; rintro e w1 ⟨rfl, hb1⟩
    rw [hq]
    have g1 := bthen g0 hb1
    have k1 := kB.call hb1
    have h1 := QvR.next hb1 h0
    have hx1 := SlI.next hb1 hx0
    clear c0 c1 c2
    have d0 := k1.cell' (i := 0) rfl
    have d1 := k1.cell' (i := 1) rfl
    have d2 := k1.cell' (i := 2) rfl
    go_wp2_with fail
    refine (hasVertex_any _ _ _ _ h1 HV1.out).mono ?_; rintro e w2 ⟨rfl, hb2⟩
    rw [hin]
    have g2 := bthen g1 hb2
    have k2 := k1.call hb2
    have h2 := QvR.next hb2 h1
    have hx2 := SlI.next hb2 hx1
    clear d0 d1 d2
    have d0 := k2.cell' (i := 0) rfl
    have d1 := k2.cell' (i := 1) rfl
    have d2 := k2.cell' (i := 2) rfl
    go_wp2_with fail
    refine (symmetric_any _ _ _ h2 HQ1.out).mono ?_; rintro e w3 ⟨mv, rfl, hm, hb3⟩
    have g3 := bthen g2 hb3
    have k3 := k2.call hb3
    have h3 := QvR.next hb3 h2
    have hx3 := SlI.next hb3 hx2
    obtain ⟨gm, cm, gr, cr, rfl, m1, hrow, _, hcr1, hcr2⟩ := hm.entry hsV.out hnV
    have m2 := (hrow.cellG (j := n) (by rw [rowF_length]; exact hnV)).1
    rw [rowF_getD _ hnV, HZ.out] at m2
    clear hm hrow d0 d1 d2 g0 g1 g2 hb1 hb2 hb3 kB k1 k2 h0 h1 h2 hx0 hx1 hx2
    have d0 := k3.cell' (i := 0) rfl
    have d1 := k3.cell' (i := 1) rfl
    have d2 := k3.cell' (i := 2) rfl
    have hxp : 0 < x.length := by have := hxV.out; omega
    have hxr : ∀ y ∈ x, I64 y := fun y hy => by have := HQ3.out y hy; exact ⟨by omega, by omega⟩
    go_wp2_with fail
    refine (clone_any _ x _ hx3 hxp hxr).mono ?_; rintro e w4 ⟨g, gc, rfl, ho4, hgc1, hgc2, hb4⟩
    have HXR := Lib.hid hxr
    have g4 := bthen g3 hb4
    have k4 := k3.call hb4
    have h4 := QvR.next hb4 h3
    have hx4 := SlI.next hb4 hx3
    clear d0 d1 d2 m1 m2 hxr
    have d0 := k4.cell' (i := 0) rfl
    have d1 := k4.cell' (i := 1) rfl
    have d2 := k4.cell' (i := 2) rfl
    go_wp2_with fail
    refine (symmetric_any _ _ _ h4 HQ1.out).mono ?_; rintro e w5 ⟨mv, rfl, hm, hb5⟩
    obtain ⟨gm2, cm2, gr2, cr2, rfl, m1, hrow, hgr2, hcr3, hcr4⟩ := hm.entry hsV.out hnV
    have hgw4 : g < w4.heap.size := (ho4.lt g rfl).2
    have hb4' := g4.trans (hb5.mono g4.size)
    have ho5 := (ho4.lower g3.size).below hb5
    have hbw4 := g4.size
    have hE0 := set_self (x := x) (n := n)
    obtain ⟨E, hE⟩ : ∃ E, ent q q.f.length n = E := ⟨_, rfl⟩
    have hgr : ∀ i, -12 ≤ E i ∧ E i ≤ 12 := fun i => by have := ent_rng q q.f.length n i hl6; rw [hE] at this; omega
    have HGR := Lib.hid hgr
    have hsr := Lib.hid (dotS_rng hgr HQ3.out)
    have hRL : Hid (reflL q x n = x.set n (x.getD n 0 - dotS E x V)) := by show _ = _; rw [reflL, hxV.out, hE]
    rw [hE] at hrow
    have HXN := Lib.hid (getD_rng HQ3.out n)
    have hwg : w.heap.size ≤ g := Nat.le_trans g3.size (ho4.lt g rfl).1
    rw [← hE0, show x.getD n 0 = x.getD n 0 - dotS E x 0 by simp [dotS]] at ho5
    have HLX := Lib.hid (show (x.set n (x.getD n 0 - dotS E x 0)).length = x.length by simp)
    rw [HLX.out] at ho5
    clear hE hgr hE0 hm hb5 ho4 hb4 g4 k4 h4 hx4 d0 d1 d2 k3 h3 hx3 g3
    have hmo : Try.prog.follows .mixedOrders = true := by kernel_rfl
    go_wp2
    clear m1
    go_loopw [40] (fun i wr => ∃ k : Nat, k ≤ V ∧ i = .int .i64 k ∧ OwnI wr w.heap.size (.slice (some ⟨g, 0, none⟩) x.length gc) (x.set n (x.getD n 0 - dotS E x k)) ∧ OwnI wr w4.heap.size (.slice (some ⟨gr2, 0, none⟩) V cr2) (rowF V E) ∧ Below w.heap.size w wr) (fun i _ => V - (intOf i).toNat)
    case atStart => exact ⟨0, Nat.zero_le _, rfl, ho5, hrow, hb4'⟩
    case round =>
      clear ho5 hrow hb4'
      obtain ⟨k, hk, rfl, hown, hrow, hbel⟩ := hrel
      by_cases hlt : k < V
      · have hsk := hsr.out k
        have hlx : k < x.length := by have := hxV.out; omega
        have hnx : n < x.length := by have := hxV.out; omega
        obtain ⟨b2, o2, t, rfl, hb2, HT, t1, _⟩ := SlI.at_ HXO.out hlx
        have t2 := bcell hbel hb2 t1
        have r1 := (hrow.cellG (j := k) (by rw [rowF_length]; exact hlt)).1
        rw [rowF_getD _ hlt] at r1
        have ci := (hown.cellG (j := n) (by simpa using hnx)).1
        have fi := hown.frozenG n
        rw [show (x.set n (x.getD n 0 - dotS E x k)).getD n 0 = x.getD n 0 - dotS E x k by rw [List.getD_eq_getElem?_getD, List.getElem?_set, if_pos rfl, if_pos hnx]; rfl] at ci
        have hxn := HXN.out
        have hyr := HGR.out k
        have htr := HQ3.out t (List.mem_of_getElem? HT.out)
        obtain ⟨y, hy⟩ : ∃ y, E k = y := ⟨_, rfl⟩
        rw [hy] at r1 hyr
        have hpr := mul_rng hyr htr
        obtain ⟨p, hp⟩ : ∃ p, y * t = p := ⟨_, rfl⟩
        rw [hp] at hpr
        have hst : x.getD n 0 - dotS E x (k + 1) = x.getD n 0 - dotS E x k - p := by
          have : x.getD k 0 = t := by rw [List.getD_eq_getElem?_getD, HT.out]; rfl
          rw [dotS, hy, this, hp]; omega
        obtain ⟨a, ha⟩ : ∃ a, x.getD n 0 - dotS E x k = a := ⟨_, rfl⟩
        rw [ha] at ci hst hown
        have har : -6100 ≤ a ∧ a ≤ 6100 := by omega
        have hpt := hown.put (j := n) (x := a - p) ⟨by omega, by omega⟩
        rw [List.set_set] at hpt
        have hrw := hrow.kept hpt.2 (.inr (by simp [Value.ownBlock]; omega))
        have hbb := hbel.grown hpt.2 (by have := hbel.size; omega) (fun j hj => by injection hj with hj; omega)
        have HP := Lib.hid (show OwnI (wr.setCell ⟨g, n, none⟩ (.int .i64 (a - p))) w.heap.size (.slice (some ⟨g, 0, none⟩) x.length gc) (x.set n (x.getD n 0 - dotS E x (k + 1))) by rw [hst]; exact hpt.1)
        have HRW := Lib.hid hrw
        have HBB := Lib.hid hbb
        clear hpt hrw hbb hst ha hy hown hrow hsk hxn t1 hbel
        go_wp2_with fail
        go_region_o
        go_wp2
        go_roundw
        case rel => exact ⟨k + 1, by omega, by go_num, HP.out.drewN 1, HRW.out.drewN 1, below_drewN HBB.out 1⟩
        case measure => simp [intOf]; omega
      · have hkV : Hid (k = V) := by show _ = _; omega
        rw [hkV.out, ← hRL.out] at hown
        go_wp2
        exact bodyPost_ret (v := .tuple #[.slice (some ⟨g, 0, none⟩) x.length gc, .bool true]) (by simp [results, go_sem]) rfl ⟨_, by rw [hF.out], by rw [hF.out]; exact IntsO.of_own hown, hbel⟩
  · have hF : Hid (reflQ q x n = ([], false)) := by show _ = _; simp [reflQ, hlo]
    rw [hlo] at hlp
    go_enter Try.func116, Try.ntmps116
    go_wp2_with fail
    rw [← hW]; clear hW
    refine (areNumbers_any _ _ _ _ _ h0 hx0).mono ?_; rintro e w1 ⟨rfl, hb1⟩
    rw [hq]
    have g1 := bthen g0 hb1
    have k1 := kB.call hb1
    have h1 := QvR.next hb1 h0
    clear c0 c1 c2
    have d0 := k1.cell' (i := 0) rfl
    have d1 := k1.cell' (i := 1) rfl
    have d2 := k1.cell' (i := 2) rfl
    go_wp2_with fail
    refine (hasVertex_any _ _ _ _ h1 HV1.out).mono ?_; rintro e w2 ⟨rfl, hb2⟩
    rw [hin]
    have g2 := bthen g1 hb2
    have k2 := k1.call hb2
    have h2 := QvR.next hb2 h1
    clear d0 d1 d2
    have d0 := k2.cell' (i := 0) rfl
    have d1 := k2.cell' (i := 1) rfl
    have d2 := k2.cell' (i := 2) rfl
    go_wp2_with fail
    refine (symmetric_any _ _ _ h2 HQ1.out).mono ?_; rintro e w3 ⟨mv, rfl, hm, hb3⟩
    have g3 := bthen g2 hb3
    obtain ⟨gm, cm, gr, cr, rfl, m1, hrow, _, hcr1, hcr2⟩ := hm.entry hsV.out hnV
    have m2 := (hrow.cellG (j := n) (by rw [rowF_length]; exact hnV)).1
    rw [rowF_getD _ hnV, HZ.out] at m2
    clear hm hrow
    go_wp2
    exact bodyPost_ret (v := .tuple #[.slice none 0 0, .bool false]) (by simp [results, go_sem]) rfl ⟨_, by rw [hF.out], by rw [hF.out]; exact IntsO.nil_ _ _ _, g3⟩
end Go.Proofs.Ytgbchoenmpoojaa

/- The two ReflectWord. -/
namespace Go.Proofs.Ytgbchoenmpoojaa
set_option linter.unusedVariables false
set_option linter.unusedSimpArgs false
open Go.RowKit

/-- the word's reflections, one behind the other -/
def wordGo (q : Qv) : List Int → List Int → List Int × Bool
  | x, [] => (x, true)
  | x, v :: r => if (reflQ q x v).2 then wordGo q (reflQ q x v).1 r else ([], false)
def wordQ (q : Qv) (x word : List Int) : List Int × Bool := if isNum q x && decide (word.length ≤ 200) then wordGo q x word else ([], false)
theorem wordGo_step {q : Qv} {x word : List Int} {k : Nat} {v : Int} (h : word[k]? = some v) : wordGo q x (word.drop k) = if (reflQ q x v).2 then wordGo q (reflQ q x v).1 (word.drop (k + 1)) else ([], false) := by
  have hk := lt_of_some h
  have e : word[k] = v := by rw [List.getElem?_eq_getElem hk] at h; injection h
  rw [List.drop_eq_getElem_cons hk, e, wordGo]
theorem wordGo_end {q : Qv} {x word : List Int} {k : Nat} (h : word.length ≤ k) : wordGo q x (word.drop k) = (x, true) := by
  rw [List.drop_of_length_le h, wordGo]

set_option maxHeartbeats 800000 in
set_option maxRecDepth 20000 in
theorem implReflectWord_any (u : Value) (q : Qv) (xv : Value) (x : List Int) (dv : Value) (word : List Int) (w : World) (hu : QvR w w.heap.size u q) (hx : SlI w w.heap.size xv x) (hd : SlI w w.heap.size dv word) :
    Calls Try.prog 97 #[u, xv, dv] w fun e w' => ∃ r, e = .returned (.tuple #[r, .bool (wordQ q x word).2]) ∧ IntsO w' w.heap.size w'.heap.size r (wordQ q x word).1 ∧ Below w.heap.size w w' := by
  have hu' := hu
  obtain ⟨A, c, C, d, rfl, hf, hT, hr, lf, lt⟩ := hu.open_
  have hx' := hx
  obtain ⟨XA, xc, rfl, _, _, lx, _⟩ := hx.open_
  obtain ⟨DA, dc, rfl, _, _, ld, hd'⟩ := hd.open_
  clear hu hx hf hT hd
  obtain ⟨W, hW⟩ : ∃ W, W = w.alloc (.cells #[.int .i64 q.v, .slice A q.f.length c, .slice C q.t.length d] 27) := ⟨_, rfl⟩
  have g0 : Below w.heap.size w W := by rw [hW]; exact below_alloc _ _
  have kB : Blk W w.heap.size 27 #[.int .i64 q.v, .slice A q.f.length c, .slice C q.t.length d] := by rw [hW]; exact Blk.new _ _ _
  have c0 := kB.cell' (i := 0) rfl
  have c1 := kB.cell' (i := 1) rfl
  have c2 := kB.cell' (i := 2) rfl
  have h0 := QvR.next g0 hu'
  have hx0 := SlI.next g0 hx'
  clear hu' hx'
  rcases hq : isNum q x with _ | _
  · have hF : Hid (wordQ q x word = ([], false)) := by show _ = _; simp [wordQ, hq]
    go_enter Try.func97, Try.ntmps97
    go_wp2_with fail
    rw [← hW]; clear hW
    refine (areNumbers_any _ _ _ _ _ h0 hx0).mono ?_; rintro e w1 ⟨rfl, hb1⟩
    rw [hq]
    go_wp2
    exact bodyPost_ret (v := .tuple #[.slice none 0 0, .bool false]) (by simp [results, go_sem]) rfl ⟨_, by rw [hF.out], by rw [hF.out]; exact IntsO.nil_ _ _ _, bthen g0 hb1⟩
  · obtain ⟨hq1, hq2, hq3⟩ := isNum_t.1 hq
    obtain ⟨hv1, hv2⟩ := (isQ_t.1 hq1).1
    have hxp : 0 < x.length := by omega
    have hxr : ∀ y ∈ x, I64 y := fun y hy => by have := hq3 y hy; exact ⟨by omega, by omega⟩
    clear hq1 hq2 hq3 hv1 hv2
    by_cases hl : word.length ≤ 200
    · have hl' : ¬ (200 : Int) < word.length := by omega
      have HE : Hid (wordQ q x word = wordGo q x (word.drop 0)) := by show _ = _; simp [wordQ, hq, hl]
      have HXR := Lib.hid hxr
      clear hxr
      go_enter Try.func97, Try.ntmps97
      go_wp2_with fail
      rw [← hW]; clear hW
      refine (areNumbers_any _ _ _ _ _ h0 hx0).mono ?_; rintro e w1 ⟨rfl, hb1⟩
      rw [hq]
      go_wp2_with fail
      refine (clone_any _ x _ (SlI.next hb1 hx0) hxp HXR.out).mono ?_; rintro e w2 ⟨g, gc, rfl, ho2, hgc1, hgc2, hb2⟩
      have g2 := bthen (bthen g0 hb1) hb2
      have hk2 := (kB.call hb1).call hb2
      have hWb := bthen hb1 hb2
      have hs0 := g0.size
      have ho3 := ho2.lower (bthen g0 hb1).size
      have hr0 := Lib.hid h0
      clear c0 c1 c2 hb1 hb2 ho2 hxp hx0
      go_wp2
      go_loopw [8, 25] (fun a i wr => ∃ (k : Nat) (cur : List Int), k ≤ word.length ∧ i = .int .i64 k ∧ OwnI wr w.heap.size a cur ∧ Below w.heap.size w wr ∧ Below W.heap.size W wr ∧ Blk wr w.heap.size 27 #[.int .i64 q.v, .slice A q.f.length c, .slice C q.t.length d] ∧ Hid (wordQ q x word = wordGo q cur (word.drop k))) (fun _ i _ => word.length - (intOf i).toNat)
      case atStart => exact ⟨0, x, Nat.zero_le _, rfl, ho3, g2, hWb, hk2, HE⟩
      case round =>
        clear ho3 hk2 g2 hWb HE
        obtain ⟨k, cur, hk, rfl, hown, hbel, hbW, hkB, hR⟩ := hrel
        obtain ⟨OA, oc, rfl, _, _⟩ := hown.form
        have e0 := hkB.cell' (i := 0) rfl
        have e1 := hkB.cell' (i := 1) rfl
        have e2 := hkB.cell' (i := 2) rfl
        have hs1 := hbW.size
        by_cases hlt : k < word.length
        · obtain ⟨b, o, v, rfl, hb, HV, v1, hv1, hv2⟩ := SlI.at_ hd' hlt
          have v2 := bcell hbel hb v1
          have hrq := QvR.more (B' := wr.heap.size) hs1 (QvR.below hbW hr0.out)
          have hst := wordGo_step (q := q) (x := cur) HV.out
          rw [← hR.out] at hst
          have HST := Lib.hid hst
          clear hst hR v1
          have HC := implReflectDims_any _ q _ cur v wr hrq hown.rd ⟨hv1, hv2⟩
          obtain ⟨nx, hnx⟩ : ∃ nx, reflQ q cur v = nx := ⟨_, rfl⟩
          rw [hnx] at HC
          have HNX := Lib.hid hnx
          clear hnx
          obtain ⟨l, B⟩ := nx
          have HC := Lib.hid HC
          cases B
          · have hF : Hid (wordQ q x word = ([], false)) := by show _ = _; rw [HST.out, HNX.out]; rfl
            go_wp2_with fail
            refine (unhide HC).mono ?_; rintro e w3 ⟨r, rfl, hr3, hb3⟩
            go_wp2
            exact bodyPost_ret (v := .tuple #[.slice none 0 0, .bool false]) (by simp [results, go_sem]) rfl ⟨_, by rw [hF.out], by rw [hF.out]; exact IntsO.nil_ _ _ _, hbel.trans (hb3.mono hbel.size)⟩
          · have hF : Hid (wordQ q x word = wordGo q l (word.drop (k + 1))) := by show _ = _; rw [HST.out, HNX.out]; rfl
            go_wp2_with fail
            refine (unhide HC).mono ?_; rintro e w3 ⟨r, rfl, hr3, hb3⟩
            have hk3 := hkB.call hb3
            have hW3 := hbW.trans (hb3.mono hs1)
            have hb4 := hbel.trans (hb3.mono hbel.size)
            have ho4 := hr3.1.lower hbel.size
            go_wp2
            go_roundw
            case rel => exact ⟨k + 1, l, by omega, by go_num, ho4, hb4, hW3, hk3, hF.out⟩
            case measure => simp [intOf]; omega
        · have hF : Hid (wordQ q x word = (cur, true)) := by show _ = _; rw [hR.out, wordGo_end (by omega)]
          go_wp2
          exact bodyPost_ret (v := .tuple #[.slice OA cur.length oc, .bool true]) (by simp [results, go_sem]) rfl ⟨_, by rw [hF.out], by rw [hF.out]; exact IntsO.of_own hown, hbel⟩
    · have hl' : (200 : Int) < word.length := by omega
      have hF : Hid (wordQ q x word = ([], false)) := by show _ = _; simp [wordQ, hl]
      go_enter Try.func97, Try.ntmps97
      go_wp2_with fail
      rw [← hW]; clear hW
      refine (areNumbers_any _ _ _ _ _ h0 hx0).mono ?_; rintro e w1 ⟨rfl, hb1⟩
      rw [hq]
      go_wp2
      exact bodyPost_ret (v := .tuple #[.slice none 0 0, .bool false]) (by simp [results, go_sem]) rfl ⟨_, by rw [hF.out], by rw [hF.out]; exact IntsO.nil_ _ _ _, bthen g0 hb1⟩
end Go.Proofs.Ytgbchoenmpoojaa

/- The reference's ReflectWord (turned from Word.lean). -/
namespace Go.Proofs.Ytgbchoenmpoojaa
set_option linter.unusedVariables false
set_option linter.unusedSimpArgs false
open Go.RowKit

set_option maxHeartbeats 800000 in
set_option maxRecDepth 20000 in
theorem specReflectWord_any (u : Value) (q : Qv) (xv : Value) (x : List Int) (dv : Value) (word : List Int) (w : World) (hu : QvR w w.heap.size u q) (hx : SlI w w.heap.size xv x) (hd : SlI w w.heap.size dv word) :
    Calls Try.prog 89 #[u, xv, dv] w fun e w' => ∃ r, e = .returned (.tuple #[r, .bool (wordQ q x word).2]) ∧ IntsO w' w.heap.size w'.heap.size r (wordQ q x word).1 ∧ Below w.heap.size w w' := by
  have hu' := hu
  obtain ⟨A, c, C, d, rfl, hf, hT, hr, lf, lt⟩ := hu.open_
  have hx' := hx
  obtain ⟨XA, xc, rfl, _, _, lx, _⟩ := hx.open_
  obtain ⟨DA, dc, rfl, _, _, ld, hd'⟩ := hd.open_
  clear hu hx hf hT hd
  obtain ⟨W, hW⟩ : ∃ W, W = w.alloc (.cells #[.int .i64 q.v, .slice A q.f.length c, .slice C q.t.length d] 27) := ⟨_, rfl⟩
  have g0 : Below w.heap.size w W := by rw [hW]; exact below_alloc _ _
  have kB : Blk W w.heap.size 27 #[.int .i64 q.v, .slice A q.f.length c, .slice C q.t.length d] := by rw [hW]; exact Blk.new _ _ _
  have c0 := kB.cell' (i := 0) rfl
  have c1 := kB.cell' (i := 1) rfl
  have c2 := kB.cell' (i := 2) rfl
  have h0 := QvR.next g0 hu'
  have hx0 := SlI.next g0 hx'
  clear hu' hx'
  rcases hq : isNum q x with _ | _
  · have hF : Hid (wordQ q x word = ([], false)) := by show _ = _; simp [wordQ, hq]
    go_enter Try.func89, Try.ntmps89
    go_wp2_with fail
    rw [← hW]; clear hW
    refine (l18Vector_any _ _ _ _ _ h0 hx0).mono ?_; rintro e w1 ⟨rfl, hb1⟩
    rw [hq]
    go_wp2
    exact bodyPost_ret (v := .tuple #[.slice (some ⟨w1.heap.size, 0, none⟩) 0 0, .bool false]) (by simp [results, go_sem]) rfl ⟨_, by rw [hF.out], by rw [hF.out]; exact IntsO.made_ _ (bthen g0 hb1).size, (bthen g0 hb1).alloc (bthen g0 hb1).size _⟩
  · obtain ⟨hq1, hq2, hq3⟩ := isNum_t.1 hq
    obtain ⟨hv1, hv2⟩ := (isQ_t.1 hq1).1
    have hxp : 0 < x.length := by omega
    have hxr : ∀ y ∈ x, I64 y := fun y hy => by have := hq3 y hy; exact ⟨by omega, by omega⟩
    clear hq1 hq2 hq3 hv1 hv2
    by_cases hl : word.length ≤ 200
    · have hl' : ¬ (200 : Int) < word.length := by omega
      have HE : Hid (wordQ q x word = wordGo q x (word.drop 0)) := by show _ = _; simp [wordQ, hq, hl]
      have HXR := Lib.hid hxr
      clear hxr
      go_enter Try.func89, Try.ntmps89
      go_wp2_with fail
      rw [← hW]; clear hW
      refine (l18Vector_any _ _ _ _ _ h0 hx0).mono ?_; rintro e w1 ⟨rfl, hb1⟩
      rw [hq]
      (go_wp2_with (at_builtin; refine Hold.stop ?_)); unfold Hold
      have ho0 : OwnI (w1.alloc (.cells #[] 3)) w1.heap.size (.slice (some ⟨w1.heap.size, 0, none⟩) 0 0) [] := OwnI.made _ rfl (Nat.le_refl _)
      refine wpList_appI rfl (.tmp 22) (.tmp 23) rfl w1.heap.size w1.heap.size (.slice (some ⟨w1.heap.size, 0, none⟩) 0 0) [] rfl ho0 _ _ _ x rfl rfl (SlI.below (below_alloc _ _) (SlI.next hb1 hx0)) (by simp; omega) (by simp) ?_
      intro v1 w2 ho2 hg2 hvv
      rw [List.nil_append] at ho2
      have hb2 : Below w1.heap.size w1 w2 := ((Below.refl _ _).alloc (Nat.le_refl _) (.cells #[] 3)).grown hg2 (by simp) (fun j hj => (ho0.lt j hj).1)
      have g2 := bthen (bthen g0 hb1) hb2
      clear hg2 hvv ho0
      have hk2 := (kB.call hb1).call hb2
      have hWb := bthen hb1 hb2
      have hs0 := g0.size
      have ho3 := ho2.lower (bthen g0 hb1).size
      have hr0 := Lib.hid h0
      clear c0 c1 c2 hb1 hb2 ho2 hxp hx0
      go_wp2
      go_loopw [8, 9] (fun a i wr => ∃ (k : Nat) (cur : List Int), k ≤ word.length ∧ i = .int .i64 k ∧ OwnI wr w.heap.size a cur ∧ Below w.heap.size w wr ∧ Below W.heap.size W wr ∧ Blk wr w.heap.size 27 #[.int .i64 q.v, .slice A q.f.length c, .slice C q.t.length d] ∧ Hid (wordQ q x word = wordGo q cur (word.drop k))) (fun _ i _ => word.length - (intOf i).toNat)
      case atStart => exact ⟨0, x, Nat.zero_le _, rfl, ho3, g2, hWb, hk2, HE⟩
      case round =>
        clear ho3 hk2 g2 hWb HE
        obtain ⟨k, cur, hk, rfl, hown, hbel, hbW, hkB, hR⟩ := hrel
        obtain ⟨OA, oc, rfl, _, _⟩ := hown.form
        have e0 := hkB.cell' (i := 0) rfl
        have e1 := hkB.cell' (i := 1) rfl
        have e2 := hkB.cell' (i := 2) rfl
        have hs1 := hbW.size
        by_cases hlt : k < word.length
        · obtain ⟨b, o, v, rfl, hb, HV, v1, hv1, hv2⟩ := SlI.at_ hd' hlt
          have v2 := bcell hbel hb v1
          have HVC := Lib.hid v1
          have hrq := QvR.more (B' := wr.heap.size) hs1 (QvR.below hbW hr0.out)
          have hst := wordGo_step (q := q) (x := cur) HV.out
          rw [← hR.out] at hst
          have HST := Lib.hid hst
          clear hst hR v1
          have hdr := drew_below wr
          have hrq' := QvR.next hdr hrq
          have hown' := hown.below hdr
          have hbel' := hbel.trans (hdr.mono hbel.size)
          have hbW' := hbW.trans (hdr.mono hs1)
          have hkB' := hkB.call hdr
          have q0 := hkB'.cell' (i := 0) rfl
          have q1 := hkB'.cell' (i := 1) rfl
          have q2 := hkB'.cell' (i := 2) rfl
          have q3 := bcell hbel' hb (show w.cell? ⟨b, o + k, none⟩ = some (.int .i64 v) from HVC.out)
          have HC := specReflectDims_any _ q _ cur v wr.drew hrq' hown'.rd ⟨hv1, hv2⟩
          obtain ⟨nx, hnx⟩ : ∃ nx, reflQ q cur v = nx := ⟨_, rfl⟩
          rw [hnx] at HC
          have HNX := Lib.hid hnx
          clear hnx
          obtain ⟨l, B⟩ := nx
          have HC := Lib.hid HC
          cases B
          · have hF : Hid (wordQ q x word = ([], false)) := by show _ = _; rw [HST.out, HNX.out]; rfl
            go_wp2_with fail
            go_region_held3 (fun W' => W'.cell? ⟨w.heap.size, 0, none⟩ = some (.int .i64 q.v) ∧ W'.cell? ⟨w.heap.size, 1, none⟩ = some (.slice A q.f.length c) ∧ W'.cell? ⟨w.heap.size, 2, none⟩ = some (.slice C q.t.length d) ∧ W'.cell? ⟨b, o + k, none⟩ = some (.int .i64 v))
              (first | exact ⟨q0, q1, q2, q3⟩ | exact ⟨z0, z1, z2, z3⟩)
              (first | (go_at_call 114; refine (unhide HC).mono ?_; rintro e w3 ⟨r, rfl, hr3, hb3⟩; have hk3 := hkB'.call hb3; have z0 := hk3.cell' (i := 0) rfl; have z1 := hk3.cell' (i := 1) rfl; have z2 := hk3.cell' (i := 2) rfl; have z3 := bcell (hbel'.trans (hb3.mono hbel'.size)) hb HVC.out))
            go_wp2
            have g9 := hbel'.trans (hb3.mono hbel'.size)
            exact bodyPost_ret (v := .tuple #[.slice (some ⟨w3.heap.size, 0, none⟩) 0 0, .bool false]) (by simp [results, go_sem]) rfl ⟨_, by rw [hF.out], by rw [hF.out]; exact IntsO.made_ _ g9.size, g9.alloc g9.size _⟩
          · have hF : Hid (wordQ q x word = wordGo q l (word.drop (k + 1))) := by show _ = _; rw [HST.out, HNX.out]; rfl
            go_wp2_with fail
            go_region_held3 (fun W' => W'.cell? ⟨w.heap.size, 0, none⟩ = some (.int .i64 q.v) ∧ W'.cell? ⟨w.heap.size, 1, none⟩ = some (.slice A q.f.length c) ∧ W'.cell? ⟨w.heap.size, 2, none⟩ = some (.slice C q.t.length d) ∧ W'.cell? ⟨b, o + k, none⟩ = some (.int .i64 v))
              (first | exact ⟨q0, q1, q2, q3⟩ | exact ⟨z0, z1, z2, z3⟩)
              (first | (go_at_call 114; refine (unhide HC).mono ?_; rintro e w3 ⟨r, rfl, hr3, hb3⟩; have hk3 := hkB'.call hb3; have z0 := hk3.cell' (i := 0) rfl; have z1 := hk3.cell' (i := 1) rfl; have z2 := hk3.cell' (i := 2) rfl; have z3 := bcell (hbel'.trans (hb3.mono hbel'.size)) hb HVC.out))
            have hW3 := hbW'.trans (hb3.mono hbW'.size)
            have hb4 := hbel'.trans (hb3.mono hbel'.size)
            have ho4 := hr3.1.lower hbel'.size
            go_wp2
            go_roundw
            case rel => exact ⟨k + 1, l, by omega, by go_num, ho4, hb4, hW3, hk3, hF.out⟩
            case measure => simp [intOf]; omega
        · have hF : Hid (wordQ q x word = (cur, true)) := by show _ = _; rw [hR.out, wordGo_end (by omega)]
          go_wp2
          exact bodyPost_ret (v := .tuple #[.slice OA cur.length oc, .bool true]) (by simp [results, go_sem]) rfl ⟨_, by rw [hF.out], by rw [hF.out]; exact IntsO.of_own hown, hbel⟩
    · have hl' : (200 : Int) < word.length := by omega
      have hF : Hid (wordQ q x word = ([], false)) := by show _ = _; simp [wordQ, hl]
      go_enter Try.func89, Try.ntmps89
      go_wp2_with fail
      rw [← hW]; clear hW
      refine (l18Vector_any _ _ _ _ _ h0 hx0).mono ?_; rintro e w1 ⟨rfl, hb1⟩
      rw [hq]
      go_wp2
      exact bodyPost_ret (v := .tuple #[.slice (some ⟨w1.heap.size, 0, none⟩) 0 0, .bool false]) (by simp [results, go_sem]) rfl ⟨_, by rw [hF.out], by rw [hF.out]; exact IntsO.made_ _ (bthen g0 hb1).size, (bthen g0 hb1).alloc (bthen g0 hb1).size _⟩
end Go.Proofs.Ytgbchoenmpoojaa

/- The program's CoxeterPower and CoxeterOf. -/
namespace Go.Proofs.Ytgbchoenmpoojaa
set_option linter.unusedVariables false
set_option linter.unusedSimpArgs false
open Go.RowKit

/-- a word's reflections, some times over -/
def powGo (q : Qv) (wd : List Int) : List Int → Nat → List Int × Bool
  | x, 0 => (x, true)
  | x, n + 1 => if (wordQ q x wd).2 then powGo q wd (wordQ q x wd).1 n else ([], false)
def coxP (q : Qv) (x : List Int) (n : Int) : List Int × Bool :=
  if (ordQ q).2 && isNum q x && inR n (-40) 40 then powGo q (if n < 0 then (ordQ q).1 else (ordQ q).1.reverse) x n.natAbs else ([], false)
theorem wordGo_no (q : Qv) : ∀ (wd x : List Int), (wordGo q x wd).2 = false → (wordGo q x wd).1 = []
  | [], x, h => by simp [wordGo] at h
  | v :: r, x, h => by
    unfold wordGo at h ⊢
    split
    · rename_i hb; rw [if_pos hb] at h; exact wordGo_no q r _ h
    · rfl
theorem wordQ_no {q : Qv} {x wd : List Int} (h : (wordQ q x wd).2 = false) : wordQ q x wd = ([], false) := by
  have h1 : (wordQ q x wd).1 = [] := by
    unfold wordQ at h ⊢
    split
    · rename_i hb; rw [if_pos hb] at h; exact wordGo_no q wd x h
    · rfl
  generalize wordQ q x wd = p at h h1
  obtain ⟨a, b⟩ := p
  simp only at h h1
  subst h h1
  rfl
theorem powGo_step {q : Qv} {wd x : List Int} {N k : Nat} (h : k < N) : powGo q wd x (N - k) = if (wordQ q x wd).2 then powGo q wd (wordQ q x wd).1 (N - (k + 1)) else ([], false) := by
  rw [show N - k = (N - (k + 1)) + 1 by omega, powGo]


theorem OwnI.form2 {w : World} {base : Nat} {v : Value} {l : List Int} (h : OwnI w base v l) : ∃ A c, v = .slice A l.length c := by
  obtain ⟨A, c, e, _⟩ := h.form
  exact ⟨A, c, e⟩

set_option maxHeartbeats 3200000 in
set_option maxRecDepth 20000 in
theorem implCoxeterPower_any (u : Value) (q : Qv) (xv : Value) (x : List Int) (n : Int) (w : World) (hu : QvR w w.heap.size u q) (hx : SlI w w.heap.size xv x) (hn : I64 n) :
    Calls Try.prog 57 #[u, xv, .int .i64 n] w fun e w' => ∃ r, e = .returned (.tuple #[r, .bool (coxP q x n).2]) ∧ IntsO w' w.heap.size w'.heap.size r (coxP q x n).1 ∧ Below w.heap.size w w' := by
  obtain ⟨A, c, C, d, eu⟩ := hu.form
  subst eu
  obtain ⟨XA, xc, rfl, _, _, lx, hx⟩ := hx.open_
  obtain ⟨W, hW⟩ : ∃ W, W = w.alloc (.cells #[.int .i64 q.v, .slice A q.f.length c, .slice C q.t.length d] 27) := ⟨_, rfl⟩
  have g0 : Below w.heap.size w W := by rw [hW]; exact below_alloc _ _
  have kB : Blk W w.heap.size 27 #[.int .i64 q.v, .slice A q.f.length c, .slice C q.t.length d] := by rw [hW]; exact Blk.new _ _ _
  have hlt0 : w.heap.size < W.heap.size := kB.lt
  have KB := Lib.hid kB
  have c0 := kB.cell' (i := 0) rfl
  have c1 := kB.cell' (i := 1) rfl
  have c2 := kB.cell' (i := 2) rfl
  have h0 := QvR.next g0 hu
  have hx0 := SlI.next g0 hx
  clear hu hx
  obtain ⟨ol, hol⟩ : ∃ l, (ordQ q).1 = l := ⟨_, rfl⟩
  have HOL := Lib.hid hol
  clear hol
  rcases hB1 : (ordQ q).2 with _ | _
  · have hF : Hid (coxP q x n = ([], false)) := by show _ = _; simp [coxP, hB1]
    go_enter Try.func57, Try.ntmps57
    go_wp2_with fail
    rw [← hW]; clear hW
    refine (implCoxeterOrder_any _ q _ h0).mono ?_; rintro e W9 ⟨ov, rfl, hO9, hb9⟩
    rw [HOL.out] at hO9
    obtain ⟨oA, oc, eov⟩ := hO9.1.form2
    subst eov
    rw [List.length_reverse] at hO9
    clear c0 c1 c2
    rw [hB1]
    have kB9 := kB.call hb9
    have c0 := kB9.cell' (i := 0) rfl
    have c1 := kB9.cell' (i := 1) rfl
    have c2 := kB9.cell' (i := 2) rfl
    go_wp2
    exact bodyPost_ret (v := .tuple #[.slice none 0 0, .bool false]) (by simp [results, go_sem]) rfl ⟨_, by rw [hF.out], by rw [hF.out]; exact IntsO.nil_ _ _ _, bthen g0 hb9⟩
  rcases hB2 : isNum q x with _ | _
  · have hF : Hid (coxP q x n = ([], false)) := by show _ = _; simp [coxP, hB2]
    have H2 := Lib.hid hB2
    clear hB2
    go_enter Try.func57, Try.ntmps57
    go_wp2_with fail
    rw [← hW]; clear hW
    refine (implCoxeterOrder_any _ q _ h0).mono ?_; rintro e W9 ⟨ov, rfl, hO9, hb9⟩
    rw [HOL.out] at hO9
    obtain ⟨oA, oc, eov⟩ := hO9.1.form2
    subst eov
    rw [List.length_reverse] at hO9
    clear c0 c1 c2
    rw [hB1]
    have kB9 := kB.call hb9
    have c0 := kB9.cell' (i := 0) rfl
    have c1 := kB9.cell' (i := 1) rfl
    have c2 := kB9.cell' (i := 2) rfl
    go_wp2_with fail
    refine (areNumbers_any _ _ _ _ _ (QvR.next hb9 h0) (SlI.next hb9 hx0)).mono ?_; rintro e w1 ⟨rfl, hb1⟩
    rw [H2.out]
    go_wp2
    exact bodyPost_ret (v := .tuple #[.slice none 0 0, .bool false]) (by simp [results, go_sem]) rfl ⟨_, by rw [hF.out], by rw [hF.out]; exact IntsO.nil_ _ _ _, bthen (bthen g0 hb9) hb1⟩
  rcases hB3 : inR n (-40) 40 with _ | _
  · have hF : Hid (coxP q x n = ([], false)) := by show _ = _; simp [coxP, hB3]
    have H2 := Lib.hid hB2
    have H3 := Lib.hid hB3
    clear hB2 hB3
    go_enter Try.func57, Try.ntmps57
    go_wp2_with fail
    rw [← hW]; clear hW
    refine (implCoxeterOrder_any _ q _ h0).mono ?_; rintro e W9 ⟨ov, rfl, hO9, hb9⟩
    rw [HOL.out] at hO9
    obtain ⟨oA, oc, eov⟩ := hO9.1.form2
    subst eov
    rw [List.length_reverse] at hO9
    clear c0 c1 c2
    rw [hB1]
    have kB9 := kB.call hb9
    have c0 := kB9.cell' (i := 0) rfl
    have c1 := kB9.cell' (i := 1) rfl
    have c2 := kB9.cell' (i := 2) rfl
    go_wp2_with fail
    refine (areNumbers_any _ _ _ _ _ (QvR.next hb9 h0) (SlI.next hb9 hx0)).mono ?_; rintro e w1 ⟨rfl, hb1⟩
    rw [H2.out]
    go_wp2_with fail
    refine (within_any _ _ _ _).mono ?_; rintro e w1 ⟨rfl, rfl⟩
    rw [H3.out]
    go_wp2
    exact bodyPost_ret (v := .tuple #[.slice none 0 0, .bool false]) (by simp [results, go_sem]) rfl ⟨_, by rw [hF.out], by rw [hF.out]; exact IntsO.nil_ _ _ _, bthen (bthen g0 hb9) hb1⟩
  obtain ⟨n1, n2⟩ := inR_t.1 hB3
  have HB := Lib.hid (And.intro hB1 (And.intro hB2 hB3))
  have H2 := Lib.hid hB2
  have H3 := Lib.hid hB3
  clear hB2 hB3
  by_cases hneg : n < 0
  · obtain ⟨N, hN⟩ : ∃ N : Nat, n = -(N : Int) := ⟨n.natAbs, by omega⟩
    subst hN
    have hneg' : ¬ ((N : Int) ≤ -(N : Int)) := by omega
    have hneg2 : -(N : Int) < (N : Int) := by omega
    have HP : Hid (coxP q x (-(N : Int)) = powGo q ol x (N - 0)) := by
      show _ = _
      rw [coxP, HB.out.1, HB.out.2.1, HB.out.2.2, HOL.out, if_pos hneg]
      simp
    go_enter Try.func57, Try.ntmps57
    go_wp2_with fail
    rw [← hW]; clear hW
    refine (implCoxeterOrder_any _ q _ h0).mono ?_; rintro e W9 ⟨ov, rfl, hO9, hb9⟩
    rw [HOL.out] at hO9
    obtain ⟨oA, oc, eov⟩ := hO9.1.form2
    subst eov
    rw [List.length_reverse] at hO9
    clear c0 c1 c2
    rw [hB1]
    have kB9 := kB.call hb9
    have c0 := kB9.cell' (i := 0) rfl
    have c1 := kB9.cell' (i := 1) rfl
    have c2 := kB9.cell' (i := 2) rfl
    go_wp2_with fail
    refine (areNumbers_any _ _ _ _ _ (QvR.next hb9 h0) (SlI.next hb9 hx0)).mono ?_; rintro e w1 ⟨rfl, hb1⟩
    rw [H2.out]
    go_wp2_with fail
    refine (within_any _ _ _ _).mono ?_; rintro e w1 ⟨rfl, rfl⟩
    rw [H3.out]
    go_wp2_with fail
    have hO1 := hO9.below hb1
    refine (reverse_own _ _ W.heap.size _ hO1.1).mono ?_; rintro e w2 ⟨rfl, ho2, hg2⟩
    rw [List.reverse_reverse] at ho2
    have hc2 := chg_of_grown hO1 hg2
    have hO2 : IntsO w2 W.heap.size W9.heap.size (.slice oA ol.length oc) ol := ⟨ho2, hO1.2⟩
    have gW2 : Below W.heap.size W w2 := (bthen hb9 hb1).trans (hc2.below (Nat.le_refl _) (bthen hb9 hb1).size)
    clear hO1 ho2 hg2 hc2 hO9 kB9
    go_wp2_with fail
    refine (clone_own _ x _ (SlI.next gW2 hx0)).mono ?_; rintro e w3 ⟨cv, rfl, hC, hb3⟩
    have gW := bthen gW2 hb3
    have gw : Below w.heap.size w w3 := g0.trans (gW.mono g0.size)
    have gl : w.heap.size ≤ w2.heap.size := by have := gW2.size; omega
    have hOr := hO2.below hb3
    obtain ⟨xA, xc', rfl⟩ := hC.1.form2
    clear hO2 gW2 hb3 hb9 hb1 c0 c1 c2 kB
    go_wp2
    go_loopw [10, 39] (fun a i wr => ∃ (k : Nat) (cur : List Int), k ≤ N ∧ i = .int .i64 k ∧ OwnI wr w.heap.size a cur ∧ Below w.heap.size w wr ∧ Below W.heap.size W wr ∧ IntsO wr W.heap.size W9.heap.size (.slice oA ol.length oc) ol ∧ Hid (coxP q x (-(N : Int)) = powGo q ol cur (N - k))) (fun _ i _ => N - (intOf i).toNat)
    case atStart => exact ⟨0, x, Nat.zero_le _, rfl, hC.1.lower gl, gw, gW, hOr, HP.out⟩
    case round =>
      clear hC gw gW hOr HP
      obtain ⟨k, cur, hk, rfl, hown, hbel, hbW, hord, hR⟩ := hrel
      have kB := KB.out.below hbW hlt0
      have c0 := kB.cell' (i := 0) rfl
      have c1 := kB.cell' (i := 1) rfl
      have c2 := kB.cell' (i := 2) rfl
      obtain ⟨OA, oc', rfl, _, _⟩ := hown.form
      have hbs := hbW.size
      clear kB
      by_cases hlt : k < N
      · have hst := powGo_step (q := q) (wd := ol) (x := cur) hlt
        rw [← hR.out] at hst
        have HST := Lib.hid hst
        clear hst hR
        have HC := implReflectWord_any _ q _ cur _ ol wr (QvR.next hbW h0) hown.rd hord.rd
        obtain ⟨nx, hnx⟩ : ∃ nx, wordQ q cur ol = nx := ⟨_, rfl⟩
        rw [hnx] at HC
        have HNX := Lib.hid hnx
        clear hnx
        obtain ⟨l, B⟩ := nx
        have HC := Lib.hid HC
        cases B
        · have hF : Hid (coxP q x (-(N : Int)) = ([], false)) := by show _ = _; rw [HST.out, HNX.out]; rfl
          go_wp2_with fail
          refine (unhide HC).mono ?_; rintro e w3 ⟨r, rfl, hr3, hb3⟩
          go_wp2
          exact bodyPost_ret (v := .tuple #[.slice none 0 0, .bool false]) (by simp [results, go_sem]) rfl ⟨_, by rw [hF.out], by rw [hF.out]; exact IntsO.nil_ _ _ _, hbel.trans (hb3.mono hbel.size)⟩
        · have hF : Hid (coxP q x (-(N : Int)) = powGo q ol l (N - (k + 1))) := by show _ = _; rw [HST.out, HNX.out]; rfl
          go_wp2_with fail
          refine (unhide HC).mono ?_; rintro e w3 ⟨r, rfl, hr3, hb3⟩
          have hW3 := bthen hbW hb3
          have hb4 := hbel.trans (hb3.mono hbel.size)
          have ho4 := hr3.1.lower hbel.size
          have hord3 := hord.below hb3
          clear hr3 hb3 hord hown
          go_wp2
          go_roundw
          case rel => exact ⟨k + 1, l, by omega, by go_num, ho4, hb4, hW3, hord3, hF.out⟩
          case measure => simp [intOf]; omega
      · have hF : Hid (coxP q x (-(N : Int)) = (cur, true)) := by show _ = _; rw [hR.out, show N - k = 0 by omega, powGo]
        go_wp2
        exact bodyPost_ret (v := .tuple #[.slice OA cur.length oc', .bool true]) (by simp [results, go_sem]) rfl ⟨_, by rw [hF.out], by rw [hF.out]; exact IntsO.of_own hown, hbel⟩
  · obtain ⟨N, hN⟩ : ∃ N : Nat, n = (N : Int) := ⟨n.natAbs, by omega⟩
    subst hN
    have HP : Hid (coxP q x (N : Int) = powGo q ol.reverse x (N - 0)) := by
      show _ = _
      rw [coxP, HB.out.1, HB.out.2.1, HB.out.2.2, HOL.out, if_neg hneg]
      simp
    go_enter Try.func57, Try.ntmps57
    go_wp2_with fail
    rw [← hW]; clear hW
    refine (implCoxeterOrder_any _ q _ h0).mono ?_; rintro e W9 ⟨ov, rfl, hO9, hb9⟩
    rw [HOL.out] at hO9
    obtain ⟨oA, oc, eov⟩ := hO9.1.form2
    subst eov
    rw [List.length_reverse] at hO9
    clear c0 c1 c2
    rw [hB1]
    have kB9 := kB.call hb9
    have c0 := kB9.cell' (i := 0) rfl
    have c1 := kB9.cell' (i := 1) rfl
    have c2 := kB9.cell' (i := 2) rfl
    go_wp2_with fail
    refine (areNumbers_any _ _ _ _ _ (QvR.next hb9 h0) (SlI.next hb9 hx0)).mono ?_; rintro e w1 ⟨rfl, hb1⟩
    rw [H2.out]
    go_wp2_with fail
    refine (within_any _ _ _ _).mono ?_; rintro e w1 ⟨rfl, rfl⟩
    rw [H3.out]
    have hO2 := hO9.below hb1
    have gW2 := bthen hb9 hb1
    go_wp2_with fail
    refine (clone_own _ x _ (SlI.next gW2 hx0)).mono ?_; rintro e w3 ⟨cv, rfl, hC, hb3⟩
    have gW := bthen gW2 hb3
    have gw : Below w.heap.size w w3 := g0.trans (gW.mono g0.size)
    have gl : w.heap.size ≤ w1.heap.size := by have := gW2.size; omega
    have hOr := hO2.below hb3
    obtain ⟨xA, xc', rfl⟩ := hC.1.form2
    clear hO2 gW2 hb3 hb9 hb1 c0 c1 c2 kB hO9 kB9
    go_wp2
    go_loopw [10, 39] (fun a i wr => ∃ (k : Nat) (cur : List Int), k ≤ N ∧ i = .int .i64 k ∧ OwnI wr w.heap.size a cur ∧ Below w.heap.size w wr ∧ Below W.heap.size W wr ∧ IntsO wr W.heap.size W9.heap.size (.slice oA ol.length oc) ol.reverse ∧ Hid (coxP q x (N : Int) = powGo q ol.reverse cur (N - k))) (fun _ i _ => N - (intOf i).toNat)
    case atStart => exact ⟨0, x, Nat.zero_le _, rfl, hC.1.lower gl, gw, gW, hOr, HP.out⟩
    case round =>
      clear hC gw gW hOr HP
      obtain ⟨k, cur, hk, rfl, hown, hbel, hbW, hord, hR⟩ := hrel
      have kB := KB.out.below hbW hlt0
      have c0 := kB.cell' (i := 0) rfl
      have c1 := kB.cell' (i := 1) rfl
      have c2 := kB.cell' (i := 2) rfl
      obtain ⟨OA, oc', rfl, _, _⟩ := hown.form
      have hbs := hbW.size
      clear kB
      by_cases hlt : k < N
      · have hst := powGo_step (q := q) (wd := ol.reverse) (x := cur) hlt
        rw [← hR.out] at hst
        have HST := Lib.hid hst
        clear hst hR
        have HC := implReflectWord_any _ q _ cur _ ol.reverse wr (QvR.next hbW h0) hown.rd hord.rd
        obtain ⟨nx, hnx⟩ : ∃ nx, wordQ q cur ol.reverse = nx := ⟨_, rfl⟩
        rw [hnx] at HC
        have HNX := Lib.hid hnx
        clear hnx
        obtain ⟨l, B⟩ := nx
        have HC := Lib.hid HC
        cases B
        · have hF : Hid (coxP q x (N : Int) = ([], false)) := by show _ = _; rw [HST.out, HNX.out]; rfl
          go_wp2_with fail
          refine (unhide HC).mono ?_; rintro e w3 ⟨r, rfl, hr3, hb3⟩
          go_wp2
          exact bodyPost_ret (v := .tuple #[.slice none 0 0, .bool false]) (by simp [results, go_sem]) rfl ⟨_, by rw [hF.out], by rw [hF.out]; exact IntsO.nil_ _ _ _, hbel.trans (hb3.mono hbel.size)⟩
        · have hF : Hid (coxP q x (N : Int) = powGo q ol.reverse l (N - (k + 1))) := by show _ = _; rw [HST.out, HNX.out]; rfl
          go_wp2_with fail
          refine (unhide HC).mono ?_; rintro e w3 ⟨r, rfl, hr3, hb3⟩
          have hW3 := bthen hbW hb3
          have hb4 := hbel.trans (hb3.mono hbel.size)
          have ho4 := hr3.1.lower hbel.size
          have hord3 := hord.below hb3
          clear hr3 hb3 hord hown
          go_wp2
          go_roundw
          case rel => exact ⟨k + 1, l, by omega, by go_num, ho4, hb4, hW3, hord3, hF.out⟩
          case measure => simp [intOf]; omega
      · have hF : Hid (coxP q x (N : Int) = (cur, true)) := by show _ = _; rw [hR.out, show N - k = 0 by omega, powGo]
        go_wp2
        exact bodyPost_ret (v := .tuple #[.slice OA cur.length oc', .bool true]) (by simp [results, go_sem]) rfl ⟨_, by rw [hF.out], by rw [hF.out]; exact IntsO.of_own hown, hbel⟩

end Go.Proofs.Ytgbchoenmpoojaa

/- Knitting, plain: the orbit of a projective under the inverse of the Coxeter map leaves the positive vectors within twenty steps. -/
namespace Go.Proofs.Ytgbchoenmpoojaa
set_option linter.unusedVariables false
set_option linter.unusedSimpArgs false
open Go.RowKit

/-! ### reflections of vectors -/
def rfF (n : Nat) (g : Nat → Nat → Int) (x : Nat → Int) (v : Nat) : Nat → Int := mvF x v (sm n fun b => g v b * x b)
def wF (n : Nat) (g : Nat → Nat → Int) : (Nat → Int) → List Nat → Nat → Int
  | x, [] => x
  | x, v :: r => wF n g (rfF n g x v) r
theorem rfF_add (n : Nat) (g : Nat → Nat → Int) (x y : Nat → Int) (v : Nat) : rfF n g (fun i => x i + y i) v = fun i => rfF n g x v i + rfF n g y v i := by
  funext i
  have : (sm n fun b => g v b * (x b + y b)) = (sm n fun b => g v b * x b) + sm n fun b => g v b * y b := by
    rw [← sm_add]; apply sm_congr; intro b _; rw [Int.mul_add]
  unfold rfF mvF
  rw [this]
  by_cases h : i = v
  · simp only [if_pos h]; omega
  · simp only [if_neg h]
theorem wF_add (n : Nat) (g : Nat → Nat → Int) : ∀ (r : List Nat) (x y : Nat → Int), wF n g (fun i => x i + y i) r = fun i => wF n g x r i + wF n g y r i
  | [], _, _ => rfl
  | v :: r, x, y => by rw [wF, rfF_add, wF_add n g r, wF, wF]
theorem rfF_zero (n : Nat) (g : Nat → Nat → Int) (v : Nat) : rfF n g (fun _ => 0) v = fun _ => 0 := by
  funext i
  unfold rfF mvF
  rw [sm_congr (g := fun _ => 0) n fun b _ => by simp, sm_zero]
  split <;> rfl
theorem wF_zero (n : Nat) (g : Nat → Nat → Int) : ∀ r : List Nat, wF n g (fun _ => 0) r = fun _ => 0
  | [] => rfl
  | v :: r => by rw [wF, rfF_zero, wF_zero n g r]
theorem wF_out {n : Nat} {g : Nat → Nat → Int} {v : Nat} : ∀ (r : List Nat) (x : Nat → Int), v ∉ r → wF n g x r v = x v
  | [], _, _ => rfl
  | u :: r, x, h => by
    rw [List.mem_cons, not_or] at h
    rw [wF, wF_out r _ h.2, rfF, mvF, if_neg h.1]
/-- who is kept by a word of different reflections is kept by each -/
theorem wF_fix {n : Nat} {g : Nat → Nat → Int} {x : Nat → Int} : ∀ (r : List Nat), r.Nodup → (∀ v ∈ r, wF n g x r v = x v) → ∀ v ∈ r, (sm n fun b => g v b * x b) = 0
  | [], _, _, v, hv => by simp at hv
  | v :: r, hn, hf, u, hu => by
    rw [List.nodup_cons] at hn
    have h1 : wF n g (rfF n g x v) r v = rfF n g x v v := wF_out r _ hn.1
    have h2 : wF n g (rfF n g x v) r v = x v := hf v (by simp)
    have h0 : (sm n fun b => g v b * x b) = 0 := by
      rw [h2, rfF, mvF, if_pos rfl] at h1
      omega
    have h3 : rfF n g x v = x := by
      funext i
      rw [rfF, mvF, h0]
      split <;> omega
    rcases List.mem_cons.1 hu with rfl | hu
    · exact h0
    · refine wF_fix r hn.2 (fun a ha => ?_) u hu
      have := hf a (by simp [ha])
      rwa [wF, h3] at this
theorem bil_fix {n : Nat} {g : Nat → Nat → Int} {x : Nat → Int} (h : ∀ v, v < n → (sm n fun b => g v b * x b) = 0) : bil n g x x = 0 := by
  rw [bil_row, sm_congr (g := fun _ => 0) n fun a ha => by rw [h a ha]; simp, sm_zero]
theorem bil_rf {n : Nat} {g : Nat → Nat → Int} (G : FinG n g) {v : Nat} (hv : v < n) (x : Nat → Int) : bil n g (rfF n g x v) (rfF n g x v) = bil n g x x := by
  rw [rfF, bil_mv G.symm G.diag hv]
  grind
def itF (n : Nat) (g : Nat → Nat → Int) (r : List Nat) (x : Nat → Int) : Nat → Nat → Int
  | 0 => x
  | k + 1 => wF n g (itF n g r x k) r
theorem wF_sum (n : Nat) (g : Nat → Nat → Int) (r : List Nat) (x : Nat → Int) (i : Nat) : ∀ m, wF n g (fun a => sm m fun k => itF n g r x (i + k) a) r = fun a => sm m fun k => itF n g r x (i + k + 1) a
  | 0 => wF_zero n g r
  | m + 1 => by
    show wF n g (fun a => (sm m fun k => itF n g r x (i + k) a) + itF n g r x (i + m) a) r = _
    rw [wF_add, wF_sum n g r x i m]
    rfl
theorem orb_end {n : Nat} {g : Nat → Nat → Int} (G : FinG n g) {r : List Nat} (hr : r.Nodup) (hall : ∀ v, v < n → v ∈ r) (x : Nat → Int) {i m : Nat} (hm : 0 < m) (he : itF n g r x i = itF n g r x (i + m))
    (h0 : ∀ k, k < m → ∀ a, a < n → 0 ≤ itF n g r x (i + k) a) (hne : ∃ a, a < n ∧ itF n g r x i a ≠ 0) : False := by
  have hfix : wF n g (fun a => sm m fun k => itF n g r x (i + k) a) r = fun a => sm m fun k => itF n g r x (i + k) a := by
    rw [wF_sum]
    funext a
    have h1 := sm_front (fun k => itF n g r x (i + k) a) m
    have h2 : sm (m + 1) (fun k => itF n g r x (i + k) a) = (sm m fun k => itF n g r x (i + k) a) + itF n g r x (i + m) a := rfl
    have h3 : itF n g r x (i + 0) a = itF n g r x (i + m) a := by rw [Nat.add_zero, he]
    have h4 : (fun k => itF n g r x (i + (k + 1)) a) = fun k => itF n g r x (i + k + 1) a := rfl
    rw [h4] at h1
    omega
  have hz := wF_fix r hr (fun v _ => by rw [hfix])
  have hb := bil_fix (n := n) (g := g) (x := fun a => sm m fun k => itF n g r x (i + k) a) fun v hv => hz v (hall v hv)
  obtain ⟨a, ha, hna⟩ := hne
  have hp := G.pos1 (x := fun a => sm m fun k => itF n g r x (i + k) a) ⟨a, ha, by
    have h1 := sm_term (f := fun k => itF n g r x (i + k) a) (k := 0) m (fun k hk => h0 k hk a ha) hm
    have h2 := h0 0 hm a ha
    have h3 : itF n g r x (i + 0) a ≠ 0 := hna
    show (sm m fun k => itF n g r x (i + k) a) ≠ 0
    omega⟩
  omega
/-! ### lists -/
theorem root_num {q : Qv} (hk : kindQ q = 1) {x : List Int} (hl : x.length = q.v.toNat) (h2 : bil q.v.toNat (ent q q.f.length) (vx x) (vx x) = 2) : ∀ y ∈ x, -2 ≤ y ∧ y ≤ 2 := by
  intro y hy
  obtain ⟨i, hi⟩ := List.mem_iff_getElem?.1 hy
  have := (fin_G hk).le2 h2 (v := i) (by have := lt_of_some hi; omega)
  rwa [vx_some hi] at this
theorem refl_ok {q : Qv} (hk : kindQ q = 1) {x : List Int} (hl : x.length = q.v.toNat) (h2 : bil q.v.toNat (ent q q.f.length) (vx x) (vx x) = 2) {v : Int} (h0 : 0 ≤ v) (h1 : v ≤ q.v - 1) :
    reflQ q x v = (reflL q x v.toNat, true) ∧ (reflL q x v.toNat).length = q.v.toNat ∧ vx (reflL q x v.toNat) = rfF q.v.toNat (ent q q.f.length) (vx x) v.toNat ∧
      bil q.v.toNat (ent q q.f.length) (vx (reflL q x v.toNat)) (vx (reflL q x v.toNat)) = 2 := by
  have hq := fin_isQ hk
  obtain ⟨hv, hlen, _⟩ := isQ_t.1 hq
  have hnum : isNum q x = true := isNum_t.2 ⟨hq, by omega, fun y hy => by have := root_num hk hl h2 y hy; omega⟩
  have hloop : loopQ q v = false := by
    have := loop_ent (v := v.toNat) hlen
    rw [(fin_G hk).diag, show ((v.toNat : Nat) : Int) = v by omega] at this
    rw [← this]; rfl
  have hvx : vx (reflL q x v.toNat) = rfF q.v.toNat (ent q q.f.length) (vx x) v.toNat := by
    funext i
    rw [vx_refl q x v.toNat (by omega), hl]; rfl
  refine ⟨?_, by rw [reflL_length, hl], hvx, ?_⟩
  · rw [reflQ, hnum, hloop, show inR v 0 (q.v - 1) = true from inR_t.2 ⟨h0, h1⟩]; rfl
  · rw [hvx, bil_rf (fin_G hk) (by omega), h2]
theorem word_ok {q : Qv} (hk : kindQ q = 1) : ∀ (wd : List Int), (∀ v ∈ wd, 0 ≤ v ∧ v ≤ q.v - 1) → ∀ x : List Int, x.length = q.v.toNat → bil q.v.toNat (ent q q.f.length) (vx x) (vx x) = 2 →
    (wordGo q x wd).2 = true ∧ (wordGo q x wd).1.length = q.v.toNat ∧ vx (wordGo q x wd).1 = wF q.v.toNat (ent q q.f.length) (vx x) (wd.map Int.toNat) ∧ bil q.v.toNat (ent q q.f.length) (vx (wordGo q x wd).1) (vx (wordGo q x wd).1) = 2
  | [], _, x, hl, h2 => ⟨rfl, hl, rfl, h2⟩
  | v :: r, hr, x, hl, h2 => by
    obtain ⟨e1, e2, e3, e4⟩ := refl_ok hk hl h2 (hr v (by simp)).1 (hr v (by simp)).2
    have ih := word_ok hk r (fun u hu => hr u (by simp [hu])) _ e2 e4
    have e : wordGo q x (v :: r) = wordGo q (reflL q x v.toNat) r := by rw [wordGo, e1]; rfl
    rw [e, List.map_cons, wF, ← e3]
    exact ih
theorem cox_ok {q : Qv} (hk : kindQ q = 1) {x : List Int} (hl : x.length = q.v.toNat) (h2 : bil q.v.toNat (ent q q.f.length) (vx x) (vx x) = 2) :
    (coxP q x (-1)).2 = true ∧ (coxP q x (-1)).1.length = q.v.toNat ∧ vx (coxP q x (-1)).1 = wF q.v.toNat (ent q q.f.length) (vx x) ((ordQ q).1.map Int.toNat) ∧ bil q.v.toNat (ent q q.f.length) (vx (coxP q x (-1)).1) (vx (coxP q x (-1)).1) = 2 := by
  have ha := kind_acy hk
  obtain ⟨ho, hol⟩ := acy_ord ha
  have hq := fin_isQ hk
  have hv := (isQ_t.1 hq).1
  have hnum : isNum q x = true := isNum_t.2 ⟨hq, by omega, fun y hy => by have := root_num hk hl h2 y hy; omega⟩
  have hw := word_ok hk (ordQ q).1 ho.rng x hl h2
  have e1 : wordQ q x (ordQ q).1 = wordGo q x (ordQ q).1 := by
    rw [wordQ, hnum, show decide ((ordQ q).1.length ≤ 200) = true from decide_eq_true (by omega)]; rfl
  have e : coxP q x (-1) = ((wordGo q x (ordQ q).1).1, true) := by
    unfold acyQ at ha
    rw [coxP, ha, hnum, show inR (-1) (-40) 40 = true by decide]
    show powGo q (ordQ q).1 x 1 = _
    rw [powGo, e1, hw.1, powGo]; rfl
  rw [e]
  exact ⟨rfl, hw.2⟩
def itL (q : Qv) (x : List Int) : Nat → List Int
  | 0 => x
  | k + 1 => (coxP q (itL q x k) (-1)).1
theorem itL_succ (q : Qv) (x : List Int) : ∀ k, itL q (coxP q x (-1)).1 k = itL q x (k + 1)
  | 0 => rfl
  | k + 1 => by rw [itL, itL_succ q x k, itL]; rfl
theorem itL_ok {q : Qv} (hk : kindQ q = 1) {x : List Int} (hl : x.length = q.v.toNat) (h2 : bil q.v.toNat (ent q q.f.length) (vx x) (vx x) = 2) : ∀ k,
    (itL q x k).length = q.v.toNat ∧ vx (itL q x k) = itF q.v.toNat (ent q q.f.length) ((ordQ q).1.map Int.toNat) (vx x) k ∧ bil q.v.toNat (ent q q.f.length) (vx (itL q x k)) (vx (itL q x k)) = 2
  | 0 => ⟨hl, rfl, h2⟩
  | k + 1 => by
    obtain ⟨h1, h3, h4⟩ := itL_ok hk hl h2 k
    obtain ⟨_, e2, e3, e4⟩ := cox_ok hk h1 h4
    exact ⟨e2, by rw [itL, e3, h3]; rfl, e4⟩
def posL (x : List Int) : Bool := nnL x && x.any fun y => decide (0 < y)
theorem nnL_vx {x : List Int} : nnL x = true ↔ ∀ i, i < x.length → 0 ≤ vx x i := by
  rw [nnL, List.all_eq_true]
  constructor
  · intro h i hi
    have := h _ (vx_mem hi)
    simpa using this
  · intro h y hy
    obtain ⟨i, hi⟩ := List.mem_iff_getElem?.1 hy
    have := h i (lt_of_some hi)
    rw [vx_some hi] at this
    simpa using this
theorem root_ne {q : Qv} {x : List Int} (h2 : bil q.v.toNat (ent q q.f.length) (vx x) (vx x) = 2) : ∃ i, i < q.v.toNat ∧ vx x i ≠ 0 := by
  apply Classical.byContradiction
  intro hcon
  have : bil q.v.toNat (ent q q.f.length) (vx x) (vx x) = 0 := by
    rw [bil_row, sm_congr (g := fun _ => 0) _ fun a ha => ?_, sm_zero]
    have : vx x a = 0 := Classical.byContradiction fun h => hcon ⟨a, ha, h⟩
    rw [this]; simp
  omega
theorem posL_root {q : Qv} {x : List Int} (hl : x.length = q.v.toNat) (h2 : bil q.v.toNat (ent q q.f.length) (vx x) (vx x) = 2) : posL x = nnL x := by
  rw [posL]
  by_cases h : nnL x = true
  · rw [h, Bool.true_and, List.any_eq_true]
    obtain ⟨i, hi, hne⟩ := root_ne h2
    have h0 := nnL_vx.1 h i (by omega)
    exact ⟨_, vx_mem (l := x) (k := i) (by omega), by simp; omega⟩
  · rw [Bool.not_eq_true] at h
    rw [h]; rfl
theorem knit_end {q : Qv} (hk : kindQ q = 1) {x : List Int} (hx : isRt q x) : ∃ k, k ≤ 20 ∧ nnL (itL q x k) = false := by
  apply Classical.byContradiction
  intro hcon
  have hall : ∀ k, k ≤ 20 → nnL (itL q x k) = true := fun k hk => by
    cases h : nnL (itL q x k) with
    | true => rfl
    | false => exact absurd ⟨k, hk, h⟩ hcon
  have hit := itL_ok hk hx.len (hx.two hk)
  have hrt : ∀ k, k ≤ 20 → isRt q (itL q x k) := fun k hk20 => ⟨(hit k).1, nnL_vx.1 (hall k hk20), by have h1 := (hit k).2.2; rw [eul_bil (fin_isQ hk)] at h1; omega⟩
  have hdup : ¬ ((List.range 21).map (itL q x)).Nodup := fun hn => by
    have := rt_20 hk _ hn (by
      intro y hy
      obtain ⟨k, hk, rfl⟩ := List.mem_map.1 hy
      exact hrt k (by have := List.mem_range.1 hk; omega))
    simp at this
  have hex : ∃ i m, 0 < m ∧ i + m ≤ 20 ∧ itL q x i = itL q x (i + m) := by
    apply Classical.byContradiction
    intro hno
    apply hdup
    refine nodup_mapF List.nodup_range fun a ha b hb e => ?_
    rw [List.mem_range] at ha hb
    rcases Nat.lt_trichotomy a b with h | h | h
    · exact absurd ⟨a, b - a, by omega, by omega, by rw [show a + (b - a) = b by omega]; exact e⟩ hno
    · exact h
    · exact absurd ⟨b, a - b, by omega, by omega, by rw [show b + (a - b) = a by omega]; exact e.symm⟩ hno
  obtain ⟨i, m, hm, him, he⟩ := hex
  obtain ⟨ho, hol⟩ := acy_ord (kind_acy hk)
  have hv := (isQ_t.1 (fin_isQ hk)).1
  refine orb_end (fin_G hk) (r := (ordQ q).1.map Int.toNat) (nodup_mapF ho.nd fun a ha b hb e => ?_) (fun v hv => ?_) (vx x) hm (i := i) ?_ (fun k hk2 a ha => ?_) ?_
  · have h1 := ho.rng a ha
    have h2 := ho.rng b hb
    omega
  · exact List.mem_map.2 ⟨(v : Int), ord_all ho hol (by omega) (by omega), by simp⟩
  · rw [← (hit i).2.1, ← (hit (i + m)).2.1, he]
  · rw [← (hit (i + k)).2.1]
    exact nnL_vx.1 (hall (i + k) (by omega)) a (by rw [(hit _).1]; exact ha)
  · rw [← (hit i).2.1]
    exact root_ne (hit i).2.2
/-! ### the row -/
def knGo (q : Qv) : Nat → List Int → List (List Int)
  | 0, _ => []
  | n + 1, x => if nnL x then x :: knGo q n (coxP q x (-1)).1 else []
theorem knGo_it (q : Qv) : ∀ (K n : Nat) (x : List Int), K < n → (∀ k, k < K → nnL (itL q x k) = true) → nnL (itL q x K) = false → knGo q n x = (List.range K).map (itL q x)
  | 0, n + 1, x, _, _, hf => by
    have : nnL x = false := hf
    rw [knGo, this]; rfl
  | K + 1, n + 1, x, hn, ht, hf => by
    have h0 : nnL x = true := ht 0 (by omega)
    rw [knGo, h0, if_pos rfl, knGo_it q K n _ (by omega) (fun k hk => by rw [itL_succ]; exact ht (k + 1) (by omega)) (by rw [itL_succ]; exact hf), List.range_succ_eq_map, List.map_cons, List.map_map]
    congr 1
    apply List.map_congr_left
    intro k _
    exact itL_succ q x k
def knQ (q : Qv) (v : Int) : List (List Int) × Bool := if kindQ q = 1 ∧ inR v 0 (q.v - 1) = true then (knGo q 40 (dmP q v), true) else ([], false)
theorem knit_facts {q : Qv} (hk : kindQ q = 1) {v : Int} (hv : inR v 0 (q.v - 1) = true) : ∃ K, K ≤ 20 ∧ knQ q v = ((List.range K).map (itL q (dmP q v)), true) ∧ (∀ k, k < K → nnL (itL q (dmP q v) k) = true) ∧ nnL (itL q (dmP q v) K) = false ∧
    ∀ k, (itL q (dmP q v) k).length = q.v.toNat ∧ (∀ y ∈ itL q (dmP q v) k, -2 ≤ y ∧ y ≤ 2) ∧ coxP q (itL q (dmP q v) k) (-1) = (itL q (dmP q v) (k + 1), true) ∧ posL (itL q (dmP q v) k) = nnL (itL q (dmP q v) k) := by
  obtain ⟨hv0, hv1⟩ := inR_t.1 hv
  have hrt := dmP_rt (kind_acy hk) hv0 hv1
  obtain ⟨k0, hk0, hf0⟩ := knit_end hk hrt
  have hmin : ∀ n, nnL (itL q (dmP q v) n) = false → ∃ K, K ≤ n ∧ (∀ k, k < K → nnL (itL q (dmP q v) k) = true) ∧ nnL (itL q (dmP q v) K) = false := by
    intro n
    induction n using Nat.strongRecOn with
    | ind n ih =>
      intro h
      by_cases hex : ∃ k, k < n ∧ nnL (itL q (dmP q v) k) = false
      · obtain ⟨k, hkn, hkf⟩ := hex
        obtain ⟨K, h1, h2⟩ := ih k hkn hkf
        exact ⟨K, by omega, h2⟩
      · refine ⟨n, Nat.le_refl _, fun k hkn => ?_, h⟩
        cases hb : nnL (itL q (dmP q v) k) with
        | true => rfl
        | false => exact absurd ⟨k, hkn, hb⟩ hex
  obtain ⟨K, hK, hall, hf⟩ := hmin k0 hf0
  have hit := itL_ok hk hrt.len (hrt.two hk)
  refine ⟨K, by omega, ?_, hall, hf, fun k => ⟨(hit k).1, root_num hk (hit k).1 (hit k).2.2, ?_, posL_root (hit k).1 (hit k).2.2⟩⟩
  · rw [knQ, if_pos ⟨hk, hv⟩, knGo_it q K 40 _ (by omega) hall hf]
  · have := (cox_ok hk (hit k).1 (hit k).2.2).1
    rw [itL, ← this]
end Go.Proofs.Ytgbchoenmpoojaa

/- The reference's CoxeterPower and CoxeterOf. -/
namespace Go.Proofs.Ytgbchoenmpoojaa
set_option linter.unusedVariables false
set_option linter.unusedSimpArgs false
open Go.RowKit



set_option maxHeartbeats 3200000 in
set_option maxRecDepth 20000 in
theorem specCoxeterPower_any (u : Value) (q : Qv) (xv : Value) (x : List Int) (n : Int) (w : World) (hu : QvR w w.heap.size u q) (hx : SlI w w.heap.size xv x) (hn : I64 n) :
    Calls Try.prog 53 #[u, xv, .int .i64 n] w fun e w' => ∃ r, e = .returned (.tuple #[r, .bool (coxP q x n).2]) ∧ IntsO w' w.heap.size w'.heap.size r (coxP q x n).1 ∧ Below w.heap.size w w' := by
  obtain ⟨A, c, C, d, eu⟩ := hu.form
  subst eu
  obtain ⟨XA, xc, rfl, _, _, lx, hx⟩ := hx.open_
  obtain ⟨W, hW⟩ : ∃ W, W = w.alloc (.cells #[.int .i64 q.v, .slice A q.f.length c, .slice C q.t.length d] 27) := ⟨_, rfl⟩
  have g0 : Below w.heap.size w W := by rw [hW]; exact below_alloc _ _
  have kB : Blk W w.heap.size 27 #[.int .i64 q.v, .slice A q.f.length c, .slice C q.t.length d] := by rw [hW]; exact Blk.new _ _ _
  have hlt0 : w.heap.size < W.heap.size := kB.lt
  have KB := Lib.hid kB
  have c0 := kB.cell' (i := 0) rfl
  have c1 := kB.cell' (i := 1) rfl
  have c2 := kB.cell' (i := 2) rfl
  have h0 := QvR.next g0 hu
  have hx0 := SlI.next g0 hx
  clear hu hx
  obtain ⟨ol, hol⟩ : ∃ l, (ordQ q).1 = l := ⟨_, rfl⟩
  have HOL := Lib.hid hol
  clear hol
  rcases hB1 : (ordQ q).2 with _ | _
  · have hF : Hid (coxP q x n = ([], false)) := by show _ = _; simp [coxP, hB1]
    go_enter Try.func53, Try.ntmps53
    go_wp2_with fail
    rw [← hW]; clear hW
    refine (specCoxeterOrder_any _ q _ h0).mono ?_; rintro e W9 ⟨ov, rfl, hO9, hb9⟩
    rw [HOL.out] at hO9
    obtain ⟨oA, oc, eov⟩ := hO9.1.form2
    subst eov
    rw [List.length_reverse] at hO9
    clear c0 c1 c2
    rw [hB1]
    have kB9 := kB.call hb9
    have c0 := kB9.cell' (i := 0) rfl
    have c1 := kB9.cell' (i := 1) rfl
    have c2 := kB9.cell' (i := 2) rfl
    have g1 := bthen g0 hb9
    go_wp2
    exact bodyPost_ret (v := .tuple #[.slice (some ⟨W9.heap.size, 0, none⟩) 0 0, .bool false]) (by simp [results, go_sem]) rfl ⟨_, by rw [hF.out], by rw [hF.out]; exact IntsO.made_ _ g1.size, g1.alloc g1.size _⟩
  rcases hB3 : inR n (-40) 40 with _ | _
  · have hF : Hid (coxP q x n = ([], false)) := by show _ = _; simp [coxP, hB3]
    have H3 := Lib.hid hB3
    clear hB3
    go_enter Try.func53, Try.ntmps53
    go_wp2_with fail
    rw [← hW]; clear hW
    refine (specCoxeterOrder_any _ q _ h0).mono ?_; rintro e W9 ⟨ov, rfl, hO9, hb9⟩
    rw [HOL.out] at hO9
    obtain ⟨oA, oc, eov⟩ := hO9.1.form2
    subst eov
    rw [List.length_reverse] at hO9
    clear c0 c1 c2
    rw [hB1]
    have kB9 := kB.call hb9
    have c0 := kB9.cell' (i := 0) rfl
    have c1 := kB9.cell' (i := 1) rfl
    have c2 := kB9.cell' (i := 2) rfl
    have g1 := bthen g0 hb9
    go_wp2_with fail
    refine (l1In_any _ _ _ _).mono ?_; rintro e w1 ⟨rfl, rfl⟩
    rw [H3.out]
    go_wp2
    exact bodyPost_ret (v := .tuple #[.slice (some ⟨w1.heap.size, 0, none⟩) 0 0, .bool false]) (by simp [results, go_sem]) rfl ⟨_, by rw [hF.out], by rw [hF.out]; exact IntsO.made_ _ g1.size, g1.alloc g1.size _⟩
  rcases hB2 : isNum q x with _ | _
  · have hF : Hid (coxP q x n = ([], false)) := by show _ = _; simp [coxP, hB2]
    have H2 := Lib.hid hB2
    have H3 := Lib.hid hB3
    clear hB2 hB3
    go_enter Try.func53, Try.ntmps53
    go_wp2_with fail
    rw [← hW]; clear hW
    refine (specCoxeterOrder_any _ q _ h0).mono ?_; rintro e W9 ⟨ov, rfl, hO9, hb9⟩
    rw [HOL.out] at hO9
    obtain ⟨oA, oc, eov⟩ := hO9.1.form2
    subst eov
    rw [List.length_reverse] at hO9
    clear c0 c1 c2
    rw [hB1]
    have kB9 := kB.call hb9
    have c0 := kB9.cell' (i := 0) rfl
    have c1 := kB9.cell' (i := 1) rfl
    have c2 := kB9.cell' (i := 2) rfl
    go_wp2_with fail
    refine (l1In_any _ _ _ _).mono ?_; rintro e w1 ⟨rfl, rfl⟩
    rw [H3.out]
    go_wp2_with fail
    refine (l18Vector_any _ _ _ _ _ (QvR.next hb9 h0) (SlI.next hb9 hx0)).mono ?_; rintro e w1 ⟨rfl, hb1⟩
    rw [H2.out]
    have g1 := bthen (bthen g0 hb9) hb1
    go_wp2
    exact bodyPost_ret (v := .tuple #[.slice (some ⟨w1.heap.size, 0, none⟩) 0 0, .bool false]) (by simp [results, go_sem]) rfl ⟨_, by rw [hF.out], by rw [hF.out]; exact IntsO.made_ _ g1.size, g1.alloc g1.size _⟩
  obtain ⟨n1, n2⟩ := inR_t.1 hB3
  have HB := Lib.hid (And.intro hB1 (And.intro hB2 hB3))
  have H2 := Lib.hid hB2
  have H3 := Lib.hid hB3
  clear hB2 hB3
  by_cases hneg : n < 0
  · obtain ⟨N, hN⟩ : ∃ N : Nat, n = -(N : Int) := ⟨n.natAbs, by omega⟩
    subst hN
    have HP : Hid (coxP q x (-(N : Int)) = powGo q ol x (N - 0)) := by
      show _ = _
      rw [coxP, HB.out.1, HB.out.2.1, HB.out.2.2, HOL.out, if_pos hneg]
      simp
    go_enter Try.func53, Try.ntmps53
    go_wp2_with fail
    rw [← hW]; clear hW
    refine (specCoxeterOrder_any _ q _ h0).mono ?_; rintro e W9 ⟨ov, rfl, hO9, hb9⟩
    rw [HOL.out] at hO9
    obtain ⟨oA, oc, eov⟩ := hO9.1.form2
    subst eov
    rw [List.length_reverse] at hO9
    clear c0 c1 c2
    rw [hB1]
    have kB9 := kB.call hb9
    have c0 := kB9.cell' (i := 0) rfl
    have c1 := kB9.cell' (i := 1) rfl
    have c2 := kB9.cell' (i := 2) rfl
    go_wp2_with fail
    refine (l1In_any _ _ _ _).mono ?_; rintro e w1' ⟨rfl, rfl⟩
    rw [H3.out]
    go_wp2_with fail
    refine (l18Vector_any _ _ _ _ _ (QvR.next hb9 h0) (SlI.next hb9 hx0)).mono ?_; rintro e w1 ⟨rfl, hb1⟩
    rw [H2.out]
    have hO1 := hO9.below hb1
    have gW1 := bthen hb9 hb1
    obtain ⟨L, hL⟩ : ∃ L, L = ol.reverse := ⟨_, rfl⟩
    have HLR : Hid (ol = L.reverse) := by show _ = _; rw [hL, List.reverse_reverse]
    have hLl : ol.length = L.length := by rw [hL, List.length_reverse]
    rw [← hL, hLl] at hO1
    rw [hLl]
    rw [HLR.out] at HP
    have hln := hO1.1.2.1
    clear hO9 kB9 c0 c1 c2 hb9 hb1 hL hLl
    go_wp2
    have ho0 : OwnI (w1.alloc (.cells #[] 3)) w1.heap.size (.slice (some ⟨w1.heap.size, 0, none⟩) 0 0) [] := OwnI.made _ rfl (Nat.le_refl _)
    have hlr : SlI (w1.alloc (.cells #[] 3)) w1.heap.size (.slice oA L.length oc) L := SlI.below ((Below.refl _ _).alloc (Nat.le_refl _) _) hO1.rd
    have hs1 : w1.heap.size ≤ (w1.alloc (.cells #[] 3)).heap.size := by simp
    have gW2 : Below W.heap.size W (w1.alloc (.cells #[] 3)) := gW1.alloc gW1.size _
    have hs2 := gW1.size
    have gl1 : w.heap.size ≤ w1.heap.size := by omega
    clear hO1 gW1
    generalize w1.alloc (.cells #[] 3) = W2 at *
    rw [decide_eq_true (show 0 < N by omega)]
    go_loopw [10, 11] (fun a i wr => ∃ out : List Int, RevSt L (intOf i) out ∧ i = .int .i64 (intOf i) ∧ OwnI wr w1.heap.size a out ∧ Below w1.heap.size W2 wr) (fun _ i _ => (intOf i + 1).toNat)
    case atStart => exact ⟨[], RevSt.start L, rfl, ho0, Below.refl _ _⟩
    case round =>
      obtain ⟨out, hst, hi, hown, hbel⟩ := hrel
      clear ho0
      rcases hst with ⟨j, hj, e1, e2⟩ | ⟨e1, e2⟩
      · rw [e1] at hi
        subst hi
        have HO := Lib.hid e2
        clear e1 e2
        obtain ⟨b0, o, y, rfl, hb, HX, x1, hx1, hx2⟩ := SlI.at_ hlr hj
        have x2 := bcell hbel hb x1
        obtain ⟨OA, oc2, rfl, _, _⟩ := hown.form
        have ho3 := hown.alloc (.cells #[.int .i64 y] 3)
        have HS : Hid (RevSt L ((j : Int) - 1) (out ++ [y])) := RevSt.step HX.out HO.out
        have hol : Hid (out.length + 1 ≤ L.length) := by show _ ≤ _; rw [HO.out]; simp; omega
        clear x1
        have hsr := hbel.size
        (go_wp2_with (at_builtin; refine Hold.stop ?_)); unfold Hold

        refine wpList_appI rfl (.tmp 45) (.tmp 50) rfl w1.heap.size _ (.slice OA out.length oc2) out rfl ho3 _ _ _ [y] rfl rfl (SlI.one wr _ y ⟨hx1, hx2⟩) (by have := hol.out; simp; omega) (by simp; omega) ?_
        intro v1 w3 ho1 hg1 hv1
        have hb3 := (hbel.alloc (by omega) (.cells #[.int .i64 y] 3)).grown hg1 (by simp; omega) (fun j hj => (ho3.lt j hj).1)
        obtain ⟨A1, c1, rfl, _, _⟩ := ho1.form
        clear ho3 hg1 hv1
        go_wp2
        go_roundw
        case rel => exact ⟨out ++ [y], HS.out, rfl, by rw [List.length_append] at ho1; exact ho1, hb3⟩
        case measure => simp [intOf]
      · rw [e1] at hi
        subst hi
        clear e1
        subst e2
        obtain ⟨oA, oc, rfl, _, _⟩ := hown.form
        rw [List.length_reverse] at hown
        have gW2 := gW2.trans (hbel.mono hs2)
        have hO2 := IntsO.of_own hown
        have hs4 := hbel.size
        have kB := kB.below gW2 hlt0
        have c0 := kB.cell' (i := 0) rfl
        have c1 := kB.cell' (i := 1) rfl
        have c2 := kB.cell' (i := 2) rfl
        clear hown hbel hlr hln hs1
        (go_wp2_with (at_builtin; refine Hold.stop ?_)); unfold Hold

        have hoe : OwnI (wr.alloc (.cells #[] 3)) wr.heap.size (.slice (some ⟨wr.heap.size, 0, none⟩) 0 0) [] := OwnI.made _ rfl (Nat.le_refl _)
        refine wpList_appI rfl (.tmp 55) (.tmp 56) rfl wr.heap.size wr.heap.size (.slice (some ⟨wr.heap.size, 0, none⟩) 0 0) [] rfl hoe _ _ _ x rfl rfl (SlI.below (below_alloc _ _) (SlI.next gW2 hx0)) (by simp; omega) (by simp) ?_
        intro v1 w3 hC hg2 hvv
        rw [List.nil_append] at hC
        have hb3 : Below wr.heap.size wr w3 := ((Below.refl _ _).alloc (Nat.le_refl _) (.cells #[] 3)).grown hg2 (by simp) (fun j hj => (hoe.lt j hj).1)
        have gW := bthen gW2 hb3
        have gw : Below w.heap.size w w3 := g0.trans (gW.mono g0.size)
        have gl : w.heap.size ≤ wr.heap.size := by have := gW2.size; omega
        clear hoe hg2 hvv
        have hOr := hO2.below hb3
        obtain ⟨HI, hHI⟩ : ∃ n, n = wr.heap.size := ⟨_, rfl⟩
        rw [← hHI] at hOr
        obtain ⟨xA, xc', rfl, _, _⟩ := hC.form
        clear hO2 gW2 hb3 c0 c1 c2 kB hHI
        go_wp2
        go_loopw [12, 13] (fun a i wr => ∃ (k : Nat) (cur : List Int), k ≤ N ∧ i = .int .i64 k ∧ OwnI wr w.heap.size a cur ∧ Below w.heap.size w wr ∧ Below W.heap.size W wr ∧ IntsO wr w1.heap.size HI (.slice oA L.length oc) L.reverse ∧ Hid (coxP q x (-(N : Int)) = powGo q L.reverse cur (N - k))) (fun _ i _ => N - (intOf i).toNat)
        case atStart => exact ⟨0, x, Nat.zero_le _, rfl, hC.lower gl, gw, gW, hOr, HP.out⟩
        case round =>
          clear hC gw gW hOr HP
          obtain ⟨k, cur, hk, rfl, hown, hbel, hbW, hord, hR⟩ := hrel
          have kB := KB.out.below hbW hlt0
          have c0 := kB.cell' (i := 0) rfl
          have c1 := kB.cell' (i := 1) rfl
          have c2 := kB.cell' (i := 2) rfl
          obtain ⟨OA, oc', rfl, _, _⟩ := hown.form
          have hbs := hbW.size
          clear kB
          by_cases hlt : k < N
          · have hst := powGo_step (q := q) (wd := L.reverse) (x := cur) hlt
            rw [← hR.out] at hst
            have HST := Lib.hid hst
            clear hst hR
            have HC := specReflectWord_any _ q _ cur _ L.reverse wr (QvR.next hbW h0) hown.rd hord.rd
            obtain ⟨nx, hnx⟩ : ∃ nx, wordQ q cur L.reverse = nx := ⟨_, rfl⟩
            rw [hnx] at HC
            have HNX := Lib.hid hnx
            clear hnx
            obtain ⟨l, B⟩ := nx
            have HC := Lib.hid HC
            cases B
            · have hF : Hid (coxP q x (-(N : Int)) = ([], false)) := by show _ = _; rw [HST.out, HNX.out]; rfl
              go_wp2_with fail
              refine (unhide HC).mono ?_; rintro e w3 ⟨r, rfl, hr3, hb3⟩
              have hb4 := hbel.trans (hb3.mono hbel.size)
              go_wp2
              exact bodyPost_ret (v := .tuple #[.slice (some ⟨w3.heap.size, 0, none⟩) 0 0, .bool false]) (by simp [results, go_sem]) rfl ⟨_, by rw [hF.out], by rw [hF.out]; exact IntsO.made_ _ hb4.size, hb4.alloc hb4.size _⟩
            · have hF : Hid (coxP q x (-(N : Int)) = powGo q L.reverse l (N - (k + 1))) := by show _ = _; rw [HST.out, HNX.out]; rfl
              go_wp2_with fail
              refine (unhide HC).mono ?_; rintro e w3 ⟨r, rfl, hr3, hb3⟩
              have hW3 := bthen hbW hb3
              have hb4 := hbel.trans (hb3.mono hbel.size)
              have ho4 := hr3.1.lower hbel.size
              have hord3 := hord.below hb3
              clear hr3 hb3 hord hown
              go_wp2
              go_roundw
              case rel => exact ⟨k + 1, l, by omega, by go_num, ho4, hb4, hW3, hord3, hF.out⟩
              case measure => simp [intOf]; omega
          · have hF : Hid (coxP q x (-(N : Int)) = (cur, true)) := by show _ = _; rw [hR.out, show N - k = 0 by omega, powGo]
            go_wp2
            exact bodyPost_ret (v := .tuple #[.slice OA cur.length oc', .bool true]) (by simp [results, go_sem]) rfl ⟨_, by rw [hF.out], by rw [hF.out]; exact IntsO.of_own hown, hbel⟩
  · obtain ⟨N, hN⟩ : ∃ N : Nat, n = (N : Int) := ⟨n.natAbs, by omega⟩
    subst hN
    have HP : Hid (coxP q x (N : Int) = powGo q ol.reverse x (N - 0)) := by
      show _ = _
      rw [coxP, HB.out.1, HB.out.2.1, HB.out.2.2, HOL.out, if_neg hneg]
      simp
    go_enter Try.func53, Try.ntmps53
    go_wp2_with fail
    rw [← hW]; clear hW
    refine (specCoxeterOrder_any _ q _ h0).mono ?_; rintro e W9 ⟨ov, rfl, hO9, hb9⟩
    rw [HOL.out] at hO9
    obtain ⟨oA, oc, eov⟩ := hO9.1.form2
    subst eov
    rw [List.length_reverse] at hO9
    clear c0 c1 c2
    rw [hB1]
    have kB9 := kB.call hb9
    have c0 := kB9.cell' (i := 0) rfl
    have c1 := kB9.cell' (i := 1) rfl
    have c2 := kB9.cell' (i := 2) rfl
    go_wp2_with fail
    refine (l1In_any _ _ _ _).mono ?_; rintro e w1' ⟨rfl, rfl⟩
    rw [H3.out]
    go_wp2_with fail
    refine (l18Vector_any _ _ _ _ _ (QvR.next hb9 h0) (SlI.next hb9 hx0)).mono ?_; rintro e w1 ⟨rfl, hb1⟩
    rw [H2.out]
    have hO2 := hO9.below hb1
    have gW2 := bthen hb9 hb1
    clear hO9 kB9 c0 c1 c2 hb9 hb1
    (go_wp2_with (at_builtin; refine Hold.stop ?_)); unfold Hold

    have hoe : OwnI (w1.alloc (.cells #[] 3)) w1.heap.size (.slice (some ⟨w1.heap.size, 0, none⟩) 0 0) [] := OwnI.made _ rfl (Nat.le_refl _)
    refine wpList_appI rfl (.tmp 55) (.tmp 56) rfl w1.heap.size w1.heap.size (.slice (some ⟨w1.heap.size, 0, none⟩) 0 0) [] rfl hoe _ _ _ x rfl rfl (SlI.below (below_alloc _ _) (SlI.next gW2 hx0)) (by simp; omega) (by simp) ?_
    intro v1 w3 hC hg2 hvv
    rw [List.nil_append] at hC
    have hb3 : Below w1.heap.size w1 w3 := ((Below.refl _ _).alloc (Nat.le_refl _) (.cells #[] 3)).grown hg2 (by simp) (fun j hj => (hoe.lt j hj).1)
    have gW := bthen gW2 hb3
    have gw : Below w.heap.size w w3 := g0.trans (gW.mono g0.size)
    have gl : w.heap.size ≤ w1.heap.size := by have := gW2.size; omega
    clear hoe hg2 hvv
    have hOr := hO2.below hb3
    obtain ⟨xA, xc', rfl, _, _⟩ := hC.form
    clear hO2 gW2 hb3 kB
    go_wp2
    go_loopw [12, 13] (fun a i wr => ∃ (k : Nat) (cur : List Int), k ≤ N ∧ i = .int .i64 k ∧ OwnI wr w.heap.size a cur ∧ Below w.heap.size w wr ∧ Below W.heap.size W wr ∧ IntsO wr W.heap.size w1'.heap.size (.slice oA ol.length oc) ol.reverse ∧ Hid (coxP q x (N : Int) = powGo q ol.reverse cur (N - k))) (fun _ i _ => N - (intOf i).toNat)
    case atStart => exact ⟨0, x, Nat.zero_le _, rfl, hC.lower gl, gw, gW, hOr, HP.out⟩
    case round =>
      clear hC gw gW hOr HP
      obtain ⟨k, cur, hk, rfl, hown, hbel, hbW, hord, hR⟩ := hrel
      have kB := KB.out.below hbW hlt0
      have c0 := kB.cell' (i := 0) rfl
      have c1 := kB.cell' (i := 1) rfl
      have c2 := kB.cell' (i := 2) rfl
      obtain ⟨OA, oc', rfl, _, _⟩ := hown.form
      have hbs := hbW.size
      clear kB
      by_cases hlt : k < N
      · have hst := powGo_step (q := q) (wd := ol.reverse) (x := cur) hlt
        rw [← hR.out] at hst
        have HST := Lib.hid hst
        clear hst hR
        have HC := specReflectWord_any _ q _ cur _ ol.reverse wr (QvR.next hbW h0) hown.rd hord.rd
        obtain ⟨nx, hnx⟩ : ∃ nx, wordQ q cur ol.reverse = nx := ⟨_, rfl⟩
        rw [hnx] at HC
        have HNX := Lib.hid hnx
        clear hnx
        obtain ⟨l, B⟩ := nx
        have HC := Lib.hid HC
        cases B
        · have hF : Hid (coxP q x (N : Int) = ([], false)) := by show _ = _; rw [HST.out, HNX.out]; rfl
          go_wp2_with fail
          refine (unhide HC).mono ?_; rintro e w3 ⟨r, rfl, hr3, hb3⟩
          have hb4 := hbel.trans (hb3.mono hbel.size)
          go_wp2
          exact bodyPost_ret (v := .tuple #[.slice (some ⟨w3.heap.size, 0, none⟩) 0 0, .bool false]) (by simp [results, go_sem]) rfl ⟨_, by rw [hF.out], by rw [hF.out]; exact IntsO.made_ _ hb4.size, hb4.alloc hb4.size _⟩
        · have hF : Hid (coxP q x (N : Int) = powGo q ol.reverse l (N - (k + 1))) := by show _ = _; rw [HST.out, HNX.out]; rfl
          go_wp2_with fail
          refine (unhide HC).mono ?_; rintro e w3 ⟨r, rfl, hr3, hb3⟩
          have hW3 := bthen hbW hb3
          have hb4 := hbel.trans (hb3.mono hbel.size)
          have ho4 := hr3.1.lower hbel.size
          have hord3 := hord.below hb3
          clear hr3 hb3 hord hown
          go_wp2
          go_roundw
          case rel => exact ⟨k + 1, l, by omega, by go_num, ho4, hb4, hW3, hord3, hF.out⟩
          case measure => simp [intOf]; omega
      · have hF : Hid (coxP q x (N : Int) = (cur, true)) := by show _ = _; rw [hR.out, show N - k = 0 by omega, powGo]
        go_wp2
        exact bodyPost_ret (v := .tuple #[.slice OA cur.length oc', .bool true]) (by simp [results, go_sem]) rfl ⟨_, by rw [hF.out], by rw [hF.out]; exact IntsO.of_own hown, hbel⟩

theorem coxP_one {q : Qv} {x : List Int} : coxP q x 1 = if (ordQ q).2 then wordQ q x (ordQ q).1.reverse else ([], false) := by
  rcases h : (ordQ q).2 with _ | _
  · simp [coxP, h]
  · have e : coxP q x 1 = if isNum q x then powGo q (ordQ q).1.reverse x 1 else ([], false) := by
      unfold coxP
      rw [h]
      cases isNum q x <;> rfl
    rw [e, if_pos rfl]
    rcases h1 : isNum q x with _ | _
    · simp [wordQ, h1]
    · rw [if_pos rfl, powGo]
      rcases h2 : (wordQ q x (ordQ q).1.reverse).2 with _ | _
      · rw [wordQ_no h2]; rfl
      · rw [if_pos rfl, powGo, ← h2]

end Go.Proofs.Ytgbchoenmpoojaa

/- Minors by sets of rows: the reference's l18Minor. -/
namespace Go.Proofs.Ytgbchoenmpoojaa
set_option linter.unusedVariables false
set_option linter.unusedSimpArgs false
open Go.RowKit

set_option maxHeartbeats 3200000 in
set_option maxRecDepth 100000 in
theorem l18Minor_any (u : Value) (n s : Nat) (g : Nat → Nat → Int) (w0 : World) (hn : n ≤ 5) (hs : s ≤ 64) (hg : ∀ a b, -12 ≤ g a b ∧ g a b ≤ 12) (hu : SlII w0 w0.heap.size u (matF n g)) :
    Calls Try.prog 86 #[u, .int .i64 s] w0 fun e w' => ∃ v, e = .returned v ∧ IntssO w' w0.heap.size w'.heap.size v (mnL s n g) ∧ Below w0.heap.size w0 w' := by
  obtain ⟨A, c, rfl, hc1, hc2, _, hx⟩ := hu.open_
  clear hu
  have HX := Lib.hid hx
  have HG := Lib.hid hg
  have HB1 := Lib.hid band1
  rw [matF_length] at hc1 ⊢
  clear hx hg
  obtain ⟨W, hW⟩ : ∃ z, z = w0.alloc (.cells #[] 22) := ⟨_, rfl⟩
  have b1 : Below w0.heap.size w0 W := by rw [hW]; exact below_alloc _ _
  have o1 : IntssO W w0.heap.size W.heap.size (.slice (some ⟨w0.heap.size, 0, none⟩) 0 0) [] := by rw [hW]; exact IntssO.made0 w0 (Nat.le_refl _)
  have s1 := b1.size
  go_enter Try.func86, Try.ntmps86
  go_wp2
  rw [← hW]; clear hW
  go_loopw [5, 6] (fun ov i wr => ∃ k : Nat, k ≤ n ∧ i = .int .i64 k ∧ IntssO wr w0.heap.size wr.heap.size ov (mnTo s n g k) ∧ Below w0.heap.size w0 wr) (fun _ i _ => n - (intOf i).toNat)
  case atStart => exact ⟨0, Nat.zero_le _, rfl, o1, b1⟩
  case round =>
    clear o1 b1 s1
    obtain ⟨k, hk, rfl, hO, hbel⟩ := hrel
    obtain ⟨OA, oc, eo, hoc, hoc2, hol⟩ := hO.form2
    have hlo : (mnTo s n g k).length = (bitL s k).length := by simp [mnTo]
    rw [hlo] at eo hoc
    subst eo
    have hbl := bitL_length s k
    by_cases hlt : k < n
    · obtain ⟨b, o, rfl, hb0⟩ := SlII.addr HX.out (by rw [matF_length]; omega)
      obtain ⟨r, RA, rc, hr0, _, y1, hr, hrc1, hrc2⟩ := SlII.elt HX.out (k := k) (by rw [matF_length]; omega)
      rw [matF_get _ hlt] at hr0
      injection hr0 with hr0
      subst hr0
      rcases hbt : bitT s k with _ | _
      · have h0 := bitT_0 hbt
        have h1 := HB1.out
        rw [show mnTo s n g k = mnTo s n g (k + 1) by rw [mnTo, mnTo, bitL_succ_f hbt]] at hO
        have HO := Lib.hid hO
        have HBE := Lib.hid hbel
        clear hO hbel hbt hlo hr y1
        go_wp2
        clear h0 h1
        go_roundw
        case rel => exact ⟨k + 1, by omega, by go_num, HO.out, HBE.out⟩
        case measure => simp [intOf]; omega
      · have h0 := bitT_1 hbt
        have h1 := HB1.out
        rw [rowF_length] at y1 hrc1
        obtain ⟨b2, o2, rfl, hb2⟩ := SlI.addr hr (by rw [rowF_length]; omega)
        obtain ⟨w1, hw1⟩ : ∃ z, z = wr.alloc (.cells #[] 3) := ⟨_, rfl⟩
        have bw1 : Below wr.heap.size wr w1 := by rw [hw1]; exact below_alloc _ _
        have o2' : IntsO w1 wr.heap.size w1.heap.size (.slice (some ⟨wr.heap.size, 0, none⟩) 0 0) [] := by rw [hw1]; exact IntsO.of_own (OwnI.made _ rfl (Nat.le_refl _))
        have hO1 := hO.below bw1
        have hbel1 := hbel.trans (bw1.mono hbel.size)
        have HR := Lib.hid hr
        have HO := Lib.hid hO1
        have HBE := Lib.hid hbel1
        have HBT := Lib.hid hbt
        have HLO := Lib.hid hlo
        have hws := hbel.size
        have hws1 := bw1.size
        obtain ⟨LO, hLO⟩ : ∃ z, z = wr.heap.size := ⟨_, rfl⟩
        rw [← hLO] at o2' hws hws1
        have HLO2 := Lib.hid hLO
        clear hO hbel hbt hlo hr hO1 hbel1 bw1
        go_wp2
        rw [← hw1]
        rw [← hLO]
        clear hw1 hLO h0 h1
        go_loopw [7, 8] (fun rv i wq => ∃ j : Nat, j ≤ n ∧ i = .int .i64 j ∧ IntsO wq LO wq.heap.size rv ((bitL s j).map (g k)) ∧ Below LO w1 wq) (fun _ i _ => n - (intOf i).toNat)
        case atStart => exact ⟨0, Nat.zero_le _, rfl, o2', Below.refl _ _⟩
        case round =>
          clear o2'
          obtain ⟨j, hj, rfl, hI, hbq⟩ := hrel
          obtain ⟨RV, rv, er, hrv1, hrv2⟩ := hI.1.form
          have hlr : ((bitL s j).map (g k)).length = (bitL s j).length := by simp
          have hbl2 := bitL_length s j
          have hwq := hbq.size
          have hbq2 : Below w0.heap.size w0 wr := HBE.out.trans (hbq.mono (by omega))
          rw [hlr] at er hrv1
          subst er
          by_cases hjn : j < n
          · rcases hbj : bitT s j with _ | _
            · have h0 := bitT_0 hbj
              have h1 := HB1.out
              rw [show (bitL s j).map (g k) = (bitL s (j + 1)).map (g k) by rw [bitL_succ_f hbj]] at hI
              have HI := Lib.hid hI
              have HBQ := Lib.hid hbq
              clear hI hbq hbj hlr hbq2
              go_wp2
              clear h0 h1
              go_roundw
              case rel => exact ⟨j + 1, by omega, by go_num, HI.out, HBQ.out⟩
              case measure => simp [intOf]; omega
            · have h0 := bitT_1 hbj
              have h1 := HB1.out
              obtain ⟨x, hx0, _, x1, _⟩ := SlI.elt HR.out (k := j) (by rw [rowF_length]; omega)
              rw [rowF_get _ hjn] at hx0
              injection hx0 with hx0
              have hgr := HG.out k j
              rw [hx0] at hgr
              have HSX := Lib.hid (show (bitL s (j + 1)).map (g k) = (bitL s j).map (g k) ++ [x] by rw [bitL_succ_t hbj, List.map_append, ← hx0]; rfl)
              have y2 := bcell hbq2 hb0 y1
              have x2 := bcell hbq2 hb2 x1
              have bz := below_alloc wr (.cells #[.int .i64 x] 3)
              have HI2 := Lib.hid (hI.below bz)
              have HB2 := Lib.hid (hbq.trans (bz.mono (by omega)))
              have HLR := Lib.hid hlr
              clear hx0 x1 hI hbq hbj hlr hbq2 bz
              (go_wp2_with (at_builtin; refine Hold.stop ?_)); unfold Hold
              refine wpList_appI rfl (.tmp 33) (.tmp 41) rfl LO _ (.slice RV (bitL s j).length rv) ((bitL s j).map (g k)) rfl HI2.out.1 _ _ _ [x] rfl rfl (SlI.one wr _ _ ⟨by omega, by omega⟩) (by rw [HLR.out]; simp; omega) (by simp; omega) ?_
              intro v9 w9 ho9 hg9 hv9
              rw [← HSX.out] at ho9
              have hbg : Below LO _ w9 := below_grown hg9 (fun k hk => (HI2.out.1.lt k hk).1) (by simp; omega)
              have HBT2 := Lib.hid (HB2.out.trans hbg)
              have HO9 := Lib.hid (IntsO.of_own ho9)
              clear ho9 hg9 hv9 hbg h0 h1 x2 y2
              go_wp2
              go_roundw
              case rel => exact ⟨j + 1, by omega, by go_num, HO9.out, HBT2.out⟩
              case measure => simp [intOf]; omega
          · have hjn' : j = n := by omega
            replace hI : IntsO wr LO wr.heap.size (.slice RV (bitL s j).length rv) ((bitL s n).map (g k)) := by rw [show (bitL s n).map (g k) = (bitL s j).map (g k) by rw [hjn']]; exact hI
            obtain ⟨u, hu, Z, hZ⟩ : ∃ u, u = wr.heap.size ∧ ∃ Z, Z = wr.alloc (.cells #[.slice RV (bitL s j).length rv] 22) := ⟨_, rfl, _, rfl⟩
            have bZ : Below wr.heap.size wr Z := by rw [hZ]; exact below_alloc _ _
            have kZ : Blk Z u 22 #[.slice RV (bitL s j).length rv] := by rw [hZ, hu]; exact Blk.new _ _ _
            have HOZ := Lib.hid ((HO.out.chg (chg_belowB hbq) (.inl (Nat.le_of_eq HLO2.out.symm))).below bZ)
            have HRZ := Lib.hid (hI.below bZ)
            have HBZ := Lib.hid (hbq2.trans (bZ.mono (by have := hbq2.size; omega)))
            have sZ := bZ.size
            have C0 := Lib.hid (kZ.cell' (i := 0) rfl)
            have HU := Lib.hid hu
            have HSN := Lib.hid (show mnTo s n g (k + 1) = mnTo s n g k ++ [(bitL s n).map (g k)] by rw [mnTo, bitL_succ_t HBT.out, List.map_append]; rfl)
            have hb2s := hbq2.size
            clear hI hbq hbq2 bZ kZ hu hjn' hlr
            (go_wp2_with (at_builtin; refine Hold.stop ?_)); unfold Hold
            rw [← HU.out, ← hZ]
            clear hZ
            refine wpList_appR rfl (.tmp 43) (.tmp 45) rfl w0.heap.size LO LO wr.heap.size (.slice OA (bitL s k).length oc) (mnTo s n g k) ((bitL s n).map (g k)) rfl (by rw [HLO2.out]; exact HOZ.out) _ _ (.slice RV (bitL s j).length rv) rfl ⟨u, 0, rfl, C0.out⟩ HRZ.out (Nat.le_refl _) (by omega) (by omega) (by rw [HLO.out]; omega) (by omega) (by omega) ?_
            intro v9 w9 ho9 hb9 _
            rw [← HSN.out] at ho9
            have HO9 := Lib.hid ho9
            have HB9 := Lib.hid (HBZ.out.trans hb9)
            clear ho9 hb9
            go_wp2
            go_roundw
            case rel => exact ⟨k + 1, by omega, by go_num, HO9.out, HB9.out⟩
            case measure => simp [intOf]; omega
    · have hkn : k = n := by omega
      have HO := Lib.hid (show IntssO wr w0.heap.size wr.heap.size (.slice OA (bitL s k).length oc) (mnL s n g) by rw [show mnL s n g = mnTo s n g k by rw [mnL, hkn]]; exact hO)
      clear hO hkn
      go_wp2
      go_ret
      exact ⟨_, rfl, HO.out, hbel⟩
end Go.Proofs.Ytgbchoenmpoojaa

/- A row of a matrix of the program, in the matrix's own memory. -/
namespace Go.Proofs.Ytgbchoenmpoojaa
set_option linter.unusedVariables false
set_option linter.unusedSimpArgs false
open Go.RowKit

theorem ix_next {i r c P : Nat} (hi : i < r) (hr : r ≤ 1000) (hc : c ≤ 1000) (hP : wrap64 ((i : Int) * (c : Int)) = (P : Int)) :
    P = i * c ∧ wrap64 (((i : Int) + 1) * (c : Int)) = ((P + c : Nat) : Int) ∧ P + c ≤ r * c ∧ P + c ≤ 1000000 := by
  have h1 : (i + 1) * c ≤ r * c := Nat.mul_le_mul_right _ hi
  have h2 : r * c ≤ 1000 * 1000 := Nat.mul_le_mul hr hc
  have h3 : (i + 1) * c = i * c + c := by rw [Nat.add_mul, Nat.one_mul]
  have e1 : P = i * c := by
    rw [show ((i : Int) * (c : Int)) = ((i * c : Nat) : Int) by simp, IntWalk.wrap64_in _ ⟨by omega, by omega⟩] at hP
    omega
  refine ⟨e1, ?_, by omega, by omega⟩
  rw [show (((i : Int) + 1) * (c : Int)) = (((i + 1) * c : Nat) : Int) by simp, h3, ← e1]
  exact IntWalk.wrap64_in _ ⟨by omega, by omega⟩
end Go.Proofs.Ytgbchoenmpoojaa

/- Rows of a matrix of the program, as lists. -/
namespace Go.Proofs.Ytgbchoenmpoojaa
set_option linter.unusedVariables false
set_option linter.unusedSimpArgs false
open Go.RowKit
def rowsF (r c : Nat) (f : Nat → Nat → Int) : List (List Int) := (List.range r).map fun i => rowF c (f i)
theorem rowsF_length (r c : Nat) (f : Nat → Nat → Int) : (rowsF r c f).length = r := by simp [rowsF]
theorem rowsF_get {r c j : Nat} (f : Nat → Nat → Int) (h : j < r) : (rowsF r c f)[j]? = some (rowF c (f j)) := by simp [rowsF, h]
theorem rowsF_succ (r c : Nat) (f : Nat → Nat → Int) : rowsF (r + 1) c f = rowsF r c f ++ [rowF c (f r)] := by simp [rowsF, List.range_succ]
theorem rowF_mem {c : Nat} {g : Nat → Int} {x : Int} (h : x ∈ rowF c g) : ∃ j, j < c ∧ x = g j := by
  simp only [rowF, List.mem_map, List.mem_range] at h
  obtain ⟨j, hj, rfl⟩ := h
  exact ⟨j, hj, rfl⟩
/-- a stretch of a slice of ints -/
theorem SlI.part {w : World} {B g o n cap P c : Nat} {l l' : List Int} (h : SlI w B (.slice (some ⟨g, o, none⟩) n cap) l) (hn : n = l.length) (hc : P + l'.length ≤ l.length) (hl : ∀ j x, l'[j]? = some x → l[P + j]? = some x) (hcn : c = cap - P) :
    SlI w B (.slice (some ⟨g, o + P, none⟩) l'.length c) l' := by
  subst hn hcn
  obtain ⟨A', c', e, h1, h2, h3, h4⟩ := h
  injection e with e1 e2 e3
  subst e1 e3
  refine ⟨_, _, rfl, by omega, by omega, by omega, fun hp => ?_⟩
  obtain ⟨b, o', e, hb, hx⟩ := h4 (by omega)
  injection e with e
  injection e with e1 e2
  subst e1 e2
  refine ⟨g, o + P, rfl, hb, fun j x hj => ?_⟩
  have := hx (P + j) x (hl j x hj)
  rw [show o + P + j * 1 = o + (P + j) * 1 by omega]
  exact this
end Go.Proofs.Ytgbchoenmpoojaa

/- Columns of a matrix of the program, as lists; the matrix of some columns. -/
namespace Go.Proofs.Ytgbchoenmpoojaa
set_option linter.unusedVariables false
set_option linter.unusedSimpArgs false
open Go.RowKit

def colK (k : Nat) (f : Nat → Nat → Int) (j i : Nat) : Int := if i < j then f i k else 0
theorem colK_0 (r k : Nat) (f : Nat → Nat → Int) : List.replicate r 0 = rowF r (colK k f 0) := by
  apply List.ext_getElem?
  intro i
  by_cases h : i < r
  · rw [rowF_get _ h]; simp [h, colK]
  · rw [List.getElem?_eq_none (by simp; omega), List.getElem?_eq_none (by rw [rowF_length]; omega)]
theorem colK_succ {r k j : Nat} (f : Nat → Nat → Int) (h : j < r) : (rowF r (colK k f j)).set j (f j k) = rowF r (colK k f (j + 1)) := by
  rw [rowF_set]
  refine rowF_congr fun i _ => ?_
  simp only [colK]
  (repeat' split) <;> first | rfl | omega | (subst_vars; rfl)
theorem colK_r (r k : Nat) (f : Nat → Nat → Int) : rowF r (colK k f r) = rowF r (fun i => f i k) := rowF_congr fun i h => by simp [colK, h]

end Go.Proofs.Ytgbchoenmpoojaa

/- The matrix of some columns; the reference's transposed matrix. -/
namespace Go.Proofs.Ytgbchoenmpoojaa
set_option linter.unusedVariables false
set_option linter.unusedSimpArgs false
open Go.RowKit

def fcK (f : Nat → Nat → Int) (k i a b : Nat) : Int := if b < k ∨ (b = k ∧ a < i) then f a b else 0
theorem fcK_0 (R K : Nat) (f : Nat → Nat → Int) : flat R K (fun _ _ => 0) = flat R K (fcK f 0 0) := flat_congr fun a b _ _ => by simp [fcK]
theorem fcK_put {R K k i : Nat} (f : Nat → Nat → Int) (hi : i < R) (hk : k < K) : (flat R K (fcK f k i)).set (i * K + k) (f i k) = flat R K (fcK f k (i + 1)) := by
  rw [flat_set _ _ hi hk]
  refine flat_congr fun a b _ _ => ?_
  simp only [fcK]
  (repeat' split) <;> first | rfl | omega | (rename_i h _; rw [h.1, h.2])
theorem fcK_next (R K k : Nat) (f : Nat → Nat → Int) : flat R K (fcK f k R) = flat R K (fcK f (k + 1) 0) := by
  refine flat_congr fun a b ha _ => ?_
  simp only [fcK]
  (repeat' split) <;> first | rfl | omega
theorem fcK_K (R K : Nat) (f : Nat → Nat → Int) : flat R K (fcK f K 0) = flat R K f := flat_congr fun a b _ hb => by simp [fcK, hb]

end Go.Proofs.Ytgbchoenmpoojaa

/- The reference's transposed matrix. -/
namespace Go.Proofs.Ytgbchoenmpoojaa
set_option linter.unusedVariables false
set_option linter.unusedSimpArgs false
open Go.RowKit

/-- cells of the transposed matrix, filled row by row of the given one -/
def trK (f : Nat → Nat → Int) (i k a b : Nat) : Int := if b < i ∨ (b = i ∧ a < k) then f b a else 0
theorem trK_0 (r c : Nat) (f : Nat → Nat → Int) : flat c r (fun _ _ => 0) = flat c r (trK f 0 0) := flat_congr fun a b _ _ => by simp [trK]
theorem trK_put {r c i k : Nat} (f : Nat → Nat → Int) (hi : i < r) (hk : k < c) : (flat c r (trK f i k)).set (k * r + i) (f i k) = flat c r (trK f i (k + 1)) := by
  rw [flat_set _ _ hk hi]
  refine flat_congr fun a b _ _ => ?_
  simp only [trK]
  (repeat' split) <;> first | rfl | omega | (rename_i h _; rw [h.1, h.2])
theorem trK_next (r c i : Nat) (f : Nat → Nat → Int) : flat c r (trK f i c) = flat c r (trK f (i + 1) 0) := by
  refine flat_congr fun a b ha _ => ?_
  simp only [trK]
  (repeat' split) <;> first | rfl | omega
theorem trK_r (r c : Nat) (f : Nat → Nat → Int) : flat c r (trK f r 0) = flat c r (fun a b => f b a) := flat_congr fun a b _ hb => by simp [trK, hb]

end Go.Proofs.Ytgbchoenmpoojaa

/- Matrices beside each other and below each other: the program's. -/
namespace Go.Proofs.Ytgbchoenmpoojaa
set_option linter.unusedVariables false
set_option linter.unusedSimpArgs false
open Go.RowKit

/-- a beside b: the first c columns are a's -/
def bsF (c : Nat) (f g : Nat → Nat → Int) (a b : Nat) : Int := if b < c then f a b else g a (b - c)
/-- a above b -/
def blF (r : Nat) (f g : Nat → Nat → Int) (a b : Nat) : Int := if a < r then f a b else g (a - r) b
theorem rowsF_app (r s c : Nat) (f g : Nat → Nat → Int) : rowsF r c f ++ rowsF s c g = rowsF (r + s) c (blF r f g) := by
  apply List.ext_getElem?
  intro i
  by_cases h1 : i < r
  · rw [List.getElem?_append_left (by rw [rowsF_length]; exact h1), rowsF_get _ h1, rowsF_get _ (by omega)]
    congr 1
    exact rowF_congr fun b _ => by simp [blF, h1]
  · rw [List.getElem?_append_right (by rw [rowsF_length]; omega), rowsF_length]
    by_cases h2 : i < r + s
    · rw [rowsF_get _ (by omega), rowsF_get _ h2]
      congr 1
      exact rowF_congr fun b _ => by simp [blF, h1]
    · rw [List.getElem?_eq_none (by rw [rowsF_length]; omega), List.getElem?_eq_none (by rw [rowsF_length]; omega)]
theorem colsF_app (r c d : Nat) (f g : Nat → Nat → Int) : rowsF c r (fun a b => f b a) ++ rowsF d r (fun a b => g b a) = rowsF (c + d) r (fun a b => bsF c f g b a) := rowsF_app c d r _ _

/-- append of one list of rows onto another of the call's own -/
theorem wpList_appSS {w : World} {ops : Array Oper} {rest : List Oper} {o : Oper} {a : Act} {Q : Exit → Act → World → Prop} (hgd : o.guard = none) (s x : Operand)
    (ho : o.op = .call { callee := .builtin .append, args := #[s, x], argTypes := #[36, 36] })
    (lo hi lo' hi' : Nat) (v v2 : Value) (l1 l2 : List (List Int)) (hs : a.eval s = v) (hown : IntssO w lo hi v l1) (hx : a.eval x = v2) (hown2 : IntssO w lo' hi' v2 l2) (hd : hi ≤ lo' ∨ hi' ≤ lo)
    (hn : l1.length + l2.length ≤ 1048576) (hlo : lo ≤ w.heap.size) (hhi : hi ≤ w.heap.size)
    (h : ∀ v' w', SlII w' w'.heap.size v' (l1 ++ l2) → Below lo w w' → wpList Try.prog ops Q rest (a.put o.dst v') w') : wpList Try.prog ops Q (o :: rest) a w := by
  obtain ⟨vs1, o1, e1, F1⟩ := hown
  obtain ⟨vs2, o2, e2, F2⟩ := hown2
  obtain ⟨A2, c2, ev2, _, _⟩ := o2.form
  subst ev2
  obtain ⟨i0, hi0, hz0, hz1, hz2⟩ := info_parts infoInts
  have hrd2 := o2
  refine wpList_append_G w hgd s x _ ho lo 22 i0 _ 1 24 Try.underlying36 hi0 hz0 hz1 hz2 rfl (by decide) v vs1.length _ hs o1.1 A2 vs2.length c2 vs2 hx ?_ ?_ (by simp only [maxLen]; omega) (by omega) hlo fun v' w' h1 h2 h3 => ?_
  · refine ⟨by simp, ?_⟩
    rcases Nat.eq_zero_or_pos vs2.length with h0 | h0
    · exact .inl h0
    · rcases o2.1.2 with ⟨e, h1⟩ | ⟨g, cap, cur, e, _, hg, hnc, hcm, hcs, htake⟩
      · omega
      · injection e with ea eb ec
        refine .inr ⟨g, 0, ea, fun j u hj => ?_⟩
        have hc := o2.1
        rw [ea] at hc
        have := hc.cellAt j (by have := lt_of_some hj; omega)
        rw [Nat.zero_add, this, hj]
  · intro u hu
    obtain ⟨j, hj⟩ := List.getElem?_of_mem hu
    have hjl := lt_of_some hj
    have hm := F2.1 (u, l2[j]'(by omega)) (by rw [List.mem_iff_getElem?]; exact ⟨j, by rw [List.getElem?_zip_eq_some]; exact ⟨hj, List.getElem?_eq_getElem _⟩⟩)
    obtain ⟨A, c, e⟩ := hm.form
    rw [show u = _ from e]
    rfl
  · have ho' : OutO w' lo w'.heap.size v' (vs1 ++ vs2) := ⟨by simpa using h1, fun k hk => (h1.lt k hk).2, by simp; omega⟩
    refine h v' w' (OutO.rd ho' (by simp [e1, e2]) fun p hp => ?_) (below_grown h2 (fun k hk => (o1.1.lt k hk).1) hlo)
    rw [List.zip_append e1] at hp
    rcases List.mem_append.1 hp with hp | hp
    · exact ((Fam.grownO F1 o1.1 h2).1 p hp).rd
    · exact ((Fam.grownO F2 o1.1 h2).1 p hp).rd
end Go.Proofs.Ytgbchoenmpoojaa

/- slices.Concat at []int, and the matrix of some rows. -/
namespace Go.Proofs
open Go.Shelf
def Try.laysGrow_ren : Go.Shelf.Ren := ⟨fun | 4 => 135 | n => n, fun | 22 => 22 | 25 => 3 | 3 => 3 | 4 => 4 | 9 => 9 | 20 => 20 | 0 => 0 | n => n, fun | n => n⟩
theorem Try.laysGrow : Go.Proofs.Lays8.n4 Try.prog Try.laysGrow_ren := {
  mixed := by kernel_rfl
  f4 := ⟨Try.f135.name, by decide, Try.func135.trans (congrArg some (by kernel_rfl))⟩
  t0 := Try.underlying0
  a0 := Try.isAgg0
  z0 := Try.sizeOf0
  v0 := Try.zeroValue0
  t3 := Try.underlying3
  a3 := Try.isAgg3
  z3 := Try.sizeOf3
  v3 := Try.zeroValue3
  t4 := Try.underlying4
  a4 := Try.isAgg4
  z4 := Try.sizeOf4
  v4 := Try.zeroValue4
  t9 := Try.underlying9
  a9 := Try.isAgg9
  z9 := Try.sizeOf9
  v9 := Try.zeroValue9
  t20 := Try.underlying20
  a20 := Try.isAgg20
  z20 := Try.sizeOf20
  v20 := Try.zeroValue20
  t22 := Try.underlying22
  a22 := Try.isAgg22
  z22 := Try.sizeOf22
  v22 := Try.zeroValue22 }
end Go.Proofs
namespace Go.Proofs.Ytgbchoenmpoojaa
set_option linter.unusedVariables false
set_option linter.unusedSimpArgs false
open Go.RowKit

theorem grow_any (n : Nat) (w : World) (hn : n ≤ 1000000) :
    Calls Try.prog 135 #[.slice none 0 0, .int .i64 n] w fun e w' => ∃ v, e = .returned v ∧ OwnI w' w.heap.size v [] ∧ Below w.heap.size w w' := by
  rcases Nat.eq_zero_or_pos n with rfl | h0
  · exact (Any8.slices_Grow_room Try.laysGrow none 0 0 0 w (by omega) (by omega) (by omega) (by omega)).mono fun e w' ⟨h1, h2⟩ => ⟨_, h1, OwnI.nil _ _, by rw [h2]; exact Below.refl _ _⟩
  · obtain ⟨i0, hi, hz0, hz1, hz2⟩ := info_parts infoInt
    have hG : Calls Try.prog 135 #[.slice none 0 0, .int .i64 n] w fun e w' => e = .returned (.slice (some ⟨w.heap.size, 0, none⟩) 0 (grownCap w (0 + n) 0 3)) ∧
        w' = w.drew.alloc (.cells (([] : List Value).toArray ++ Builtin.zeroCells (Value.int .i64 0).cells (0 + n - 0) ++ Builtin.zeroCells (Value.int .i64 0).cells (grownCap w (0 + n) 0 3 - (0 + n))) 3) :=
      Any8.slices_Grow_grow Try.laysGrow i0 _ hi hz0 (by omega) none 0 0 n [] w (by omega) (by omega) (by rw [hz2]; omega) (by omega) (by simp) (fun _ => rfl) (fun a h => by cases h)
    rw [Nat.zero_add, Nat.sub_zero] at hG
    refine hG.mono fun e w' ⟨h1, h2⟩ => ⟨_, h1, ?_, ?_⟩
    · rw [h2]
      have hg := grownCap_ge w n 0 3
      have hm := grownCap_le_maxLen w n 0 3 (by simp only [maxLen]; omega)
      refine ⟨⟨by simp, .inr ⟨w.heap.size, grownCap w n 0 3, _, rfl, Nat.le_refl _, Blk.new _ _ _, Nat.zero_le _, hm, ?_, by simp⟩⟩, by simp, by simp⟩
      have hz : (Value.int .i64 0).cells.size = 1 := rfl
      simp only [Array.size_append, size_zeroCells, List.size_toArray, List.length_nil, hz, Nat.mul_one]
      omega
    · rw [h2]
      exact bthen (drew_below w) (below_alloc _ _)

theorem flatten_len_take (ll : List (List Int)) (k : Nat) : (ll.take k).flatten.length ≤ ll.flatten.length := by
  have : ll = ll.take k ++ ll.drop k := (List.take_append_drop k ll).symm
  have h2 := congrArg (fun x => (List.flatten x).length) this
  simp only [List.flatten_append, List.length_append] at h2
  omega
set_option maxHeartbeats 1600000 in
theorem concat_any (u : Value) (ll : List (List Int)) (w : World) (hu : SlII w w.heap.size u ll) (hn : ll.length ≤ 1000000) (ht : ll.flatten.length ≤ 1000000) :
    Calls Try.prog 115 #[u] w fun e w' => ∃ v, e = .returned v ∧ IntsO w' w.heap.size w'.heap.size v ll.flatten ∧ Below w.heap.size w w' := by
  obtain ⟨A, c, rfl, _, _, _, hx⟩ := hu.open_
  clear hu
  have HX := Lib.hid hx
  have HT := Lib.hid ht
  obtain ⟨n, hnl⟩ : ∃ n, ll.length = n := ⟨_, rfl⟩
  have HNL := Lib.hid hnl
  rw [hnl] at hn ⊢
  clear hx ht hnl
  go_enter Try.func115, Try.ntmps115
  go_wp2
  go_loopw [3, 11] (fun s i wr => ∃ k : Nat, k ≤ n ∧ i = .int .i64 k ∧ s = .int .i64 ((ll.take k).flatten.length : Nat) ∧ w = wr) (fun _ i _ => n - (intOf i).toNat)
  case atStart => exact ⟨0, Nat.zero_le _, rfl, by simp, rfl⟩
  case round =>
    obtain ⟨k, hk, rfl, rfl, rfl⟩ := hrel
    have hle := flatten_len_take ll k
    have hle2 := flatten_len_take ll (k + 1)
    have ht := HT.out
    obtain ⟨s, hs⟩ : ∃ s, (ll.take k).flatten.length = s := ⟨_, rfl⟩
    by_cases hlt : k < n
    · rw [hs] at hle ⊢
      have hx := HX.out
      rw [← HNL.out] at hlt
      obtain ⟨b, o, l, LA, lc, rfl, hb, HL, x1, hl⟩ := SlII.at_ hx hlt
      rw [HNL.out] at hlt
      have e1 : (ll.take (k + 1)).flatten.length = s + l.length := by rw [take_snoc HL.out, List.flatten_append, List.length_append, hs]; simp
      rw [e1] at hle2
      have hsl : s + l.length ≤ 1000000 := by omega
      have E1 := Lib.hid e1
      clear hs e1 ht hle hle2 hx HL hl hb
      go_wp2
      go_roundw
      case rel => exact ⟨k + 1, by omega, by go_num, by rw [E1.out]; go_num, by first | rfl | trivial⟩
      case measure => simp [intOf]; omega
    · obtain rfl : k = n := by omega
      have e0 : ll.take k = ll := List.take_of_length_le (by have := HNL.out; omega)
      rw [e0] at hs ⊢
      rw [hs] at ht ⊢
      clear hle hle2 e0
      have HS := Lib.hid hs
      clear hs
      go_wp2_with fail
      refine (grow_any s _ (by omega)).mono ?_; rintro e w1 ⟨v, rfl, ho, hb1⟩
      obtain ⟨OA, oc, rfl, _, _⟩ := ho.form
      have gw := hb1
      go_wp2
      go_loopw [6, 27] (fun out i wr => ∃ j : Nat, j ≤ k ∧ i = .int .i64 j ∧ OwnI wr w.heap.size out (ll.take j).flatten ∧ Below w.heap.size w wr) (fun _ i _ => k - (intOf i).toNat)
      case atStart => exact ⟨0, Nat.zero_le _, rfl, by simpa using ho, hb1⟩
      case round =>
        clear ho hb1 gw
        obtain ⟨j, hj, rfl, ho, hb1⟩ := hrel
        have gs := hb1.size
        by_cases hlj : j < k
        · have hx := HX.out
          rw [← HNL.out] at hlj
          obtain ⟨b, o, l, LA, lc, rfl, hb, HL, x1, hl⟩ := SlII.at_ hx hlj
          rw [HNL.out] at hlj
          have x2 := bcell hb1 hb x1
          have hl2 : SlI wr w.heap.size (.slice LA l.length lc) l := SlI.below hb1 hl
          have e1 : (ll.take (j + 1)).flatten = (ll.take j).flatten ++ l := by rw [take_snoc HL.out, List.flatten_append]; simp
          have hle2 := flatten_len_take ll (j + 1)
          rw [e1, List.length_append, HS.out] at hle2
          have E1 := Lib.hid e1
          obtain ⟨OB, ob, rfl, _, _⟩ := ho.form
          have HO := Lib.hid ho
          have HL2 := Lib.hid hl2
          have HLE := Lib.hid hle2
          have GW := Lib.hid hb1
          have hlo2 := HO.out.lt
          clear e1 hx hl hl2 HL x1 ho hle2 hb1
          (go_wp2_with (at_builtin; refine Hold.stop ?_)); unfold Hold
          refine wpList_appI rfl (.tmp 31) (.tmp 32) rfl w.heap.size w.heap.size _ _ rfl HO.out LA l.length lc l rfl rfl HL2.out (by have := HLE.out; omega) gs ?_
          intro v' w' h1 h2 h3
          rw [← E1.out] at h1
          have g2 := (GW.out).trans (below_grown h2 (fun k hk => (hlo2 k hk).1) gs)
          have H1 := Lib.hid h1
          have G2 := Lib.hid g2
          clear h1 h2 h3 g2 hlo2
          go_wp2
          go_roundw
          case rel => exact ⟨j + 1, by omega, by go_num, H1.out, G2.out⟩
          case measure => simp [intOf]; omega
        · obtain rfl : j = k := by omega
          have e0 : ll.take j = ll := List.take_of_length_le (by have := HNL.out; omega)
          rw [e0] at ho
          have HO := Lib.hid ho
          clear ho e0
          go_wp2
          go_ret
          exact ⟨_, rfl, IntsO.of_own HO.out, hb1⟩

theorem rowsF_flatten (r c : Nat) (f : Nat → Nat → Int) : (rowsF r c f).flatten = flat r c f := by
  induction r with
  | zero => simp [rowsF, flat]
  | succ r ih =>
    rw [rowsF_succ, List.flatten_append, ih]
    refine flat_ext (by simp [flat_length, rowF_length, Nat.add_mul]) fun i k hi hk => ?_
    rw [List.getElem?_append]
    by_cases h : i < r
    · rw [if_pos (by rw [flat_length]; exact ix_lt h hk), flat_get f h hk]
    · obtain rfl : i = r := by omega
      rw [if_neg (by rw [flat_length]; omega), flat_length, show i * c + k - i * c = k by omega]
      simp [rowF_get _ hk]
end Go.Proofs.Ytgbchoenmpoojaa

/- Determinants by the first row: the program's. -/
namespace Go.Proofs.Ytgbchoenmpoojaa
set_option linter.unusedVariables false
set_option linter.unusedSimpArgs false
open Go.RowKit

set_option maxHeartbeats 3200000 in
set_option maxRecDepth 100000 in
theorem determinant_any : ∀ (n : Nat), n ≤ 5 → ∀ (u : Value) (m : List (List Int)) (w0 : World), SlII w0 w0.heap.size u m → Sq n m →
    Calls Try.prog 92 #[u] w0 fun e w' => e = .returned (.int .i64 (detL n m)) ∧ Below w0.heap.size w0 w'
  | 0, _, u, m, w0, hu, hs => by
    obtain ⟨A, c, rfl, _, _, _, _⟩ := hu.open_
    obtain rfl : m = [] := List.eq_nil_of_length_eq_zero hs.len
    clear hu
    go_enter Try.func92, Try.ntmps92
    go_wp2
    go_ret
    exact ⟨rfl, Below.refl _ _⟩
  | n + 1, hn, u, m, w0, hu, hs => by
    have ih := determinant_any n (by omega)
    obtain ⟨A, c, rfl, hc1, hc2, _, hx⟩ := hu.open_
    clear hu
    have hl := hs.len
    obtain ⟨b, o, rfl, hb⟩ := SlII.addr hx (by omega)
    obtain ⟨r0, A0, c0, e0, _, x0, hr0, _, _⟩ := SlII.elt hx (k := 0) (by omega)
    have hr0l := hs.row _ (List.mem_of_getElem? e0)
    obtain ⟨b0, o0, rfl, hb0⟩ := SlI.addr hr0 (by omega)
    have HR0 := Lib.hid hr0
    have HX := Lib.hid hx
    have HL := Lib.hid hl
    have HS := Lib.hid hs
    have HE0 := Lib.hid e0
    have HRL := Lib.hid hr0l
    have IH := Lib.hid ih
    rw [hl] at hc1 ⊢
    rw [hr0l, Nat.add_zero] at x0
    have HDL := Lib.hid (show detL (n + 1) m = detS n m (n + 1) from rfl)
    clear ih hr0 hx hl hs e0 hr0l
    have hne0 : (((n : Int) + 1) == 0) = false := by rw [beq_eq_false_iff_ne]; omega
    go_enter Try.func92, Try.ntmps92
    go_wp2
    go_loopw [3, 4, 17] (fun s g i wr => ∃ (k : Nat) (T S : Int), k ≤ n + 1 ∧ i = .int .i64 k ∧ s = .int .i64 T ∧ g = .int .i64 S ∧ Hid (T = detS n m k) ∧ Hid (S = sgK k) ∧ Below w0.heap.size w0 wr) (fun _ _ i _ => n + 1 - (intOf i).toNat)
    case atStart => exact ⟨0, 0, 1, Nat.zero_le _, rfl, rfl, rfl, rfl, rfl, Below.refl _ _⟩
    case round =>
      obtain ⟨k, T, S, hk, rfl, rfl, rfl, HT, HSG, hbel⟩ := hrel
      by_cases hlt : k < n + 1
      · obtain ⟨X, hX0, _, x1, _⟩ := SlI.elt HR0.out (k := k) (by rw [HRL.out]; exact hlt)
        have x2 := bcell hbel hb0 x1
        clear x1
        have hXr : -12 ≤ X ∧ X ≤ 12 := by
          obtain ⟨r, h1, h2, h3, h4⟩ := HS.out.fst hlt
          rw [HE0.out] at h1
          injection h1 with h1
          subst h1
          rw [hX0] at h3
          injection h3 with h3
          subst h3
          exact h4
        have HXF : Hid (fst0 m k = X) := by
          show _ = _
          rw [fst0, List.getD_eq_getElem?_getD, List.getD_eq_getElem?_getD, HE0.out, Option.getD_some, hX0]; rfl
        have hSr : -1 ≤ S ∧ S ≤ 1 := by
          have := sgK_or k
          rw [← HSG.out] at this
          omega
        have hTr := detS_rng HS.out hk (by omega)
        rw [← (HT.out : T = _)] at hTr
        have HSQ := Lib.hid (HS.out.mnr (k := k) (by omega))
        have hbel2 := hbel
        clear hX0 hbel
        by_cases hcc : c = 1
        · have HMIN : Hid (SlII wr wr.heap.size (.slice none 0 0) (mnr k m)) := by
            show SlII _ _ _ _
            have hln := HL.out
            rw [show mnr k m = [] from List.eq_nil_of_length_eq_zero (by simp [mnr]; omega)]
            exact SlG.nil
          subst hcc
          go_wp2
          refine wp_loop_rounds 1 ?_
          rw [rounds_succ]
          go_wp2_with fail
          refine (IH.out _ (mnr k m) _ HMIN.out HSQ.out).mono ?_; rintro e w6 ⟨rfl, hb6⟩
          obtain ⟨D, hD⟩ : ∃ z, detL n (mnr k m) = z := ⟨_, rfl⟩
          have hDr := det_rng HSQ.out
          have hDB := dB_5 (show n ≤ 5 by omega)
          rw [hD] at hDr ⊢
          have HD := Lib.hid hD
          have HW := Lib.hid (show Below w0.heap.size w0 w6 from hbel2.trans (hb6.mono hbel2.size))
          clear hD hb6 hbel2
          go_wp2
          go_roundw
          case rel =>
            have h1 := abs_mul (A := 1) (B := 12) (show -1 ≤ S ∧ S ≤ 1 by omega) hXr
            have h2 := abs_mul (A := 12) (B := 29859840) (a := S * X) (b := D) (by omega) (by omega)
            refine ⟨k + 1, _, _, by omega, by go_num, rfl, rfl, ?_, ?_, HW.out⟩
            · show _ = _
              rw [detS_succ, HD.out, ← HSG.out, ← HT.out, HXF.out]
              rw [IntWalk.wrap64_in (S * X) ⟨by omega, by omega⟩, IntWalk.wrap64_in (S * X * D) ⟨by omega, by omega⟩, IntWalk.wrap64_in (T + S * X * D) ⟨by omega, by omega⟩]
            · show _ = _
              rw [sgK_succ, ← HSG.out]
          case measure => simp [intOf]; omega
        · have hdk : decide ((k : Int) < (n : Int) + 1) = true := decide_eq_true (by omega)
          go_wp2
          clear x2 hdk
          obtain ⟨w1, hw1⟩ : ∃ z, z = wr := ⟨_, rfl⟩
          subst hw1
          go_loopw [7, 25] (fun ov i wq => ∃ j : Nat, j ≤ n ∧ i = .int .i64 j ∧ IntssO wq w1.heap.size wq.heap.size ov ((m.tail.take j).map (cutR k)) ∧ Below w1.heap.size w1 wq) (fun _ i _ => n - (intOf i).toNat)
          case atStart => exact ⟨0, Nat.zero_le _, rfl, by simpa using IntssO.nil w1 _ _, Below.refl _ _⟩
          case round =>
            obtain ⟨j, hj, rfl, hO, hbq⟩ := hrel
            obtain ⟨OA, oc, eo, hoc, hoc2, hol⟩ := hO.form2
            have hlo : ((m.tail.take j).map (cutR k)).length = j := by rw [List.length_map, List.length_take, List.length_tail, HL.out]; omega
            rw [hlo] at eo hoc
            subst eo
            have hbq2 : Below w0.heap.size w0 wr := hbel2.trans (hbq.mono hbel2.size)
            by_cases hjn : j < n
            · obtain ⟨r, RA, rc, hr0, _, y1, hr, hrc1, hrc2⟩ := SlII.elt HX.out (k := j + 1) (by rw [HL.out]; omega)
              have hrl := HS.out.row _ (List.mem_of_getElem? hr0)
              obtain ⟨br, or, rfl, hbr⟩ := SlI.addr hr (by omega)
              have y2 := bcell hbq2 hb y1
              have HR := Lib.hid (SlI.more hbq2.size (SlI.below hbq2 hr))
              have HRL2 := Lib.hid hrl
              rw [hrl] at y2 hrc1
              rw [show o + (j + 1) = o + 1 + j by omega] at y2
              have hrt : m.tail[j]? = some r := by rw [List.getElem?_tail]; exact hr0
              have HSN := Lib.hid (show (m.tail.take (j + 1)).map (cutR k) = (m.tail.take j).map (cutR k) ++ [cutR k r] by rw [take_snoc hrt, List.map_append]; rfl)
              have HO := Lib.hid hO
              have HBQ := Lib.hid hbq
              have HLO := Lib.hid hlo
              clear hr y1 hrl hrt hO hbq hr0 hlo
              go_wp2
              clear y2
              obtain ⟨wA, hwA⟩ : ∃ z, z = wr := ⟨_, rfl⟩
              subst hwA
              refine wp_region_net (by kernel_rfl) [.eq (.slice OA j oc), .eq (.slice (some ⟨br, or, none⟩) (n + 1) rc), .eq (.int .i64 k), .eq (.slice (some ⟨br, or, none⟩) k rc), .eq (.slice (some ⟨br, or, none⟩) (n + 1) rc), .eq (.int .i64 k), .eq (.int .i64 ((k : Int) + 1)), rel 7 (fun u lo hi w => SlI w w.heap.size u (r.drop (k + 1))), rel 8 (fun u lo hi w => SlII w w.heap.size u [r.take k, r.drop (k + 1)]), rel 9 (fun u lo hi w => IntsO w lo hi u (cutR k r)), .rel (fun x w => ∃ g, x.v 10 = .slice (some ⟨g, 0, none⟩) 1 1 ∧ Blk w g 22 #[x.v 9])] [[], [], [], [1, 2], [], [], [5], [4, 5, 6], [1, 2, 3, 4, 5, 6, 7], [1, 2, 3, 4, 5, 6, 7, 8], [1, 2, 3, 4, 5, 6, 7, 8, 9], [0, 1, 2, 3, 4, 5, 6, 7, 8, 9, 10], [0, 1, 2, 3, 4, 5, 6, 7, 8, 9, 10, 11]] 11 (by kernel_rfl) ⟨trivial, trivial, trivial, trivial, trivial, trivial, trivial, rel_stable (fun u lo hi w w' h hb => SlI.next hb h), rel_stable (fun u lo hi w w' h hb => SlII.next hb h), rel_stable (fun u lo hi w w' h hb => h.below hb), fun x w w' ⟨g, e, h⟩ hb => ⟨g, e, h.call hb⟩, trivial⟩ ⟨?_, ?_, ?_, ?_, ?_, ?_, ?_, ?_, ?_, ?_, ?_, trivial⟩ ?_
              · intro x w hb hk Q' hQ
                clear hk
                simp only [netAct, dstAt, List.getElem?_toArray, List.getElem?_cons_zero, List.getElem?_cons_succ, Option.bind_some, Act.put, List.setIfInBounds_toArray, List.set_cons_zero, List.set_cons_succ] at hQ ⊢
                go_wp2
                exact hQ (.slice OA j oc) _ (Below.refl _ _) rfl
              · intro x w hb hk Q' hQ
                clear hk
                simp only [netAct, dstAt, List.getElem?_toArray, List.getElem?_cons_zero, List.getElem?_cons_succ, Option.bind_some, Act.put, List.setIfInBounds_toArray, List.set_cons_zero, List.set_cons_succ] at hQ ⊢
                go_wp2
                exact hQ (.slice (some ⟨br, or, none⟩) (n + 1) rc) _ (Below.refl _ _) rfl
              · intro x w hb hk Q' hQ
                clear hk
                simp only [netAct, dstAt, List.getElem?_toArray, List.getElem?_cons_zero, List.getElem?_cons_succ, Option.bind_some, Act.put, List.setIfInBounds_toArray, List.set_cons_zero, List.set_cons_succ] at hQ ⊢
                go_wp2
                exact hQ (.int .i64 k) _ (Below.refl _ _) rfl
              · intro x w hb hk Q' hQ
                have h1 : x.v 1 = .slice (some ⟨br, or, none⟩) (n + 1) rc := (hk 1 (by decide)).1
                have h2 : x.v 2 = .int .i64 k := (hk 2 (by decide)).1
                clear hk
                simp only [netAct, dstAt, List.getElem?_toArray, List.getElem?_cons_zero, List.getElem?_cons_succ, Option.bind_some, Act.put, List.setIfInBounds_toArray, List.set_cons_zero, List.set_cons_succ] at hQ ⊢
                simp only [h1, h2] at hQ ⊢
                clear h1 h2
                go_wp2
                exact hQ (.slice (some ⟨br, or, none⟩) k rc) _ (Below.refl _ _) rfl
              · intro x w hb hk Q' hQ
                clear hk
                simp only [netAct, dstAt, List.getElem?_toArray, List.getElem?_cons_zero, List.getElem?_cons_succ, Option.bind_some, Act.put, List.setIfInBounds_toArray, List.set_cons_zero, List.set_cons_succ] at hQ ⊢
                go_wp2
                exact hQ (.slice (some ⟨br, or, none⟩) (n + 1) rc) _ (Below.refl _ _) rfl
              · intro x w hb hk Q' hQ
                clear hk
                simp only [netAct, dstAt, List.getElem?_toArray, List.getElem?_cons_zero, List.getElem?_cons_succ, Option.bind_some, Act.put, List.setIfInBounds_toArray, List.set_cons_zero, List.set_cons_succ] at hQ ⊢
                go_wp2
                exact hQ (.int .i64 k) _ (Below.refl _ _) rfl
              · intro x w hb hk Q' hQ
                have h5 : x.v 5 = .int .i64 k := (hk 5 (by decide)).1
                clear hk
                simp only [netAct, dstAt, List.getElem?_toArray, List.getElem?_cons_zero, List.getElem?_cons_succ, Option.bind_some, Act.put, List.setIfInBounds_toArray, List.set_cons_zero, List.set_cons_succ] at hQ ⊢
                simp only [h5] at hQ ⊢
                clear h5
                go_wp2
                exact hQ (.int .i64 ((k : Int) + 1)) _ (Below.refl _ _) rfl
              · intro x w hb hk Q' hQ
                have h4 : x.v 4 = .slice (some ⟨br, or, none⟩) (n + 1) rc := (hk 4 (by decide)).1
                have h5 : x.v 5 = .int .i64 k := (hk 5 (by decide)).1
                have h6 : x.v 6 = .int .i64 ((k : Int) + 1) := (hk 6 (by decide)).1
                clear hk
                simp only [netAct, dstAt, List.getElem?_toArray, List.getElem?_cons_zero, List.getElem?_cons_succ, Option.bind_some, Act.put, List.setIfInBounds_toArray, List.set_cons_zero, List.set_cons_succ] at hQ ⊢
                simp only [h4, h5, h6] at hQ ⊢
                clear h4 h5 h6
                have hR2 := SlI.more hb.size (SlI.below hb HR.out)
                have hD2 := SlI.dropS (k := k + 1) hR2 (by rw [HRL2.out]; omega)
                rw [HRL2.out] at hD2
                by_cases hrc : rc = k + 1
                · have hz : r.drop (k + 1) = [] := by rw [List.drop_of_length_le (by rw [HRL2.out]; omega)]
                  have hz2 : SlI w w.heap.size (.slice (some ⟨br, or, none⟩) 0 0) (r.drop (k + 1)) := by rw [hz]; exact SlI.zeroS (by omega)
                  have HZ := Lib.hid hz2
                  have HN := Lib.hid (show n + 1 - (k + 1) = 0 by omega)
                  have hn0 : n ≤ k := by omega
                  clear hz hz2 hD2 hR2
                  subst hrc
                  go_wp2
                  first | exact hQ _ _ (Below.refl _ _) HZ.out | (have := HN.out; simp only [this] at *; exact hQ _ _ (Below.refl _ _) HZ.out)
                · have HD2 := Lib.hid hD2
                  clear hD2 hR2
                  go_wp2
                  have HD3 : SlI w w.heap.size (.slice (some ⟨br, or + (k + 1), none⟩) (n - k) (rc - (k + 1))) (r.drop (k + 1)) := by rw [show n - k = n + 1 - (k + 1) by omega]; exact HD2.out
                  exact hQ _ _ (Below.refl _ _) HD3
              · intro x w hb hk Q' hQ
                have h1 : x.v 1 = .slice (some ⟨br, or, none⟩) (n + 1) rc := (hk 1 (by decide)).1
                have h2 : x.v 2 = .int .i64 k := (hk 2 (by decide)).1
                have h3 : x.v 3 = .slice (some ⟨br, or, none⟩) k rc := (hk 3 (by decide)).1
                have h4 : x.v 4 = .slice (some ⟨br, or, none⟩) (n + 1) rc := (hk 4 (by decide)).1
                have h5 : x.v 5 = .int .i64 k := (hk 5 (by decide)).1
                have h6 : x.v 6 = .int .i64 ((k : Int) + 1) := (hk 6 (by decide)).1
                have h7 : SlI w w.heap.size (x.v 7) (r.drop (k + 1)) := (hk 7 (by decide)).1
                have s7 := (hk 7 (by decide)).2
                clear hk
                simp only [netAct, dstAt, List.getElem?_toArray, List.getElem?_cons_zero, List.getElem?_cons_succ, Option.bind_some, Act.put, List.setIfInBounds_toArray, List.set_cons_zero, List.set_cons_succ] at hQ ⊢
                simp only [h1, h2, h3, h4, h5, h6] at hQ ⊢
                clear h1 h2 h3 h4 h5 h6
                have hR2 := SlI.more hb.size (SlI.below hb HR.out)
                have hT2 := SlI.takeS (k := k) hR2 (by rw [HRL2.out]; omega)
                have h8 := SlII.two (t := 22) hT2 h7
                have hq2 := hQ (.slice (some ⟨w.heap.size, 0, none⟩) 2 2) (w.alloc (.cells #[.slice (some ⟨br, or, none⟩) k rc, x.v 7] 22)) (below_alloc _ _) h8
                obtain ⟨A7, c7, e7⟩ := h7.form2
                obtain ⟨DN, hDN⟩ : ∃ z, (r.drop (k + 1)).length = z := ⟨_, rfl⟩
                rw [hDN] at e7
                rw [e7] at hq2 ⊢
                clear hT2 h8 hR2 h7 e7 hDN
                go_wp2
                exact hq2
              · intro x w hb hk Q' hQ
                have h1 : x.v 1 = .slice (some ⟨br, or, none⟩) (n + 1) rc := (hk 1 (by decide)).1
                have h2 : x.v 2 = .int .i64 k := (hk 2 (by decide)).1
                have h3 : x.v 3 = .slice (some ⟨br, or, none⟩) k rc := (hk 3 (by decide)).1
                have h4 : x.v 4 = .slice (some ⟨br, or, none⟩) (n + 1) rc := (hk 4 (by decide)).1
                have h5 : x.v 5 = .int .i64 k := (hk 5 (by decide)).1
                have h6 : x.v 6 = .int .i64 ((k : Int) + 1) := (hk 6 (by decide)).1
                have h7 : SlI w w.heap.size (x.v 7) (r.drop (k + 1)) := (hk 7 (by decide)).1
                have h8 : SlII w w.heap.size (x.v 8) [r.take k, r.drop (k + 1)] := (hk 8 (by decide)).1
                have s7 := (hk 7 (by decide)).2
                have s8 := (hk 8 (by decide)).2
                clear hk
                simp only [netAct, dstAt, List.getElem?_toArray, List.getElem?_cons_zero, List.getElem?_cons_succ, Option.bind_some, Act.put, List.setIfInBounds_toArray, List.set_cons_zero, List.set_cons_succ] at hQ ⊢
                simp only [h1, h2, h3, h4, h5, h6] at hQ ⊢
                clear h1 h2 h3 h4 h5 h6
                go_wp2_with fail
                refine (concat_any _ _ _ h8 (by simp) (by simp; rw [HRL2.out]; omega)).mono ?_; rintro e w5 ⟨v5, rfl, hI5, hb5⟩
                go_wp2
                have hI6 : IntsO w5 w.heap.size w5.heap.size v5 (cutR k r) := by simpa [cutR] using hI5
                exact hQ _ _ hb5 hI6
              · intro x w hb hk Q' hQ
                have h1 : x.v 1 = .slice (some ⟨br, or, none⟩) (n + 1) rc := (hk 1 (by decide)).1
                have h2 : x.v 2 = .int .i64 k := (hk 2 (by decide)).1
                have h3 : x.v 3 = .slice (some ⟨br, or, none⟩) k rc := (hk 3 (by decide)).1
                have h4 : x.v 4 = .slice (some ⟨br, or, none⟩) (n + 1) rc := (hk 4 (by decide)).1
                have h5 : x.v 5 = .int .i64 k := (hk 5 (by decide)).1
                have h6 : x.v 6 = .int .i64 ((k : Int) + 1) := (hk 6 (by decide)).1
                have h7 : SlI w w.heap.size (x.v 7) (r.drop (k + 1)) := (hk 7 (by decide)).1
                have h8 : SlII w w.heap.size (x.v 8) [r.take k, r.drop (k + 1)] := (hk 8 (by decide)).1
                have h9 : IntsO w (x.lo 9) (x.hi 9) (x.v 9) (cutR k r) := (hk 9 (by decide)).1
                have s7 := (hk 7 (by decide)).2
                have s8 := (hk 8 (by decide)).2
                have s9 := (hk 9 (by decide)).2
                clear hk
                simp only [netAct, dstAt, List.getElem?_toArray, List.getElem?_cons_zero, List.getElem?_cons_succ, Option.bind_some, Act.put, List.setIfInBounds_toArray, List.set_cons_zero, List.set_cons_succ] at hQ ⊢
                simp only [h1, h2, h3, h4, h5, h6] at hQ ⊢
                clear h1 h2 h3 h4 h5 h6
                obtain ⟨A9, c9, e9⟩ := h9.form
                have hq2 := hQ (.slice (some ⟨w.heap.size, 0, none⟩) 1 1) (w.alloc (.cells #[x.v 9] 22)) (below_alloc _ _) ⟨w.heap.size, rfl, Blk.new w 22 #[x.v 9]⟩
                rw [e9] at hq2 ⊢
                clear h9 e9
                go_wp2
                exact hq2
              · intro x w hb hk hiv hdj
                have h0 : x.v 0 = .slice OA j oc := hk 0 (by decide)
                have h1 : x.v 1 = .slice (some ⟨br, or, none⟩) (n + 1) rc := hk 1 (by decide)
                have h2 : x.v 2 = .int .i64 k := hk 2 (by decide)
                have h3 : x.v 3 = .slice (some ⟨br, or, none⟩) k rc := hk 3 (by decide)
                have h4 : x.v 4 = .slice (some ⟨br, or, none⟩) (n + 1) rc := hk 4 (by decide)
                have h5 : x.v 5 = .int .i64 k := hk 5 (by decide)
                have h6 : x.v 6 = .int .i64 ((k : Int) + 1) := hk 6 (by decide)
                have h7 : SlI w w.heap.size (x.v 7) (r.drop (k + 1)) := hk 7 (by decide)
                have h8 : SlII w w.heap.size (x.v 8) [r.take k, r.drop (k + 1)] := hk 8 (by decide)
                have h9 : IntsO w (x.lo 9) (x.hi 9) (x.v 9) (cutR k r) := hk 9 (by decide)
                have h10 : ∃ g, x.v 10 = .slice (some ⟨g, 0, none⟩) 1 1 ∧ Blk w g 22 #[x.v 9] := hk 10 (by decide)
                clear hk
                simp only [netAct, dstAt, List.getElem?_toArray, List.getElem?_cons_zero, List.getElem?_cons_succ, Option.bind_some, Act.put, List.setIfInBounds_toArray, List.set_cons_zero, List.set_cons_succ]
                simp only [List.drop_succ_cons, List.drop_zero, h0, h1, h2, h3, h4, h5, h6]
                clear h0 h1 h2 h3 h4 h5 h6
                obtain ⟨g, e10, k10⟩ := h10
                obtain ⟨i9a, i9b, i9c⟩ := hiv 9 (by decide)
                rw [e10]
                have c10 := k10.cell' (i := 0) rfl
                have hws := hb.size
                have hO2 := HO.out.below hb
                have HBQ2 := Lib.hid (HBQ.out.trans (hb.mono HBQ.out.size))
                have hw1 := HBQ.out.size
                refine wpList_appR rfl (.tmp 29) (.tmp 39) rfl w1.heap.size wA.heap.size (x.lo 9) (x.hi 9) (.slice OA j oc) _ (cutR k r) rfl hO2 _ _ (x.v 9) rfl ⟨g, 0, rfl, c10⟩ h9 (by omega) (by omega) (by omega) (by rw [HLO.out]; omega) (by omega) (by omega) ?_
                intro v9 w9 ho9 hb9 _
                rw [← HSN.out] at ho9
                have HO9 := Lib.hid ho9
                have HB9 := Lib.hid (HBQ2.out.trans hb9)
                clear ho9 hb9 hO2 hb hiv hdj e10 k10 c10 h9 HBQ2
                go_wp2
                go_roundw
                case rel => exact ⟨j + 1, by omega, by go_num, HO9.out, HB9.out⟩
                case measure => simp [intOf]; omega
            · have hjn' : j = n := by omega
              have e1 : (m.tail.take j).map (cutR k) = mnr k m := by rw [List.take_of_length_le (by rw [List.length_tail, HL.out]; omega)]; rfl
              rw [e1] at hO
              have HMIN := Lib.hid hO.rd
              have hbel3 := hbq2
              clear hbel2 hO hbq hbq2 hlo e1 hjn'
              have hbel2 := hbel3
              clear hbel3
              go_wp2_with fail
              refine (IH.out _ (mnr k m) _ HMIN.out HSQ.out).mono ?_; rintro e w6 ⟨rfl, hb6⟩
              obtain ⟨D, hD⟩ : ∃ z, detL n (mnr k m) = z := ⟨_, rfl⟩
              have hDr := det_rng HSQ.out
              have hDB := dB_5 (show n ≤ 5 by omega)
              rw [hD] at hDr ⊢
              have HD := Lib.hid hD
              have HW := Lib.hid (show Below w0.heap.size w0 w6 from hbel2.trans (hb6.mono hbel2.size))
              clear hD hb6 hbel2
              go_wp2
              go_roundw
              case rel =>
                have h1 := abs_mul (A := 1) (B := 12) (show -1 ≤ S ∧ S ≤ 1 by omega) hXr
                have h2 := abs_mul (A := 12) (B := 29859840) (a := S * X) (b := D) (by omega) (by omega)
                refine ⟨k + 1, _, _, by omega, by go_num, rfl, rfl, ?_, ?_, HW.out⟩
                · show _ = _
                  rw [detS_succ, HD.out, ← HSG.out, ← HT.out, HXF.out]
                  rw [IntWalk.wrap64_in (S * X) ⟨by omega, by omega⟩, IntWalk.wrap64_in (S * X * D) ⟨by omega, by omega⟩, IntWalk.wrap64_in (T + S * X * D) ⟨by omega, by omega⟩]
                · show _ = _
                  rw [sgK_succ, ← HSG.out]
              case measure => simp [intOf]; omega
      · have hkn : k = n + 1 := by omega
        have HTE := Lib.hid (show T = detL (n + 1) m by rw [HDL.out, HT.out, hkn])
        clear hkn
        go_wp2
        go_ret
        exact ⟨by rw [← HTE.out]; rfl, hbel⟩
end Go.Proofs.Ytgbchoenmpoojaa
