/- The program's ReflectDims. -/
import Derived.Test.YtndnjbofflddfaaRefl2
import Derived.Test.YtndnjbofflddfaaRev
import Derived.Shelf.Slices.Clone
namespace Go.Proofs
open Go.Shelf
def Try.laysClone_ren : Go.Shelf.Ren := ⟨fun | 15 => 82 | n => n, fun | 22 => 28 | 3 => 3 | 4 => 4 | n => n, fun | n => n⟩
theorem Try.laysClone : Go.Proofs.Lays2.n15 Try.prog Try.laysClone_ren := {
  mixed := by kernel_rfl
  f15 := Try.func82.trans (congrArg some (by kernel_rfl))
  t3 := Try.underlying3
  a3 := Try.isAgg3
  z3 := Try.sizeOf3
  v3 := Try.zeroValue3
  t4 := Try.underlying4
  a4 := Try.isAgg4
  z4 := Try.sizeOf4
  v4 := Try.zeroValue4
  t22 := Try.underlying28
  a22 := Try.isAgg28
  z22 := Try.sizeOf28
  v22 := Try.zeroValue28
  i3 := by kernel_rfl }
end Go.Proofs
namespace Go.Proofs.Ytndnjbofflddfaa
set_option linter.unusedVariables false
set_option linter.unusedSimpArgs false
open Go.RowKit

theorem clone_any (u : Value) (xs : List Int) (w : World) (hu : SlI w w.heap.size u xs) (hp : 0 < xs.length) (hr : ∀ y ∈ xs, I64 y) :
    Calls Try.prog 82 #[u] w fun e w' => ∃ g c, e = .returned (.slice (some ⟨g, 0, none⟩) xs.length c) ∧ OwnI w' w.heap.size (.slice (some ⟨g, 0, none⟩) xs.length c) xs ∧ xs.length ≤ c ∧ c ≤ 9223372036854775807 ∧ Below w.heap.size w w' := by
  obtain ⟨A, c, rfl, _, _, hn, hx⟩ := hu
  obtain ⟨b, o, rfl, hb, hc⟩ := hx hp
  refine (Any.slices_Clone_int Try.laysClone b o xs.length c xs w (Nat.le_refl _) (by omega) (fun j hj => ?_)).mono ?_
  · have h := (hc j (xs.getD j 0) (by rw [List.getD_eq_getElem?_getD, List.getElem?_eq_getElem hj]; rfl)).1
    simpa using h
  · rintro e w' ⟨v', rfl, ho, hnn, hb⟩
    rw [List.take_of_length_le (Nat.le_refl _)] at ho
    rcases ho.2 with ⟨e, _⟩ | ⟨g, cap, cur, rfl, hg, hh, hnc, hcm, _⟩
    · exact absurd e hnn
    · exact ⟨g, cap, rfl, ⟨ho, hn, hr⟩, hnc, by simp only [maxLen] at hcm; omega, hb⟩

theorem set_self {x : List Int} {n : Nat} : x.set n (x.getD n 0) = x := by
  apply List.ext_getElem?
  intro i
  rw [List.getElem?_set]
  by_cases e : n = i
  · subst e
    rw [if_pos rfl]
    by_cases h : n < x.length
    · rw [if_pos h, List.getD_eq_getElem?_getD, List.getElem?_eq_getElem h]; rfl
    · rw [if_neg h, List.getElem?_eq_none (by omega)]
  · rw [if_neg e]
theorem IntssO.entry {w : World} {lo hi V i : Nat} {g : Nat → Nat → Int} {mv : Value} {ll : List (List Int)} (h : IntssO w lo hi mv ll) (e : ll = matF V g) (hi' : i < V) : ∃ gm cm gr cr, mv = .slice (some ⟨gm, 0, none⟩) V cm ∧ w.cell? ⟨gm, i, none⟩ = some (.slice (some ⟨gr, 0, none⟩) V cr) ∧ OwnI w lo (.slice (some ⟨gr, 0, none⟩) V cr) (rowF V (g i)) ∧ lo ≤ gr ∧ V ≤ cr ∧ cr ≤ 9223372036854775807 := by
  subst e
  obtain ⟨vs, h1, h2, h3⟩ := h
  obtain ⟨gr, cr, hv, ho, hc1, hc2, hg1, _⟩ := h3.rowAt h2 (matF_get g hi') (by rw [rowF_length]; omega)
  rw [rowF_length] at hv ho hc1
  rw [matF_length] at h2
  have hf := h1
  rcases h1.1.2 with ⟨_, h0⟩ | ⟨gm, cap, cur, rfl, _, _, _, _, _⟩
  · omega
  · rw [h2] at hf ⊢
    exact ⟨gm, cap, gr, cr, rfl, hf.cellS hv, ho, hg1, hc1, hc2⟩

set_option maxHeartbeats 1600000 in
set_option maxRecDepth 20000 in
theorem implReflectDims_any (u : Value) (q : Qv) (xv : Value) (x : List Int) (v : Int) (w : World) (hu : QvR w w.heap.size u q) (hx : SlI w w.heap.size xv x) (_ : I64 v) :
    Calls Try.prog 49 #[u, xv, .int .i64 v] w fun e w' => ∃ r, e = .returned (.tuple #[r, .bool (reflQ q x v).2]) ∧ IntsO w' w.heap.size w'.heap.size r (reflQ q x v).1 ∧ Below w.heap.size w w' := by
  have hu' := hu
  obtain ⟨A, c, C, d, rfl, hf, hT, hr, lf, lt⟩ := hu.open_
  have hx' := hx
  obtain ⟨XA, xc, rfl, _, _, lx, _⟩ := hx.open_
  clear hu hx hf hT
  obtain ⟨W, hW⟩ : ∃ W, W = w.alloc (.cells #[.int .i64 q.v, .slice A q.f.length c, .slice C q.t.length d] 30) := ⟨_, rfl⟩
  have g0 : Below w.heap.size w W := by rw [hW]; exact below_alloc _ _
  have kB : Blk W w.heap.size 30 #[.int .i64 q.v, .slice A q.f.length c, .slice C q.t.length d] := by rw [hW]; exact Blk.new _ _ _
  have c0 := kB.cell' (i := 0) rfl
  have c1 := kB.cell' (i := 1) rfl
  have c2 := kB.cell' (i := 2) rfl
  have h0 := QvR.next g0 hu'
  have hx0 := SlI.next g0 hx'
  have HXO := Lib.hid hx'
  clear hu' hx'
  rcases hq : isNum q x with _ | _
  · have hF : Hid (reflQ q x v = ([], false)) := by show _ = _; simp [reflQ, hq]
    go_enter Try.func49, Try.ntmps49
    go_wp2_with fail
    first | (rw [← hW]; clear hW) | skip
    refine (areNumbers_any _ _ _ _ _ h0 hx0).mono ?_; rintro e w1 ⟨rfl, hb1⟩
    rw [hq]
    have g1 := bthen g0 hb1
    go_wp2
    exact bodyPost_ret (v := .tuple #[.slice none 0 0, .bool false]) (by simp [results, go_sem]) rfl ⟨_, by rw [hF.out], by rw [hF.out]; exact IntsO.nil_ _ _ _, g1⟩
  obtain ⟨hq1, hq2, hq3⟩ := isNum_t.1 hq
  obtain ⟨⟨hv1, hv2⟩, hlen, hl6, _, _⟩ := isQ_t.1 hq1
  have HQ1 := Lib.hid hq1
  have HQ3 := Lib.hid hq3
  have HQ2 := Lib.hid hq2
  have HLE := Lib.hid hlen
  clear hq1 hq2 hq3 hlen
  rcases hin : inR v 0 (q.v - 1) with _ | _
  · have hF : Hid (reflQ q x v = ([], false)) := by show _ = _; simp [reflQ, hin]
    go_enter Try.func49, Try.ntmps49
    go_wp2_with fail
    rw [← hW]; clear hW
    refine (areNumbers_any _ _ _ _ _ h0 hx0).mono ?_; rintro e w1 ⟨rfl, hb1⟩
    rw [hq]
    have g1 := bthen g0 hb1
    have k1 := kB.call hb1
    have h1 := QvR.next hb1 h0
    clear c0 c1 c2
    have d0 := k1.cell' (i := 0) rfl
    have d1 := k1.cell' (i := 1) rfl
    have d2 := k1.cell' (i := 2) rfl
    go_wp2_with fail
    refine (hasVertex_any _ _ _ _ h1 ⟨hv1, hv2⟩).mono ?_; rintro e w2 ⟨rfl, hb2⟩
    rw [hin]
    have g2 := bthen g1 hb2
    go_wp2
    exact bodyPost_ret (v := .tuple #[.slice none 0 0, .bool false]) (by simp [results, go_sem]) rfl ⟨_, by rw [hF.out], by rw [hF.out]; exact IntsO.nil_ _ _ _, g2⟩
  have hvr := inR_t.1 hin
  obtain ⟨n, rfl⟩ : ∃ n : Nat, v = n := ⟨v.toNat, by omega⟩
  obtain ⟨V, hV⟩ : ∃ V : Nat, q.v = V := ⟨q.v.toNat, by omega⟩
  have hnV : n < V := by omega
  have hV5 : V ≤ 5 := by omega
  have hV1 : 0 < V := by omega
  have hsV : Hid (symM q = matF V (ent q q.f.length)) := by show _ = _; rw [symM, hV]; rfl
  have hxV : Hid (x.length = V) := by have := HQ2.out; show _ = _; omega
  have hlp := loop_ent (q := q) (v := n) HLE.out
  obtain ⟨z, hz⟩ : ∃ z, ent q q.f.length n n = z := ⟨_, rfl⟩
  rw [hz] at hlp
  have HZ := Lib.hid hz
  clear hz hvr hv1 hv2
  have hv1 : 1 ≤ q.v ∧ q.v ≤ 5 := by omega
  have HV1 := Lib.hid hv1
  clear hv1 hV
  rcases hlo : loopQ q n with _ | _
  · have hF : Hid (reflQ q x n = (reflL q x n, true)) := by show _ = _; simp [reflQ, hq, hin, hlo]
    rw [hlo] at hlp
    go_enter Try.func49, Try.ntmps49
    go_wp2_with fail
    rw [← hW]; clear hW
    refine (areNumbers_any _ _ _ _ _ h0 hx0).mono ?_; rintro e w1 ⟨rfl, hb1⟩
    rw [hq]
    have g1 := bthen g0 hb1
    have k1 := kB.call hb1
    have h1 := QvR.next hb1 h0
    have hx1 := SlI.next hb1 hx0
    clear c0 c1 c2
    have d0 := k1.cell' (i := 0) rfl
    have d1 := k1.cell' (i := 1) rfl
    have d2 := k1.cell' (i := 2) rfl
    go_wp2_with fail
    refine (hasVertex_any _ _ _ _ h1 HV1.out).mono ?_; rintro e w2 ⟨rfl, hb2⟩
    rw [hin]
    have g2 := bthen g1 hb2
    have k2 := k1.call hb2
    have h2 := QvR.next hb2 h1
    have hx2 := SlI.next hb2 hx1
    clear d0 d1 d2
    have d0 := k2.cell' (i := 0) rfl
    have d1 := k2.cell' (i := 1) rfl
    have d2 := k2.cell' (i := 2) rfl
    go_wp2_with fail
    refine (symmetric_any _ _ _ h2 HQ1.out).mono ?_; rintro e w3 ⟨mv, rfl, hm, hb3⟩
    have g3 := bthen g2 hb3
    have k3 := k2.call hb3
    have h3 := QvR.next hb3 h2
    have hx3 := SlI.next hb3 hx2
    obtain ⟨gm, cm, gr, cr, rfl, m1, hrow, _, hcr1, hcr2⟩ := hm.entry hsV.out hnV
    have m2 := (hrow.cellG (j := n) (by rw [rowF_length]; exact hnV)).1
    rw [rowF_getD _ hnV, HZ.out] at m2
    clear hm hrow d0 d1 d2 g0 g1 g2 hb1 hb2 hb3 kB k1 k2 h0 h1 h2 hx0 hx1 hx2
    have d0 := k3.cell' (i := 0) rfl
    have d1 := k3.cell' (i := 1) rfl
    have d2 := k3.cell' (i := 2) rfl
    have hxp : 0 < x.length := by have := hxV.out; omega
    have hxr : ∀ y ∈ x, I64 y := fun y hy => by have := HQ3.out y hy; exact ⟨by omega, by omega⟩
    go_wp2_with fail
    refine (clone_any _ x _ hx3 hxp hxr).mono ?_; rintro e w4 ⟨g, gc, rfl, ho4, hgc1, hgc2, hb4⟩
    have HXR := Lib.hid hxr
    have g4 := bthen g3 hb4
    have k4 := k3.call hb4
    have h4 := QvR.next hb4 h3
    have hx4 := SlI.next hb4 hx3
    clear d0 d1 d2 m1 m2 hxr
    have d0 := k4.cell' (i := 0) rfl
    have d1 := k4.cell' (i := 1) rfl
    have d2 := k4.cell' (i := 2) rfl
    go_wp2_with fail
    refine (symmetric_any _ _ _ h4 HQ1.out).mono ?_; rintro e w5 ⟨mv, rfl, hm, hb5⟩
    obtain ⟨gm2, cm2, gr2, cr2, rfl, m1, hrow, hgr2, hcr3, hcr4⟩ := hm.entry hsV.out hnV
    have hgw4 : g < w4.heap.size := (ho4.lt g rfl).2
    have hb4' := g4.trans (hb5.mono g4.size)
    have ho5 := (ho4.lower g3.size).below hb5
    have hbw4 := g4.size
    have hE0 := set_self (x := x) (n := n)
    obtain ⟨E, hE⟩ : ∃ E, ent q q.f.length n = E := ⟨_, rfl⟩
    have hgr : ∀ i, -12 ≤ E i ∧ E i ≤ 12 := fun i => by have := ent_rng q q.f.length n i hl6; rw [hE] at this; omega
    have HGR := Lib.hid hgr
    have hsr := Lib.hid (dotS_rng hgr HQ3.out)
    have hRL : Hid (reflL q x n = x.set n (x.getD n 0 - dotS E x V)) := by show _ = _; rw [reflL, hxV.out, hE]
    rw [hE] at hrow
    have HXN := Lib.hid (getD_rng HQ3.out n)
    have hwg : w.heap.size ≤ g := Nat.le_trans g3.size (ho4.lt g rfl).1
    rw [← hE0, show x.getD n 0 = x.getD n 0 - dotS E x 0 by simp [dotS]] at ho5
    have HLX := Lib.hid (show (x.set n (x.getD n 0 - dotS E x 0)).length = x.length by simp)
    rw [HLX.out] at ho5
    clear hE hgr hE0 hm hb5 ho4 hb4 g4 k4 h4 hx4 d0 d1 d2 k3 h3 hx3 g3
    have hmo : Try.prog.follows .mixedOrders = true := by kernel_rfl
    go_wp2
    clear m1
    go_loopw [40] (fun i wr => ∃ k : Nat, k ≤ V ∧ i = .int .i64 k ∧ OwnI wr w.heap.size (.slice (some ⟨g, 0, none⟩) x.length gc) (x.set n (x.getD n 0 - dotS E x k)) ∧ OwnI wr w4.heap.size (.slice (some ⟨gr2, 0, none⟩) V cr2) (rowF V E) ∧ Below w.heap.size w wr) (fun i _ => V - (intOf i).toNat)
    case atStart => exact ⟨0, Nat.zero_le _, rfl, ho5, hrow, hb4'⟩
    case round =>
      clear ho5 hrow hb4'
      obtain ⟨k, hk, rfl, hown, hrow, hbel⟩ := hrel
      by_cases hlt : k < V
      · have hsk := hsr.out k
        have hlx : k < x.length := by have := hxV.out; omega
        have hnx : n < x.length := by have := hxV.out; omega
        obtain ⟨b2, o2, t, rfl, hb2, HT, t1, _⟩ := SlI.at_ HXO.out hlx
        have t2 := bcell hbel hb2 t1
        have r1 := (hrow.cellG (j := k) (by rw [rowF_length]; exact hlt)).1
        rw [rowF_getD _ hlt] at r1
        have ci := (hown.cellG (j := n) (by simpa using hnx)).1
        have fi := hown.frozenG n
        rw [show (x.set n (x.getD n 0 - dotS E x k)).getD n 0 = x.getD n 0 - dotS E x k by rw [List.getD_eq_getElem?_getD, List.getElem?_set, if_pos rfl, if_pos hnx]; rfl] at ci
        have hxn := HXN.out
        have hyr := HGR.out k
        have htr := HQ3.out t (List.mem_of_getElem? HT.out)
        obtain ⟨y, hy⟩ : ∃ y, E k = y := ⟨_, rfl⟩
        rw [hy] at r1 hyr
        have hpr := mul_rng hyr htr
        obtain ⟨p, hp⟩ : ∃ p, y * t = p := ⟨_, rfl⟩
        rw [hp] at hpr
        have hst : x.getD n 0 - dotS E x (k + 1) = x.getD n 0 - dotS E x k - p := by
          have : x.getD k 0 = t := by rw [List.getD_eq_getElem?_getD, HT.out]; rfl
          rw [dotS, hy, this, hp]; omega
        obtain ⟨a, ha⟩ : ∃ a, x.getD n 0 - dotS E x k = a := ⟨_, rfl⟩
        rw [ha] at ci hst hown
        have har : -6100 ≤ a ∧ a ≤ 6100 := by omega
        have hpt := hown.put (j := n) (x := a - p) ⟨by omega, by omega⟩
        rw [List.set_set] at hpt
        have hrw := hrow.kept hpt.2 (.inr (by simp [Value.ownBlock]; omega))
        have hbb := hbel.grown hpt.2 (by have := hbel.size; omega) (fun j hj => by injection hj with hj; omega)
        have HP := Lib.hid (show OwnI (wr.setCell ⟨g, n, none⟩ (.int .i64 (a - p))) w.heap.size (.slice (some ⟨g, 0, none⟩) x.length gc) (x.set n (x.getD n 0 - dotS E x (k + 1))) by rw [hst]; exact hpt.1)
        have HRW := Lib.hid hrw
        have HBB := Lib.hid hbb
        clear hpt hrw hbb hst ha hy hown hrow hsk hxn t1 hbel
        go_wp2_with fail
        go_region_o
        go_wp2
        go_roundw
        case rel => exact ⟨k + 1, by omega, by go_num, HP.out.drewN 1, HRW.out.drewN 1, below_drewN HBB.out 1⟩
        case measure => simp [intOf]; omega
      · have hkV : Hid (k = V) := by show _ = _; omega
        rw [hkV.out, ← hRL.out] at hown
        go_wp2
        exact bodyPost_ret (v := .tuple #[.slice (some ⟨g, 0, none⟩) x.length gc, .bool true]) (by simp [results, go_sem]) rfl ⟨_, by rw [hF.out], by rw [hF.out]; exact IntsO.of_own hown, hbel⟩
  · have hF : Hid (reflQ q x n = ([], false)) := by show _ = _; simp [reflQ, hlo]
    rw [hlo] at hlp
    go_enter Try.func49, Try.ntmps49
    go_wp2_with fail
    rw [← hW]; clear hW
    refine (areNumbers_any _ _ _ _ _ h0 hx0).mono ?_; rintro e w1 ⟨rfl, hb1⟩
    rw [hq]
    have g1 := bthen g0 hb1
    have k1 := kB.call hb1
    have h1 := QvR.next hb1 h0
    clear c0 c1 c2
    have d0 := k1.cell' (i := 0) rfl
    have d1 := k1.cell' (i := 1) rfl
    have d2 := k1.cell' (i := 2) rfl
    go_wp2_with fail
    refine (hasVertex_any _ _ _ _ h1 HV1.out).mono ?_; rintro e w2 ⟨rfl, hb2⟩
    rw [hin]
    have g2 := bthen g1 hb2
    have k2 := k1.call hb2
    have h2 := QvR.next hb2 h1
    clear d0 d1 d2
    have d0 := k2.cell' (i := 0) rfl
    have d1 := k2.cell' (i := 1) rfl
    have d2 := k2.cell' (i := 2) rfl
    go_wp2_with fail
    refine (symmetric_any _ _ _ h2 HQ1.out).mono ?_; rintro e w3 ⟨mv, rfl, hm, hb3⟩
    have g3 := bthen g2 hb3
    obtain ⟨gm, cm, gr, cr, rfl, m1, hrow, _, hcr1, hcr2⟩ := hm.entry hsV.out hnV
    have m2 := (hrow.cellG (j := n) (by rw [rowF_length]; exact hnV)).1
    rw [rowF_getD _ hnV, HZ.out] at m2
    clear hm hrow
    go_wp2
    exact bodyPost_ret (v := .tuple #[.slice none 0 0, .bool false]) (by simp [results, go_sem]) rfl ⟨_, by rw [hF.out], by rw [hF.out]; exact IntsO.nil_ _ _ _, g3⟩
end Go.Proofs.Ytndnjbofflddfaa
