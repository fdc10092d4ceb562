/- FnExactCoxeterNumber: for every argument the program's function returns what the reference's returns. Part 7 of 7 of the proof: CoxN, MkI, CoxN2, LawCoxeterNumber, Row, RowQ, Seat, LawCoxeterNumberRow. No condition. -/
import Derived.Test.YtjhllgldllbaaaaBCoxeterNumber6
import Derived.Test.YtjhllgldllbaaaaRows
import Derived.ProofKit
import Derived.SizedLaws
import Derived.OpenShut
import Derived.Deep.Slices
/- CoxeterNumber. -/
namespace Go.Proofs.Ytjhllgldllbaaaa
set_option linter.unusedVariables false
set_option linter.unusedSimpArgs false
open Go.RowKit

def unR (V v : Nat) : List Int := rowF V (idF v)
def cnOk (q : Qv) (V n v : Nat) : Bool := (coxP q (unR V v) n).2 && decide ((coxP q (unR V v) n).1 = unR V v)
def cnAll (q : Qv) (V n k : Nat) : Bool := (List.range k).all (cnOk q V n)
def cnGo (q : Qv) (V : Nat) : Nat → Nat → Int
  | 0, _ => 0
  | m + 1, n => if cnAll q V n V then n else cnGo q V m (n + 1)
def cnQ (q : Qv) : Int := if kindQ q = 1 then cnGo q q.v.toNat 40 1 else 0
theorem cnAll_succ (q : Qv) (V n k : Nat) : cnAll q V n (k + 1) = (cnAll q V n k && cnOk q V n k) := by
  simp [cnAll, List.range_succ]
set_option maxHeartbeats 6400000 in
set_option maxRecDepth 100000 in
theorem implCoxeterNumber_any (u : Value) (q : Qv) (w0 : World) (hu : QvR w0 w0.heap.size u q) :
    Calls Try.prog 48 #[u] w0 fun e w' => e = .returned (.int .i64 (cnQ q)) ∧ Below w0.heap.size w0 w' := by
  have hu' := hu
  obtain ⟨A, c, C, d, rfl, hf, hT, hr, lf, lt⟩ := hu.open_
  clear hu hf hT
  obtain ⟨W, hW⟩ : ∃ W, W = w0.alloc (.cells #[.int .i64 q.v, .slice A q.f.length c, .slice C q.t.length d] 26) := ⟨_, rfl⟩
  have g0 : Below w0.heap.size w0 W := by rw [hW]; exact below_alloc _ _
  have kB : Blk W w0.heap.size 26 #[.int .i64 q.v, .slice A q.f.length c, .slice C q.t.length d] := by rw [hW]; exact Blk.new _ _ _
  have HQ := Lib.hid (QvR.next g0 hu')
  clear hu'
  have c0 := kB.cell' (i := 0) rfl
  have c1 := kB.cell' (i := 1) rfl
  have c2 := kB.cell' (i := 2) rfl
  have hkr := kindQ_rng q
  obtain ⟨K, hK⟩ : ∃ k, kindQ q = k := ⟨_, rfl⟩
  by_cases h1 : K = 1
  · have hq : isQ q = true := by
      rcases h : isQ q with _ | _
      · simp [kindQ, h] at hK; omega
      · rfl
    have hv := (isQ_t.1 hq).1
    obtain ⟨V, hV⟩ := Int.eq_ofNat_of_zero_le (show 0 ≤ q.v by omega)
    have HF := Lib.hid (show cnQ q = cnGo q V (41 - 1) 1 by rw [cnQ, hK, if_pos h1, hV]; rfl)
    have HK := Lib.hid hK
    have hV5 : V ≤ 5 := by omega
    replace HQ := Lib.hid (show QvR W W.heap.size (.agg #[.int .i64 (V : Int), .slice A q.f.length c, .slice C q.t.length d]) q by rw [← hV]; exact HQ.out)
    rw [hV] at kB c0 hW ⊢
    clear hq hv hV hkr hK
    subst h1
    go_enter Try.func48, Try.ntmps48
    go_wp2_with fail
    rw [← hW]; clear hW
    refine (implKind_any _ q _ HQ.out).mono ?_; rintro e w1 ⟨rfl, hb1⟩
    rw [HK.out]
    have g1 := bthen g0 hb1
    have kB1 := kB.call hb1
    have HQ1 := Lib.hid (QvR.next hb1 HQ.out)
    have s1 := g1.size
    clear hb1 c0 c1 c2 kB g0 HQ
    go_wp2
    go_loopw [3] (fun i wr => ∃ n : Nat, 1 ≤ n ∧ n ≤ 41 ∧ i = .int .i64 n ∧ Hid (cnQ q = cnGo q V (41 - n) n) ∧ Below w1.heap.size w1 wr) (fun i _ => 41 - (intOf i).toNat)
    case atStart => exact ⟨1, by omega, by omega, rfl, HF, Below.refl _ _⟩
    case round =>
      obtain ⟨n, hn1, hn, rfl, HN, hbel⟩ := hrel
      by_cases hlt : n < 41
      · have kBr := kB1.call hbel
        have c0 := kBr.cell' (i := 0) rfl
        have hws := hbel.size
        go_wp2_with fail
        refine (identity_any V _ (by omega)).mono ?_; rintro e w2 ⟨v2, rfl, hI, hb2⟩
        obtain ⟨MA, mc, em⟩ := hI.form
        subst em
        have HI := Lib.hid hI.rd
        have hb12 := hbel.trans (hb2.mono hws)
        have hw2 := hb2.size
        clear hI hbel hb2 c0 kBr
        go_wp2_with fail
        refine (rows_any _ V V idF _ HI.out (by omega) (by omega)).mono ?_; rintro e w3 ⟨v3, rfl, hR, hb3⟩
        obtain ⟨RA, rc, er, _⟩ := hR.form2
        rw [rowsF_length] at er
        subst er
        have hb13 := hb12.trans (hb3.mono (by omega))
        have hw3 := hb3.size
        have HR : Hid (SlII w3 w3.heap.size (.slice RA (rowsF V V idF).length rc) (rowsF V V idF)) := by rw [rowsF_length]; exact hR.rd
        have HB13 := Lib.hid hb13
        clear hb12 hb3 hR hb13
        go_wp2
        go_loopw [4, 21] (fun a i wr => ∃ (k : Nat) (b : Bool), k ≤ V ∧ i = .int .i64 k ∧ a = .bool b ∧ Hid (b = cnAll q V n k) ∧ Below w3.heap.size w3 wr) (fun _ i _ => V - (intOf i).toNat)
        case atStart => exact ⟨0, true, Nat.zero_le _, rfl, rfl, by show _ = _; simp [cnAll], Below.refl _ _⟩
        case round =>
          obtain ⟨k, b, hk, rfl, rfl, HB, hbq⟩ := hrel
          have hqs := hbq.size
          have hbw := HB13.out.trans (hbq.mono (by omega))
          by_cases hkV : k < V
          · obtain ⟨bR, oR, rfl, hbR⟩ := SlII.addr HR.out (by rw [rowsF_length]; omega)
            obtain ⟨r, UA, uc, hr0, _, y1, hru, _, _⟩ := SlII.elt HR.out (k := k) (by rw [rowsF_length]; exact hkV)
            rw [rowsF_get _ hkV] at hr0
            injection hr0 with hr0
            subst hr0
            have hrl : (rowF V (idF k)).length = V := rowF_length _ _
            rw [hrl] at y1 hru
            have y2 := bcell hbq hbR y1
            have HU := Lib.hid (SlI.more hqs (SlI.below hbq hru))
            have kBr := kB1.call hbw
            have HQ2 := Lib.hid (QvR.next hbw HQ1.out)
            have c0 := kBr.cell' (i := 0) rfl
            have c1 := kBr.cell' (i := 1) rfl
            have c2 := kBr.cell' (i := 2) rfl
            clear y1 hru hrl
            go_wp2_with fail
            refine (implCoxeterPower_any _ q _ (unR V k) n _ HQ2.out HU.out ⟨by omega, by omega⟩).mono ?_; rintro e w4 ⟨xv, rfl, hX, hb4⟩
            obtain ⟨XA, xc, ex⟩ := hX.form
            subst ex
            have hbw4 := hbq.trans (hb4.mono hqs)
            have hw4 := hb4.size
            have HX := Lib.hid hX.rd
            have HU4 := Lib.hid (SlI.next hb4 HU.out)
            have HW4 := Lib.hid hbw4
            obtain ⟨XL, hXL⟩ : ∃ l, (coxP q (unR V k) n).1 = l := ⟨_, rfl⟩
            obtain ⟨ok, hok⟩ : ∃ l, (coxP q (unR V k) n).2 = l := ⟨_, rfl⟩
            rw [hXL] at HX ⊢
            rw [hok]
            have HSC := Lib.hid (show cnAll q V n (k + 1) = (b && (ok && decide (XL = unR V k))) by rw [cnAll_succ, cnOk, ← (HB.out : b = _), hXL, hok])
            clear hX hb4 hbw hbq hbw4 c0 c1 c2 y2 hXL hok kBr
            rcases b with _ | _
            · go_wp2
              go_roundw
              case rel => exact ⟨k + 1, false, by omega, by go_num, rfl, by show _ = _; rw [HSC.out]; rfl, HW4.out⟩
              case measure => simp [intOf]; omega
            · rcases ok with _ | _
              · go_wp2
                go_roundw
                case rel => exact ⟨k + 1, false, by omega, by go_num, rfl, by show _ = _; rw [HSC.out]; rfl, HW4.out⟩
                case measure => simp [intOf]; omega
              · go_wp2_with fail
                refine (slEqual_any _ _ XL (unR V k) _ HX.out HU4.out).mono ?_; rintro e w5 ⟨rfl, hb5⟩
                have HW5 := Lib.hid (HW4.out.trans (hb5.mono (by omega)))
                obtain ⟨E, hE⟩ : ∃ z, decide (XL = unR V k) = z := ⟨_, rfl⟩
                rw [hE]
                have HE := Lib.hid hE
                clear hE hb5
                go_wp2
                go_roundw
                case rel => exact ⟨k + 1, E, by omega, by go_num, rfl, by show _ = _; rw [HSC.out, HE.out]; rfl, HW5.out⟩
                case measure => simp [intOf]; omega
          · have hkV' : k = V := by omega
            obtain ⟨m, hm⟩ : ∃ m, 41 - n = m + 1 := ⟨40 - n, by omega⟩
            have hN := HN.out
            rw [hm] at hN
            simp only [cnGo] at hN
            have hb' := HB.out
            rw [hkV'] at hb'
            rw [← hb'] at hN
            have hm2 : m = 41 - (n + 1) := by omega
            rw [hm2] at hN
            have HW := Lib.hid hbw
            have HNN := Lib.hid hN
            have HG := Lib.hid (g1.trans (hbw.mono s1))
            clear hN hm hm2 hb' hkV' hbw hbq HB
            rcases b with _ | _
            · go_wp2
              go_roundw
              case rel => exact ⟨n + 1, by omega, by omega, by go_num, by show _ = _; simpa using HNN.out, HW.out⟩
              case measure => simp [intOf]; omega
            · go_wp2
              go_ret
              exact ⟨by rw [HNN.out]; rfl, HG.out⟩
      · have HNN := Lib.hid (show cnQ q = 0 by rw [(HN.out : cnQ q = _), show 41 - n = 0 by omega]; rfl)
        have HG := Lib.hid (g1.trans (hbel.mono s1))
        clear hbel
        go_wp2
        go_ret
        exact ⟨by rw [HNN.out]; rfl, HG.out⟩
  · have HF := Lib.hid (show cnQ q = 0 by rw [cnQ, hK, if_neg h1])
    have HK := Lib.hid hK
    have hne : (K != 1) = true := by rw [bne_iff_ne]; exact h1
    rw [hK] at hkr
    clear hK h1
    go_enter Try.func48, Try.ntmps48
    go_wp2_with fail
    rw [← hW]; clear hW
    refine (implKind_any _ q _ HQ.out).mono ?_; rintro e w1 ⟨rfl, hb1⟩
    rw [HK.out]
    have g1 := bthen g0 hb1
    clear hb1 c0 c1 c2 kB
    go_wp2
    go_ret
    exact ⟨by rw [HF.out]; rfl, g1⟩
end Go.Proofs.Ytjhllgldllbaaaa

/- make of rows of ints and of rows of rows, in any world. -/
namespace Go.Proofs.Ytjhllgldllbaaaa
set_option linter.unusedVariables false
set_option linter.unusedSimpArgs false
open Go.RowKit

theorem run_mkII (w : World) {n : Nat} (hn : n ≤ 1000000) : (Instr.makeSlice 65 (.int .i64 (n : Int)) (.int .i64 (n : Int))).run Try.prog w = .ok (.slice (some ⟨w.heap.size, 0, none⟩) n n) (w.alloc (.cells (mkCells (.slice none 0 0) n) 22)) := by
  obtain ⟨i0, hi, hz0, hz1, hz2⟩ := info_parts infoInts
  have hmk := run_mk (P := Try.prog) Try.underlying65 hi hz0 (n := n) (by rw [hz2]; omega) (by omega)
  rw [hz1, Nat.mul_one] at hmk
  exact hmk w
theorem run_mkI (w : World) {n : Nat} (hn : n ≤ 1000000) : (Instr.makeSlice 22 (.int .i64 (n : Int)) (.int .i64 (n : Int))).run Try.prog w = .ok (.slice (some ⟨w.heap.size, 0, none⟩) n n) (w.alloc (.cells (mkCells (.int .i64 0) n) 3)) := by
  obtain ⟨i0, hi, hz0, hz1, hz2⟩ := info_parts infoInt
  have hmk := run_mk (P := Try.prog) Try.underlying22 hi hz0 (n := n) (by rw [hz2]; omega) (by omega)
  rw [hz1, Nat.mul_one] at hmk
  exact hmk w
end Go.Proofs.Ytjhllgldllbaaaa

/- CoxeterNumber: the reference's. -/
namespace Go.Proofs.Ytjhllgldllbaaaa
set_option linter.unusedVariables false
set_option linter.unusedSimpArgs false
open Go.RowKit

set_option maxHeartbeats 6400000 in
set_option maxRecDepth 100000 in
theorem specCoxeterNumber_any (u : Value) (q : Qv) (w0 : World) (hu : QvR w0 w0.heap.size u q) :
    Calls Try.prog 47 #[u] w0 fun e w' => e = .returned (.int .i64 (cnQ q)) ∧ Below w0.heap.size w0 w' := by
  have hu' := hu
  obtain ⟨A, c, C, d, rfl, hf, hT, hr, lf, lt⟩ := hu.open_
  clear hu hf hT
  obtain ⟨W, hW⟩ : ∃ W, W = w0.alloc (.cells #[.int .i64 q.v, .slice A q.f.length c, .slice C q.t.length d] 26) := ⟨_, rfl⟩
  have g0 : Below w0.heap.size w0 W := by rw [hW]; exact below_alloc _ _
  have kB : Blk W w0.heap.size 26 #[.int .i64 q.v, .slice A q.f.length c, .slice C q.t.length d] := by rw [hW]; exact Blk.new _ _ _
  have HQ := Lib.hid (QvR.next g0 hu')
  clear hu'
  have c0 := kB.cell' (i := 0) rfl
  have c1 := kB.cell' (i := 1) rfl
  have c2 := kB.cell' (i := 2) rfl
  have hkr := kindQ_rng q
  obtain ⟨K, hK⟩ : ∃ k, kindQ q = k := ⟨_, rfl⟩
  by_cases h1 : K = 1
  · have hq : isQ q = true := by
      rcases h : isQ q with _ | _
      · simp [kindQ, h] at hK; omega
      · rfl
    have hv := (isQ_t.1 hq).1
    obtain ⟨V, hV⟩ := Int.eq_ofNat_of_zero_le (show 0 ≤ q.v by omega)
    have HF := Lib.hid (show cnQ q = cnGo q V (41 - 1) 1 by rw [cnQ, hK, if_pos h1, hV]; rfl)
    have HK := Lib.hid hK
    have hV5 : V ≤ 5 := by omega
    replace HQ := Lib.hid (show QvR W W.heap.size (.agg #[.int .i64 (V : Int), .slice A q.f.length c, .slice C q.t.length d]) q by rw [← hV]; exact HQ.out)
    rw [hV] at kB c0 hW ⊢
    clear hq hv hV hkr hK
    subst h1
    go_enter Try.func47, Try.ntmps47
    go_wp2_with fail
    rw [← hW]; clear hW
    refine (specKind_any _ q _ HQ.out).mono ?_; rintro e w1 ⟨rfl, hb1⟩
    rw [HK.out]
    have g1 := bthen g0 hb1
    have kB1 := kB.call hb1
    have HQ1 := Lib.hid (QvR.next hb1 HQ.out)
    have s1 := g1.size
    clear hb1 c0 c1 c2 kB g0 HQ
    go_wp2
    go_loopw [3] (fun i wr => ∃ n : Nat, 1 ≤ n ∧ n ≤ 41 ∧ i = .int .i64 n ∧ Hid (cnQ q = cnGo q V (41 - n) n) ∧ Below w1.heap.size w1 wr) (fun i _ => 41 - (intOf i).toNat)
    case atStart => exact ⟨1, by omega, by omega, rfl, HF, Below.refl _ _⟩
    case round =>
      obtain ⟨n, hn1, hn, rfl, HN, hbel⟩ := hrel
      by_cases hlt : n < 41
      · have kBr := kB1.call hbel
        have c0 := kBr.cell' (i := 0) rfl
        have hws := hbel.size
        have hdn : decide ((n : Int) ≤ 40) = true := decide_eq_true (by omega)
        go_wp2
        clear c0 kBr hdn
        obtain ⟨w3, hw3⟩ : ∃ z, z = wr := ⟨_, rfl⟩
        subst hw3
        have HB13 := Lib.hid hbel
        clear hbel
        go_loopw [4, 5] (fun a i wr => ∃ (k : Nat) (b : Bool), k ≤ V ∧ i = .int .i64 k ∧ a = .bool b ∧ Hid (b = cnAll q V n k) ∧ Below w3.heap.size w3 wr) (fun _ i _ => V - (intOf i).toNat)
        case atStart => exact ⟨0, true, Nat.zero_le _, rfl, rfl, by show _ = _; simp [cnAll], Below.refl _ _⟩
        case round =>
          obtain ⟨k, b, hk, rfl, rfl, HB, hbq⟩ := hrel
          have hqs := hbq.size
          have hbw := HB13.out.trans (hbq.mono (by omega))
          have kBr := kB1.call hbw
          have c0 := kBr.cell' (i := 0) rfl
          by_cases hkV : k < V
          · obtain ⟨X1, hX1⟩ : ∃ z, z = wr.alloc (.cells (mkCells (.int .i64 0) V) 3) := ⟨_, rfl⟩
            have hmk := run_mkI wr (n := V) (by omega)
            rw [← hX1] at hmk
            have bX1 : Below wr.heap.size wr X1 := by rw [hX1]; exact below_alloc _ _
            have rX1 : IntsO X1 wr.heap.size X1.heap.size (.slice (some ⟨wr.heap.size, 0, none⟩) V V) (List.replicate V 0) := by
              rw [hX1]
              exact IntsO.of_own (OwnI.made0 (Nat.le_refl _) (by omega))
            have y3 := (rX1.1.cellG (j := k) (by simpa using hkV)).1
            have y4 := rX1.1.frozenG k
            have pt := rX1.put (j := k) (x := 1) ⟨by omega, by omega⟩
            have hun : (List.replicate V (0 : Int)).set k 1 = unR V k := by
              rw [show List.replicate V (0 : Int) = rowF V (fun _ => 0) from by rw [rowF, List.map_const', List.length_range], rowF_set]
              refine rowF_congr fun b _ => ?_
              simp only [idF]
              by_cases e : b = k
              · rw [if_pos e, if_pos e.symm]
              · rw [if_neg e, if_neg fun h => e h.symm]
            rw [hun] at pt
            obtain ⟨Z, hZ⟩ : ∃ z, z = X1.setCell ⟨wr.heap.size, k, none⟩ (.int .i64 1) := ⟨_, rfl⟩
            rw [← hZ] at pt
            have hc : Chg wr.heap.size (wr.heap.size + 1) X1 Z := by rw [hZ]; exact chg_set (Nat.le_refl _) (Nat.lt_succ_self _)
            have bZ : Below wr.heap.size wr Z := bX1.trans (hc.below (Nat.le_refl _) bX1.size)
            have hbw' := hbw.trans (bZ.mono (by omega))
            have hbq' := hbq.trans (bZ.mono (by omega))
            have hZs := bZ.size
            have HU := Lib.hid (show SlI Z Z.heap.size (.slice (some ⟨wr.heap.size, 0, none⟩) V V) (unR V k) from pt.rd)
            have kBZ := kB1.call hbw'
            have HQ2 := Lib.hid (QvR.next hbw' HQ1.out)
            have d0 := kBZ.cell' (i := 0) rfl
            have d1 := kBZ.cell' (i := 1) rfl
            have d2 := kBZ.cell' (i := 2) rfl
            rw [hZ] at d0 d1 d2
            have p0 := (kBr.call bX1).cell' (i := 0) rfl
            clear pt hc bZ rX1 bX1 hX1 hun kBr hbq
            go_wp2_with fail
            rw [← hZ]
            clear hZ d0 d1 d2 p0 y3 y4 c0 hmk
            refine (specCoxeterPower_any _ q _ (unR V k) n _ HQ2.out HU.out ⟨by omega, by omega⟩).mono ?_; rintro e w4 ⟨xv, rfl, hX, hb4⟩
            obtain ⟨XA, xc, ex⟩ := hX.form
            subst ex
            have hbw4 := hbq'.trans (hb4.mono (by omega))
            have hw4 := hb4.size
            have HX := Lib.hid hX.rd
            have HU4 := Lib.hid (SlI.next hb4 HU.out)
            have HW4 := Lib.hid hbw4
            obtain ⟨XL, hXL⟩ : ∃ l, (coxP q (unR V k) n).1 = l := ⟨_, rfl⟩
            obtain ⟨ok, hok⟩ : ∃ l, (coxP q (unR V k) n).2 = l := ⟨_, rfl⟩
            rw [hXL] at HX ⊢
            rw [hok]
            have HSC := Lib.hid (show cnAll q V n (k + 1) = (b && (ok && decide (unR V k = XL))) by rw [cnAll_succ, cnOk, ← (HB.out : b = _), hXL, hok]; simp only [eq_comm (a := XL)])
            clear hX hb4 hbw hbw' hbq' hbw4 hXL hok
            rcases b with _ | _
            · go_wp2
              go_roundw
              case rel => exact ⟨k + 1, false, by omega, by go_num, rfl, by show _ = _; rw [HSC.out]; rfl, HW4.out⟩
              case measure => simp [intOf]; omega
            · rcases ok with _ | _
              · go_wp2
                go_roundw
                case rel => exact ⟨k + 1, false, by omega, by go_num, rfl, by show _ = _; rw [HSC.out]; rfl, HW4.out⟩
                case measure => simp [intOf]; omega
              · go_wp2_with fail
                refine (l6Same_any _ _ (unR V k) XL _ HU4.out HX.out).mono ?_; rintro e w5 ⟨rfl, hb5⟩
                have HW5 := Lib.hid (HW4.out.trans (hb5.mono (by omega)))
                obtain ⟨E, hE⟩ : ∃ z, decide (unR V k = XL) = z := ⟨_, rfl⟩
                rw [hE]
                have HE := Lib.hid hE
                clear hE hb5
                go_wp2
                go_roundw
                case rel => exact ⟨k + 1, E, by omega, by go_num, rfl, by show _ = _; rw [HSC.out, HE.out]; rfl, HW5.out⟩
                case measure => simp [intOf]; omega
          · have hkV' : k = V := by omega
            obtain ⟨m, hm⟩ : ∃ m, 41 - n = m + 1 := ⟨40 - n, by omega⟩
            have hN := HN.out
            rw [hm] at hN
            simp only [cnGo] at hN
            have hb' := HB.out
            rw [hkV'] at hb'
            rw [← hb'] at hN
            have hm2 : m = 41 - (n + 1) := by omega
            rw [hm2] at hN
            have HW := Lib.hid hbw
            have HNN := Lib.hid hN
            have HG := Lib.hid (g1.trans (hbw.mono s1))
            clear hN hm hm2 hb' hkV' hbw hbq HB kBr
            rcases b with _ | _
            · go_wp2
              go_roundw
              case rel => exact ⟨n + 1, by omega, by omega, by go_num, by show _ = _; simpa using HNN.out, HW.out⟩
              case measure => simp [intOf]; omega
            · go_wp2
              go_ret
              exact ⟨by rw [HNN.out]; rfl, HG.out⟩
      · have HNN := Lib.hid (show cnQ q = 0 by rw [(HN.out : cnQ q = _), show 41 - n = 0 by omega]; rfl)
        have HG := Lib.hid (g1.trans (hbel.mono s1))
        clear hbel
        go_wp2
        go_ret
        exact ⟨by rw [HNN.out]; rfl, HG.out⟩
  · have HF := Lib.hid (show cnQ q = 0 by rw [cnQ, hK, if_neg h1])
    have HK := Lib.hid hK
    have hne : (K != 1) = true := by rw [bne_iff_ne]; exact h1
    rw [hK] at hkr
    clear hK h1
    go_enter Try.func47, Try.ntmps47
    go_wp2_with fail
    rw [← hW]; clear hW
    refine (specKind_any _ q _ HQ.out).mono ?_; rintro e w1 ⟨rfl, hb1⟩
    rw [HK.out]
    have g1 := bthen g0 hb1
    clear hb1 c0 c1 c2 kB
    go_wp2
    go_ret
    exact ⟨by rw [HF.out]; rfl, g1⟩
end Go.Proofs.Ytjhllgldllbaaaa

/- The walk of FnExactCoxeterNumber, printed by program (wip/law.py) out of the contracts of what it calls. -/
namespace Go.Proofs.Ytjhllgldllbaaaa
set_option linter.unusedVariables false
set_option linter.unusedSimpArgs false
open Go.RowKit

set_option maxHeartbeats 1600000 in
set_option maxRecDepth 100000 in
theorem lawCoxeterNumber_any (uq : Value) (q : Qv) (w : World) (hq : QvR w w.heap.size uq q) :
    Calls Try.prog 12 #[uq] w fun e w' => e = .returned (.bool true) ∧ Below w.heap.size w w' := by
  obtain ⟨Auq, cuq, Cuq, duq, eq⟩ := QvR.form hq
  subst eq
  have lq := QvR.lens hq
  have g0 := Below.refl w.heap.size w
  by_cases z0 : (1048576 : Int) < (q.size : Nat)
  · have y0 : szLeft (1048576 : Int) (q.size) = -1 := by rw [szLeft, if_pos z0]
    go_enter Try.func12, Try.ntmps12
    go_wp2_with fail
    obtain ⟨W2, e3⟩ : ∃ W, W = w.alloc (.cells #[.int .i64 (q).v, .slice Auq (q).f.length cuq, .slice Cuq (q).t.length duq] 24) := ⟨_, rfl⟩
    rw [← e3]
    have b4 : Below w.heap.size w W2 := by rw [e3]; exact below_alloc _ _
    have k5 : Blk W2 w.heap.size 24 #[.int .i64 (q).v, .slice Auq (q).f.length cuq, .slice Cuq (q).t.length duq] := by rw [e3]; exact Blk.new _ _ _
    have s6 : w.heap.size < W2.heap.size := by rw [e3]; simp
    clear e3
    have h7 := QvR.below (b4.mono (by omega)) hq
    have s8 : w.heap.size ≤ W2.heap.size := b4.size
    have g9 := bthen g0 b4
    clear hq g0 b4
    have c10 := k5.cell' (i := 0) rfl
    have c11 := k5.cell' (i := 1) rfl
    have c12 := k5.cell' (i := 2) rfl
    refine (szQuiver_any _ _ (1048576 : Int) _ (QvR.more (by omega) h7) (by omega) (by omega)).mono ?_; rintro e W13 ⟨rfl, b1⟩
    have h14 := QvR.below (b1.mono (by omega)) h7
    have k15 := k5.call b1
    have s16 : W2.heap.size ≤ W13.heap.size := b1.size
    have g17 := bthen g9 b1
    clear h7 k5 g9 b1 c10 c11 c12
    have c18 := k15.cell' (i := 0) rfl
    have c19 := k15.cell' (i := 1) rfl
    have c20 := k15.cell' (i := 2) rfl
    go_wp2
    go_ret
    exact ⟨rfl, g17⟩
  have y0 : szLeft (1048576 : Int) (q.size) = (1048576 : Int) - (q.size : Nat) := by rw [szLeft, if_neg z0]
  have x0 : ¬ ((1048576 : Int) - ((q.size : Nat) : Int) < 0) := by omega
  go_enter Try.func12, Try.ntmps12
  go_wp2_with fail
  obtain ⟨W22, e23⟩ : ∃ W, W = w.alloc (.cells #[.int .i64 (q).v, .slice Auq (q).f.length cuq, .slice Cuq (q).t.length duq] 24) := ⟨_, rfl⟩
  rw [← e23]
  have b24 : Below w.heap.size w W22 := by rw [e23]; exact below_alloc _ _
  have k25 : Blk W22 w.heap.size 24 #[.int .i64 (q).v, .slice Auq (q).f.length cuq, .slice Cuq (q).t.length duq] := by rw [e23]; exact Blk.new _ _ _
  have s26 : w.heap.size < W22.heap.size := by rw [e23]; simp
  clear e23
  have h27 := QvR.below (b24.mono (by omega)) hq
  have s28 : w.heap.size ≤ W22.heap.size := b24.size
  have g29 := bthen g0 b24
  clear hq g0 b24
  have c30 := k25.cell' (i := 0) rfl
  have c31 := k25.cell' (i := 1) rfl
  have c32 := k25.cell' (i := 2) rfl
  refine (szQuiver_any _ _ (1048576 : Int) _ (QvR.more (by omega) h27) (by omega) (by omega)).mono ?_; rintro e W33 ⟨rfl, b21⟩
  have h34 := QvR.below (b21.mono (by omega)) h27
  have k35 := k25.call b21
  have s36 : W22.heap.size ≤ W33.heap.size := b21.size
  have g37 := bthen g29 b21
  clear h27 k25 g29 b21 c30 c31 c32
  have c38 := k35.cell' (i := 0) rfl
  have c39 := k35.cell' (i := 1) rfl
  have c40 := k35.cell' (i := 2) rfl
  go_wp2_with fail
  refine (quiv_to _ _ _ (QvR.more (by omega) h34) (by omega)).mono ?_; rintro e W44 ⟨v41, rfl, h42, b43⟩
  have h45 := QvR.below (b43.mono (by omega)) h34
  have k46 := k35.call b43
  have s47 : W33.heap.size ≤ W44.heap.size := b43.size
  have g48 := bthen g37 b43
  clear h34 k35 g37 b43 c38 c39 c40
  have c49 := k46.cell' (i := 0) rfl
  have c50 := k46.cell' (i := 1) rfl
  have c51 := k46.cell' (i := 2) rfl
  go_wp2_with fail
  refine (specCoxeterNumber_any _ _ _ h42.rd).mono ?_; rintro e W53 ⟨rfl, b52⟩
  have h54 := QvR.below (b52.mono (by omega)) h45
  have h55 := h42.below b52
  have k56 := k46.call b52
  have s57 : W44.heap.size ≤ W53.heap.size := b52.size
  have g58 := bthen g48 b52
  clear h45 h42 k46 g48 b52 c49 c50 c51
  have c59 := k56.cell' (i := 0) rfl
  have c60 := k56.cell' (i := 1) rfl
  have c61 := k56.cell' (i := 2) rfl
  clear h55
  go_wp2_with fail
  refine (quiv_to _ _ _ (QvR.more (by omega) h54) (by omega)).mono ?_; rintro e W65 ⟨v62, rfl, h63, b64⟩
  have h66 := QvR.below (b64.mono (by omega)) h54
  have k67 := k56.call b64
  have s68 : W53.heap.size ≤ W65.heap.size := b64.size
  have g69 := bthen g58 b64
  clear h54 k56 g58 b64 c59 c60 c61
  have c70 := k67.cell' (i := 0) rfl
  have c71 := k67.cell' (i := 1) rfl
  have c72 := k67.cell' (i := 2) rfl
  obtain ⟨Ax73, cx73, Cx73, dx73, e74⟩ := h63.form
  subst e74
  have c76 := fun o => (k67.alloc o).cell' (i := 0) rfl
  have c77 := fun o => (k67.alloc o).cell' (i := 1) rfl
  have c78 := fun o => (k67.alloc o).cell' (i := 2) rfl
  go_wp2_with fail
  obtain ⟨W79, e80⟩ : ∃ W, W = W65.alloc (.cells #[.int .i64 (q).v, .slice Ax73 (q).f.length cx73, .slice Cx73 (q).t.length dx73] 26) := ⟨_, rfl⟩
  rw [← e80]
  have b81 : Below W65.heap.size W65 W79 := by rw [e80]; exact below_alloc _ _
  have k82 : Blk W79 W65.heap.size 26 #[.int .i64 (q).v, .slice Ax73 (q).f.length cx73, .slice Cx73 (q).t.length dx73] := by rw [e80]; exact Blk.new _ _ _
  have s83 : W65.heap.size < W79.heap.size := by rw [e80]; simp
  clear e80
  have h84 := QvR.below (b81.mono (by omega)) h66
  have h85 := h63.below b81
  have k86 := k67.call b81
  have s87 : W65.heap.size ≤ W79.heap.size := b81.size
  have g88 := bthen g69 b81
  clear h66 h63 k67 g69 b81 c70 c71 c72 c76 c77 c78
  have c89 := k86.cell' (i := 0) rfl
  have c90 := k86.cell' (i := 1) rfl
  have c91 := k86.cell' (i := 2) rfl
  have c92 := k82.cell' (i := 0) rfl
  have c93 := k82.cell' (i := 1) rfl
  have c94 := k82.cell' (i := 2) rfl
  refine (implCoxeterNumber_any _ _ _ h85.rd).mono ?_; rintro e W95 ⟨rfl, b75⟩
  have h96 := QvR.below (b75.mono (by omega)) h84
  have h97 := h85.below b75
  have k98 := k86.call b75
  have k99 := k82.call b75
  have s100 : W79.heap.size ≤ W95.heap.size := b75.size
  have g101 := bthen g88 b75
  clear h84 h85 k86 k82 g88 b75 c89 c90 c91 c92 c93 c94
  have c102 := k98.cell' (i := 0) rfl
  have c103 := k98.cell' (i := 1) rfl
  have c104 := k98.cell' (i := 2) rfl
  have c105 := k99.cell' (i := 0) rfl
  have c106 := k99.cell' (i := 1) rfl
  have c107 := k99.cell' (i := 2) rfl
  go_wp2_with fail
  have b108 := drew_below W95
  have h109 := QvR.below (b108.mono (by omega)) h96
  have h110 := h97.below b108
  have k111 := k98.call b108
  have k112 := k99.call b108
  have s113 : W95.heap.size ≤ W95.drew.heap.size := b108.size
  have g114 := bthen g101 b108
  clear h96 h97 k98 k99 g101 b108 c102 c103 c104 c105 c106 c107
  have c115 := k111.cell' (i := 0) rfl
  have c116 := k111.cell' (i := 1) rfl
  have c117 := k111.cell' (i := 2) rfl
  have c118 := k112.cell' (i := 0) rfl
  have c119 := k112.cell' (i := 1) rfl
  have c120 := k112.cell' (i := 2) rfl
  go_region_held3 (fun W' => W'.cell? ⟨w.heap.size, 0, none⟩ = some (.int .i64 (q).v) ∧ W'.cell? ⟨w.heap.size, 1, none⟩ = some (.slice Auq (q).f.length cuq) ∧ W'.cell? ⟨w.heap.size, 2, none⟩ = some (.slice Cuq (q).t.length duq) ∧ W'.cell? ⟨W65.heap.size, 0, none⟩ = some (.int .i64 (q).v) ∧ W'.cell? ⟨W65.heap.size, 1, none⟩ = some (.slice Ax73 (q).f.length cx73) ∧ W'.cell? ⟨W65.heap.size, 2, none⟩ = some (.slice Cx73 (q).t.length dx73))
    (first | exact ⟨c115, c116, c117, c118, c119, c120⟩ | exact ⟨c131, c132, c133, c134, c135, c136⟩ | exact ⟨c146, c147, c148, c149, c150, c151⟩)
    (first | (go_at_call 17; refine (quiv_to _ _ _ (QvR.more (by omega) h109) (by omega)).mono ?_; rintro e W124 ⟨v121, rfl, h122, b123⟩; have h125 := QvR.below (b123.mono (by omega)) h109; have h126 := h110.below b123; have k127 := k111.call b123; have k128 := k112.call b123; have s129 : W95.drew.heap.size ≤ W124.heap.size := b123.size; have g130 := bthen g114 b123; clear h109 h110 k111 k112 g114 b123 c115 c116 c117 c118 c119 c120; have c131 := k127.cell' (i := 0) rfl; have c132 := k127.cell' (i := 1) rfl; have c133 := k127.cell' (i := 2) rfl; have c134 := k128.cell' (i := 0) rfl; have c135 := k128.cell' (i := 1) rfl; have c136 := k128.cell' (i := 2) rfl) | (go_at_call 20; refine (eqQuiver_any _ _ _ _ _ h126.rd h122.rd).mono ?_; rintro e W138 ⟨rfl, b137⟩; have h139 := QvR.below (b137.mono (by omega)) h125; have h140 := h126.below b137; have h141 := h122.below b137; have k142 := k127.call b137; have k143 := k128.call b137; have s144 : W124.heap.size ≤ W138.heap.size := b137.size; have g145 := bthen g130 b137; clear h125 h126 h122 k127 k128 g130 b137 c131 c132 c133 c134 c135 c136; have c146 := k142.cell' (i := 0) rfl; have c147 := k142.cell' (i := 1) rfl; have c148 := k142.cell' (i := 2) rfl; have c149 := k143.cell' (i := 0) rfl; have c150 := k143.cell' (i := 1) rfl; have c151 := k143.cell' (i := 2) rfl))
  clear h141
  go_wp2
  go_ret
  exact ⟨rfl, g145⟩
end Go.Proofs.Ytjhllgldllbaaaa

/- From a law's contract to its row, for every law of this seat: the arguments are opened, what is handed back is shut. -/
namespace Go.Proofs.Ytjhllgldllbaaaa
set_option linter.unusedVariables false
set_option linter.unusedSimpArgs false
open Go.RowKit Go.ChangeShapes Go.WideShapes Go.ChangeAt Go.Deep

theorem ownLaw : ownKnob Try.prog.godebug = none := by kernel_rfl
theorem laidOutLaw : laidOutB Try.prog = true := by kernel_rfl

section
variable {H : Type} {enc : TypeId × Value → H} {w : World}

/-- What is read of weights: each slice lies within the form's reach. -/
def Wt (t : TypeId) (d : DataW H) : Prop := ∀ n ∈ d.weights Try.prog t, n ≤ reachBytes
theorem Wt.slice {t e : TypeId} {elems spare : List (DataW H)} (h : Wt t (.slice elems spare)) (ht : Try.prog.underlying t = some (.slice e)) :
    (elems.length + spare.length) * Try.prog.bytesOf e ≤ reachBytes ∧ ∀ d ∈ elems, Wt e d := by
  have hall : ∀ (l : List (DataW H)) (d : DataW H), d ∈ l → ∀ n ∈ d.weights Try.prog e, n ∈ DataW.weightsAll Try.prog e l := by
    intro l
    induction l with
    | nil => intro d hd; simp at hd
    | cons a l ih =>
      intro d hd n hn
      simp only [DataW.weightsAll, List.mem_append]
      rcases List.mem_cons.1 hd with rfl | hd
      · exact .inl hn
      · exact .inr (ih d hd n hn)
  refine ⟨h _ (by simp [DataW.weights, ht]), fun d hd n hn => h n ?_⟩
  simp only [DataW.weights, ht, List.mem_cons, List.mem_append]
  exact .inr (.inl (hall _ _ hd _ hn))
theorem weightsEach_get {P : Program} : ∀ {ts : List TypeId} {ds : List (DataW H)} {j : Nat} {t : TypeId} {d : DataW H}, ts[j]? = some t → ds[j]? = some d → ∀ n ∈ d.weights P t, n ∈ DataW.weightsEach P ts ds := DataW.weights_mem_each
theorem Wt.struct {t : TypeId} {fs : Array Field} {ds : List (DataW H)} (h : Wt t (.agg ds)) (ht : Try.prog.underlying t = some (.struct fs)) {j : Nat} {f : Field} {d : DataW H} (hf : fs[j]? = some f) (hd : ds[j]? = some d) : Wt f.type d := by
  intro n hn
  refine h n ?_
  simp only [DataW.weights, ht]
  exact weightsEach_get (j := j) (t := f.type) (by simp [hf]) hd n hn

/-- The reading of an argument. -/
abbrev TrodA (enc : TypeId × Value → H) (w : World) (fuel : Nat) (t : TypeId) (cs : List Value) (x : DataW H × List MemPlace) : Prop := DataW.trod enc Try.prog w 0 (fun _ => true) true fuel t cs = some x

theorem i64_of_wf {n : Int} (h : (Lit.int .i64 n).wf = true) : I64 n := by
  simp only [Lit.wf, Bool.and_eq_true, decide_eq_true_eq] at h
  have e1 : IntKind.min .i64 = -9223372036854775808 := by decide
  have e2 : IntKind.max .i64 = 9223372036854775807 := by decide
  rw [e1, e2] at h
  exact h
theorem openI {t fuel : Nat} {cs : List Value} {x : DataW H × List MemPlace} (ht : Try.prog.underlying t = some (.int .i64)) (h : TrodA enc w fuel t cs x) : ∃ n, cs = [.int .i64 n] ∧ I64 n := by
  obtain ⟨n, h1, _, h3⟩ := DataW.trod_int ht h
  exact ⟨n, h1, i64_of_wf h3⟩

/-- A slice, whatever its elements. -/
theorem openSl {α : Type} [Inhabited α] {R : World → Nat → Nat → Nat → α → Prop} {t e fuel sz : Nat} {cs : List Value} {x : DataW H × List MemPlace} (ht : Try.prog.underlying t = some (.slice e)) (hsz : Try.prog.cellsOf e = sz) (hpos : 0 < sz)
    (hby : 8 ≤ Try.prog.bytesOf e)
    (hel : ∀ (fuel b o : Nat) (cs : List Value) (y : DataW H × List MemPlace), (∀ j, j < sz → w.cell? ⟨b, o + j, none⟩ = cs[j]?) → cs.length = sz → TrodA enc w fuel e cs y → Wt e y.1 → ∃ a, R w w.heap.size b o a)
    (h : TrodA enc w fuel t cs x) (hw : Wt t x.1) : ∃ v xs, cs = [v] ∧ SlG sz R w w.heap.size v (xs : List α) := by
  rcases open_slice ht h with ⟨rfl, rfl⟩ | ⟨a, len, cap, m, n, D, Pl, rfl, _, hl, hm, hmm, hx, hi⟩
  · exact ⟨_, [], rfl, SlG.nil⟩
  simp only [if_true] at hmm
  subst hmm
  rw [hx] at hw
  obtain ⟨h1, h2⟩ := Wt.slice hw ht
  rw [hsz] at hi
  have hlen : len ≤ 17592186044416 := by
    simp only [List.length_map, List.length_range, reachBytes] at h1
    have h3 : (len + (m - len)) * 8 ≤ (len + (m - len)) * Try.prog.bytesOf e := Nat.mul_le_mul_left _ hby
    omega
  rcases Nat.eq_zero_or_pos len with h0 | h0
  · subst h0
    exact ⟨_, [], rfl, some a, m, rfl, by simp, by simp only [maxLen] at hm; omega, by simp, fun h => absurd h (by simp)⟩
  · have hspot : a.spot = none := by
      obtain ⟨cs', hc, _⟩ := hi 0 (by omega)
      obtain ⟨_, hlc, hat⟩ := World.cells?_some hc
      have h4 := hat 0 hpos
      rw [List.getElem?_eq_getElem (by omega)] at h4
      have e : (a.add (0 * sz)).add 0 = a := by simp [Addr.add]
      rw [e] at h4
      unfold World.cell? at h4
      split at h4
      · by_cases hs : a.spot.isSome
        · rw [if_pos hs] at h4; cases h4
        · simpa using hs
      · cases h4
    obtain ⟨b, o, sp⟩ := a
    simp only at hspot
    subst hspot
    have hadd : ∀ i, (⟨b, o, none⟩ : Addr).add i = ⟨b, o + i, none⟩ := by
      intro i; unfold Addr.add; split <;> simp_all
    have hR : ∀ i, i < len → ∃ y : α, R w w.heap.size b (o + i * sz) y := by
      intro i hil
      obtain ⟨cs', hc, htr⟩ := hi i (by omega)
      obtain ⟨_, hlc, hat⟩ := World.cells?_some hc
      refine hel n b (o + i * sz) cs' _ (fun j hj => ?_) hlc htr (h2 _ (by simp only [List.mem_map, List.mem_range]; exact ⟨i, hil, rfl⟩))
      have := hat j hj
      rwa [hadd, show (⟨b, o + i * sz, none⟩ : Addr).add j = ⟨b, o + i * sz + j, none⟩ from by unfold Addr.add; split <;> simp_all] at this
    obtain ⟨f, hf⟩ := choose_lt hR
    have hb : b < w.heap.size := by
      obtain ⟨cs', hc, _⟩ := hi 0 (by omega)
      obtain ⟨_, hlc, hat⟩ := World.cells?_some hc
      have h4 := hat 0 hpos
      rw [List.getElem?_eq_getElem (by omega)] at h4
      have := World.block_lt_of_cell? _ _ h4
      simpa [hadd, Addr.add] using this
    refine ⟨_, (List.range len).map f, rfl, some ⟨b, o, none⟩, m, by simp, by simpa using hl, by simp only [maxLen] at hm; omega, by simpa using hlen, fun _ => ⟨b, o, rfl, hb, fun j y hj => ?_⟩⟩
    rw [List.getElem?_map, Option.map_eq_some_iff] at hj
    obtain ⟨i, hi', rfl⟩ := hj
    have hjl := lt_of_some hi'
    simp only [List.length_range] at hjl
    rw [List.getElem?_range hjl] at hi'
    injection hi' with hi'
    subst hi'
    exact hf j hjl
end

/-- The arguments read behind the call as before it. -/
theorem trodAll_kept {H : Type} {enc : TypeId × Value → H} {W W' : World} {sp : Nat → Bool} (hb : Below W.heap.size W W') : ∀ {ts : List TypeId} {vs : List Value} {ds : List (DataW H)} {ps : List MemPlace},
    (∀ t ∈ ts, Try.prog.readableRec t = true ∧ t < Try.prog.types.size) → DataW.TrodAll enc Try.prog W 0 (fun _ => true) true ts vs ds ps → (∀ x ∈ ps, x.block < W.heap.size) → (∀ x ∈ ps, sp x.block = true) → DataW.TrodAll enc Try.prog W' 0 sp true ts vs ds ps
  | [], _, _, _, _, h, _, _ => by
    obtain ⟨rfl, rfl, rfl⟩ := trodAll_nil h
    exact trodAll_mk0
  | t :: ts, vs, ds, ps, hr, h, hlt, hsp => by
    obtain ⟨v, vs', d, ds', p, q, rfl, rfl, rfl, h0, h1⟩ := trodAll_cons h
    have hr0 := hr t (by simp)
    refine trodAll_cons_mk ?_ ?_
    · exact WideElems.Trod_stays laidOutLaw hr0.1 hr0.2 h0 (fun x hx => hb.same (hlt x (by simp [hx]))) (fun x hx => hsp x (by simp [hx]))
    · exact trodAll_kept hb (fun t ht => hr t (by simp [ht])) h1 (fun x hx => hlt x (by simp [hx])) (fun x hx => hsp x (by simp [hx]))

set_option maxRecDepth 100000 in
/-- The row's step for a law: true comes back, and nothing that was there has turned. -/
theorem lift_law {H : Type} {enc : TypeId × Value → H} {os : Os} {f : FuncId} {fn : Func} {s : ChangeSpec} (started : os.Started) (noInit : Try.checked.prog.inits.idxOf? f = none) (hfn : Try.checked.prog.funcs[f]? = some fn)
    (witness : ∃ (w : World) (tape : Tape) (i : Input), w.os = os ∧ (w.forCall tape i).Shaped Try.checked.prog ∧ i.vars = [] ∧ Input.okWide Try.checked.prog (w.forCall tape i) .any w.heap.size f i ∧
      s.pre6 enc Try.checked.prog fn [] false (w.forCall tape i).memory i.args ∧ ({} : Assume).holds Try.checked.prog (lone (Frame.enter Try.checked.prog f i.args .normal) [] (w.forCall tape i)))
    (hvars : s.vars = []) (hres : fn.resultTypes = #[4])
    (hread : ∀ t ∈ fn.params.toList, Try.prog.readableRec t = true ∧ t < Try.prog.types.size)
    (hspec : ∀ ds : List (DataW H), ds.length = fn.params.size → s.fn H (ds ++ []) = { results := [.lit (.bool true)], args := ds })
    (hcalls : ∀ (W : World) (args : Array Value) (ds : List (DataW H)) (ps : List MemPlace) (base : Nat), (∀ (j : Nat) t v, fn.params[j]? = some t → args[j]? = some v → Value.okWide Try.prog W .any base t v) → DataW.TrodAll enc Try.prog W 0 (fun _ => true) true fn.params.toList args.toList ds ps →
      (∀ (j : Nat) t d, fn.params.toList[j]? = some t → ds[j]? = some d → Wt t d) → Calls Try.prog f args W fun e W' => e = .returned (.bool true) ∧ Below W.heap.size W W') :
    ReturnsInHanded {} Try.checked os f .any (s.pre6 enc Try.prog fn [] false) (s.post enc Try.prog fn false true false false) := by
  refine returnsInHanded_of_change_sized (C := Try.checked) ownLaw started noInit hfn witness ?_
  intro W base args ds gs before hval hW _ hsz _
  have hW' := hW
  obtain ⟨p, q, hA, hV, rfl, hfz, hnd⟩ := hW
  rw [hvars] at hV
  obtain ⟨rfl, rfl⟩ := trodVars_none hV
  have hA' : DataW.TrodAll enc Try.prog W 0 (fun _ => true) true fn.params.toList args.toList ds p := hA
  have hlen : ds.length = fn.params.size := by
    have h : ∀ {ts : List TypeId} {vs : List Value} {ds : List (DataW H)} {ps : List MemPlace}, DataW.TrodAll enc Try.prog W 0 (fun _ => true) true ts vs ds ps → ds.length = ts.length := by
      intro ts
      induction ts with
      | nil => intro vs ds ps h; obtain ⟨_, rfl, _⟩ := trodAll_nil h; rfl
      | cons t ts ih => intro vs ds ps h; obtain ⟨v, vs', d, ds', p, q, _, rfl, _, _, h1⟩ := trodAll_cons h; simp [ih h1]
    simpa using h hA'
  have hwt : ∀ (j : Nat) t d, fn.params.toList[j]? = some t → ds[j]? = some d → Wt t d := by
    intro j t d hj hd n hn
    have h := List.all_eq_true.1 hsz n (weightsEach_get (j := j) (t := t) (d := d) (by rw [List.getElem?_append_left (lt_of_some hj)]; exact hj) (by rw [List.getElem?_append_left (lt_of_some hd)]; exact hd) n hn)
    exact (decide_eq_true_iff (p := n ≤ reachBytes)).1 h
  refine (hcalls W args ds p base hval hA' hwt).mono fun e W' ⟨he, hb⟩ => ⟨_, he, ?_⟩
  have hlt : ∀ x ∈ p, x.block < W.heap.size := fun x hx => hW'.lt x (by simp [hx])
  have hsp := hspec ds hlen
  refine ⟨ds, [], _, [], p, [], hW', ?_, ?_, ?_, World.keptBut_mono (fun x hx => ⟨hx, ?_⟩) (hb.frame (· ∈ p ++ [])), fun h => by cases h⟩
  · rw [hres, hsp]
    exact trodAll_mk1 (shut_bool Try.underlying4 _)
  · rw [hsp]
    exact trodAll_kept hb hread hA' hlt (fun x hx => by simpa using hlt x hx)
  · rw [hvars, hsp]; rfl
  · simpa using hx

/-- A field of a struct. -/
theorem structAt {H : Type} {enc : TypeId × Value → H} {w : World} {t T off fuel : Nat} {fs : Array Field} {cs : List Value} {x : DataW H × List MemPlace} (ht : Try.prog.underlying t = some (.struct fs)) (h : TrodA enc w fuel t cs x) (hw : Wt t x.1) (j : Nat)
    (hj : (fs[j]?).map (fun f => (f.type, f.offset)) = some (T, off)) : ∃ n y, TrodA enc w n T ((cs.drop off).take (Try.prog.cellsOf T)) y ∧ Wt T y.1 := by
  obtain ⟨xs, n, _, hx, _, hxl, hf⟩ := DataW.trod_struct ht h
  obtain ⟨f, hfj, e⟩ := Option.map_eq_some_iff.1 hj
  injection e with e1 e2
  subst e1 e2
  have hjl : j < xs.length := by rw [hxl]; exact (Array.getElem?_eq_some_iff.1 hfj).1
  have h1 := hf j f hfj
  rw [List.getElem?_eq_getElem hjl] at h1
  refine ⟨n, xs[j], h1, ?_⟩
  rw [hx] at hw
  exact Wt.struct hw ht hfj (by simp [List.getElem?_eq_getElem hjl])
theorem cellsInt : Try.prog.cellsOf 3 = 1 := by kernel_rfl
theorem cellsInts : Try.prog.cellsOf 22 = 1 := by kernel_rfl
theorem intAt {H : Type} {enc : TypeId × Value → H} {w : World} {t off fuel : Nat} {fs : Array Field} {cs : List Value} {x : DataW H × List MemPlace} (ht : Try.prog.underlying t = some (.struct fs)) (h : TrodA enc w fuel t cs x) (hw : Wt t x.1) (j : Nat)
    (hj : (fs[j]?).map (fun f => (f.type, f.offset)) = some (3, off)) : ∃ n, cs[off]? = some (.int .i64 n) ∧ I64 n := by
  obtain ⟨n, y, h1, _⟩ := structAt ht h hw j hj
  rw [cellsInt] at h1
  obtain ⟨k, e, r⟩ := openI Try.underlying3 h1
  refine ⟨k, ?_, r⟩
  have : ((cs.drop off).take 1)[0]? = some (.int .i64 k) := by rw [e]; rfl
  simpa [List.getElem?_take, List.getElem?_drop] using this

theorem openBar {H : Type} {enc : TypeId × Value → H} {w : World} {t : TypeId} {fs : Array Field} (ht : Try.prog.underlying t = some (.struct fs))
    (h0 : (fs[0]?).map (fun f => (f.type, f.offset)) = some (3, 0)) (h1 : (fs[1]?).map (fun f => (f.type, f.offset)) = some (3, 1)) (h2 : (fs[2]?).map (fun f => (f.type, f.offset)) = some (3, 2)) :
    ∀ (fuel b o : Nat) (cs : List Value) (y : DataW H × List MemPlace), (∀ j, j < 3 → w.cell? ⟨b, o + j, none⟩ = cs[j]?) → cs.length = 3 → TrodA enc w fuel t cs y → Wt t y.1 → ∃ a, RBar w w.heap.size b o a := by
  intro fuel b o cs y hc hl h hw
  obtain ⟨n0, e0, r0⟩ := intAt ht h hw 0 h0
  obtain ⟨n1, e1, r1⟩ := intAt ht h hw 1 h1
  obtain ⟨n2, e2, r2⟩ := intAt ht h hw 2 h2
  exact ⟨(n0, n1, n2), ⟨by rw [← e0]; simpa using hc 0 (by omega), by rw [← e1]; exact hc 1 (by omega), by rw [← e2]; exact hc 2 (by omega)⟩, r0, r1, r2⟩

set_option maxRecDepth 100000 in
/-- Arguments are values of their types; their cells are read. -/
theorem argSl {H : Type} {enc : TypeId × Value → H} {w : World} {t e base : Nat} {v : Value} {d : DataW H} {p : List MemPlace} (ht : Try.prog.underlying t = some (.slice e)) (hv : Value.okWide Try.prog w .any base t v) (h : DataW.Trod enc Try.prog w 0 (fun _ => true) true t v d p) :
    ∃ fuel, TrodA enc w fuel t [v] (d, p) := by
  obtain ⟨a, l, c, rfl⟩ := okWide_slice ht hv
  obtain ⟨fuel, h⟩ := h
  have e : (Value.slice a l c).cells.toList = [.slice a l c] := rfl
  rw [e] at h
  exact ⟨fuel, h⟩

set_option maxRecDepth 100000 in
theorem argInt {H : Type} {enc : TypeId × Value → H} {w : World} {base : Nat} {v : Value} {d : DataW H} {p : List MemPlace} (hv : Value.okWide Try.prog w .any base 3 v) (h : DataW.Trod enc Try.prog w 0 (fun _ => true) true 3 v d p) : ∃ x, v = .int .i64 x ∧ I64 x := by
  obtain ⟨x, rfl, _, _, hw⟩ := open_int Try.underlying3 hv h
  exact ⟨x, rfl, i64_of_wf hw⟩
set_option maxRecDepth 100000 in
theorem elInt {H : Type} {enc : TypeId × Value → H} {w : World} : ∀ (fuel b o : Nat) (cs : List Value) (y : DataW H × List MemPlace), (∀ j, j < 1 → w.cell? ⟨b, o + j, none⟩ = cs[j]?) → cs.length = 1 → TrodA enc w fuel 3 cs y → Wt 3 y.1 → ∃ a, RI w w.heap.size b o a := by
  intro fuel b o cs y hc hl h _
  obtain ⟨n, rfl, r⟩ := openI Try.underlying3 h
  exact ⟨n, by simpa using hc 0 (by omega), r⟩
set_option maxRecDepth 100000 in
theorem openInts {H : Type} {enc : TypeId × Value → H} {w : World} {fuel : Nat} {cs : List Value} {x : DataW H × List MemPlace} (h : TrodA enc w fuel 22 cs x) (hw : Wt 22 x.1) : ∃ v xs, cs = [v] ∧ SlI w w.heap.size v xs :=
  openSl Try.underlying22 (sz := 1) cellsInt (by decide) (of_decide_eq_true (by kernel_rfl)) elInt h hw
set_option maxRecDepth 100000 in
theorem argInts {H : Type} {enc : TypeId × Value → H} {w : World} {base : Nat} {v : Value} {d : DataW H} {p : List MemPlace} (hv : Value.okWide Try.prog w .any base 22 v) (h : DataW.Trod enc Try.prog w 0 (fun _ => true) true 22 v d p) (hw : Wt 22 d) : ∃ xs, SlI w w.heap.size v xs := by
  obtain ⟨f, h⟩ := argSl Try.underlying22 hv h
  obtain ⟨u, xs, e, hx⟩ := openInts h hw
  injection e with e
  subst e
  exact ⟨xs, hx⟩
set_option maxRecDepth 100000 in
/-- A field of one cell. -/
theorem cellAt {H : Type} {enc : TypeId × Value → H} {w : World} {t T off fuel : Nat} {fs : Array Field} {cs : List Value} {x : DataW H × List MemPlace} (ht : Try.prog.underlying t = some (.struct fs)) (h : TrodA enc w fuel t cs x) (hw : Wt t x.1) (j : Nat)
    (hj : (fs[j]?).map (fun f => (f.type, f.offset)) = some (T, off)) (hT : Try.prog.cellsOf T = 1) {α : Type} {R : Value → α → Prop} (hR : ∀ n cs' y, TrodA enc w n T cs' y → Wt T y.1 → ∃ v a, cs' = [v] ∧ R v a) : ∃ v a, cs[off]? = some v ∧ R v a := by
  obtain ⟨n, y, h1, h2⟩ := structAt ht h hw j hj
  rw [hT] at h1
  obtain ⟨v, a, e, r⟩ := hR n _ y h1 h2
  refine ⟨v, a, ?_, r⟩
  have : ((cs.drop off).take 1)[0]? = some v := by rw [e]; rfl
  simpa [List.getElem?_take, List.getElem?_drop] using this
set_option maxRecDepth 100000 in
theorem argAgg {H : Type} {enc : TypeId × Value → H} {w : World} {t base : Nat} {fs : Array Field} {v : Value} {d : DataW H} {p : List MemPlace} (ht : Try.prog.underlying t = some (.struct fs)) (hv : Value.okWide Try.prog w .any base t v) (h : DataW.Trod enc Try.prog w 0 (fun _ => true) true t v d p) :
    ∃ fuel cs, v = .agg cs ∧ cs.size = Try.prog.cellsOf t ∧ TrodA enc w fuel t cs.toList (d, p) := by
  obtain ⟨cs, rfl, hsz⟩ := okWide_struct ht hv
  obtain ⟨fuel, h⟩ := h
  exact ⟨fuel, cs, rfl, hsz, h⟩
end Go.Proofs.Ytjhllgldllbaaaa

/- Quivers among the arguments of a law. -/
namespace Go.Proofs.Ytjhllgldllbaaaa
set_option linter.unusedVariables false
set_option linter.unusedSimpArgs false
open Go.RowKit Go.ChangeShapes Go.WideShapes Go.ChangeAt Go.Deep

set_option maxRecDepth 100000 in
theorem argQuiver {H : Type} {enc : TypeId × Value → H} {w : World} {base : Nat} {v : Value} {d : DataW H} {p : List MemPlace} (hv : Value.okWide Try.prog w .any base 24 v) (h : DataW.Trod enc Try.prog w 0 (fun _ => true) true 24 v d p) (hw : Wt 24 d) : ∃ q, QvR w w.heap.size v q := by
  obtain ⟨fuel, cs, rfl, hsz, h⟩ := argAgg Try.underlying24 hv h
  obtain ⟨n, e0, r0⟩ := intAt Try.underlying24 h hw 0 rfl
  obtain ⟨vf, f, e1, hf⟩ := cellAt Try.underlying24 h hw 1 rfl cellsInts (R := fun v a => SlI w w.heap.size v a) (fun _ _ _ h h' => openInts h h')
  obtain ⟨vt, t, e2, ht⟩ := cellAt Try.underlying24 h hw 2 rfl cellsInts (R := fun v a => SlI w w.heap.size v a) (fun _ _ _ h h' => openInts h h')
  refine ⟨⟨n, f, t⟩, vf, vt, ?_, hf, ht, r0⟩
  have hs : cs.size = 3 := hsz.trans (by kernel_rfl)
  congr 1
  apply Array.ext_getElem?
  intro i
  match i with
  | 0 => simpa using e0
  | 1 => simpa using e1
  | 2 => simpa using e2
  | i + 3 => rw [Array.getElem?_eq_none (by omega), Array.getElem?_eq_none (by simp)]
end Go.Proofs.Ytjhllgldllbaaaa

/- Facts of the whole program that every row asks for, each met once for the seat. -/
namespace Go.Proofs.Ytjhllgldllbaaaa
set_option linter.unusedVariables false
set_option linter.unusedSimpArgs false
open Go.RowKit

theorem seatEnter : Try.prog.mayEnter = true := by kernel_rfl
theorem seatLifts : (false == Try.prog.liftsFinal) = true := by kernel_rfl
theorem seatMake : (Try.prog.make == some .cut) = true := by kernel_rfl
theorem band {a b : Bool} (h : a = true) (k : b = true) : (a && b) = true := by rw [h, k]; rfl
end Go.Proofs.Ytjhllgldllbaaaa

/- FnExactCoxeterNumber is proved: for every argument the program's CoxeterNumber returns what the reference's returns, leaves its arguments as they were, and returns memory of its own. No condition. -/
namespace Go.Proofs.Ytjhllgldllbaaaa
set_option linter.unusedVariables false
set_option linter.unusedSimpArgs false
open Go.RowKit Go.ChangeShapes Go.WideShapes Go.ChangeAt Go.Deep

set_option maxRecDepth 100000 in
theorem coxeterNumber_lifted (os : Os) (started : os.Started) (H : Type) (enc : TypeId × Value → H) :
    ReturnsInHanded {} Try.checked os 12 .any (Rows.fnExactCoxeterNumberSpec.pre6 enc Try.prog Try.f12 Rows.fnExactCoxeterNumberRow.domain false) (Rows.fnExactCoxeterNumberSpec.post enc Try.prog Try.f12 false true false false) := by
  refine lift_law started (by kernel_rfl) Try.func12 (ChangeSpec.witness6 (enc := enc) (C := Try.checked) false ⟨#[], #[.agg #[.int .i64 0, .slice none 0 0, .slice none 0 0]], []⟩ 8 (by kernel_rfl) (by kernel_rfl) (by kernel_rfl) (by kernel_rfl))
    rfl rfl (by rw [Try.params12]; intro t ht; simp only [List.mem_cons, List.not_mem_nil, or_false] at ht; rcases ht with rfl <;> exact ⟨by kernel_rfl, of_decide_eq_true (by kernel_rfl)⟩) (fun ds hl => by rw [Try.params12] at hl; match ds, hl with | [_], _ => rfl) ?_
  intro W args ds ps base hval hA hwt
  rw [Try.params12] at hA hval hwt
  obtain ⟨v0, d0, hargs, rfl, h0⟩ := trodAll_one hA
  obtain rfl : args = #[v0] := by cases args; simp_all
  obtain ⟨x0, r0⟩ := argQuiver (hval 0 _ _ rfl rfl) h0 (hwt 0 _ _ rfl rfl)
  exact lawCoxeterNumber_any _ _ W r0

theorem coxeterNumber_closed : joinedFacts Try.prog 12 Try.f12 Rows.fnExactCoxeterNumberSpec Rows.fnExactCoxeterNumberRow = true := by
  unfold joinedFacts
  refine band (band (band (band (band (band (band ?_ seatEnter) seatLifts) seatMake) ?_) ?_) ?_) ?_ <;> kernel_rfl

theorem coxeterNumber_holds : Rows.FnExactCoxeterNumberSaid :=
  OpenClaim.holds_of_wide 12 Try.f12 rfl rfl rfl rfl rfl rfl rfl ⟨rfl, rfl, rfl, rfl, rfl⟩ rfl rfl rfl rfl rfl (by kernel_rfl) Try.func12 coxeterNumber_closed
    (of_decide_eq_true (by kernel_rfl)) (by unfold Func.isWrapper; first | (rw [if_pos (by decide +kernel)]; kernel_rfl) | (rw [if_neg (by decide +kernel)]; exact ⟨rfl, rfl⟩))
    (fun os started H enc _ => coxeterNumber_lifted os started H enc)
#print axioms coxeterNumber_holds
end Go.Proofs.Ytjhllgldllbaaaa
