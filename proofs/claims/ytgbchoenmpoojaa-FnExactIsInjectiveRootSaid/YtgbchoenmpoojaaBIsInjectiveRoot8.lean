/- FnExactIsInjectiveRoot: for every argument the program's function returns what the reference's returns. Part 8 of 8 of the proof: Prj, LawIsInjectiveRoot, LawIsInjectiveRootRow. No condition. -/
import Derived.Test.YtgbchoenmpoojaaBIsInjectiveRoot7
/- IsProjectiveRoot and IsInjectiveRoot: both sides. -/
namespace Go.Proofs.Ytgbchoenmpoojaa
set_option linter.unusedVariables false
set_option linter.unusedSimpArgs false
open Go.RowKit

def anyTo (f : Int → List Int) (x : List Int) (k : Nat) : Bool := (List.range k).any fun v => decide (f (v : Int) = x)
theorem anyTo_yes {f : Int → List Int} {x : List Int} {k n : Nat} (h : k < n) (e : f (k : Int) = x) : anyTo f x n = true := by
  rw [anyTo, List.any_eq_true]
  exact ⟨k, List.mem_range.2 h, by simp [e]⟩
theorem anyTo_no {f : Int → List Int} {x : List Int} {k : Nat} (h : anyTo f x k = false) (e : decide (f (k : Int) = x) = false) : anyTo f x (k + 1) = false := by
  rw [anyTo] at h ⊢
  rw [List.range_succ, List.any_append, h, List.any_cons, e]; rfl
def isPr (q : Qv) (x : List Int) : Bool := acyQ q && anyTo (dmQ q) x q.v.toNat
def isIn (q : Qv) (x : List Int) : Bool := acyQ q && anyTo (dmJ q) x q.v.toNat
set_option maxRecDepth 100000 in
set_option maxHeartbeats 1600000 in
theorem implIsProjectiveRoot_any (u xv : Value) (q : Qv) (x : List Int) (w0 : World) (hu : QvR w0 w0.heap.size u q) (hx : SlI w0 w0.heap.size xv x) :
    Calls Try.prog 19 #[u, xv] w0 fun e w' => e = .returned (.bool (isPr q x)) ∧ Below w0.heap.size w0 w' := by
  have HRW : Hid (isPr q x = (acyQ q && anyTo (dmQ q) x q.v.toNat)) := by show _ = _; rfl
  obtain ⟨R, hR⟩ : ∃ R, isPr q x = R := ⟨_, rfl⟩
  rw [hR] at HRW ⊢
  clear hR
  have hx' := hx
  obtain ⟨XA, xc, rfl, _⟩ := hx.open_
  clear hx
  have hu' := hu
  obtain ⟨A, c, C, d, rfl, hf, hT, hr, lf, lt⟩ := hu.open_
  clear hu hf hT
  obtain ⟨W, hW⟩ : ∃ W, w0.alloc (.cells #[.int .i64 q.v, .slice A q.f.length c, .slice C q.t.length d] 27) = W := ⟨_, rfl⟩
  have g0 : Below w0.heap.size w0 W := by rw [← hW]; exact below_alloc _ _
  have kB : Blk W w0.heap.size 27 #[.int .i64 q.v, .slice A q.f.length c, .slice C q.t.length d] := by rw [← hW]; exact Blk.new _ _ _
  have HQ := Lib.hid (QvR.next g0 hu')
  clear hu'
  have c0 := kB.cell' (i := 0) rfl
  have c1 := kB.cell' (i := 1) rfl
  have c2 := kB.cell' (i := 2) rfl
  have HX := Lib.hid (SlI.next g0 hx')
  have KB := Lib.hid kB
  clear hx'
  rcases ha : acyQ q with _ | _
  · have HA := Lib.hid ha
    rw [ha] at HRW
    clear ha kB
    go_enter Try.func19, Try.ntmps19
    go_wp2_with fail
    clear hW
    refine (implIsAcyclic_any _ q _ HQ.out).mono ?_; rintro e w1 ⟨rfl, hb1⟩
    rw [HA.out]
    go_wp2
    go_ret
    exact ⟨by rw [HRW.out]; rfl, bthen g0 hb1⟩
  · have hv5 := (isQ_t.1 (acy_isQ ha)).1
    obtain ⟨V, hV⟩ := Int.eq_ofNat_of_zero_le (show 0 ≤ q.v by omega)
    have hVn : q.v.toNat = V := by omega
    rw [ha, hVn] at HRW
    have HVN := Lib.hid hV
    have HA := Lib.hid ha
    obtain ⟨f, hf⟩ : ∃ f, dmQ q = f := ⟨_, rfl⟩
    rw [hf] at HRW
    have HF := Lib.hid hf
    clear ha hV hVn hf
    go_enter Try.func19, Try.ntmps19
    go_wp2_with fail
    clear hW
    refine (implIsAcyclic_any _ q _ HQ.out).mono ?_; rintro e w1 ⟨rfl, hb1⟩
    rw [HA.out]
    have G1 := Lib.hid (bthen g0 hb1)
    have B1 := Lib.hid hb1
    have k1 := kB.call hb1
    clear c0 c1 c2 kB hb1
    have c0 : w1.cell? ⟨w0.heap.size, 0, none⟩ = some (.int .i64 (V : Int)) := by rw [← HVN.out]; exact k1.cell' (i := 0) rfl
    have hV5 : V ≤ 5 := by have := HVN.out; omega
    clear k1
    go_wp2
    go_loopw [11] (fun i wr => ∃ k : Nat, k ≤ V ∧ i = .int .i64 k ∧ Below W.heap.size W wr ∧ Hid (anyTo f x k = false)) (fun i _ => V - (intOf i).toNat)
    case atStart => exact ⟨0, Nat.zero_le _, rfl, B1.out, rfl⟩
    case round =>
      clear c0
      obtain ⟨k, hk, rfl, hbel, hno⟩ := hrel
      by_cases hlt : k < V
      · have kr := KB.out.call hbel
        have c0 := kr.cell' (i := 0) rfl
        have c1 := kr.cell' (i := 1) rfl
        have c2 := kr.cell' (i := 2) rfl
        have HDM := Lib.hid (implProjectiveDims_any _ q (k : Int) wr (QvR.next hbel HQ.out) ⟨by omega, by omega⟩)
        rw [HF.out] at HDM
        have HXr := Lib.hid (SlI.next hbel HX.out)
        have Gr := Lib.hid (bthen g0 hbel)
        have HBE := Lib.hid hbel
        clear hbel kr
        go_wp2_with fail
        refine HDM.out.mono ?_; rintro e w2 ⟨o, rfl, ho, hb2⟩
        have HEQ := Lib.hid (slEqual_any o _ (f (k : Int)) x w2 ho.rd (SlI.next hb2 HXr.out))
        obtain ⟨B, hB⟩ : ∃ B, decide (f (k : Int) = x) = B := ⟨_, rfl⟩
        rw [hB] at HEQ
        have HB := Lib.hid hB
        have G2 := Lib.hid (HBE.out.trans (hb2.mono HBE.out.size))
        clear hB ho hb2 HDM c0 c1 c2 HXr Gr
        cases B
        · go_wp2_with fail
          refine HEQ.out.mono ?_; rintro e w3 ⟨rfl, hb3⟩
          clear HEQ
          go_wp2
          go_roundw
          case rel => exact ⟨k + 1, by omega, by go_num, G2.out.trans (hb3.mono G2.out.size), anyTo_no hno.out HB.out⟩
          case measure => simp [intOf]; omega
        · go_wp2_with fail
          refine HEQ.out.mono ?_; rintro e w3 ⟨rfl, hb3⟩
          clear HEQ
          go_wp2
          go_ret
          exact ⟨by rw [HRW.out, anyTo_yes hlt (of_decide_eq_true HB.out)]; rfl, bthen g0 (G2.out.trans (hb3.mono G2.out.size))⟩
      · have hkV : k = V := by omega
        have HN : Hid (anyTo f x V = false) := by show _ = _; rw [← hkV]; exact hno.out
        clear hkV
        go_wp2
        go_ret
        exact ⟨by rw [HRW.out, HN.out]; rfl, bthen g0 hbel⟩
set_option maxRecDepth 100000 in
set_option maxHeartbeats 1600000 in
theorem implIsInjectiveRoot_any (u xv : Value) (q : Qv) (x : List Int) (w0 : World) (hu : QvR w0 w0.heap.size u q) (hx : SlI w0 w0.heap.size xv x) :
    Calls Try.prog 17 #[u, xv] w0 fun e w' => e = .returned (.bool (isIn q x)) ∧ Below w0.heap.size w0 w' := by
  have HRW : Hid (isIn q x = (acyQ q && anyTo (dmJ q) x q.v.toNat)) := by show _ = _; rfl
  obtain ⟨R, hR⟩ : ∃ R, isIn q x = R := ⟨_, rfl⟩
  rw [hR] at HRW ⊢
  clear hR
  have hx' := hx
  obtain ⟨XA, xc, rfl, _⟩ := hx.open_
  clear hx
  have hu' := hu
  obtain ⟨A, c, C, d, rfl, hf, hT, hr, lf, lt⟩ := hu.open_
  clear hu hf hT
  obtain ⟨W, hW⟩ : ∃ W, w0.alloc (.cells #[.int .i64 q.v, .slice A q.f.length c, .slice C q.t.length d] 27) = W := ⟨_, rfl⟩
  have g0 : Below w0.heap.size w0 W := by rw [← hW]; exact below_alloc _ _
  have kB : Blk W w0.heap.size 27 #[.int .i64 q.v, .slice A q.f.length c, .slice C q.t.length d] := by rw [← hW]; exact Blk.new _ _ _
  have HQ := Lib.hid (QvR.next g0 hu')
  clear hu'
  have c0 := kB.cell' (i := 0) rfl
  have c1 := kB.cell' (i := 1) rfl
  have c2 := kB.cell' (i := 2) rfl
  have HX := Lib.hid (SlI.next g0 hx')
  have KB := Lib.hid kB
  clear hx'
  rcases ha : acyQ q with _ | _
  · have HA := Lib.hid ha
    rw [ha] at HRW
    clear ha kB
    go_enter Try.func17, Try.ntmps17
    go_wp2_with fail
    clear hW
    refine (implIsAcyclic_any _ q _ HQ.out).mono ?_; rintro e w1 ⟨rfl, hb1⟩
    rw [HA.out]
    go_wp2
    go_ret
    exact ⟨by rw [HRW.out]; rfl, bthen g0 hb1⟩
  · have hv5 := (isQ_t.1 (acy_isQ ha)).1
    obtain ⟨V, hV⟩ := Int.eq_ofNat_of_zero_le (show 0 ≤ q.v by omega)
    have hVn : q.v.toNat = V := by omega
    rw [ha, hVn] at HRW
    have HVN := Lib.hid hV
    have HA := Lib.hid ha
    obtain ⟨f, hf⟩ : ∃ f, dmJ q = f := ⟨_, rfl⟩
    rw [hf] at HRW
    have HF := Lib.hid hf
    clear ha hV hVn hf
    go_enter Try.func17, Try.ntmps17
    go_wp2_with fail
    clear hW
    refine (implIsAcyclic_any _ q _ HQ.out).mono ?_; rintro e w1 ⟨rfl, hb1⟩
    rw [HA.out]
    have G1 := Lib.hid (bthen g0 hb1)
    have B1 := Lib.hid hb1
    have k1 := kB.call hb1
    clear c0 c1 c2 kB hb1
    have c0 : w1.cell? ⟨w0.heap.size, 0, none⟩ = some (.int .i64 (V : Int)) := by rw [← HVN.out]; exact k1.cell' (i := 0) rfl
    have hV5 : V ≤ 5 := by have := HVN.out; omega
    clear k1
    go_wp2
    go_loopw [11] (fun i wr => ∃ k : Nat, k ≤ V ∧ i = .int .i64 k ∧ Below W.heap.size W wr ∧ Hid (anyTo f x k = false)) (fun i _ => V - (intOf i).toNat)
    case atStart => exact ⟨0, Nat.zero_le _, rfl, B1.out, rfl⟩
    case round =>
      clear c0
      obtain ⟨k, hk, rfl, hbel, hno⟩ := hrel
      by_cases hlt : k < V
      · have kr := KB.out.call hbel
        have c0 := kr.cell' (i := 0) rfl
        have c1 := kr.cell' (i := 1) rfl
        have c2 := kr.cell' (i := 2) rfl
        have HDM := Lib.hid (implInjectiveDims_any _ q (k : Int) wr (QvR.next hbel HQ.out) ⟨by omega, by omega⟩)
        rw [HF.out] at HDM
        have HXr := Lib.hid (SlI.next hbel HX.out)
        have Gr := Lib.hid (bthen g0 hbel)
        have HBE := Lib.hid hbel
        clear hbel kr
        go_wp2_with fail
        refine HDM.out.mono ?_; rintro e w2 ⟨o, rfl, ho, hb2⟩
        have HEQ := Lib.hid (slEqual_any o _ (f (k : Int)) x w2 ho.rd (SlI.next hb2 HXr.out))
        obtain ⟨B, hB⟩ : ∃ B, decide (f (k : Int) = x) = B := ⟨_, rfl⟩
        rw [hB] at HEQ
        have HB := Lib.hid hB
        have G2 := Lib.hid (HBE.out.trans (hb2.mono HBE.out.size))
        clear hB ho hb2 HDM c0 c1 c2 HXr Gr
        cases B
        · go_wp2_with fail
          refine HEQ.out.mono ?_; rintro e w3 ⟨rfl, hb3⟩
          clear HEQ
          go_wp2
          go_roundw
          case rel => exact ⟨k + 1, by omega, by go_num, G2.out.trans (hb3.mono G2.out.size), anyTo_no hno.out HB.out⟩
          case measure => simp [intOf]; omega
        · go_wp2_with fail
          refine HEQ.out.mono ?_; rintro e w3 ⟨rfl, hb3⟩
          clear HEQ
          go_wp2
          go_ret
          exact ⟨by rw [HRW.out, anyTo_yes hlt (of_decide_eq_true HB.out)]; rfl, bthen g0 (G2.out.trans (hb3.mono G2.out.size))⟩
      · have hkV : k = V := by omega
        have HN : Hid (anyTo f x V = false) := by show _ = _; rw [← hkV]; exact hno.out
        clear hkV
        go_wp2
        go_ret
        exact ⟨by rw [HRW.out, HN.out]; rfl, bthen g0 hbel⟩
set_option maxRecDepth 100000 in
set_option maxHeartbeats 1600000 in
theorem specIsProjectiveRoot_any (u xv : Value) (q : Qv) (x : List Int) (w0 : World) (hu : QvR w0 w0.heap.size u q) (hx : SlI w0 w0.heap.size xv x) :
    Calls Try.prog 18 #[u, xv] w0 fun e w' => e = .returned (.bool (isPr q x)) ∧ Below w0.heap.size w0 w' := by
  have HRW : Hid (isPr q x = (acyQ q && anyTo (dmQ q) x q.v.toNat)) := by show _ = _; rfl
  obtain ⟨R, hR⟩ : ∃ R, isPr q x = R := ⟨_, rfl⟩
  rw [hR] at HRW ⊢
  clear hR
  have hx' := hx
  obtain ⟨XA, xc, rfl, _⟩ := hx.open_
  clear hx
  have hu' := hu
  obtain ⟨A, c, C, d, rfl, hf, hT, hr, lf, lt⟩ := hu.open_
  clear hu hf hT
  obtain ⟨W, hW⟩ : ∃ W, w0.alloc (.cells #[.int .i64 q.v, .slice A q.f.length c, .slice C q.t.length d] 27) = W := ⟨_, rfl⟩
  have g0 : Below w0.heap.size w0 W := by rw [← hW]; exact below_alloc _ _
  have kB : Blk W w0.heap.size 27 #[.int .i64 q.v, .slice A q.f.length c, .slice C q.t.length d] := by rw [← hW]; exact Blk.new _ _ _
  have HQ := Lib.hid (QvR.next g0 hu')
  clear hu'
  have c0 := kB.cell' (i := 0) rfl
  have c1 := kB.cell' (i := 1) rfl
  have c2 := kB.cell' (i := 2) rfl
  have HX := Lib.hid (SlI.next g0 hx')
  have KB := Lib.hid kB
  clear hx'
  rcases ha : acyQ q with _ | _
  · have HA := Lib.hid ha
    rw [ha] at HRW
    clear ha kB
    go_enter Try.func18, Try.ntmps18
    go_wp2
    clear hW
    go_loopw [5] (fun i wr => i = .int .i64 0 ∧ wr = W) (fun _ _ => 0)
    case atStart => exact ⟨rfl, rfl⟩
    case round =>
      obtain ⟨rfl, rfl⟩ := hrel
      by_cases h0 : 0 < q.v
      · have hd : decide (0 < q.v) = true := decide_eq_true h0
        go_wp2_with fail
        refine (specIsAcyclic_any _ q _ HQ.out).mono ?_; rintro e w1 ⟨rfl, hb1⟩
        rw [HA.out]
        go_wp2
        go_ret
        exact ⟨by rw [HRW.out]; rfl, bthen g0 hb1⟩
      · have hd : decide (0 < q.v) = false := decide_eq_false h0
        go_wp2
        go_ret
        exact ⟨by rw [HRW.out]; rfl, g0⟩
  · have hv5 := (isQ_t.1 (acy_isQ ha)).1
    obtain ⟨V, hV⟩ := Int.eq_ofNat_of_zero_le (show 0 ≤ q.v by omega)
    have hVn : q.v.toNat = V := by omega
    rw [ha, hVn] at HRW
    have HVN := Lib.hid hV
    have HA := Lib.hid ha
    have hV5 : V ≤ 5 := by omega
    obtain ⟨f, hf⟩ : ∃ f, dmQ q = f := ⟨_, rfl⟩
    rw [hf] at HRW
    have HF := Lib.hid hf
    clear ha hV hVn hf kB
    go_enter Try.func18, Try.ntmps18
    go_wp2
    clear hW
    go_loopw [5] (fun i wr => ∃ k : Nat, k ≤ V ∧ i = .int .i64 k ∧ Below W.heap.size W wr ∧ Hid (anyTo f x k = false)) (fun i _ => V - (intOf i).toNat)
    case atStart => exact ⟨0, Nat.zero_le _, rfl, Below.refl _ _, rfl⟩
    case round =>
      clear c0 c1 c2
      obtain ⟨k, hk, rfl, hbel, hno⟩ := hrel
      have kr := KB.out.call hbel
      have c0 := kr.cell' (i := 0) rfl
      have c1 := kr.cell' (i := 1) rfl
      have c2 := kr.cell' (i := 2) rfl
      by_cases hlt : k < V
      · have hd : decide ((k : Int) < q.v) = true := decide_eq_true (by have := HVN.out; omega)
        have HQr := Lib.hid (QvR.next hbel HQ.out)
        have HXr := Lib.hid (SlI.next hbel HX.out)
        have HBE := Lib.hid hbel
        clear hbel
        go_wp2_with fail
        refine (specIsAcyclic_any _ q _ HQr.out).mono ?_; rintro e w1 ⟨rfl, hb1⟩
        rw [HA.out]
        have k1 := kr.call hb1
        have HDM := Lib.hid (specProjectiveDims_any _ q (k : Int) w1 (QvR.next hb1 HQr.out) ⟨by omega, by omega⟩)
        rw [HF.out] at HDM
        have HX1 := Lib.hid (SlI.next hb1 HXr.out)
        have G1 := Lib.hid (HBE.out.trans (hb1.mono HBE.out.size))
        clear c0 c1 c2 HQr HXr HBE hb1 kr
        have c0 := k1.cell' (i := 0) rfl
        have c1 := k1.cell' (i := 1) rfl
        have c2 := k1.cell' (i := 2) rfl
        clear k1
        go_wp2_with fail
        refine HDM.out.mono ?_; rintro e w2 ⟨o, rfl, ho, hb2⟩
        have HEQ := Lib.hid (l6Same_any o _ (f (k : Int)) x w2 ho.rd (SlI.next hb2 HX1.out))
        obtain ⟨B, hB⟩ : ∃ B, decide (f (k : Int) = x) = B := ⟨_, rfl⟩
        rw [hB] at HEQ
        have HB := Lib.hid hB
        have G2 := Lib.hid (G1.out.trans (hb2.mono G1.out.size))
        clear hB ho hb2 HDM c0 c1 c2 HX1
        cases B
        · go_wp2_with fail
          refine HEQ.out.mono ?_; rintro e w3 ⟨rfl, hb3⟩
          clear HEQ
          go_wp2
          go_roundw
          case rel => exact ⟨k + 1, by omega, by go_num, G2.out.trans (hb3.mono G2.out.size), anyTo_no hno.out HB.out⟩
          case measure => simp [intOf]; omega
        · go_wp2_with fail
          refine HEQ.out.mono ?_; rintro e w3 ⟨rfl, hb3⟩
          clear HEQ
          go_wp2
          go_ret
          exact ⟨by rw [HRW.out, anyTo_yes hlt (of_decide_eq_true HB.out)]; rfl, bthen g0 (G2.out.trans (hb3.mono G2.out.size))⟩
      · have hkV : k = V := by omega
        have hd : decide ((k : Int) < q.v) = false := decide_eq_false (by have := HVN.out; omega)
        have HN : Hid (anyTo f x V = false) := by show _ = _; rw [← hkV]; exact hno.out
        clear hkV
        go_wp2
        go_ret
        exact ⟨by rw [HRW.out, HN.out]; rfl, bthen g0 hbel⟩
set_option maxRecDepth 100000 in
set_option maxHeartbeats 1600000 in
theorem specIsInjectiveRoot_any (u xv : Value) (q : Qv) (x : List Int) (w0 : World) (hu : QvR w0 w0.heap.size u q) (hx : SlI w0 w0.heap.size xv x) :
    Calls Try.prog 16 #[u, xv] w0 fun e w' => e = .returned (.bool (isIn q x)) ∧ Below w0.heap.size w0 w' := by
  have HRW : Hid (isIn q x = (acyQ q && anyTo (dmJ q) x q.v.toNat)) := by show _ = _; rfl
  obtain ⟨R, hR⟩ : ∃ R, isIn q x = R := ⟨_, rfl⟩
  rw [hR] at HRW ⊢
  clear hR
  have hx' := hx
  obtain ⟨XA, xc, rfl, _⟩ := hx.open_
  clear hx
  have hu' := hu
  obtain ⟨A, c, C, d, rfl, hf, hT, hr, lf, lt⟩ := hu.open_
  clear hu hf hT
  obtain ⟨W, hW⟩ : ∃ W, w0.alloc (.cells #[.int .i64 q.v, .slice A q.f.length c, .slice C q.t.length d] 27) = W := ⟨_, rfl⟩
  have g0 : Below w0.heap.size w0 W := by rw [← hW]; exact below_alloc _ _
  have kB : Blk W w0.heap.size 27 #[.int .i64 q.v, .slice A q.f.length c, .slice C q.t.length d] := by rw [← hW]; exact Blk.new _ _ _
  have HQ := Lib.hid (QvR.next g0 hu')
  clear hu'
  have c0 := kB.cell' (i := 0) rfl
  have c1 := kB.cell' (i := 1) rfl
  have c2 := kB.cell' (i := 2) rfl
  have HX := Lib.hid (SlI.next g0 hx')
  have KB := Lib.hid kB
  clear hx'
  rcases ha : acyQ q with _ | _
  · have HA := Lib.hid ha
    rw [ha] at HRW
    clear ha kB
    go_enter Try.func16, Try.ntmps16
    go_wp2
    clear hW
    go_loopw [5] (fun i wr => i = .int .i64 0 ∧ wr = W) (fun _ _ => 0)
    case atStart => exact ⟨rfl, rfl⟩
    case round =>
      obtain ⟨rfl, rfl⟩ := hrel
      by_cases h0 : 0 < q.v
      · have hd : decide (0 < q.v) = true := decide_eq_true h0
        go_wp2_with fail
        refine (specIsAcyclic_any _ q _ HQ.out).mono ?_; rintro e w1 ⟨rfl, hb1⟩
        rw [HA.out]
        go_wp2
        go_ret
        exact ⟨by rw [HRW.out]; rfl, bthen g0 hb1⟩
      · have hd : decide (0 < q.v) = false := decide_eq_false h0
        go_wp2
        go_ret
        exact ⟨by rw [HRW.out]; rfl, g0⟩
  · have hv5 := (isQ_t.1 (acy_isQ ha)).1
    obtain ⟨V, hV⟩ := Int.eq_ofNat_of_zero_le (show 0 ≤ q.v by omega)
    have hVn : q.v.toNat = V := by omega
    rw [ha, hVn] at HRW
    have HVN := Lib.hid hV
    have HA := Lib.hid ha
    have hV5 : V ≤ 5 := by omega
    obtain ⟨f, hf⟩ : ∃ f, dmJ q = f := ⟨_, rfl⟩
    rw [hf] at HRW
    have HF := Lib.hid hf
    clear ha hV hVn hf kB
    go_enter Try.func16, Try.ntmps16
    go_wp2
    clear hW
    go_loopw [5] (fun i wr => ∃ k : Nat, k ≤ V ∧ i = .int .i64 k ∧ Below W.heap.size W wr ∧ Hid (anyTo f x k = false)) (fun i _ => V - (intOf i).toNat)
    case atStart => exact ⟨0, Nat.zero_le _, rfl, Below.refl _ _, rfl⟩
    case round =>
      clear c0 c1 c2
      obtain ⟨k, hk, rfl, hbel, hno⟩ := hrel
      have kr := KB.out.call hbel
      have c0 := kr.cell' (i := 0) rfl
      have c1 := kr.cell' (i := 1) rfl
      have c2 := kr.cell' (i := 2) rfl
      by_cases hlt : k < V
      · have hd : decide ((k : Int) < q.v) = true := decide_eq_true (by have := HVN.out; omega)
        have HQr := Lib.hid (QvR.next hbel HQ.out)
        have HXr := Lib.hid (SlI.next hbel HX.out)
        have HBE := Lib.hid hbel
        clear hbel
        go_wp2_with fail
        refine (specIsAcyclic_any _ q _ HQr.out).mono ?_; rintro e w1 ⟨rfl, hb1⟩
        rw [HA.out]
        have k1 := kr.call hb1
        have HDM := Lib.hid (specInjectiveDims_any _ q (k : Int) w1 (QvR.next hb1 HQr.out) ⟨by omega, by omega⟩)
        rw [HF.out] at HDM
        have HX1 := Lib.hid (SlI.next hb1 HXr.out)
        have G1 := Lib.hid (HBE.out.trans (hb1.mono HBE.out.size))
        clear c0 c1 c2 HQr HXr HBE hb1 kr
        have c0 := k1.cell' (i := 0) rfl
        have c1 := k1.cell' (i := 1) rfl
        have c2 := k1.cell' (i := 2) rfl
        clear k1
        go_wp2_with fail
        refine HDM.out.mono ?_; rintro e w2 ⟨o, rfl, ho, hb2⟩
        have HEQ := Lib.hid (l6Same_any o _ (f (k : Int)) x w2 ho.rd (SlI.next hb2 HX1.out))
        obtain ⟨B, hB⟩ : ∃ B, decide (f (k : Int) = x) = B := ⟨_, rfl⟩
        rw [hB] at HEQ
        have HB := Lib.hid hB
        have G2 := Lib.hid (G1.out.trans (hb2.mono G1.out.size))
        clear hB ho hb2 HDM c0 c1 c2 HX1
        cases B
        · go_wp2_with fail
          refine HEQ.out.mono ?_; rintro e w3 ⟨rfl, hb3⟩
          clear HEQ
          go_wp2
          go_roundw
          case rel => exact ⟨k + 1, by omega, by go_num, G2.out.trans (hb3.mono G2.out.size), anyTo_no hno.out HB.out⟩
          case measure => simp [intOf]; omega
        · go_wp2_with fail
          refine HEQ.out.mono ?_; rintro e w3 ⟨rfl, hb3⟩
          clear HEQ
          go_wp2
          go_ret
          exact ⟨by rw [HRW.out, anyTo_yes hlt (of_decide_eq_true HB.out)]; rfl, bthen g0 (G2.out.trans (hb3.mono G2.out.size))⟩
      · have hkV : k = V := by omega
        have hd : decide ((k : Int) < q.v) = false := decide_eq_false (by have := HVN.out; omega)
        have HN : Hid (anyTo f x V = false) := by show _ = _; rw [← hkV]; exact hno.out
        clear hkV
        go_wp2
        go_ret
        exact ⟨by rw [HRW.out, HN.out]; rfl, bthen g0 hbel⟩
end Go.Proofs.Ytgbchoenmpoojaa

/- The walk of FnExactIsInjectiveRoot, printed by program (wip/law.py) out of the contracts of what it calls. -/
namespace Go.Proofs.Ytgbchoenmpoojaa
set_option linter.unusedVariables false
set_option linter.unusedSimpArgs false
open Go.RowKit

set_option maxHeartbeats 1600000 in
set_option maxRecDepth 100000 in
theorem lawIsInjectiveRoot_any (uq : Value) (q : Qv) (ux : Value) (x : List Int) (w : World) (hq : QvR w w.heap.size uq q) (hx : SlI w w.heap.size ux x) :
    Calls Try.prog 4 #[uq, ux] w fun e w' => e = .returned (.bool true) ∧ Below w.heap.size w w' := by
  obtain ⟨Auq, cuq, Cuq, duq, eq⟩ := QvR.form hq
  subst eq
  have lq := QvR.lens hq
  obtain ⟨Ax, cx, rfl, _, _, lx, _⟩ := hx.open_
  have g0 := Below.refl w.heap.size w
  by_cases z0 : (1048576 : Int) < x.length
  · go_enter Try.func4, Try.ntmps4
    go_wp2
    go_ret
    exact ⟨rfl, (g0).alloc (by simp) _⟩
  by_cases z1 : (1048576 : Int) < (q.size : Nat)
  · have y1 : szLeft (1048576 : Int) (q.size) = -1 := by rw [szLeft, if_pos z1]
    go_enter Try.func4, Try.ntmps4
    go_wp2_with fail
    obtain ⟨W2, e3⟩ : ∃ W, W = w.alloc (.cells #[.int .i64 (q).v, .slice Auq (q).f.length cuq, .slice Cuq (q).t.length duq] 24) := ⟨_, rfl⟩
    rw [← e3]
    have b4 : Below w.heap.size w W2 := by rw [e3]; exact below_alloc _ _
    have k5 : Blk W2 w.heap.size 24 #[.int .i64 (q).v, .slice Auq (q).f.length cuq, .slice Cuq (q).t.length duq] := by rw [e3]; exact Blk.new _ _ _
    have s6 : w.heap.size < W2.heap.size := by rw [e3]; simp
    clear e3
    have h7 := QvR.below (b4.mono (by omega)) hq
    have h8 := SlI.below (b4.mono (by omega)) hx
    have s9 : w.heap.size ≤ W2.heap.size := b4.size
    have g10 := bthen g0 b4
    clear hq hx g0 b4
    have c11 := k5.cell' (i := 0) rfl
    have c12 := k5.cell' (i := 1) rfl
    have c13 := k5.cell' (i := 2) rfl
    refine (szQuiver_any _ _ (1048576 : Int) _ (QvR.more (by omega) h7) (by omega) (by omega)).mono ?_; rintro e W14 ⟨rfl, b1⟩
    have h15 := QvR.below (b1.mono (by omega)) h7
    have h16 := SlI.below (b1.mono (by omega)) h8
    have k17 := k5.call b1
    have s18 : W2.heap.size ≤ W14.heap.size := b1.size
    have g19 := bthen g10 b1
    clear h7 h8 k5 g10 b1 c11 c12 c13
    have c20 := k17.cell' (i := 0) rfl
    have c21 := k17.cell' (i := 1) rfl
    have c22 := k17.cell' (i := 2) rfl
    go_wp2
    go_ret
    exact ⟨rfl, g19⟩
  have y1 : szLeft (1048576 : Int) (q.size) = (1048576 : Int) - (q.size : Nat) := by rw [szLeft, if_neg z1]
  have x1 : ¬ ((1048576 : Int) - ((q.size : Nat) : Int) < 0) := by omega
  go_enter Try.func4, Try.ntmps4
  go_wp2_with fail
  obtain ⟨W24, e25⟩ : ∃ W, W = w.alloc (.cells #[.int .i64 (q).v, .slice Auq (q).f.length cuq, .slice Cuq (q).t.length duq] 24) := ⟨_, rfl⟩
  rw [← e25]
  have b26 : Below w.heap.size w W24 := by rw [e25]; exact below_alloc _ _
  have k27 : Blk W24 w.heap.size 24 #[.int .i64 (q).v, .slice Auq (q).f.length cuq, .slice Cuq (q).t.length duq] := by rw [e25]; exact Blk.new _ _ _
  have s28 : w.heap.size < W24.heap.size := by rw [e25]; simp
  clear e25
  have h29 := QvR.below (b26.mono (by omega)) hq
  have h30 := SlI.below (b26.mono (by omega)) hx
  have s31 : w.heap.size ≤ W24.heap.size := b26.size
  have g32 := bthen g0 b26
  clear hq hx g0 b26
  have c33 := k27.cell' (i := 0) rfl
  have c34 := k27.cell' (i := 1) rfl
  have c35 := k27.cell' (i := 2) rfl
  refine (szQuiver_any _ _ (1048576 : Int) _ (QvR.more (by omega) h29) (by omega) (by omega)).mono ?_; rintro e W36 ⟨rfl, b23⟩
  have h37 := QvR.below (b23.mono (by omega)) h29
  have h38 := SlI.below (b23.mono (by omega)) h30
  have k39 := k27.call b23
  have s40 : W24.heap.size ≤ W36.heap.size := b23.size
  have g41 := bthen g32 b23
  clear h29 h30 k27 g32 b23 c33 c34 c35
  have c42 := k39.cell' (i := 0) rfl
  have c43 := k39.cell' (i := 1) rfl
  have c44 := k39.cell' (i := 2) rfl
  go_wp2_with fail
  refine (quiv_to _ _ _ (QvR.more (by omega) h37) (by omega)).mono ?_; rintro e W48 ⟨v45, rfl, h46, b47⟩
  have h49 := QvR.below (b47.mono (by omega)) h37
  have h50 := SlI.below (b47.mono (by omega)) h38
  have k51 := k39.call b47
  have s52 : W36.heap.size ≤ W48.heap.size := b47.size
  have g53 := bthen g41 b47
  clear h37 h38 k39 g41 b47 c42 c43 c44
  have c54 := k51.cell' (i := 0) rfl
  have c55 := k51.cell' (i := 1) rfl
  have c56 := k51.cell' (i := 2) rfl
  go_wp2_with fail
  refine (ints_to _ _ _ (SlI.more (by omega) h50) (by omega)).mono ?_; rintro e W60 ⟨v57, rfl, h58, b59⟩
  have h61 := QvR.below (b59.mono (by omega)) h49
  have h62 := SlI.below (b59.mono (by omega)) h50
  have h63 := h46.below b59
  have k64 := k51.call b59
  have s65 : W48.heap.size ≤ W60.heap.size := b59.size
  have g66 := bthen g53 b59
  clear h49 h50 h46 k51 g53 b59 c54 c55 c56
  have c67 := k64.cell' (i := 0) rfl
  have c68 := k64.cell' (i := 1) rfl
  have c69 := k64.cell' (i := 2) rfl
  go_wp2_with fail
  refine (specIsInjectiveRoot_any _ _ _ _ _ h63.rd h58.rd).mono ?_; rintro e W71 ⟨rfl, b70⟩
  have h72 := QvR.below (b70.mono (by omega)) h61
  have h73 := SlI.below (b70.mono (by omega)) h62
  have h74 := h63.below b70
  have h75 := h58.below b70
  have k76 := k64.call b70
  have s77 : W60.heap.size ≤ W71.heap.size := b70.size
  have g78 := bthen g66 b70
  clear h61 h62 h63 h58 k64 g66 b70 c67 c68 c69
  have c79 := k76.cell' (i := 0) rfl
  have c80 := k76.cell' (i := 1) rfl
  have c81 := k76.cell' (i := 2) rfl
  clear h74
  clear h75
  go_wp2_with fail
  refine (quiv_to _ _ _ (QvR.more (by omega) h72) (by omega)).mono ?_; rintro e W85 ⟨v82, rfl, h83, b84⟩
  have h86 := QvR.below (b84.mono (by omega)) h72
  have h87 := SlI.below (b84.mono (by omega)) h73
  have k88 := k76.call b84
  have s89 : W71.heap.size ≤ W85.heap.size := b84.size
  have g90 := bthen g78 b84
  clear h72 h73 k76 g78 b84 c79 c80 c81
  have c91 := k88.cell' (i := 0) rfl
  have c92 := k88.cell' (i := 1) rfl
  have c93 := k88.cell' (i := 2) rfl
  obtain ⟨Ax94, cx94, Cx94, dx94, e95⟩ := h83.form
  subst e95
  have c99 := fun o => (k88.alloc o).cell' (i := 0) rfl
  have c100 := fun o => (k88.alloc o).cell' (i := 1) rfl
  have c101 := fun o => (k88.alloc o).cell' (i := 2) rfl
  go_wp2_with fail
  obtain ⟨W102, e103⟩ : ∃ W, W = W85.alloc (.cells #[.int .i64 (q).v, .slice Ax94 (q).f.length cx94, .slice Cx94 (q).t.length dx94] 27) := ⟨_, rfl⟩
  rw [← e103]
  have b104 : Below W85.heap.size W85 W102 := by rw [e103]; exact below_alloc _ _
  have k105 : Blk W102 W85.heap.size 27 #[.int .i64 (q).v, .slice Ax94 (q).f.length cx94, .slice Cx94 (q).t.length dx94] := by rw [e103]; exact Blk.new _ _ _
  have s106 : W85.heap.size < W102.heap.size := by rw [e103]; simp
  clear e103
  have h107 := QvR.below (b104.mono (by omega)) h86
  have h108 := SlI.below (b104.mono (by omega)) h87
  have h109 := h83.below b104
  have k110 := k88.call b104
  have s111 : W85.heap.size ≤ W102.heap.size := b104.size
  have g112 := bthen g90 b104
  clear h86 h87 h83 k88 g90 b104 c91 c92 c93 c99 c100 c101
  have c113 := k110.cell' (i := 0) rfl
  have c114 := k110.cell' (i := 1) rfl
  have c115 := k110.cell' (i := 2) rfl
  have c116 := k105.cell' (i := 0) rfl
  have c117 := k105.cell' (i := 1) rfl
  have c118 := k105.cell' (i := 2) rfl
  refine (ints_to _ _ _ (SlI.more (by omega) h108) (by omega)).mono ?_; rintro e W119 ⟨v96, rfl, h97, b98⟩
  have h120 := QvR.below (b98.mono (by omega)) h107
  have h121 := SlI.below (b98.mono (by omega)) h108
  have h122 := h109.below b98
  have k123 := k110.call b98
  have k124 := k105.call b98
  have s125 : W102.heap.size ≤ W119.heap.size := b98.size
  have g126 := bthen g112 b98
  clear h107 h108 h109 k110 k105 g112 b98 c113 c114 c115 c116 c117 c118
  have c127 := k123.cell' (i := 0) rfl
  have c128 := k123.cell' (i := 1) rfl
  have c129 := k123.cell' (i := 2) rfl
  have c130 := k124.cell' (i := 0) rfl
  have c131 := k124.cell' (i := 1) rfl
  have c132 := k124.cell' (i := 2) rfl
  go_wp2_with fail
  refine (implIsInjectiveRoot_any _ _ _ _ _ h122.rd h97.rd).mono ?_; rintro e W134 ⟨rfl, b133⟩
  have h135 := QvR.below (b133.mono (by omega)) h120
  have h136 := SlI.below (b133.mono (by omega)) h121
  have h137 := h122.below b133
  have h138 := h97.below b133
  have k139 := k123.call b133
  have k140 := k124.call b133
  have s141 : W119.heap.size ≤ W134.heap.size := b133.size
  have g142 := bthen g126 b133
  clear h120 h121 h122 h97 k123 k124 g126 b133 c127 c128 c129 c130 c131 c132
  have c143 := k139.cell' (i := 0) rfl
  have c144 := k139.cell' (i := 1) rfl
  have c145 := k139.cell' (i := 2) rfl
  have c146 := k140.cell' (i := 0) rfl
  have c147 := k140.cell' (i := 1) rfl
  have c148 := k140.cell' (i := 2) rfl
  go_wp2_with fail
  have b149 := drew_below W134
  have h150 := QvR.below (b149.mono (by omega)) h135
  have h151 := SlI.below (b149.mono (by omega)) h136
  have h152 := h137.below b149
  have h153 := h138.below b149
  have k154 := k139.call b149
  have k155 := k140.call b149
  have s156 : W134.heap.size ≤ W134.drew.heap.size := b149.size
  have g157 := bthen g142 b149
  clear h135 h136 h137 h138 k139 k140 g142 b149 c143 c144 c145 c146 c147 c148
  have c158 := k154.cell' (i := 0) rfl
  have c159 := k154.cell' (i := 1) rfl
  have c160 := k154.cell' (i := 2) rfl
  have c161 := k155.cell' (i := 0) rfl
  have c162 := k155.cell' (i := 1) rfl
  have c163 := k155.cell' (i := 2) rfl
  go_region_held3 (fun W' => W'.cell? ⟨w.heap.size, 0, none⟩ = some (.int .i64 (q).v) ∧ W'.cell? ⟨w.heap.size, 1, none⟩ = some (.slice Auq (q).f.length cuq) ∧ W'.cell? ⟨w.heap.size, 2, none⟩ = some (.slice Cuq (q).t.length duq) ∧ W'.cell? ⟨W85.heap.size, 0, none⟩ = some (.int .i64 (q).v) ∧ W'.cell? ⟨W85.heap.size, 1, none⟩ = some (.slice Ax94 (q).f.length cx94) ∧ W'.cell? ⟨W85.heap.size, 2, none⟩ = some (.slice Cx94 (q).t.length dx94))
    (first | exact ⟨c158, c159, c160, c161, c162, c163⟩ | exact ⟨c176, c177, c178, c179, c180, c181⟩ | exact ⟨c193, c194, c195, c196, c197, c198⟩)
    (first | (go_at_call 11; refine (quiv_to _ _ _ (QvR.more (by omega) h150) (by omega)).mono ?_; rintro e W167 ⟨v164, rfl, h165, b166⟩; have h168 := QvR.below (b166.mono (by omega)) h150; have h169 := SlI.below (b166.mono (by omega)) h151; have h170 := h152.below b166; have h171 := h153.below b166; have k172 := k154.call b166; have k173 := k155.call b166; have s174 : W134.drew.heap.size ≤ W167.heap.size := b166.size; have g175 := bthen g157 b166; clear h150 h151 h152 h153 k154 k155 g157 b166 c158 c159 c160 c161 c162 c163; have c176 := k172.cell' (i := 0) rfl; have c177 := k172.cell' (i := 1) rfl; have c178 := k172.cell' (i := 2) rfl; have c179 := k173.cell' (i := 0) rfl; have c180 := k173.cell' (i := 1) rfl; have c181 := k173.cell' (i := 2) rfl) | (go_at_call 14; refine (eqQuiver_any _ _ _ _ _ h170.rd h165.rd).mono ?_; rintro e W183 ⟨rfl, b182⟩; have h184 := QvR.below (b182.mono (by omega)) h168; have h185 := SlI.below (b182.mono (by omega)) h169; have h186 := h170.below b182; have h187 := h171.below b182; have h188 := h165.below b182; have k189 := k172.call b182; have k190 := k173.call b182; have s191 : W167.heap.size ≤ W183.heap.size := b182.size; have g192 := bthen g175 b182; clear h168 h169 h170 h171 h165 k172 k173 g175 b182 c176 c177 c178 c179 c180 c181; have c193 := k189.cell' (i := 0) rfl; have c194 := k189.cell' (i := 1) rfl; have c195 := k189.cell' (i := 2) rfl; have c196 := k190.cell' (i := 0) rfl; have c197 := k190.cell' (i := 1) rfl; have c198 := k190.cell' (i := 2) rfl))
  clear h188
  go_wp2_with fail
  refine (ints_to _ _ _ (SlI.more (by omega) h185) (by omega)).mono ?_; rintro e W202 ⟨v199, rfl, h200, b201⟩
  have h203 := QvR.below (b201.mono (by omega)) h184
  have h204 := SlI.below (b201.mono (by omega)) h185
  have h205 := h186.below b201
  have h206 := h187.below b201
  have k207 := k189.call b201
  have k208 := k190.call b201
  have s209 : W183.heap.size ≤ W202.heap.size := b201.size
  have g210 := bthen g192 b201
  clear h184 h185 h186 h187 k189 k190 g192 b201 c193 c194 c195 c196 c197 c198
  have c211 := k207.cell' (i := 0) rfl
  have c212 := k207.cell' (i := 1) rfl
  have c213 := k207.cell' (i := 2) rfl
  have c214 := k208.cell' (i := 0) rfl
  have c215 := k208.cell' (i := 1) rfl
  have c216 := k208.cell' (i := 2) rfl
  go_wp2_with fail
  refine (eqIntS_any _ _ _ _ _ h206.rd h200.rd).mono ?_; rintro e W218 ⟨rfl, b217⟩
  have h219 := QvR.below (b217.mono (by omega)) h203
  have h220 := SlI.below (b217.mono (by omega)) h204
  have h221 := h205.below b217
  have h222 := h206.below b217
  have h223 := h200.below b217
  have k224 := k207.call b217
  have k225 := k208.call b217
  have s226 : W202.heap.size ≤ W218.heap.size := b217.size
  have g227 := bthen g210 b217
  clear h203 h204 h205 h206 h200 k207 k208 g210 b217 c211 c212 c213 c214 c215 c216
  have c228 := k224.cell' (i := 0) rfl
  have c229 := k224.cell' (i := 1) rfl
  have c230 := k224.cell' (i := 2) rfl
  have c231 := k225.cell' (i := 0) rfl
  have c232 := k225.cell' (i := 1) rfl
  have c233 := k225.cell' (i := 2) rfl
  clear h223
  go_wp2
  go_ret
  exact ⟨rfl, g227⟩
end Go.Proofs.Ytgbchoenmpoojaa

/- FnExactIsInjectiveRoot is proved: for every argument the program's IsInjectiveRoot returns what the reference's returns, leaves its arguments as they were, and returns memory of its own. No condition. -/
namespace Go.Proofs.Ytgbchoenmpoojaa
set_option linter.unusedVariables false
set_option linter.unusedSimpArgs false
open Go.RowKit Go.ChangeShapes Go.WideShapes Go.ChangeAt Go.Deep

set_option maxRecDepth 100000 in
theorem isInjectiveRoot_lifted (os : Os) (started : os.Started) (H : Type) (enc : TypeId × Value → H) :
    ReturnsInHanded {} Try.checked os 4 .any (Rows.fnExactIsInjectiveRootSpec.pre6 enc Try.prog Try.f4 Rows.fnExactIsInjectiveRootRow.domain false) (Rows.fnExactIsInjectiveRootSpec.post enc Try.prog Try.f4 false true false false) := by
  refine lift_law started (by kernel_rfl) Try.func4 (ChangeSpec.witness6 (enc := enc) (C := Try.checked) false ⟨#[], #[.agg #[.int .i64 0, .slice none 0 0, .slice none 0 0], .slice none 0 0], []⟩ 8 (by kernel_rfl) (by kernel_rfl) (by kernel_rfl) (by kernel_rfl))
    rfl rfl (by rw [Try.params4]; intro t ht; simp only [List.mem_cons, List.not_mem_nil, or_false] at ht; rcases ht with rfl | rfl <;> exact ⟨by kernel_rfl, of_decide_eq_true (by kernel_rfl)⟩) (fun ds hl => by rw [Try.params4] at hl; match ds, hl with | [_, _], _ => rfl) ?_
  intro W args ds ps base hval hA hwt
  rw [Try.params4] at hA hval hwt
  obtain ⟨v0, v1, d0, d1, p0, p1, hargs, rfl, rfl, h0, h1⟩ := trodAll_two hA
  obtain rfl : args = #[v0, v1] := by cases args; simp_all
  obtain ⟨x0, r0⟩ := argQuiver (hval 0 _ _ rfl rfl) h0 (hwt 0 _ _ rfl rfl)
  obtain ⟨x1, r1⟩ := argInts (hval 1 _ _ rfl rfl) h1 (hwt 1 _ _ rfl rfl)
  exact lawIsInjectiveRoot_any _ _ _ _ W r0 r1

theorem isInjectiveRoot_closed : joinedFacts Try.prog 4 Try.f4 Rows.fnExactIsInjectiveRootSpec Rows.fnExactIsInjectiveRootRow = true := by
  unfold joinedFacts
  refine band (band (band (band (band (band (band ?_ seatEnter) seatLifts) seatMake) ?_) ?_) ?_) ?_ <;> kernel_rfl

theorem isInjectiveRoot_holds : Rows.FnExactIsInjectiveRootSaid :=
  OpenClaim.holds_of_wide 4 Try.f4 rfl rfl rfl rfl rfl rfl rfl ⟨rfl, rfl, rfl, rfl, rfl⟩ rfl rfl rfl rfl rfl (by kernel_rfl) Try.func4 isInjectiveRoot_closed
    (of_decide_eq_true (by kernel_rfl)) (by unfold Func.isWrapper; first | (rw [if_pos (by decide +kernel)]; kernel_rfl) | (rw [if_neg (by decide +kernel)]; exact ⟨rfl, rfl⟩))
    (fun os started H enc _ => isInjectiveRoot_lifted os started H enc)
#print axioms isInjectiveRoot_holds
end Go.Proofs.Ytgbchoenmpoojaa
