/- The two OrderOf. -/
import Derived.Test.YtbgjhnolnccnnaaIsQ
import Derived.Test.YtbgjhnolnccnnaaKit
namespace Go.Proofs.Ytbgjhnolnccnnaa
set_option linter.unusedVariables false
set_option linter.unusedSimpArgs false
open Go.RowKit

set_option maxHeartbeats 400000 in
theorem l4Has_any (u : Value) (xs : List Int) (v : Int) (w : World) (hu : SlI w w.heap.size u xs) :
    Calls Try.prog 101 #[u, .int .i64 v] w fun e w' => e = .returned (.bool (decide (v ∈ xs))) ∧ Below w.heap.size w w' := by
  obtain ⟨A, c, rfl, _, _, hn, hx⟩ := hu.open_
  clear hu
  go_enter Try.func101, Try.ntmps101
  go_wp2
  go_loopw [5] (fun i wr => ∃ k m : Nat, k ≤ xs.length ∧ i = .int .i64 k ∧ wr = w.drewN m ∧ Hid (∀ y ∈ xs.take k, y ≠ v)) (fun i _ => xs.length - (intOf i).toNat)
  case atStart => exact ⟨0, 0, Nat.zero_le _, rfl, rfl, by intro y hy; simp at hy⟩
  case round =>
    obtain ⟨k, m, hk, rfl, rfl, hno⟩ := hrel
    by_cases hlt : k < xs.length
    · obtain ⟨b, o, x, rfl, hb, HX, c1, _⟩ := SlI.at_ hx hlt
      clear hx
      rcases hvx : (x == v) with _ | _
      · go_wp2
        go_roundw
        case rel =>
          refine ⟨k + 1, m, by omega, by go_num, rfl, fun y hy => ?_⟩
          rw [take_snoc HX.out, List.mem_append, List.mem_singleton] at hy
          rcases hy with hy | rfl
          · exact hno.out y hy
          · simpa using hvx
        case measure => simp [intOf]; omega
      · have hfin : Hid (decide (v ∈ xs) = true) := by
          show _ = _
          rw [beq_iff_eq] at hvx
          subst hvx
          simpa using List.mem_of_getElem? HX.out
        go_wp2
        go_ret
        exact ⟨by rw [hfin.out]; rfl, drewN_below _ _ _⟩
    · go_wp2
      go_ret
      have h1 := hno.out
      rw [List.take_of_length_le (by omega)] at h1
      have : decide (v ∈ xs) = false := by simp; exact fun h => h1 v h rfl
      exact ⟨by rw [this]; rfl, drewN_below _ _ _⟩

/-- Whether arrows lead to v from those taken only. -/
def rdyAt (q : Qv) (taken : List Int) (v : Int) (k : Nat) : Bool := ((q.f.take k).zip (q.t.take k)).all fun p => !(p.2 == v) || decide (p.1 ∈ taken)
def rdy (q : Qv) (taken : List Int) (v : Int) : Bool := (q.f.zip q.t).all fun p => !(p.2 == v) || decide (p.1 ∈ taken)
theorem rdyAt_zero (q : Qv) (taken : List Int) (v : Int) : rdyAt q taken v 0 = true := by simp [rdyAt]
theorem rdyAt_succ {q : Qv} {taken : List Int} {v x y : Int} {k : Nat} (hx : q.f[k]? = some x) (hy : q.t[k]? = some y) : rdyAt q taken v (k + 1) = (rdyAt q taken v k && (!(y == v) || decide (x ∈ taken))) := by
  have h1 := lt_of_some hx
  have h2 := lt_of_some hy
  rw [rdyAt, take_snoc hx, take_snoc hy, List.zip_append (by simp; omega), List.all_append]
  simp [rdyAt]
theorem rdyAt_end {q : Qv} {taken : List Int} {v : Int} {k : Nat} (h1 : q.f.length ≤ k) (h2 : q.t.length ≤ k) : rdyAt q taken v k = rdy q taken v := by
  rw [rdyAt, List.take_of_length_le h1, List.take_of_length_le h2, rdy]
theorem rdy_bad {q : Qv} {taken : List Int} {v x y : Int} {k : Nat} (hx : q.f[k]? = some x) (hy : q.t[k]? = some y) (h : (!(y == v) || decide (x ∈ taken)) = false) : rdy q taken v = false := by
  rw [rdy, List.all_eq_false]
  refine ⟨(x, y), ?_, by simpa using h⟩
  rw [List.mem_iff_getElem?]
  exact ⟨k, by rw [List.getElem?_zip_eq_some]; exact ⟨hx, hy⟩⟩

set_option maxHeartbeats 800000 in
theorem isReady_any (u tv : Value) (q : Qv) (taken : List Int) (v : Int) (w : World) (hu : QvR w w.heap.size u q) (ht : SlI w w.heap.size tv taken) (hl : q.t.length ≤ q.f.length) :
    Calls Try.prog 174 #[u, .int .i64 v, tv] w fun e w' => e = .returned (.bool (rdy q taken v)) ∧ Below w.heap.size w w' := by
  obtain ⟨A, c, C, d, rfl, hf, hT, hr, lf, lt⟩ := hu.open_
  clear hu
  obtain ⟨W, hW⟩ : ∃ W, W = w.alloc (.cells #[.int .i64 q.v, .slice A q.f.length c, .slice C q.t.length d] 34) := ⟨_, rfl⟩
  have g0 : Below w.heap.size w W := by rw [hW]; exact below_alloc _ _
  have kB : Blk W w.heap.size 34 #[.int .i64 q.v, .slice A q.f.length c, .slice C q.t.length d] := by rw [hW]; exact Blk.new _ _ _
  have c1 := kB.cell' (i := 1) rfl
  have c2 := kB.cell' (i := 2) rfl
  have ht' := SlI.next g0 ht
  obtain ⟨TA, tc, rfl, _, _, _, _⟩ := ht.open_
  clear ht kB
  have e0 : w.heap.size ≤ W.heap.size := g0.size
  go_enter Try.func174, Try.ntmps174
  go_wp2_with fail
  rw [← hW]; clear hW
  go_loop [12] (fun i => ∃ k : Nat, k ≤ q.t.length ∧ i = .int .i64 k ∧ Hid (rdyAt q taken v k = true)) (fun i => q.t.length - (intOf i).toNat)
  case atStart => exact ⟨0, Nat.zero_le _, rfl, rdyAt_zero _ _ _⟩
  case round =>
    obtain ⟨k, hk, rfl, hok⟩ := hrel
    by_cases hlt : k < q.t.length
    · obtain ⟨b, o, y, rfl, hb, HY, y1, _⟩ := SlI.at_ hT hlt
      obtain ⟨b2, o2, x, rfl, hb2, HX, x1, _⟩ := SlI.at_ (k := k) hf (by omega)
      have y2 := bcell g0 hb y1
      have x2 := bcell g0 hb2 x1
      have hlf : k < q.f.length := by omega
      clear hf hT y1 x1
      rcases hyv : (y == v) with _ | _
      · have hst : Hid (rdyAt q taken v (k + 1) = true) := by show _ = _; rw [rdyAt_succ HX.out HY.out, hok.out, hyv]; rfl
        go_wp2
        go_round
        case rel => exact ⟨k + 1, by omega, by go_num, hst.out⟩
        case measure => simp [intOf]; omega
      · obtain ⟨B, hB⟩ : ∃ B, decide (x ∈ taken) = B := ⟨_, rfl⟩
        have HB := Lib.hid hB
        clear hB
        cases B
        · have hfin : Hid (rdy q taken v = false) := rdy_bad HX.out HY.out (by rw [hyv, HB.out]; rfl)
          go_wp2_with fail
          refine (contains_any _ taken x _ ht').mono ?_; rintro e w' ⟨rfl, rfl⟩
          rw [HB.out]
          go_wp2
          go_ret
          exact ⟨by rw [hfin.out]; rfl, g0⟩
        · have hst : Hid (rdyAt q taken v (k + 1) = true) := by show _ = _; rw [rdyAt_succ HX.out HY.out, hok.out, hyv, HB.out]; rfl
          go_wp2_with fail
          refine (contains_any _ taken x _ ht').mono ?_; rintro e w' ⟨rfl, rfl⟩
          rw [HB.out]
          go_wp2
          go_round
          case rel => exact ⟨k + 1, by omega, by go_num, hst.out⟩
          case measure => simp [intOf]; omega
    · have hfin : Hid (rdy q taken v = true) := by
        show _ = _
        have h := hok.out
        by_cases hkf : q.f.length ≤ k
        · rwa [rdyAt_end hkf (by omega)] at h
        · have h3 : (q.f.zip q.t) = (q.f.take k).zip (q.t.take k) := by
            simp only [List.zip]; rw [← List.take_zipWith, List.take_of_length_le (by simp; omega)]
          rw [rdy, h3]
          exact h
      go_wp2
      go_ret
      exact ⟨by rw [hfin.out]; rfl, g0⟩
end Go.Proofs.Ytbgjhnolnccnnaa
