/- FnExactRootRep: the law holds for every argument. Part 4 of 18 of the proof: Rev, Rept. No condition. -/
import Derived.Test.YtcmlflppndfdcaaGreatBRootRep3
import Derived.Ground.NamesProg
import Derived.Ground.Names2Prog
import Derived.Shelf.Lay
import Derived.Shelf.Slices.Reverse
import Derived.Lib.OwnBridge
import Derived.Shelf.Bits.Mul64
import Derived.Laws.CopyRow
import Derived.Laws.IdiomCopy
set_option linter.unusedVariables false
set_option linter.unusedSimpArgs false
namespace Go.Proofs.YtcmlflppndfdcaaGreat
open Go.RowKit
end Go.Proofs.YtcmlflppndfdcaaGreat
namespace Go.Proofs
open Go.Shelf
def Tryz.laysMul_ren : Go.Shelf.Ren := ⟨fun | 212 => 97 | 263 => 129 | 264 => 130 | n => n, fun | 46 => 112 | 51 => 128 | 146 => 129 | 53 => 131 | 148 => 132 | n => n, fun | n => n⟩
theorem Tryz.laysMul : Go.Proofs.Lays.n212 Tryz.prog Tryz.laysMul_ren := {
 mixed := by kernel_rfl
 f212 := Tryz.func97.trans (congrArg some (by kernel_rfl))
 f263 := Tryz.func129.trans (congrArg some (by kernel_rfl))
 f264 := Tryz.func130.trans (congrArg some (by kernel_rfl))
 t46 := Tryz.underlying112
 a46 := Tryz.isAgg112
 z46 := Tryz.sizeOf112
 v46 := Tryz.zeroValue112
 t51 := Tryz.underlying128
 a51 := Tryz.isAgg128
 z51 := Tryz.sizeOf128
 v51 := Tryz.zeroValue128
 t53 := Tryz.underlying131
 a53 := Tryz.isAgg131
 z53 := Tryz.sizeOf131
 v53 := Tryz.zeroValue131
 t146 := Tryz.underlying129
 a146 := Tryz.isAgg129
 z146 := Tryz.sizeOf129
 v146 := Tryz.zeroValue129
 t148 := Tryz.underlying132
 a148 := Tryz.isAgg132
 z148 := Tryz.sizeOf132
 v148 := Tryz.zeroValue132 }
end Go.Proofs
namespace Go.Proofs.YtcmlflppndfdcaaGreat
open Go.RowKit
theorem bitsMul_any (N : Nat) (hN : N ≤ 10) (w : World) :
  Calls Tryz.prog 97 #[.int .u64 1, .int .u64 N] w fun e w' => e = .returned (.tuple #[.int .u64 0, .int .u64 N]) ∧ w' = w := by
 have h := Any.bits_Mul Tryz.laysMul 1 N (by omega) (by omega) w
 rw [Nat.one_mul, Nat.div_eq_of_lt (by omega), Nat.mod_eq_of_lt (by omega)] at h
 exact h
def repC (m : Int) (N j : Nat) : Array Value := (List.replicate j (Value.int .i64 m) ++ List.replicate (N - j) (Value.int .i64 0)).toArray
theorem repC_0 (m : Int) (N : Nat) : repC m N 0 = mkCells (.int .i64 0) N := by
 apply Array.toList_inj.1
 have : (mkCells (.int .i64 0) N).toList = List.replicate N (.int .i64 0) := toList_madeCells_one _ _
 rw [this]; simp [repC]
theorem repC_copy (m : Int) {N j k : Nat} (hj : j + k ≤ N) : ((repC m N j).toList.take j ++ List.replicate k (Value.int .i64 m) ++ (repC m N j).toList.drop (j + k)).toArray = repC m N (j + k) := by
 apply Array.toList_inj.1
 simp only [repC]
 rw [List.take_left' (by simp), ← List.drop_drop, List.drop_left' (by simp), List.drop_replicate, List.replicate_append_replicate]
 congr 2; omega
theorem setRow_blk {w : World} {g : Nat} {t : TypeId} {cs cs' : Array Value} (h : Blk w g t cs) : Blk (w.setRow g cs') g t cs' := setRow_heap w g cs cs' t (0, 0) h
theorem setRow_grown (w : World) (g : Nat) (cs : Array Value) : w.grownBy (w.setRow g cs) (some g) := ⟨rfl, rfl, rfl, by simp, fun k _ hk => setRow_other w g k cs (fun e => hk (by rw [e]))⟩
theorem rep_own {w : World} {base g N : Nat} {m : Int} (h : Blk w g 3 (repC m N N)) (hb : base ≤ g) (hN : N ≤ 10) (hm : I64 m) : OwnI w base (.slice (some ⟨g, 0, none⟩) N N) (List.replicate N m) := by
 have h1 := h.own (base := base) (n := N) (cap := N) (size := 1) hb (Nat.le_refl _) (by simp only [maxLen]; omega) (by simp [repC])
 have e : (repC m N N).toList.take (N * 1) = (List.replicate N m).map (Value.int .i64) := by simp [repC]
 rw [e] at h1
 exact ⟨by simpa using h1, by simp; omega, fun x hx => by obtain ⟨_, rfl⟩ := List.mem_replicate.1 hx; exact hm⟩
set_option maxRecDepth 100000 in
set_option maxHeartbeats 1600000 in
theorem repeat1_any (u : Value) (m : Int) (N : Nat) (w : World) (hu : SlI w w.heap.size u [m]) (hN : N ≤ 10) :
  Calls Tryz.prog 52 #[u, .int .i64 N] w fun e w' => ∃ v, e = .returned v ∧ OwnI w' w.heap.size v (List.replicate N m) ∧ Below w.heap.size w w' := by
 obtain ⟨A, c, rfl, _, _, _, hx⟩ := hu.open_
 obtain ⟨b, o, x, rfl, hb, HX, x1, hxr⟩ := SlI.at_ (k := 0) hx (by simp)
 have HX := HX.out
 simp only [List.getElem?_cons_zero, Option.some.injEq] at HX
 subst HX
 simp only [Nat.add_zero] at x1
 clear hu hx
 obtain ⟨i0, hi, hz0, hz1, hz2⟩ := info_parts infoInt
 have hsz : (Tryz.prog.info? 3).map (·.size) = some 1 := by rw [hi]; simp [hz1]
 have hmk := run_mk (P := Tryz.prog) Tryz.underlying22 hi hz0 (n := N) (by rw [hz2]; omega) (by omega)
 rw [hz1] at hmk
 clear hi hz0 hz1 hz2
 have hB0 : Blk (w.alloc (.cells (mkCells (.int .i64 0) N) 3)) w.heap.size 3 (repC m N 0) := by rw [repC_0]; exact Blk.new _ _ _
 have hw0 := below_alloc w (.cells (mkCells (.int .i64 0) N) 3)
 obtain ⟨W0, hW0⟩ : ∃ W0, w.alloc (.cells (mkCells (.int .i64 0) N) 3) = W0 := ⟨_, rfl⟩
 have hx0 := bcell hw0 hb x1
 simp only [Nat.mul_one] at hW0 hmk
 rw [hW0] at hB0 hw0 hx0
 rcases Nat.eq_zero_or_pos N with rfl | hp
 ·have hcp := run_copy_none (P := Tryz.prog) W0 22 22 3 3 (some ⟨w.heap.size, 0, none⟩) (some ⟨b, o, none⟩) 0 0 1 c Tryz.underlying22 hsz rfl
  clear hx0
  simp only [show ((0 : Nat) : Int) = 0 from rfl, goInt] at hmk hcp
  have hbm := bitsMul_any 0 (by omega) w
  simp only [show ((0 : Nat) : Int) = 0 from rfl] at hbm ⊢
  have HB := Lib.hid hB0
  clear hB0
  go_enter Tryz.func52, Tryz.ntmps52
  go_wp2_with fail
  refine hbm.mono ?_; rintro e w1 ⟨rfl, rfl⟩
  clear hbm
  go_wp2
  refine wp_loop_rounds 1 ?_
  rw [rounds_succ]
  go_wp2
  go_ret
  exact ⟨_, rfl, rep_own HB.out (Nat.le_refl _) (by omega) hxr, hw0⟩
 ·have hcp := run_copy_row (P := Tryz.prog) W0 22 22 3 3 w.heap.size 0 N N ⟨b, o, none⟩ 1 c (repC m N 0) 3 [.int .i64 m] Tryz.underlying22 hsz hB0 (by simp only [List.length_singleton]; exact (Nat.min_eq_left hp).symm)
   (fun j v hj => by
    match j, hj with
    | 0, hj => simp at hj; subst hj; simpa [Addr.add] using hx0
    | j + 1, hj => simp at hj) (by simp [repC]; omega) (by intro v hv; simp at hv; subst hv; rfl)
  have e1 := repC_copy m (N := N) (j := 0) (k := 1) (by omega)
  simp only [List.replicate_succ, List.replicate_zero, List.length_singleton, Nat.zero_add] at e1 hcp
  rw [e1] at hcp
  have hB1 : Blk (W0.setRow w.heap.size (repC m N 1)) w.heap.size 3 (repC m N 1) := setRow_blk hB0
  have hw1 : Below w.heap.size w (W0.setRow w.heap.size (repC m N 1)) := hw0.grown (row := some w.heap.size) (setRow_grown _ _ _) hw0.size (fun k e => by injection e with e; omega)
  obtain ⟨W1, hW1⟩ : ∃ W1, W0.setRow w.heap.size (repC m N 1) = W1 := ⟨_, rfl⟩
  rw [hW1] at hcp hB1 hw1
  simp only [goInt, show ((1 : Nat) : Int) = 1 from rfl] at hcp
  clear hW1 e1 hx0 hB0
  have hcpa : ∀ (wq : World) (j : Nat), 1 ≤ j → j < N → Blk wq w.heap.size 3 (repC m N j) → (Builtin.copy_ #[22, 22] 3 #[.slice (some ⟨w.heap.size, j, none⟩) (N - j) (N - j), .slice (some ⟨w.heap.size, 0, none⟩) j N]).run Tryz.prog wq = .ok (.int .i64 (min j (N - j) : Nat)) (wq.setRow w.heap.size (repC m N (j + min j (N - j)))) := by
   intro wq j hj hjN hb
   have h := run_copy_row (P := Tryz.prog) wq 22 22 3 3 w.heap.size j (N - j) (N - j) ⟨w.heap.size, 0, none⟩ j N (repC m N j) 3 (List.replicate (min j (N - j)) (.int .i64 m)) Tryz.underlying22 hsz hb (by simp)
    (fun i v hi => by
     rw [List.getElem?_replicate] at hi
     split at hi
     ·injection hi with hi
      subst hi
      have : i < j := by omega
      have e : (⟨w.heap.size, 0, none⟩ : Addr).add i = ⟨w.heap.size, i, none⟩ := by unfold Addr.add; split <;> simp_all
      rw [e]
      exact hb.cell' (i := i) (v := .int .i64 m) (by simp [repC, List.getElem?_append, this])
     ·cases hi) (by simp [repC]; omega) (by intro v hv; obtain ⟨_, rfl⟩ := List.mem_replicate.1 hv; rfl)
   rw [List.length_replicate, repC_copy m (by omega)] at h
   exact h
  go_enter Tryz.func52, Tryz.ntmps52
  go_wp2_with fail
  refine (bitsMul_any N (by omega) _).mono ?_; rintro e w1 ⟨rfl, rfl⟩
  go_wp2
  go_loopw [8] (fun v wr => ∃ j : Nat, 1 ≤ j ∧ j ≤ N ∧ v = .int .i64 j ∧ Blk wr w1.heap.size 3 (repC m N j) ∧ Below w1.heap.size w1 wr) (fun v _ => N - (intOf v).toNat)
  case atStart => exact ⟨1, by omega, by omega, rfl, hB1, hw1⟩
  case round =>
   obtain ⟨j, hj1, hjN, rfl, hbj, hbel⟩ := hrel
   by_cases hlt : j < N
   ·have hcj := hcpa wr j hj1 hlt hbj
    have hcj2 := hcpa wr.drew j hj1 hlt hbj
    have hmo : Tryz.prog.follows .mixedOrders = true := by kernel_rfl
    go_wp2_with fail
    go_region_o
    go_wp2
    go_roundw
    case rel => exact ⟨j + min j (N - j), by omega, by omega, by rw [Int.natCast_add], setRow_blk (w := wr.drew) hbj, (hbel.drew).grown (row := some w1.heap.size) (setRow_grown _ _ _) hbel.size (fun k e => by injection e with e; omega)⟩
    case measure => simp only [intOf]; omega
   ·obtain rfl : j = N := by omega
    clear hcp hmk
    go_wp2
    go_ret
    exact ⟨_, rfl, rep_own hbj (Nat.le_refl _) hN hxr, hbel⟩
theorem boxes_any (u : Value) (w : World) (hu : ∃ A l c, u = .slice A l c ∧ l ≤ c) : Calls Tryz.prog 51 #[u] w fun e w' => e = .returned (.func (.func 96) #[] #[.pointer (some ⟨w.heap.size, 0, none⟩)]) ∧ w' = w.alloc (.cells #[u] 22) := by
 obtain ⟨A, l, c, rfl, hc⟩ := hu
 go_enter Tryz.func51, Tryz.ntmps51
 go_wp2
 go_ret
 exact ⟨rfl, rfl⟩
end Go.Proofs.YtcmlflppndfdcaaGreat
