/- Matrices of zeros; append of a matrix onto a row of the call's own. -/
import Derived.Test.YtjhllgldllbaaaaOwnI
import Derived.Test.YtjhllgldllbaaaaCopy2
namespace Go.Proofs.Ytjhllgldllbaaaa
set_option linter.unusedVariables false
set_option linter.unusedSimpArgs false
open Go.RowKit

def zmx (r c : Int) : Mx := ⟨r, c, List.replicate (r * c).toNat 0⟩

set_option maxHeartbeats 800000 in
theorem zero_any (r c : Int) (w : World) (hr : 0 ≤ r) (hc : 0 ≤ c) (hr2 : r ≤ 1000) (hc2 : c ≤ 1000) :
    Calls Try.prog 125 #[.int .i64 r, .int .i64 c] w fun e w' => ∃ v, e = .returned v ∧ MxO w' w.heap.size w'.heap.size v (zmx r c) ∧ Below w.heap.size w w' := by
  obtain ⟨n, rfl⟩ := Int.eq_ofNat_of_zero_le hr
  obtain ⟨m, rfl⟩ := Int.eq_ofNat_of_zero_le hc
  obtain ⟨N, hN⟩ : ∃ N, n * m = N := ⟨_, rfl⟩
  have hNb : N ≤ 1000000 := by
    have : n * m ≤ 1000 * 1000 := Nat.mul_le_mul (by omega) (by omega)
    omega
  have hmul : (n : Int) * m = (N : Int) := by rw [← hN]; simp
  have hw : wrap64 ((n : Int) * m) = (N : Int) := by rw [hmul]; exact IntWalk.wrap64_in _ ⟨by omega, by omega⟩
  have hZ : zmx n m = ⟨n, m, List.replicate N 0⟩ := by rw [zmx, hmul]; rfl
  rw [hZ]
  obtain ⟨i0, hi, hz0, hz1, hz2⟩ := info_parts infoInt
  have hmk := run_mk (P := Try.prog) Try.underlying22 hi hz0 (n := N) (by rw [hz2]; omega) (by omega)
  rw [hz1] at hmk
  have hN1 : (0 : Int) ≤ (n : Int) * m := by omega
  have hN2 : (n : Int) * m ≤ 1000000 := by omega
  clear hi hz0 hz1 hz2 hN hZ
  obtain ⟨W, hW⟩ : ∃ W, W = (w.alloc (.cells #[.int .i64 n, .int .i64 m, .slice (some ⟨w.heap.size + 1, 0, none⟩) N N] 75)).alloc (.cells (mkCells (.int .i64 0) N) 3) := ⟨_, rfl⟩
  have g0 : Below w.heap.size w W := by rw [hW]; exact ((Below.refl _ _).alloc (Nat.le_refl _) _).alloc (by simp) _
  have k1 : Blk W w.heap.size 75 #[.int .i64 n, .int .i64 m, .slice (some ⟨w.heap.size + 1, 0, none⟩) N N] := by rw [hW]; exact (Blk.new _ _ _).alloc _
  have ho : OwnI W (w.heap.size + 1) (.slice (some ⟨w.heap.size + 1, 0, none⟩) N N) (List.replicate N 0) := by
    rw [hW]
    have := OwnI.made0 (w := w.alloc (.cells #[.int .i64 n, .int .i64 m, .slice (some ⟨w.heap.size + 1, 0, none⟩) N N] 75)) (base := w.heap.size + 1) (N := N) (by simp) (by omega)
    simpa only [World.size_alloc] using this
  have r0 := k1.cell' (i := 0) rfl
  have r1 := k1.cell' (i := 1) rfl
  have r2 := k1.cell' (i := 2) rfl
  have HO := Lib.hid ho
  clear ho k1
  rw [Nat.mul_one] at hmk
  go_enter Try.func125, Try.ntmps125
  go_wp2
  rw [← hW]
  exact bodyPost_ret (v := .agg #[.int .i64 n, .int .i64 m, .slice (some ⟨w.heap.size + 1, 0, none⟩) N N]) (by simp [results, go_sem, r0, r1, r2]) rfl ⟨_, rfl, ⟨_, by simp, (IntsO.of_own HO.out).wider (by omega) (Nat.le_refl _), by simp only [I64]; omega, by simp only [I64]; omega⟩, g0⟩
set_option maxHeartbeats 800000 in
theorem l3Zero_any (r c : Int) (w : World) (hr : 0 ≤ r) (hc : 0 ≤ c) (hr2 : r ≤ 1000) (hc2 : c ≤ 1000) :
    Calls Try.prog 121 #[.int .i64 r, .int .i64 c] w fun e w' => ∃ v, e = .returned v ∧ MxO w' w.heap.size w'.heap.size v (zmx r c) ∧ Below w.heap.size w w' := by
  obtain ⟨n, rfl⟩ := Int.eq_ofNat_of_zero_le hr
  obtain ⟨m, rfl⟩ := Int.eq_ofNat_of_zero_le hc
  obtain ⟨N, hN⟩ : ∃ N, n * m = N := ⟨_, rfl⟩
  have hNb : N ≤ 1000000 := by
    have : n * m ≤ 1000 * 1000 := Nat.mul_le_mul (by omega) (by omega)
    omega
  have hmul : (n : Int) * m = (N : Int) := by rw [← hN]; simp
  have hw : wrap64 ((n : Int) * m) = (N : Int) := by rw [hmul]; exact IntWalk.wrap64_in _ ⟨by omega, by omega⟩
  have hZ : zmx n m = ⟨n, m, List.replicate N 0⟩ := by rw [zmx, hmul]; rfl
  rw [hZ]
  obtain ⟨i0, hi, hz0, hz1, hz2⟩ := info_parts infoInt
  have hmk := run_mk (P := Try.prog) Try.underlying22 hi hz0 (n := N) (by rw [hz2]; omega) (by omega)
  rw [hz1] at hmk
  have hN1 : (0 : Int) ≤ (n : Int) * m := by omega
  have hN2 : (n : Int) * m ≤ 1000000 := by omega
  clear hi hz0 hz1 hz2 hN hZ
  obtain ⟨W, hW⟩ : ∃ W, W = (w.alloc (.cells #[.int .i64 n, .int .i64 m, .slice (some ⟨w.heap.size + 1, 0, none⟩) N N] 75)).alloc (.cells (mkCells (.int .i64 0) N) 3) := ⟨_, rfl⟩
  have g0 : Below w.heap.size w W := by rw [hW]; exact ((Below.refl _ _).alloc (Nat.le_refl _) _).alloc (by simp) _
  have k1 : Blk W w.heap.size 75 #[.int .i64 n, .int .i64 m, .slice (some ⟨w.heap.size + 1, 0, none⟩) N N] := by rw [hW]; exact (Blk.new _ _ _).alloc _
  have ho : OwnI W (w.heap.size + 1) (.slice (some ⟨w.heap.size + 1, 0, none⟩) N N) (List.replicate N 0) := by
    rw [hW]
    have := OwnI.made0 (w := w.alloc (.cells #[.int .i64 n, .int .i64 m, .slice (some ⟨w.heap.size + 1, 0, none⟩) N N] 75)) (base := w.heap.size + 1) (N := N) (by simp) (by omega)
    simpa only [World.size_alloc] using this
  have r0 := k1.cell' (i := 0) rfl
  have r1 := k1.cell' (i := 1) rfl
  have r2 := k1.cell' (i := 2) rfl
  have HO := Lib.hid ho
  clear ho k1
  rw [Nat.mul_one] at hmk
  go_enter Try.func121, Try.ntmps121
  go_wp2
  rw [← hW]
  exact bodyPost_ret (v := .agg #[.int .i64 n, .int .i64 m, .slice (some ⟨w.heap.size + 1, 0, none⟩) N N]) (by simp [results, go_sem, r0, r1, r2]) rfl ⟨_, rfl, ⟨_, by simp, (IntsO.of_own HO.out).wider (by omega) (Nat.le_refl _), by simp only [I64]; omega, by simp only [I64]; omega⟩, g0⟩

/-! ### an append onto a row of elements T: what it leaves alone -/
structure AppT (T : TypeId) (lo : Nat) (w w' : World) : Prop where
  os : w'.os = w.os
  tape : w'.tape = w.tape
  output : w'.output = w.output
  size : w.heap.size ≤ w'.heap.size
  low : ∀ k, k < lo → k < w.heap.size → w'.heap[k]? = w.heap[k]?
  other : ∀ g t cs, t ≠ T → Blk w g t cs → Blk w' g t cs
theorem AppT.of_below {T : TypeId} {lo : Nat} {w w' : World} (h : Below w.heap.size w w') : AppT T lo w w' := ⟨h.os, h.tape, h.output, h.size, fun k _ hk => h.block k hk, fun _ _ _ _ hb => hb.call h⟩
theorem AppT.trans {T : TypeId} {lo : Nat} {a b c : World} (h : AppT T lo a b) (k : AppT T lo b c) : AppT T lo a c :=
  ⟨k.os.trans h.os, k.tape.trans h.tape, k.output.trans h.output, Nat.le_trans h.size k.size, fun i hi hs => (k.low i hi (Nat.lt_of_lt_of_le hs h.size)).trans (h.low i hi hs), fun g t cs ht hb => k.other g t cs ht (h.other g t cs ht hb)⟩
theorem AppT.below {T : TypeId} {lo B : Nat} {w w' : World} (h : AppT T lo w w') (hB : B ≤ lo) (hs : B ≤ w.heap.size) : Below B w w' := ⟨h.os, h.tape, h.output, h.size, fun k hk => h.low k (by omega) (by omega)⟩
theorem OwnI.appT {T : TypeId} {lo base : Nat} {w w' : World} {v : Value} {l : List Int} (h : OwnI w base v l) (hT : 3 ≠ T) (ha : AppT T lo w w') : OwnI w' base v l := by
  refine ⟨⟨h.1.1, ?_⟩, h.2⟩
  rcases h.1.2 with h1 | ⟨g, cap, cur, e, hg, hh, rest⟩
  · exact .inl h1
  · exact .inr ⟨g, cap, cur, e, hg, ha.other g _ cur hT hh, rest⟩
theorem IntsO.appT {T : TypeId} {lo l1 h1 : Nat} {w w' : World} {v : Value} {l : List Int} (h : IntsO w l1 h1 v l) (hT : 3 ≠ T) (ha : AppT T lo w w') : IntsO w' l1 h1 v l := ⟨h.1.appT hT ha, h.2⟩
theorem Fam.appT {T : TypeId} {lo l1 h1 : Nat} {w w' : World} {L : List (Value × List Int)} (h : Fam w l1 h1 L) (hT : 3 ≠ T) (ha : AppT T lo w w') : Fam w' l1 h1 L := ⟨fun p hp => (h.1 p hp).appT hT ha, h.2⟩
theorem AppT.set {T T' : TypeId} {lo g i : Nat} {w : World} {cs : Array Value} {u : Value} (hb : Blk w g T' cs) (hT : T' = T) (hg : lo ≤ g) : AppT T lo w (w.setCell ⟨g, i, none⟩ u) := by
  subst hT
  refine ⟨rfl, rfl, rfl, by simp [World.setCell], fun k hk _ => Below.heap_setCell _ _ _ _ (by simp; omega), fun g' t cs' ht hb' => ?_⟩
  refine hb'.far ?_ u
  rintro rfl
  unfold Blk at hb hb'
  rw [hb] at hb'
  injection hb' with hb'
  injection hb' with _ hb'
  exact ht hb'.symm

/-- append of one matrix, out of the row of one element that Go lays first -/
theorem wpList_appM {w : World} {ops : Array Oper} {rest : List Oper} {o : Oper} {a : Act} {Q : Exit → Act → World → Prop} (hgd : o.guard = none) (s x : Operand)
    (ho : o.op = .call { callee := .builtin .append, args := #[s, x], argTypes := #[27, 27] })
    (lo hi : Nat) (v : Value) (vs : List Value) (ms : List Mx) (hs : a.eval s = v) (hown : OutM w lo hi v vs ms) (hl : vs.length = ms.length) (g c : Nat) (m : Mx) (u : Value) (hx : a.eval x = .slice (some ⟨g, 0, none⟩) 1 c) (hg : Blk w g 75 #[.int .i64 m.r, .int .i64 m.c, u]) (hu : u.oneCell' = true)
    (hn : ms.length ≤ 1000000) (hlo : lo ≤ w.heap.size)
    (h : ∀ v' w', OutM w' lo w'.heap.size v' (vs ++ [u]) (ms ++ [m]) → AppT 75 lo w w' → wpList Try.prog ops Q rest (a.put o.dst v') w') : wpList Try.prog ops Q (o :: rest) a w := by
  obtain ⟨i0, hi', hz0, hz1, hz2⟩ := info_parts infoMx
  have hcs := mxCs_snoc vs ms u m hl
  refine wpList_append_G w hgd s x _ ho lo 75 i0 _ 3 40 Try.underlying27 hi' hz0 hz1 hz2 rfl (by decide) v ms.length _ hs hown.1 _ 1 c [.int .i64 m.r, .int .i64 m.c, u] hx ⟨rfl, .inr ⟨g, 0, rfl, fun j y hj => ?_⟩⟩ ?_ (by simp only [maxLen]; omega) (by omega) hlo fun v' w' h1 h2 h3 => ?_
  · have hj3 := lt_of_some hj
    simp only [List.length_cons, List.length_nil] at hj3
    rw [Nat.zero_add]
    match j, hj with
    | 0, hj => rw [hg.cell]; exact hj
    | 1, hj => rw [hg.cell]; exact hj
    | 2, hj => rw [hg.cell]; exact hj
    | j + 3, hj => omega
  · intro y hy
    simp only [List.mem_cons, List.not_mem_nil, or_false] at hy
    rcases hy with rfl | rfl | rfl
    · rfl
    · rfl
    · exact hu
  · refine h v' w' ⟨?_, fun k hk => ?_, by simp; omega⟩ ⟨h2.os, h2.tape, h2.output, h2.size, fun k hk hks => h2.block k hks (fun e => ?_), fun g' t cs ht hb => hb.grown h2 (fun e => ?_)⟩
    · rw [hcs, List.length_append]
      exact h1
    · exact (h1.lt k hk).2
    · have := (hown.1.lt k e.symm).1
      omega
    · rcases hown.1.2 with ⟨rfl, _⟩ | ⟨g2, cap, cur, rfl, _, hh, _⟩
      · simp [Value.ownBlock] at e
      · have : g' = g2 := by simpa [Value.ownBlock] using e
        subst this
        unfold Blk at hb
        rw [hh] at hb
        injection hb with hb
        injection hb with _ hb
        exact ht hb.symm
end Go.Proofs.Ytjhllgldllbaaaa
