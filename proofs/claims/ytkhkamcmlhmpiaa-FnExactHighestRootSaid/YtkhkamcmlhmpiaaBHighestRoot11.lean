/- FnExactHighestRoot: for every argument the program's function returns what the reference's returns. Part 11 of 11 of the proof: RtX, LawHighestRoot, LawHighestRootRow. No condition. -/
import Derived.Test.YtkhkamcmlhmpiaaBHighestRoot10
/- CountRoots, HighestRoot, IsRoot: both sides. -/
namespace Go.Proofs.Ytkhkamcmlhmpiaa
set_option linter.unusedVariables false
set_option linter.unusedSimpArgs false
open Go.RowKit

def cntRt (q : Qv) : Int := if (rtsA q).2 = true then ((rtsA q).1.length : Int) else -1
def hiR (q : Qv) : List Int × Bool := if (rtsA q).2 = true ∧ conQ q = true then ((rtsA q).1.getD ((rtsA q).1.length - 1) [], true) else ([], false)
def isRtB (q : Qv) (x : List Int) : Bool := decide (x ∈ (rtsA q).1)
theorem rtsA_pos {q : Qv} (h : (rtsA q).2 = true) : 0 < (rtsA q).1.length := by
  rw [rtsA] at h ⊢
  split at h
  · rename_i hk
    rw [if_pos hk]
    have hv := (isQ_t.1 (fin_isQ hk)).1
    exact List.length_pos_of_mem ((rtsQ_mem hk).2 (isRt_uni hk (v := 0) (by omega)))
  · cases h
theorem rtsA_nil {q : Qv} (h : (rtsA q).2 = false) : (rtsA q).1 = [] := by
  rw [rtsA] at h ⊢
  split at h
  · cases h
  · rename_i hk; rw [if_neg hk]
set_option maxRecDepth 100000 in
set_option maxHeartbeats 1600000 in
theorem specCountRoots_any (u : Value) (q : Qv) (w0 : World) (hu : QvR w0 w0.heap.size u q) :
    Calls Try.prog 22 #[u] w0 fun e w' => e = .returned (.int .i64 (cntRt q)) ∧ Below w0.heap.size w0 w' := by
  have hu' := hu
  obtain ⟨A, c, C, d, rfl, hf, ht, hr, _⟩ := hu.open_
  clear hu hf ht
  obtain ⟨W, hW⟩ : ∃ W, W = w0.alloc (.cells #[.int .i64 q.v, .slice A q.f.length c, .slice C q.t.length d] 28) := ⟨_, rfl⟩
  have kB : Blk W w0.heap.size 28 #[.int .i64 q.v, .slice A q.f.length c, .slice C q.t.length d] := by rw [hW]; exact Blk.new _ _ _
  have g0 : Below w0.heap.size w0 W := by rw [hW]; exact below_alloc _ _
  have hq1 := QvR.next g0 hu'
  have c0 := kB.cell' (i := 0) rfl
  have c1 := kB.cell' (i := 1) rfl
  have c2 := kB.cell' (i := 2) rfl
  clear hu'
  have hdf : cntRt q = if (rtsA q).2 = true then ((rtsA q).1.length : Int) else -1 := rfl
  rcases hB : (rtsA q).2 with _ | _
  · have HF : Hid (cntRt q = -1) := by show _ = _; rw [hdf, if_neg (by rw [hB]; simp)]
    have HB := Lib.hid hB
    clear hB hdf
    go_enter Try.func22, Try.ntmps22
    go_wp2_with fail
    rw [← hW]; clear hW
    refine (specPositiveRoots_any _ q _ hq1).mono ?_; rintro e w1 ⟨v, rfl, hL, hb1⟩
    have hLr : SlII w1 w1.heap.size v (rtsA q).1 := by first | exact hL.rd | exact hL
    obtain ⟨LA, lc, hve, hlc1, hlc2, hlc3, hLr⟩ := hLr.open_
    subst hve
    have kB1 := kB.call hb1
    have hq2 := QvR.next hb1 hq1
    have g1 := bthen g0 hb1
    have gs1 := g0.size
    have gs2 := hb1.size
    clear c0 c1 c2 kB hq1 g0 hb1
    rw [HB.out]
    go_wp2
    go_ret
    exact ⟨by rw [HF.out]; rfl, g1⟩
  · have HF : Hid (cntRt q = ((rtsA q).1.length : Int)) := by show _ = _; rw [hdf, if_pos hB]
    have HB := Lib.hid hB
    clear hB hdf
    go_enter Try.func22, Try.ntmps22
    go_wp2_with fail
    rw [← hW]; clear hW
    refine (specPositiveRoots_any _ q _ hq1).mono ?_; rintro e w1 ⟨v, rfl, hL, hb1⟩
    have hLr : SlII w1 w1.heap.size v (rtsA q).1 := by first | exact hL.rd | exact hL
    obtain ⟨LA, lc, hve, hlc1, hlc2, hlc3, hLr⟩ := hLr.open_
    subst hve
    have kB1 := kB.call hb1
    have hq2 := QvR.next hb1 hq1
    have g1 := bthen g0 hb1
    have gs1 := g0.size
    have gs2 := hb1.size
    clear c0 c1 c2 kB hq1 g0 hb1
    rw [HB.out]
    go_wp2
    go_ret
    exact ⟨by rw [HF.out]; rfl, g1⟩
set_option maxRecDepth 100000 in
set_option maxHeartbeats 1600000 in
theorem implCountRoots_any (u : Value) (q : Qv) (w0 : World) (hu : QvR w0 w0.heap.size u q) :
    Calls Try.prog 23 #[u] w0 fun e w' => e = .returned (.int .i64 (cntRt q)) ∧ Below w0.heap.size w0 w' := by
  have hu' := hu
  obtain ⟨A, c, C, d, rfl, hf, ht, hr, _⟩ := hu.open_
  clear hu hf ht
  obtain ⟨W, hW⟩ : ∃ W, W = w0.alloc (.cells #[.int .i64 q.v, .slice A q.f.length c, .slice C q.t.length d] 28) := ⟨_, rfl⟩
  have kB : Blk W w0.heap.size 28 #[.int .i64 q.v, .slice A q.f.length c, .slice C q.t.length d] := by rw [hW]; exact Blk.new _ _ _
  have g0 : Below w0.heap.size w0 W := by rw [hW]; exact below_alloc _ _
  have hq1 := QvR.next g0 hu'
  have c0 := kB.cell' (i := 0) rfl
  have c1 := kB.cell' (i := 1) rfl
  have c2 := kB.cell' (i := 2) rfl
  clear hu'
  have hdf : cntRt q = if (rtsA q).2 = true then ((rtsA q).1.length : Int) else -1 := rfl
  rcases hB : (rtsA q).2 with _ | _
  · have HF : Hid (cntRt q = -1) := by show _ = _; rw [hdf, if_neg (by rw [hB]; simp)]
    have HB := Lib.hid hB
    clear hB hdf
    go_enter Try.func23, Try.ntmps23
    go_wp2_with fail
    rw [← hW]; clear hW
    refine (implPositiveRoots_any _ q _ hq1).mono ?_; rintro e w1 ⟨v, rfl, hL, hb1⟩
    have hLr : SlII w1 w1.heap.size v (rtsA q).1 := by first | exact hL.rd | exact hL
    obtain ⟨LA, lc, hve, hlc1, hlc2, hlc3, hLr⟩ := hLr.open_
    subst hve
    have kB1 := kB.call hb1
    have hq2 := QvR.next hb1 hq1
    have g1 := bthen g0 hb1
    have gs1 := g0.size
    have gs2 := hb1.size
    clear c0 c1 c2 kB hq1 g0 hb1
    rw [HB.out]
    go_wp2
    go_ret
    exact ⟨by rw [HF.out]; rfl, g1⟩
  · have HF : Hid (cntRt q = ((rtsA q).1.length : Int)) := by show _ = _; rw [hdf, if_pos hB]
    have HB := Lib.hid hB
    clear hB hdf
    go_enter Try.func23, Try.ntmps23
    go_wp2_with fail
    rw [← hW]; clear hW
    refine (implPositiveRoots_any _ q _ hq1).mono ?_; rintro e w1 ⟨v, rfl, hL, hb1⟩
    have hLr : SlII w1 w1.heap.size v (rtsA q).1 := by first | exact hL.rd | exact hL
    obtain ⟨LA, lc, hve, hlc1, hlc2, hlc3, hLr⟩ := hLr.open_
    subst hve
    have kB1 := kB.call hb1
    have hq2 := QvR.next hb1 hq1
    have g1 := bthen g0 hb1
    have gs1 := g0.size
    have gs2 := hb1.size
    clear c0 c1 c2 kB hq1 g0 hb1
    rw [HB.out]
    go_wp2
    go_ret
    exact ⟨by rw [HF.out]; rfl, g1⟩
set_option maxRecDepth 100000 in
set_option maxHeartbeats 1600000 in
theorem specHighestRoot_any (u : Value) (q : Qv) (w0 : World) (hu : QvR w0 w0.heap.size u q) :
    Calls Try.prog 32 #[u] w0 fun e w' => ∃ v, e = .returned (.tuple #[v, .bool (hiR q).2]) ∧ SlI w' w'.heap.size v (hiR q).1 ∧ Below w0.heap.size w0 w' := by
  have hu' := hu
  obtain ⟨A, c, C, d, rfl, hf, ht, hr, _⟩ := hu.open_
  clear hu hf ht
  obtain ⟨W, hW⟩ : ∃ W, W = w0.alloc (.cells #[.int .i64 q.v, .slice A q.f.length c, .slice C q.t.length d] 28) := ⟨_, rfl⟩
  have kB : Blk W w0.heap.size 28 #[.int .i64 q.v, .slice A q.f.length c, .slice C q.t.length d] := by rw [hW]; exact Blk.new _ _ _
  have g0 : Below w0.heap.size w0 W := by rw [hW]; exact below_alloc _ _
  have hq1 := QvR.next g0 hu'
  have c0 := kB.cell' (i := 0) rfl
  have c1 := kB.cell' (i := 1) rfl
  have c2 := kB.cell' (i := 2) rfl
  clear hu'
  have hdf : hiR q = if (rtsA q).2 = true ∧ conQ q = true then ((rtsA q).1.getD ((rtsA q).1.length - 1) [], true) else ([], false) := rfl
  rcases hB : (rtsA q).2 with _ | _
  · have HF : Hid (hiR q = ([], false)) := by show _ = _; rw [hdf, if_neg (by rw [hB]; simp)]
    have HB := Lib.hid hB
    clear hB hdf
    go_enter Try.func32, Try.ntmps32
    go_wp2_with fail
    rw [← hW]; clear hW
    refine (specPositiveRoots_any _ q _ hq1).mono ?_; rintro e w1 ⟨v, rfl, hL, hb1⟩
    have hLr : SlII w1 w1.heap.size v (rtsA q).1 := by first | exact hL.rd | exact hL
    obtain ⟨LA, lc, hve, hlc1, hlc2, hlc3, hLr⟩ := hLr.open_
    subst hve
    have kB1 := kB.call hb1
    have hq2 := QvR.next hb1 hq1
    have g1 := bthen g0 hb1
    have gs1 := g0.size
    have gs2 := hb1.size
    clear c0 c1 c2 kB hq1 g0 hb1
    rw [HB.out]
    go_wp2
    go_ret2
    rw [HF.out]
    exact ⟨_, rfl, ⟨_, 0, rfl, by simp, by omega, by simp, fun h => absurd h (by simp)⟩, by first | exact g1 | exact g1.alloc (g1.size) _⟩
  · have hpos := rtsA_pos hB
    rcases hC : conQ q with _ | _
    · have HF : Hid (hiR q = ([], false)) := by show _ = _; rw [hdf, if_neg (by rw [hC]; simp)]
      have HB := Lib.hid hB
      have HC := Lib.hid hC
      clear hB hC hdf
      go_enter Try.func32, Try.ntmps32
      go_wp2_with fail
      rw [← hW]; clear hW
      refine (specPositiveRoots_any _ q _ hq1).mono ?_; rintro e w1 ⟨v, rfl, hL, hb1⟩
      have hLr : SlII w1 w1.heap.size v (rtsA q).1 := by first | exact hL.rd | exact hL
      obtain ⟨LA, lc, hve, hlc1, hlc2, hlc3, hLr⟩ := hLr.open_
      subst hve
      have kB1 := kB.call hb1
      have hq2 := QvR.next hb1 hq1
      have g1 := bthen g0 hb1
      have gs1 := g0.size
      have gs2 := hb1.size
      clear c0 c1 c2 kB hq1 g0 hb1
      rw [HB.out]
      have c0 := kB1.cell' (i := 0) rfl
      have c1 := kB1.cell' (i := 1) rfl
      have c2 := kB1.cell' (i := 2) rfl
      go_wp2_with fail
      refine (specConnected_any _ q _ hq2).mono ?_; rintro e w2 ⟨rfl, hb2⟩
      rw [HC.out]
      have g1 := bthen g1 hb2
      go_wp2
      go_ret2
      rw [HF.out]
      exact ⟨_, rfl, ⟨_, 0, rfl, by simp, by omega, by simp, fun h => absurd h (by simp)⟩, by first | exact g1 | exact g1.alloc (g1.size) _⟩
    · have HF : Hid (hiR q = ((rtsA q).1.getD ((rtsA q).1.length - 1) [], true)) := by show _ = _; rw [hdf, if_pos ⟨hB, hC⟩]
      have HB := Lib.hid hB
      have HC := Lib.hid hC
      clear hB hC hdf
      go_enter Try.func32, Try.ntmps32
      go_wp2_with fail
      rw [← hW]; clear hW
      refine (specPositiveRoots_any _ q _ hq1).mono ?_; rintro e w1 ⟨v, rfl, hL, hb1⟩
      have hLr : SlII w1 w1.heap.size v (rtsA q).1 := by first | exact hL.rd | exact hL
      obtain ⟨LA, lc, hve, hlc1, hlc2, hlc3, hLr⟩ := hLr.open_
      subst hve
      have kB1 := kB.call hb1
      have hq2 := QvR.next hb1 hq1
      have g1 := bthen g0 hb1
      have gs1 := g0.size
      have gs2 := hb1.size
      clear c0 c1 c2 kB hq1 g0 hb1
      rw [HB.out]
      have c0 := kB1.cell' (i := 0) rfl
      have c1 := kB1.cell' (i := 1) rfl
      have c2 := kB1.cell' (i := 2) rfl
      go_wp2_with fail
      refine (specConnected_any _ q _ hq2).mono ?_; rintro e w2 ⟨rfl, hb2⟩
      rw [HC.out]
      have g1 := bthen g1 hb2
      have gs3 := hb2.size
      obtain ⟨L, hLe⟩ : ∃ L, (rtsA q).1 = L := ⟨_, rfl⟩
      rw [hLe] at hL hLr hpos HF hlc1 hlc3 ⊢
      obtain ⟨kl, hkl⟩ : ∃ kl : Nat, (L.length : Int) - 1 = (kl : Int) := ⟨L.length - 1, by omega⟩
      have hkL : kl < L.length := by omega
      have HKL := Lib.hid (show L.length - 1 = kl by omega)
      clear hLe
      obtain ⟨bl, ol, l, LA', lc', hA, hbl, HLX, cl, hl⟩ := SlII.at_ hLr hkL
      subst hA
      have cl2 := bcell hb2 hbl cl
      have hl2 := SlI.next hb2 hl
      have HFN : Hid (hiR q = (l, true)) := by
        show _ = _
        rw [HF.out, HKL.out, List.getD_eq_getElem?_getD, HLX.out]; rfl
      clear hl hL hLr cl hb2 hq2 HLX
      go_wp2
      go_ret2
      rw [HFN.out]
      exact ⟨_, rfl, hl2, g1⟩
set_option maxRecDepth 100000 in
set_option maxHeartbeats 1600000 in
theorem implHighestRoot_any (u : Value) (q : Qv) (w0 : World) (hu : QvR w0 w0.heap.size u q) :
    Calls Try.prog 33 #[u] w0 fun e w' => ∃ v, e = .returned (.tuple #[v, .bool (hiR q).2]) ∧ IntsO w' w0.heap.size w'.heap.size v (hiR q).1 ∧ Below w0.heap.size w0 w' := by
  have hu' := hu
  obtain ⟨A, c, C, d, rfl, hf, ht, hr, _⟩ := hu.open_
  clear hu hf ht
  obtain ⟨W, hW⟩ : ∃ W, W = w0.alloc (.cells #[.int .i64 q.v, .slice A q.f.length c, .slice C q.t.length d] 28) := ⟨_, rfl⟩
  have kB : Blk W w0.heap.size 28 #[.int .i64 q.v, .slice A q.f.length c, .slice C q.t.length d] := by rw [hW]; exact Blk.new _ _ _
  have g0 : Below w0.heap.size w0 W := by rw [hW]; exact below_alloc _ _
  have hq1 := QvR.next g0 hu'
  have c0 := kB.cell' (i := 0) rfl
  have c1 := kB.cell' (i := 1) rfl
  have c2 := kB.cell' (i := 2) rfl
  clear hu'
  have hdf : hiR q = if (rtsA q).2 = true ∧ conQ q = true then ((rtsA q).1.getD ((rtsA q).1.length - 1) [], true) else ([], false) := rfl
  rcases hB : (rtsA q).2 with _ | _
  · have HF : Hid (hiR q = ([], false)) := by show _ = _; rw [hdf, if_neg (by rw [hB]; simp)]
    have HB := Lib.hid hB
    clear hB hdf
    go_enter Try.func33, Try.ntmps33
    go_wp2_with fail
    rw [← hW]; clear hW
    refine (implPositiveRoots_any _ q _ hq1).mono ?_; rintro e w1 ⟨v, rfl, hL, hb1⟩
    have hLr : SlII w1 w1.heap.size v (rtsA q).1 := by first | exact hL.rd | exact hL
    obtain ⟨LA, lc, hve, hlc1, hlc2, hlc3, hLr⟩ := hLr.open_
    subst hve
    have kB1 := kB.call hb1
    have hq2 := QvR.next hb1 hq1
    have g1 := bthen g0 hb1
    have gs1 := g0.size
    have gs2 := hb1.size
    clear c0 c1 c2 kB hq1 g0 hb1
    rw [HB.out]
    go_wp2
    go_ret2
    rw [HF.out]
    exact ⟨_, rfl, IntsO.of_own (OwnI.nil _ _), g1⟩
  · have hpos := rtsA_pos hB
    rcases hC : conQ q with _ | _
    · have HF : Hid (hiR q = ([], false)) := by show _ = _; rw [hdf, if_neg (by rw [hC]; simp)]
      have HB := Lib.hid hB
      have HC := Lib.hid hC
      clear hB hC hdf
      go_enter Try.func33, Try.ntmps33
      go_wp2_with fail
      rw [← hW]; clear hW
      refine (implPositiveRoots_any _ q _ hq1).mono ?_; rintro e w1 ⟨v, rfl, hL, hb1⟩
      have hLr : SlII w1 w1.heap.size v (rtsA q).1 := by first | exact hL.rd | exact hL
      obtain ⟨LA, lc, hve, hlc1, hlc2, hlc3, hLr⟩ := hLr.open_
      subst hve
      have kB1 := kB.call hb1
      have hq2 := QvR.next hb1 hq1
      have g1 := bthen g0 hb1
      have gs1 := g0.size
      have gs2 := hb1.size
      clear c0 c1 c2 kB hq1 g0 hb1
      rw [HB.out]
      have c0 := kB1.cell' (i := 0) rfl
      have c1 := kB1.cell' (i := 1) rfl
      have c2 := kB1.cell' (i := 2) rfl
      go_wp2_with fail
      refine (implConnected_any _ q _ hq2).mono ?_; rintro e w2 ⟨rfl, hb2⟩
      rw [HC.out]
      have g1 := bthen g1 hb2
      go_wp2
      go_ret2
      rw [HF.out]
      exact ⟨_, rfl, IntsO.of_own (OwnI.nil _ _), g1⟩
    · have HF : Hid (hiR q = ((rtsA q).1.getD ((rtsA q).1.length - 1) [], true)) := by show _ = _; rw [hdf, if_pos ⟨hB, hC⟩]
      have HB := Lib.hid hB
      have HC := Lib.hid hC
      clear hB hC hdf
      go_enter Try.func33, Try.ntmps33
      go_wp2_with fail
      rw [← hW]; clear hW
      refine (implPositiveRoots_any _ q _ hq1).mono ?_; rintro e w1 ⟨v, rfl, hL, hb1⟩
      have hLr : SlII w1 w1.heap.size v (rtsA q).1 := by first | exact hL.rd | exact hL
      obtain ⟨LA, lc, hve, hlc1, hlc2, hlc3, hLr⟩ := hLr.open_
      subst hve
      have kB1 := kB.call hb1
      have hq2 := QvR.next hb1 hq1
      have g1 := bthen g0 hb1
      have gs1 := g0.size
      have gs2 := hb1.size
      clear c0 c1 c2 kB hq1 g0 hb1
      rw [HB.out]
      have c0 := kB1.cell' (i := 0) rfl
      have c1 := kB1.cell' (i := 1) rfl
      have c2 := kB1.cell' (i := 2) rfl
      go_wp2_with fail
      refine (implConnected_any _ q _ hq2).mono ?_; rintro e w2 ⟨rfl, hb2⟩
      rw [HC.out]
      have g1 := bthen g1 hb2
      have gs3 := hb2.size
      obtain ⟨L, hLe⟩ : ∃ L, (rtsA q).1 = L := ⟨_, rfl⟩
      rw [hLe] at hL hLr hpos HF hlc1 hlc3 ⊢
      obtain ⟨kl, hkl⟩ : ∃ kl : Nat, (L.length : Int) - 1 = (kl : Int) := ⟨L.length - 1, by omega⟩
      have hkL : kl < L.length := by omega
      have HKL := Lib.hid (show L.length - 1 = kl by omega)
      clear hLe
      obtain ⟨gl, cgl, hA, hg1, hg2, hg3, _, _⟩ := hL.at_ hpos
      injection hA with hA1 _ hA3
      subst hA1
      have hkg : L[kl]? = some L[kl] := List.getElem?_eq_getElem hkL
      obtain ⟨l, hle⟩ : ∃ l, L[kl] = l := ⟨_, rfl⟩
      rw [hle] at hkg
      subst hA3
      obtain ⟨u, cu, ou, _⟩ := hL.row hkg
      obtain ⟨UA, uc, hue, _, _⟩ := ou.1.form
      subst hue
      have cl2 := bcell hb2 hg3 cu
      have hl2 := ((ou.below hb2).wider (lo' := w0.heap.size) (hi' := w2.heap.size) (by omega) (by omega))
      have HFN : Hid (hiR q = (l, true)) := by
        show _ = _
        rw [HF.out, HKL.out, List.getD_eq_getElem?_getD, hkg]; rfl
      clear hL hLr cu ou hb2 hq2 hkg hle
      go_wp2
      go_ret2
      rw [HFN.out]
      exact ⟨_, rfl, hl2, g1⟩
end Go.Proofs.Ytkhkamcmlhmpiaa

/- The walk of FnExactHighestRoot, printed by program (wip/law.py) out of the contracts of what it calls. -/
namespace Go.Proofs.Ytkhkamcmlhmpiaa
set_option linter.unusedVariables false
set_option linter.unusedSimpArgs false
open Go.RowKit

set_option maxHeartbeats 1600000 in
set_option maxRecDepth 100000 in
theorem lawHighestRoot_any (uq : Value) (q : Qv) (w : World) (hq : QvR w w.heap.size uq q) :
    Calls Try.prog 7 #[uq] w fun e w' => e = .returned (.bool true) ∧ Below w.heap.size w w' := by
  obtain ⟨Auq, cuq, Cuq, duq, eq⟩ := QvR.form hq
  subst eq
  have lq := QvR.lens hq
  have g0 := Below.refl w.heap.size w
  by_cases z0 : (1048576 : Int) < (q.size : Nat)
  · have y0 : szLeft (1048576 : Int) (q.size) = -1 := by rw [szLeft, if_pos z0]
    go_enter Try.func7, Try.ntmps7
    go_wp2_with fail
    obtain ⟨W2, e3⟩ : ∃ W, W = w.alloc (.cells #[.int .i64 (q).v, .slice Auq (q).f.length cuq, .slice Cuq (q).t.length duq] 24) := ⟨_, rfl⟩
    rw [← e3]
    have b4 : Below w.heap.size w W2 := by rw [e3]; exact below_alloc _ _
    have k5 : Blk W2 w.heap.size 24 #[.int .i64 (q).v, .slice Auq (q).f.length cuq, .slice Cuq (q).t.length duq] := by rw [e3]; exact Blk.new _ _ _
    have s6 : w.heap.size < W2.heap.size := by rw [e3]; simp
    clear e3
    have h7 := QvR.below (b4.mono (by omega)) hq
    have s8 : w.heap.size ≤ W2.heap.size := b4.size
    have g9 := bthen g0 b4
    clear hq g0 b4
    have c10 := k5.cell' (i := 0) rfl
    have c11 := k5.cell' (i := 1) rfl
    have c12 := k5.cell' (i := 2) rfl
    refine (szQuiver_any _ _ (1048576 : Int) _ (QvR.more (by omega) h7) (by omega) (by omega)).mono ?_; rintro e W13 ⟨rfl, b1⟩
    have h14 := QvR.below (b1.mono (by omega)) h7
    have k15 := k5.call b1
    have s16 : W2.heap.size ≤ W13.heap.size := b1.size
    have g17 := bthen g9 b1
    clear h7 k5 g9 b1 c10 c11 c12
    have c18 := k15.cell' (i := 0) rfl
    have c19 := k15.cell' (i := 1) rfl
    have c20 := k15.cell' (i := 2) rfl
    go_wp2
    go_ret
    exact ⟨rfl, g17⟩
  have y0 : szLeft (1048576 : Int) (q.size) = (1048576 : Int) - (q.size : Nat) := by rw [szLeft, if_neg z0]
  have x0 : ¬ ((1048576 : Int) - ((q.size : Nat) : Int) < 0) := by omega
  go_enter Try.func7, Try.ntmps7
  go_wp2_with fail
  obtain ⟨W22, e23⟩ : ∃ W, W = w.alloc (.cells #[.int .i64 (q).v, .slice Auq (q).f.length cuq, .slice Cuq (q).t.length duq] 24) := ⟨_, rfl⟩
  rw [← e23]
  have b24 : Below w.heap.size w W22 := by rw [e23]; exact below_alloc _ _
  have k25 : Blk W22 w.heap.size 24 #[.int .i64 (q).v, .slice Auq (q).f.length cuq, .slice Cuq (q).t.length duq] := by rw [e23]; exact Blk.new _ _ _
  have s26 : w.heap.size < W22.heap.size := by rw [e23]; simp
  clear e23
  have h27 := QvR.below (b24.mono (by omega)) hq
  have s28 : w.heap.size ≤ W22.heap.size := b24.size
  have g29 := bthen g0 b24
  clear hq g0 b24
  have c30 := k25.cell' (i := 0) rfl
  have c31 := k25.cell' (i := 1) rfl
  have c32 := k25.cell' (i := 2) rfl
  refine (szQuiver_any _ _ (1048576 : Int) _ (QvR.more (by omega) h27) (by omega) (by omega)).mono ?_; rintro e W33 ⟨rfl, b21⟩
  have h34 := QvR.below (b21.mono (by omega)) h27
  have k35 := k25.call b21
  have s36 : W22.heap.size ≤ W33.heap.size := b21.size
  have g37 := bthen g29 b21
  clear h27 k25 g29 b21 c30 c31 c32
  have c38 := k35.cell' (i := 0) rfl
  have c39 := k35.cell' (i := 1) rfl
  have c40 := k35.cell' (i := 2) rfl
  go_wp2_with fail
  refine (quiv_to _ _ _ (QvR.more (by omega) h34) (by omega)).mono ?_; rintro e W44 ⟨v41, rfl, h42, b43⟩
  have h45 := QvR.below (b43.mono (by omega)) h34
  have k46 := k35.call b43
  have s47 : W33.heap.size ≤ W44.heap.size := b43.size
  have g48 := bthen g37 b43
  clear h34 k35 g37 b43 c38 c39 c40
  have c49 := k46.cell' (i := 0) rfl
  have c50 := k46.cell' (i := 1) rfl
  have c51 := k46.cell' (i := 2) rfl
  go_wp2_with fail
  refine (specHighestRoot_any _ _ _ h42.rd).mono ?_; rintro e W55 ⟨r52, rfl, h53, b54⟩
  have h56 := QvR.below (b54.mono (by omega)) h45
  have h57 := h42.below b54
  have k58 := k46.call b54
  have s59 : W44.heap.size ≤ W55.heap.size := b54.size
  have g60 := bthen g48 b54
  clear h45 h42 k46 g48 b54 c49 c50 c51
  have c61 := k58.cell' (i := 0) rfl
  have c62 := k58.cell' (i := 1) rfl
  have c63 := k58.cell' (i := 2) rfl
  clear h57
  go_wp2_with fail
  refine (quiv_to _ _ _ (QvR.more (by omega) h56) (by omega)).mono ?_; rintro e W67 ⟨v64, rfl, h65, b66⟩
  have h68 := QvR.below (b66.mono (by omega)) h56
  have h69 := SlI.below (b66.mono (by omega)) h53
  have k70 := k58.call b66
  have s71 : W55.heap.size ≤ W67.heap.size := b66.size
  have g72 := bthen g60 b66
  clear h56 h53 k58 g60 b66 c61 c62 c63
  have c73 := k70.cell' (i := 0) rfl
  have c74 := k70.cell' (i := 1) rfl
  have c75 := k70.cell' (i := 2) rfl
  obtain ⟨Ax76, cx76, Cx76, dx76, e77⟩ := h65.form
  subst e77
  have c81 := fun o => (k70.alloc o).cell' (i := 0) rfl
  have c82 := fun o => (k70.alloc o).cell' (i := 1) rfl
  have c83 := fun o => (k70.alloc o).cell' (i := 2) rfl
  go_wp2_with fail
  obtain ⟨W84, e85⟩ : ∃ W, W = W67.alloc (.cells #[.int .i64 (q).v, .slice Ax76 (q).f.length cx76, .slice Cx76 (q).t.length dx76] 28) := ⟨_, rfl⟩
  rw [← e85]
  have b86 : Below W67.heap.size W67 W84 := by rw [e85]; exact below_alloc _ _
  have k87 : Blk W84 W67.heap.size 28 #[.int .i64 (q).v, .slice Ax76 (q).f.length cx76, .slice Cx76 (q).t.length dx76] := by rw [e85]; exact Blk.new _ _ _
  have s88 : W67.heap.size < W84.heap.size := by rw [e85]; simp
  clear e85
  have h89 := QvR.below (b86.mono (by omega)) h68
  have h90 := SlI.below (b86.mono (by omega)) h69
  have h91 := h65.below b86
  have k92 := k70.call b86
  have s93 : W67.heap.size ≤ W84.heap.size := b86.size
  have g94 := bthen g72 b86
  clear h68 h69 h65 k70 g72 b86 c73 c74 c75 c81 c82 c83
  have c95 := k92.cell' (i := 0) rfl
  have c96 := k92.cell' (i := 1) rfl
  have c97 := k92.cell' (i := 2) rfl
  have c98 := k87.cell' (i := 0) rfl
  have c99 := k87.cell' (i := 1) rfl
  have c100 := k87.cell' (i := 2) rfl
  refine (implHighestRoot_any _ _ _ h91.rd).mono ?_; rintro e W101 ⟨r78, rfl, h79, b80⟩
  have h102 := QvR.below (b80.mono (by omega)) h89
  have h103 := SlI.below (b80.mono (by omega)) h90
  have h104 := h91.below b80
  have k105 := k92.call b80
  have k106 := k87.call b80
  have s107 : W84.heap.size ≤ W101.heap.size := b80.size
  have g108 := bthen g94 b80
  clear h89 h90 h91 k92 k87 g94 b80 c95 c96 c97 c98 c99 c100
  have c109 := k105.cell' (i := 0) rfl
  have c110 := k105.cell' (i := 1) rfl
  have c111 := k105.cell' (i := 2) rfl
  have c112 := k106.cell' (i := 0) rfl
  have c113 := k106.cell' (i := 1) rfl
  have c114 := k106.cell' (i := 2) rfl
  go_wp2_with fail
  refine (eqIntS_any _ _ _ _ _ h79.rd (SlI.more (by omega) h103)).mono ?_; rintro e W116 ⟨rfl, b115⟩
  have h117 := QvR.below (b115.mono (by omega)) h102
  have h118 := SlI.below (b115.mono (by omega)) h103
  have h119 := h104.below b115
  have h120 := h79.below b115
  have k121 := k105.call b115
  have k122 := k106.call b115
  have s123 : W101.heap.size ≤ W116.heap.size := b115.size
  have g124 := bthen g108 b115
  clear h102 h103 h104 h79 k105 k106 g108 b115 c109 c110 c111 c112 c113 c114
  have c125 := k121.cell' (i := 0) rfl
  have c126 := k121.cell' (i := 1) rfl
  have c127 := k121.cell' (i := 2) rfl
  have c128 := k122.cell' (i := 0) rfl
  have c129 := k122.cell' (i := 1) rfl
  have c130 := k122.cell' (i := 2) rfl
  go_wp2_with fail
  have b131 := drew_below W116
  have h132 := QvR.below (b131.mono (by omega)) h117
  have h133 := SlI.below (b131.mono (by omega)) h118
  have h134 := h119.below b131
  have h135 := h120.below b131
  have k136 := k121.call b131
  have k137 := k122.call b131
  have s138 : W116.heap.size ≤ W116.drew.heap.size := b131.size
  have g139 := bthen g124 b131
  clear h117 h118 h119 h120 k121 k122 g124 b131 c125 c126 c127 c128 c129 c130
  have c140 := k136.cell' (i := 0) rfl
  have c141 := k136.cell' (i := 1) rfl
  have c142 := k136.cell' (i := 2) rfl
  have c143 := k137.cell' (i := 0) rfl
  have c144 := k137.cell' (i := 1) rfl
  have c145 := k137.cell' (i := 2) rfl
  go_region_held3 (fun W' => W'.cell? ⟨w.heap.size, 0, none⟩ = some (.int .i64 (q).v) ∧ W'.cell? ⟨w.heap.size, 1, none⟩ = some (.slice Auq (q).f.length cuq) ∧ W'.cell? ⟨w.heap.size, 2, none⟩ = some (.slice Cuq (q).t.length duq) ∧ W'.cell? ⟨W67.heap.size, 0, none⟩ = some (.int .i64 (q).v) ∧ W'.cell? ⟨W67.heap.size, 1, none⟩ = some (.slice Ax76 (q).f.length cx76) ∧ W'.cell? ⟨W67.heap.size, 2, none⟩ = some (.slice Cx76 (q).t.length dx76))
    (first | exact ⟨c140, c141, c142, c143, c144, c145⟩ | exact ⟨c158, c159, c160, c161, c162, c163⟩ | exact ⟨c175, c176, c177, c178, c179, c180⟩)
    (first | (go_at_call 17; refine (quiv_to _ _ _ (QvR.more (by omega) h132) (by omega)).mono ?_; rintro e W149 ⟨v146, rfl, h147, b148⟩; have h150 := QvR.below (b148.mono (by omega)) h132; have h151 := SlI.below (b148.mono (by omega)) h133; have h152 := h134.below b148; have h153 := h135.below b148; have k154 := k136.call b148; have k155 := k137.call b148; have s156 : W116.drew.heap.size ≤ W149.heap.size := b148.size; have g157 := bthen g139 b148; clear h132 h133 h134 h135 k136 k137 g139 b148 c140 c141 c142 c143 c144 c145; have c158 := k154.cell' (i := 0) rfl; have c159 := k154.cell' (i := 1) rfl; have c160 := k154.cell' (i := 2) rfl; have c161 := k155.cell' (i := 0) rfl; have c162 := k155.cell' (i := 1) rfl; have c163 := k155.cell' (i := 2) rfl) | (go_at_call 20; refine (eqQuiver_any _ _ _ _ _ h152.rd h147.rd).mono ?_; rintro e W165 ⟨rfl, b164⟩; have h166 := QvR.below (b164.mono (by omega)) h150; have h167 := SlI.below (b164.mono (by omega)) h151; have h168 := h152.below b164; have h169 := h153.below b164; have h170 := h147.below b164; have k171 := k154.call b164; have k172 := k155.call b164; have s173 : W149.heap.size ≤ W165.heap.size := b164.size; have g174 := bthen g157 b164; clear h150 h151 h152 h153 h147 k154 k155 g157 b164 c158 c159 c160 c161 c162 c163; have c175 := k171.cell' (i := 0) rfl; have c176 := k171.cell' (i := 1) rfl; have c177 := k171.cell' (i := 2) rfl; have c178 := k172.cell' (i := 0) rfl; have c179 := k172.cell' (i := 1) rfl; have c180 := k172.cell' (i := 2) rfl))
  clear h170
  go_wp2_with fail
  refine (quiv_mark _ _ _ _ _ _ h168 (by omega) (by omega) (by omega)).mono ?_; rintro e W183 ⟨rfl, h181, q182⟩
  have h184 := QvR.chg h166 q182 (by omega) (by omega)
  have h185 := SlI.chg h167 q182 (by omega) (by omega)
  have h186 := h169.chg q182 (by omega)
  have k187 := k171.chg q182 (by omega)
  have k188 := k172.chg q182 (by omega)
  have s189 : W165.heap.size ≤ W183.heap.size := q182.size
  have g190 := g174.trans (q182.below (by omega) (by omega))
  clear h166 h167 h169 k171 k172 g174 q182 c175 c176 c177 c178 c179 c180
  have c191 := k187.cell' (i := 0) rfl
  have c192 := k187.cell' (i := 1) rfl
  have c193 := k187.cell' (i := 2) rfl
  have c194 := k188.cell' (i := 0) rfl
  have c195 := k188.cell' (i := 1) rfl
  have c196 := k188.cell' (i := 2) rfl
  clear h168
  go_wp2_with fail
  refine (eqIntS_any _ _ _ _ _ h186.rd (SlI.more (by omega) h185)).mono ?_; rintro e W198 ⟨rfl, b197⟩
  have h199 := QvR.below (b197.mono (by omega)) h184
  have h200 := SlI.below (b197.mono (by omega)) h185
  have h201 := h181.below b197
  have h202 := h186.below b197
  have k203 := k187.call b197
  have k204 := k188.call b197
  have s205 : W183.heap.size ≤ W198.heap.size := b197.size
  have g206 := bthen g190 b197
  clear h184 h185 h181 h186 k187 k188 g190 b197 c191 c192 c193 c194 c195 c196
  have c207 := k203.cell' (i := 0) rfl
  have c208 := k203.cell' (i := 1) rfl
  have c209 := k203.cell' (i := 2) rfl
  have c210 := k204.cell' (i := 0) rfl
  have c211 := k204.cell' (i := 1) rfl
  have c212 := k204.cell' (i := 2) rfl
  clear h201
  go_wp2_with fail
  refine (ints_mark _ _ _ _ _ _ h202 (by omega) (by omega)).mono ?_; rintro e W215 ⟨rfl, h213, q214⟩
  have h216 := QvR.chg h199 q214 (by omega) (by omega)
  have h217 := SlI.chg h200 q214 (by omega) (by omega)
  have k218 := k203.chg q214 (by omega)
  have k219 := k204.chg q214 (by omega)
  have s220 : W198.heap.size ≤ W215.heap.size := q214.size
  have g221 := g206.trans (q214.below (by omega) (by omega))
  clear h199 h200 k203 k204 g206 q214 c207 c208 c209 c210 c211 c212
  have c222 := k218.cell' (i := 0) rfl
  have c223 := k218.cell' (i := 1) rfl
  have c224 := k218.cell' (i := 2) rfl
  have c225 := k219.cell' (i := 0) rfl
  have c226 := k219.cell' (i := 1) rfl
  have c227 := k219.cell' (i := 2) rfl
  clear h202
  go_wp2_with fail
  refine (ints_held _ _ _ _ h213.rd (by omega) (by omega)).mono ?_; rintro e W229 ⟨rfl, b228⟩
  have h230 := QvR.below (b228.mono (by omega)) h216
  have h231 := SlI.below (b228.mono (by omega)) h217
  have h232 := h213.below b228
  have k233 := k218.call b228
  have k234 := k219.call b228
  have s235 : W215.heap.size ≤ W229.heap.size := b228.size
  have g236 := bthen g221 b228
  clear h216 h217 h213 k218 k219 g221 b228 c222 c223 c224 c225 c226 c227
  have c237 := k233.cell' (i := 0) rfl
  have c238 := k233.cell' (i := 1) rfl
  have c239 := k233.cell' (i := 2) rfl
  have c240 := k234.cell' (i := 0) rfl
  have c241 := k234.cell' (i := 1) rfl
  have c242 := k234.cell' (i := 2) rfl
  go_wp2_with fail
  refine (quiv_to _ _ _ (QvR.more (by omega) h230) (by omega)).mono ?_; rintro e W246 ⟨v243, rfl, h244, b245⟩
  have h247 := QvR.below (b245.mono (by omega)) h230
  have h248 := SlI.below (b245.mono (by omega)) h231
  have h249 := h232.below b245
  have k250 := k233.call b245
  have k251 := k234.call b245
  have s252 : W229.heap.size ≤ W246.heap.size := b245.size
  have g253 := bthen g236 b245
  clear h230 h231 h232 k233 k234 g236 b245 c237 c238 c239 c240 c241 c242
  have c254 := k250.cell' (i := 0) rfl
  have c255 := k250.cell' (i := 1) rfl
  have c256 := k250.cell' (i := 2) rfl
  have c257 := k251.cell' (i := 0) rfl
  have c258 := k251.cell' (i := 1) rfl
  have c259 := k251.cell' (i := 2) rfl
  go_wp2_with fail
  refine (implHighestRoot_any _ _ _ h244.rd).mono ?_; rintro e W263 ⟨r260, rfl, h261, b262⟩
  have h264 := QvR.below (b262.mono (by omega)) h247
  have h265 := SlI.below (b262.mono (by omega)) h248
  have h266 := h249.below b262
  have h267 := h244.below b262
  have k268 := k250.call b262
  have k269 := k251.call b262
  have s270 : W246.heap.size ≤ W263.heap.size := b262.size
  have g271 := bthen g253 b262
  clear h247 h248 h249 h244 k250 k251 g253 b262 c254 c255 c256 c257 c258 c259
  have c272 := k268.cell' (i := 0) rfl
  have c273 := k268.cell' (i := 1) rfl
  have c274 := k268.cell' (i := 2) rfl
  have c275 := k269.cell' (i := 0) rfl
  have c276 := k269.cell' (i := 1) rfl
  have c277 := k269.cell' (i := 2) rfl
  clear h267
  go_wp2_with fail
  refine (eqIntS_any _ _ _ _ _ h261.rd (SlI.more (by omega) h265)).mono ?_; rintro e W279 ⟨rfl, b278⟩
  have h280 := QvR.below (b278.mono (by omega)) h264
  have h281 := SlI.below (b278.mono (by omega)) h265
  have h282 := h266.below b278
  have h283 := h261.below b278
  have k284 := k268.call b278
  have k285 := k269.call b278
  have s286 : W263.heap.size ≤ W279.heap.size := b278.size
  have g287 := bthen g271 b278
  clear h264 h265 h266 h261 k268 k269 g271 b278 c272 c273 c274 c275 c276 c277
  have c288 := k284.cell' (i := 0) rfl
  have c289 := k284.cell' (i := 1) rfl
  have c290 := k284.cell' (i := 2) rfl
  have c291 := k285.cell' (i := 0) rfl
  have c292 := k285.cell' (i := 1) rfl
  have c293 := k285.cell' (i := 2) rfl
  clear h283
  go_wp2_with fail
  refine (ints_held _ _ _ _ h282.rd (by omega) (by omega)).mono ?_; rintro e W295 ⟨rfl, b294⟩
  have h296 := QvR.below (b294.mono (by omega)) h280
  have h297 := SlI.below (b294.mono (by omega)) h281
  have h298 := h282.below b294
  have k299 := k284.call b294
  have k300 := k285.call b294
  have s301 : W279.heap.size ≤ W295.heap.size := b294.size
  have g302 := bthen g287 b294
  clear h280 h281 h282 k284 k285 g287 b294 c288 c289 c290 c291 c292 c293
  have c303 := k299.cell' (i := 0) rfl
  have c304 := k299.cell' (i := 1) rfl
  have c305 := k299.cell' (i := 2) rfl
  have c306 := k300.cell' (i := 0) rfl
  have c307 := k300.cell' (i := 1) rfl
  have c308 := k300.cell' (i := 2) rfl
  go_wp2
  go_ret
  exact ⟨rfl, g302⟩
end Go.Proofs.Ytkhkamcmlhmpiaa

/- FnExactHighestRoot is proved: for every argument the program's HighestRoot returns what the reference's returns, leaves its arguments as they were, and returns memory of its own. No condition. -/
namespace Go.Proofs.Ytkhkamcmlhmpiaa
set_option linter.unusedVariables false
set_option linter.unusedSimpArgs false
open Go.RowKit Go.ChangeShapes Go.WideShapes Go.ChangeAt Go.Deep

set_option maxRecDepth 100000 in
theorem highestRoot_lifted (os : Os) (started : os.Started) (H : Type) (enc : TypeId × Value → H) :
    ReturnsInHanded {} Try.checked os 7 .any (Rows.fnExactHighestRootSpec.pre6 enc Try.prog Try.f7 Rows.fnExactHighestRootRow.domain false) (Rows.fnExactHighestRootSpec.post enc Try.prog Try.f7 false true false false) := by
  refine lift_law started (by kernel_rfl) Try.func7 (ChangeSpec.witness6 (enc := enc) (C := Try.checked) false ⟨#[], #[.agg #[.int .i64 0, .slice none 0 0, .slice none 0 0]], []⟩ 8 (by kernel_rfl) (by kernel_rfl) (by kernel_rfl) (by kernel_rfl))
    rfl rfl (by rw [Try.params7]; intro t ht; simp only [List.mem_cons, List.not_mem_nil, or_false] at ht; rcases ht with rfl <;> exact ⟨by kernel_rfl, of_decide_eq_true (by kernel_rfl)⟩) (fun ds hl => by rw [Try.params7] at hl; match ds, hl with | [_], _ => rfl) ?_
  intro W args ds ps base hval hA hwt
  rw [Try.params7] at hA hval hwt
  obtain ⟨v0, d0, hargs, rfl, h0⟩ := trodAll_one hA
  obtain rfl : args = #[v0] := by cases args; simp_all
  obtain ⟨x0, r0⟩ := argQuiver (hval 0 _ _ rfl rfl) h0 (hwt 0 _ _ rfl rfl)
  exact lawHighestRoot_any _ _ W r0

theorem highestRoot_closed : joinedFacts Try.prog 7 Try.f7 Rows.fnExactHighestRootSpec Rows.fnExactHighestRootRow = true := by
  unfold joinedFacts
  refine band (band (band (band (band (band (band ?_ seatEnter) seatLifts) seatMake) ?_) ?_) ?_) ?_ <;> kernel_rfl

theorem highestRoot_holds : Rows.FnExactHighestRootSaid :=
  OpenClaim.holds_of_wide 7 Try.f7 rfl rfl rfl rfl rfl rfl rfl ⟨rfl, rfl, rfl, rfl, rfl⟩ rfl rfl rfl rfl rfl (by kernel_rfl) Try.func7 highestRoot_closed
    (of_decide_eq_true (by kernel_rfl)) (by unfold Func.isWrapper; first | (rw [if_pos (by decide +kernel)]; kernel_rfl) | (rw [if_neg (by decide +kernel)]; exact ⟨rfl, rfl⟩))
    (fun os started H enc _ => highestRoot_lifted os started H enc)
#print axioms highestRoot_holds
end Go.Proofs.Ytkhkamcmlhmpiaa
