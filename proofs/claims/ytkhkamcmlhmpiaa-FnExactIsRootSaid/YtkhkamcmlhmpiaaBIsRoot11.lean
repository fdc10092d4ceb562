/- FnExactIsRoot: for every argument the program's function returns what the reference's returns. Part 11 of 11 of the proof: RtX, RtY, LawIsRoot, LawIsRootRow. No condition. -/
import Derived.Test.YtkhkamcmlhmpiaaBIsRoot10
/- CountRoots, HighestRoot, IsRoot: both sides. -/
namespace Go.Proofs.Ytkhkamcmlhmpiaa
set_option linter.unusedVariables false
set_option linter.unusedSimpArgs false
open Go.RowKit

def cntRt (q : Qv) : Int := if (rtsA q).2 = true then ((rtsA q).1.length : Int) else -1
def hiR (q : Qv) : List Int × Bool := if (rtsA q).2 = true ∧ conQ q = true then ((rtsA q).1.getD ((rtsA q).1.length - 1) [], true) else ([], false)
def isRtB (q : Qv) (x : List Int) : Bool := decide (x ∈ (rtsA q).1)
theorem rtsA_pos {q : Qv} (h : (rtsA q).2 = true) : 0 < (rtsA q).1.length := by
  rw [rtsA] at h ⊢
  split at h
  · rename_i hk
    rw [if_pos hk]
    have hv := (isQ_t.1 (fin_isQ hk)).1
    exact List.length_pos_of_mem ((rtsQ_mem hk).2 (isRt_uni hk (v := 0) (by omega)))
  · cases h
theorem rtsA_nil {q : Qv} (h : (rtsA q).2 = false) : (rtsA q).1 = [] := by
  rw [rtsA] at h ⊢
  split at h
  · cases h
  · rename_i hk; rw [if_neg hk]
set_option maxRecDepth 100000 in
set_option maxHeartbeats 1600000 in
theorem specCountRoots_any (u : Value) (q : Qv) (w0 : World) (hu : QvR w0 w0.heap.size u q) :
    Calls Try.prog 22 #[u] w0 fun e w' => e = .returned (.int .i64 (cntRt q)) ∧ Below w0.heap.size w0 w' := by
  have hu' := hu
  obtain ⟨A, c, C, d, rfl, hf, ht, hr, _⟩ := hu.open_
  clear hu hf ht
  obtain ⟨W, hW⟩ : ∃ W, W = w0.alloc (.cells #[.int .i64 q.v, .slice A q.f.length c, .slice C q.t.length d] 28) := ⟨_, rfl⟩
  have kB : Blk W w0.heap.size 28 #[.int .i64 q.v, .slice A q.f.length c, .slice C q.t.length d] := by rw [hW]; exact Blk.new _ _ _
  have g0 : Below w0.heap.size w0 W := by rw [hW]; exact below_alloc _ _
  have hq1 := QvR.next g0 hu'
  have c0 := kB.cell' (i := 0) rfl
  have c1 := kB.cell' (i := 1) rfl
  have c2 := kB.cell' (i := 2) rfl
  clear hu'
  have hdf : cntRt q = if (rtsA q).2 = true then ((rtsA q).1.length : Int) else -1 := rfl
  rcases hB : (rtsA q).2 with _ | _
  · have HF : Hid (cntRt q = -1) := by show _ = _; rw [hdf, if_neg (by rw [hB]; simp)]
    have HB := Lib.hid hB
    clear hB hdf
    go_enter Try.func22, Try.ntmps22
    go_wp2_with fail
    rw [← hW]; clear hW
    refine (specPositiveRoots_any _ q _ hq1).mono ?_; rintro e w1 ⟨v, rfl, hL, hb1⟩
    have hLr : SlII w1 w1.heap.size v (rtsA q).1 := by first | exact hL.rd | exact hL
    obtain ⟨LA, lc, hve, hlc1, hlc2, hlc3, hLr⟩ := hLr.open_
    subst hve
    have kB1 := kB.call hb1
    have hq2 := QvR.next hb1 hq1
    have g1 := bthen g0 hb1
    have gs1 := g0.size
    have gs2 := hb1.size
    clear c0 c1 c2 kB hq1 g0 hb1
    rw [HB.out]
    go_wp2
    go_ret
    exact ⟨by rw [HF.out]; rfl, g1⟩
  · have HF : Hid (cntRt q = ((rtsA q).1.length : Int)) := by show _ = _; rw [hdf, if_pos hB]
    have HB := Lib.hid hB
    clear hB hdf
    go_enter Try.func22, Try.ntmps22
    go_wp2_with fail
    rw [← hW]; clear hW
    refine (specPositiveRoots_any _ q _ hq1).mono ?_; rintro e w1 ⟨v, rfl, hL, hb1⟩
    have hLr : SlII w1 w1.heap.size v (rtsA q).1 := by first | exact hL.rd | exact hL
    obtain ⟨LA, lc, hve, hlc1, hlc2, hlc3, hLr⟩ := hLr.open_
    subst hve
    have kB1 := kB.call hb1
    have hq2 := QvR.next hb1 hq1
    have g1 := bthen g0 hb1
    have gs1 := g0.size
    have gs2 := hb1.size
    clear c0 c1 c2 kB hq1 g0 hb1
    rw [HB.out]
    go_wp2
    go_ret
    exact ⟨by rw [HF.out]; rfl, g1⟩
set_option maxRecDepth 100000 in
set_option maxHeartbeats 1600000 in
theorem implCountRoots_any (u : Value) (q : Qv) (w0 : World) (hu : QvR w0 w0.heap.size u q) :
    Calls Try.prog 23 #[u] w0 fun e w' => e = .returned (.int .i64 (cntRt q)) ∧ Below w0.heap.size w0 w' := by
  have hu' := hu
  obtain ⟨A, c, C, d, rfl, hf, ht, hr, _⟩ := hu.open_
  clear hu hf ht
  obtain ⟨W, hW⟩ : ∃ W, W = w0.alloc (.cells #[.int .i64 q.v, .slice A q.f.length c, .slice C q.t.length d] 28) := ⟨_, rfl⟩
  have kB : Blk W w0.heap.size 28 #[.int .i64 q.v, .slice A q.f.length c, .slice C q.t.length d] := by rw [hW]; exact Blk.new _ _ _
  have g0 : Below w0.heap.size w0 W := by rw [hW]; exact below_alloc _ _
  have hq1 := QvR.next g0 hu'
  have c0 := kB.cell' (i := 0) rfl
  have c1 := kB.cell' (i := 1) rfl
  have c2 := kB.cell' (i := 2) rfl
  clear hu'
  have hdf : cntRt q = if (rtsA q).2 = true then ((rtsA q).1.length : Int) else -1 := rfl
  rcases hB : (rtsA q).2 with _ | _
  · have HF : Hid (cntRt q = -1) := by show _ = _; rw [hdf, if_neg (by rw [hB]; simp)]
    have HB := Lib.hid hB
    clear hB hdf
    go_enter Try.func23, Try.ntmps23
    go_wp2_with fail
    rw [← hW]; clear hW
    refine (implPositiveRoots_any _ q _ hq1).mono ?_; rintro e w1 ⟨v, rfl, hL, hb1⟩
    have hLr : SlII w1 w1.heap.size v (rtsA q).1 := by first | exact hL.rd | exact hL
    obtain ⟨LA, lc, hve, hlc1, hlc2, hlc3, hLr⟩ := hLr.open_
    subst hve
    have kB1 := kB.call hb1
    have hq2 := QvR.next hb1 hq1
    have g1 := bthen g0 hb1
    have gs1 := g0.size
    have gs2 := hb1.size
    clear c0 c1 c2 kB hq1 g0 hb1
    rw [HB.out]
    go_wp2
    go_ret
    exact ⟨by rw [HF.out]; rfl, g1⟩
  · have HF : Hid (cntRt q = ((rtsA q).1.length : Int)) := by show _ = _; rw [hdf, if_pos hB]
    have HB := Lib.hid hB
    clear hB hdf
    go_enter Try.func23, Try.ntmps23
    go_wp2_with fail
    rw [← hW]; clear hW
    refine (implPositiveRoots_any _ q _ hq1).mono ?_; rintro e w1 ⟨v, rfl, hL, hb1⟩
    have hLr : SlII w1 w1.heap.size v (rtsA q).1 := by first | exact hL.rd | exact hL
    obtain ⟨LA, lc, hve, hlc1, hlc2, hlc3, hLr⟩ := hLr.open_
    subst hve
    have kB1 := kB.call hb1
    have hq2 := QvR.next hb1 hq1
    have g1 := bthen g0 hb1
    have gs1 := g0.size
    have gs2 := hb1.size
    clear c0 c1 c2 kB hq1 g0 hb1
    rw [HB.out]
    go_wp2
    go_ret
    exact ⟨by rw [HF.out]; rfl, g1⟩
set_option maxRecDepth 100000 in
set_option maxHeartbeats 1600000 in
theorem specHighestRoot_any (u : Value) (q : Qv) (w0 : World) (hu : QvR w0 w0.heap.size u q) :
    Calls Try.prog 32 #[u] w0 fun e w' => ∃ v, e = .returned (.tuple #[v, .bool (hiR q).2]) ∧ SlI w' w'.heap.size v (hiR q).1 ∧ Below w0.heap.size w0 w' := by
  have hu' := hu
  obtain ⟨A, c, C, d, rfl, hf, ht, hr, _⟩ := hu.open_
  clear hu hf ht
  obtain ⟨W, hW⟩ : ∃ W, W = w0.alloc (.cells #[.int .i64 q.v, .slice A q.f.length c, .slice C q.t.length d] 28) := ⟨_, rfl⟩
  have kB : Blk W w0.heap.size 28 #[.int .i64 q.v, .slice A q.f.length c, .slice C q.t.length d] := by rw [hW]; exact Blk.new _ _ _
  have g0 : Below w0.heap.size w0 W := by rw [hW]; exact below_alloc _ _
  have hq1 := QvR.next g0 hu'
  have c0 := kB.cell' (i := 0) rfl
  have c1 := kB.cell' (i := 1) rfl
  have c2 := kB.cell' (i := 2) rfl
  clear hu'
  have hdf : hiR q = if (rtsA q).2 = true ∧ conQ q = true then ((rtsA q).1.getD ((rtsA q).1.length - 1) [], true) else ([], false) := rfl
  rcases hB : (rtsA q).2 with _ | _
  · have HF : Hid (hiR q = ([], false)) := by show _ = _; rw [hdf, if_neg (by rw [hB]; simp)]
    have HB := Lib.hid hB
    clear hB hdf
    go_enter Try.func32, Try.ntmps32
    go_wp2_with fail
    rw [← hW]; clear hW
    refine (specPositiveRoots_any _ q _ hq1).mono ?_; rintro e w1 ⟨v, rfl, hL, hb1⟩
    have hLr : SlII w1 w1.heap.size v (rtsA q).1 := by first | exact hL.rd | exact hL
    obtain ⟨LA, lc, hve, hlc1, hlc2, hlc3, hLr⟩ := hLr.open_
    subst hve
    have kB1 := kB.call hb1
    have hq2 := QvR.next hb1 hq1
    have g1 := bthen g0 hb1
    have gs1 := g0.size
    have gs2 := hb1.size
    clear c0 c1 c2 kB hq1 g0 hb1
    rw [HB.out]
    go_wp2
    go_ret2
    rw [HF.out]
    exact ⟨_, rfl, ⟨_, 0, rfl, by simp, by omega, by simp, fun h => absurd h (by simp)⟩, by first | exact g1 | exact g1.alloc (g1.size) _⟩
  · have hpos := rtsA_pos hB
    rcases hC : conQ q with _ | _
    · have HF : Hid (hiR q = ([], false)) := by show _ = _; rw [hdf, if_neg (by rw [hC]; simp)]
      have HB := Lib.hid hB
      have HC := Lib.hid hC
      clear hB hC hdf
      go_enter Try.func32, Try.ntmps32
      go_wp2_with fail
      rw [← hW]; clear hW
      refine (specPositiveRoots_any _ q _ hq1).mono ?_; rintro e w1 ⟨v, rfl, hL, hb1⟩
      have hLr : SlII w1 w1.heap.size v (rtsA q).1 := by first | exact hL.rd | exact hL
      obtain ⟨LA, lc, hve, hlc1, hlc2, hlc3, hLr⟩ := hLr.open_
      subst hve
      have kB1 := kB.call hb1
      have hq2 := QvR.next hb1 hq1
      have g1 := bthen g0 hb1
      have gs1 := g0.size
      have gs2 := hb1.size
      clear c0 c1 c2 kB hq1 g0 hb1
      rw [HB.out]
      have c0 := kB1.cell' (i := 0) rfl
      have c1 := kB1.cell' (i := 1) rfl
      have c2 := kB1.cell' (i := 2) rfl
      go_wp2_with fail
      refine (specConnected_any _ q _ hq2).mono ?_; rintro e w2 ⟨rfl, hb2⟩
      rw [HC.out]
      have g1 := bthen g1 hb2
      go_wp2
      go_ret2
      rw [HF.out]
      exact ⟨_, rfl, ⟨_, 0, rfl, by simp, by omega, by simp, fun h => absurd h (by simp)⟩, by first | exact g1 | exact g1.alloc (g1.size) _⟩
    · have HF : Hid (hiR q = ((rtsA q).1.getD ((rtsA q).1.length - 1) [], true)) := by show _ = _; rw [hdf, if_pos ⟨hB, hC⟩]
      have HB := Lib.hid hB
      have HC := Lib.hid hC
      clear hB hC hdf
      go_enter Try.func32, Try.ntmps32
      go_wp2_with fail
      rw [← hW]; clear hW
      refine (specPositiveRoots_any _ q _ hq1).mono ?_; rintro e w1 ⟨v, rfl, hL, hb1⟩
      have hLr : SlII w1 w1.heap.size v (rtsA q).1 := by first | exact hL.rd | exact hL
      obtain ⟨LA, lc, hve, hlc1, hlc2, hlc3, hLr⟩ := hLr.open_
      subst hve
      have kB1 := kB.call hb1
      have hq2 := QvR.next hb1 hq1
      have g1 := bthen g0 hb1
      have gs1 := g0.size
      have gs2 := hb1.size
      clear c0 c1 c2 kB hq1 g0 hb1
      rw [HB.out]
      have c0 := kB1.cell' (i := 0) rfl
      have c1 := kB1.cell' (i := 1) rfl
      have c2 := kB1.cell' (i := 2) rfl
      go_wp2_with fail
      refine (specConnected_any _ q _ hq2).mono ?_; rintro e w2 ⟨rfl, hb2⟩
      rw [HC.out]
      have g1 := bthen g1 hb2
      have gs3 := hb2.size
      obtain ⟨L, hLe⟩ : ∃ L, (rtsA q).1 = L := ⟨_, rfl⟩
      rw [hLe] at hL hLr hpos HF hlc1 hlc3 ⊢
      obtain ⟨kl, hkl⟩ : ∃ kl : Nat, (L.length : Int) - 1 = (kl : Int) := ⟨L.length - 1, by omega⟩
      have hkL : kl < L.length := by omega
      have HKL := Lib.hid (show L.length - 1 = kl by omega)
      clear hLe
      obtain ⟨bl, ol, l, LA', lc', hA, hbl, HLX, cl, hl⟩ := SlII.at_ hLr hkL
      subst hA
      have cl2 := bcell hb2 hbl cl
      have hl2 := SlI.next hb2 hl
      have HFN : Hid (hiR q = (l, true)) := by
        show _ = _
        rw [HF.out, HKL.out, List.getD_eq_getElem?_getD, HLX.out]; rfl
      clear hl hL hLr cl hb2 hq2 HLX
      go_wp2
      go_ret2
      rw [HFN.out]
      exact ⟨_, rfl, hl2, g1⟩
set_option maxRecDepth 100000 in
set_option maxHeartbeats 1600000 in
theorem implHighestRoot_any (u : Value) (q : Qv) (w0 : World) (hu : QvR w0 w0.heap.size u q) :
    Calls Try.prog 33 #[u] w0 fun e w' => ∃ v, e = .returned (.tuple #[v, .bool (hiR q).2]) ∧ IntsO w' w0.heap.size w'.heap.size v (hiR q).1 ∧ Below w0.heap.size w0 w' := by
  have hu' := hu
  obtain ⟨A, c, C, d, rfl, hf, ht, hr, _⟩ := hu.open_
  clear hu hf ht
  obtain ⟨W, hW⟩ : ∃ W, W = w0.alloc (.cells #[.int .i64 q.v, .slice A q.f.length c, .slice C q.t.length d] 28) := ⟨_, rfl⟩
  have kB : Blk W w0.heap.size 28 #[.int .i64 q.v, .slice A q.f.length c, .slice C q.t.length d] := by rw [hW]; exact Blk.new _ _ _
  have g0 : Below w0.heap.size w0 W := by rw [hW]; exact below_alloc _ _
  have hq1 := QvR.next g0 hu'
  have c0 := kB.cell' (i := 0) rfl
  have c1 := kB.cell' (i := 1) rfl
  have c2 := kB.cell' (i := 2) rfl
  clear hu'
  have hdf : hiR q = if (rtsA q).2 = true ∧ conQ q = true then ((rtsA q).1.getD ((rtsA q).1.length - 1) [], true) else ([], false) := rfl
  rcases hB : (rtsA q).2 with _ | _
  · have HF : Hid (hiR q = ([], false)) := by show _ = _; rw [hdf, if_neg (by rw [hB]; simp)]
    have HB := Lib.hid hB
    clear hB hdf
    go_enter Try.func33, Try.ntmps33
    go_wp2_with fail
    rw [← hW]; clear hW
    refine (implPositiveRoots_any _ q _ hq1).mono ?_; rintro e w1 ⟨v, rfl, hL, hb1⟩
    have hLr : SlII w1 w1.heap.size v (rtsA q).1 := by first | exact hL.rd | exact hL
    obtain ⟨LA, lc, hve, hlc1, hlc2, hlc3, hLr⟩ := hLr.open_
    subst hve
    have kB1 := kB.call hb1
    have hq2 := QvR.next hb1 hq1
    have g1 := bthen g0 hb1
    have gs1 := g0.size
    have gs2 := hb1.size
    clear c0 c1 c2 kB hq1 g0 hb1
    rw [HB.out]
    go_wp2
    go_ret2
    rw [HF.out]
    exact ⟨_, rfl, IntsO.of_own (OwnI.nil _ _), g1⟩
  · have hpos := rtsA_pos hB
    rcases hC : conQ q with _ | _
    · have HF : Hid (hiR q = ([], false)) := by show _ = _; rw [hdf, if_neg (by rw [hC]; simp)]
      have HB := Lib.hid hB
      have HC := Lib.hid hC
      clear hB hC hdf
      go_enter Try.func33, Try.ntmps33
      go_wp2_with fail
      rw [← hW]; clear hW
      refine (implPositiveRoots_any _ q _ hq1).mono ?_; rintro e w1 ⟨v, rfl, hL, hb1⟩
      have hLr : SlII w1 w1.heap.size v (rtsA q).1 := by first | exact hL.rd | exact hL
      obtain ⟨LA, lc, hve, hlc1, hlc2, hlc3, hLr⟩ := hLr.open_
      subst hve
      have kB1 := kB.call hb1
      have hq2 := QvR.next hb1 hq1
      have g1 := bthen g0 hb1
      have gs1 := g0.size
      have gs2 := hb1.size
      clear c0 c1 c2 kB hq1 g0 hb1
      rw [HB.out]
      have c0 := kB1.cell' (i := 0) rfl
      have c1 := kB1.cell' (i := 1) rfl
      have c2 := kB1.cell' (i := 2) rfl
      go_wp2_with fail
      refine (implConnected_any _ q _ hq2).mono ?_; rintro e w2 ⟨rfl, hb2⟩
      rw [HC.out]
      have g1 := bthen g1 hb2
      go_wp2
      go_ret2
      rw [HF.out]
      exact ⟨_, rfl, IntsO.of_own (OwnI.nil _ _), g1⟩
    · have HF : Hid (hiR q = ((rtsA q).1.getD ((rtsA q).1.length - 1) [], true)) := by show _ = _; rw [hdf, if_pos ⟨hB, hC⟩]
      have HB := Lib.hid hB
      have HC := Lib.hid hC
      clear hB hC hdf
      go_enter Try.func33, Try.ntmps33
      go_wp2_with fail
      rw [← hW]; clear hW
      refine (implPositiveRoots_any _ q _ hq1).mono ?_; rintro e w1 ⟨v, rfl, hL, hb1⟩
      have hLr : SlII w1 w1.heap.size v (rtsA q).1 := by first | exact hL.rd | exact hL
      obtain ⟨LA, lc, hve, hlc1, hlc2, hlc3, hLr⟩ := hLr.open_
      subst hve
      have kB1 := kB.call hb1
      have hq2 := QvR.next hb1 hq1
      have g1 := bthen g0 hb1
      have gs1 := g0.size
      have gs2 := hb1.size
      clear c0 c1 c2 kB hq1 g0 hb1
      rw [HB.out]
      have c0 := kB1.cell' (i := 0) rfl
      have c1 := kB1.cell' (i := 1) rfl
      have c2 := kB1.cell' (i := 2) rfl
      go_wp2_with fail
      refine (implConnected_any _ q _ hq2).mono ?_; rintro e w2 ⟨rfl, hb2⟩
      rw [HC.out]
      have g1 := bthen g1 hb2
      have gs3 := hb2.size
      obtain ⟨L, hLe⟩ : ∃ L, (rtsA q).1 = L := ⟨_, rfl⟩
      rw [hLe] at hL hLr hpos HF hlc1 hlc3 ⊢
      obtain ⟨kl, hkl⟩ : ∃ kl : Nat, (L.length : Int) - 1 = (kl : Int) := ⟨L.length - 1, by omega⟩
      have hkL : kl < L.length := by omega
      have HKL := Lib.hid (show L.length - 1 = kl by omega)
      clear hLe
      obtain ⟨gl, cgl, hA, hg1, hg2, hg3, _, _⟩ := hL.at_ hpos
      injection hA with hA1 _ hA3
      subst hA1
      have hkg : L[kl]? = some L[kl] := List.getElem?_eq_getElem hkL
      obtain ⟨l, hle⟩ : ∃ l, L[kl] = l := ⟨_, rfl⟩
      rw [hle] at hkg
      subst hA3
      obtain ⟨u, cu, ou, _⟩ := hL.row hkg
      obtain ⟨UA, uc, hue, _, _⟩ := ou.1.form
      subst hue
      have cl2 := bcell hb2 hg3 cu
      have hl2 := ((ou.below hb2).wider (lo' := w0.heap.size) (hi' := w2.heap.size) (by omega) (by omega))
      have HFN : Hid (hiR q = (l, true)) := by
        show _ = _
        rw [HF.out, HKL.out, List.getD_eq_getElem?_getD, hkg]; rfl
      clear hL hLr cu ou hb2 hq2 hkg hle
      go_wp2
      go_ret2
      rw [HFN.out]
      exact ⟨_, rfl, hl2, g1⟩
end Go.Proofs.Ytkhkamcmlhmpiaa

/- IsRoot: both sides; slices.IndexFunc at [][]int. -/
namespace Go.Proofs.Ytkhkamcmlhmpiaa
set_option linter.unusedVariables false
set_option linter.unusedSimpArgs false
open Go.RowKit

/-- The first place at which p holds, or -1. -/
def gidx (p : List Int → Bool) (l : List (List Int)) : Int := if l.findIdx p < l.length then (l.findIdx p : Int) else -1
theorem gidx_none {p : List Int → Bool} {l : List (List Int)} (h : ∀ x ∈ l, p x = false) : gidx p l = -1 := by
  unfold gidx
  rw [if_neg]
  intro hlt
  have h1 := List.findIdx_getElem (w := hlt)
  have h2 := h _ (List.getElem_mem hlt)
  rw [h1] at h2
  cases h2
theorem gidx_some {p : List Int → Bool} {l : List (List Int)} {k : Nat} {x : List Int} (hx : l[k]? = some x) (hp : p x = true) (hb : ∀ y ∈ l.take k, p y = false) : gidx p l = k := by
  have hk := lt_of_some hx
  have hxk : l[k] = x := by rw [List.getElem?_eq_getElem hk] at hx; injection hx
  have e : l.findIdx p = k := by
    rw [List.findIdx_eq hk]
    refine ⟨by rw [hxk]; exact hp, fun j hj => ?_⟩
    have := hb l[j] (by rw [List.mem_take_iff_getElem]; exact ⟨j, by omega, rfl⟩)
    simp [this]
  unfold gidx
  rw [e, if_pos hk]
theorem gidx_range (p : List Int → Bool) (l : List (List Int)) : -1 ≤ gidx p l ∧ gidx p l < l.length := by
  unfold gidx
  split <;> omega
theorem gidx_any (p : List Int → Bool) (l : List (List Int)) : decide (0 ≤ gidx p l) = l.any p := by
  unfold gidx
  by_cases h : l.findIdx p < l.length
  · rw [if_pos h]
    have h1 := List.findIdx_getElem (w := h)
    have : l.any p = true := List.any_eq_true.2 ⟨_, List.getElem_mem h, h1⟩
    rw [this]
    simp
  · rw [if_neg h]
    have : l.any p = false := by
      rw [List.any_eq_false]
      intro x hx hpx
      exact h (List.findIdx_lt_length_of_exists ⟨x, hx, hpx⟩)
    rw [this]
    simp
set_option maxHeartbeats 800000 in
theorem indexFuncR_any (p1 : Value) (p : List Int → Bool) (u : Value) (ll : List (List Int)) (w : World) (hu : SlII w w.heap.size u ll)
    (hF : ∀ (W : World) (a : Value) (l : List Int), Below w.heap.size w W → SlI W W.heap.size a l → Calls Try.prog 114 #[a, p1] W fun e w' => e = .returned (.bool (p l)) ∧ Below W.heap.size W w') :
    Calls Try.prog 88 #[u, .func (Fn.func 114) #[] #[p1]] w fun e w' => e = .returned (.int .i64 (gidx p ll)) ∧ Below w.heap.size w w' := by
  obtain ⟨A, c, rfl, _, _, hn, hx⟩ := hu.open_
  clear hu
  have HF := Lib.hid hF
  clear hF
  go_enter Try.func88, Try.ntmps88
  go_wp2
  go_loopw [8] (fun i wr => ∃ k : Nat, k ≤ ll.length ∧ i = .int .i64 k ∧ Below w.heap.size w wr ∧ Hid (∀ y ∈ ll.take k, p y = false)) (fun i _ => ll.length - (intOf i).toNat)
  case atStart => exact ⟨0, Nat.zero_le _, rfl, Below.refl _ _, by intro y hy; simp at hy⟩
  case round =>
    obtain ⟨k, hk, rfl, hbel, hno⟩ := hrel
    by_cases hlt : k < ll.length
    · obtain ⟨b, o, l, A', c', rfl, hb, HX, c1, hl⟩ := SlII.at_ hx hlt
      have d1 := bcell hbel hb c1
      have HC := HF.out wr _ l hbel (SlI.more hbel.size (SlI.below hbel hl))
      clear hx c1 hl
      obtain ⟨B, hB⟩ : ∃ B, p l = B := ⟨_, rfl⟩
      rw [hB] at HC
      have HC := Lib.hid HC
      have HB := Lib.hid hB
      clear hB
      cases B
      · go_wp2_with fail
        refine (unhide HC).mono ?_; rintro e w1 ⟨rfl, hb1⟩
        go_wp2
        go_roundw
        case rel =>
          refine ⟨k + 1, by omega, by go_num, hbel.trans (hb1.mono hbel.size), fun y hy => ?_⟩
          rw [take_snoc HX.out, List.mem_append, List.mem_singleton] at hy
          rcases hy with hy | rfl
          · exact hno.out y hy
          · exact HB.out
        case measure => simp [intOf]; omega
      · have hfin := Lib.hid (gidx_some HX.out HB.out hno.out)
        go_wp2_with fail
        refine (unhide HC).mono ?_; rintro e w1 ⟨rfl, hb1⟩
        go_wp2
        go_ret
        exact ⟨by rw [hfin.out]; rfl, hbel.trans (hb1.mono hbel.size)⟩
    · go_wp2
      go_ret
      have h1 := hno.out
      rw [List.take_of_length_le (by omega)] at h1
      exact ⟨by rw [gidx_none h1]; rfl, hbel⟩
set_option maxHeartbeats 800000 in
theorem indexFuncK_any (p1 : Value) (p : List Int → Bool) (u : Value) (ll : List (List Int)) (w : World) (hu : SlII w w.heap.size u ll)
    (hF : ∀ (W : World) (a : Value) (l : List Int), Below w.heap.size w W → SlI W W.heap.size a l → Calls Try.prog 89 #[a, p1] W fun e w' => e = .returned (.bool (p l)) ∧ Below W.heap.size W w') :
    Calls Try.prog 88 #[u, .func (Fn.func 89) #[] #[p1]] w fun e w' => e = .returned (.int .i64 (gidx p ll)) ∧ Below w.heap.size w w' := by
  obtain ⟨A, c, rfl, _, _, hn, hx⟩ := hu.open_
  clear hu
  have HF := Lib.hid hF
  clear hF
  go_enter Try.func88, Try.ntmps88
  go_wp2
  go_loopw [8] (fun i wr => ∃ k : Nat, k ≤ ll.length ∧ i = .int .i64 k ∧ Below w.heap.size w wr ∧ Hid (∀ y ∈ ll.take k, p y = false)) (fun i _ => ll.length - (intOf i).toNat)
  case atStart => exact ⟨0, Nat.zero_le _, rfl, Below.refl _ _, by intro y hy; simp at hy⟩
  case round =>
    obtain ⟨k, hk, rfl, hbel, hno⟩ := hrel
    by_cases hlt : k < ll.length
    · obtain ⟨b, o, l, A', c', rfl, hb, HX, c1, hl⟩ := SlII.at_ hx hlt
      have d1 := bcell hbel hb c1
      have HC := HF.out wr _ l hbel (SlI.more hbel.size (SlI.below hbel hl))
      clear hx c1 hl
      obtain ⟨B, hB⟩ : ∃ B, p l = B := ⟨_, rfl⟩
      rw [hB] at HC
      have HC := Lib.hid HC
      have HB := Lib.hid hB
      clear hB
      cases B
      · go_wp2_with fail
        refine (unhide HC).mono ?_; rintro e w1 ⟨rfl, hb1⟩
        go_wp2
        go_roundw
        case rel =>
          refine ⟨k + 1, by omega, by go_num, hbel.trans (hb1.mono hbel.size), fun y hy => ?_⟩
          rw [take_snoc HX.out, List.mem_append, List.mem_singleton] at hy
          rcases hy with hy | rfl
          · exact hno.out y hy
          · exact HB.out
        case measure => simp [intOf]; omega
      · have hfin := Lib.hid (gidx_some HX.out HB.out hno.out)
        go_wp2_with fail
        refine (unhide HC).mono ?_; rintro e w1 ⟨rfl, hb1⟩
        go_wp2
        go_ret
        exact ⟨by rw [hfin.out]; rfl, hbel.trans (hb1.mono hbel.size)⟩
    · go_wp2
      go_ret
      have h1 := hno.out
      rw [List.take_of_length_le (by omega)] at h1
      exact ⟨by rw [gidx_none h1]; rfl, hbel⟩
theorem slEqualC_any (u v : Value) (xs ys : List Int) (w : World) (hu : SlI w w.heap.size u xs) (hv : SlI w w.heap.size v ys) :
    Calls Try.prog 84 #[u, v] w fun e w' => e = .returned (.bool (decide (ys = xs))) ∧ Below w.heap.size w w' := by
  have h := slEqual_any u v xs ys w hu hv
  rwa [show decide (xs = ys) = decide (ys = xs) from by congr 1; exact propext ⟨Eq.symm, Eq.symm⟩] at h
set_option maxHeartbeats 400000 in
theorem rootEq_any (g : Nat) (a xv : Value) (l x : List Int) (W : World) (ha : SlI W W.heap.size a l) (hc : W.cell? ⟨g, 0, none⟩ = some xv) (hx : SlI W W.heap.size xv x) :
    Calls Try.prog 114 #[a, .pointer (some ⟨g, 0, none⟩)] W fun e w' => e = .returned (.bool (decide (l = x))) ∧ Below W.heap.size W w' := by
  have hE : Calls Try.prog 84 #[a, xv] W fun e w' => e = .returned (.bool (decide (l = x))) ∧ Below W.heap.size W w' := slEqual_any _ _ l x W ha hx
  obtain ⟨A, c, rfl, _⟩ := ha.open_
  obtain ⟨C, d, rfl, _⟩ := hx.open_
  clear ha hx
  obtain ⟨B, hB⟩ : ∃ B, decide (l = x) = B := ⟨_, rfl⟩
  rw [hB] at hE ⊢
  clear hB
  go_enter Try.func114, Try.ntmps114
  go_wp2_with fail
  refine hE.mono ?_; rintro e w1 ⟨rfl, hb1⟩
  clear hE
  go_wp2
  go_ret
  exact ⟨rfl, hb1⟩
set_option maxHeartbeats 400000 in
theorem knitEq_any (g : Nat) (a xv : Value) (l x : List Int) (W : World) (ha : SlI W W.heap.size a l) (hc : W.cell? ⟨g, 0, none⟩ = some xv) (hx : SlI W W.heap.size xv x) :
    Calls Try.prog 89 #[a, .pointer (some ⟨g, 0, none⟩)] W fun e w' => e = .returned (.bool (decide (l = x))) ∧ Below W.heap.size W w' := by
  have hE : Calls Try.prog 84 #[xv, a] W fun e w' => e = .returned (.bool (decide (l = x))) ∧ Below W.heap.size W w' := slEqualC_any _ _ x l W hx ha
  obtain ⟨A, c, rfl, _⟩ := ha.open_
  obtain ⟨C, d, rfl, _⟩ := hx.open_
  clear ha hx
  obtain ⟨B, hB⟩ : ∃ B, decide (l = x) = B := ⟨_, rfl⟩
  rw [hB] at hE ⊢
  clear hB
  go_enter Try.func89, Try.ntmps89
  go_wp2_with fail
  refine hE.mono ?_; rintro e w1 ⟨rfl, hb1⟩
  clear hE
  go_wp2
  go_ret
  exact ⟨rfl, hb1⟩

set_option maxRecDepth 100000 in
set_option maxHeartbeats 1600000 in
theorem rootIndex_any (u xv : Value) (q : Qv) (x : List Int) (w0 : World) (hu : QvR w0 w0.heap.size u q) (hx : SlI w0 w0.heap.size xv x) :
    Calls Try.prog 67 #[u, xv] w0 fun e w' => e = .returned (.int .i64 (gidx (fun l => decide (l = x)) (rtsA q).1)) ∧ Below w0.heap.size w0 w' := by
  obtain ⟨G, hG⟩ : ∃ G, gidx (fun l => decide (l = x)) (rtsA q).1 = G := ⟨_, rfl⟩
  rw [hG]
  have hu' := hu
  have hx' := hx
  obtain ⟨A, c, C, d, rfl, hf, ht, hr, _⟩ := hu.open_
  obtain ⟨XA, xc, rfl, _⟩ := hx.open_
  clear hu hf ht hx
  obtain ⟨W, hW⟩ : ∃ W, W = (w0.alloc (.cells #[.int .i64 q.v, .slice A q.f.length c, .slice C q.t.length d] 28)).alloc (.cells #[.slice XA x.length xc] 22) := ⟨_, rfl⟩
  have kB : Blk W w0.heap.size 28 #[.int .i64 q.v, .slice A q.f.length c, .slice C q.t.length d] := by rw [hW]; exact (Blk.new _ _ _).alloc _
  have kX : Blk W (w0.heap.size + 1) 22 #[.slice XA x.length xc] := by
    rw [hW]
    have := Blk.new (w0.alloc (.cells #[.int .i64 q.v, .slice A q.f.length c, .slice C q.t.length d] 28)) 22 #[.slice XA x.length xc]
    simpa only [World.size_alloc] using this
  have g0 : Below w0.heap.size w0 W := by rw [hW]; exact ((Below.refl _ _).alloc (Nat.le_refl _) _).alloc (by simp) _
  have hq1 := QvR.next g0 hu'
  have hx1 := SlI.next g0 hx'
  have c0 := kB.cell' (i := 0) rfl
  have c1 := kB.cell' (i := 1) rfl
  have c2 := kB.cell' (i := 2) rfl
  clear hu' hx'
  go_enter Try.func67, Try.ntmps67
  go_wp2_with fail
  rw [← hW]; clear hW
  refine (implPositiveRoots_any _ q _ hq1).mono ?_; rintro e w1 ⟨v, rfl, hL, hb1⟩
  have hLr := hL.rd
  have kX1 := kX.call hb1
  have hx2 := SlI.next hb1 hx1
  have g1 := bthen g0 hb1
  have hI := indexFuncR_any (.pointer (some ⟨w0.heap.size + 1, 0, none⟩)) (fun l => decide (l = x)) v (rtsA q).1 w1 hLr (fun W a l hbW ha => rootEq_any _ a _ l x W ha (bcell hbW kX1.lt (kX1.cell' (i := 0) rfl)) (SlI.next hbW hx2))
  clear c0 c1 c2 kB hq1 g0 hb1 hL kX hx1
  rw [hG] at hI
  clear hG
  go_wp2_with fail
  refine hI.mono ?_; rintro e w2 ⟨rfl, hb2⟩
  clear hI
  go_wp2
  go_ret
  exact ⟨rfl, bthen g1 hb2⟩
set_option maxRecDepth 100000 in
set_option maxHeartbeats 1600000 in
theorem implIsRoot_any (u xv : Value) (q : Qv) (x : List Int) (w0 : World) (hu : QvR w0 w0.heap.size u q) (hx : SlI w0 w0.heap.size xv x) :
    Calls Try.prog 25 #[u, xv] w0 fun e w' => e = .returned (.bool (isRtB q x)) ∧ Below w0.heap.size w0 w' := by
  have hx' := hx
  obtain ⟨XA, xc, rfl, _⟩ := hx.open_
  clear hx
  have hga := gidx_any (fun l => decide (l = x)) (rtsA q).1
  have hgr := gidx_range (fun l => decide (l = x)) (rtsA q).1
  obtain ⟨G, hG⟩ : ∃ G, gidx (fun l => decide (l = x)) (rtsA q).1 = G := ⟨_, rfl⟩
  rw [hG] at hga hgr
  have HB : Hid (isRtB q x = decide (0 ≤ G)) := by
    show _ = _
    rw [hga, isRtB, Bool.eq_iff_iff]
    simp
  clear hga
  have hu' := hu
  obtain ⟨A, c, C, d, rfl, hf, ht, hr, _⟩ := hu.open_
  clear hu hf ht
  obtain ⟨W, hW⟩ : ∃ W, W = w0.alloc (.cells #[.int .i64 q.v, .slice A q.f.length c, .slice C q.t.length d] 28) := ⟨_, rfl⟩
  have kB : Blk W w0.heap.size 28 #[.int .i64 q.v, .slice A q.f.length c, .slice C q.t.length d] := by rw [hW]; exact Blk.new _ _ _
  have g0 : Below w0.heap.size w0 W := by rw [hW]; exact below_alloc _ _
  have hq1 := QvR.next g0 hu'
  have c0 := kB.cell' (i := 0) rfl
  have c1 := kB.cell' (i := 1) rfl
  have c2 := kB.cell' (i := 2) rfl
  clear hu'
  have hx1 := SlI.next g0 hx'
  have hri2 := rootIndex_any _ _ q x W hq1 hx1
  rw [hG] at hri2
  clear hG
  by_cases h0 : 0 ≤ G
  · have hd : decide (0 ≤ G) = true := decide_eq_true h0
    go_enter Try.func25, Try.ntmps25
    go_wp2_with fail
    rw [← hW]; clear hW
    refine hri2.mono ?_; rintro e w1 ⟨rfl, hb1⟩
    clear hri2
    go_wp2
    go_ret
    exact ⟨by rw [HB.out, hd]; rfl, bthen g0 hb1⟩
  · have hd : decide (0 ≤ G) = false := decide_eq_false h0
    go_enter Try.func25, Try.ntmps25
    go_wp2_with fail
    rw [← hW]; clear hW
    refine hri2.mono ?_; rintro e w1 ⟨rfl, hb1⟩
    clear hri2
    go_wp2
    go_ret
    exact ⟨by rw [HB.out, hd]; rfl, bthen g0 hb1⟩
set_option maxRecDepth 100000 in
set_option maxHeartbeats 1600000 in
theorem specIsRoot_any (u xv : Value) (q : Qv) (x : List Int) (w0 : World) (hu : QvR w0 w0.heap.size u q) (hx : SlI w0 w0.heap.size xv x) :
    Calls Try.prog 24 #[u, xv] w0 fun e w' => e = .returned (.bool (isRtB q x)) ∧ Below w0.heap.size w0 w' := by
  have hx' := hx
  obtain ⟨XA, xc, rfl, _⟩ := hx.open_
  clear hx
  have hnil := rtsA_nil (q := q)
  have hdf : isRtB q x = decide (x ∈ (rtsA q).1) := rfl
  have hu' := hu
  obtain ⟨A, c, C, d, rfl, hf, ht, hr, _⟩ := hu.open_
  clear hu hf ht
  obtain ⟨W, hW⟩ : ∃ W, W = w0.alloc (.cells #[.int .i64 q.v, .slice A q.f.length c, .slice C q.t.length d] 28) := ⟨_, rfl⟩
  have kB : Blk W w0.heap.size 28 #[.int .i64 q.v, .slice A q.f.length c, .slice C q.t.length d] := by rw [hW]; exact Blk.new _ _ _
  have g0 : Below w0.heap.size w0 W := by rw [hW]; exact below_alloc _ _
  have hq1 := QvR.next g0 hu'
  have c0 := kB.cell' (i := 0) rfl
  have c1 := kB.cell' (i := 1) rfl
  have c2 := kB.cell' (i := 2) rfl
  clear hu'
  have hx1 := SlI.next g0 hx'
  rcases hB : (rtsA q).2 with _ | _
  · have HF : Hid (isRtB q x = false) := by show _ = _; rw [hdf, hnil hB]; rfl
    have HB := Lib.hid hB
    clear hB hdf hnil
    go_enter Try.func24, Try.ntmps24
    go_wp2_with fail
    rw [← hW]; clear hW
    refine (specPositiveRoots_any _ q _ hq1).mono ?_; rintro e w1 ⟨v, rfl, hL, hb1⟩
    have hLr : SlII w1 w1.heap.size v (rtsA q).1 := by first | exact hL.rd | exact hL
    obtain ⟨LA, lc, hve, hlc1, hlc2, hlc3, hLr⟩ := hLr.open_
    subst hve
    have kB1 := kB.call hb1
    have hq2 := QvR.next hb1 hq1
    have g1 := bthen g0 hb1
    have gs1 := g0.size
    have gs2 := hb1.size
    clear c0 c1 c2 kB hq1 g0 hb1
    rw [HB.out]
    go_wp2
    go_ret
    exact ⟨by rw [HF.out]; rfl, g1⟩
  · have HB := Lib.hid hB
    have HDF := Lib.hid hdf
    clear hB hdf hnil
    have hx2 := fun w h => SlI.next (w := W) (w' := w) h hx1
    go_enter Try.func24, Try.ntmps24
    go_wp2_with fail
    rw [← hW]; clear hW
    refine (specPositiveRoots_any _ q _ hq1).mono ?_; rintro e w1 ⟨v, rfl, hL, hb1⟩
    have hxx := hx2 w1 hb1
    clear hx2
    rw [HB.out]
    have g1 := bthen g0 hb1
    go_wp2_with fail
    refine (l20Has_any _ _ (rtsA q).1 x w1 hL hxx).mono ?_; rintro e w2 ⟨rfl, hb2⟩
    obtain ⟨B, hB⟩ : ∃ B, decide (x ∈ (rtsA q).1) = B := ⟨_, rfl⟩
    have HB2 := Lib.hid hB
    rw [hB]
    clear hB
    go_wp2
    go_ret
    exact ⟨by rw [HDF.out, HB2.out]; rfl, bthen g1 hb2⟩
end Go.Proofs.Ytkhkamcmlhmpiaa

/- The walk of FnExactIsRoot, printed by program (wip/law.py) out of the contracts of what it calls. -/
namespace Go.Proofs.Ytkhkamcmlhmpiaa
set_option linter.unusedVariables false
set_option linter.unusedSimpArgs false
open Go.RowKit

set_option maxHeartbeats 1600000 in
set_option maxRecDepth 100000 in
theorem lawIsRoot_any (uq : Value) (q : Qv) (ux : Value) (x : List Int) (w : World) (hq : QvR w w.heap.size uq q) (hx : SlI w w.heap.size ux x) :
    Calls Try.prog 5 #[uq, ux] w fun e w' => e = .returned (.bool true) ∧ Below w.heap.size w w' := by
  obtain ⟨Auq, cuq, Cuq, duq, eq⟩ := QvR.form hq
  subst eq
  have lq := QvR.lens hq
  obtain ⟨Ax, cx, rfl, _, _, lx, _⟩ := hx.open_
  have g0 := Below.refl w.heap.size w
  by_cases z0 : (1048576 : Int) < x.length
  · go_enter Try.func5, Try.ntmps5
    go_wp2
    go_ret
    exact ⟨rfl, (g0).alloc (by simp) _⟩
  by_cases z1 : (1048576 : Int) < (q.size : Nat)
  · have y1 : szLeft (1048576 : Int) (q.size) = -1 := by rw [szLeft, if_pos z1]
    go_enter Try.func5, Try.ntmps5
    go_wp2_with fail
    obtain ⟨W2, e3⟩ : ∃ W, W = w.alloc (.cells #[.int .i64 (q).v, .slice Auq (q).f.length cuq, .slice Cuq (q).t.length duq] 24) := ⟨_, rfl⟩
    rw [← e3]
    have b4 : Below w.heap.size w W2 := by rw [e3]; exact below_alloc _ _
    have k5 : Blk W2 w.heap.size 24 #[.int .i64 (q).v, .slice Auq (q).f.length cuq, .slice Cuq (q).t.length duq] := by rw [e3]; exact Blk.new _ _ _
    have s6 : w.heap.size < W2.heap.size := by rw [e3]; simp
    clear e3
    have h7 := QvR.below (b4.mono (by omega)) hq
    have h8 := SlI.below (b4.mono (by omega)) hx
    have s9 : w.heap.size ≤ W2.heap.size := b4.size
    have g10 := bthen g0 b4
    clear hq hx g0 b4
    have c11 := k5.cell' (i := 0) rfl
    have c12 := k5.cell' (i := 1) rfl
    have c13 := k5.cell' (i := 2) rfl
    refine (szQuiver_any _ _ (1048576 : Int) _ (QvR.more (by omega) h7) (by omega) (by omega)).mono ?_; rintro e W14 ⟨rfl, b1⟩
    have h15 := QvR.below (b1.mono (by omega)) h7
    have h16 := SlI.below (b1.mono (by omega)) h8
    have k17 := k5.call b1
    have s18 : W2.heap.size ≤ W14.heap.size := b1.size
    have g19 := bthen g10 b1
    clear h7 h8 k5 g10 b1 c11 c12 c13
    have c20 := k17.cell' (i := 0) rfl
    have c21 := k17.cell' (i := 1) rfl
    have c22 := k17.cell' (i := 2) rfl
    go_wp2
    go_ret
    exact ⟨rfl, g19⟩
  have y1 : szLeft (1048576 : Int) (q.size) = (1048576 : Int) - (q.size : Nat) := by rw [szLeft, if_neg z1]
  have x1 : ¬ ((1048576 : Int) - ((q.size : Nat) : Int) < 0) := by omega
  go_enter Try.func5, Try.ntmps5
  go_wp2_with fail
  obtain ⟨W24, e25⟩ : ∃ W, W = w.alloc (.cells #[.int .i64 (q).v, .slice Auq (q).f.length cuq, .slice Cuq (q).t.length duq] 24) := ⟨_, rfl⟩
  rw [← e25]
  have b26 : Below w.heap.size w W24 := by rw [e25]; exact below_alloc _ _
  have k27 : Blk W24 w.heap.size 24 #[.int .i64 (q).v, .slice Auq (q).f.length cuq, .slice Cuq (q).t.length duq] := by rw [e25]; exact Blk.new _ _ _
  have s28 : w.heap.size < W24.heap.size := by rw [e25]; simp
  clear e25
  have h29 := QvR.below (b26.mono (by omega)) hq
  have h30 := SlI.below (b26.mono (by omega)) hx
  have s31 : w.heap.size ≤ W24.heap.size := b26.size
  have g32 := bthen g0 b26
  clear hq hx g0 b26
  have c33 := k27.cell' (i := 0) rfl
  have c34 := k27.cell' (i := 1) rfl
  have c35 := k27.cell' (i := 2) rfl
  refine (szQuiver_any _ _ (1048576 : Int) _ (QvR.more (by omega) h29) (by omega) (by omega)).mono ?_; rintro e W36 ⟨rfl, b23⟩
  have h37 := QvR.below (b23.mono (by omega)) h29
  have h38 := SlI.below (b23.mono (by omega)) h30
  have k39 := k27.call b23
  have s40 : W24.heap.size ≤ W36.heap.size := b23.size
  have g41 := bthen g32 b23
  clear h29 h30 k27 g32 b23 c33 c34 c35
  have c42 := k39.cell' (i := 0) rfl
  have c43 := k39.cell' (i := 1) rfl
  have c44 := k39.cell' (i := 2) rfl
  go_wp2_with fail
  refine (quiv_to _ _ _ (QvR.more (by omega) h37) (by omega)).mono ?_; rintro e W48 ⟨v45, rfl, h46, b47⟩
  have h49 := QvR.below (b47.mono (by omega)) h37
  have h50 := SlI.below (b47.mono (by omega)) h38
  have k51 := k39.call b47
  have s52 : W36.heap.size ≤ W48.heap.size := b47.size
  have g53 := bthen g41 b47
  clear h37 h38 k39 g41 b47 c42 c43 c44
  have c54 := k51.cell' (i := 0) rfl
  have c55 := k51.cell' (i := 1) rfl
  have c56 := k51.cell' (i := 2) rfl
  go_wp2_with fail
  refine (ints_to _ _ _ (SlI.more (by omega) h50) (by omega)).mono ?_; rintro e W60 ⟨v57, rfl, h58, b59⟩
  have h61 := QvR.below (b59.mono (by omega)) h49
  have h62 := SlI.below (b59.mono (by omega)) h50
  have h63 := h46.below b59
  have k64 := k51.call b59
  have s65 : W48.heap.size ≤ W60.heap.size := b59.size
  have g66 := bthen g53 b59
  clear h49 h50 h46 k51 g53 b59 c54 c55 c56
  have c67 := k64.cell' (i := 0) rfl
  have c68 := k64.cell' (i := 1) rfl
  have c69 := k64.cell' (i := 2) rfl
  go_wp2_with fail
  refine (specIsRoot_any _ _ _ _ _ h63.rd h58.rd).mono ?_; rintro e W71 ⟨rfl, b70⟩
  have h72 := QvR.below (b70.mono (by omega)) h61
  have h73 := SlI.below (b70.mono (by omega)) h62
  have h74 := h63.below b70
  have h75 := h58.below b70
  have k76 := k64.call b70
  have s77 : W60.heap.size ≤ W71.heap.size := b70.size
  have g78 := bthen g66 b70
  clear h61 h62 h63 h58 k64 g66 b70 c67 c68 c69
  have c79 := k76.cell' (i := 0) rfl
  have c80 := k76.cell' (i := 1) rfl
  have c81 := k76.cell' (i := 2) rfl
  clear h74
  clear h75
  go_wp2_with fail
  refine (quiv_to _ _ _ (QvR.more (by omega) h72) (by omega)).mono ?_; rintro e W85 ⟨v82, rfl, h83, b84⟩
  have h86 := QvR.below (b84.mono (by omega)) h72
  have h87 := SlI.below (b84.mono (by omega)) h73
  have k88 := k76.call b84
  have s89 : W71.heap.size ≤ W85.heap.size := b84.size
  have g90 := bthen g78 b84
  clear h72 h73 k76 g78 b84 c79 c80 c81
  have c91 := k88.cell' (i := 0) rfl
  have c92 := k88.cell' (i := 1) rfl
  have c93 := k88.cell' (i := 2) rfl
  obtain ⟨Ax94, cx94, Cx94, dx94, e95⟩ := h83.form
  subst e95
  have c99 := fun o => (k88.alloc o).cell' (i := 0) rfl
  have c100 := fun o => (k88.alloc o).cell' (i := 1) rfl
  have c101 := fun o => (k88.alloc o).cell' (i := 2) rfl
  go_wp2_with fail
  obtain ⟨W102, e103⟩ : ∃ W, W = W85.alloc (.cells #[.int .i64 (q).v, .slice Ax94 (q).f.length cx94, .slice Cx94 (q).t.length dx94] 28) := ⟨_, rfl⟩
  rw [← e103]
  have b104 : Below W85.heap.size W85 W102 := by rw [e103]; exact below_alloc _ _
  have k105 : Blk W102 W85.heap.size 28 #[.int .i64 (q).v, .slice Ax94 (q).f.length cx94, .slice Cx94 (q).t.length dx94] := by rw [e103]; exact Blk.new _ _ _
  have s106 : W85.heap.size < W102.heap.size := by rw [e103]; simp
  clear e103
  have h107 := QvR.below (b104.mono (by omega)) h86
  have h108 := SlI.below (b104.mono (by omega)) h87
  have h109 := h83.below b104
  have k110 := k88.call b104
  have s111 : W85.heap.size ≤ W102.heap.size := b104.size
  have g112 := bthen g90 b104
  clear h86 h87 h83 k88 g90 b104 c91 c92 c93 c99 c100 c101
  have c113 := k110.cell' (i := 0) rfl
  have c114 := k110.cell' (i := 1) rfl
  have c115 := k110.cell' (i := 2) rfl
  have c116 := k105.cell' (i := 0) rfl
  have c117 := k105.cell' (i := 1) rfl
  have c118 := k105.cell' (i := 2) rfl
  refine (ints_to _ _ _ (SlI.more (by omega) h108) (by omega)).mono ?_; rintro e W119 ⟨v96, rfl, h97, b98⟩
  have h120 := QvR.below (b98.mono (by omega)) h107
  have h121 := SlI.below (b98.mono (by omega)) h108
  have h122 := h109.below b98
  have k123 := k110.call b98
  have k124 := k105.call b98
  have s125 : W102.heap.size ≤ W119.heap.size := b98.size
  have g126 := bthen g112 b98
  clear h107 h108 h109 k110 k105 g112 b98 c113 c114 c115 c116 c117 c118
  have c127 := k123.cell' (i := 0) rfl
  have c128 := k123.cell' (i := 1) rfl
  have c129 := k123.cell' (i := 2) rfl
  have c130 := k124.cell' (i := 0) rfl
  have c131 := k124.cell' (i := 1) rfl
  have c132 := k124.cell' (i := 2) rfl
  go_wp2_with fail
  refine (implIsRoot_any _ _ _ _ _ h122.rd h97.rd).mono ?_; rintro e W134 ⟨rfl, b133⟩
  have h135 := QvR.below (b133.mono (by omega)) h120
  have h136 := SlI.below (b133.mono (by omega)) h121
  have h137 := h122.below b133
  have h138 := h97.below b133
  have k139 := k123.call b133
  have k140 := k124.call b133
  have s141 : W119.heap.size ≤ W134.heap.size := b133.size
  have g142 := bthen g126 b133
  clear h120 h121 h122 h97 k123 k124 g126 b133 c127 c128 c129 c130 c131 c132
  have c143 := k139.cell' (i := 0) rfl
  have c144 := k139.cell' (i := 1) rfl
  have c145 := k139.cell' (i := 2) rfl
  have c146 := k140.cell' (i := 0) rfl
  have c147 := k140.cell' (i := 1) rfl
  have c148 := k140.cell' (i := 2) rfl
  go_wp2_with fail
  have b149 := drew_below W134
  have h150 := QvR.below (b149.mono (by omega)) h135
  have h151 := SlI.below (b149.mono (by omega)) h136
  have h152 := h137.below b149
  have h153 := h138.below b149
  have k154 := k139.call b149
  have k155 := k140.call b149
  have s156 : W134.heap.size ≤ W134.drew.heap.size := b149.size
  have g157 := bthen g142 b149
  clear h135 h136 h137 h138 k139 k140 g142 b149 c143 c144 c145 c146 c147 c148
  have c158 := k154.cell' (i := 0) rfl
  have c159 := k154.cell' (i := 1) rfl
  have c160 := k154.cell' (i := 2) rfl
  have c161 := k155.cell' (i := 0) rfl
  have c162 := k155.cell' (i := 1) rfl
  have c163 := k155.cell' (i := 2) rfl
  go_region_held3 (fun W' => W'.cell? ⟨w.heap.size, 0, none⟩ = some (.int .i64 (q).v) ∧ W'.cell? ⟨w.heap.size, 1, none⟩ = some (.slice Auq (q).f.length cuq) ∧ W'.cell? ⟨w.heap.size, 2, none⟩ = some (.slice Cuq (q).t.length duq) ∧ W'.cell? ⟨W85.heap.size, 0, none⟩ = some (.int .i64 (q).v) ∧ W'.cell? ⟨W85.heap.size, 1, none⟩ = some (.slice Ax94 (q).f.length cx94) ∧ W'.cell? ⟨W85.heap.size, 2, none⟩ = some (.slice Cx94 (q).t.length dx94))
    (first | exact ⟨c158, c159, c160, c161, c162, c163⟩ | exact ⟨c176, c177, c178, c179, c180, c181⟩ | exact ⟨c193, c194, c195, c196, c197, c198⟩)
    (first | (go_at_call 17; refine (quiv_to _ _ _ (QvR.more (by omega) h150) (by omega)).mono ?_; rintro e W167 ⟨v164, rfl, h165, b166⟩; have h168 := QvR.below (b166.mono (by omega)) h150; have h169 := SlI.below (b166.mono (by omega)) h151; have h170 := h152.below b166; have h171 := h153.below b166; have k172 := k154.call b166; have k173 := k155.call b166; have s174 : W134.drew.heap.size ≤ W167.heap.size := b166.size; have g175 := bthen g157 b166; clear h150 h151 h152 h153 k154 k155 g157 b166 c158 c159 c160 c161 c162 c163; have c176 := k172.cell' (i := 0) rfl; have c177 := k172.cell' (i := 1) rfl; have c178 := k172.cell' (i := 2) rfl; have c179 := k173.cell' (i := 0) rfl; have c180 := k173.cell' (i := 1) rfl; have c181 := k173.cell' (i := 2) rfl) | (go_at_call 20; refine (eqQuiver_any _ _ _ _ _ h170.rd h165.rd).mono ?_; rintro e W183 ⟨rfl, b182⟩; have h184 := QvR.below (b182.mono (by omega)) h168; have h185 := SlI.below (b182.mono (by omega)) h169; have h186 := h170.below b182; have h187 := h171.below b182; have h188 := h165.below b182; have k189 := k172.call b182; have k190 := k173.call b182; have s191 : W167.heap.size ≤ W183.heap.size := b182.size; have g192 := bthen g175 b182; clear h168 h169 h170 h171 h165 k172 k173 g175 b182 c176 c177 c178 c179 c180 c181; have c193 := k189.cell' (i := 0) rfl; have c194 := k189.cell' (i := 1) rfl; have c195 := k189.cell' (i := 2) rfl; have c196 := k190.cell' (i := 0) rfl; have c197 := k190.cell' (i := 1) rfl; have c198 := k190.cell' (i := 2) rfl))
  clear h188
  go_wp2_with fail
  refine (ints_to _ _ _ (SlI.more (by omega) h185) (by omega)).mono ?_; rintro e W202 ⟨v199, rfl, h200, b201⟩
  have h203 := QvR.below (b201.mono (by omega)) h184
  have h204 := SlI.below (b201.mono (by omega)) h185
  have h205 := h186.below b201
  have h206 := h187.below b201
  have k207 := k189.call b201
  have k208 := k190.call b201
  have s209 : W183.heap.size ≤ W202.heap.size := b201.size
  have g210 := bthen g192 b201
  clear h184 h185 h186 h187 k189 k190 g192 b201 c193 c194 c195 c196 c197 c198
  have c211 := k207.cell' (i := 0) rfl
  have c212 := k207.cell' (i := 1) rfl
  have c213 := k207.cell' (i := 2) rfl
  have c214 := k208.cell' (i := 0) rfl
  have c215 := k208.cell' (i := 1) rfl
  have c216 := k208.cell' (i := 2) rfl
  go_wp2_with fail
  refine (eqIntS_any _ _ _ _ _ h206.rd h200.rd).mono ?_; rintro e W218 ⟨rfl, b217⟩
  have h219 := QvR.below (b217.mono (by omega)) h203
  have h220 := SlI.below (b217.mono (by omega)) h204
  have h221 := h205.below b217
  have h222 := h206.below b217
  have h223 := h200.below b217
  have k224 := k207.call b217
  have k225 := k208.call b217
  have s226 : W202.heap.size ≤ W218.heap.size := b217.size
  have g227 := bthen g210 b217
  clear h203 h204 h205 h206 h200 k207 k208 g210 b217 c211 c212 c213 c214 c215 c216
  have c228 := k224.cell' (i := 0) rfl
  have c229 := k224.cell' (i := 1) rfl
  have c230 := k224.cell' (i := 2) rfl
  have c231 := k225.cell' (i := 0) rfl
  have c232 := k225.cell' (i := 1) rfl
  have c233 := k225.cell' (i := 2) rfl
  clear h223
  go_wp2
  go_ret
  exact ⟨rfl, g227⟩
end Go.Proofs.Ytkhkamcmlhmpiaa

/- FnExactIsRoot is proved: for every argument the program's IsRoot returns what the reference's returns, leaves its arguments as they were, and returns memory of its own. No condition. -/
namespace Go.Proofs.Ytkhkamcmlhmpiaa
set_option linter.unusedVariables false
set_option linter.unusedSimpArgs false
open Go.RowKit Go.ChangeShapes Go.WideShapes Go.ChangeAt Go.Deep

set_option maxRecDepth 100000 in
theorem isRoot_lifted (os : Os) (started : os.Started) (H : Type) (enc : TypeId × Value → H) :
    ReturnsInHanded {} Try.checked os 5 .any (Rows.fnExactIsRootSpec.pre6 enc Try.prog Try.f5 Rows.fnExactIsRootRow.domain false) (Rows.fnExactIsRootSpec.post enc Try.prog Try.f5 false true false false) := by
  refine lift_law started (by kernel_rfl) Try.func5 (ChangeSpec.witness6 (enc := enc) (C := Try.checked) false ⟨#[], #[.agg #[.int .i64 0, .slice none 0 0, .slice none 0 0], .slice none 0 0], []⟩ 8 (by kernel_rfl) (by kernel_rfl) (by kernel_rfl) (by kernel_rfl))
    rfl rfl (by rw [Try.params5]; intro t ht; simp only [List.mem_cons, List.not_mem_nil, or_false] at ht; rcases ht with rfl | rfl <;> exact ⟨by kernel_rfl, of_decide_eq_true (by kernel_rfl)⟩) (fun ds hl => by rw [Try.params5] at hl; match ds, hl with | [_, _], _ => rfl) ?_
  intro W args ds ps base hval hA hwt
  rw [Try.params5] at hA hval hwt
  obtain ⟨v0, v1, d0, d1, p0, p1, hargs, rfl, rfl, h0, h1⟩ := trodAll_two hA
  obtain rfl : args = #[v0, v1] := by cases args; simp_all
  obtain ⟨x0, r0⟩ := argQuiver (hval 0 _ _ rfl rfl) h0 (hwt 0 _ _ rfl rfl)
  obtain ⟨x1, r1⟩ := argInts (hval 1 _ _ rfl rfl) h1 (hwt 1 _ _ rfl rfl)
  exact lawIsRoot_any _ _ _ _ W r0 r1

theorem isRoot_closed : joinedFacts Try.prog 5 Try.f5 Rows.fnExactIsRootSpec Rows.fnExactIsRootRow = true := by
  unfold joinedFacts
  refine band (band (band (band (band (band (band ?_ seatEnter) seatLifts) seatMake) ?_) ?_) ?_) ?_ <;> kernel_rfl

theorem isRoot_holds : Rows.FnExactIsRootSaid :=
  OpenClaim.holds_of_wide 5 Try.f5 rfl rfl rfl rfl rfl rfl rfl ⟨rfl, rfl, rfl, rfl, rfl⟩ rfl rfl rfl rfl rfl (by kernel_rfl) Try.func5 isRoot_closed
    (of_decide_eq_true (by kernel_rfl)) (by unfold Func.isWrapper; first | (rw [if_pos (by decide +kernel)]; kernel_rfl) | (rw [if_neg (by decide +kernel)]; exact ⟨rfl, rfl⟩))
    (fun os started H enc _ => isRoot_lifted os started H enc)
#print axioms isRoot_holds
end Go.Proofs.Ytkhkamcmlhmpiaa
