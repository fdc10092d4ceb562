/- FnExactCountRoots: for every argument the program's function returns what the reference's returns. Part 11 of 11 of the proof: RtX, LawCountRoots, LawCountRootsRow. No condition. -/
import Derived.Test.YtkhkamcmlhmpiaaBCountRoots10
/- CountRoots, HighestRoot, IsRoot: both sides. -/
namespace Go.Proofs.Ytkhkamcmlhmpiaa
set_option linter.unusedVariables false
set_option linter.unusedSimpArgs false
open Go.RowKit

def cntRt (q : Qv) : Int := if (rtsA q).2 = true then ((rtsA q).1.length : Int) else -1
def hiR (q : Qv) : List Int × Bool := if (rtsA q).2 = true ∧ conQ q = true then ((rtsA q).1.getD ((rtsA q).1.length - 1) [], true) else ([], false)
def isRtB (q : Qv) (x : List Int) : Bool := decide (x ∈ (rtsA q).1)
theorem rtsA_pos {q : Qv} (h : (rtsA q).2 = true) : 0 < (rtsA q).1.length := by
  rw [rtsA] at h ⊢
  split at h
  · rename_i hk
    rw [if_pos hk]
    have hv := (isQ_t.1 (fin_isQ hk)).1
    exact List.length_pos_of_mem ((rtsQ_mem hk).2 (isRt_uni hk (v := 0) (by omega)))
  · cases h
theorem rtsA_nil {q : Qv} (h : (rtsA q).2 = false) : (rtsA q).1 = [] := by
  rw [rtsA] at h ⊢
  split at h
  · cases h
  · rename_i hk; rw [if_neg hk]
set_option maxRecDepth 100000 in
set_option maxHeartbeats 1600000 in
theorem specCountRoots_any (u : Value) (q : Qv) (w0 : World) (hu : QvR w0 w0.heap.size u q) :
    Calls Try.prog 22 #[u] w0 fun e w' => e = .returned (.int .i64 (cntRt q)) ∧ Below w0.heap.size w0 w' := by
  have hu' := hu
  obtain ⟨A, c, C, d, rfl, hf, ht, hr, _⟩ := hu.open_
  clear hu hf ht
  obtain ⟨W, hW⟩ : ∃ W, W = w0.alloc (.cells #[.int .i64 q.v, .slice A q.f.length c, .slice C q.t.length d] 28) := ⟨_, rfl⟩
  have kB : Blk W w0.heap.size 28 #[.int .i64 q.v, .slice A q.f.length c, .slice C q.t.length d] := by rw [hW]; exact Blk.new _ _ _
  have g0 : Below w0.heap.size w0 W := by rw [hW]; exact below_alloc _ _
  have hq1 := QvR.next g0 hu'
  have c0 := kB.cell' (i := 0) rfl
  have c1 := kB.cell' (i := 1) rfl
  have c2 := kB.cell' (i := 2) rfl
  clear hu'
  have hdf : cntRt q = if (rtsA q).2 = true then ((rtsA q).1.length : Int) else -1 := rfl
  rcases hB : (rtsA q).2 with _ | _
  · have HF : Hid (cntRt q = -1) := by show _ = _; rw [hdf, if_neg (by rw [hB]; simp)]
    have HB := Lib.hid hB
    clear hB hdf
    go_enter Try.func22, Try.ntmps22
    go_wp2_with fail
    rw [← hW]; clear hW
    refine (specPositiveRoots_any _ q _ hq1).mono ?_; rintro e w1 ⟨v, rfl, hL, hb1⟩
    have hLr : SlII w1 w1.heap.size v (rtsA q).1 := by first | exact hL.rd | exact hL
    obtain ⟨LA, lc, hve, hlc1, hlc2, hlc3, hLr⟩ := hLr.open_
    subst hve
    have kB1 := kB.call hb1
    have hq2 := QvR.next hb1 hq1
    have g1 := bthen g0 hb1
    have gs1 := g0.size
    have gs2 := hb1.size
    clear c0 c1 c2 kB hq1 g0 hb1
    rw [HB.out]
    go_wp2
    go_ret
    exact ⟨by rw [HF.out]; rfl, g1⟩
  · have HF : Hid (cntRt q = ((rtsA q).1.length : Int)) := by show _ = _; rw [hdf, if_pos hB]
    have HB := Lib.hid hB
    clear hB hdf
    go_enter Try.func22, Try.ntmps22
    go_wp2_with fail
    rw [← hW]; clear hW
    refine (specPositiveRoots_any _ q _ hq1).mono ?_; rintro e w1 ⟨v, rfl, hL, hb1⟩
    have hLr : SlII w1 w1.heap.size v (rtsA q).1 := by first | exact hL.rd | exact hL
    obtain ⟨LA, lc, hve, hlc1, hlc2, hlc3, hLr⟩ := hLr.open_
    subst hve
    have kB1 := kB.call hb1
    have hq2 := QvR.next hb1 hq1
    have g1 := bthen g0 hb1
    have gs1 := g0.size
    have gs2 := hb1.size
    clear c0 c1 c2 kB hq1 g0 hb1
    rw [HB.out]
    go_wp2
    go_ret
    exact ⟨by rw [HF.out]; rfl, g1⟩
set_option maxRecDepth 100000 in
set_option maxHeartbeats 1600000 in
theorem implCountRoots_any (u : Value) (q : Qv) (w0 : World) (hu : QvR w0 w0.heap.size u q) :
    Calls Try.prog 23 #[u] w0 fun e w' => e = .returned (.int .i64 (cntRt q)) ∧ Below w0.heap.size w0 w' := by
  have hu' := hu
  obtain ⟨A, c, C, d, rfl, hf, ht, hr, _⟩ := hu.open_
  clear hu hf ht
  obtain ⟨W, hW⟩ : ∃ W, W = w0.alloc (.cells #[.int .i64 q.v, .slice A q.f.length c, .slice C q.t.length d] 28) := ⟨_, rfl⟩
  have kB : Blk W w0.heap.size 28 #[.int .i64 q.v, .slice A q.f.length c, .slice C q.t.length d] := by rw [hW]; exact Blk.new _ _ _
  have g0 : Below w0.heap.size w0 W := by rw [hW]; exact below_alloc _ _
  have hq1 := QvR.next g0 hu'
  have c0 := kB.cell' (i := 0) rfl
  have c1 := kB.cell' (i := 1) rfl
  have c2 := kB.cell' (i := 2) rfl
  clear hu'
  have hdf : cntRt q = if (rtsA q).2 = true then ((rtsA q).1.length : Int) else -1 := rfl
  rcases hB : (rtsA q).2 with _ | _
  · have HF : Hid (cntRt q = -1) := by show _ = _; rw [hdf, if_neg (by rw [hB]; simp)]
    have HB := Lib.hid hB
    clear hB hdf
    go_enter Try.func23, Try.ntmps23
    go_wp2_with fail
    rw [← hW]; clear hW
    refine (implPositiveRoots_any _ q _ hq1).mono ?_; rintro e w1 ⟨v, rfl, hL, hb1⟩
    have hLr : SlII w1 w1.heap.size v (rtsA q).1 := by first | exact hL.rd | exact hL
    obtain ⟨LA, lc, hve, hlc1, hlc2, hlc3, hLr⟩ := hLr.open_
    subst hve
    have kB1 := kB.call hb1
    have hq2 := QvR.next hb1 hq1
    have g1 := bthen g0 hb1
    have gs1 := g0.size
    have gs2 := hb1.size
    clear c0 c1 c2 kB hq1 g0 hb1
    rw [HB.out]
    go_wp2
    go_ret
    exact ⟨by rw [HF.out]; rfl, g1⟩
  · have HF : Hid (cntRt q = ((rtsA q).1.length : Int)) := by show _ = _; rw [hdf, if_pos hB]
    have HB := Lib.hid hB
    clear hB hdf
    go_enter Try.func23, Try.ntmps23
    go_wp2_with fail
    rw [← hW]; clear hW
    refine (implPositiveRoots_any _ q _ hq1).mono ?_; rintro e w1 ⟨v, rfl, hL, hb1⟩
    have hLr : SlII w1 w1.heap.size v (rtsA q).1 := by first | exact hL.rd | exact hL
    obtain ⟨LA, lc, hve, hlc1, hlc2, hlc3, hLr⟩ := hLr.open_
    subst hve
    have kB1 := kB.call hb1
    have hq2 := QvR.next hb1 hq1
    have g1 := bthen g0 hb1
    have gs1 := g0.size
    have gs2 := hb1.size
    clear c0 c1 c2 kB hq1 g0 hb1
    rw [HB.out]
    go_wp2
    go_ret
    exact ⟨by rw [HF.out]; rfl, g1⟩
set_option maxRecDepth 100000 in
set_option maxHeartbeats 1600000 in
theorem specHighestRoot_any (u : Value) (q : Qv) (w0 : World) (hu : QvR w0 w0.heap.size u q) :
    Calls Try.prog 32 #[u] w0 fun e w' => ∃ v, e = .returned (.tuple #[v, .bool (hiR q).2]) ∧ SlI w' w'.heap.size v (hiR q).1 ∧ Below w0.heap.size w0 w' := by
  have hu' := hu
  obtain ⟨A, c, C, d, rfl, hf, ht, hr, _⟩ := hu.open_
  clear hu hf ht
  obtain ⟨W, hW⟩ : ∃ W, W = w0.alloc (.cells #[.int .i64 q.v, .slice A q.f.length c, .slice C q.t.length d] 28) := ⟨_, rfl⟩
  have kB : Blk W w0.heap.size 28 #[.int .i64 q.v, .slice A q.f.length c, .slice C q.t.length d] := by rw [hW]; exact Blk.new _ _ _
  have g0 : Below w0.heap.size w0 W := by rw [hW]; exact below_alloc _ _
  have hq1 := QvR.next g0 hu'
  have c0 := kB.cell' (i := 0) rfl
  have c1 := kB.cell' (i := 1) rfl
  have c2 := kB.cell' (i := 2) rfl
  clear hu'
  have hdf : hiR q = if (rtsA q).2 = true ∧ conQ q = true then ((rtsA q).1.getD ((rtsA q).1.length - 1) [], true) else ([], false) := rfl
  rcases hB : (rtsA q).2 with _ | _
  · have HF : Hid (hiR q = ([], false)) := by show _ = _; rw [hdf, if_neg (by rw [hB]; simp)]
    have HB := Lib.hid hB
    clear hB hdf
    go_enter Try.func32, Try.ntmps32
    go_wp2_with fail
    rw [← hW]; clear hW
    refine (specPositiveRoots_any _ q _ hq1).mono ?_; rintro e w1 ⟨v, rfl, hL, hb1⟩
    have hLr : SlII w1 w1.heap.size v (rtsA q).1 := by first | exact hL.rd | exact hL
    obtain ⟨LA, lc, hve, hlc1, hlc2, hlc3, hLr⟩ := hLr.open_
    subst hve
    have kB1 := kB.call hb1
    have hq2 := QvR.next hb1 hq1
    have g1 := bthen g0 hb1
    have gs1 := g0.size
    have gs2 := hb1.size
    clear c0 c1 c2 kB hq1 g0 hb1
    rw [HB.out]
    go_wp2
    go_ret2
    rw [HF.out]
    exact ⟨_, rfl, ⟨_, 0, rfl, by simp, by omega, by simp, fun h => absurd h (by simp)⟩, by first | exact g1 | exact g1.alloc (g1.size) _⟩
  · have hpos := rtsA_pos hB
    rcases hC : conQ q with _ | _
    · have HF : Hid (hiR q = ([], false)) := by show _ = _; rw [hdf, if_neg (by rw [hC]; simp)]
      have HB := Lib.hid hB
      have HC := Lib.hid hC
      clear hB hC hdf
      go_enter Try.func32, Try.ntmps32
      go_wp2_with fail
      rw [← hW]; clear hW
      refine (specPositiveRoots_any _ q _ hq1).mono ?_; rintro e w1 ⟨v, rfl, hL, hb1⟩
      have hLr : SlII w1 w1.heap.size v (rtsA q).1 := by first | exact hL.rd | exact hL
      obtain ⟨LA, lc, hve, hlc1, hlc2, hlc3, hLr⟩ := hLr.open_
      subst hve
      have kB1 := kB.call hb1
      have hq2 := QvR.next hb1 hq1
      have g1 := bthen g0 hb1
      have gs1 := g0.size
      have gs2 := hb1.size
      clear c0 c1 c2 kB hq1 g0 hb1
      rw [HB.out]
      have c0 := kB1.cell' (i := 0) rfl
      have c1 := kB1.cell' (i := 1) rfl
      have c2 := kB1.cell' (i := 2) rfl
      go_wp2_with fail
      refine (specConnected_any _ q _ hq2).mono ?_; rintro e w2 ⟨rfl, hb2⟩
      rw [HC.out]
      have g1 := bthen g1 hb2
      go_wp2
      go_ret2
      rw [HF.out]
      exact ⟨_, rfl, ⟨_, 0, rfl, by simp, by omega, by simp, fun h => absurd h (by simp)⟩, by first | exact g1 | exact g1.alloc (g1.size) _⟩
    · have HF : Hid (hiR q = ((rtsA q).1.getD ((rtsA q).1.length - 1) [], true)) := by show _ = _; rw [hdf, if_pos ⟨hB, hC⟩]
      have HB := Lib.hid hB
      have HC := Lib.hid hC
      clear hB hC hdf
      go_enter Try.func32, Try.ntmps32
      go_wp2_with fail
      rw [← hW]; clear hW
      refine (specPositiveRoots_any _ q _ hq1).mono ?_; rintro e w1 ⟨v, rfl, hL, hb1⟩
      have hLr : SlII w1 w1.heap.size v (rtsA q).1 := by first | exact hL.rd | exact hL
      obtain ⟨LA, lc, hve, hlc1, hlc2, hlc3, hLr⟩ := hLr.open_
      subst hve
      have kB1 := kB.call hb1
      have hq2 := QvR.next hb1 hq1
      have g1 := bthen g0 hb1
      have gs1 := g0.size
      have gs2 := hb1.size
      clear c0 c1 c2 kB hq1 g0 hb1
      rw [HB.out]
      have c0 := kB1.cell' (i := 0) rfl
      have c1 := kB1.cell' (i := 1) rfl
      have c2 := kB1.cell' (i := 2) rfl
      go_wp2_with fail
      refine (specConnected_any _ q _ hq2).mono ?_; rintro e w2 ⟨rfl, hb2⟩
      rw [HC.out]
      have g1 := bthen g1 hb2
      have gs3 := hb2.size
      obtain ⟨L, hLe⟩ : ∃ L, (rtsA q).1 = L := ⟨_, rfl⟩
      rw [hLe] at hL hLr hpos HF hlc1 hlc3 ⊢
      obtain ⟨kl, hkl⟩ : ∃ kl : Nat, (L.length : Int) - 1 = (kl : Int) := ⟨L.length - 1, by omega⟩
      have hkL : kl < L.length := by omega
      have HKL := Lib.hid (show L.length - 1 = kl by omega)
      clear hLe
      obtain ⟨bl, ol, l, LA', lc', hA, hbl, HLX, cl, hl⟩ := SlII.at_ hLr hkL
      subst hA
      have cl2 := bcell hb2 hbl cl
      have hl2 := SlI.next hb2 hl
      have HFN : Hid (hiR q = (l, true)) := by
        show _ = _
        rw [HF.out, HKL.out, List.getD_eq_getElem?_getD, HLX.out]; rfl
      clear hl hL hLr cl hb2 hq2 HLX
      go_wp2
      go_ret2
      rw [HFN.out]
      exact ⟨_, rfl, hl2, g1⟩
set_option maxRecDepth 100000 in
set_option maxHeartbeats 1600000 in
theorem implHighestRoot_any (u : Value) (q : Qv) (w0 : World) (hu : QvR w0 w0.heap.size u q) :
    Calls Try.prog 33 #[u] w0 fun e w' => ∃ v, e = .returned (.tuple #[v, .bool (hiR q).2]) ∧ IntsO w' w0.heap.size w'.heap.size v (hiR q).1 ∧ Below w0.heap.size w0 w' := by
  have hu' := hu
  obtain ⟨A, c, C, d, rfl, hf, ht, hr, _⟩ := hu.open_
  clear hu hf ht
  obtain ⟨W, hW⟩ : ∃ W, W = w0.alloc (.cells #[.int .i64 q.v, .slice A q.f.length c, .slice C q.t.length d] 28) := ⟨_, rfl⟩
  have kB : Blk W w0.heap.size 28 #[.int .i64 q.v, .slice A q.f.length c, .slice C q.t.length d] := by rw [hW]; exact Blk.new _ _ _
  have g0 : Below w0.heap.size w0 W := by rw [hW]; exact below_alloc _ _
  have hq1 := QvR.next g0 hu'
  have c0 := kB.cell' (i := 0) rfl
  have c1 := kB.cell' (i := 1) rfl
  have c2 := kB.cell' (i := 2) rfl
  clear hu'
  have hdf : hiR q = if (rtsA q).2 = true ∧ conQ q = true then ((rtsA q).1.getD ((rtsA q).1.length - 1) [], true) else ([], false) := rfl
  rcases hB : (rtsA q).2 with _ | _
  · have HF : Hid (hiR q = ([], false)) := by show _ = _; rw [hdf, if_neg (by rw [hB]; simp)]
    have HB := Lib.hid hB
    clear hB hdf
    go_enter Try.func33, Try.ntmps33
    go_wp2_with fail
    rw [← hW]; clear hW
    refine (implPositiveRoots_any _ q _ hq1).mono ?_; rintro e w1 ⟨v, rfl, hL, hb1⟩
    have hLr : SlII w1 w1.heap.size v (rtsA q).1 := by first | exact hL.rd | exact hL
    obtain ⟨LA, lc, hve, hlc1, hlc2, hlc3, hLr⟩ := hLr.open_
    subst hve
    have kB1 := kB.call hb1
    have hq2 := QvR.next hb1 hq1
    have g1 := bthen g0 hb1
    have gs1 := g0.size
    have gs2 := hb1.size
    clear c0 c1 c2 kB hq1 g0 hb1
    rw [HB.out]
    go_wp2
    go_ret2
    rw [HF.out]
    exact ⟨_, rfl, IntsO.of_own (OwnI.nil _ _), g1⟩
  · have hpos := rtsA_pos hB
    rcases hC : conQ q with _ | _
    · have HF : Hid (hiR q = ([], false)) := by show _ = _; rw [hdf, if_neg (by rw [hC]; simp)]
      have HB := Lib.hid hB
      have HC := Lib.hid hC
      clear hB hC hdf
      go_enter Try.func33, Try.ntmps33
      go_wp2_with fail
      rw [← hW]; clear hW
      refine (implPositiveRoots_any _ q _ hq1).mono ?_; rintro e w1 ⟨v, rfl, hL, hb1⟩
      have hLr : SlII w1 w1.heap.size v (rtsA q).1 := by first | exact hL.rd | exact hL
      obtain ⟨LA, lc, hve, hlc1, hlc2, hlc3, hLr⟩ := hLr.open_
      subst hve
      have kB1 := kB.call hb1
      have hq2 := QvR.next hb1 hq1
      have g1 := bthen g0 hb1
      have gs1 := g0.size
      have gs2 := hb1.size
      clear c0 c1 c2 kB hq1 g0 hb1
      rw [HB.out]
      have c0 := kB1.cell' (i := 0) rfl
      have c1 := kB1.cell' (i := 1) rfl
      have c2 := kB1.cell' (i := 2) rfl
      go_wp2_with fail
      refine (implConnected_any _ q _ hq2).mono ?_; rintro e w2 ⟨rfl, hb2⟩
      rw [HC.out]
      have g1 := bthen g1 hb2
      go_wp2
      go_ret2
      rw [HF.out]
      exact ⟨_, rfl, IntsO.of_own (OwnI.nil _ _), g1⟩
    · have HF : Hid (hiR q = ((rtsA q).1.getD ((rtsA q).1.length - 1) [], true)) := by show _ = _; rw [hdf, if_pos ⟨hB, hC⟩]
      have HB := Lib.hid hB
      have HC := Lib.hid hC
      clear hB hC hdf
      go_enter Try.func33, Try.ntmps33
      go_wp2_with fail
      rw [← hW]; clear hW
      refine (implPositiveRoots_any _ q _ hq1).mono ?_; rintro e w1 ⟨v, rfl, hL, hb1⟩
      have hLr : SlII w1 w1.heap.size v (rtsA q).1 := by first | exact hL.rd | exact hL
      obtain ⟨LA, lc, hve, hlc1, hlc2, hlc3, hLr⟩ := hLr.open_
      subst hve
      have kB1 := kB.call hb1
      have hq2 := QvR.next hb1 hq1
      have g1 := bthen g0 hb1
      have gs1 := g0.size
      have gs2 := hb1.size
      clear c0 c1 c2 kB hq1 g0 hb1
      rw [HB.out]
      have c0 := kB1.cell' (i := 0) rfl
      have c1 := kB1.cell' (i := 1) rfl
      have c2 := kB1.cell' (i := 2) rfl
      go_wp2_with fail
      refine (implConnected_any _ q _ hq2).mono ?_; rintro e w2 ⟨rfl, hb2⟩
      rw [HC.out]
      have g1 := bthen g1 hb2
      have gs3 := hb2.size
      obtain ⟨L, hLe⟩ : ∃ L, (rtsA q).1 = L := ⟨_, rfl⟩
      rw [hLe] at hL hLr hpos HF hlc1 hlc3 ⊢
      obtain ⟨kl, hkl⟩ : ∃ kl : Nat, (L.length : Int) - 1 = (kl : Int) := ⟨L.length - 1, by omega⟩
      have hkL : kl < L.length := by omega
      have HKL := Lib.hid (show L.length - 1 = kl by omega)
      clear hLe
      obtain ⟨gl, cgl, hA, hg1, hg2, hg3, _, _⟩ := hL.at_ hpos
      injection hA with hA1 _ hA3
      subst hA1
      have hkg : L[kl]? = some L[kl] := List.getElem?_eq_getElem hkL
      obtain ⟨l, hle⟩ : ∃ l, L[kl] = l := ⟨_, rfl⟩
      rw [hle] at hkg
      subst hA3
      obtain ⟨u, cu, ou, _⟩ := hL.row hkg
      obtain ⟨UA, uc, hue, _, _⟩ := ou.1.form
      subst hue
      have cl2 := bcell hb2 hg3 cu
      have hl2 := ((ou.below hb2).wider (lo' := w0.heap.size) (hi' := w2.heap.size) (by omega) (by omega))
      have HFN : Hid (hiR q = (l, true)) := by
        show _ = _
        rw [HF.out, HKL.out, List.getD_eq_getElem?_getD, hkg]; rfl
      clear hL hLr cu ou hb2 hq2 hkg hle
      go_wp2
      go_ret2
      rw [HFN.out]
      exact ⟨_, rfl, hl2, g1⟩
end Go.Proofs.Ytkhkamcmlhmpiaa

/- The walk of FnExactCountRoots, printed by program (wip/law.py) out of the contracts of what it calls. -/
namespace Go.Proofs.Ytkhkamcmlhmpiaa
set_option linter.unusedVariables false
set_option linter.unusedSimpArgs false
open Go.RowKit

set_option maxHeartbeats 1600000 in
set_option maxRecDepth 100000 in
theorem lawCountRoots_any (uq : Value) (q : Qv) (w : World) (hq : QvR w w.heap.size uq q) :
    Calls Try.prog 4 #[uq] w fun e w' => e = .returned (.bool true) ∧ Below w.heap.size w w' := by
  obtain ⟨Auq, cuq, Cuq, duq, eq⟩ := QvR.form hq
  subst eq
  have lq := QvR.lens hq
  have g0 := Below.refl w.heap.size w
  by_cases z0 : (1048576 : Int) < (q.size : Nat)
  · have y0 : szLeft (1048576 : Int) (q.size) = -1 := by rw [szLeft, if_pos z0]
    go_enter Try.func4, Try.ntmps4
    go_wp2_with fail
    obtain ⟨W2, e3⟩ : ∃ W, W = w.alloc (.cells #[.int .i64 (q).v, .slice Auq (q).f.length cuq, .slice Cuq (q).t.length duq] 24) := ⟨_, rfl⟩
    rw [← e3]
    have b4 : Below w.heap.size w W2 := by rw [e3]; exact below_alloc _ _
    have k5 : Blk W2 w.heap.size 24 #[.int .i64 (q).v, .slice Auq (q).f.length cuq, .slice Cuq (q).t.length duq] := by rw [e3]; exact Blk.new _ _ _
    have s6 : w.heap.size < W2.heap.size := by rw [e3]; simp
    clear e3
    have h7 := QvR.below (b4.mono (by omega)) hq
    have s8 : w.heap.size ≤ W2.heap.size := b4.size
    have g9 := bthen g0 b4
    clear hq g0 b4
    have c10 := k5.cell' (i := 0) rfl
    have c11 := k5.cell' (i := 1) rfl
    have c12 := k5.cell' (i := 2) rfl
    refine (szQuiver_any _ _ (1048576 : Int) _ (QvR.more (by omega) h7) (by omega) (by omega)).mono ?_; rintro e W13 ⟨rfl, b1⟩
    have h14 := QvR.below (b1.mono (by omega)) h7
    have k15 := k5.call b1
    have s16 : W2.heap.size ≤ W13.heap.size := b1.size
    have g17 := bthen g9 b1
    clear h7 k5 g9 b1 c10 c11 c12
    have c18 := k15.cell' (i := 0) rfl
    have c19 := k15.cell' (i := 1) rfl
    have c20 := k15.cell' (i := 2) rfl
    go_wp2
    go_ret
    exact ⟨rfl, g17⟩
  have y0 : szLeft (1048576 : Int) (q.size) = (1048576 : Int) - (q.size : Nat) := by rw [szLeft, if_neg z0]
  have x0 : ¬ ((1048576 : Int) - ((q.size : Nat) : Int) < 0) := by omega
  go_enter Try.func4, Try.ntmps4
  go_wp2_with fail
  obtain ⟨W22, e23⟩ : ∃ W, W = w.alloc (.cells #[.int .i64 (q).v, .slice Auq (q).f.length cuq, .slice Cuq (q).t.length duq] 24) := ⟨_, rfl⟩
  rw [← e23]
  have b24 : Below w.heap.size w W22 := by rw [e23]; exact below_alloc _ _
  have k25 : Blk W22 w.heap.size 24 #[.int .i64 (q).v, .slice Auq (q).f.length cuq, .slice Cuq (q).t.length duq] := by rw [e23]; exact Blk.new _ _ _
  have s26 : w.heap.size < W22.heap.size := by rw [e23]; simp
  clear e23
  have h27 := QvR.below (b24.mono (by omega)) hq
  have s28 : w.heap.size ≤ W22.heap.size := b24.size
  have g29 := bthen g0 b24
  clear hq g0 b24
  have c30 := k25.cell' (i := 0) rfl
  have c31 := k25.cell' (i := 1) rfl
  have c32 := k25.cell' (i := 2) rfl
  refine (szQuiver_any _ _ (1048576 : Int) _ (QvR.more (by omega) h27) (by omega) (by omega)).mono ?_; rintro e W33 ⟨rfl, b21⟩
  have h34 := QvR.below (b21.mono (by omega)) h27
  have k35 := k25.call b21
  have s36 : W22.heap.size ≤ W33.heap.size := b21.size
  have g37 := bthen g29 b21
  clear h27 k25 g29 b21 c30 c31 c32
  have c38 := k35.cell' (i := 0) rfl
  have c39 := k35.cell' (i := 1) rfl
  have c40 := k35.cell' (i := 2) rfl
  go_wp2_with fail
  refine (quiv_to _ _ _ (QvR.more (by omega) h34) (by omega)).mono ?_; rintro e W44 ⟨v41, rfl, h42, b43⟩
  have h45 := QvR.below (b43.mono (by omega)) h34
  have k46 := k35.call b43
  have s47 : W33.heap.size ≤ W44.heap.size := b43.size
  have g48 := bthen g37 b43
  clear h34 k35 g37 b43 c38 c39 c40
  have c49 := k46.cell' (i := 0) rfl
  have c50 := k46.cell' (i := 1) rfl
  have c51 := k46.cell' (i := 2) rfl
  go_wp2_with fail
  refine (specCountRoots_any _ _ _ h42.rd).mono ?_; rintro e W53 ⟨rfl, b52⟩
  have h54 := QvR.below (b52.mono (by omega)) h45
  have h55 := h42.below b52
  have k56 := k46.call b52
  have s57 : W44.heap.size ≤ W53.heap.size := b52.size
  have g58 := bthen g48 b52
  clear h45 h42 k46 g48 b52 c49 c50 c51
  have c59 := k56.cell' (i := 0) rfl
  have c60 := k56.cell' (i := 1) rfl
  have c61 := k56.cell' (i := 2) rfl
  clear h55
  go_wp2_with fail
  refine (quiv_to _ _ _ (QvR.more (by omega) h54) (by omega)).mono ?_; rintro e W65 ⟨v62, rfl, h63, b64⟩
  have h66 := QvR.below (b64.mono (by omega)) h54
  have k67 := k56.call b64
  have s68 : W53.heap.size ≤ W65.heap.size := b64.size
  have g69 := bthen g58 b64
  clear h54 k56 g58 b64 c59 c60 c61
  have c70 := k67.cell' (i := 0) rfl
  have c71 := k67.cell' (i := 1) rfl
  have c72 := k67.cell' (i := 2) rfl
  obtain ⟨Ax73, cx73, Cx73, dx73, e74⟩ := h63.form
  subst e74
  have c76 := fun o => (k67.alloc o).cell' (i := 0) rfl
  have c77 := fun o => (k67.alloc o).cell' (i := 1) rfl
  have c78 := fun o => (k67.alloc o).cell' (i := 2) rfl
  go_wp2_with fail
  obtain ⟨W79, e80⟩ : ∃ W, W = W65.alloc (.cells #[.int .i64 (q).v, .slice Ax73 (q).f.length cx73, .slice Cx73 (q).t.length dx73] 28) := ⟨_, rfl⟩
  rw [← e80]
  have b81 : Below W65.heap.size W65 W79 := by rw [e80]; exact below_alloc _ _
  have k82 : Blk W79 W65.heap.size 28 #[.int .i64 (q).v, .slice Ax73 (q).f.length cx73, .slice Cx73 (q).t.length dx73] := by rw [e80]; exact Blk.new _ _ _
  have s83 : W65.heap.size < W79.heap.size := by rw [e80]; simp
  clear e80
  have h84 := QvR.below (b81.mono (by omega)) h66
  have h85 := h63.below b81
  have k86 := k67.call b81
  have s87 : W65.heap.size ≤ W79.heap.size := b81.size
  have g88 := bthen g69 b81
  clear h66 h63 k67 g69 b81 c70 c71 c72 c76 c77 c78
  have c89 := k86.cell' (i := 0) rfl
  have c90 := k86.cell' (i := 1) rfl
  have c91 := k86.cell' (i := 2) rfl
  have c92 := k82.cell' (i := 0) rfl
  have c93 := k82.cell' (i := 1) rfl
  have c94 := k82.cell' (i := 2) rfl
  refine (implCountRoots_any _ _ _ h85.rd).mono ?_; rintro e W95 ⟨rfl, b75⟩
  have h96 := QvR.below (b75.mono (by omega)) h84
  have h97 := h85.below b75
  have k98 := k86.call b75
  have k99 := k82.call b75
  have s100 : W79.heap.size ≤ W95.heap.size := b75.size
  have g101 := bthen g88 b75
  clear h84 h85 k86 k82 g88 b75 c89 c90 c91 c92 c93 c94
  have c102 := k98.cell' (i := 0) rfl
  have c103 := k98.cell' (i := 1) rfl
  have c104 := k98.cell' (i := 2) rfl
  have c105 := k99.cell' (i := 0) rfl
  have c106 := k99.cell' (i := 1) rfl
  have c107 := k99.cell' (i := 2) rfl
  go_wp2_with fail
  have b108 := drew_below W95
  have h109 := QvR.below (b108.mono (by omega)) h96
  have h110 := h97.below b108
  have k111 := k98.call b108
  have k112 := k99.call b108
  have s113 : W95.heap.size ≤ W95.drew.heap.size := b108.size
  have g114 := bthen g101 b108
  clear h96 h97 k98 k99 g101 b108 c102 c103 c104 c105 c106 c107
  have c115 := k111.cell' (i := 0) rfl
  have c116 := k111.cell' (i := 1) rfl
  have c117 := k111.cell' (i := 2) rfl
  have c118 := k112.cell' (i := 0) rfl
  have c119 := k112.cell' (i := 1) rfl
  have c120 := k112.cell' (i := 2) rfl
  go_region_held3 (fun W' => W'.cell? ⟨w.heap.size, 0, none⟩ = some (.int .i64 (q).v) ∧ W'.cell? ⟨w.heap.size, 1, none⟩ = some (.slice Auq (q).f.length cuq) ∧ W'.cell? ⟨w.heap.size, 2, none⟩ = some (.slice Cuq (q).t.length duq) ∧ W'.cell? ⟨W65.heap.size, 0, none⟩ = some (.int .i64 (q).v) ∧ W'.cell? ⟨W65.heap.size, 1, none⟩ = some (.slice Ax73 (q).f.length cx73) ∧ W'.cell? ⟨W65.heap.size, 2, none⟩ = some (.slice Cx73 (q).t.length dx73))
    (first | exact ⟨c115, c116, c117, c118, c119, c120⟩ | exact ⟨c131, c132, c133, c134, c135, c136⟩ | exact ⟨c146, c147, c148, c149, c150, c151⟩)
    (first | (go_at_call 17; refine (quiv_to _ _ _ (QvR.more (by omega) h109) (by omega)).mono ?_; rintro e W124 ⟨v121, rfl, h122, b123⟩; have h125 := QvR.below (b123.mono (by omega)) h109; have h126 := h110.below b123; have k127 := k111.call b123; have k128 := k112.call b123; have s129 : W95.drew.heap.size ≤ W124.heap.size := b123.size; have g130 := bthen g114 b123; clear h109 h110 k111 k112 g114 b123 c115 c116 c117 c118 c119 c120; have c131 := k127.cell' (i := 0) rfl; have c132 := k127.cell' (i := 1) rfl; have c133 := k127.cell' (i := 2) rfl; have c134 := k128.cell' (i := 0) rfl; have c135 := k128.cell' (i := 1) rfl; have c136 := k128.cell' (i := 2) rfl) | (go_at_call 20; refine (eqQuiver_any _ _ _ _ _ h126.rd h122.rd).mono ?_; rintro e W138 ⟨rfl, b137⟩; have h139 := QvR.below (b137.mono (by omega)) h125; have h140 := h126.below b137; have h141 := h122.below b137; have k142 := k127.call b137; have k143 := k128.call b137; have s144 : W124.heap.size ≤ W138.heap.size := b137.size; have g145 := bthen g130 b137; clear h125 h126 h122 k127 k128 g130 b137 c131 c132 c133 c134 c135 c136; have c146 := k142.cell' (i := 0) rfl; have c147 := k142.cell' (i := 1) rfl; have c148 := k142.cell' (i := 2) rfl; have c149 := k143.cell' (i := 0) rfl; have c150 := k143.cell' (i := 1) rfl; have c151 := k143.cell' (i := 2) rfl))
  clear h141
  go_wp2
  go_ret
  exact ⟨rfl, g145⟩
end Go.Proofs.Ytkhkamcmlhmpiaa

/- FnExactCountRoots is proved: for every argument the program's CountRoots returns what the reference's returns, leaves its arguments as they were, and returns memory of its own. No condition. -/
namespace Go.Proofs.Ytkhkamcmlhmpiaa
set_option linter.unusedVariables false
set_option linter.unusedSimpArgs false
open Go.RowKit Go.ChangeShapes Go.WideShapes Go.ChangeAt Go.Deep

set_option maxRecDepth 100000 in
theorem countRoots_lifted (os : Os) (started : os.Started) (H : Type) (enc : TypeId × Value → H) :
    ReturnsInHanded {} Try.checked os 4 .any (Rows.fnExactCountRootsSpec.pre6 enc Try.prog Try.f4 Rows.fnExactCountRootsRow.domain false) (Rows.fnExactCountRootsSpec.post enc Try.prog Try.f4 false true false false) := by
  refine lift_law started (by kernel_rfl) Try.func4 (ChangeSpec.witness6 (enc := enc) (C := Try.checked) false ⟨#[], #[.agg #[.int .i64 0, .slice none 0 0, .slice none 0 0]], []⟩ 8 (by kernel_rfl) (by kernel_rfl) (by kernel_rfl) (by kernel_rfl))
    rfl rfl (by rw [Try.params4]; intro t ht; simp only [List.mem_cons, List.not_mem_nil, or_false] at ht; rcases ht with rfl <;> exact ⟨by kernel_rfl, of_decide_eq_true (by kernel_rfl)⟩) (fun ds hl => by rw [Try.params4] at hl; match ds, hl with | [_], _ => rfl) ?_
  intro W args ds ps base hval hA hwt
  rw [Try.params4] at hA hval hwt
  obtain ⟨v0, d0, hargs, rfl, h0⟩ := trodAll_one hA
  obtain rfl : args = #[v0] := by cases args; simp_all
  obtain ⟨x0, r0⟩ := argQuiver (hval 0 _ _ rfl rfl) h0 (hwt 0 _ _ rfl rfl)
  exact lawCountRoots_any _ _ W r0

theorem countRoots_closed : joinedFacts Try.prog 4 Try.f4 Rows.fnExactCountRootsSpec Rows.fnExactCountRootsRow = true := by
  unfold joinedFacts
  refine band (band (band (band (band (band (band ?_ seatEnter) seatLifts) seatMake) ?_) ?_) ?_) ?_ <;> kernel_rfl

theorem countRoots_holds : Rows.FnExactCountRootsSaid :=
  OpenClaim.holds_of_wide 4 Try.f4 rfl rfl rfl rfl rfl rfl rfl ⟨rfl, rfl, rfl, rfl, rfl⟩ rfl rfl rfl rfl rfl (by kernel_rfl) Try.func4 countRoots_closed
    (of_decide_eq_true (by kernel_rfl)) (by unfold Func.isWrapper; first | (rw [if_pos (by decide +kernel)]; kernel_rfl) | (rw [if_neg (by decide +kernel)]; exact ⟨rfl, rfl⟩))
    (fun os started H enc _ => countRoots_lifted os started H enc)
#print axioms countRoots_holds
end Go.Proofs.Ytkhkamcmlhmpiaa
