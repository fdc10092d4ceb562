/- FnExactRootRep: the law holds for every argument. Part 5 of 18 of the proof: BoxW, BoxL, BoxQ, NetR, BoxE. No condition. -/
import Derived.Test.YtcmlflppndfdcaaGreatBRootRep4
import Derived.RangeFuncNested
import Derived.RangeFuncBound
import Derived.RangeFuncCalls
import Derived.RangeFuncLeaves
import Derived.Shelf.Abstract
import Derived.Shelf.RegionOpen
import Derived.OwnWalkIn
import Derived.TacticsInMore
import Derived.LoopNIn
import Derived.LoopIn
import Derived.Sort.QuietIn
import Derived.Sort.LoopGhostIn
set_option linter.unusedVariables false
set_option linter.unusedSimpArgs false
namespace Go.Proofs.YtcmlflppndfdcaaGreat
open Go.RowKit Go.Shelf
attribute [local go_sem] Oper.semAt_some
structure KeptB (Bo s G : Nat) (w w' : World) : Prop where
 size : w.heap.size ≤ w'.heap.size
 blk : ∀ r, (r < s ∨ r = G) → r ≠ Bo → w'.heap[r]? = w.heap[r]?
theorem KeptB.trans {Bo s G : Nat} {a b c : World} (h : KeptB Bo s G a b) (k : KeptB Bo s G b c) : KeptB Bo s G a c :=
 ⟨Nat.le_trans h.size k.size, fun r hr hn => (k.blk r hr hn).trans (h.blk r hr hn)⟩
theorem KeptB.cell {Bo s G : Nat} {w w' : World} (h : KeptB Bo s G w w') {b o : Nat} {v : Value} (hb : b < s) (hn : b ≠ Bo) (hc : w.cell? ⟨b, o, none⟩ = some v) : w'.cell? ⟨b, o, none⟩ = some v :=
 (World.cell?_of_block (a := ⟨b, o, none⟩) (h.blk b (.inl hb) hn)).trans hc
def BxAt (m N G k : Nat) (W : World) : Prop := OwnI W G (.slice (some ⟨G, 0, none⟩) N N) (bxV m N k)
theorem OwnI.keptG {W W' : World} {G n c : Nat} {l : List Int} (h : OwnI W G (.slice (some ⟨G, 0, none⟩) n c) l) (hb : W'.heap[G]? = W.heap[G]?) : OwnI W' G (.slice (some ⟨G, 0, none⟩) n c) l := by
 have hn : n = l.length := by
  rcases h.1.2 with ⟨e, _⟩ | ⟨g', cap', cur, e, _⟩
  ·cases e
  ·injection e with _ e _
 subst hn
 refine ⟨⟨h.1.1, ?_⟩, h.2⟩
 rcases h.1.2 with ⟨e, _⟩ | ⟨g, cap, cur, e, h1, h2, h3⟩
 ·cases e
 ·injection e with e _ e3
  injection e with e
  injection e with e
  subst e e3
  exact .inr ⟨G, c, cur, rfl, h1, hb.trans h2, h3⟩
def SeqBx (F : Fence) (n : Nat) (P : Program) (g : Nat) (lb : Array Value) (Bo m N s : Nat) (w : World) : Prop :=
 ∀ (l : Nat) (J Jx : Nat → World → Prop) (W : World), Below w.heap.size w W →
  (∀ k A B, J k A → Chg W.heap.size (W.heap.size + 1) A B → J k B) → (∀ k A B, Jx k A → Chg W.heap.size (W.heap.size + 1) A B → Jx k B) →
  (∀ k W1, J k W1 → BxAt m N W.heap.size k W1 → k < (m + 1) ^ N → YieldAt F (n - 1) P l #[.slice (some ⟨W.heap.size, 0, none⟩) N N] W1 fun e W' =>
   (e = .returned (.bool true) ∧ J (k + 1) W' ∧ KeptB Bo s W.heap.size W1 W') ∨ (e = .returned (.bool false) ∧ Jx (k + 1) W')) →
  J 0 W →
  CallsIn F n P g (#[.func (.yield l) #[] #[]] ++ lb) W fun e W' => (∃ v, e = .returned v) ∧ (J ((m + 1) ^ N) W' ∨ ∃ k, k < (m + 1) ^ N ∧ Jx (k + 1) W')
theorem chg_put (w : World) (q G p : Nat) (u : Value) : Chg G (G + 1) w ((w.drewN q).setCell ⟨G, p, none⟩ u) :=
 ⟨rfl, rfl, rfl, by simp [World.setCell], fun k _ hk => Below.heap_setCell (w.drewN q) ⟨G, p, none⟩ u k (by show k ≠ G; omega)⟩
set_option maxHeartbeats 1600000 in
theorem boxes1_seq (n : Nat) (hn : 1 ≤ n) (Bn Bo m N s c : Nat) (A : Option Addr) (w : World) (hBn : Bn < s) (hs : s ≤ w.heap.size) (hne : Bn ≠ Bo) (hBo : Bo < s) (hm : m ≤ 9) (hN : N ≤ 10)
  (hc : w.cell? ⟨Bn, 0, none⟩ = some (.slice A N c)) (hl : SlI w s (.slice A N c) (List.replicate N (m : Int))) (hrow : ∀ b o, A = some ⟨b, o, none⟩ → b ≠ Bo) :
  SeqBx Fence.wide n Tryz.prog 96 #[.pointer (some ⟨Bn, 0, none⟩)] Bo m N s w := by
 intro l J Jx W hb hJ hJx hY h0
 have hcW : W.cell? ⟨Bn, 0, none⟩ = some (.slice A N c) := bcell hb (by omega) hc
 obtain ⟨i0, hi, hz0, hz1, hz2⟩ := info_parts infoInt
 have hmk := run_mk (P := Tryz.prog) Tryz.underlying22 hi hz0 (n := N) (by rw [hz2]; omega) (by omega)
 rw [hz1] at hmk
 clear hi hz0 hz1 hz2
 have hB0 : BxAt m N W.heap.size 0 (W.alloc (.cells (mkCells (.int .i64 0) N) 3)) := by
  rw [BxAt, bxV_0]
  exact OwnI.made0 (w := W) (base := W.heap.size) (N := N) (Nat.le_refl _) (by omega)
 have hJ0 : J 0 (W.alloc (.cells (mkCells (.int .i64 0) N) 3)) := hJ 0 _ _ h0 (Chg.of_below (below_alloc _ _))
 have hK0 : ∀ r, (r < s) → r ≠ Bo → (W.alloc (.cells (mkCells (.int .i64 0) N) 3)).heap[r]? = w.heap[r]? := fun r hr _ => (Below.heap_alloc _ _ _ (by have := hb.size; omega)).trans (hb.block r (by omega))
 have hmost : ∀ (W' : World), (∀ r, r < s → r ≠ Bo → W'.heap[r]? = w.heap[r]?) → W'.cell? ⟨Bn, 0, none⟩ = some (.slice A N c) ∧ ∀ j, j < N → ∃ b o, A = some ⟨b, o, none⟩ ∧ W'.cell? ⟨b, o + j, none⟩ = some (.int .i64 (m : Int)) := by
  intro W' h
  refine ⟨(World.cell?_of_block (a := ⟨Bn, 0, none⟩) (h Bn hBn hne)).trans hc, fun j hj => ?_⟩
  obtain ⟨A', c', e, _, _, _, h4⟩ := hl
  injection e with e1 _ _
  subst e1
  obtain ⟨b, o, e2, hbs, hcc⟩ := h4 (by simp; omega)
  have h5 := (hcc j (m : Int) (by simp [hj])).1
  rw [Nat.mul_one] at h5
  exact ⟨b, o, e2, (World.cell?_of_block (a := ⟨b, o + j, none⟩) (h b hbs (hrow b o e2))).trans h5⟩
 have hfit : (N : Int) ≤ 10 := by omega
 clear h0 hl
 have hsW : s ≤ W.heap.size := Nat.le_trans hs hb.size
 obtain ⟨G, hG⟩ : ∃ G, W.heap.size = G := ⟨_, rfl⟩
 rw [hG] at hsW
 obtain ⟨W0, hW0⟩ : ∃ W0, W.alloc (.cells (mkCells (.int .i64 0) N) 3) = W0 := ⟨_, rfl⟩
 rw [hW0] at hB0 hJ0 hK0
 rw [hG] at hB0 hJ hJx hY
 refine callsIn_of_wp Tryz.func96 rfl trivial ?_ rfl
 simp only [Tryz.ntmps96, List.size_toArray, List.length_cons, List.length_nil, Nat.reduceAdd, Nat.reduceSub, Array.replicate_succ, Array.replicate_zero, List.push_toArray, List.append_toArray, List.nil_append, List.cons_append]
 gi_wp2
 gi_loopg [4] ((m + 1) ^ N) (fun gk _v wr => ∃ k : Nat, k < (m + 1) ^ N ∧ gk = (m + 1) ^ N - k ∧ J k wr ∧ BxAt m N G k wr ∧ (∀ r, r < s → r ≠ Bo → wr.heap[r]? = w.heap[r]?))
 case atStart => exact ⟨0, Nat.pow_pos (by omega), by omega, hJ0, hB0, hK0⟩
 case round =>
  clear hJ0 hB0 hK0 hmk hcW
  obtain ⟨k, hk, rfl, hj, hbx, hkp⟩ := hrel
  obtain ⟨f1, t1, a1, b1, hy1, hR1⟩ := hY k wr hj hbx hk
  clear hY
  gi_wp2
  refine hR1.mono ?_
  clear hR1 hy1
  rintro e W1 (⟨rfl, hj1, hkb⟩ | ⟨rfl, hjx1⟩)
  ·have hkp1 : ∀ r, r < s → r ≠ Bo → W1.heap[r]? = w.heap[r]? := fun r hr hn => (hkb.blk r (.inl hr) hn).trans (hkp r hr hn)
   have hz1 : OwnI W1 G (.slice (some ⟨G, 0, none⟩) N N) (bxZ m N k 0) := by rw [bxZ_0]; exact hbx.keptG (hkb.blk G (.inr rfl) (by omega))
   clear hkb hbx hkp hj
   have HPW := Lib.hid hk
   clear hk
   gi_wp2
   gi_loopg [4] (N + 1) (fun gk v wr => ∃ j p : Nat, p + j = N ∧ gk = p + 1 ∧ v = .int .i64 ((p : Int) - 1) ∧ Hid (fullTo m k j) ∧ J (k + 1) wr ∧ OwnI wr G (.slice (some ⟨G, 0, none⟩) N N) (bxZ m N k j) ∧ (∀ r, r < s → r ≠ Bo → wr.heap[r]? = w.heap[r]?))
   case atStart => exact ⟨0, N, by omega, rfl, rfl, full_0 m k, hj1, hz1, hkp1⟩
   case round =>
    clear hz1 hkp1 hj1
    obtain ⟨j, p, hpj, rfl, rfl, hful, hj2, hz2, hkp2⟩ := hrel
    obtain ⟨hmc, hme⟩ := hmost _ hkp2
    rcases p with _ | p
    ·have e1 : (((0 : Nat) : Int) - 1) = -1 := by simp
     rw [e1]
     have hkM : k + 1 = (m + 1) ^ N := full_end (by have := hful.out; rwa [show j = N by omega] at this) HPW.out
     rw [hkM] at hj2
     gi_wp2
     gi_quiet (fail)
     gi_wp2
     refine bodyPost_ret (results_none rfl _ _ _) rfl ?_
     exact ⟨⟨_, rfl⟩, .inl (hJ _ _ _ hj2 (Chg.of_below (drewN_below _ _ _)))⟩
    ·have e1 : (((p + 1 : Nat) : Int) - 1) = (p : Int) := by omega
     rw [e1]
     have hpN : p < N := by omega
     obtain ⟨b, o, rfl, hmj⟩ := hme p hpN
     obtain ⟨d, hd⟩ : ∃ d : Nat, k / (m + 1) ^ j % (m + 1) = d := ⟨_, rfl⟩
     have hat := bxZ_at (m := m) (k := k) (show j < N by omega)
     rw [hd, show N - 1 - j = p by omega] at hat
     have hcell : wr.cell? ⟨G, p, none⟩ = some (.int .i64 (d : Int)) := by
      have := (hz2.cellG (j := p) (by rw [bxZ_length]; omega)).1
      rw [List.getD_eq_getElem?_getD, hat] at this
      exact this
     have hfr := hz2.frozenG p
     clear hat
     by_cases hdm : d = m
     ·have hful2 : Hid (fullTo m k (j + 1)) := full_succ hful.out (by rw [hd]; exact hdm)
      subst hdm
      have hp2 := hz2.put (j := p) (x := 0) ⟨by omega, by omega⟩
      rw [show p = N - 1 - j by omega, bxZ_step (show j < N by omega), show N - 1 - j = p by omega] at hp2
      clear hd hmost
      have HZ := Lib.hid hp2.1
      have HG := Lib.hid hp2.2
      clear hp2 hme hful
      gi_wp2
      gi_quiet (fail)
      gi_wp2
      gi_roundg (p + 1)
      case measure => omega
      case rel => exact ⟨j + 1, p, by omega, rfl, rfl, hful2, hJ _ _ _ hj2 (chg_put _ _ _ _ _), HZ.out, fun r hr hn => (Below.heap_setCell (wr.drewN nq) ⟨G, p, none⟩ _ r (by show r ≠ G; omega)).trans (hkp2 r hr hn)⟩
     ·have hdm' : ((d : Int) == (m : Int)) = false := by simp; omega
      have hdm2 : ¬ (d : Int) = (m : Int) := by omega
      have hdr := (bxV_rng (m := m) (N := N) (k := k) (x := (d : Int)) (by rw [← hd]; exact List.mem_map.2 ⟨p, List.mem_range.2 hpN, by rw [show N - 1 - p = j by omega]⟩))
      have hk1 : Hid (k + 1 < (m + 1) ^ N) := by
       have h1 := HPW.out
       rcases Nat.lt_or_ge (k + 1) ((m + 1) ^ N) with h | h
       ·exact h
       ·have : k = (m + 1) ^ N - 1 := by omega
        rw [this, dig_full (show j < N by omega)] at hd
        omega
      have hnx := bxV_next (show j < N by omega) hful.out (by rw [hd]; exact hdm)
      rw [hd, show N - 1 - j = p by omega] at hnx
      have hI : -9223372036854775808 ≤ (d : Int) + 1 ∧ (d : Int) + 1 ≤ 9223372036854775807 := by omega
      have hp2 := hz2.put (j := p) (x := (d : Int) + 1) hI
      rw [hnx] at hp2
      have HZ := Lib.hid hp2.1
      clear hp2 hnx hd hmost
      gi_wp2
      gi_quiet (fail)
      gi_wp2
      gi_roundg ((m + 1) ^ N - (k + 1))
      case measure => have := hk1.out; omega
      case rel => exact ⟨k + 1, hk1.out, rfl, hJ _ _ _ hj2 (chg_put _ _ _ _ _), HZ.out, fun r hr hn => (Below.heap_setCell (wr.drewN nq) ⟨G, p, none⟩ _ r (by show r ≠ G; omega)).trans (hkp2 r hr hn)⟩
  ·gi_wp2
   go_end0
   exact ⟨⟨_, rfl⟩, .inr ⟨k, hk, hjx1⟩⟩
end Go.Proofs.YtcmlflppndfdcaaGreat
namespace Go.Proofs.YtcmlflppndfdcaaGreat
open Go.RowKit Go.Shelf
structure RoundK (Bo s : Nat) (w w' : World) : Prop where
 size : w.heap.size ≤ w'.heap.size
 blk : ∀ r, r < s + 3 → r ≠ Bo → w'.heap[r]? = w.heap[r]?
theorem RoundK.refl (Bo s : Nat) (w : World) : RoundK Bo s w w := ⟨Nat.le_refl _, fun _ _ _ => rfl⟩
theorem RoundK.trans {Bo s : Nat} {a b c : World} (h : RoundK Bo s a b) (k : RoundK Bo s b c) : RoundK Bo s a c :=
 ⟨Nat.le_trans h.size k.size, fun r hr hn => (k.blk r hr hn).trans (h.blk r hr hn)⟩
theorem RoundK.of_below {Bo s : Nat} {w w' : World} (h : Below w.heap.size w w') (hs : s + 3 ≤ w.heap.size) : RoundK Bo s w w' := ⟨h.size, fun r hr _ => h.block r (by omega)⟩
theorem RoundK.set {Bo s o : Nat} (w : World) (u : Value) : RoundK Bo s w (w.setCell ⟨Bo, o, none⟩ u) := ⟨by simp [World.setCell], fun r _ hn => Below.heap_setCell w ⟨Bo, o, none⟩ u r hn⟩
theorem RoundK.grown {Bo s : Nat} {w w' : World} {row : Option Nat} (hg : w.grownBy w' row) (hs : s + 3 ≤ w.heap.size) (hr : ∀ j, row = some j → s + 3 ≤ j) : RoundK Bo s w w' :=
 ⟨hg.size, fun r hr' _ => hg.block r (by omega) (fun e => by have := hr r e.symm; omega)⟩
theorem RoundK.below {Bo s B : Nat} {w0 w w' : World} (h : Below B w0 w) (k : RoundK Bo s w w') (hos : w'.os = w.os) (ht : w'.tape = w.tape) (ho : w'.output = w.output) (hB : B ≤ s + 3) (hb : B ≤ Bo) : Below B w0 w' :=
 ⟨hos.trans h.os, ht.trans h.tape, ho.trans h.output, Nat.le_trans h.size k.size, fun r hr => (k.blk r (by omega) (by omega)).trans (h.block r hr)⟩
def bxPost (Bo s : Nat) (I : Nat → World → Prop) (Ix : Code → Nat → World → Prop) (k : Nat) (W : World) : Exit → Act → World → Prop
 | .normal, _, W' => RoundK Bo s W W' ∧ I (k + 1) W'
 | .ret, _, W' => RoundK Bo s W W' ∧ Ix .ret (k + 1) W'
 | .exit id, _, W' => RoundK Bo s W W' ∧ Ix (.exit id) (k + 1) W'
 | .goto t, _, W' => RoundK Bo s W W' ∧ Ix (.goto t) (k + 1) W'
 | .panic _, _, _ => False
 | .outgrown, _, _ => False
theorem chg_obj (s : Nat) (W : World) (l : Nat) (o : Obj) (hl : s ≤ l) (hl2 : l < s + 3) : Chg s (s + 3) W (W.putObj l o) :=
 ⟨rfl, rfl, rfl, by simp, fun k _ hk => World.putObj_heap_other (by omega)⟩
theorem BxAt.obj {m N G k : Nat} {W : World} (h : BxAt m N G k W) {l : Nat} (o : Obj) (hl : l ≠ G) : BxAt m N G k (W.putObj l o) := OwnI.keptG h (World.putObj_heap_other (fun e => hl e.symm))
theorem wpIn_rangeBx {n : Nat} {P : Program} {g : Operand} {ps : Array Tmp} {assign body : Code} {Q : Exit → Act → World → Prop} {a : Act} {w : World}
  (h1 : 1 ≤ n) {gf : Nat} {lb : Array Value} (hg : a.eval g = .func (.func gf) #[] lb) (eg : ∀ args w, (callFunc gf args).run P w = .ok (.enter gf args) w)
  {Bo m N : Nat} (hseq : SeqBx Fence.wide (n - 1) P gf lb Bo m N w.heap.size w) (hps : ps.size = 1) (hBo : Bo < w.heap.size)
  (I : Nat → World → Prop) (Ix : Code → Nat → World → Prop)
  (hI : ∀ k A B, I k A → Chg w.heap.size (w.heap.size + 3) A B → I k B) (hIx : ∀ c k A B, Ix c k A → Chg w.heap.size (w.heap.size + 3) A B → Ix c k B) (h0 : I 0 w) (a₁ : Act)
  (hassign : ∀ (l : Nat) (W : World) (K : Act → World → Prop), K a₁ W →
   assign.wpIn (Fence.wide.inRound l) (n - 1 - 1) P (Exit.then K (fun _ _ _ => False)) { tmps := (ps.zip #[.slice (some ⟨w.heap.size + 2, 0, none⟩) N N]).foldl (fun t (p, v) => t.setIfInBounds p v) a.tmps, defers := [] } W)
  (hbody : ∀ (l k : Nat) (W : World), w.heap.size + 3 ≤ W.heap.size → I k W → BxAt m N (w.heap.size + 2) k W → k < (m + 1) ^ N → body.wpIn (Fence.wide.inRound l) (n - 1 - 1) P (bxPost Bo w.heap.size I Ix k W) a₁ W)
  (hdone : ∀ (W : World), I ((m + 1) ^ N) W → W.heap[w.heap.size]? = some (.deferred (some [])) → Q .normal { a with defers := { target := .collected w.heap.size, args := #[] } :: a.defers } W)
  (hstop : ∀ (c : Code) (k : Nat) (W : World), k < (m + 1) ^ N → Ix c (k + 1) W → W.heap[w.heap.size]? = some (.deferred (some [])) → c.wpIn Fence.wide n P Q { a with defers := { target := .collected w.heap.size, args := #[] } :: a.defers } W) :
  (Code.rangeFunc g ps assign body).wpIn Fence.wide n P Q a w := by
 refine wpIn_rangeFunc ?_
 intro fn hfn
 rw [show Fence.wide.round = none from rfl]
 obtain ⟨rec, hrec⟩ : ∃ rec : LoopState → Option Code → Loop, rec = fun st pe => { state := st, pending := pe, fn, tmps := a.tmps, params := ps, assign, body, defers := w.heap.size } := ⟨_, rfl⟩
 obtain ⟨W1, hW1⟩ : ∃ W1, (w.alloc (.deferred (some []))).alloc (.loop (rec .ready none)) = W1 := ⟨_, rfl⟩
 have hL1 : W1.heap[w.heap.size + 1]? = some (.loop (rec .ready none)) := by
  rw [← hW1]; have := World.alloc_heap_new (w.alloc (.deferred (some []))) (.loop (rec .ready none)); rwa [World.size_alloc] at this
 have hK1 : W1.heap[w.heap.size]? = some (.deferred (some [])) := by
  rw [← hW1]; exact (Below.heap_alloc _ _ _ (by simp)).trans (World.alloc_heap_new w _)
 have hS1 : W1.heap.size = w.heap.size + 2 := by rw [← hW1]; simp
 have hb1 : Below w.heap.size w W1 := by
  rw [← hW1]; exact ((Below.refl _ w).alloc (Nat.le_refl _) _).alloc (by simp) _
 have hI1 : I 0 W1 := hI 0 w W1 h0 ((Chg.of_below hb1))
 refine ⟨w.heap.size + 1, [{ target := .collected w.heap.size, args := #[] }], W1, { target := .fn (.func gf) lb, args := #[.func (.yield (w.heap.size + 1)) #[] #[]] }, W1, gf,
  #[.func (.yield (w.heap.size + 1)) #[] #[]] ++ lb, W1, ?_, ?_, ?_, ?_, fun _ => h1, ?_⟩
 ·rw [← hW1, hrec]; exact run_enterLoop_outer _ _ _ _ _
 ·simp only [resolve, hg]
  simp [go_sem]
 ·intro f' hf'; simp [Target.leads] at hf'; trivial
 ·simp [invoke, go_sem, eg]
 ·have hcarry : ∀ {A B : World} {r : Nat} {o : Obj}, A.heap[r]? = some o → r < w.heap.size + 2 → Chg W1.heap.size (W1.heap.size + 1) A B → B.heap[r]? = some o := by
   intro A B r o h hr hc
   rw [hS1] at hc
   exact (hc.block r (Array.getElem?_eq_some_iff.1 h).1 (.inl hr)).trans h
  refine (hseq (w.heap.size + 1)
   (fun k W => I k W ∧ W.heap[w.heap.size + 1]? = some (.loop (rec .ready none)) ∧ W.heap[w.heap.size]? = some (.deferred (some [])) ∧ w.heap.size + 2 ≤ W.heap.size)
   (fun k W => ∃ c, Ix c k W ∧ W.heap[w.heap.size + 1]? = some (.loop (rec .done (some c))) ∧ W.heap[w.heap.size]? = some (.deferred (some [])))
   W1 hb1
   (fun k A B hs hc => ⟨hI k A B hs.1 (hc.wider (by omega) (by omega)), hcarry hs.2.1 (by omega) hc, hcarry hs.2.2.1 (by omega) hc, Nat.le_trans hs.2.2.2 hc.size⟩)
   (fun k A B hs hc => by
    obtain ⟨c, h2, hl, hk⟩ := hs
    exact ⟨c, hIx c k A B h2 (hc.wider (by omega) (by omega)), hcarry hl (by omega) hc, hcarry hk (by omega) hc⟩)
   ?_ ⟨hI1, hL1, hK1, by omega⟩).mono ?_
  ·rintro k W ⟨hi, hl, hk, hsz⟩ hbx hlen
   rw [hS1] at hbx ⊢
   have hlt : w.heap.size + 1 < W.heap.size := (Array.getElem?_eq_some_iff.1 hl).1
   have hy := run_yield (P := P) (args := #[.slice (some ⟨w.heap.size + 2, 0, none⟩) N N]) hl (by rw [hrec]; simp [hps])
   rw [hrec] at hy
   refine ⟨fn, _, assign, body, hy, roundIn_of_wpIn hfn (hassign _ W _ ⟨_, run_beginRound hl (by rw [hrec]), ?_⟩)⟩
   clear hy
   have hl2 : (W.putObj (w.heap.size + 1) (.loop { rec .ready none with state := .busy })).heap[w.heap.size + 1]? = some (.loop { rec .ready none with state := .busy }) := World.putObj_heap_same hlt
   have hk2 : (W.putObj (w.heap.size + 1) (.loop { rec .ready none with state := .busy })).heap[w.heap.size]? = some (.deferred (some [])) := (World.putObj_heap_other (by omega)).trans hk
   have hG : w.heap.size + 2 < W.heap.size := (hbx.lt (w.heap.size + 2) rfl).2
   refine wpIn_mono (hbody _ k _ (by simp; omega) (hI k _ _ hi (chg_obj _ _ _ _ (by omega) (by omega))) (hbx.obj _ (by omega)) hlen) ?_
   have hkb : ∀ (W3 : World) (jump : Option Code), RoundK Bo w.heap.size (W.putObj (w.heap.size + 1) (.loop { rec .ready none with state := .busy })) W3 → KeptB Bo w.heap.size (w.heap.size + 2) W (W3.putObj (w.heap.size + 1) (.loop (rec (if jump.isNone then .ready else .done) jump))) := fun W3 jump hk3 =>
    ⟨by have := hk3.size; simp at this ⊢; exact this, fun r hr hn => (World.putObj_heap_other (by omega)).trans ((hk3.blk r (by omega) hn).trans (World.putObj_heap_other (by omega)))⟩
   have fin : ∀ (jump : Option Code) (W3 : World), RoundK Bo w.heap.size (W.putObj (w.heap.size + 1) (.loop { rec .ready none with state := .busy })) W3 →
     (Instr.endRound (w.heap.size + 1) jump).run P W3 = .ok (.bool jump.isNone) (W3.putObj (w.heap.size + 1) (.loop (rec (if jump.isNone then .ready else .done) jump))) ∧
     (W3.putObj (w.heap.size + 1) (.loop (rec (if jump.isNone then .ready else .done) jump))).heap[w.heap.size + 1]? = some (.loop (rec (if jump.isNone then .ready else .done) jump)) ∧
     (W3.putObj (w.heap.size + 1) (.loop (rec (if jump.isNone then .ready else .done) jump))).heap[w.heap.size]? = some (.deferred (some [])) := fun jump W3 hk3 => by
    have hl3 := (hk3.blk (w.heap.size + 1) (by omega) (by omega)).trans hl2
    have hd3 := (hk3.blk w.heap.size (by omega) (by omega)).trans hk2
    have := run_endRound (P := P) jump hl3
    rw [hrec] at this ⊢
    exact ⟨this, World.putObj_heap_same (Array.getElem?_eq_some_iff.1 hl3).1, (World.putObj_heap_other (by omega)).trans hd3⟩
   have hsz3 : ∀ (W3 : World) (o : Obj), RoundK Bo w.heap.size (W.putObj (w.heap.size + 1) (.loop { rec .ready none with state := .busy })) W3 → w.heap.size + 2 ≤ (W3.putObj (w.heap.size + 1) o).heap.size := fun W3 o hk3 => by
    have := hk3.size; simp at this ⊢; omega
   rintro e a3 W3 hp
   cases e with
   | normal =>
    obtain ⟨hk3, hi3⟩ := hp
    obtain ⟨hr, hl4, hk4⟩ := fin none W3 hk3
    exact ⟨_, _, hr, .inl ⟨rfl, ⟨hI _ _ _ hi3 (chg_obj _ _ _ _ (by omega) (by omega)), hl4, hk4, hsz3 _ _ hk3⟩, hkb W3 none hk3⟩⟩
   | ret =>
    obtain ⟨hk3, hi3⟩ := hp
    obtain ⟨hr, hl4, hk4⟩ := fin (some .ret) W3 hk3
    exact ⟨_, _, hr, .inr ⟨rfl, .ret, hIx _ _ _ _ hi3 (chg_obj _ _ _ _ (by omega) (by omega)), hl4, hk4⟩⟩
   | exit id =>
    obtain ⟨hk3, hi3⟩ := hp
    obtain ⟨hr, hl4, hk4⟩ := fin (some (.exit id)) W3 hk3
    exact ⟨_, _, hr, .inr ⟨rfl, .exit id, hIx _ _ _ _ hi3 (chg_obj _ _ _ _ (by omega) (by omega)), hl4, hk4⟩⟩
   | goto t =>
    obtain ⟨hk3, hi3⟩ := hp
    obtain ⟨hr, hl4, hk4⟩ := fin (some (.goto t)) W3 hk3
    exact ⟨_, _, hr, .inr ⟨rfl, .goto t, hIx _ _ _ _ hi3 (chg_obj _ _ _ _ (by omega) (by omega)), hl4, hk4⟩⟩
   | panic ch => exact hp.elim
   | outgrown => exact hp.elim
  ·rintro e W2 ⟨⟨v, rfl⟩, (⟨hi, hl, hk, _⟩ | ⟨k, hkM, c, hi, hl, hk⟩)⟩
   ·exact ⟨none, _, by have := run_endLoop (P := P) hl (by rw [hrec]; simp); rw [hrec] at this; exact this, hdone _ (hI _ _ _ hi (chg_obj _ _ _ _ (by omega) (by omega))) ((World.putObj_heap_other (by omega)).trans hk)⟩
   ·exact ⟨some c, _, by have := run_endLoop (P := P) hl (by rw [hrec]; simp); rw [hrec] at this; exact this, hstop c k _ hkM (hIx _ _ _ _ hi (chg_obj _ _ _ _ (by omega) (by omega))) ((World.putObj_heap_other (by omega)).trans hk)⟩
end Go.Proofs.YtcmlflppndfdcaaGreat
namespace Go.Proofs.YtcmlflppndfdcaaGreat
open Go.RowKit Go.Shelf
section
variable {F : Fence} {n : Nat} {P : Program} {ops : Array Oper} {C : World → Prop} {md : Region.Mode}
def noDefer (ops : Array Oper) : Bool := ops.toList.all fun o => match o.op with | .defer _ => false | _ => true
theorem noDefer_spec (h : noDefer ops = true) : ∀ (i : Nat) (o : Oper), ops[i]? = some o → ∀ c, o.op ≠ .defer c := by
 intro i o ho c hc
 have h1 := List.all_eq_true.1 h o (by rw [← Array.getElem?_toList] at ho; exact List.mem_of_getElem? ho)
 rw [hc] at h1
 cases h1
end
end Go.Proofs.YtcmlflppndfdcaaGreat
namespace Go.Proofs.YtcmlflppndfdcaaGreat
open Go.RowKit
section
variable {n : Nat} {P : Program} {l : Nat}
theorem wpIn_of_wpR {o : Oper} {a : Act} {w : World} {K : Act → World → Prop} {Q : Exit → Act → World → Prop} (hro : ∀ c, o.op ≠ .defer c) (h : o.wp P a w K Q) : o.wpIn (Fence.wide.inRound l) n P a w K Q := by
 unfold Oper.wp at h
 unfold Oper.wpIn
 refine ⟨fun _ _ => trivial, ?_⟩
 rw [Oper.semAt_eq _ _ _ hro]
 generalize (execOp a.eval o).run P w = r at *
 cases r with
 | ok x w' =>
  cases x <;> simp only [Oper.upon] at h <;> simp only [Oper.uponIn]
  case value => exact h
  case skip => exact h
  case defer => exact h
  case enter => exact ⟨(fun hd => by cases hd), CallsIn.inRound l (callsIn_wide.2 h)⟩
  case row =>
   refine ⟨(fun hd => by cases hd), fun c cs _ => ?_⟩
   obtain ⟨v, w'', r, s⟩ := h c cs
   exact ⟨v, w'', r, stepsIn_wide.2 s⟩
 | halt x w' => cases x <;> simp only [Oper.upon] at h <;> simp only [Oper.uponIn]; exact h
theorem wpAnyIn_of_wpAny {ops : Array Oper} {Q : Exit → Act → World → Prop} {md : Region.Mode} (hro : ∀ (i : Nat) (o : Oper), ops[i]? = some o → ∀ c, o.op ≠ .defer c) (hQ : ¬ LetsOut Q) : ∀ (fuel : Nat) (listed : Array Bool) (a : Act) (w : World),
  wpAny P md ops Q fuel listed a w → wpAnyIn (Fence.wide.inRound l) n P md ops Q fuel listed a w
 | 0, _, _, _, h => h
 | fuel + 1, listed, a, w, h => by
  refine ⟨h.1, fun i hi => ?_⟩
  have h2 := h.2 i hi
  unfold wpOp at h2
  unfold wpOpIn
  split
  ·rename_i ho
   simp only [ho] at h2
   exact wpAnyIn_of_wpAny hro hQ fuel _ a w h2
  ·rename_i o ho
   simp only [ho] at h2
   split
   ·rename_i hw
    simp only [hw, if_true] at h2
    rcases h2 with h2 | h2
    ·exact Oper.wpIn_mono (fun a' w' h' => wpAnyIn_of_wpAny hro hQ fuel _ a' w' h') (wpIn_of_wpR (hro i o ho) h2)
    ·exact absurd h2.2 hQ
   ·rename_i hw
    simp only [hw] at h2
    exact ⟨fun _ _ => trivial, wpAnyIn_of_wpAny hro hQ fuel _ _ w h2⟩
variable {Q : Exit → Act → World → Prop} {a0 : Act}
theorem wpIn_region_netR {id : Nat} {l : List Oper} {lr : Nat} {w : World} (hmo : P.follows .mixedOrders = true) (hd : noDefer l.toArray = true) (hQ : ¬ LetsOut Q) (sp : List NS) (D : List (List Nat)) (m : Nat) (hB : netB l.toArray D m = true) (hst : stableAll sp)
  (hdo : netAll P l.toArray sp D a0 w 0 (l.take m))
  (hend : ∀ x w', Below w.heap.size w w' → (∀ i, i < m → known sp D x i w') → (∀ i, i < m → w.heap.size ≤ x.lo i ∧ x.lo i ≤ x.hi i ∧ x.hi i ≤ w'.heap.size) → (∀ i j, i < m → j < m → i ≠ j → x.hi i ≤ x.lo j ∨ x.hi j ≤ x.lo i) → wpList P l.toArray Q (l.drop m) (netAct l.toArray a0 x.v m) w') : (Code.region id l.toArray true).wpIn (Fence.wide.inRound lr) n P Q a0 w := by
 replace hst := stableAll_spec hst
 have hdo : ∀ i o, i < m → l[i]? = some o → netDo P l.toArray sp D a0 w.drew i o := fun i o hi ho => by
  have := netAll_spec (l.take m) 0 hdo i o (by rw [List.getElem?_take, if_pos hi]; exact ho)
  rw [Nat.zero_add] at this
  exact fun v w1 hb => this v w1 ⟨hb.os, hb.tape, hb.output, hb.size, hb.block⟩
 refine wpIn_region_any hmo (wpAnyIn_of_wpAny (noDefer_spec hd) hQ _ _ _ _ ?_)
 have h := net_any (w0 := w.drew) (a0 := a0) (Q := Q) (P := P) (sp := sp) hB hst (fun i o hi ho => hdo i o hi (by simpa using ho)) (fun x w' hb hk hiv hdj => by simpa using hend x w' (show Below w.heap.size w w' from ⟨hb.os, hb.tape, hb.output, hb.size, hb.block⟩) hk hiv hdj)
  l.toArray.size (Array.replicate l.toArray.size false) ⟨fun _ => undef, fun _ => 0, fun _ => 0⟩ w.drew
  (by rw [List.filter_eq_self.2 (fun j _ => by rw [repl_getD]; rfl), List.length_range])
  (by simp) (fun j _ => repl_getD _ _)
  (fun i hi => by rw [repl_getD] at hi; cases hi)
  (Below.refl _ _)
  (fun i hi => by rw [repl_getD] at hi; cases hi)
  (fun i hi => by rw [repl_getD] at hi; cases hi)
  (fun i j hi => by rw [repl_getD] at hi; cases hi)
 have e : actP l.toArray a0 (fun _ => undef) (fun j => (Array.replicate l.toArray.size false).getD j false) l.toArray.size = a0 :=
  actP_none l.toArray.size 0 (by omega) (fun j _ _ => repl_getD _ _)
 rw [e] at h
 exact h
end
end Go.Proofs.YtcmlflppndfdcaaGreat
namespace Go.Proofs.YtcmlflppndfdcaaGreat
open Go.RowKit Go.Shelf
structure ExitK (s : Nat) (w w' : World) : Prop where
 size : w.heap.size ≤ w'.heap.size
 b0 : w'.heap[s]? = w.heap[s]?
 b1 : w'.heap[s + 1]? = w.heap[s + 1]?
theorem RoundK.exit {Bo s : Nat} {w w' : World} (h : RoundK Bo s w w') (hb : Bo < s) : ExitK s w w' := ⟨h.size, h.blk s (by omega) (by omega), h.blk (s + 1) (by omega) (by omega)⟩
def bxPostE (Bo s : Nat) (I : Nat → World → Prop) (Ix : Code → Nat → World → Prop) (k : Nat) (W : World) : Exit → Act → World → Prop
 | .normal, _, W' => RoundK Bo s W W' ∧ I (k + 1) W'
 | .ret, _, W' => ExitK s W W' ∧ Ix .ret (k + 1) W'
 | .exit id, _, W' => ExitK s W W' ∧ Ix (.exit id) (k + 1) W'
 | .goto t, _, W' => ExitK s W W' ∧ Ix (.goto t) (k + 1) W'
 | .panic _, _, _ => False
 | .outgrown, _, _ => False
theorem wpIn_rangeBxE {n : Nat} {P : Program} {g : Operand} {ps : Array Tmp} {assign body : Code} {Q : Exit → Act → World → Prop} {a : Act} {w : World}
  (h1 : 1 ≤ n) {gf : Nat} {lb : Array Value} (hg : a.eval g = .func (.func gf) #[] lb) (eg : ∀ args w, (callFunc gf args).run P w = .ok (.enter gf args) w)
  {Bo m N : Nat} (hseq : SeqBx Fence.wide (n - 1) P gf lb Bo m N w.heap.size w) (hps : ps.size = 1) (hBo : Bo < w.heap.size)
  (I : Nat → World → Prop) (Ix : Code → Nat → World → Prop)
  (hI : ∀ k A B, I k A → Chg w.heap.size (w.heap.size + 3) A B → I k B) (hIx : ∀ c k A B, Ix c k A → Chg w.heap.size (w.heap.size + 3) A B → Ix c k B) (h0 : I 0 w) (a₁ : Act)
  (hassign : ∀ (l : Nat) (W : World) (K : Act → World → Prop), K a₁ W →
   assign.wpIn (Fence.wide.inRound l) (n - 1 - 1) P (Exit.then K (fun _ _ _ => False)) { tmps := (ps.zip #[.slice (some ⟨w.heap.size + 2, 0, none⟩) N N]).foldl (fun t (p, v) => t.setIfInBounds p v) a.tmps, defers := [] } W)
  (hbody : ∀ (l k : Nat) (W : World), w.heap.size + 3 ≤ W.heap.size → I k W → BxAt m N (w.heap.size + 2) k W → k < (m + 1) ^ N → body.wpIn (Fence.wide.inRound l) (n - 1 - 1) P (bxPostE Bo w.heap.size I Ix k W) a₁ W)
  (hdone : ∀ (W : World), I ((m + 1) ^ N) W → W.heap[w.heap.size]? = some (.deferred (some [])) → Q .normal { a with defers := { target := .collected w.heap.size, args := #[] } :: a.defers } W)
  (hstop : ∀ (c : Code) (k : Nat) (W : World), k < (m + 1) ^ N → Ix c (k + 1) W → W.heap[w.heap.size]? = some (.deferred (some [])) → c.wpIn Fence.wide n P Q { a with defers := { target := .collected w.heap.size, args := #[] } :: a.defers } W) :
  (Code.rangeFunc g ps assign body).wpIn Fence.wide n P Q a w := by
 refine wpIn_rangeFunc ?_
 intro fn hfn
 rw [show Fence.wide.round = none from rfl]
 obtain ⟨rec, hrec⟩ : ∃ rec : LoopState → Option Code → Loop, rec = fun st pe => { state := st, pending := pe, fn, tmps := a.tmps, params := ps, assign, body, defers := w.heap.size } := ⟨_, rfl⟩
 obtain ⟨W1, hW1⟩ : ∃ W1, (w.alloc (.deferred (some []))).alloc (.loop (rec .ready none)) = W1 := ⟨_, rfl⟩
 have hL1 : W1.heap[w.heap.size + 1]? = some (.loop (rec .ready none)) := by
  rw [← hW1]; have := World.alloc_heap_new (w.alloc (.deferred (some []))) (.loop (rec .ready none)); rwa [World.size_alloc] at this
 have hK1 : W1.heap[w.heap.size]? = some (.deferred (some [])) := by
  rw [← hW1]; exact (Below.heap_alloc _ _ _ (by simp)).trans (World.alloc_heap_new w _)
 have hS1 : W1.heap.size = w.heap.size + 2 := by rw [← hW1]; simp
 have hb1 : Below w.heap.size w W1 := by
  rw [← hW1]; exact ((Below.refl _ w).alloc (Nat.le_refl _) _).alloc (by simp) _
 have hI1 : I 0 W1 := hI 0 w W1 h0 ((Chg.of_below hb1))
 refine ⟨w.heap.size + 1, [{ target := .collected w.heap.size, args := #[] }], W1, { target := .fn (.func gf) lb, args := #[.func (.yield (w.heap.size + 1)) #[] #[]] }, W1, gf,
  #[.func (.yield (w.heap.size + 1)) #[] #[]] ++ lb, W1, ?_, ?_, ?_, ?_, fun _ => h1, ?_⟩
 ·rw [← hW1, hrec]; exact run_enterLoop_outer _ _ _ _ _
 ·simp only [resolve, hg]
  simp [go_sem]
 ·intro f' hf'; simp [Target.leads] at hf'; trivial
 ·simp [invoke, go_sem, eg]
 ·have hcarry : ∀ {A B : World} {r : Nat} {o : Obj}, A.heap[r]? = some o → r < w.heap.size + 2 → Chg W1.heap.size (W1.heap.size + 1) A B → B.heap[r]? = some o := by
   intro A B r o h hr hc
   rw [hS1] at hc
   exact (hc.block r (Array.getElem?_eq_some_iff.1 h).1 (.inl hr)).trans h
  refine (hseq (w.heap.size + 1)
   (fun k W => I k W ∧ W.heap[w.heap.size + 1]? = some (.loop (rec .ready none)) ∧ W.heap[w.heap.size]? = some (.deferred (some [])) ∧ w.heap.size + 2 ≤ W.heap.size)
   (fun k W => ∃ c, Ix c k W ∧ W.heap[w.heap.size + 1]? = some (.loop (rec .done (some c))) ∧ W.heap[w.heap.size]? = some (.deferred (some [])))
   W1 hb1
   (fun k A B hs hc => ⟨hI k A B hs.1 (hc.wider (by omega) (by omega)), hcarry hs.2.1 (by omega) hc, hcarry hs.2.2.1 (by omega) hc, Nat.le_trans hs.2.2.2 hc.size⟩)
   (fun k A B hs hc => by
    obtain ⟨c, h2, hl, hk⟩ := hs
    exact ⟨c, hIx c k A B h2 (hc.wider (by omega) (by omega)), hcarry hl (by omega) hc, hcarry hk (by omega) hc⟩)
   ?_ ⟨hI1, hL1, hK1, by omega⟩).mono ?_
  ·rintro k W ⟨hi, hl, hk, hsz⟩ hbx hlen
   rw [hS1] at hbx ⊢
   have hlt : w.heap.size + 1 < W.heap.size := (Array.getElem?_eq_some_iff.1 hl).1
   have hy := run_yield (P := P) (args := #[.slice (some ⟨w.heap.size + 2, 0, none⟩) N N]) hl (by rw [hrec]; simp [hps])
   rw [hrec] at hy
   refine ⟨fn, _, assign, body, hy, roundIn_of_wpIn hfn (hassign _ W _ ⟨_, run_beginRound hl (by rw [hrec]), ?_⟩)⟩
   clear hy
   have hl2 : (W.putObj (w.heap.size + 1) (.loop { rec .ready none with state := .busy })).heap[w.heap.size + 1]? = some (.loop { rec .ready none with state := .busy }) := World.putObj_heap_same hlt
   have hk2 : (W.putObj (w.heap.size + 1) (.loop { rec .ready none with state := .busy })).heap[w.heap.size]? = some (.deferred (some [])) := (World.putObj_heap_other (by omega)).trans hk
   have hG : w.heap.size + 2 < W.heap.size := (hbx.lt (w.heap.size + 2) rfl).2
   refine wpIn_mono (hbody _ k _ (by simp; omega) (hI k _ _ hi (chg_obj _ _ _ _ (by omega) (by omega))) (hbx.obj _ (by omega)) hlen) ?_
   have hkb : ∀ (W3 : World) (jump : Option Code), RoundK Bo w.heap.size (W.putObj (w.heap.size + 1) (.loop { rec .ready none with state := .busy })) W3 → KeptB Bo w.heap.size (w.heap.size + 2) W (W3.putObj (w.heap.size + 1) (.loop (rec (if jump.isNone then .ready else .done) jump))) := fun W3 jump hk3 =>
    ⟨by have := hk3.size; simp at this ⊢; exact this, fun r hr hn => (World.putObj_heap_other (by omega)).trans ((hk3.blk r (by omega) hn).trans (World.putObj_heap_other (by omega)))⟩
   have fin : ∀ (jump : Option Code) (W3 : World), ExitK w.heap.size (W.putObj (w.heap.size + 1) (.loop { rec .ready none with state := .busy })) W3 →
     (Instr.endRound (w.heap.size + 1) jump).run P W3 = .ok (.bool jump.isNone) (W3.putObj (w.heap.size + 1) (.loop (rec (if jump.isNone then .ready else .done) jump))) ∧
     (W3.putObj (w.heap.size + 1) (.loop (rec (if jump.isNone then .ready else .done) jump))).heap[w.heap.size + 1]? = some (.loop (rec (if jump.isNone then .ready else .done) jump)) ∧
     (W3.putObj (w.heap.size + 1) (.loop (rec (if jump.isNone then .ready else .done) jump))).heap[w.heap.size]? = some (.deferred (some [])) := fun jump W3 hk3 => by
    have hl3 := hk3.b1.trans hl2
    have hd3 := hk3.b0.trans hk2
    have := run_endRound (P := P) jump hl3
    rw [hrec] at this ⊢
    exact ⟨this, World.putObj_heap_same (Array.getElem?_eq_some_iff.1 hl3).1, (World.putObj_heap_other (by omega)).trans hd3⟩
   have hsz3 : ∀ (W3 : World) (o : Obj), RoundK Bo w.heap.size (W.putObj (w.heap.size + 1) (.loop { rec .ready none with state := .busy })) W3 → w.heap.size + 2 ≤ (W3.putObj (w.heap.size + 1) o).heap.size := fun W3 o hk3 => by
    have := hk3.size; simp at this ⊢; omega
   rintro e a3 W3 hp
   cases e with
   | normal =>
    obtain ⟨hk3, hi3⟩ := hp
    obtain ⟨hr, hl4, hk4⟩ := fin none W3 (hk3.exit hBo)
    exact ⟨_, _, hr, .inl ⟨rfl, ⟨hI _ _ _ hi3 (chg_obj _ _ _ _ (by omega) (by omega)), hl4, hk4, hsz3 _ _ hk3⟩, hkb W3 none hk3⟩⟩
   | ret =>
    obtain ⟨hk3, hi3⟩ := hp
    obtain ⟨hr, hl4, hk4⟩ := fin (some .ret) W3 hk3
    exact ⟨_, _, hr, .inr ⟨rfl, .ret, hIx _ _ _ _ hi3 (chg_obj _ _ _ _ (by omega) (by omega)), hl4, hk4⟩⟩
   | exit id =>
    obtain ⟨hk3, hi3⟩ := hp
    obtain ⟨hr, hl4, hk4⟩ := fin (some (.exit id)) W3 hk3
    exact ⟨_, _, hr, .inr ⟨rfl, .exit id, hIx _ _ _ _ hi3 (chg_obj _ _ _ _ (by omega) (by omega)), hl4, hk4⟩⟩
   | goto t =>
    obtain ⟨hk3, hi3⟩ := hp
    obtain ⟨hr, hl4, hk4⟩ := fin (some (.goto t)) W3 hk3
    exact ⟨_, _, hr, .inr ⟨rfl, .goto t, hIx _ _ _ _ hi3 (chg_obj _ _ _ _ (by omega) (by omega)), hl4, hk4⟩⟩
   | panic ch => exact hp.elim
   | outgrown => exact hp.elim
  ·rintro e W2 ⟨⟨v, rfl⟩, (⟨hi, hl, hk, _⟩ | ⟨k, hkM, c, hi, hl, hk⟩)⟩
   ·exact ⟨none, _, by have := run_endLoop (P := P) hl (by rw [hrec]; simp); rw [hrec] at this; exact this, hdone _ (hI _ _ _ hi (chg_obj _ _ _ _ (by omega) (by omega))) ((World.putObj_heap_other (by omega)).trans hk)⟩
   ·exact ⟨some c, _, by have := run_endLoop (P := P) hl (by rw [hrec]; simp); rw [hrec] at this; exact this, hstop c k _ hkM (hIx _ _ _ _ hi (chg_obj _ _ _ _ (by omega) (by omega))) ((World.putObj_heap_other (by omega)).trans hk)⟩
end Go.Proofs.YtcmlflppndfdcaaGreat
