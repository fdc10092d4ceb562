/- Rows of a matrix of the program, as lists. -/
import Derived.Test.YtbgjhnolnccnnaaRowAt
import Derived.Test.YtbgjhnolnccnnaaSS
import Derived.Test.YtbgjhnolnccnnaaAppS
namespace Go.Proofs.Ytbgjhnolnccnnaa
set_option linter.unusedVariables false
set_option linter.unusedSimpArgs false
open Go.RowKit
set_option maxHeartbeats 800000 in
theorem row_zero (r : Int) (i cap : Nat) (A : Option Addr) (w : World) (hb : cap ≤ 9223372036854775807) (hi : i ≤ 1000) :
    Calls Try.prog 83 #[.agg #[.int .i64 r, .int .i64 0, .slice A 0 cap], .int .i64 i] w fun e w' => ∃ A, e = .returned (.slice A 0 cap) ∧ Below w.heap.size w w' := by
  go_enter Try.func83, Try.ntmps83
  go_wp2
  exact bodyPost_ret (by simp [results, go_sem]; rfl) rfl ⟨_, rfl, below_alloc _ _⟩

def rowsF (r c : Nat) (f : Nat → Nat → Int) : List (List Int) := (List.range r).map fun i => rowF c (f i)
theorem rowsF_length (r c : Nat) (f : Nat → Nat → Int) : (rowsF r c f).length = r := by simp [rowsF]
theorem rowsF_get {r c j : Nat} (f : Nat → Nat → Int) (h : j < r) : (rowsF r c f)[j]? = some (rowF c (f j)) := by simp [rowsF, h]
theorem rowsF_succ (r c : Nat) (f : Nat → Nat → Int) : rowsF (r + 1) c f = rowsF r c f ++ [rowF c (f r)] := by simp [rowsF, List.range_succ]
theorem rowF_mem {c : Nat} {g : Nat → Int} {x : Int} (h : x ∈ rowF c g) : ∃ j, j < c ∧ x = g j := by
  simp only [rowF, List.mem_map, List.mem_range] at h
  obtain ⟨j, hj, rfl⟩ := h
  exact ⟨j, hj, rfl⟩
/-- a stretch of a slice of ints -/
theorem SlI.part {w : World} {B g o n cap P c : Nat} {l l' : List Int} (h : SlI w B (.slice (some ⟨g, o, none⟩) n cap) l) (hn : n = l.length) (hc : P + l'.length ≤ l.length) (hl : ∀ j x, l'[j]? = some x → l[P + j]? = some x) (hcn : c = cap - P) :
    SlI w B (.slice (some ⟨g, o + P, none⟩) l'.length c) l' := by
  subst hn hcn
  obtain ⟨A', c', e, h1, h2, h3, h4⟩ := h
  injection e with e1 e2 e3
  subst e1 e3
  refine ⟨_, _, rfl, by omega, by omega, by omega, fun hp => ?_⟩
  obtain ⟨b, o', e, hb, hx⟩ := h4 (by omega)
  injection e with e
  injection e with e1 e2
  subst e1 e2
  refine ⟨g, o + P, rfl, hb, fun j x hj => ?_⟩
  have := hx (P + j) x (hl j x hj)
  rw [show o + P + j * 1 = o + (P + j) * 1 by omega]
  exact this
set_option maxHeartbeats 800000 in
theorem row_atO (r : Int) (c i P N cap g o : Nat) (w : World) (h1 : wrap64 ((i : Int) * (c : Int)) = (P : Int)) (h2 : wrap64 (((i : Int) + 1) * (c : Int)) = ((P + c : Nat) : Int))
    (hN : P + c ≤ N) (hcap : N ≤ cap) (hb : cap ≤ 9223372036854775807) (h0 : 0 < c) (hi : i ≤ 1000) :
    Calls Try.prog 83 #[.agg #[.int .i64 r, .int .i64 c, .slice (some ⟨g, o, none⟩) N cap], .int .i64 i] w fun e w' => e = .returned (.slice (some ⟨g, o + P, none⟩) c (cap - P)) ∧ Below w.heap.size w w' := by
  go_enter Try.func83, Try.ntmps83
  go_wp2
  exact bodyPost_ret (v := .slice (some ⟨g, o + P, none⟩) c (cap - P)) (by simp [results, go_sem]) rfl ⟨rfl, below_alloc _ _⟩
theorem row_any (u : Value) (r c i : Nat) (f : Nat → Nat → Int) (w : World) (hu : MxR w w.heap.size u (mxF r c f)) (hr : r ≤ 1000) (hc : c ≤ 1000) (hi : i < r) :
    Calls Try.prog 83 #[u, .int .i64 i] w fun e w' => ∃ v, e = .returned v ∧ SlI w' w'.heap.size v (rowF c (f i)) ∧ Below w.heap.size w w' := by
  obtain ⟨A, cap, rfl, hs, _, _, hl⟩ := hu.open_
  simp only [mxF] at hs hl ⊢
  rcases Nat.eq_zero_or_pos c with rfl | h0
  · obtain ⟨_, _, e, h1, h2, _⟩ := hs
    injection e with e1 e2 e3
    subst e1 e3
    have e : (flat r 0 f).length = 0 := by rw [flat_length]; rfl
    rw [e]
    refine (row_zero r i cap A w h2 (by omega)).mono fun e w' ⟨A', h3, h4⟩ => ⟨_, h3, ?_, h4⟩
    exact ⟨A', cap, by simp [rowF], by simp [rowF], h2, by simp [rowF], fun h => by simp [rowF] at h⟩
  · obtain ⟨P, J, hP, _, _, _, _⟩ := ix_walk hi h0 hr hc
    obtain ⟨hPi, hP2, hPL, _⟩ := ix_next hi hr hc hP
    have hlt := ix_lt hi h0
    have hs' := hs
    obtain ⟨_, _, e, h1, h2, h3, h4⟩ := hs
    injection e with e1 e2 e3
    subst e1 e3
    obtain ⟨b, o, rfl, hb, hx⟩ := h4 (by rw [flat_length]; omega)
    refine (row_atO r c i P _ cap b o w hP hP2 (by rw [flat_length]; exact hPL) h1 h2 h0 (by omega)).mono fun e w' ⟨h5, h6⟩ => ⟨_, h5, ?_, h6⟩
    have := SlI.part (P := P) (l' := rowF c (f i)) (SlI.next h6 hs') rfl (by rw [rowF_length, flat_length]; exact hPL) (fun j x hj => ?_) rfl
    · rwa [rowF_length] at this
    · have hjc := lt_of_some hj
      rw [rowF_length] at hjc
      rw [rowF_get _ hjc] at hj
      rw [hPi, flat_get f hi hjc]
      exact hj

set_option maxHeartbeats 1600000 in
theorem rows_any (u : Value) (r c : Nat) (f : Nat → Nat → Int) (w0 : World) (hu : MxR w0 w0.heap.size u (mxF r c f)) (hr : r ≤ 1000) (hc : c ≤ 1000) :
    Calls Try.prog 98 #[u] w0 fun e w' => ∃ v, e = .returned v ∧ IntssO w' w0.heap.size w'.heap.size v (rowsF r c f) ∧ Below w0.heap.size w0 w' := by
  have hu' := hu
  obtain ⟨A, cap, rfl, hs, i1, i2, hl⟩ := hu.open_
  clear hu
  simp only [mxF] at hs hl i1 i2 ⊢
  obtain ⟨W, hW⟩ : ∃ W, W = w0.alloc (.cells #[.int .i64 r, .int .i64 c, .slice A (flat r c f).length cap] 60) := ⟨_, rfl⟩
  have g0 : Below w0.heap.size w0 W := by rw [hW]; exact below_alloc _ _
  have kB : Blk W w0.heap.size 60 #[.int .i64 r, .int .i64 c, .slice A (flat r c f).length cap] := by rw [hW]; exact Blk.new _ _ _
  obtain ⟨L, hL⟩ : ∃ L, (flat r c f).length = L := ⟨_, rfl⟩
  simp only [mxF] at hu'
  rw [hL] at hu' hs hl kB hW ⊢
  clear hL
  have c0 := kB.cell' (i := 0) rfl
  have c1 := kB.cell' (i := 1) rfl
  have c2 := kB.cell' (i := 2) rfl
  have HU := Lib.hid (MxR.next g0 hu')
  have sz : w0.heap.size < W.heap.size := kB.lt
  go_enter Try.func98, Try.ntmps98
  go_wp2
  rw [← hW]
  clear hW
  go_loopw [3, 7] (fun out i wr => ∃ (k : Nat) (vs : List Value), k ≤ r ∧ i = .int .i64 k ∧ Below W.heap.size W wr ∧ OutO wr W.heap.size wr.heap.size out vs ∧ vs.length = k ∧ Fam wr W.heap.size wr.heap.size (vs.zip (rowsF k c f))) (fun _ i _ => r - (intOf i).toNat)
  case atStart => exact ⟨0, [], Nat.zero_le _, rfl, Below.refl _ _, ⟨World.ownsRow_nil _ _ _ _, by simp [Value.ownBlock], by simp⟩, rfl, ⟨fun p hp => by simp at hp, by simp⟩⟩
  case round =>
    clear c0 c1 c2
    obtain ⟨k, vs, hk, rfl, hbel, hO, hvl, hF⟩ := hrel
    have kB2 := kB.call hbel
    have c0 := kB2.cell' (i := 0) rfl
    have c1 := kB2.cell' (i := 1) rfl
    have c2 := kB2.cell' (i := 2) rfl
    have HVL := Lib.hid hvl
    clear hvl
    by_cases hlt : k < r
    · have HUR := Lib.hid (MxR.more hbel.size (MxR.below hbel HU.out))
      have hws := hbel.size
      obtain ⟨OA, oc, rfl, _, _⟩ := hO.form
      have HO := Lib.hid hO
      have HF := Lib.hid hF
      clear hO hF
      go_wp2_with fail
      refine (row_any _ r c k f _ HUR.out hr hc hlt).mono ?_; rintro e w1 ⟨v1, rfl, hv1, hb1⟩
      have hb0 := hb1
      go_wp2_with fail
      refine (clone_own _ _ _ hv1).mono ?_; rintro e wC ⟨v2, rfl, hI, hb2⟩
      have hbC := bthen hb1 hb2
      have hlo := hb1.size
      clear hb2 hb0
      obtain ⟨VA, vc, ev⟩ := hI.form
      rw [rowF_length] at ev
      subst ev
      have hO2 := HO.out.below hbC
      have hF2 := HF.out.below hbC
      have hbs := hbC.size
      have HI := Lib.hid hI
      have HO2 := Lib.hid hO2
      have HF2 := Lib.hid hF2
      have HBC := Lib.hid hbC
      clear hI hO2 hF2 hbC hb1 hv1
      (go_wp2_with (at_builtin; refine Hold.stop ?_)); unfold Hold
      obtain ⟨X, hX⟩ : ∃ X, X = wC.alloc (.cells #[.slice VA c vc] 29) := ⟨_, rfl⟩
      have gn : Below wC.heap.size wC X := by rw [hX]; exact below_alloc _ _
      have kn : Blk X wC.heap.size 29 #[.slice VA c vc] := by rw [hX]; exact Blk.new _ _ _
      have hO3 := HO2.out.below gn
      have hF3 := (HF2.out.snoc (HI.out.wider (lo' := wr.heap.size) hlo (Nat.le_refl _)) hws (by omega)).below gn
      have hXs := gn.size
      rw [← hX]
      clear hX
      refine wpList_appS rfl (.tmp 10) (.tmp 15) rfl W.heap.size (.slice OA vs.length oc) vs rfl hO3.1 _ _ (.slice VA c vc) rfl ⟨wC.heap.size, 0, rfl, kn.cell' (i := 0) rfl⟩ rfl (by have := HVL.out; omega) (by omega) ?_
      intro v' w' hn' hg' hv'
      have hbg : Below W.heap.size X w' := below_grown hg' (fun k hk => (hO3.1.lt k hk).1) (by omega)
      have hbt := (hbel.trans ((HBC.out).mono hws)).trans ((gn.mono (by omega)).trans hbg)
      have hF4 := Fam.grownO hF3 hO3.1 hg'
      have hws' := hbg.size
      have hO4 : OutO w' W.heap.size w'.heap.size v' (vs ++ [.slice VA c vc]) := ⟨hn', fun k hk => (hn'.lt k hk).2, by simp; have := HVL.out; omega⟩
      have HF4 := Lib.hid hF4
      have HO4 := Lib.hid hO4
      have HBT := Lib.hid hbt
      clear hn' hg' hv' hbg hbt hF4 hO4 hO3 hF3 kn gn
      go_wp2
      go_roundw
      case rel =>
        refine ⟨k + 1, vs ++ [.slice VA c vc], by omega, by go_num, HBT.out, HO4.out, by simp [HVL.out], ?_⟩
        have := HF4.out.mono (Nat.le_refl _) (show wC.heap.size ≤ w'.heap.size by omega)
        have e : (vs ++ [Value.slice VA c vc]).zip (rowsF (k + 1) c f) = vs.zip (rowsF k c f) ++ [(Value.slice VA c vc, rowF c (f k))] := by
          rw [rowsF_succ, List.zip_append (by rw [HVL.out, rowsF_length])]; rfl
        rw [e]
        exact this
      case measure => simp [intOf]; omega
    · obtain rfl : k = r := by omega
      have hO' := hO
      have hF' := hF
      go_wp2
      go_ret
      exact ⟨_, rfl, ⟨vs, hO'.mono (by omega) (Nat.le_refl _), by rw [HVL.out, rowsF_length], hF'.mono (by omega) (Nat.le_refl _)⟩, g0.trans (hbel.mono (by omega))⟩
end Go.Proofs.Ytbgjhnolnccnnaa
