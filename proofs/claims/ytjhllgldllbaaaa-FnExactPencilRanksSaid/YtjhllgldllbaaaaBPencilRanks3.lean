/- FnExactPencilRanks: for every argument the program's function returns what the reference's returns. Part 3 of 7 of the proof: AppS, RowZ, Small, Find, IsQ, Mat, AddM, Elim, Plus, ElimS, Net2. No condition. -/
import Derived.Test.YtjhllgldllbaaaaBPencilRanks2
/- append of one row of ints onto a row of rows. -/
namespace Go.Proofs.Ytjhllgldllbaaaa
set_option linter.unusedVariables false
set_option linter.unusedSimpArgs false
open Go.RowKit

theorem below_grown {B : Nat} {w w' : World} {row : Option Nat} (hg : w.grownBy w' row) (hB : ∀ k, row = some k → B ≤ k) (hs : B ≤ w.heap.size) : Below B w w' :=
  ⟨hg.os, hg.tape, hg.output, hg.size, fun k hk => hg.block k (by omega) (fun e => by have := hB k e.symm; omega)⟩
theorem wpList_appS {w : World} {ops : Array Oper} {rest : List Oper} {o : Oper} {a : Act} {Q : Exit → Act → World → Prop} (hgd : o.guard = none) (s x : Operand)
    (ho : o.op = .call { callee := .builtin .append, args := #[s, x], argTypes := #[65, 65] })
    (base : Nat) (v : Value) (vs : List Value) (hs : a.eval s = v) (hown : w.ownsRow base 22 1 v vs.length vs) (A : Option Addr) (c : Nat) (u : Value) (hx : a.eval x = .slice A 1 c) (hA : ∃ b o, A = some ⟨b, o, none⟩ ∧ w.cell? ⟨b, o, none⟩ = some u) (h1 : u.oneCell' = true)
    (hn : vs.length + 1 ≤ 1048576) (hbase : base ≤ w.heap.size)
    (h : ∀ v' w', w'.ownsRow base 22 1 v' (vs ++ [u]).length (vs ++ [u]) → w.grownBy w' v.ownBlock → (v'.ownBlock = v.ownBlock ∨ v'.ownBlock = some w.heap.size) → wpList Try.prog ops Q rest (a.put o.dst v') w') : wpList Try.prog ops Q (o :: rest) a w := by
  obtain ⟨i0, hi, hz0, hz1, hz2⟩ := info_parts infoInts
  obtain ⟨b, off, rfl, hc⟩ := hA
  refine wpList_append_G w hgd s x _ ho base 22 i0 _ 1 24 Try.underlying65 hi hz0 hz1 hz2 rfl (by decide) v vs.length _ hs hown (some ⟨b, off, none⟩) 1 c [u] hx ⟨by simp, .inr ⟨b, off, rfl, fun j u' hu => ?_⟩⟩ (by simpa using h1) (by simp only [maxLen]; omega) (by omega) hbase fun v' w' h2 h3 h4 => ?_
  · match j, hu with
    | 0, hu =>
      simp at hu
      subst hu
      exact hc
  · exact h v' w' (by simpa using h2) h3 h4
theorem Fam.grownO {w w' : World} {lo hi base n : Nat} {L : List (Value × List Int)} {v : Value} {vs : List Value} (hF : Fam w lo hi L) (ho : w.ownsRow base 22 1 v n vs) (hg : w.grownBy w' v.ownBlock) : Fam w' lo hi L := by
  refine ⟨fun p hp => ⟨(hF.1 p hp).1.kept hg ?_, (hF.1 p hp).2⟩, hF.2⟩
  rcases ho.2 with ⟨rfl, _⟩ | ⟨g, cap, cur, rfl, _, hh, _⟩
  · rcases hA : p.1.ownBlock with _ | x
    · exact .inl rfl
    · right
      simp [Value.ownBlock]
  · right
    exact fun e => (hF.1 p hp).1.blkne (g := g) (t := 22) (cs := cur) hh (by decide) (by rw [e]; rfl)

theorem OutO.blkne {w : World} {lo hi g : Nat} {v : Value} {vs : List Value} {t : TypeId} {cs : Array Value} (h : OutO w lo hi v vs) (hb : Blk w g t cs) (ht : 22 ≠ t) : some g ≠ v.ownBlock := by
  rcases h.1.2 with ⟨rfl, _⟩ | ⟨g', cap, cur, rfl, _, hh, _⟩
  · simp [Value.ownBlock]
  · intro he
    have : g = g' := by simpa [Value.ownBlock] using he
    subst this
    unfold Blk at hb
    rw [hh] at hb
    injection hb with hb
    injection hb with _ hb
    exact ht hb
end Go.Proofs.Ytjhllgldllbaaaa

/- Rows of a matrix of the program, as lists. -/
namespace Go.Proofs.Ytjhllgldllbaaaa
set_option linter.unusedVariables false
set_option linter.unusedSimpArgs false
open Go.RowKit
set_option maxHeartbeats 800000 in
theorem row_zero (r : Int) (i cap : Nat) (A : Option Addr) (w : World) (hb : cap ≤ 9223372036854775807) (hi : i ≤ 1000) :
    Calls Try.prog 167 #[.agg #[.int .i64 r, .int .i64 0, .slice A 0 cap], .int .i64 i] w fun e w' => ∃ A, e = .returned (.slice A 0 cap) ∧ Below w.heap.size w w' := by
  go_enter Try.func167, Try.ntmps167
  go_wp2
  exact bodyPost_ret (by simp [results, go_sem]; rfl) rfl ⟨_, rfl, below_alloc _ _⟩

def rowsF (r c : Nat) (f : Nat → Nat → Int) : List (List Int) := (List.range r).map fun i => rowF c (f i)
theorem rowsF_length (r c : Nat) (f : Nat → Nat → Int) : (rowsF r c f).length = r := by simp [rowsF]
theorem rowsF_get {r c j : Nat} (f : Nat → Nat → Int) (h : j < r) : (rowsF r c f)[j]? = some (rowF c (f j)) := by simp [rowsF, h]
theorem rowsF_succ (r c : Nat) (f : Nat → Nat → Int) : rowsF (r + 1) c f = rowsF r c f ++ [rowF c (f r)] := by simp [rowsF, List.range_succ]
theorem rowF_mem {c : Nat} {g : Nat → Int} {x : Int} (h : x ∈ rowF c g) : ∃ j, j < c ∧ x = g j := by
  simp only [rowF, List.mem_map, List.mem_range] at h
  obtain ⟨j, hj, rfl⟩ := h
  exact ⟨j, hj, rfl⟩
/-- a stretch of a slice of ints -/
theorem SlI.part {w : World} {B g o n cap P c : Nat} {l l' : List Int} (h : SlI w B (.slice (some ⟨g, o, none⟩) n cap) l) (hn : n = l.length) (hc : P + l'.length ≤ l.length) (hl : ∀ j x, l'[j]? = some x → l[P + j]? = some x) (hcn : c = cap - P) :
    SlI w B (.slice (some ⟨g, o + P, none⟩) l'.length c) l' := by
  subst hn hcn
  obtain ⟨A', c', e, h1, h2, h3, h4⟩ := h
  injection e with e1 e2 e3
  subst e1 e3
  refine ⟨_, _, rfl, by omega, by omega, by omega, fun hp => ?_⟩
  obtain ⟨b, o', e, hb, hx⟩ := h4 (by omega)
  injection e with e
  injection e with e1 e2
  subst e1 e2
  refine ⟨g, o + P, rfl, hb, fun j x hj => ?_⟩
  have := hx (P + j) x (hl j x hj)
  rw [show o + P + j * 1 = o + (P + j) * 1 by omega]
  exact this
set_option maxHeartbeats 800000 in
theorem row_atO (r : Int) (c i P N cap g o : Nat) (w : World) (h1 : wrap64 ((i : Int) * (c : Int)) = (P : Int)) (h2 : wrap64 (((i : Int) + 1) * (c : Int)) = ((P + c : Nat) : Int))
    (hN : P + c ≤ N) (hcap : N ≤ cap) (hb : cap ≤ 9223372036854775807) (h0 : 0 < c) (hi : i ≤ 1000) :
    Calls Try.prog 167 #[.agg #[.int .i64 r, .int .i64 c, .slice (some ⟨g, o, none⟩) N cap], .int .i64 i] w fun e w' => e = .returned (.slice (some ⟨g, o + P, none⟩) c (cap - P)) ∧ Below w.heap.size w w' := by
  go_enter Try.func167, Try.ntmps167
  go_wp2
  exact bodyPost_ret (v := .slice (some ⟨g, o + P, none⟩) c (cap - P)) (by simp [results, go_sem]) rfl ⟨rfl, below_alloc _ _⟩
theorem row_any (u : Value) (r c i : Nat) (f : Nat → Nat → Int) (w : World) (hu : MxR w w.heap.size u (mxF r c f)) (hr : r ≤ 1000) (hc : c ≤ 1000) (hi : i < r) :
    Calls Try.prog 167 #[u, .int .i64 i] w fun e w' => ∃ v, e = .returned v ∧ SlI w' w'.heap.size v (rowF c (f i)) ∧ Below w.heap.size w w' := by
  obtain ⟨A, cap, rfl, hs, _, _, hl⟩ := hu.open_
  simp only [mxF] at hs hl ⊢
  rcases Nat.eq_zero_or_pos c with rfl | h0
  · obtain ⟨_, _, e, h1, h2, _⟩ := hs
    injection e with e1 e2 e3
    subst e1 e3
    have e : (flat r 0 f).length = 0 := by rw [flat_length]; rfl
    rw [e]
    refine (row_zero r i cap A w h2 (by omega)).mono fun e w' ⟨A', h3, h4⟩ => ⟨_, h3, ?_, h4⟩
    exact ⟨A', cap, by simp [rowF], by simp [rowF], h2, by simp [rowF], fun h => by simp [rowF] at h⟩
  · obtain ⟨P, J, hP, _, _, _, _⟩ := ix_walk hi h0 hr hc
    obtain ⟨hPi, hP2, hPL, _⟩ := ix_next hi hr hc hP
    have hlt := ix_lt hi h0
    have hs' := hs
    obtain ⟨_, _, e, h1, h2, h3, h4⟩ := hs
    injection e with e1 e2 e3
    subst e1 e3
    obtain ⟨b, o, rfl, hb, hx⟩ := h4 (by rw [flat_length]; omega)
    refine (row_atO r c i P _ cap b o w hP hP2 (by rw [flat_length]; exact hPL) h1 h2 h0 (by omega)).mono fun e w' ⟨h5, h6⟩ => ⟨_, h5, ?_, h6⟩
    have := SlI.part (P := P) (l' := rowF c (f i)) (SlI.next h6 hs') rfl (by rw [rowF_length, flat_length]; exact hPL) (fun j x hj => ?_) rfl
    · rwa [rowF_length] at this
    · have hjc := lt_of_some hj
      rw [rowF_length] at hjc
      rw [rowF_get _ hjc] at hj
      rw [hPi, flat_get f hi hjc]
      exact hj

set_option maxHeartbeats 1600000 in
theorem rows_any (u : Value) (r c : Nat) (f : Nat → Nat → Int) (w0 : World) (hu : MxR w0 w0.heap.size u (mxF r c f)) (hr : r ≤ 1000) (hc : c ≤ 1000) :
    Calls Try.prog 107 #[u] w0 fun e w' => ∃ v, e = .returned v ∧ IntssO w' w0.heap.size w'.heap.size v (rowsF r c f) ∧ Below w0.heap.size w0 w' := by
  have hu' := hu
  obtain ⟨A, cap, rfl, hs, i1, i2, hl⟩ := hu.open_
  clear hu
  simp only [mxF] at hs hl i1 i2 ⊢
  obtain ⟨W, hW⟩ : ∃ W, W = w0.alloc (.cells #[.int .i64 r, .int .i64 c, .slice A (flat r c f).length cap] 75) := ⟨_, rfl⟩
  have g0 : Below w0.heap.size w0 W := by rw [hW]; exact below_alloc _ _
  have kB : Blk W w0.heap.size 75 #[.int .i64 r, .int .i64 c, .slice A (flat r c f).length cap] := by rw [hW]; exact Blk.new _ _ _
  obtain ⟨L, hL⟩ : ∃ L, (flat r c f).length = L := ⟨_, rfl⟩
  simp only [mxF] at hu'
  rw [hL] at hu' hs hl kB hW ⊢
  clear hL
  have c0 := kB.cell' (i := 0) rfl
  have c1 := kB.cell' (i := 1) rfl
  have c2 := kB.cell' (i := 2) rfl
  have HU := Lib.hid (MxR.next g0 hu')
  have sz : w0.heap.size < W.heap.size := kB.lt
  go_enter Try.func107, Try.ntmps107
  go_wp2
  rw [← hW]
  clear hW
  go_loopw [3, 7] (fun out i wr => ∃ (k : Nat) (vs : List Value), k ≤ r ∧ i = .int .i64 k ∧ Below W.heap.size W wr ∧ OutO wr W.heap.size wr.heap.size out vs ∧ vs.length = k ∧ Fam wr W.heap.size wr.heap.size (vs.zip (rowsF k c f))) (fun _ i _ => r - (intOf i).toNat)
  case atStart => exact ⟨0, [], Nat.zero_le _, rfl, Below.refl _ _, ⟨World.ownsRow_nil _ _ _ _, by simp [Value.ownBlock], by simp⟩, rfl, ⟨fun p hp => by simp at hp, by simp⟩⟩
  case round =>
    clear c0 c1 c2
    obtain ⟨k, vs, hk, rfl, hbel, hO, hvl, hF⟩ := hrel
    have kB2 := kB.call hbel
    have c0 := kB2.cell' (i := 0) rfl
    have c1 := kB2.cell' (i := 1) rfl
    have c2 := kB2.cell' (i := 2) rfl
    have HVL := Lib.hid hvl
    clear hvl
    by_cases hlt : k < r
    · have HUR := Lib.hid (MxR.more hbel.size (MxR.below hbel HU.out))
      have hws := hbel.size
      obtain ⟨OA, oc, rfl, _, _⟩ := hO.form
      have HO := Lib.hid hO
      have HF := Lib.hid hF
      clear hO hF
      go_wp2_with fail
      refine (row_any _ r c k f _ HUR.out hr hc hlt).mono ?_; rintro e w1 ⟨v1, rfl, hv1, hb1⟩
      have hb0 := hb1
      go_wp2_with fail
      refine (clone_own _ _ _ hv1).mono ?_; rintro e wC ⟨v2, rfl, hI, hb2⟩
      have hbC := bthen hb1 hb2
      have hlo := hb1.size
      clear hb2 hb0
      obtain ⟨VA, vc, ev⟩ := hI.form
      rw [rowF_length] at ev
      subst ev
      have hO2 := HO.out.below hbC
      have hF2 := HF.out.below hbC
      have hbs := hbC.size
      have HI := Lib.hid hI
      have HO2 := Lib.hid hO2
      have HF2 := Lib.hid hF2
      have HBC := Lib.hid hbC
      clear hI hO2 hF2 hbC hb1 hv1
      (go_wp2_with (at_builtin; refine Hold.stop ?_)); unfold Hold
      obtain ⟨X, hX⟩ : ∃ X, X = wC.alloc (.cells #[.slice VA c vc] 22) := ⟨_, rfl⟩
      have gn : Below wC.heap.size wC X := by rw [hX]; exact below_alloc _ _
      have kn : Blk X wC.heap.size 22 #[.slice VA c vc] := by rw [hX]; exact Blk.new _ _ _
      have hO3 := HO2.out.below gn
      have hF3 := (HF2.out.snoc (HI.out.wider (lo' := wr.heap.size) hlo (Nat.le_refl _)) hws (by omega)).below gn
      have hXs := gn.size
      rw [← hX]
      clear hX
      refine wpList_appS rfl (.tmp 10) (.tmp 15) rfl W.heap.size (.slice OA vs.length oc) vs rfl hO3.1 _ _ (.slice VA c vc) rfl ⟨wC.heap.size, 0, rfl, kn.cell' (i := 0) rfl⟩ rfl (by have := HVL.out; omega) (by omega) ?_
      intro v' w' hn' hg' hv'
      have hbg : Below W.heap.size X w' := below_grown hg' (fun k hk => (hO3.1.lt k hk).1) (by omega)
      have hbt := (hbel.trans ((HBC.out).mono hws)).trans ((gn.mono (by omega)).trans hbg)
      have hF4 := Fam.grownO hF3 hO3.1 hg'
      have hws' := hbg.size
      have hO4 : OutO w' W.heap.size w'.heap.size v' (vs ++ [.slice VA c vc]) := ⟨hn', fun k hk => (hn'.lt k hk).2, by simp; have := HVL.out; omega⟩
      have HF4 := Lib.hid hF4
      have HO4 := Lib.hid hO4
      have HBT := Lib.hid hbt
      clear hn' hg' hv' hbg hbt hF4 hO4 hO3 hF3 kn gn
      go_wp2
      go_roundw
      case rel =>
        refine ⟨k + 1, vs ++ [.slice VA c vc], by omega, by go_num, HBT.out, HO4.out, by simp [HVL.out], ?_⟩
        have := HF4.out.mono (Nat.le_refl _) (show wC.heap.size ≤ w'.heap.size by omega)
        have e : (vs ++ [Value.slice VA c vc]).zip (rowsF (k + 1) c f) = vs.zip (rowsF k c f) ++ [(Value.slice VA c vc, rowF c (f k))] := by
          rw [rowsF_succ, List.zip_append (by rw [HVL.out, rowsF_length])]; rfl
        rw [e]
        exact this
      case measure => simp [intOf]; omega
    · obtain rfl : k = r := by omega
      have hO' := hO
      have hF' := hF
      go_wp2
      go_ret
      exact ⟨_, rfl, ⟨vs, hO'.mono (by omega) (Nat.le_refl _), by rw [HVL.out, rowsF_length], hF'.mono (by omega) (Nat.le_refl _)⟩, g0.trans (hbel.mono (by omega))⟩
end Go.Proofs.Ytjhllgldllbaaaa

/- Small functions of numbers. -/
namespace Go.Proofs.Ytjhllgldllbaaaa
set_option linter.unusedVariables false
set_option linter.unusedSimpArgs false
open Go.RowKit

/-- Whether a number lies in a range. -/
def inR (n lo hi : Int) : Bool := decide (lo ≤ n ∧ n ≤ hi)
theorem inR_t {n lo hi : Int} : inR n lo hi = true ↔ lo ≤ n ∧ n ≤ hi := by simp [inR]
theorem inR_f {n lo hi : Int} : inR n lo hi = false ↔ ¬ (lo ≤ n ∧ n ≤ hi) := by simp [inR]
theorem within_any (n lo hi : Int) (w : World) : Calls Try.prog 65 #[.int .i64 n, .int .i64 lo, .int .i64 hi] w fun e w' => e = .returned (.bool (inR n lo hi)) ∧ w' = w := by
  by_cases h1 : n < lo
  · go_enter Try.func65, Try.ntmps65
    go_wp2
    go_ret
    exact ⟨by rw [inR_f.2 (by omega)]; rfl, rfl⟩
  · have h1' : lo ≤ n := by omega
    by_cases h2 : n ≤ hi
    · go_enter Try.func65, Try.ntmps65
      go_wp2
      go_ret
      exact ⟨by rw [inR_t.2 (by omega)]; rfl, rfl⟩
    · have h2' : hi < n := by omega
      go_enter Try.func65, Try.ntmps65
      go_wp2
      go_ret
      exact ⟨by rw [inR_f.2 (by omega)]; rfl, rfl⟩

theorem l1In_any (n lo hi : Int) (w : World) : Calls Try.prog 61 #[.int .i64 n, .int .i64 lo, .int .i64 hi] w fun e w' => e = .returned (.bool (inR n lo hi)) ∧ w' = w := by
  by_cases h1 : n < lo
  · go_enter Try.func61, Try.ntmps61
    go_wp2
    go_ret
    exact ⟨by rw [inR_f.2 (by omega)]; rfl, rfl⟩
  · have h1' : lo ≤ n := by omega
    by_cases h2 : n ≤ hi
    · go_enter Try.func61, Try.ntmps61
      go_wp2
      go_ret
      exact ⟨by rw [inR_t.2 (by omega)]; rfl, rfl⟩
    · have h2' : hi < n := by omega
      go_enter Try.func61, Try.ntmps61
      go_wp2
      go_ret
      exact ⟨by rw [inR_f.2 (by omega)]; rfl, rfl⟩

end Go.Proofs.Ytjhllgldllbaaaa

/- Searches in lists of ints: the library's Index, Contains, IndexFunc, ContainsFunc at []int; the program's allWithin, sumOf. -/
namespace Go.Proofs.Ytjhllgldllbaaaa
set_option linter.unusedVariables false
set_option linter.unusedSimpArgs false
open Go.RowKit

/-- The first place at which p holds, or -1. -/
def fidx (p : Int → Bool) (l : List Int) : Int := if l.findIdx p < l.length then (l.findIdx p : Int) else -1
theorem fidx_none {p : Int → Bool} {l : List Int} (h : ∀ x ∈ l, p x = false) : fidx p l = -1 := by
  unfold fidx
  rw [if_neg]
  intro hlt
  have h1 := List.findIdx_getElem (w := hlt)
  have h2 := h _ (List.getElem_mem hlt)
  rw [h1] at h2
  cases h2
theorem fidx_some {p : Int → Bool} {l : List Int} {k : Nat} {x : Int} (hx : l[k]? = some x) (hp : p x = true) (hb : ∀ y ∈ l.take k, p y = false) : fidx p l = k := by
  have hk := lt_of_some hx
  have hxk : l[k] = x := by rw [List.getElem?_eq_getElem hk] at hx; injection hx
  have e : l.findIdx p = k := by
    rw [List.findIdx_eq hk]
    refine ⟨by rw [hxk]; exact hp, fun j hj => ?_⟩
    have := hb l[j] (by rw [List.mem_take_iff_getElem]; exact ⟨j, by omega, rfl⟩)
    simp [this]
  unfold fidx
  rw [e, if_pos hk]
theorem fidx_range (p : Int → Bool) (l : List Int) : -1 ≤ fidx p l ∧ fidx p l < l.length := by
  unfold fidx
  split <;> omega
theorem fidx_any (p : Int → Bool) (l : List Int) : decide (0 ≤ fidx p l) = l.any p := by
  unfold fidx
  by_cases h : l.findIdx p < l.length
  · rw [if_pos h]
    have h1 := List.findIdx_getElem (w := h)
    have : l.any p = true := List.any_eq_true.2 ⟨_, List.getElem_mem h, h1⟩
    rw [this]
    simp
  · rw [if_neg h]
    have : l.any p = false := by
      rw [List.any_eq_false]
      intro x hx hpx
      exact h (List.findIdx_lt_length_of_exists ⟨x, hx, hpx⟩)
    rw [this]
    simp

set_option maxHeartbeats 400000 in
theorem index_any (u : Value) (xs : List Int) (v : Int) (w : World) (hu : SlI w w.heap.size u xs) :
    Calls Try.prog 193 #[u, .int .i64 v] w fun e w' => e = .returned (.int .i64 (fidx (fun x => v == x) xs)) ∧ w' = w := by
  obtain ⟨A, c, rfl, _, _, hn, hx⟩ := hu.open_
  clear hu
  go_enter Try.func193, Try.ntmps193
  go_wp2
  go_loop [8] (fun i => ∃ k : Nat, k ≤ xs.length ∧ i = .int .i64 k ∧ Hid (∀ y ∈ xs.take k, (v == y) = false)) (fun i => xs.length - (intOf i).toNat)
  case atStart => exact ⟨0, Nat.zero_le _, rfl, by intro y hy; simp at hy⟩
  case round =>
    obtain ⟨k, hk, rfl, hno⟩ := hrel
    by_cases hlt : k < xs.length
    · obtain ⟨b, o, x, rfl, hb, HX, c1, _⟩ := SlI.at_ hx hlt
      clear hx
      rcases hvx : (v == x) with _ | _
      · go_wp2
        go_round
        case rel =>
          refine ⟨k + 1, by omega, by go_num, fun y hy => ?_⟩
          rw [take_snoc HX.out, List.mem_append, List.mem_singleton] at hy
          rcases hy with hy | rfl
          · exact hno.out y hy
          · exact hvx
        case measure => simp [intOf]; omega
      · have hfin := Lib.hid (fidx_some HX.out hvx hno.out)
        go_wp2
        go_ret
        exact ⟨by rw [hfin.out]; rfl, rfl⟩
    · go_wp2
      go_ret
      have h1 := hno.out
      rw [List.take_of_length_le (by omega)] at h1
      exact ⟨by rw [fidx_none h1]; rfl, rfl⟩

theorem contains_any (u : Value) (xs : List Int) (v : Int) (w : World) (hu : SlI w w.heap.size u xs) :
    Calls Try.prog 145 #[u, .int .i64 v] w fun e w' => e = .returned (.bool (decide (v ∈ xs))) ∧ w' = w := by
  have hd : decide (v ∈ xs) = decide (0 ≤ fidx (fun x => v == x) xs) := by
    rw [fidx_any, Bool.eq_iff_iff]
    simp
  have HC := index_any u xs v w hu
  rw [hd]
  generalize fidx (fun x => v == x) xs = r at *
  clear hd
  have HC := Lib.hid HC
  by_cases h : 0 ≤ r
  · have e : decide (0 ≤ r) = true := by simpa using h
    rw [e]
    go_enter Try.func145, Try.ntmps145
    go_wp2_with fail
    refine (unhide HC).mono ?_; rintro e w' ⟨rfl, rfl⟩
    go_wp2
    go_ret
    exact ⟨rfl, rfl⟩
  · have e : decide (0 ≤ r) = false := by simpa using h
    rw [e]
    go_enter Try.func145, Try.ntmps145
    go_wp2_with fail
    refine (unhide HC).mono ?_; rintro e w' ⟨rfl, rfl⟩
    go_wp2
    go_ret
    exact ⟨rfl, rfl⟩

set_option maxHeartbeats 400000 in
/-- IndexFunc at a closure of two captured variables, of which the contract is known in every world that is as this one was. -/
theorem indexFunc_any (p1 p2 : Value) (p : Int → Bool) (u : Value) (xs : List Int) (w : World) (hu : SlI w w.heap.size u xs)
    (hF : ∀ (W : World) (x : Int), Below w.heap.size w W → Calls Try.prog 195 #[.int .i64 x, p1, p2] W fun e w' => e = .returned (.bool (p x)) ∧ Below W.heap.size W w') :
    Calls Try.prog 216 #[u, .func (Fn.func 195) #[] #[p1, p2]] w fun e w' => e = .returned (.int .i64 (fidx p xs)) ∧ Below w.heap.size w w' := by
  obtain ⟨A, c, rfl, _, _, hn, hx⟩ := hu.open_
  clear hu
  have HF := Lib.hid hF
  clear hF
  go_enter Try.func216, Try.ntmps216
  go_wp2
  go_loopw [8] (fun i wr => ∃ k : Nat, k ≤ xs.length ∧ i = .int .i64 k ∧ Below w.heap.size w wr ∧ Hid (∀ y ∈ xs.take k, p y = false)) (fun i _ => xs.length - (intOf i).toNat)
  case atStart => exact ⟨0, Nat.zero_le _, rfl, Below.refl _ _, by intro y hy; simp at hy⟩
  case round =>
    obtain ⟨k, hk, rfl, hbel, hno⟩ := hrel
    by_cases hlt : k < xs.length
    · obtain ⟨b, o, x, rfl, hb, HX, c1, _⟩ := SlI.at_ hx hlt
      have d1 := bcell hbel hb c1
      clear hx c1
      have HC := HF.out wr x hbel
      obtain ⟨B, hB⟩ : ∃ B, p x = B := ⟨_, rfl⟩
      rw [hB] at HC
      have HC := Lib.hid HC
      have HB := Lib.hid hB
      clear hB
      cases B
      · go_wp2_with fail
        refine (unhide HC).mono ?_; rintro e w1 ⟨rfl, hb1⟩
        go_wp2
        go_roundw
        case rel =>
          refine ⟨k + 1, by omega, by go_num, hbel.trans (hb1.mono hbel.size), fun y hy => ?_⟩
          rw [take_snoc HX.out, List.mem_append, List.mem_singleton] at hy
          rcases hy with hy | rfl
          · exact hno.out y hy
          · exact HB.out
        case measure => simp [intOf]; omega
      · have hfin := Lib.hid (fidx_some HX.out HB.out hno.out)
        go_wp2_with fail
        refine (unhide HC).mono ?_; rintro e w1 ⟨rfl, hb1⟩
        go_wp2
        go_ret
        exact ⟨by rw [hfin.out]; rfl, hbel.trans (hb1.mono hbel.size)⟩
    · go_wp2
      go_ret
      have h1 := hno.out
      rw [List.take_of_length_le (by omega)] at h1
      exact ⟨by rw [fidx_none h1]; rfl, hbel⟩

theorem containsFunc_any (p1 p2 : Value) (p : Int → Bool) (u : Value) (xs : List Int) (w : World) (hu : SlI w w.heap.size u xs)
    (hF : ∀ (W : World) (x : Int), Below w.heap.size w W → Calls Try.prog 195 #[.int .i64 x, p1, p2] W fun e w' => e = .returned (.bool (p x)) ∧ Below W.heap.size W w') :
    Calls Try.prog 194 #[u, .func (Fn.func 195) #[] #[p1, p2]] w fun e w' => e = .returned (.bool (xs.any p)) ∧ Below w.heap.size w w' := by
  have hd := fidx_any p xs
  have HC := indexFunc_any p1 p2 p u xs w hu hF
  rw [← hd]
  generalize fidx p xs = r at *
  clear hd hF
  have HC := Lib.hid HC
  by_cases h : 0 ≤ r
  · have e : decide (0 ≤ r) = true := by simpa using h
    rw [e]
    go_enter Try.func194, Try.ntmps194
    go_wp2_with fail
    refine (unhide HC).mono ?_; rintro e w1 ⟨rfl, hb1⟩
    go_wp2
    go_ret
    exact ⟨rfl, hb1⟩
  · have e : decide (0 ≤ r) = false := by simpa using h
    rw [e]
    go_enter Try.func194, Try.ntmps194
    go_wp2_with fail
    refine (unhide HC).mono ?_; rintro e w1 ⟨rfl, hb1⟩
    go_wp2
    go_ret
    exact ⟨rfl, hb1⟩

/-- the closure of allWithin -/
theorem allWithin1_any (g1 g2 : Nat) (lo hi x : Int) (W : World) (h1 : W.cell? ⟨g1, 0, none⟩ = some (.int .i64 lo)) (h2 : W.cell? ⟨g2, 0, none⟩ = some (.int .i64 hi)) :
    Calls Try.prog 195 #[.int .i64 x, .pointer (some ⟨g1, 0, none⟩), .pointer (some ⟨g2, 0, none⟩)] W fun e w' => e = .returned (.bool (!inR x lo hi)) ∧ Below W.heap.size W w' := by
  go_enter Try.func195, Try.ntmps195
  go_wp2_with fail
  refine (within_any _ _ _ _).mono ?_; rintro e w' ⟨rfl, rfl⟩
  go_wp2
  go_ret
  exact ⟨rfl, Below.refl _ _⟩

/-- Whether all numbers of a list lie in a range. -/
def allR (l : List Int) (lo hi : Int) : Bool := l.all fun x => inR x lo hi
theorem allR_t {l : List Int} {lo hi : Int} : allR l lo hi = true ↔ ∀ x ∈ l, lo ≤ x ∧ x ≤ hi := by simp [allR, inR]
theorem allWithin_any (u : Value) (xs : List Int) (lo hi : Int) (w : World) (hu : SlI w w.heap.size u xs) :
    Calls Try.prog 146 #[u, .int .i64 lo, .int .i64 hi] w fun e w' => e = .returned (.bool (allR xs lo hi)) ∧ Below w.heap.size w w' := by
  obtain ⟨W, hW⟩ : ∃ W, W = (w.alloc (.cells #[.int .i64 lo] 3)).alloc (.cells #[.int .i64 hi] 3) := ⟨_, rfl⟩
  have g0 : Below w.heap.size w W := by rw [hW]; exact ((Below.refl _ _).alloc (Nat.le_refl _) _).alloc (by simp) _
  have k1 : Blk W w.heap.size 3 #[.int .i64 lo] := by rw [hW]; exact (Blk.new _ _ _).alloc _
  have k2 : Blk W (w.heap.size + 1) 3 #[.int .i64 hi] := by
    rw [hW]
    have := Blk.new (w.alloc (.cells #[.int .i64 lo] 3)) 3 #[.int .i64 hi]
    simpa only [World.size_alloc] using this
  have HC := containsFunc_any (.pointer (some ⟨w.heap.size, 0, none⟩)) (.pointer (some ⟨w.heap.size + 1, 0, none⟩)) (fun x => !inR x lo hi) u xs W (SlI.next g0 hu) (fun W' x hb =>
    allWithin1_any _ _ lo hi x W' ((k1.below hb k1.lt).cell' (i := 0) rfl) ((k2.below hb k2.lt).cell' (i := 0) rfl))
  have e : allR xs lo hi = !(xs.any fun x => !inR x lo hi) := by simp [allR, List.any_eq_not_all_not]
  rw [e]
  generalize (xs.any fun x => !inR x lo hi) = B at *
  obtain ⟨A, c, rfl, _, _, _, _⟩ := hu.open_
  clear hu e k1 k2
  have HC := Lib.hid HC
  have hmf : ∀ (fn : Fn) (first cap : Array Value) (w : World), (Instr.makeFunc fn first cap).run Try.prog w = .ok (.func fn first cap) w := fun _ _ _ _ => rfl
  go_enter Try.func146, Try.ntmps146
  go_wp2_with fail
  rw [← hW]
  refine (unhide HC).mono ?_; rintro e w1 ⟨rfl, hb1⟩
  go_wp2
  go_ret
  exact ⟨rfl, bthen g0 hb1⟩

/-- sums that wrap -/
def sumW (l : List Int) : Int := l.foldl (fun s x => wrap64 (s + x)) 0
theorem sumW_snoc (l : List Int) (x : Int) : sumW (l ++ [x]) = wrap64 (sumW l + x) := by simp [sumW]
theorem foldW (lo hi : Int) (h0 : lo ≤ 0) (h1 : 0 ≤ hi) : ∀ (l : List Int) (acc : Int) (m : Nat), (∀ x ∈ l, lo ≤ x ∧ x ≤ hi) → lo * m ≤ acc → acc ≤ hi * m → hi * ((m + l.length : Nat) : Int) ≤ 9223372036854775807 → -9223372036854775808 ≤ lo * ((m + l.length : Nat) : Int) →
    l.foldl (fun s x => wrap64 (s + x)) acc = acc + l.sum ∧ lo * ((m + l.length : Nat) : Int) ≤ acc + l.sum ∧ acc + l.sum ≤ hi * ((m + l.length : Nat) : Int)
  | [], acc, m, _, ha, hb, _, _ => by simp; exact ⟨ha, hb⟩
  | x :: l, acc, m, hl, ha, hb, hc, hd => by
    obtain ⟨hx1, hx2⟩ := hl x (by simp)
    have e : ((m + (x :: l).length : Nat) : Int) = (((m + 1) + l.length : Nat) : Int) := by simp; omega
    rw [e] at hc hd ⊢
    have m1 : lo * ((m + 1 : Nat) : Int) = lo * m + lo := by rw [Int.natCast_add, Int.mul_add]; simp
    have m2 : hi * ((m + 1 : Nat) : Int) = hi * m + hi := by rw [Int.natCast_add, Int.mul_add]; simp
    have n1 : lo * (((m + 1) + l.length : Nat) : Int) ≤ lo * ((m + 1 : Nat) : Int) := Int.mul_le_mul_of_nonpos_left h0 (by omega)
    have n2 : hi * ((m + 1 : Nat) : Int) ≤ hi * (((m + 1) + l.length : Nat) : Int) := Int.mul_le_mul_of_nonneg_left (by omega) h1
    have hw : wrap64 (acc + x) = acc + x := IntWalk.wrap64_in _ ⟨by omega, by omega⟩
    have ih := foldW lo hi h0 h1 l (acc + x) (m + 1) (fun y hy => hl y (by simp [hy])) (by omega) (by omega) hc hd
    rw [List.foldl_cons, hw, List.sum_cons]
    rw [← Int.add_assoc]
    exact ih
theorem sumW_small (l : List Int) (lo hi : Int) (h0 : lo ≤ 0) (h1 : 0 ≤ hi) (hl : ∀ x ∈ l, lo ≤ x ∧ x ≤ hi) (hb : hi * l.length ≤ 9223372036854775807) (hb' : -9223372036854775808 ≤ lo * l.length) : sumW l = l.sum ∧ lo * l.length ≤ l.sum ∧ l.sum ≤ hi * l.length := by
  have := foldW lo hi h0 h1 l 0 0 hl (by simp) (by simp) (by simpa using hb) (by simpa using hb')
  simpa [sumW] using this
set_option maxHeartbeats 400000 in
theorem sumOf_any (u : Value) (xs : List Int) (w : World) (hu : SlI w w.heap.size u xs) :
    Calls Try.prog 144 #[u] w fun e w' => e = .returned (.int .i64 (sumW xs)) ∧ w' = w := by
  obtain ⟨A, c, rfl, _, _, hn, hx⟩ := hu.open_
  clear hu
  go_enter Try.func144, Try.ntmps144
  go_wp2
  go_loop [3, 8] (fun s i => ∃ k : Nat, k ≤ xs.length ∧ i = .int .i64 k ∧ s = .int .i64 (sumW (xs.take k))) (fun _ i => xs.length - (intOf i).toNat)
  case atStart => exact ⟨0, Nat.zero_le _, rfl, rfl⟩
  case round =>
    obtain ⟨k, hk, rfl, rfl⟩ := hrel
    by_cases hlt : k < xs.length
    · obtain ⟨b, o, x, rfl, hb, HX, c1, _⟩ := SlI.at_ hx hlt
      clear hx
      have HS := Lib.hid (show sumW (xs.take (k + 1)) = wrap64 (sumW (xs.take k) + x) by rw [take_snoc HX.out, sumW_snoc])
      generalize sumW (xs.take k) = s at *
      go_wp2
      go_round
      case rel => exact ⟨k + 1, by omega, by go_num, by rw [HS.out]⟩
      case measure => simp [intOf]; omega
    · go_wp2
      go_ret
      exact ⟨by rw [List.take_of_length_le (by omega)]; rfl, rfl⟩
end Go.Proofs.Ytjhllgldllbaaaa

/- The two IsQuiver. -/
namespace Go.Proofs.Ytjhllgldllbaaaa
set_option linter.unusedVariables false
set_option linter.unusedSimpArgs false
open Go.RowKit

/-- A valid quiver. -/
def isQ (q : Qv) : Bool := inR q.v 1 5 && decide (q.f.length = q.t.length) && decide (q.f.length ≤ 6) && allR q.f 0 (q.v - 1) && allR q.t 0 (q.v - 1)

theorem isQ_t {q : Qv} : isQ q = true ↔ (1 ≤ q.v ∧ q.v ≤ 5) ∧ q.f.length = q.t.length ∧ q.f.length ≤ 6 ∧ (∀ x ∈ q.f, 0 ≤ x ∧ x ≤ q.v - 1) ∧ (∀ x ∈ q.t, 0 ≤ x ∧ x ≤ q.v - 1) := by
  simp only [isQ, Bool.and_eq_true, inR_t, allR_t, decide_eq_true_eq, and_assoc]

set_option maxHeartbeats 800000 in
theorem implIsQuiver_any (u : Value) (q : Qv) (w : World) (hu : QvR w w.heap.size u q) :
    Calls Try.prog 122 #[u] w fun e w' => e = .returned (.bool (isQ q)) ∧ Below w.heap.size w w' := by
  obtain ⟨A, c, C, d, rfl, hf, ht, hr, lf, lt⟩ := hu.open_
  clear hu
  obtain ⟨W, hW⟩ : ∃ W, W = w.alloc (.cells #[.int .i64 q.v, .slice A q.f.length c, .slice C q.t.length d] 26) := ⟨_, rfl⟩
  have g0 : Below w.heap.size w W := by rw [hW]; exact below_alloc _ _
  have kB : Blk W w.heap.size 26 #[.int .i64 q.v, .slice A q.f.length c, .slice C q.t.length d] := by rw [hW]; exact Blk.new _ _ _
  have c0 := kB.cell' (i := 0) rfl
  have c1 := kB.cell' (i := 1) rfl
  have c2 := kB.cell' (i := 2) rfl
  unfold isQ
  rcases h1 : inR q.v 1 5 with _ | _
  · go_enter Try.func122, Try.ntmps122
    go_wp2_with fail
    rw [← hW]; clear hW
    refine (within_any _ _ _ _).mono ?_; rintro e w' ⟨rfl, rfl⟩
    rw [h1]
    go_wp2
    go_ret
    exact ⟨rfl, g0⟩
  have hb := inR_t.1 h1
  obtain ⟨hb1, hb2⟩ := hb
  by_cases h2 : q.f.length = q.t.length
  · have e2 : ((q.f.length : Int) == q.t.length) = true := by rw [beq_iff_eq]; omega
    by_cases h3 : q.f.length ≤ 6
    · have e3 : decide (q.f.length ≤ 6) = true := by simpa using h3
      have e2' : decide (q.f.length = q.t.length) = true := by simpa using h2
      rw [e2', e3]
      clear h2 e2' e3
      obtain ⟨B1, hB1⟩ : ∃ B, allR q.f 0 (q.v - 1) = B := ⟨_, rfl⟩
      obtain ⟨B2, hB2⟩ : ∃ B, allR q.t 0 (q.v - 1) = B := ⟨_, rfl⟩
      rw [hB1, hB2]
      have HB1 := Lib.hid hB1
      have HB2 := Lib.hid hB2
      clear hB1 hB2
      cases B1
      · go_enter Try.func122, Try.ntmps122
        go_wp2_with fail
        rw [← hW]; clear hW
        refine (within_any _ _ _ _).mono ?_; rintro e w' ⟨rfl, rfl⟩
        rw [h1]
        go_wp2_with fail
        refine (allWithin_any _ q.f _ _ _ (SlI.next g0 hf)).mono ?_; rintro e w1 ⟨rfl, hb1⟩
        rw [HB1.out]
        go_wp2
        go_ret
        exact ⟨rfl, bthen g0 hb1⟩
      · go_enter Try.func122, Try.ntmps122
        go_wp2_with fail
        rw [← hW]; clear hW
        refine (within_any _ _ _ _).mono ?_; rintro e w' ⟨rfl, rfl⟩
        rw [h1]
        go_wp2_with fail
        refine (allWithin_any _ q.f _ _ _ (SlI.next g0 hf)).mono ?_; rintro e w1 ⟨rfl, hb1⟩
        rw [HB1.out]
        have d0 := (kB.call hb1).cell' (i := 0) rfl
        have d2 := (kB.call hb1).cell' (i := 2) rfl
        have g1 := bthen g0 hb1
        clear c0 c1 c2
        go_wp2_with fail
        refine (allWithin_any _ q.t _ _ _ (SlI.next g1 ht)).mono ?_; rintro e w2 ⟨rfl, hb2⟩
        rw [HB2.out]
        go_wp2
        go_ret
        exact ⟨rfl, bthen g1 hb2⟩
    · have e3 : decide (q.f.length ≤ 6) = false := by simpa using h3
      rw [e3]
      have e3' : ¬ ((q.f.length : Int) ≤ 6) := by omega
      clear h2
      simp only [Bool.and_false, Bool.false_and]
      go_enter Try.func122, Try.ntmps122
      go_wp2_with fail
      rw [← hW]; clear hW
      refine (within_any _ _ _ _).mono ?_; rintro e w' ⟨rfl, rfl⟩
      rw [h1]
      go_wp2
      go_ret
      exact ⟨rfl, g0⟩
  · have e2 : ((q.f.length : Int) == q.t.length) = false := by rw [beq_eq_false_iff_ne]; omega
    have e2' : decide (q.f.length = q.t.length) = false := by simpa using h2
    rw [e2']
    simp only [Bool.and_false, Bool.false_and]
    go_enter Try.func122, Try.ntmps122
    go_wp2_with fail
    rw [← hW]; clear hW
    refine (within_any _ _ _ _).mono ?_; rintro e w' ⟨rfl, rfl⟩
    rw [h1]
    go_wp2
    go_ret
    exact ⟨rfl, g0⟩

/-- what the reference's loop has met -/
def okTo (q : Qv) (k : Nat) : Prop := (∀ x ∈ q.f.take k, inR x 0 (wrap64 (q.v - 1)) = true) ∧ ∀ x ∈ q.t.take k, inR x 0 (wrap64 (q.v - 1)) = true
theorem isQ_bad {q : Qv} {x : Int} (hx : x ∈ q.f ∨ x ∈ q.t) (hr : inR x 0 (wrap64 (q.v - 1)) = false) : isQ q = false := by
  by_cases h : isQ q = true
  · obtain ⟨hv, _, _, hf, ht⟩ := isQ_t.1 h
    have e : wrap64 (q.v - 1) = q.v - 1 := IntWalk.wrap64_in _ ⟨by omega, by omega⟩
    rw [e, inR_f] at hr
    rcases hx with hx | hx
    · exact absurd (hf x hx) hr
    · exact absurd (ht x hx) hr
  · simpa using h
theorem isQ_end {q : Qv} {k : Nat} (h : okTo q k) (hk : ¬ (k < q.f.length ∧ k < q.t.length)) : isQ q = (inR q.v 1 5 && decide (q.f.length ≤ 6) && decide (q.t.length = q.f.length)) := by
  rw [Bool.eq_iff_iff, isQ_t]
  simp only [Bool.and_eq_true, inR_t, decide_eq_true_eq]
  constructor
  · rintro ⟨h1, h2, h3, _⟩
    exact ⟨⟨h1, h3⟩, h2.symm⟩
  · rintro ⟨⟨h1, h3⟩, h2⟩
    have e : wrap64 (q.v - 1) = q.v - 1 := IntWalk.wrap64_in _ ⟨by omega, by omega⟩
    unfold okTo at h
    rw [e, List.take_of_length_le (by omega), List.take_of_length_le (by omega)] at h
    exact ⟨h1, h2.symm, h3, fun x hx => inR_t.1 (h.1 x hx), fun x hx => inR_t.1 (h.2 x hx)⟩
theorem okTo_step {q : Qv} {k : Nat} {x y : Int} (h : okTo q k) (hx : q.f[k]? = some x) (hy : q.t[k]? = some y) (h1 : inR x 0 (wrap64 (q.v - 1)) = true) (h2 : inR y 0 (wrap64 (q.v - 1)) = true) : okTo q (k + 1) := by
  refine ⟨fun z hz => ?_, fun z hz => ?_⟩
  · rw [take_snoc hx, List.mem_append, List.mem_singleton] at hz
    rcases hz with hz | rfl
    · exact h.1 z hz
    · exact h1
  · rw [take_snoc hy, List.mem_append, List.mem_singleton] at hz
    rcases hz with hz | rfl
    · exact h.2 z hz
    · exact h2

set_option maxHeartbeats 1600000 in
theorem specIsQuiver_any (u : Value) (q : Qv) (w : World) (hu : QvR w w.heap.size u q) :
    Calls Try.prog 119 #[u] w fun e w' => e = .returned (.bool (isQ q)) ∧ Below w.heap.size w w' := by
  obtain ⟨A, c, C, d, rfl, hf, ht, hr, lf, lt⟩ := hu.open_
  clear hu
  have g0 : Below w.heap.size w (w.alloc (.cells #[.int .i64 q.v, .slice A q.f.length c, .slice C q.t.length d] 26)) := below_alloc _ _
  have kB := Blk.new w 26 #[.int .i64 q.v, .slice A q.f.length c, .slice C q.t.length d]
  go_enter Try.func119, Try.ntmps119
  go_wp2
  go_loopw [3] (fun i wr => ∃ k : Nat, k ≤ q.f.length ∧ i = .int .i64 k ∧ Below w.heap.size w wr ∧ Blk wr w.heap.size 26 #[.int .i64 q.v, .slice A q.f.length c, .slice C q.t.length d] ∧ Hid (okTo q k)) (fun i _ => q.f.length - (intOf i).toNat)
  case atStart => exact ⟨0, Nat.zero_le _, rfl, g0, kB, by intro x hx; simp at hx, by intro x hx; simp at hx⟩
  case round =>
    clear g0 kB
    obtain ⟨k, hk, rfl, hbel, kB, hok⟩ := hrel
    have c0 := kB.cell' (i := 0) rfl
    have c1 := kB.cell' (i := 1) rfl
    have c2 := kB.cell' (i := 2) rfl
    by_cases hlt : k < q.f.length ∧ k < q.t.length
    · obtain ⟨hlt1, hlt2⟩ := hlt
      obtain ⟨b, o, x, rfl, hb, HX, x1, _⟩ := SlI.at_ hf hlt1
      obtain ⟨b', o', y, rfl, hb', HY, y1, _⟩ := SlI.at_ ht hlt2
      have s := hbel.size
      have d0 := InB.cell kB.lt c0
      have d1 := InB.cell kB.lt c1
      have d2 := InB.cell kB.lt c2
      have d3 := InB.cell (by omega) (bcell hbel hb x1)
      have d4 := InB.cell (by omega) (bcell hbel hb' y1)
      obtain ⟨u, hU⟩ : ∃ u, wrap64 (q.v - 1) = u := ⟨_, rfl⟩
      have HU := Lib.hid hU
      clear x1 y1 hf ht c0
      rcases hB1 : inR x 0 u with _ | _
      · have hfin := Lib.hid (isQ_bad (q := q) (.inl (List.mem_of_getElem? HX.out)) (by rw [HU.out]; exact hB1))
        go_wp2
        (refine wp_region_inB (by kernel_rfl) (by kernel_rfl) ?_; (repeat (go_big_quiet_step ((go_at_call 61; exact InB.call_same (l1In_any _ _ _ _))))); refine wpQuiet_nil ?_; intro w1 hw'; obtain ⟨s1, hw1⟩ := hw'; have hb1 := s1.below; rw [← hw1] at hb1; clear hw1 s1)
        go_wp2
        go_ret
        exact ⟨by rw [hfin.out]; rfl, hbel.trans (hb1.mono s)⟩
      · rcases hB2 : inR y 0 u with _ | _
        · have hfin := Lib.hid (isQ_bad (q := q) (.inr (List.mem_of_getElem? HY.out)) (by rw [HU.out]; exact hB2))
          go_wp2
          (refine wp_region_inB (by kernel_rfl) (by kernel_rfl) ?_; (repeat (go_big_quiet_step ((go_at_call 61; exact InB.call_same (l1In_any _ _ _ _))))); refine wpQuiet_nil ?_; intro w1 hw'; obtain ⟨s1, hw1⟩ := hw'; have hb1 := s1.below; rw [← hw1] at hb1; clear hw1 s1)
          go_wp2
          go_ret
          exact ⟨by rw [hfin.out]; rfl, hbel.trans (hb1.mono s)⟩
        · go_wp2
          (refine wp_region_inB (by kernel_rfl) (by kernel_rfl) ?_; (repeat (go_big_quiet_step ((go_at_call 61; exact InB.call_same (l1In_any _ _ _ _))))); refine wpQuiet_nil ?_; intro w1 hw'; obtain ⟨s1, hw1⟩ := hw'; have hb1 := s1.below; rw [← hw1] at hb1; clear hw1 s1)
          go_wp2
          go_roundw
          case rel => exact ⟨k + 1, by omega, by go_num, hbel.trans (hb1.mono s), kB.call hb1, okTo_step hok.out HX.out HY.out (by rw [HU.out]; exact hB1) (by rw [HU.out]; exact hB2)⟩
          case measure => simp [intOf]; omega
    · have hE := isQ_end hok.out hlt
      have hx : k < q.f.length → ¬ k < q.t.length := fun a b => hlt ⟨a, b⟩
      clear hlt hf ht
      rcases hB1 : inR q.v 1 5 with _ | _
      · rw [hB1] at hE
        have hfin := Lib.hid hE
        clear hE
        by_cases ha : k < q.f.length
        all_goals
          first | have hb := hx ha | skip
          clear hx
          go_wp2_with (go_at_call 61; refine (l1In_any _ _ _ _).mono ?_; rintro e w' ⟨rfl, rfl⟩; rw [hB1])
          go_ret
          exact ⟨by rw [hfin.out]; rfl, hbel⟩
      · rw [hB1] at hE
        by_cases h6 : q.f.length ≤ 6
        · by_cases hl : q.t.length = q.f.length
          · have hfin : Hid (isQ q = true) := by show _ = _; rw [hE]; simp [h6, hl]
            have he : ((q.t.length : Int) == q.f.length) = true := by rw [beq_iff_eq]; omega
            have h6' : (q.f.length : Int) ≤ 6 := by omega
            clear hE hl
            by_cases ha : k < q.f.length
            all_goals
              first | have hb := hx ha | skip
              clear hx
              go_wp2_with (go_at_call 61; refine (l1In_any _ _ _ _).mono ?_; rintro e w' ⟨rfl, rfl⟩; rw [hB1])
              go_ret
              exact ⟨by rw [hfin.out]; rfl, hbel⟩
          · have hfin : Hid (isQ q = false) := by show _ = _; rw [hE]; simp [hl]
            have he : ((q.t.length : Int) == q.f.length) = false := by rw [beq_eq_false_iff_ne]; omega
            have h6' : (q.f.length : Int) ≤ 6 := by omega
            clear hE hl
            by_cases ha : k < q.f.length
            all_goals
              first | have hb := hx ha | skip
              clear hx
              go_wp2_with (go_at_call 61; refine (l1In_any _ _ _ _).mono ?_; rintro e w' ⟨rfl, rfl⟩; rw [hB1])
              go_ret
              exact ⟨by rw [hfin.out]; rfl, hbel⟩
        · have hfin : Hid (isQ q = false) := by show _ = _; rw [hE]; simp [h6]
          have h6' : ¬ ((q.f.length : Int) ≤ 6) := by omega
          clear hE h6
          by_cases ha : k < q.f.length
          all_goals
            first | have hb := hx ha | skip
            clear hx
            go_wp2_with (go_at_call 61; refine (l1In_any _ _ _ _).mono ?_; rintro e w' ⟨rfl, rfl⟩; rw [hB1])
            go_ret
            exact ⟨by rw [hfin.out]; rfl, hbel⟩
end Go.Proofs.Ytjhllgldllbaaaa

/- Fields, vectors, matrices, dimensions: the tests of both sides. -/
namespace Go.Proofs.Ytjhllgldllbaaaa
set_option linter.unusedVariables false
set_option linter.unusedSimpArgs false
open Go.RowKit

def isFld (p : Int) : Bool := decide (p = 2 ∨ p = 3 ∨ p = 5)
theorem isFld_t {p : Int} : isFld p = true ↔ p = 2 ∨ p = 3 ∨ p = 5 := by simp [isFld]
theorem isFld_f {p : Int} : isFld p = false ↔ p ≠ 2 ∧ p ≠ 3 ∧ p ≠ 5 := by simp [isFld]
theorem isFld_r {p : Int} (h : isFld p = true) : 2 ≤ p ∧ p ≤ 5 := by have := isFld_t.1 h; omega
def isVec (p : Int) (v : List Int) : Bool := isFld p && decide (v.length ≤ 64) && allR v 0 (p - 1)
theorem isVec_t {p : Int} {v : List Int} : isVec p v = true ↔ isFld p = true ∧ v.length ≤ 64 ∧ ∀ x ∈ v, 0 ≤ x ∧ x ≤ p - 1 := by
  simp only [isVec, Bool.and_eq_true, decide_eq_true_eq, allR_t, and_assoc]
def isMat (p : Int) (m : Mx) : Bool := inR m.r 0 8 && inR m.c 0 8 && decide ((m.a.length : Int) = m.r * m.c) && isVec p m.a
theorem isMat_t {p : Int} {m : Mx} : isMat p m = true ↔ (0 ≤ m.r ∧ m.r ≤ 8) ∧ (0 ≤ m.c ∧ m.c ≤ 8) ∧ (m.a.length : Int) = m.r * m.c ∧ isVec p m.a = true := by
  simp only [isMat, Bool.and_eq_true, inR_t, decide_eq_true_eq, and_assoc]
def areDims (q : Qv) (d : List Int) : Bool := isQ q && decide ((d.length : Int) = q.v) && allR d 0 4 && decide (d.sum ≤ 8)
theorem areDims_t {q : Qv} {d : List Int} : areDims q d = true ↔ isQ q = true ∧ (d.length : Int) = q.v ∧ (∀ x ∈ d, 0 ≤ x ∧ x ≤ 4) ∧ d.sum ≤ 8 := by
  simp only [areDims, Bool.and_eq_true, decide_eq_true_eq, allR_t, and_assoc]
theorem mul_bd {a b : Int} (ha : 0 ≤ a ∧ a ≤ 8) (hb : 0 ≤ b ∧ b ≤ 8) : 0 ≤ a * b ∧ a * b ≤ 64 := by
  obtain ⟨n, rfl⟩ := Int.eq_ofNat_of_zero_le ha.1
  obtain ⟨m, rfl⟩ := Int.eq_ofNat_of_zero_le hb.1
  have h1 : n * m ≤ 8 * 8 := Nat.mul_le_mul (by omega) (by omega)
  have e : (n : Int) * m = ((n * m : Nat) : Int) := by simp
  rw [e]
  omega

theorem implIsField_any (p : Int) (w : World) : Calls Try.prog 63 #[.int .i64 p] w fun e w' => e = .returned (.bool (isFld p)) ∧ w' = w := by
  by_cases h2 : p = 2
  · subst h2
    go_enter Try.func63, Try.ntmps63
    go_wp2
    go_ret
    exact ⟨rfl, rfl⟩
  by_cases h3 : p = 3
  · subst h3
    go_enter Try.func63, Try.ntmps63
    go_wp2
    go_ret
    exact ⟨rfl, rfl⟩
  by_cases h5 : p = 5
  · subst h5
    go_enter Try.func63, Try.ntmps63
    go_wp2
    go_ret
    exact ⟨rfl, rfl⟩
  have e : isFld p = false := isFld_f.2 ⟨h2, h3, h5⟩
  have e2 : (p == 2) = false := by rw [beq_eq_false_iff_ne]; exact h2
  have e3 : (p == 3) = false := by rw [beq_eq_false_iff_ne]; exact h3
  have e5 : (p == 5) = false := by rw [beq_eq_false_iff_ne]; exact h5
  rw [e]
  clear e h2 h3 h5
  go_enter Try.func63, Try.ntmps63
  go_wp2
  go_ret
  exact ⟨rfl, rfl⟩
theorem specIsField_any (p : Int) (w : World) : Calls Try.prog 59 #[.int .i64 p] w fun e w' => e = .returned (.bool (isFld p)) ∧ w' = w := by
  by_cases h2 : p = 2
  · subst h2
    go_enter Try.func59, Try.ntmps59
    go_wp2
    go_ret
    exact ⟨rfl, rfl⟩
  by_cases h3 : p = 3
  · subst h3
    go_enter Try.func59, Try.ntmps59
    go_wp2
    go_ret
    exact ⟨rfl, rfl⟩
  by_cases h5 : p = 5
  · subst h5
    go_enter Try.func59, Try.ntmps59
    go_wp2
    go_ret
    exact ⟨rfl, rfl⟩
  have e : isFld p = false := isFld_f.2 ⟨h2, h3, h5⟩
  have e2 : (p == 2) = false := by rw [beq_eq_false_iff_ne]; exact h2
  have e3 : (p == 3) = false := by rw [beq_eq_false_iff_ne]; exact h3
  have e5 : (p == 5) = false := by rw [beq_eq_false_iff_ne]; exact h5
  rw [e]
  clear e h2 h3 h5
  go_enter Try.func59, Try.ntmps59
  go_wp2
  go_ret
  exact ⟨rfl, rfl⟩

theorem implIsVector_any (p : Int) (u : Value) (v : List Int) (w : World) (hu : SlI w w.heap.size u v) :
    Calls Try.prog 208 #[.int .i64 p, u] w fun e w' => e = .returned (.bool (isVec p v)) ∧ Below w.heap.size w w' := by
  have hv := hu
  obtain ⟨A, c, rfl, _, _, _, _⟩ := hu.open_
  clear hu
  unfold isVec
  rcases h1 : isFld p with _ | _
  · go_enter Try.func208, Try.ntmps208
    go_wp2_with fail
    refine (implIsField_any _ _).mono ?_; rintro e w' ⟨rfl, rfl⟩
    rw [h1]
    go_wp2
    go_ret
    exact ⟨rfl, Below.refl _ _⟩
  have hp := isFld_r h1
  by_cases h2 : v.length ≤ 64
  · have e2 : decide (v.length ≤ 64) = true := by simpa using h2
    rw [e2]
    clear e2
    obtain ⟨B, hB⟩ : ∃ B, allR v 0 (p - 1) = B := ⟨_, rfl⟩
    rw [hB]
    have HB := Lib.hid hB
    clear hB
    go_enter Try.func208, Try.ntmps208
    go_wp2_with fail
    refine (implIsField_any _ _).mono ?_; rintro e w' ⟨rfl, rfl⟩
    rw [h1]
    go_wp2_with fail
    refine (allWithin_any _ v _ _ _ hv).mono ?_; rintro e w1 ⟨rfl, hb1⟩
    rw [HB.out]
    go_wp2
    go_ret
    exact ⟨rfl, hb1⟩
  · have e2 : decide (v.length ≤ 64) = false := by simpa using h2
    have e2' : ¬ ((v.length : Int) ≤ 64) := by omega
    rw [e2]
    clear e2
    go_enter Try.func208, Try.ntmps208
    go_wp2_with fail
    refine (implIsField_any _ _).mono ?_; rintro e w' ⟨rfl, rfl⟩
    rw [h1]
    go_wp2
    go_ret
    exact ⟨rfl, Below.refl _ _⟩

theorem allR_end {v : List Int} {lo hi : Int} {k : Nat} (h : ∀ x ∈ v.take k, inR x lo hi = true) (hk : v.length ≤ k) : allR v lo hi = true := by
  rw [List.take_of_length_le hk] at h
  simpa [allR] using h
theorem allR_bad {v : List Int} {lo hi x : Int} {k : Nat} (h : v[k]? = some x) (hx : inR x lo hi = false) : allR v lo hi = false := by
  rw [Bool.eq_false_iff]
  intro h2
  have := List.all_eq_true.1 h2 x (List.mem_of_getElem? h)
  rw [hx] at this
  cases this
theorem allR_step {v : List Int} {lo hi x : Int} {k : Nat} (h : ∀ x ∈ v.take k, inR x lo hi = true) (hx : v[k]? = some x) (h2 : inR x lo hi = true) : ∀ x ∈ v.take (k + 1), inR x lo hi = true := by
  intro y hy
  rw [take_snoc hx, List.mem_append, List.mem_singleton] at hy
  rcases hy with hy | rfl
  · exact h y hy
  · exact h2

set_option maxHeartbeats 400000 in
theorem specIsVector_any (p : Int) (u : Value) (v : List Int) (w : World) (hu : SlI w w.heap.size u v) :
    Calls Try.prog 207 #[.int .i64 p, u] w fun e w' => e = .returned (.bool (isVec p v)) ∧ Below w.heap.size w w' := by
  obtain ⟨A, c, rfl, _, _, _, hv⟩ := hu.open_
  clear hu
  unfold isVec
  rcases h1 : isFld p with _ | _
  · go_enter Try.func207, Try.ntmps207
    go_wp2_with fail
    refine (specIsField_any _ _).mono ?_; rintro e w ⟨rfl, rfl⟩
    rw [h1]
    go_wp2
    go_ret
    exact ⟨rfl, Below.refl _ _⟩
  have hp := isFld_r h1
  by_cases h2 : v.length ≤ 64
  · have e2 : decide (v.length ≤ 64) = true := by simpa using h2
    have e2' : ¬ ((64 : Int) < v.length) := by omega
    rw [e2]
    clear e2
    go_enter Try.func207, Try.ntmps207
    go_wp2_with fail
    refine (specIsField_any _ _).mono ?_; rintro e w ⟨rfl, rfl⟩
    rw [h1]
    go_wp2
    go_loopw [5] (fun i wr => ∃ k : Nat, k ≤ v.length ∧ i = .int .i64 k ∧ Below w.heap.size w wr ∧ Hid (∀ x ∈ v.take k, inR x 0 (p - 1) = true)) (fun i _ => v.length - (intOf i).toNat)
    case atStart => exact ⟨0, Nat.zero_le _, rfl, Below.refl _ _, by show ∀ x ∈ _, _; simp⟩
    case round =>
      obtain ⟨k, hk, rfl, hbel, hall⟩ := hrel
      by_cases hlt : k < v.length
      · obtain ⟨b, o, x, rfl, hb, HX, x1, _⟩ := SlI.at_ hv hlt
        have x2 := bcell hbel hb x1
        clear x1 hv
        rcases h3 : inR x 0 (p - 1) with _ | _
        · have HF := Lib.hid (allR_bad HX.out h3)
          have H3 := Lib.hid h3
          clear h3
          go_wp2_with fail
          refine (l1In_any _ _ _ _).mono ?_; rintro e w ⟨rfl, rfl⟩
          rw [H3.out]
          go_wp2
          go_ret
          exact ⟨by rw [HF.out]; rfl, hbel⟩
        · have HS := Lib.hid (allR_step hall.out HX.out h3)
          have H3 := Lib.hid h3
          clear h3
          go_wp2_with fail
          refine (l1In_any _ _ _ _).mono ?_; rintro e w ⟨rfl, rfl⟩
          rw [H3.out]
          go_wp2
          go_roundw
          case rel => exact ⟨k + 1, by omega, by go_num, hbel, HS.out⟩
          case measure => simp [intOf]; omega
      · have HF := Lib.hid (allR_end hall.out (by omega))
        go_wp2
        go_ret
        exact ⟨by rw [HF.out]; rfl, hbel⟩
  · have e2 : decide (v.length ≤ 64) = false := by simpa using h2
    have e2' : (64 : Int) < v.length := by omega
    rw [e2]
    clear e2
    go_enter Try.func207, Try.ntmps207
    go_wp2_with fail
    refine (specIsField_any _ _).mono ?_; rintro e w ⟨rfl, rfl⟩
    rw [h1]
    go_wp2
    go_ret
    exact ⟨rfl, Below.refl _ _⟩

set_option maxHeartbeats 800000 in
theorem implIsMatrix_any (p : Int) (u : Value) (m : Mx) (w : World) (hu : MxR w w.heap.size u m) :
    Calls Try.prog 182 #[.int .i64 p, u] w fun e w' => e = .returned (.bool (isMat p m)) ∧ Below w.heap.size w w' := by
  obtain ⟨A, c, rfl, hf, _, _, lf⟩ := hu.open_
  clear hu
  obtain ⟨W, hW⟩ : ∃ W, W = w.alloc (.cells #[.int .i64 m.r, .int .i64 m.c, .slice A m.a.length c] 75) := ⟨_, rfl⟩
  have g0 : Below w.heap.size w W := by rw [hW]; exact below_alloc _ _
  have kB : Blk W w.heap.size 75 #[.int .i64 m.r, .int .i64 m.c, .slice A m.a.length c] := by rw [hW]; exact Blk.new _ _ _
  have c0 := kB.cell' (i := 0) rfl
  have c1 := kB.cell' (i := 1) rfl
  have c2 := kB.cell' (i := 2) rfl
  replace hf := SlI.next g0 hf
  unfold isMat
  rcases h1 : inR m.r 0 8 with _ | _
  · go_enter Try.func182, Try.ntmps182
    go_wp2_with fail
    rw [← hW]; clear hW
    refine (within_any _ _ _ _).mono ?_; rintro e w' ⟨rfl, rfl⟩
    rw [h1]
    go_wp2
    go_ret
    exact ⟨rfl, g0⟩
  have b1 := inR_t.1 h1
  rcases h2 : inR m.c 0 8 with _ | _
  · go_enter Try.func182, Try.ntmps182
    go_wp2_with fail
    rw [← hW]; clear hW
    refine (within_any _ _ _ _).mono ?_; rintro e w' ⟨rfl, rfl⟩
    rw [h1]
    go_wp2_with fail
    refine (within_any _ _ _ _).mono ?_; rintro e w' ⟨rfl, rfl⟩
    rw [h2]
    go_wp2
    go_ret
    exact ⟨rfl, g0⟩
  have b2 := inR_t.1 h2
  have b3 := mul_bd b1 b2
  obtain ⟨b11, b12⟩ := b1
  obtain ⟨b21, b22⟩ := b2
  obtain ⟨b31, b32⟩ := b3
  rcases h3 : decide ((m.a.length : Int) = m.r * m.c) with _ | _
  · have e3 : ((m.a.length : Int) == m.r * m.c) = false := by rw [beq_eq_false_iff_ne]; exact of_decide_eq_false h3
    clear h3
    go_enter Try.func182, Try.ntmps182
    go_wp2_with fail
    rw [← hW]; clear hW
    refine (within_any _ _ _ _).mono ?_; rintro e w' ⟨rfl, rfl⟩
    rw [h1]
    go_wp2_with fail
    refine (within_any _ _ _ _).mono ?_; rintro e w' ⟨rfl, rfl⟩
    rw [h2]
    go_wp2
    go_ret
    exact ⟨rfl, g0⟩
  have e3 : ((m.a.length : Int) == m.r * m.c) = true := by rw [beq_iff_eq]; exact of_decide_eq_true h3
  clear h3
  obtain ⟨B, hB⟩ : ∃ B, isVec p m.a = B := ⟨_, rfl⟩
  rw [hB]
  have HB := Lib.hid hB
  clear hB
  go_enter Try.func182, Try.ntmps182
  go_wp2_with fail
  rw [← hW]; clear hW
  refine (within_any _ _ _ _).mono ?_; rintro e w' ⟨rfl, rfl⟩
  rw [h1]
  go_wp2_with fail
  refine (within_any _ _ _ _).mono ?_; rintro e w' ⟨rfl, rfl⟩
  rw [h2]
  go_wp2_with fail
  refine (implIsVector_any _ _ m.a _ hf).mono ?_; rintro e w1 ⟨rfl, hb1⟩
  rw [HB.out]
  go_wp2
  go_ret
  exact ⟨rfl, bthen g0 hb1⟩
set_option maxHeartbeats 800000 in
theorem specIsMatrix_any (p : Int) (u : Value) (m : Mx) (w : World) (hu : MxR w w.heap.size u m) :
    Calls Try.prog 180 #[.int .i64 p, u] w fun e w' => e = .returned (.bool (isMat p m)) ∧ Below w.heap.size w w' := by
  obtain ⟨A, c, rfl, hf, _, _, lf⟩ := hu.open_
  clear hu
  obtain ⟨W, hW⟩ : ∃ W, W = w.alloc (.cells #[.int .i64 m.r, .int .i64 m.c, .slice A m.a.length c] 75) := ⟨_, rfl⟩
  have g0 : Below w.heap.size w W := by rw [hW]; exact below_alloc _ _
  have kB : Blk W w.heap.size 75 #[.int .i64 m.r, .int .i64 m.c, .slice A m.a.length c] := by rw [hW]; exact Blk.new _ _ _
  have c0 := kB.cell' (i := 0) rfl
  have c1 := kB.cell' (i := 1) rfl
  have c2 := kB.cell' (i := 2) rfl
  replace hf := SlI.next g0 hf
  unfold isMat
  rcases h1 : inR m.r 0 8 with _ | _
  · go_enter Try.func180, Try.ntmps180
    go_wp2_with fail
    rw [← hW]; clear hW
    refine (l1In_any _ _ _ _).mono ?_; rintro e w' ⟨rfl, rfl⟩
    rw [h1]
    go_wp2
    go_ret
    exact ⟨rfl, g0⟩
  have b1 := inR_t.1 h1
  rcases h2 : inR m.c 0 8 with _ | _
  · go_enter Try.func180, Try.ntmps180
    go_wp2_with fail
    rw [← hW]; clear hW
    refine (l1In_any _ _ _ _).mono ?_; rintro e w' ⟨rfl, rfl⟩
    rw [h1]
    go_wp2_with fail
    refine (l1In_any _ _ _ _).mono ?_; rintro e w' ⟨rfl, rfl⟩
    rw [h2]
    go_wp2
    go_ret
    exact ⟨rfl, g0⟩
  have b2 := inR_t.1 h2
  have b3 := mul_bd b1 b2
  obtain ⟨b11, b12⟩ := b1
  obtain ⟨b21, b22⟩ := b2
  obtain ⟨b31, b32⟩ := b3
  rcases h3 : decide ((m.a.length : Int) = m.r * m.c) with _ | _
  · have e3 : ((m.a.length : Int) == m.r * m.c) = false := by rw [beq_eq_false_iff_ne]; exact of_decide_eq_false h3
    clear h3
    go_enter Try.func180, Try.ntmps180
    go_wp2_with fail
    rw [← hW]; clear hW
    refine (l1In_any _ _ _ _).mono ?_; rintro e w' ⟨rfl, rfl⟩
    rw [h1]
    go_wp2_with fail
    refine (l1In_any _ _ _ _).mono ?_; rintro e w' ⟨rfl, rfl⟩
    rw [h2]
    go_wp2
    go_ret
    exact ⟨rfl, g0⟩
  have e3 : ((m.a.length : Int) == m.r * m.c) = true := by rw [beq_iff_eq]; exact of_decide_eq_true h3
  clear h3
  obtain ⟨B, hB⟩ : ∃ B, isVec p m.a = B := ⟨_, rfl⟩
  rw [hB]
  have HB := Lib.hid hB
  clear hB
  go_enter Try.func180, Try.ntmps180
  go_wp2_with fail
  rw [← hW]; clear hW
  refine (l1In_any _ _ _ _).mono ?_; rintro e w' ⟨rfl, rfl⟩
  rw [h1]
  go_wp2_with fail
  refine (l1In_any _ _ _ _).mono ?_; rintro e w' ⟨rfl, rfl⟩
  rw [h2]
  go_wp2_with fail
  refine (specIsVector_any _ _ m.a _ hf).mono ?_; rintro e w1 ⟨rfl, hb1⟩
  rw [HB.out]
  go_wp2
  go_ret
  exact ⟨rfl, bthen g0 hb1⟩
end Go.Proofs.Ytjhllgldllbaaaa

/- Remainders; a multiple of a vector added in place. -/
namespace Go.Proofs.Ytjhllgldllbaaaa
set_option linter.unusedVariables false
set_option linter.unusedSimpArgs false
open Go.RowKit

theorem tmod_fix {p x : Int} (hp : 2 ≤ p) : (if x.tmod p < 0 then x.tmod p + p else x.tmod p) = x % p ∧ -p < x.tmod p ∧ x.tmod p < p := by
  have h1 := Int.tmod_lt_of_pos x (show 0 < p by omega)
  have h2 : -p < x.tmod p := by
    have := Int.tmod_lt_of_pos (-x) (show 0 < p by omega)
    rw [Int.neg_tmod] at this
    omega
  refine ⟨?_, h2, h1⟩
  rw [Int.tmod_eq_emod]
  have h3 := Int.emod_nonneg x (show p ≠ 0 by omega)
  have h4 := Int.emod_lt_of_pos x (show 0 < p by omega)
  have h5 : p.natAbs = p := by omega
  split
  · split <;> omega
  · rename_i h
    split <;> omega
theorem tmod_twice {p x : Int} (hp : 2 ≤ p) : (x.tmod p + p) % p = x % p := by
  rw [Int.add_emod_right, Int.emod_def, Int.emod_def x p]
  have h := (tmod_fix (x := x) hp).1
  have h4 := Int.emod_lt_of_pos x (show 0 < p by omega)
  have h3 := Int.emod_nonneg x (show p ≠ 0 by omega)
  rw [← Int.emod_def, ← Int.emod_def]
  rw [← h]
  split
  · rename_i hn
    rw [← Int.add_emod_right, Int.emod_eq_of_lt]
    · have := (tmod_fix (x := x) hp).2.1; omega
    · omega
  · rename_i hn
    exact Int.emod_eq_of_lt (by omega) (tmod_fix (x := x) hp).2.2

/-- cells off .. off + n of a row get k times another row added -/
def amF (p k : Int) (off n : Nat) (f y : Nat → Int) (i : Nat) : Int := if off ≤ i ∧ i < off + n then (f i + k * y (i - off)) % p else f i
theorem amF_0 (p k : Int) (off N : Nat) (f y : Nat → Int) : rowF N f = rowF N (amF p k off 0 f y) := rowF_congr fun i _ => by rw [amF, if_neg (by omega)]
theorem amF_succ {p k : Int} {off j N : Nat} (f y : Nat → Int) : (rowF N (amF p k off j f y)).set (off + j) ((f (off + j) + k * y j) % p) = rowF N (amF p k off (j + 1) f y) := by
  rw [rowF_set]
  refine rowF_congr fun i _ => ?_
  simp only [amF]
  by_cases h : i = off + j
  · subst h
    rw [if_pos rfl, if_pos (by omega), show off + j - off = j by omega]
  · rw [if_neg h]
    (repeat' split) <;> first | rfl | omega
theorem amF_rest {p k : Int} {off j : Nat} (f y : Nat → Int) : amF p k off j f y (off + j) = f (off + j) := by rw [amF, if_neg (by omega)]

set_option maxHeartbeats 1600000 in
theorem addMultiple_own (p k : Int) (g off n N cap ca : Nat) (lo hi : Nat) (f y : Nat → Int) (vb : Value) (w : World) (hp : 2 ≤ p ∧ p ≤ 5) (hk : 0 ≤ k ∧ k ≤ 5)
    (hown : IntsO w lo hi (.slice (some ⟨g, 0, none⟩) N cap) (rowF N f)) (hg : lo ≤ g ∧ g < hi) (hoff : off + n ≤ N) (hN : N ≤ 1000000) (hca : n ≤ ca ∧ ca ≤ 9223372036854775807)
    (hlo : lo ≤ w.heap.size) (hb : SlI w lo vb (rowF n y)) (hf : ∀ i, i < N → 0 ≤ f i ∧ f i ≤ 4) (hy : ∀ i, i < n → 0 ≤ y i ∧ y i ≤ 4) :
    Calls Try.prog 183 #[.int .i64 p, .slice (some ⟨g, off, none⟩) n ca, .int .i64 k, vb] w fun e w' => e = .returned (.slice (some ⟨g, off, none⟩) n ca) ∧ IntsO w' lo hi (.slice (some ⟨g, 0, none⟩) N cap) (rowF N (amF p k off n f y)) ∧ Chg lo hi w w' ∧ w.heap.size = w'.heap.size := by
  obtain ⟨A, c, rfl, _, _, hln, hx⟩ := hb.open_
  clear hb
  have HX := Lib.hid hx
  have HF := Lib.hid hf
  have HY := Lib.hid hy
  rw [rowF_length] at hln ⊢
  rw [amF_0 p k off N f y] at hown
  clear hx hf hy
  go_enter Try.func183, Try.ntmps183
  go_wp2
  go_loopw [13] (fun i wr => ∃ j : Nat, j ≤ n ∧ i = .int .i64 j ∧ IntsO wr lo hi (.slice (some ⟨g, 0, none⟩) N cap) (rowF N (amF p k off j f y)) ∧ Chg lo hi w wr ∧ Hid (w.heap.size = wr.heap.size)) (fun i _ => n - (intOf i).toNat)
  case atStart => exact ⟨0, Nat.zero_le _, rfl, hown, Chg.refl _ _ _, rfl⟩
  case round =>
    clear hown
    obtain ⟨j, hj, rfl, ho, hc, hsz⟩ := hrel
    by_cases hlt : j < n
    · have hx := HX.out
      rw [← rowF_length n y] at hlt
      obtain ⟨b, o, x, rfl, hbl, HXX, x1, _⟩ := SlI.at_ hx hlt
      rw [rowF_length] at hlt
      have hxx := HXX.out
      rw [rowF_get _ hlt] at hxx
      injection hxx with hxx
      subst hxx
      have x2 := bcell (hc.below (Nat.le_refl _) hlo) hbl x1
      have cA := (ho.1.cellG (j := off + j) (by rw [rowF_length]; omega)).1
      rw [rowF_getD _ (by omega), amF_rest] at cA
      have fA := ho.1.frozenG (off + j)
      have hf1 := HF.out (off + j) (by omega)
      have hy1 := HY.out j hlt
      have hst := amF_succ (p := p) (k := k) (off := off) (j := j) (N := N) f y
      obtain ⟨a, ha⟩ : ∃ a, f (off + j) = a := ⟨_, rfl⟩
      obtain ⟨z, hz⟩ : ∃ z, y j = z := ⟨_, rfl⟩
      rw [ha] at cA hf1 hst
      rw [hz] at x2 hy1 hst
      have hkz0 : 0 ≤ k * z := Int.mul_nonneg hk.1 hy1.1
      have hkz1 : k * z ≤ 5 * 4 := Int.mul_le_mul hk.2 hy1.2 hy1.1 (by omega)
      obtain ⟨K, hK⟩ : ∃ K, k * z = K := ⟨_, rfl⟩
      rw [hK] at hkz0 hkz1 hst
      have hKw : wrap64 (k * z) = K := by rw [hK]; exact IntWalk.wrap64_in _ ⟨by omega, by omega⟩
      have hr0 := Int.emod_nonneg (a + K) (show p ≠ 0 by omega)
      have hr1 := Int.emod_lt_of_pos (a + K) (show 0 < p by omega)
      have hc1 : Chg lo hi wr (wr.setCell ⟨g, off + j, none⟩ (.int .i64 ((a + K) % p))) := chg_set hg.1 hg.2
      have ho2 := ho.put (j := off + j) (x := (a + K) % p) (by simp only [I64]; omega)
      rw [hst] at ho2
      have HO2 := Lib.hid ho2
      have HC2 := Lib.hid (hc.trans hc1)
      have HS2 : Hid (w.heap.size = (wr.setCell ⟨g, off + j, none⟩ (.int .i64 ((a + K) % p))).heap.size) := by show _ = _; rw [hsz.out]; simp
      have htm : (wrap64 (a + K)).tmod p = (a + K) % p := by
        rw [IntWalk.wrap64_in _ ⟨by omega, by omega⟩]
        exact Int.tmod_eq_emod_of_nonneg (by omega)
      have htm2 : (a + K).tmod p = (a + K) % p := Int.tmod_eq_emod_of_nonneg (by omega)
      clear hst ho2 hc1 ho hc hr0 hr1 hx HXX x1 ha hz hK hkz0 hkz1
      go_wp2
      go_roundw
      case rel => exact ⟨j + 1, by omega, by go_num, HO2.out, HC2.out, HS2⟩
      case measure => simp [intOf]; omega
    · go_wp2
      go_ret
      obtain rfl : j = n := by omega
      exact ⟨rfl, ho, hc, hsz⟩
end Go.Proofs.Ytjhllgldllbaaaa

/- Elimination: plain part. -/
namespace Go.Proofs.Ytjhllgldllbaaaa
set_option linter.unusedVariables false
set_option linter.unusedSimpArgs false
open Go.RowKit

/-- the first row from a on, below a + m, whose number in column k is not 0; a + m if there is none -/
def nzGo (f : Nat → Nat → Int) (k : Nat) : Nat → Nat → Nat
  | a, 0 => a
  | a, m + 1 => if f a k = 0 then nzGo f k (a + 1) m else a
def nzF (f : Nat → Nat → Int) (k n r : Nat) : Nat := nzGo f k n (r - n)
theorem nzGo_le (f : Nat → Nat → Int) (k : Nat) : ∀ m a, a ≤ nzGo f k a m ∧ nzGo f k a m ≤ a + m
  | 0, a => by simp [nzGo]
  | m + 1, a => by
    have h := nzGo_le f k m (a + 1)
    simp only [nzGo]
    split <;> omega
theorem nzF_le {f : Nat → Nat → Int} {k n r : Nat} (h : n ≤ r) : n ≤ nzF f k n r ∧ nzF f k n r ≤ r := by
  have := nzGo_le f k (r - n) n
  unfold nzF; omega
theorem nzGo_eq {f : Nat → Nat → Int} {k : Nat} : ∀ {m a b}, a ≤ b → b ≤ a + m → (∀ i, a ≤ i → i < b → f i k = 0) → (b < a + m → f b k ≠ 0) → nzGo f k a m = b
  | 0, a, b, h1, h2, _, _ => by simp only [nzGo]; omega
  | m + 1, a, b, h1, h2, h3, h4 => by
    simp only [nzGo]
    by_cases e : a = b
    · subst e
      rw [if_neg (h4 (by omega))]
    · rw [if_pos (h3 a (Nat.le_refl _) (by omega))]
      exact nzGo_eq (by omega) (by omega) (fun i hi hb => h3 i (by omega) hb) (fun h => h4 (by omega))
theorem nzF_eq {f : Nat → Nat → Int} {k n r b : Nat} (h1 : n ≤ b) (h2 : b ≤ r) (h3 : ∀ i, n ≤ i → i < b → f i k = 0) (h4 : b < r → f b k ≠ 0) : nzF f k n r = b :=
  nzGo_eq h1 (by omega) h3 (fun h => h4 (by omega))
theorem nzGo_ne {f : Nat → Nat → Int} {k : Nat} : ∀ {m a}, nzGo f k a m < a + m → f (nzGo f k a m) k ≠ 0
  | 0, a, h => by simp only [nzGo] at h; omega
  | m + 1, a, h => by
    simp only [nzGo] at h ⊢
    split
    · rename_i h0
      rw [if_pos h0] at h
      exact nzGo_ne (by omega)
    · rename_i h0; exact h0
theorem nzF_ne {f : Nat → Nat → Int} {k n r : Nat} (hn : n ≤ r) (h : nzF f k n r < r) : f (nzF f k n r) k ≠ 0 := nzGo_ne (by unfold nzF at h; omega)

/-- the inverse in a field of 2, 3 or 5 -/
def invP (p x : Int) : Int := if p = 5 then (x % p * (x % p) % p) * (x % p) % p else x % p
/-- rows n and t swapped, in the columns below j -/
def swJ (n t j : Nat) (f : Nat → Nat → Int) (a b : Nat) : Int := if b < j then (if a = n then f t b else if a = t then f n b else f a b) else f a b
def swA (n t : Nat) (f : Nat → Nat → Int) (a b : Nat) : Int := if a = n then f t b else if a = t then f n b else f a b
/-- row n times s -/
def scJ (p : Int) (n : Nat) (s : Int) (j : Nat) (f : Nat → Nat → Int) (a b : Nat) : Int := if a = n ∧ b < j then f a b * s % p else f a b
def scA (p : Int) (n : Nat) (s : Int) (f : Nat → Nat → Int) (a b : Nat) : Int := if a = n then f a b * s % p else f a b
/-- multiples of row n taken from the others so that column k is 0, in the rows below i -/
def elI (p : Int) (n k i : Nat) (f : Nat → Nat → Int) (a b : Nat) : Int := if a < i ∧ a ≠ n then (f a b + (p - f a k) * f n b) % p else f a b
def elA (p : Int) (n k : Nat) (f : Nat → Nat → Int) (a b : Nat) : Int := if a ≠ n then (f a b + (p - f a k) * f n b) % p else f a b
/-- one column -/
def rdF (p : Int) (r : Nat) (f : Nat → Nat → Int) (n k : Nat) : Nat → Nat → Int :=
  elA p n k (scA p n (invP p (swA n (nzF f k n r) f n k)) (swA n (nzF f k n r) f))
/-- the columns below k: the matrix, the columns of the leading ones -/
def rdTo (p : Int) (r : Nat) (f : Nat → Nat → Int) : Nat → (Nat → Nat → Int) × List Int
  | 0 => (f, [])
  | k + 1 => if nzF (rdTo p r f k).1 k (rdTo p r f k).2.length r < r then (rdF p r (rdTo p r f k).1 (rdTo p r f k).2.length k, (rdTo p r f k).2 ++ [(k : Int)]) else rdTo p r f k
theorem rdTo_succ (p : Int) (r : Nat) (f : Nat → Nat → Int) (k : Nat) : rdTo p r f (k + 1) =
    if nzF (rdTo p r f k).1 k (rdTo p r f k).2.length r < r then (rdF p r (rdTo p r f k).1 (rdTo p r f k).2.length k, (rdTo p r f k).2 ++ [(k : Int)]) else ((rdTo p r f k).1, (rdTo p r f k).2) := rfl
theorem rdTo_len (p : Int) (r : Nat) (f : Nat → Nat → Int) : ∀ k, (rdTo p r f k).2.length ≤ r ∧ (rdTo p r f k).2.length ≤ k
  | 0 => by simp [rdTo]
  | k + 1 => by
    have h := rdTo_len p r f k
    simp only [rdTo]
    split
    · rename_i h1
      have := (nzF_le (f := (rdTo p r f k).1) (k := k) h.1).1
      simp
      omega
    · omega
theorem rdTo_mem (p : Int) (r : Nat) (f : Nat → Nat → Int) : ∀ k, ∀ x ∈ (rdTo p r f k).2, 0 ≤ x ∧ x < k
  | 0, x, h => by simp [rdTo] at h
  | k + 1, x, h => by
    have ih := rdTo_mem p r f k
    simp only [rdTo] at h
    split at h
    · simp only [List.mem_append, List.mem_singleton] at h
      rcases h with h | rfl
      · have := ih x h; omega
      · omega
    · have := ih x h; omega
/-- numbers of the field -/
def InF (p : Int) (r c : Nat) (f : Nat → Nat → Int) : Prop := ∀ a b, a < r → b < c → 0 ≤ f a b ∧ f a b ≤ p - 1
theorem inF_sw {p : Int} {r c n t : Nat} {f : Nat → Nat → Int} (h : InF p r c f) (hn : n < r) (ht : t < r) : InF p r c (swA n t f) := fun a b ha hb => by
  unfold swA
  split
  · exact h _ _ ht hb
  · split
    · exact h _ _ hn hb
    · exact h _ _ ha hb
theorem emod_rng {p x : Int} (hp : 2 ≤ p) : 0 ≤ x % p ∧ x % p ≤ p - 1 := by
  have h1 := Int.emod_nonneg x (show p ≠ 0 by omega)
  have h2 := Int.emod_lt_of_pos x (show 0 < p by omega)
  omega
theorem inF_sc {p s : Int} {r c n : Nat} {f : Nat → Nat → Int} (hp : 2 ≤ p) (h : InF p r c f) : InF p r c (scA p n s f) := fun a b ha hb => by
  unfold scA
  split
  · exact emod_rng hp
  · exact h _ _ ha hb
theorem inF_el {p : Int} {r c n k : Nat} {f : Nat → Nat → Int} (hp : 2 ≤ p) (h : InF p r c f) : InF p r c (elA p n k f) := fun a b ha hb => by
  unfold elA
  split
  · exact emod_rng hp
  · exact h _ _ ha hb
theorem inF_rd {p : Int} {r c n k : Nat} {f : Nat → Nat → Int} (hp : 2 ≤ p) (h : InF p r c f) (hn : n < r) (ht : nzF f k n r < r) : InF p r c (rdF p r f n k) := inF_el hp (inF_sc hp (inF_sw h hn ht))
theorem inF_to {p : Int} {r c : Nat} {f : Nat → Nat → Int} (hp : 2 ≤ p) (h : InF p r c f) : ∀ k, InF p r c (rdTo p r f k).1
  | 0 => h
  | k + 1 => by
    have ih := inF_to hp h k
    simp only [rdTo]
    split
    · rename_i h1
      have hl := (rdTo_len p r f k).1
      exact inF_rd hp ih (by have := (nzF_le (f := (rdTo p r f k).1) (k := k) hl).1; omega) h1
    · exact ih
/-- no row is left: nothing is done any more -/
theorem rdTo_full {p : Int} {r : Nat} {f : Nat → Nat → Int} {k : Nat} (h : (rdTo p r f k).2.length = r) : rdTo p r f (k + 1) = rdTo p r f k := by
  simp only [rdTo]
  rw [if_neg]
  rw [h]
  have := (nzF_le (f := (rdTo p r f k).1) (k := k) (Nat.le_refl r)).1
  omega
theorem rdTo_rest {p : Int} {r : Nat} {f : Nat → Nat → Int} {k : Nat} (h : (rdTo p r f k).2.length = r) : ∀ m, rdTo p r f (k + m) = rdTo p r f k
  | 0 => rfl
  | m + 1 => by
    have ih := rdTo_rest h m
    rw [show k + (m + 1) = (k + m) + 1 by omega, rdTo_full (by rw [ih]; exact h), ih]

/-! ### steps of the loops, as writes into the cells -/
theorem sw_0 (n t : Nat) (f : Nat → Nat → Int) : swJ n t 0 f = f := by funext a b; simp [swJ]
theorem sw_end (n t r c : Nat) (f : Nat → Nat → Int) : flat r c (swJ n t c f) = flat r c (swA n t f) := flat_congr fun a b _ hb => by rw [swJ, if_pos hb]; rfl
theorem sw_step {n t r c j : Nat} (f : Nat → Nat → Int) (hn : n < r) (ht : t < r) (hj : j < c) :
    ((flat r c (swJ n t j f)).set (n * c + j) (f t j)).set (t * c + j) (f n j) = flat r c (swJ n t (j + 1) f) := by
  rw [flat_set _ _ hn hj, flat_set _ _ ht hj]
  refine flat_congr fun a b _ _ => ?_
  simp only [swJ]
  by_cases e1 : a = t ∧ b = j
  · obtain ⟨rfl, rfl⟩ := e1
    rw [if_pos ⟨rfl, rfl⟩, if_pos (by omega)]
    by_cases e2 : a = n
    · subst e2; rw [if_pos rfl]
    · rw [if_neg e2, if_pos rfl]
  · rw [if_neg e1]
    by_cases e2 : a = n ∧ b = j
    · obtain ⟨rfl, rfl⟩ := e2
      rw [if_pos ⟨rfl, rfl⟩, if_pos (by omega), if_pos rfl]
    · rw [if_neg e2]
      by_cases e3 : b < j
      · rw [if_pos e3, if_pos (show b < j + 1 by omega)]
      · rw [if_neg e3]
        by_cases e4 : b < j + 1
        · rw [if_pos e4, if_neg (by omega), if_neg (by omega)]
        · rw [if_neg e4]
theorem sw_rest {n t j a : Nat} (f : Nat → Nat → Int) : swJ n t j f a j = f a j := by rw [swJ, if_neg (by omega)]
theorem sc_0 (p : Int) (n : Nat) (s : Int) (f : Nat → Nat → Int) : scJ p n s 0 f = f := by funext a b; simp [scJ]
theorem sc_end (p : Int) (n r c : Nat) (s : Int) (f : Nat → Nat → Int) : flat r c (scJ p n s c f) = flat r c (scA p n s f) := flat_congr fun a b _ hb => by simp only [scJ, scA, hb, and_true]
theorem sc_step {p s : Int} {n r c j : Nat} (f : Nat → Nat → Int) (hn : n < r) (hj : j < c) :
    (flat r c (scJ p n s j f)).set (n * c + j) (f n j * s % p) = flat r c (scJ p n s (j + 1) f) := by
  rw [flat_set _ _ hn hj]
  refine flat_congr fun a b _ _ => ?_
  simp only [scJ]
  by_cases e1 : a = n ∧ b = j
  · obtain ⟨rfl, rfl⟩ := e1
    rw [if_pos ⟨rfl, rfl⟩, if_pos (by omega)]
  · rw [if_neg e1]
    by_cases e2 : a = n ∧ b < j
    · rw [if_pos e2, if_pos (by omega)]
    · rw [if_neg e2, if_neg (by omega)]
theorem sc_rest {p s : Int} {n j a : Nat} (f : Nat → Nat → Int) : scJ p n s j f a j = f a j := by rw [scJ, if_neg (by omega)]
theorem el_0 (p : Int) (n k : Nat) (f : Nat → Nat → Int) : elI p n k 0 f = f := by funext a b; simp [elI]
theorem el_end (p : Int) (n k r c : Nat) (f : Nat → Nat → Int) : flat r c (elI p n k r f) = flat r c (elA p n k f) := flat_congr fun a b ha _ => by simp only [elI, elA, ha, true_and]
theorem el_skip (p : Int) (n k : Nat) (f : Nat → Nat → Int) : elI p n k n f = elI p n k (n + 1) f := by
  funext a b
  simp only [elI]
  by_cases e : a < n ∧ a ≠ n
  · rw [if_pos e, if_pos (by omega)]
  · rw [if_neg e, if_neg (by omega)]
theorem el_rest {p : Int} {n k i b : Nat} (f : Nat → Nat → Int) : elI p n k i f i b = f i b := by rw [elI, if_neg (by omega)]
theorem el_n {p : Int} {n k i b : Nat} (f : Nat → Nat → Int) : elI p n k i f n b = f n b := by rw [elI, if_neg (by omega)]
/-- row i, the numbers in the columns below j -/
def elJ (p : Int) (n k i j : Nat) (f : Nat → Nat → Int) (a b : Nat) : Int := if a = i ∧ b < j then (f a b + (p - f a k) * f n b) % p else elI p n k i f a b
theorem elJ_0 (p : Int) (n k i : Nat) (f : Nat → Nat → Int) : elJ p n k i 0 f = elI p n k i f := by funext a b; simp [elJ]
theorem elJ_end {p : Int} {n k i r c : Nat} (f : Nat → Nat → Int) (hi : i ≠ n) : flat r c (elJ p n k i c f) = flat r c (elI p n k (i + 1) f) := flat_congr fun a b _ hb => by
  simp only [elJ, elI]
  by_cases e : a = i
  · subst e
    rw [if_pos ⟨rfl, hb⟩, if_pos (by omega)]
  · rw [if_neg (by omega)]
    by_cases e2 : a < i ∧ a ≠ n
    · rw [if_pos e2, if_pos (by omega)]
    · rw [if_neg e2, if_neg (by omega)]
theorem elJ_step {p : Int} {n k i j r c : Nat} (f : Nat → Nat → Int) (hi : i < r) (hj : j < c) :
    (flat r c (elJ p n k i j f)).set (i * c + j) ((f i j + (p - f i k) * f n j) % p) = flat r c (elJ p n k i (j + 1) f) := by
  rw [flat_set _ _ hi hj]
  refine flat_congr fun a b _ _ => ?_
  simp only [elJ]
  by_cases e1 : a = i ∧ b = j
  · obtain ⟨rfl, rfl⟩ := e1
    rw [if_pos ⟨rfl, rfl⟩, if_pos (by omega)]
  · rw [if_neg e1]
    by_cases e2 : a = i ∧ b < j
    · rw [if_pos e2, if_pos (by omega)]
    · rw [if_neg e2, if_neg (by omega)]
theorem elJ_rest {p : Int} {n k i j : Nat} (f : Nat → Nat → Int) : elJ p n k i j f i j = f i j := by rw [elJ, if_neg (by omega), el_rest]
theorem elJ_n {p : Int} {n k i j b : Nat} (f : Nat → Nat → Int) (hi : i ≠ n) : elJ p n k i j f n b = f n b := by rw [elJ, if_neg (by omega), el_n]
/-- the reference takes a multiple away: the same remainder -/
theorem el_sub {p a x y : Int} : (a - x * y) % p = (a + (p - x) * y) % p := by
  rw [show a + (p - x) * y = (a - x * y) + p * y by rw [Int.sub_mul]; omega]
  rw [Int.add_mul_emod_self_left]
end Go.Proofs.Ytjhllgldllbaaaa

/- ReduceMod, l2Mod; sums of matrices of the program. -/
namespace Go.Proofs.Ytjhllgldllbaaaa
set_option linter.unusedVariables false
set_option linter.unusedSimpArgs false
open Go.RowKit

theorem reduceMod_any (p x : Int) (w : World) (hp : isFld p = true) (hx : I64 x) :
    Calls Try.prog 227 #[.int .i64 p, .int .i64 x] w fun e w' => e = .returned (.int .i64 (x % p)) ∧ w' = w := by
  have hp' := isFld_r hp
  obtain ⟨h1, h2, h3⟩ := tmod_fix (x := x) hp'.1
  have htm : (x.tmod p + p).tmod p = x % p := by rw [Int.tmod_eq_emod_of_nonneg (by omega)]; exact tmod_twice hp'.1
  have H1 := Lib.hid hp
  clear hp h1
  go_enter Try.func227, Try.ntmps227
  go_wp2_with fail
  refine (implIsField_any _ _).mono ?_; rintro e w1 ⟨rfl, rfl⟩
  rw [H1.out]
  go_wp2
  go_ret
  exact ⟨rfl, rfl⟩
theorem l2Mod_any (p x : Int) (w : World) (hp : 2 ≤ p ∧ p ≤ 5) (hx : I64 x) :
    Calls Try.prog 152 #[.int .i64 p, .int .i64 x] w fun e w' => e = .returned (.int .i64 (x % p)) ∧ w' = w := by
  obtain ⟨h1, h2, h3⟩ := tmod_fix (x := x) hp.1
  by_cases hn : x.tmod p < 0
  · rw [if_pos hn] at h1
    have HE := Lib.hid h1
    clear h1
    go_enter Try.func152, Try.ntmps152
    go_wp2
    go_ret
    exact ⟨by rw [← HE.out]; rfl, rfl⟩
  · rw [if_neg hn] at h1
    have HE := Lib.hid h1
    clear h1
    go_enter Try.func152, Try.ntmps152
    go_wp2
    go_ret
    exact ⟨by rw [← HE.out]; rfl, rfl⟩
theorem addMultiple_zero (p k : Int) (va : Value) (B : Option Addr) (c : Nat) (w : World) (hv : ∃ A n m, va = .slice A n m) (hc : c ≤ 9223372036854775807) :
    Calls Try.prog 183 #[.int .i64 p, va, .int .i64 k, .slice B 0 c] w fun e w' => e = .returned va ∧ w' = w := by
  obtain ⟨A, n, m, rfl⟩ := hv
  go_enter Try.func183, Try.ntmps183
  go_wp2
  refine wp_loop_rounds 1 ?_
  rw [rounds_succ]
  go_wp2
  go_ret
  exact ⟨rfl, rfl⟩

def plF (p k : Int) (f g : Nat → Nat → Int) (a b : Nat) : Int := (f a b + k * g a b) % p
theorem plF_flat (p k : Int) (r c : Nat) (f g : Nat → Nat → Int) : rowF (r * c) (amF p k 0 (r * c) (fun j => f (j / c) (j % c)) (fun j => g (j / c) (j % c))) = flat r c (plF p k f g) := by
  refine rowF_congr fun i hi => ?_
  rw [amF, if_pos (by omega)]
  rfl
set_option maxHeartbeats 3200000 in
theorem plus_any (p k : Int) (u v : Value) (r c : Nat) (f g : Nat → Nat → Int) (w0 : World) (hp : 2 ≤ p ∧ p ≤ 5) (hk : 0 ≤ k ∧ k ≤ 5) (hu : MxR w0 w0.heap.size u (mxF r c f)) (hv : MxR w0 w0.heap.size v (mxF r c g)) (hr : r ≤ 1000) (hc : c ≤ 1000)
    (hf : ∀ i j, i < r → j < c → 0 ≤ f i j ∧ f i j ≤ 4) (hg : ∀ i j, i < r → j < c → 0 ≤ g i j ∧ g i j ≤ 4) :
    Calls Try.prog 178 #[.int .i64 p, u, .int .i64 k, v] w0 fun e w' => ∃ v, e = .returned v ∧ MxO w' w0.heap.size w'.heap.size v (mxF r c (plF p k f g)) ∧ Below w0.heap.size w0 w' := by
  have hu' := hu
  obtain ⟨U, uc, rfl⟩ := hu.form
  obtain ⟨V, vc, rfl, hsv, j1, j2, _⟩ := hv.open_
  have z1 : (mxF r c f).r = (r : Int) := rfl
  have z2 : (mxF r c f).c = (c : Int) := rfl
  have z3 : (mxF r c g).r = (r : Int) := rfl
  have z4 : (mxF r c g).c = (c : Int) := rfl
  have z5 : (mxF r c f).a.length = r * c := flat_length _ _ _
  have z6 : (mxF r c g).a.length = r * c := flat_length _ _ _
  obtain ⟨N, hN⟩ : ∃ N, r * c = N := ⟨_, rfl⟩
  have hN6 : N ≤ 1000000 := by rw [← hN]; exact Nat.mul_le_mul hr hc
  rw [z5, z1, z2, hN] at hu' ⊢
  rw [z6, z3, z4, hN]
  rw [z6, hN] at hsv
  clear hu hv z1 z2 z3 z4 z5 z6
  obtain ⟨W, hW⟩ : ∃ W, W = ((w0.alloc (.cells #[.int .i64 r, .int .i64 c, .slice U N uc] 75)).alloc (.cells #[.int .i64 r, .int .i64 c, .slice V N vc] 75)).alloc (.cells #[.int .i64 0, .int .i64 0, .slice none 0 0] 75) := ⟨_, rfl⟩
  have g0 : Below w0.heap.size w0 W := by rw [hW]; exact (((Below.refl _ _).alloc (Nat.le_refl _) _).alloc (by simp) _).alloc (by simp; omega) _
  have k2 : Blk W (w0.heap.size + 1) 75 #[.int .i64 r, .int .i64 c, .slice V N vc] := by
    rw [hW]
    have := (Blk.new (w0.alloc (.cells #[.int .i64 r, .int .i64 c, .slice U N uc] 75)) 75 #[.int .i64 r, .int .i64 c, .slice V N vc]).alloc (.cells #[.int .i64 0, .int .i64 0, .slice none 0 0] 75)
    simpa only [World.size_alloc] using this
  have k3 : Blk W (w0.heap.size + 1 + 1) 75 #[.int .i64 0, .int .i64 0, .slice none 0 0] := by
    rw [hW]
    have := Blk.new ((w0.alloc (.cells #[.int .i64 r, .int .i64 c, .slice U N uc] 75)).alloc (.cells #[.int .i64 r, .int .i64 c, .slice V N vc] 75)) 75 #[.int .i64 0, .int .i64 0, .slice none 0 0]
    simpa only [World.size_alloc] using this
  have sz : W.heap.size = w0.heap.size + 1 + 1 + 1 := by rw [hW]; simp
  have HU := Lib.hid (MxR.next g0 hu')
  have HV := Lib.hid (SlI.next g0 hsv)
  have SZ := Lib.hid sz
  have HN := Lib.hid hN
  have G0 := Lib.hid g0
  have HFF := Lib.hid hf
  have HGG := Lib.hid hg
  clear sz hu' hsv hN g0 hf hg
  go_enter Try.func178, Try.ntmps178
  go_wp2_with fail
  rw [← hW]; clear hW
  refine (mxClone_any _ (mxF r c f) W HU.out).mono ?_; rintro e w1 ⟨v1, rfl, ⟨s1, rfl, hO, i1, i2⟩, hb1⟩
  obtain ⟨A1, c1, rfl⟩ := hO.form
  have z5 : (mxF r c f).a.length = N := by rw [← HN.out]; exact flat_length _ _ _
  have z1 : (mxF r c f).r = (r : Int) := rfl
  have z2 : (mxF r c f).c = (c : Int) := rfl
  rw [z5] at hO ⊢
  rw [z1, z2]
  rw [z1] at i1
  rw [z2] at i2
  clear z5 z1 z2
  obtain ⟨W4, hW4⟩ : ∃ W4, W4 = w1.alloc (.cells #[.int .i64 r, .int .i64 c, .slice A1 N c1] 75) := ⟨_, rfl⟩
  have b4 : Below w1.heap.size w1 W4 := by rw [hW4]; exact below_alloc _ _
  have k4 : Blk W4 w1.heap.size 75 #[.int .i64 r, .int .i64 c, .slice A1 N c1] := by rw [hW4]; exact Blk.new _ _ _
  have s1 := hb1.size
  have gW := bthen hb1 b4
  have k2' := (k2.call hb1).call b4
  have k3' := (k3.call hb1).call b4
  have hO4 := hO.below b4
  have l4 := k4.lt
  have HV4 := Lib.hid (SlI.below gW HV.out)
  have y2 := k2'.cell' (i := 2) rfl
  rw [hW4] at y2
  have HO4 := Lib.hid hO4
  clear hO hb1 b4 k2 k3 k2' hO4
  have hvc : vc ≤ 9223372036854775807 := by
    obtain ⟨VA, vca, ev, _, hvc, _⟩ := HV4.out
    injection ev with _ _ ev3
    omega
  rcases Nat.eq_zero_or_pos N with h0 | h0
  · subst h0
    go_wp2_with fail
    rw [← hW4]
    rw [← hW4] at y2
    clear hW4
    refine (addMultiple_zero p k _ V vc _ ⟨_, _, _, rfl⟩ hvc).mono ?_; rintro e w5 ⟨rfl, rfl⟩
    have hE : (mxF r c f).a = flat r c (plF p k f g) := by
      have h1 : (mxF r c f).a.length = 0 := by rw [← HN.out]; exact flat_length _ _ _
      have h2 : (flat r c (plF p k f g)).length = 0 := by rw [← HN.out]; exact flat_length _ _ _
      rw [List.eq_nil_of_length_eq_zero h1, List.eq_nil_of_length_eq_zero h2]
    have oA := HO4.out
    rw [hE] at oA
    clear hE
    have z0 := k4.cell' (i := 0) rfl
    have z1 := k4.cell' (i := 1) rfl
    have z2 := k4.cell' (i := 2) rfl
    have p0 := k3'.cell' (i := 0) rfl
    have p1 := k3'.cell' (i := 1) rfl
    have p2 := k3'.cell' (i := 2) rfl
    have f2 := k3'.frozen
    have h2 := chg3 w5 (w0.heap.size + 1 + 1) (.int .i64 (r : Int)) (.int .i64 c) (.slice A1 0 c1)
    have gw : Below w0.heap.size w0 w5 := (G0.out).trans (gW.mono (G0.out).size)
    have gs := gw.size
    have oA2 := (oA.chg h2 (.inr (by have := SZ.out; omega))).wider (lo' := w0.heap.size) (hi' := w5.heap.size) (by have := SZ.out; omega) (by omega)
    have fg := gw.trans (h2.below (by omega) gs)
    have OA2 := Lib.hid oA2
    have FG := Lib.hid fg
    clear oA oA2 fg gw h2 k3' k4 gW
    go_wp2
    exact bodyPost_ret (v := .agg #[.int .i64 (r : Int), .int .i64 c, .slice A1 0 c1]) (by simp [results, go_sem, p0, p1, p2]) rfl ⟨_, rfl, ⟨_, rfl, (OA2.out).wider (Nat.le_refl _) (by simp), i1, i2⟩, FG.out⟩
  · obtain ⟨gA, cA, eA, a1, a2, a3⟩ := (HO4.out).at_ (by rw [show (mxF r c f).a.length = N by rw [← HN.out]; exact flat_length _ _ _]; exact h0)
    rw [show (mxF r c f).a.length = N by rw [← HN.out]; exact flat_length _ _ _] at eA
    injection eA with eA1 eA2 eA3
    subst eA1 eA3
    obtain ⟨_, c2, e2, q1, q2⟩ := (HO4.out).1.form
    injection e2 with e21 e22 e23
    subst e23
    clear e21 e22
    have q1' : N ≤ c1 := by rw [show (mxF r c f).a.length = N by rw [← HN.out]; exact flat_length _ _ _] at q1; exact q1
    have hrow : rowF N (fun j => f (j / c) (j % c)) = (mxF r c f).a := by rw [← HN.out]; rfl
    have hrow2 : rowF N (fun j => g (j / c) (j % c)) = (mxF r c g).a := by rw [← HN.out]; rfl
    have hx : ∀ (h : Nat → Nat → Int), (∀ i j, i < r → j < c → 0 ≤ h i j ∧ h i j ≤ 4) → ∀ i, i < N → 0 ≤ h (i / c) (i % c) ∧ h (i / c) (i % c) ≤ 4 := fun h hh i hi => by
      rw [← HN.out] at hi
      obtain ⟨i1, j1, h1, h2, rfl⟩ := ix_of hi
      rw [ix_div h2, ix_mod h2]
      exact hh i1 j1 h1 h2
    have HX1 := Lib.hid (hx f HFF.out)
    have HX2 := Lib.hid (hx g HGG.out)
    have HR1 := Lib.hid hrow
    have HR2 := Lib.hid hrow2
    clear q1 hrow hrow2 hx
    go_wp2_with fail
    rw [← hW4]
    rw [← hW4] at y2
    clear hW4
    refine (addMultiple_own p k gA 0 N N c1 c1 W.heap.size w1.heap.size (fun j => f (j / c) (j % c)) (fun j => g (j / c) (j % c)) _ W4 hp hk (by rw [HR1.out]; exact HO4.out) ⟨a1, a2⟩ (by omega) hN6 ⟨q1', q2⟩ (by omega) (by rw [HR2.out]; exact HV4.out) HX1.out HX2.out).mono ?_; rintro e w5 ⟨rfl, hO5, hc5, hs5⟩
    have hE : rowF N (amF p k 0 N (fun j => f (j / c) (j % c)) (fun j => g (j / c) (j % c))) = flat r c (plF p k f g) := by rw [← HN.out]; exact plF_flat p k r c f g
    rw [hE] at hO5
    have oA := hO5
    replace k4 := k4.chg hc5 (.inr (Nat.le_refl _))
    replace k3' := k3'.chg hc5 (.inl (by have := SZ.out; omega))
    replace gW := gW.trans (hc5.below (Nat.le_refl _) (by omega))
    have l4' := k4.lt
    clear hE hO5 hc5 hs5 y2
    obtain ⟨A1, hA1⟩ : ∃ A1, A1 = some (⟨gA, 0, none⟩ : Addr) := ⟨_, rfl⟩
    rw [← hA1] at oA k4
    clear hA1
    have z0 := k4.cell' (i := 0) rfl
    have z1 := k4.cell' (i := 1) rfl
    have z2 := k4.cell' (i := 2) rfl
    have p0 := k3'.cell' (i := 0) rfl
    have p1 := k3'.cell' (i := 1) rfl
    have p2 := k3'.cell' (i := 2) rfl
    have f2 := k3'.frozen
    have h2 := chg3 w5 (w0.heap.size + 1 + 1) (.int .i64 (r : Int)) (.int .i64 c) (.slice A1 N c1)
    have gw : Below w0.heap.size w0 w5 := (G0.out).trans (gW.mono (G0.out).size)
    have gs := gw.size
    have oA2 := (oA.chg h2 (.inr (by have := SZ.out; omega))).wider (lo' := w0.heap.size) (hi' := w5.heap.size) (by have := SZ.out; omega) (by omega)
    have fg := gw.trans (h2.below (by omega) gs)
    have OA2 := Lib.hid oA2
    have FG := Lib.hid fg
    clear oA oA2 fg gw h2 k3' k4 gW
    go_wp2
    exact bodyPost_ret (v := .agg #[.int .i64 (r : Int), .int .i64 c, .slice A1 N c1]) (by simp [results, go_sem, p0, p1, p2]) rfl ⟨_, rfl, ⟨_, rfl, (OA2.out).wider (Nat.le_refl _) (by simp), i1, i2⟩, FG.out⟩
end Go.Proofs.Ytjhllgldllbaaaa

/- Elimination: the state of the loops; inverses; a multiple of a row of the same block. -/
namespace Go.Proofs.Ytjhllgldllbaaaa
set_option linter.unusedVariables false
set_option linter.unusedSimpArgs false
open Go.RowKit

theorem grown_then {a b c : World} {row : Option Nat} (h : a.grownBy b row) (k : b.grownBy c row) : a.grownBy c row :=
  ⟨k.os.trans h.os, k.tape.trans h.tape, k.output.trans h.output, Nat.le_trans h.size k.size, fun i hi hne => (k.block i (Nat.lt_of_lt_of_le hi h.size) hne).trans (h.block i hi hne)⟩
theorem grown_below {a b : World} {row : Option Nat} (h : Below a.heap.size a b) : a.grownBy b row := ⟨h.os, h.tape, h.output, h.size, fun i hi _ => h.block i hi⟩

/-- The loops' state: a matrix's cells and a list of the call's own, apart; all below B as it was. -/
structure RS (B : Nat) (w1 : World) (A : Option Addr) (r c L cap : Nat) (w : World) (f : Nat → Nat → Int) (pv : Value) (ps : List Int) : Prop where
  bel : Below B w1 w
  fam : Fam w B w.heap.size [(.slice A L cap, flat r c f), (pv, ps)]
section
variable {B : Nat} {w1 w w' : World} {A : Option Addr} {r c L cap : Nat} {f : Nat → Nat → Int} {pv : Value} {ps : List Int}
theorem RS.own (h : RS B w1 A r c L cap w f pv ps) : OwnI w B (.slice A L cap) (flat r c f) := (h.fam.1 (_, flat r c f) (by simp)).1
theorem RS.ownP (h : RS B w1 A r c L cap w f pv ps) : IntsO w B w.heap.size pv ps := h.fam.1 (pv, ps) (by simp)
theorem RS.size (h : RS B w1 A r c L cap w f pv ps) (hB : B ≤ w1.heap.size) : B ≤ w.heap.size := Nat.le_trans hB h.bel.size
theorem RS.call (h : RS B w1 A r c L cap w f pv ps) (hB : B ≤ w1.heap.size) (hb : Below w.heap.size w w') : RS B w1 A r c L cap w' f pv ps :=
  ⟨h.bel.trans (hb.mono (h.size hB)), (h.fam.below hb).mono (Nat.le_refl _) hb.size⟩
/-- where the matrix has cells -/
theorem RS.addr (h : RS B w1 A r c L cap w f pv ps) (hL : 0 < r * c) : ∃ g, A = some ⟨g, 0, none⟩ ∧ L = r * c ∧ L ≤ cap ∧ cap ≤ 9223372036854775807 ∧ B ≤ g ∧ g < w.heap.size := by
  have ho := h.own
  rcases ho.1.2 with ⟨e, h0⟩ | ⟨g, cap', cur, e, hg, hh, hnc, hcm, _⟩
  · rw [flat_length] at h0; omega
  · injection e with e1 e2 e3
    subst e1 e3
    rw [flat_length] at e2 hnc
    subst e2
    exact ⟨g, rfl, rfl, hnc, by simp only [maxLen] at hcm; omega, hg, (Array.getElem?_eq_some_iff.1 hh).1⟩
theorem RS.len (h : RS B w1 A r c L cap w f pv ps) : L = r * c := by
  rcases h.own.form with ⟨A', c', e, _⟩
  injection e with _ e _
  rw [flat_length] at e
  exact e
theorem RS.cell {g i k : Nat} (h : RS B w1 (some ⟨g, 0, none⟩) r c L cap w f pv ps) (hi : i < r) (hk : k < c) : w.cell? ⟨g, i * c + k, none⟩ = some (.int .i64 (f i k)) ∧ I64 (f i k) ∧ w.frozen? ⟨g, i * c + k, none⟩ = false := by
  have h1 := h.own.cellG (j := i * c + k) (by rw [flat_length]; exact ix_lt hi hk)
  rw [flat_getD f hi hk] at h1
  exact ⟨h1.1, h1.2, h.own.frozenG _⟩
/-- one cell written; the new cells are told by the new function -/
theorem RS.put {g J : Nat} {x : Int} {f2 : Nat → Nat → Int} (h : RS B w1 (some ⟨g, 0, none⟩) r c L cap w f pv ps) (hg : B ≤ g) (hs : B ≤ w.heap.size) (hx : I64 x) (e : (flat r c f).set J x = flat r c f2) :
    RS B w1 (some ⟨g, 0, none⟩) r c L cap (w.setCell ⟨g, J, none⟩ (.int .i64 x)) f2 pv ps := by
  have hp := h.own.put (j := J) hx
  rw [e] at hp
  refine ⟨h.bel.setCell hg _, ?_⟩
  have := h.fam.turn (L1 := []) hp.1 hp.2
  simpa using this
/-- the matrix's row is turned by a callee -/
theorem RS.turn {g : Nat} {f2 : Nat → Nat → Int} (h : RS B w1 (some ⟨g, 0, none⟩) r c L cap w f pv ps) (hg : B ≤ g) (hs : B ≤ w.heap.size) (ho : OwnI w' B (.slice (some ⟨g, 0, none⟩) L cap) (flat r c f2)) (hgr : w.grownBy w' (some g)) :
    RS B w1 (some ⟨g, 0, none⟩) r c L cap w' f2 pv ps := by
  refine ⟨h.bel.trans (below_grown hgr (fun k hk => by injection hk with hk; omega) hs), ?_⟩
  have := h.fam.turn (L1 := []) ho hgr
  exact this.mono (Nat.le_refl _) hgr.size
/-- one number appended to the list -/
theorem RS.app {pv' : Value} {ps' : List Int} (h : RS B w1 A r c L cap w f pv ps) (hs : B ≤ w.heap.size) (ho : OwnI w' B pv' ps') (hg : w.grownBy w' pv.ownBlock) (hv : pv'.ownBlock = pv.ownBlock ∨ pv'.ownBlock = some w.heap.size) :
    RS B w1 A r c L cap w' f pv' ps' := by
  refine ⟨h.bel.trans (below_grown hg (fun k hk => (h.ownP.1.lt k hk).1) hs), ?_⟩
  have h1 : Fam w B w.heap.size ([(.slice A L cap, flat r c f)] ++ (pv, ps) :: []) := h.fam
  have hw := hg.size
  exact h1.app hw ho hg hv
end

section
variable {B : Nat} {w1 w w' : World} {A : Option Addr} {r c L cap : Nat} {f : Nat → Nat → Int} {pv : Value} {ps : List Int}
theorem RS.cellP {g i k P : Nat} (h : RS B w1 (some ⟨g, 0, none⟩) r c L cap w f pv ps) (hi : i < r) (hk : k < c) (hP : P = i * c) : w.cell? ⟨g, P + k, none⟩ = some (.int .i64 (f i k)) ∧ I64 (f i k) ∧ w.frozen? ⟨g, P + k, none⟩ = false := by
  subst hP; exact h.cell hi hk
/-- two cells written -/
theorem RS.put2 {g J J' : Nat} {x y : Int} {f2 : Nat → Nat → Int} (h : RS B w1 (some ⟨g, 0, none⟩) r c L cap w f pv ps) (hg : B ≤ g) (hs : B ≤ w.heap.size) (hx : I64 x) (hy : I64 y) (e : ((flat r c f).set J x).set J' y = flat r c f2) :
    RS B w1 (some ⟨g, 0, none⟩) r c L cap ((w.setCell ⟨g, J, none⟩ (.int .i64 x)).setCell ⟨g, J', none⟩ (.int .i64 y)) f2 pv ps := by
  have hp := h.own.put (j := J) hx
  have hp2 := hp.1.put (j := J') hy
  rw [e] at hp2
  exact h.turn hg hs hp2.1 (grown_then hp.2 hp2.2)
end
theorem RS.congr {B : Nat} {w1 w : World} {A : Option Addr} {r c L cap : Nat} {f f2 : Nat → Nat → Int} {pv : Value} {ps : List Int} (h : RS B w1 A r c L cap w f pv ps) (e : flat r c f = flat r c f2) : RS B w1 A r c L cap w f2 pv ps :=
  ⟨h.bel, by rw [← e]; exact h.fam⟩
theorem invP_r {p x : Int} (hp : 2 ≤ p ∧ p ≤ 5) : 0 ≤ invP p x ∧ invP p x ≤ 4 := by
  unfold invP
  split
  · have := emod_rng (x := x % p * (x % p) % p * (x % p)) hp.1
    omega
  · have := emod_rng (x := x) hp.1
    omega
theorem inF_elI {p : Int} {r c n k i : Nat} {f : Nat → Nat → Int} (hp : 2 ≤ p) (h : InF p r c f) : InF p r c (elI p n k i f) := fun a b ha hb => by
  unfold elI
  split
  · exact emod_rng hp
  · exact h _ _ ha hb
theorem rows_apart {i n c P Q : Nat} (h : i ≠ n) (hQ : Q = i * c) (hP : P = n * c) : Q + c ≤ P ∨ P + c ≤ Q := by
  rcases Nat.lt_or_gt_of_ne h with h | h
  · have : (i + 1) * c ≤ n * c := Nat.mul_le_mul_right _ h
    rw [Nat.add_mul, Nat.one_mul] at this
    omega
  · have : (n + 1) * c ≤ i * c := Nat.mul_le_mul_right _ h
    rw [Nat.add_mul, Nat.one_mul] at this
    omega
theorem row_in {r c i P L cap g : Nat} (w : World) (hi : i < r) (h0 : 0 < c) (hr : r ≤ 1000) (hc : c ≤ 1000) (hL : L = r * c) (hcap : L ≤ cap) (hb : cap ≤ 9223372036854775807) (hP : P = i * c) :
    Calls Try.prog 167 #[.agg #[.int .i64 (r : Int), .int .i64 (c : Int), .slice (some ⟨g, 0, none⟩) L cap], .int .i64 (i : Int)] w fun e w' => e = .returned (.slice (some ⟨g, P, none⟩) c (cap - P)) ∧ Below w.heap.size w w' := by
  obtain ⟨P', J, h1, h2, h3, h4, h5⟩ := ix_walk (k := 0) hi h0 hr hc
  obtain ⟨h5', h6, h7, h8⟩ := ix_next hi hr hc h1
  have e : P' = P := h5'.trans hP.symm
  have h9 : P' + c ≤ L := by rw [hL]; exact h7
  have h10 : i ≤ 1000 := Nat.le_trans (Nat.le_of_lt hi) hr
  have := row_at (r : Int) c i P' L cap g w h1 h6 h9 hcap hb h0 h10
  rw [e] at this
  exact this
theorem rowP {r c i k P : Nat} (hi : i < r) (hk : k < c) (hr : r ≤ 1000) (hc : c ≤ 1000) (hP : P = i * c) : P + k < r * c ∧ P + c ≤ r * c ∧ r * c ≤ 1000000 := by
  have h1 : (i + 1) * c ≤ r * c := Nat.mul_le_mul_right _ hi
  have h2 : r * c ≤ 1000 * 1000 := Nat.mul_le_mul hr hc
  rw [Nat.add_mul, Nat.one_mul] at h1
  omega
/-- a row of the matrix gets a multiple of another one: one round of the elimination -/
theorem am_el {p : Int} {n k i r c : Nat} (F : Nat → Nat → Int) (hn : n < r) (hi : i ≠ n) :
    rowF (r * c) (amF p (p - F i k) (i * c) c (fun j => elI p n k i F (j / c) (j % c)) fun j => (fun x => elI p n k i F (x / c) (x % c)) (n * c + j)) = flat r c (elI p n k (i + 1) F) := by
  refine rowF_congr fun x hx => ?_
  obtain ⟨a, b, ha, hb, rfl⟩ := ix_of hx
  simp only [amF, ix_div hb, ix_mod hb]
  by_cases e : a = i
  · subst e
    rw [if_pos (by omega), show a * c + b - a * c = b by omega, ix_div hb, ix_mod hb, el_rest, el_n]
    simp only [elI]
    rw [if_pos (by omega)]
  · have h1 : ¬ (i * c ≤ a * c + b ∧ a * c + b < i * c + c) := by
      rintro ⟨h1, h2⟩
      rcases Nat.lt_or_gt_of_ne e with h | h
      · have : (a + 1) * c ≤ i * c := Nat.mul_le_mul_right _ h
        rw [Nat.add_mul, Nat.one_mul] at this
        omega
      · have : (i + 1) * c ≤ a * c := Nat.mul_le_mul_right _ h
        rw [Nat.add_mul, Nat.one_mul] at this
        omega
    rw [if_neg h1]
    simp only [elI]
    by_cases e2 : a < i ∧ a ≠ n
    · rw [if_pos e2, if_pos (by omega)]
    · rw [if_neg e2, if_neg (by omega)]
theorem rowF_flat (r c : Nat) (f : Nat → Nat → Int) : flat r c f = rowF (r * c) fun j => f (j / c) (j % c) := rfl

/-! ### inverses -/
theorem invP_ok {p x : Int} (hp : isFld p = true) (h1 : 1 ≤ x) (h2 : x ≤ p - 1) : 1 ≤ invP p x ∧ invP p x ≤ p - 1 ∧ x * invP p x % p = 1 ∧ ∀ y, 1 ≤ y → y < invP p x → x * y % p ≠ 1 := by
  rcases isFld_t.1 hp with rfl | rfl | rfl
  · obtain rfl : x = 1 := by omega
    refine ⟨by decide, by decide, by decide, fun y hy hy2 => ?_⟩
    have : invP 2 1 = 1 := by decide
    omega
  · have : x = 1 ∨ x = 2 := by omega
    rcases this with rfl | rfl
    · refine ⟨by decide, by decide, by decide, fun y hy hy2 => ?_⟩
      have : invP 3 1 = 1 := by decide
      omega
    · refine ⟨by decide, by decide, by decide, fun y hy hy2 => ?_⟩
      have : invP 3 2 = 2 := by decide
      obtain rfl : y = 1 := by omega
      decide
  · have : x = 1 ∨ x = 2 ∨ x = 3 ∨ x = 4 := by omega
    rcases this with rfl | rfl | rfl | rfl
    · refine ⟨by decide, by decide, by decide, fun y hy hy2 => ?_⟩
      have : invP 5 1 = 1 := by decide
      omega
    · refine ⟨by decide, by decide, by decide, fun y hy hy2 => ?_⟩
      have : invP 5 2 = 3 := by decide
      have : y = 1 ∨ y = 2 := by omega
      rcases this with rfl | rfl <;> decide
    · refine ⟨by decide, by decide, by decide, fun y hy hy2 => ?_⟩
      have : invP 5 3 = 2 := by decide
      obtain rfl : y = 1 := by omega
      decide
    · refine ⟨by decide, by decide, by decide, fun y hy hy2 => ?_⟩
      have : invP 5 4 = 4 := by decide
      have : y = 1 ∨ y = 2 ∨ y = 3 := by omega
      rcases this with rfl | rfl | rfl <;> decide

def pwF (p x : Int) : Nat → Int
  | 0 => 1
  | n + 1 => pwF p x n * (x % p) % p
theorem pwF_r {p x : Int} (hp : 2 ≤ p ∧ p ≤ 5) : ∀ n, 0 ≤ pwF p x n ∧ pwF p x n ≤ 4
  | 0 => by simp [pwF]
  | n + 1 => by
    have := emod_rng (x := pwF p x n * (x % p)) hp.1
    simp only [pwF]
    omega
theorem pwF_inv {p x : Int} (hp : isFld p = true) : pwF p x (max (p - 2) 1).toNat = invP p x := by
  have e := Int.emod_emod_of_dvd x (Int.dvd_refl p)
  rcases isFld_t.1 hp with rfl | rfl | rfl
  · show 1 * (x % 2) % 2 = _
    rw [Int.one_mul, e]; rfl
  · show 1 * (x % 3) % 3 = _
    rw [Int.one_mul, e]; rfl
  · show 1 * (x % 5) % 5 * (x % 5) % 5 * (x % 5) % 5 = _
    rw [Int.one_mul, e]; rfl

set_option maxHeartbeats 800000 in
theorem powerMod_any (p x : Int) (n : Nat) (w : World) (hp : isFld p = true) (hx : I64 x) (hn : n ≤ 1000) :
    Calls Try.prog 218 #[.int .i64 p, .int .i64 x, .int .i64 n] w fun e w' => e = .returned (.int .i64 (pwF p x n)) ∧ w' = w := by
  have hpr := isFld_r hp
  have h2 : inR (n : Int) 0 1000 = true := inR_t.2 (by omega)
  have H1 := Lib.hid hp
  have H2 := Lib.hid h2
  have HX := Lib.hid hx
  clear hp h2
  go_enter Try.func218, Try.ntmps218
  go_wp2_with fail
  refine (implIsField_any _ _).mono ?_; rintro e w1 ⟨rfl, hww⟩; replace hww := hww.symm; subst hww
  rw [H1.out]
  go_wp2_with fail
  refine (within_any _ _ _ _).mono ?_; rintro e w1 ⟨rfl, hww⟩; replace hww := hww.symm; subst hww
  rw [H2.out]
  go_wp2
  go_loop [7, 17] (fun o i => ∃ k : Nat, k ≤ n ∧ i = .int .i64 k ∧ o = .int .i64 (pwF p x k)) (fun _ i => n - (intOf i).toNat)
  case atStart => exact ⟨0, Nat.zero_le _, rfl, rfl⟩
  case round =>
    obtain ⟨k, hk, rfl, rfl⟩ := hrel
    by_cases hlt : k < n
    · have hr := pwF_r (x := x) hpr k
      have hm := emod_rng (x := x) hpr.1
      have hs : Hid (pwF p x (k + 1) = pwF p x k * (x % p) % p) := rfl
      obtain ⟨a, ha⟩ : ∃ a, pwF p x k = a := ⟨_, rfl⟩
      obtain ⟨m, hmm⟩ : ∃ m, x % p = m := ⟨_, rfl⟩
      rw [ha, hmm] at hs
      rw [ha] at hr ⊢
      rw [hmm] at hm
      have k0 : 0 ≤ a * m := Int.mul_nonneg hr.1 hm.1
      have k1 : a * m ≤ 4 * 4 := Int.mul_le_mul hr.2 (by omega) hm.1 (by omega)
      obtain ⟨K, hK⟩ : ∃ K, a * m = K := ⟨_, rfl⟩
      rw [hK] at k0 k1 hs
      have hKw : wrap64 (a * m) = K := by rw [hK]; exact IntWalk.wrap64_in _ ⟨by omega, by omega⟩
      have ht : K.tmod p = K % p := Int.tmod_eq_emod_of_nonneg k0
      have HMM := Lib.hid hmm
      clear ha hmm hK
      go_wp2_with fail
      refine (reduceMod_any p x _ H1.out HX.out).mono ?_; rintro e w1 ⟨rfl, hww⟩; replace hww := hww.symm; subst hww
      rw [HMM.out]
      go_wp2
      go_round
      case rel => exact ⟨k + 1, by omega, by go_num, by rw [hs.out]⟩
      case measure => simp [intOf]; omega
    · obtain rfl : k = n := by omega
      go_wp2
      go_ret
      exact ⟨rfl, rfl⟩
theorem inverseMod_any (p x : Int) (w : World) (hp : isFld p = true) (hx : I64 x) :
    Calls Try.prog 200 #[.int .i64 p, .int .i64 x] w fun e w' => e = .returned (.int .i64 (invP p x)) ∧ w' = w := by
  have hpr := isFld_r hp
  obtain ⟨n, hn⟩ : ∃ n : Nat, max (p - 2) 1 = n := ⟨(max (p - 2) 1).toNat, by omega⟩
  have hi := pwF_inv (x := x) hp
  rw [hn, Int.toNat_natCast] at hi
  rw [← hi]
  have hnb : n ≤ 1000 := by omega
  have H1 := Lib.hid hp
  have HX := Lib.hid hx
  clear hp hi
  go_enter Try.func200, Try.ntmps200
  go_wp2_with fail
  refine (implIsField_any _ _).mono ?_; rintro e w1 ⟨rfl, hww⟩; replace hww := hww.symm; subst hww
  rw [H1.out]
  go_wp2_with fail
  refine (powerMod_any p x n _ H1.out HX.out hnb).mono ?_; rintro e w1 ⟨rfl, hww⟩; replace hww := hww.symm; subst hww
  go_wp2
  go_ret
  exact ⟨rfl, rfl⟩
set_option maxHeartbeats 800000 in
theorem specInverseMod_any (p x : Int) (w : World) (hp : isFld p = true) (h1 : 1 ≤ x) (h2 : x ≤ p - 1) :
    Calls Try.prog 151 #[.int .i64 p, .int .i64 x] w fun e w' => e = .returned (.int .i64 (invP p x)) ∧ w' = w := by
  have hpr := isFld_r hp
  obtain ⟨i1, i2, i3, i4⟩ := invP_ok hp h1 h2
  obtain ⟨v, hv⟩ : ∃ v, invP p x = v := ⟨_, rfl⟩
  rw [hv] at i1 i2 i3 i4 ⊢
  have H1 := Lib.hid hp
  have I3 := Lib.hid i3
  have I4 := Lib.hid i4
  have hxm : x % p = x := Int.emod_eq_of_lt (by omega) (by omega)
  have HXM := Lib.hid hxm
  clear hp hv i3 i4 hxm
  go_enter Try.func151, Try.ntmps151
  go_wp2
  go_loop [5] (fun i => ∃ y : Int, 1 ≤ y ∧ y ≤ v ∧ i = .int .i64 y) (fun i => (p - intOf i).toNat)
  case atStart => exact ⟨1, by omega, by omega, rfl⟩
  case round =>
    obtain ⟨y, hy1, hy2, rfl⟩ := hrel
    have hyp : y < p := by omega
    have k0 : 0 ≤ x * y := Int.mul_nonneg (by omega) (by omega)
    have k1 : x * y ≤ 4 * 4 := Int.mul_le_mul (by omega) (by omega) (by omega) (by omega)
    obtain ⟨K, hK⟩ : ∃ K, x * y = K := ⟨_, rfl⟩
    have hKw : wrap64 (x * y) = K := by rw [hK]; exact IntWalk.wrap64_in _ ⟨by omega, by omega⟩
    rw [hK] at k0 k1
    have hKI : Hid (I64 K) := by show _ ∧ _; omega
    have hxI : Hid (I64 x) := by show _ ∧ _; omega
    by_cases hlt : y < v
    · have hne := I4.out y hy1 hlt
      rw [hK] at hne
      have hb : (K % p == 1) = false := by simpa using hne
      clear hK hne
      go_wp2_with fail
      refine (specIsField_any _ _).mono ?_; rintro e w1 ⟨rfl, hww⟩; replace hww := hww.symm; subst hww
      rw [H1.out]
      go_wp2_with fail
      refine (l2Mod_any p x _ hpr hxI.out).mono ?_; rintro e w1 ⟨rfl, hww⟩; replace hww := hww.symm; subst hww
      rw [HXM.out]
      go_wp2_with fail
      refine (l2Mod_any p K _ hpr hKI.out).mono ?_; rintro e w1 ⟨rfl, hww⟩; replace hww := hww.symm; subst hww
      go_wp2
      go_round
      case rel => exact ⟨y + 1, by omega, by omega, rfl⟩
      case measure => simp [intOf]; omega
    · obtain rfl : y = v := by omega
      have he := I3.out
      rw [hK] at he
      have HE := Lib.hid he
      clear hK he
      go_wp2_with fail
      refine (specIsField_any _ _).mono ?_; rintro e w1 ⟨rfl, hww⟩; replace hww := hww.symm; subst hww
      rw [H1.out]
      go_wp2_with fail
      refine (l2Mod_any p x _ hpr hxI.out).mono ?_; rintro e w1 ⟨rfl, hww⟩; replace hww := hww.symm; subst hww
      rw [HXM.out]
      go_wp2_with fail
      refine (l2Mod_any p K _ hpr hKI.out).mono ?_; rintro e w1 ⟨rfl, hww⟩; replace hww := hww.symm; subst hww
      rw [HE.out]
      go_wp2
      go_ret
      exact ⟨rfl, rfl⟩

/-! ### a multiple of a row of the same block added in place -/
set_option maxHeartbeats 1600000 in
theorem addMultiple_in (p k : Int) (g off top n N cap ca cb : Nat) (lo : Nat) (f : Nat → Int) (w : World) (hp : 2 ≤ p ∧ p ≤ 5) (hk : 0 ≤ k ∧ k ≤ 5)
    (hown : OwnI w lo (.slice (some ⟨g, 0, none⟩) N cap) (rowF N f)) (hoff : off + n ≤ N) (htop : top + n ≤ N) (hd : off + n ≤ top ∨ top + n ≤ off) (hN : N ≤ 1000000) (hca : n ≤ ca ∧ ca ≤ 9223372036854775807) (hcb : n ≤ cb ∧ cb ≤ 9223372036854775807)
    (hf : ∀ i, i < N → 0 ≤ f i ∧ f i ≤ 4) :
    Calls Try.prog 183 #[.int .i64 p, .slice (some ⟨g, off, none⟩) n ca, .int .i64 k, .slice (some ⟨g, top, none⟩) n cb] w fun e w' => e = .returned (.slice (some ⟨g, off, none⟩) n ca) ∧ OwnI w' lo (.slice (some ⟨g, 0, none⟩) N cap) (rowF N (amF p k off n f fun j => f (top + j))) ∧ w.grownBy w' (some g) := by
  have HF := Lib.hid hf
  obtain ⟨y, hy⟩ : ∃ y : Nat → Int, y = fun j => f (top + j) := ⟨_, rfl⟩
  rw [← hy]
  have HY : Hid (∀ j, y j = f (top + j)) := by subst hy; exact fun _ => rfl
  rw [amF_0 p k off N f y] at hown
  clear hf hy
  go_enter Try.func183, Try.ntmps183
  go_wp2
  go_loopw [13] (fun i wr => ∃ j : Nat, j ≤ n ∧ i = .int .i64 j ∧ OwnI wr lo (.slice (some ⟨g, 0, none⟩) N cap) (rowF N (amF p k off j f y)) ∧ w.grownBy wr (some g)) (fun i _ => n - (intOf i).toNat)
  case atStart => exact ⟨0, Nat.zero_le _, rfl, hown, World.grownBy.refl _ _⟩
  case round =>
    clear hown
    obtain ⟨j, hj, rfl, ho, hgr⟩ := hrel
    by_cases hlt : j < n
    · have cA := (ho.cellG (j := off + j) (by rw [rowF_length]; omega)).1
      rw [rowF_getD _ (by omega), amF_rest] at cA
      have cS := (ho.cellG (j := top + j) (by rw [rowF_length]; omega)).1
      rw [rowF_getD _ (by omega), amF, if_neg (by omega), ← HY.out] at cS
      have fA := ho.frozenG (off + j)
      have hf1 := HF.out (off + j) (by omega)
      have hy1 := HF.out (top + j) (by omega)
      rw [← HY.out] at hy1
      have hst := amF_succ (p := p) (k := k) (off := off) (j := j) (N := N) f y
      obtain ⟨a, ha⟩ : ∃ a, f (off + j) = a := ⟨_, rfl⟩
      obtain ⟨z, hz⟩ : ∃ z, y j = z := ⟨_, rfl⟩
      rw [ha] at cA hf1 hst
      rw [hz] at cS hy1 hst
      have hkz0 : 0 ≤ k * z := Int.mul_nonneg hk.1 hy1.1
      have hkz1 : k * z ≤ 5 * 4 := Int.mul_le_mul hk.2 hy1.2 hy1.1 (by omega)
      obtain ⟨K, hK⟩ : ∃ K, k * z = K := ⟨_, rfl⟩
      rw [hK] at hkz0 hkz1 hst
      have hKw : wrap64 (k * z) = K := by rw [hK]; exact IntWalk.wrap64_in _ ⟨by omega, by omega⟩
      have hr0 := Int.emod_nonneg (a + K) (show p ≠ 0 by omega)
      have hr1 := Int.emod_lt_of_pos (a + K) (show 0 < p by omega)
      have ho2 := ho.put (j := off + j) (x := (a + K) % p) (by simp only [I64]; omega)
      rw [hst] at ho2
      have HO2 := Lib.hid ho2
      have HG2 := Lib.hid (grown_then hgr ho2.2)
      have htm : (wrap64 (a + K)).tmod p = (a + K) % p := by
        rw [IntWalk.wrap64_in _ ⟨by omega, by omega⟩]
        exact Int.tmod_eq_emod_of_nonneg (by omega)
      have htm2 : (a + K).tmod p = (a + K) % p := Int.tmod_eq_emod_of_nonneg (by omega)
      clear hst ho2 ho hgr hr0 hr1 ha hz hK hkz0 hkz1
      go_wp2
      go_roundw
      case rel => exact ⟨j + 1, by omega, by go_num, HO2.out.1, HG2.out⟩
      case measure => simp [intOf]; omega
    · go_wp2
      go_ret
      obtain rfl : j = n := by omega
      exact ⟨rfl, ho, hgr⟩
end Go.Proofs.Ytjhllgldllbaaaa

/- The law of Net.lean, for a region in which one operation of the net (s: a value, no memory made) may also come behind the first operation of the tail (m). -/
namespace Go.Proofs.Ytjhllgldllbaaaa
set_option linter.unusedVariables false
set_option linter.unusedSimpArgs false
open Go.RowKit

section
variable {P : Program} {ops : Array Oper} {Q : Exit → Act → World → Prop} {sp : List NS} {D : List (List Nat)} {m s : Nat} {a0 : Act} {w0 : World}
theorem set_getD {listed : Array Bool} {i : Nat} (his : i < listed.size) (j : Nat) : (listed.setIfInBounds i true).getD j false = (listed.getD j false || j == i) := by
  by_cases e : i = j
  · subst e
    simp [Array.getD_eq_getD_getElem?, Array.getElem?_setIfInBounds, his]
  · rw [getD_set_ne _ e]
    simp [Ne.symm e]
theorem count_set {listed : Array Bool} {i : Nat} (his : i < ops.size) (hli : listed.getD i false = false) (hls : listed.size = ops.size) :
    ((List.range ops.size).filter fun j => !(listed.setIfInBounds i true).getD j false).length + 1 = ((List.range ops.size).filter fun j => !listed.getD j false).length := by
  have hmem : i ∈ (List.range ops.size).filter fun j => !listed.getD j false := by
    rw [List.mem_filter]; exact ⟨List.mem_range.2 his, by rw [hli]; rfl⟩
  have e : (List.range ops.size).filter (fun j => !(listed.setIfInBounds i true).getD j false) = ((List.range ops.size).filter fun j => !listed.getD j false).filter (fun j => j != i) := by
    rw [List.filter_filter]
    congr 1
    funext j
    rw [set_getD (hls ▸ his)]
    simp [Bool.not_or, Bool.and_comm, bne]
  have hnd : ((List.range ops.size).filter fun j => !listed.getD j false).Nodup := List.nodup_range.filter _
  rw [e]
  have := List.length_erase_of_mem hmem
  rw [hnd.erase_eq_filter] at this
  have h1 := List.length_pos_of_mem hmem
  omega
theorem count_from {listed : Array Bool} {k : Nat} (hl : ∀ j, listed.getD j false = decide (j < k)) (hk : k ≤ ops.size) : ((List.range ops.size).filter fun j => !listed.getD j false).length = ops.size - k := by
  have e : (List.range ops.size).filter (fun j => !listed.getD j false) = (List.range' k (ops.size - k)) := by
    have e1 : (List.range ops.size) = List.range k ++ List.range' k (ops.size - k) := by
      have h := List.range'_append_1 (s := 0) (m := k) (n := ops.size - k)
      rw [Nat.zero_add] at h
      rw [List.range_eq_range', List.range_eq_range', h]
      congr 1
      omega
    rw [e1, List.filter_append]
    rw [List.filter_eq_nil_iff.2 (fun j hj => by rw [hl]; simp at hj ⊢; exact hj), List.nil_append]
    rw [List.filter_eq_self.2 (fun j hj => by rw [hl]; simp [List.mem_range'] at hj ⊢; omega)]
  rw [e, List.length_range']
theorem actP_fold (v : Nat → Value) (p : Nat → Bool) : ∀ k, actP ops a0 v p k = ((List.range k).filter p).foldl (fun a k => a.put (dstAt ops k) (v k)) a0
  | 0 => rfl
  | k + 1 => by
    rw [List.range_succ, List.filter_append, List.foldl_append, ← actP_fold v p k]
    conv => lhs; unfold actP
    rcases h : p k with _ | _ <;> simp [h]

theorem net_tail2 (hok : ∀ i o, ops[i]? = some o → NetOk ops D (m + 1) i o) : ∀ (fuel k : Nat) (listed : Array Bool) (a : Act) (w : World), fuel + k = ops.size → m ≤ k → listed.size = ops.size → (∀ j, listed.getD j false = decide (j < k)) →
    wpList P ops Q (ops.toList.drop k) a w → wpAny P .any ops Q fuel listed a w
  | fuel, k, listed, a, w, hf, hm, hls, hl, h => by
    have hld : ∀ j, j < ops.size → listed.getD j true = decide (j < k) := fun j hj => by
      rw [← hl j]
      simp [Array.getD_eq_getD_getElem?, Array.getElem?_eq_getElem (show j < listed.size by omega)]
    have hr : ∀ i ∈ Region.ready .any ops listed, i = k ∧ k < ops.size := fun i hi => by
      obtain ⟨h0, o, ho, hall⟩ := mem_ready.1 hi
      have hin := (Array.getElem?_eq_some_iff.1 ho).1
      rw [hld i hin] at h0
      have hik : k ≤ i := by simpa using h0
      refine ⟨?_, by omega⟩
      have hcl := (hok i o ho).danc (fun j => j < k) (fun e he hb => by have := hall e he hb; rw [hl] at this; simpa using this) (fun j hj x hx => by
        have hjs : j < ops.size := by omega
        have := (hok j _ (Array.getElem?_eq_getElem hjs)).dlt x hx
        omega)
      rcases Nat.lt_or_ge k i with hlt | hge
      · have := hcl k ((hok i o ho).tail (by omega) k hlt)
        omega
      · omega
    cases fuel with
    | zero =>
      refine ⟨?_, ?_⟩
      · apply List.eq_nil_iff_forall_not_mem.2
        intro i hi
        have := hr i hi
        omega
      · rw [List.drop_of_length_le (by simp; omega)] at h
        exact h
    | succ fuel =>
      have hks : k < ops.size := by omega
      have hke := Array.getElem?_eq_getElem hks
      have hdrop : ops.toList.drop k = ops[k] :: ops.toList.drop (k + 1) := by
        rw [List.drop_eq_getElem_cons (by simpa using hks)]
        simp
      rw [hdrop] at h
      have hready : k ∈ Region.ready .any ops listed := mem_ready.2 ⟨by rw [hld k hks]; simp, _, hke, fun e he hb => by rw [hl]; simpa using (hok k _ hke).direct e he hb⟩
      refine ⟨fun h0 => (by rw [h0] at hready; cases hready), fun i hi => ?_⟩
      obtain ⟨rfl, _⟩ := hr i hi
      unfold wpOp
      simp only [hke]
      have hw : Region.wanted ops[i] (yielded ops a.tmps) = true := by simp [Region.wanted, (hok i _ hke).guard]
      simp only [wpList, hw, if_true] at h ⊢
      have nxt : ∀ a w, wpList P ops Q (ops.toList.drop (i + 1)) a w → wpAny P .any ops Q fuel (listed.setIfInBounds i true) a w := fun a w h =>
        net_tail2 hok fuel (i + 1) _ a w (by omega) (by omega) (by simpa using hls) (fun j => by
          by_cases e : i = j
          · subst e
            simp [Array.getD_eq_getD_getElem?, Array.getElem?_setIfInBounds, hls, hks]
          · rw [getD_set_ne _ e, hl]
            congr 1
            rw [eq_iff_iff]
            omega) h
      rcases h with h | h
      · exact .inl (Oper.wp_mono nxt h)
      · exact .inr h

theorem net_any2 (hB : netB ops D (m + 1) = true) (hms : m < ops.size) (hsm : s < m) (hD : ∀ j, j < m → j ≠ s → j ∈ D.getD m []) (hst : ∀ s ∈ sp, s.stable) (hdo : ∀ i o, i < m → ops[i]? = some o → netDo P ops sp D a0 w0 i o)
    (hend : ∀ x w, Below w0.heap.size w0 w → (∀ i, i < m → known sp D x i w) → (∀ i, i < m → w0.heap.size ≤ x.lo i ∧ x.lo i ≤ x.hi i ∧ x.hi i ≤ w.heap.size) → (∀ i j, i < m → j < m → i ≠ j → x.hi i ≤ x.lo j ∨ x.hi j ≤ x.lo i) → wpList P ops Q (ops.toList.drop m) (netAct ops a0 x.v m) w)
    (hend2 : ∀ x w, Below w0.heap.size w0 w → (∀ i, i < m ∧ i ≠ s → known sp D x i w) → (∀ i, i < m ∧ i ≠ s → w0.heap.size ≤ x.lo i ∧ x.lo i ≤ x.hi i ∧ x.hi i ≤ w.heap.size) → (∀ i j, i < m ∧ i ≠ s → j < m ∧ j ≠ s → i ≠ j → x.hi i ≤ x.lo j ∨ x.hi j ≤ x.lo i) → ∀ om os, ops[m]? = some om → ops[s]? = some os → wpList P ops Q (om :: os :: ops.toList.drop (m + 1)) (actP ops a0 x.v (fun j => j != s) m) w) :
    ∀ (fuel : Nat) (listed : Array Bool) (x : Gh) (w : World), ((List.range ops.size).filter fun j => !listed.getD j false).length = fuel → listed.size = ops.size → (∀ j, m ≤ j → listed.getD j false = false) →
      (∀ i, listed.getD i false = true → ∀ j ∈ D.getD i [], listed.getD j false = true) → Below w0.heap.size w0 w → (∀ i, listed.getD i false = true → known sp D x i w) → (∀ i, listed.getD i false = true → w0.heap.size ≤ x.lo i ∧ x.lo i ≤ x.hi i ∧ x.hi i ≤ w.heap.size) →
      (∀ i j, listed.getD i false = true → listed.getD j false = true → i ≠ j → x.hi i ≤ x.lo j ∨ x.hi j ≤ x.lo i) →
      wpAny P .any ops Q fuel listed (actP ops a0 x.v (fun j => listed.getD j false) ops.size) w := by
  simp only [netB, Bool.and_eq_true, decide_eq_true_eq] at hB
  obtain ⟨⟨hm, hns⟩, hnf⟩ := hB
  have hok : ∀ i o, ops[i]? = some o → NetOk ops D (m + 1) i o := fun i o ho => netAt_spec (by
    have := netFrom_spec ops.toList 0 hnf i o (by simpa using ho)
    simpa using this)
  have hst' : ∀ i, (sp.getD i (.eq undef)).stable := fun i => by
    rw [List.getD_eq_getElem?_getD]
    rcases h : sp[i]? with _ | s
    · trivial
    · exact hst s (List.mem_of_getElem? h)
  intro fuel
  induction fuel with
  | zero =>
    intro listed x w hc hls hlm hcl hb hkn hiv hdj
    exfalso
    rw [List.length_eq_zero_iff, List.filter_eq_nil_iff] at hc
    have := hc m (List.mem_range.2 hms)
    rw [hlm m (Nat.le_refl _)] at this
    simp at this
  | succ fuel ih =>
    intro listed x w hc hls hlm hcl hb hkn hiv hdj
    by_cases hfull : ∀ j, j < m → listed.getD j false = true
    · -- the tail
      have hl : ∀ j, listed.getD j false = decide (j < m) := fun j => by
        by_cases hj : j < m
        · rw [hfull j hj]; simp [hj]
        · rw [hlm j (by omega)]; simp [hj]
      have hcnt := count_from (ops := ops) hl (by omega)
      refine net_tail2 hok (fuel + 1) m listed _ w (by omega) (Nat.le_refl _) hls hl ?_
      have := hend x w hb (fun i hi => hkn i (hfull i hi)) (fun i hi => hiv i (hfull i hi)) (fun i j hi hj => hdj i j (hfull i hi) (hfull j hj))
      rw [← actP_net (p := fun j => listed.getD j false) m hfull] at this
      rwa [actP_none (p := fun j => listed.getD j false) ops.size m (by omega) (fun j h1 _ => hlm j h1)]
    · -- one of the net
      have hne : Region.ready .any ops listed ≠ [] := by
        intro h0
        -- the least that is not listed is ready
        have : ∀ n, ∀ j, j < n → j < m → listed.getD j false = true := by
          intro n
          induction n with
          | zero => intro j hj; omega
          | succ n ihn =>
            intro j hj hjm
            by_cases e : j < n
            · exact ihn j e hjm
            · rcases hlj : listed.getD j false with _ | _
              · exfalso
                have hjs : j < ops.size := by omega
                have hje := Array.getElem?_eq_getElem hjs
                have : j ∈ Region.ready .any ops listed := mem_ready.2 ⟨by
                  rw [← hlj]
                  simp [Array.getD_eq_getD_getElem?, Array.getElem?_eq_getElem (show j < listed.size by omega)], _, hje, fun e he hb => by
                  have := (hok j _ hje).direct e he hb
                  exact ihn e.on (by omega) (by omega)⟩
                rw [h0] at this
                cases this
              · rfl
        exact hfull fun j hj => this (j + 1) j (by omega) hj
      refine ⟨fun h0 => absurd h0 hne, fun i hi => ?_⟩
      obtain ⟨h0, o, ho, hall⟩ := mem_ready.1 hi
      have his := (Array.getElem?_eq_some_iff.1 ho).1
      have hO := hok i o ho
      have hDl : ∀ j ∈ D.getD i [], listed.getD j false = true := hO.danc (fun j => listed.getD j false = true) hall (fun k hk j hj => hcl k hk j hj)
      have hwant : ∀ b : Act, Region.wanted o (yielded ops b.tmps) = true := fun b => by simp [Region.wanted, hO.guard]
      rcases Nat.lt_or_ge i m with him | hge
      case inr =>
        -- the tail's first, ahead of s
        have him : i = m := by
          rcases Nat.lt_or_ge m i with h | h
          · exact absurd (fun j hj => hDl j (hO.tail (by omega) j (by omega))) hfull
          · omega
        subst him
        have hls0 : listed.getD s false = false := by
          rcases h : listed.getD s false with _ | _
          · rfl
          · exfalso
            refine hfull fun j hj => ?_
            by_cases e : j = s
            · rw [e, h]
            · exact hDl j (hD j hj e)
        have hl : ∀ j, listed.getD j false = decide (j < i ∧ j ≠ s) := fun j => by
          by_cases hj : j < i
          · by_cases e : j = s
            · rw [e, hls0]; simp
            · rw [hDl j (hD j hj e)]; simp [hj, e]
          · rw [hlm j (by omega)]; simp [hj]
        have hT : ∀ k, k < i ∧ k ≠ s → listed.getD k false = true := fun k hk => by rw [hl]; simpa using hk
        have hss : s < ops.size := by omega
        have hse := Array.getElem?_eq_getElem hss
        have h2 := hend2 x w hb (fun k hk => hkn k (hT k hk)) (fun k hk => hiv k (hT k hk)) (fun k j hk hj => hdj k j (hT k hk) (hT j hj)) o ops[s] ho hse
        rw [actP_congr (p := fun j => j != s) (q := fun j => listed.getD j false) (v' := x.v) i (fun j hj => ⟨by rw [hl]; by_cases e : j = s <;> simp [e, hj], fun _ => rfl⟩)] at h2
        rw [actP_none (p := fun j => listed.getD j false) ops.size i (by omega) (fun j h1 _ => hlm j h1)]
        have hli := hlm i (Nat.le_refl _)
        have c1 := count_set (ops := ops) his hli hls
        have hsz1 : (listed.setIfInBounds i true).size = ops.size := by simpa using hls
        have hl1 : ∀ j, (listed.setIfInBounds i true).getD j false = decide (j < i + 1 ∧ j ≠ s) := fun j => by
          rw [set_getD (hls ▸ his), hl]
          by_cases e : j = i
          · subst e; simp; omega
          · by_cases e2 : j < i
            · simp [e, e2, show j < i + 1 by omega]
            · simp [e, e2, show ¬ j < i + 1 by omega]
        have hs1 : (listed.setIfInBounds i true).getD s false = false := by rw [hl1]; simp
        have c2 := count_set (ops := ops) hss hs1 hsz1
        have hl2 : ∀ j, ((listed.setIfInBounds i true).setIfInBounds s true).getD j false = decide (j < i + 1) := fun j => by
          rw [set_getD (hsz1 ▸ hss), hl1]
          by_cases e : j = s
          · subst e; simp; omega
          · simp [e]
        have c3 := count_from (ops := ops) hl2 (by omega)
        have nxt : ∀ a w, wpList P ops Q (ops[s] :: ops.toList.drop (i + 1)) a w → wpAny P .any ops Q fuel (listed.setIfInBounds i true) a w := fun a w h => by
          obtain ⟨f, rfl⟩ : ∃ f, fuel = f + 1 := ⟨fuel - 1, by omega⟩
          have hld : ∀ j, j < ops.size → (listed.setIfInBounds i true).getD j true = (listed.setIfInBounds i true).getD j false := fun j hj => by
            simp only [Array.getD_eq_getD_getElem?, Array.getElem?_eq_getElem (show j < (listed.setIfInBounds i true).size by omega), Option.getD_some]
          have hready : s ∈ Region.ready .any ops (listed.setIfInBounds i true) := mem_ready.2 ⟨by rw [hld s hss, hs1], _, hse, fun e he hb => by
            have := (hok s _ hse).direct e he hb
            rw [hl1]; simp; omega⟩
          refine ⟨fun h0 => (by rw [h0] at hready; cases hready), fun k hk => ?_⟩
          obtain ⟨k0, ok, hok2, hall2⟩ := mem_ready.1 hk
          have hks := (Array.getElem?_eq_some_iff.1 hok2).1
          rw [hld k hks, hl1] at k0
          have hks2 : k = s := by
            by_cases e : k = s
            · exact e
            · exfalso
              have hkm : i + 1 ≤ k := by simp at k0; omega
              have hcl2 := (hok k ok hok2).danc (fun j => (listed.setIfInBounds i true).getD j false = true) hall2 (fun y hy j hj => by
                rw [hl1] at hy ⊢
                simp at hy ⊢
                have hyd := (hok y _ (Array.getElem?_eq_getElem (show y < ops.size by omega))).dlt j hj
                refine ⟨by omega, fun e2 => ?_⟩
                subst e2
                rcases Nat.lt_or_ge y i with h3 | h3
                · have := hcl y (hT y ⟨h3, hy.2⟩) j hj
                  rw [hls0] at this
                  cases this
                · have : y = i := by omega
                  subst this
                  have := hDl j hj
                  rw [hls0] at this
                  cases this)
              have := hcl2 s ((hok k ok hok2).tail hkm s (by omega))
              rw [hs1] at this
              cases this
          subst hks2
          unfold wpOp
          simp only [hse]
          have hw : Region.wanted ops[k] (yielded ops a.tmps) = true := by simp [Region.wanted, (hok k _ hse).guard]
          simp only [wpList, hw, if_true] at h ⊢
          have nxt2 : ∀ a w, wpList P ops Q (ops.toList.drop (i + 1)) a w → wpAny P .any ops Q f ((listed.setIfInBounds i true).setIfInBounds k true) a w := fun a w h =>
            net_tail2 hok f (i + 1) _ a w (by omega) (by omega) (by simpa using hls) hl2 h
          rcases h with h | h
          · exact .inl (Oper.wp_mono nxt2 h)
          · exact .inr h
        unfold wpOp
        simp only [ho]
        simp only [wpList, hwant, if_true] at h2 ⊢
        rcases h2 with h | h
        · exact .inl (Oper.wp_mono (fun a w h => nxt a w (by simpa only [wpList] using h)) h)
        · exact .inr h
      have hli : listed.getD i false = false := by
        rw [← h0]
        simp [Array.getD_eq_getD_getElem?, Array.getElem?_eq_getElem (show i < listed.size by omega)]
      have hpre := hdo i o him ho x w hb (fun j hj => ⟨hkn j (hDl j hj), (hiv j (hDl j hj)).2.2⟩) (fun e b w' => e = .normal ∧ ∃ u, b = (netAct ops a0 x.v i).put o.dst u ∧ (Below w.heap.size w w' ∧ (sp.getD i (.eq undef)).holds i (D.getD i []) (x.set i u w.heap.size w'.heap.size) w'))
        (fun u w' h1 h2 => ⟨rfl, u, rfl, h1, h2⟩)
      have hnl : ¬ LetsOut (fun (e : Exit) (b : Act) (w' : World) => e = .normal ∧ ∃ u, b = (netAct ops a0 x.v i).put o.dst u ∧ (Below w.heap.size w w' ∧ (sp.getD i (.eq undef)).holds i (D.getD i []) (x.set i u w.heap.size w'.heap.size) w')) := by
        rintro ⟨b, w', h, _⟩
        cases h
      simp only [wpList, hwant, if_true] at hpre
      rcases hpre with hpre | hpre
      case inr => exact absurd hpre.2 hnl
      simp only [true_and] at hpre
      have hexec : execOp (actP ops a0 x.v (fun j => listed.getD j false) ops.size).eval o = execOp (netAct ops a0 x.v i).eval o := by
        refine execOp_congr o (fun cs b => Region.noSelect_spec hns i o cs b ho) fun y hx => ?_
        by_cases hxt : ∃ t, y = .tmp t
        · obtain ⟨t, rfl⟩ := hxt
          have hlook : t ∈ o.looksAt ops := List.mem_append_left _ (List.mem_filterMap.2 ⟨.tmp t, by simpa using hx, rfl⟩)
          have e1 : netAct ops a0 x.v i = actP ops a0 x.v (fun j => decide (j < i)) ops.size := by
            rw [actP_none (p := fun j => decide (j < i)) ops.size i (by omega) (fun j h1 _ => by simp; omega)]
            exact (actP_net (p := fun j => decide (j < i)) i (fun j hj => by simp [hj])).symm
          rw [e1]
          refine actP_eval t ops.size fun j hj hd => ?_
          rcases hO.looks j t hd hlook with h | h
          · rw [hDl j h]; have := hO.dlt j h; simp [this]
          · have hlt := (hok j _ (Array.getElem?_eq_getElem hj)).dlt i h
            have : listed.getD j false = false := by
              rcases hlj : listed.getD j false with _ | _
              · rfl
              · have := hcl j hlj i h
                rw [hli] at this
                cases this
            rw [this]; simp; omega
        · exact actP_evalC y (fun t h => hxt ⟨t, h⟩) _ _
      have hsz : (netAct ops a0 x.v i).tmps.size = (actP ops a0 x.v (fun j => listed.getD j false) ops.size).tmps.size := by
        rw [actP_size, ← actP_net (p := fun _ => true) i (fun _ _ => rfl), actP_size]
      have hT := wp_transfer (Q2 := Q) hexec hsz (fun c b w' h => by cases h.1) hnl hpre
      unfold wpOp
      simp only [ho, hwant, if_true]
      refine .inl (Oper.wp_mono ?_ hT)
      rintro b w' ⟨u, rfl, hbw, hh⟩
      have hdst : o.dst = dstAt ops i := by simp [dstAt, ho]
      have hlq : ∀ j, (listed.setIfInBounds i true).getD j false = (listed.getD j false || j == i) := fun j => by
        by_cases e : i = j
        · subst e
          simp [Array.getD_eq_getD_getElem?, Array.getElem?_setIfInBounds, hls, his]
        · rw [getD_set_ne _ e]
          simp [Ne.symm e]
      rw [hdst, actP_add (v' := (x.set i u w.heap.size w'.heap.size).v) (q := fun j => (listed.setIfInBounds i true).getD j false) (fun j hj _ => by simp [Gh.set, hj]) (by simp [Gh.set]) hli hlq (fun j d hij hlj hdj hdi => by
        rcases hO.dsts j d (by omega) hdj hdi with h | h
        · have := hO.dlt j h; omega
        · have := hcl j hlj i h
          rw [hli] at this
          cases this) ops.size his]
      refine ih _ _ _ ?_ (by simpa using hls) (fun j hj => by rw [hlq, hlm j hj]; simp; omega) (fun k hk j hj => ?_) (hb.trans (hbw.mono hb.size)) (fun k hk => ?_) (fun k hk => ?_) (fun k j hk hj hkj => ?_)
      · have := count_set (ops := ops) his hli hls
        omega
      · rw [hlq] at hk ⊢
        simp only [Bool.or_eq_true, beq_iff_eq] at hk ⊢
        rcases hk with hk | rfl
        · exact .inl (hcl k hk j hj)
        · exact .inl (hDl j hj)
      · rw [hlq] at hk
        simp only [Bool.or_eq_true, beq_iff_eq] at hk
        unfold known
        by_cases e : k = i
        · subst e
          exact hh
        · rcases hk with hk | hk
          · refine NS.holds_congr (x := x) (fun j hj => ?_) (NS.holds_stable (hst' k) (hkn k hk) hbw)
            have hji : j ≠ i := by
              rcases hj with rfl | hj
              · exact e
              · rintro rfl
                have := hcl k hk j hj
                rw [hli] at this
                cases this
            simp [Gh.set, hji]
          · exact absurd hk e
      · rw [hlq] at hk
        simp only [Bool.or_eq_true, beq_iff_eq] at hk
        by_cases e : k = i
        · subst e
          simp only [Gh.set, if_true]
          exact ⟨hb.size, hbw.size, Nat.le_refl _⟩
        · have := hiv k (hk.resolve_right e)
          have := hbw.size
          simp only [Gh.set, if_neg e]
          omega
      · rw [hlq] at hk hj
        simp only [Bool.or_eq_true, beq_iff_eq] at hk hj
        by_cases e : k = i
        · subst e
          have := hiv j (hj.resolve_right (Ne.symm hkj))
          simp only [Gh.set, if_true, if_neg (Ne.symm hkj)]
          exact .inr (by omega)
        · by_cases e' : j = i
          · subst e'
            have := hiv k (hk.resolve_right e)
            simp only [Gh.set, if_true, if_neg e]
            exact .inl (by omega)
          · simp only [Gh.set, if_neg e, if_neg e']
            exact hdj k j (hk.resolve_right e) (hj.resolve_right e') hkj

/-- the test: the tail begins at m, and of the net only s may come behind its first operation -/
def netB2 (ops : Array Oper) (D : List (List Nat)) (m s : Nat) : Bool := netB ops D (m + 1) && (decide (m < ops.size) && decide (s < m) && (List.range m).all fun j => j == s || (D.getD m []).contains j)
theorem wp_region_net2 {id : Nat} {l : List Oper} {w : World} (hmo : P.follows .mixedOrders = true) (sp : List NS) (D : List (List Nat)) (m s : Nat) (L : List Nat) (hB : netB2 l.toArray D m s = true) (hL : L = (List.range m).filter (fun j => j != s)) (hst : stableAll sp)
    (hdo : netAll P l.toArray sp D a0 w 0 (l.take m))
    (hend : ∀ x w', Below w.heap.size w w' → (∀ i, i < m → known sp D x i w') → (∀ i, i < m → w.heap.size ≤ x.lo i ∧ x.lo i ≤ x.hi i ∧ x.hi i ≤ w'.heap.size) → (∀ i j, i < m → j < m → i ≠ j → x.hi i ≤ x.lo j ∨ x.hi j ≤ x.lo i) → wpList P l.toArray Q (l.drop m) (netAct l.toArray a0 x.v m) w')
    (hend2 : ∀ x w', Below w.heap.size w w' → (∀ i, i < m ∧ i ≠ s → known sp D x i w') → (∀ i, i < m ∧ i ≠ s → w.heap.size ≤ x.lo i ∧ x.lo i ≤ x.hi i ∧ x.hi i ≤ w'.heap.size) → (∀ i j, i < m ∧ i ≠ s → j < m ∧ j ≠ s → i ≠ j → x.hi i ≤ x.lo j ∨ x.hi j ≤ x.lo i) → ∀ om os, l[m]? = some om → l[s]? = some os → wpList P l.toArray Q (om :: os :: l.drop (m + 1)) (L.foldl (fun a k => a.put (dstAt l.toArray k) (x.v k)) a0) w') : (Code.region id l.toArray true).wp P Q a0 w := by
  replace hst := stableAll_spec hst
  subst hL
  simp only [netB2, Bool.and_eq_true, decide_eq_true_eq, List.all_eq_true, List.mem_range, Bool.or_eq_true, beq_iff_eq, List.contains_iff_mem, List.contains_eq_mem] at hB
  obtain ⟨hB, ⟨hms, hsm⟩, hDm⟩ := hB
  have hdo : ∀ i o, i < m → l[i]? = some o → netDo P l.toArray sp D a0 w.drew i o := fun i o hi ho => by
    have := netAll_spec (l.take m) 0 hdo i o (by rw [List.getElem?_take, if_pos hi]; exact ho)
    rw [Nat.zero_add] at this
    exact fun v w1 hb => this v w1 ⟨hb.os, hb.tape, hb.output, hb.size, hb.block⟩
  refine wp_region_any hmo ?_
  have h := net_any2 (w0 := w.drew) (a0 := a0) (Q := Q) (P := P) (sp := sp) (s := s) hB hms hsm (fun j hj hne => (hDm j hj).resolve_left hne) hst (fun i o hi ho => hdo i o hi (by simpa using ho)) (fun x w' hb hk hiv hdj => by simpa using hend x w' (show Below w.heap.size w w' from ⟨hb.os, hb.tape, hb.output, hb.size, hb.block⟩) hk hiv hdj)
    (fun x w' hb hk hiv hdj om os hom hos => by rw [actP_fold]; simpa using hend2 x w' (show Below w.heap.size w w' from ⟨hb.os, hb.tape, hb.output, hb.size, hb.block⟩) hk hiv hdj om os (by simpa using hom) (by simpa using hos))
    l.toArray.size (Array.replicate l.toArray.size false) ⟨fun _ => undef, fun _ => 0, fun _ => 0⟩ w.drew
    (by rw [List.filter_eq_self.2 (fun j _ => by rw [repl_getD]; rfl), List.length_range])
    (by simp) (fun j _ => repl_getD _ _)
    (fun i hi => by rw [repl_getD] at hi; cases hi)
    (Below.refl _ _)
    (fun i hi => by rw [repl_getD] at hi; cases hi)
    (fun i hi => by rw [repl_getD] at hi; cases hi)
    (fun i j hi => by rw [repl_getD] at hi; cases hi)
  have e : actP l.toArray a0 (fun _ => undef) (fun j => (Array.replicate l.toArray.size false).getD j false) l.toArray.size = a0 :=
    actP_none l.toArray.size 0 (by omega) (fun j _ _ => repl_getD _ _)
  rw [e] at h
  exact h
end
end Go.Proofs.Ytjhllgldllbaaaa
