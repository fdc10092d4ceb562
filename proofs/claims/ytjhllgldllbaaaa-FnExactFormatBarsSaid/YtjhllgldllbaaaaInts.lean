/- Lists of ints: the law's copies, comparisons, marks. -/
import Derived.Test.YtjhllgldllbaaaaBase
namespace Go.Proofs.Ytjhllgldllbaaaa
set_option linter.unusedVariables false
set_option linter.unusedSimpArgs false
open Go.RowKit

theorem infoInt : (Try.prog.info? 3).map (fun i => (i.zero, i.size, i.bytes)) = some (some (.int .i64 0), 1, 8) := by kernel_rfl

/-- What is left of a purse behind n elements. -/
def szLeft (left : Int) (n : Nat) : Int := if left < n then -1 else left - n
theorem szIntS_any (A : Option Addr) (n c : Nat) (left : Int) (w : World) (hn : n ≤ 17592186044416) (h0 : 0 ≤ left) (h1 : left ≤ 1048576) :
    Calls Try.prog 58 #[.slice A n c, .int .i64 left] w fun e w' => e = .returned (.int .i64 (szLeft left n)) ∧ w' = w := by
  by_cases h : left < n
  · have h' : left - n < 0 := by omega
    go_enter Try.func58, Try.ntmps58
    go_wp2
    go_ret
    exact ⟨by rw [szLeft, if_pos h]; rfl, rfl⟩
  · have h' : ¬ left - n < 0 := by omega
    go_enter Try.func58, Try.ntmps58
    go_wp2
    go_ret
    exact ⟨by rw [szLeft, if_neg (by omega)]; rfl, rfl⟩

/-- The first k elements of a row of ints are laid. -/
def IntCs (cs : Array Value) (xs : List Int) (k : Nat) : Prop := cs.size = xs.length ∧ ∀ j x, j < k → xs[j]? = some x → cs[j]? = some (.int .i64 x)
theorem IntCs.step {cs : Array Value} {xs : List Int} {k : Nat} {x : Int} (h : IntCs cs xs k) (hx : xs[k]? = some x) : IntCs (cs.setIfInBounds k (.int .i64 x)) xs (k + 1) := by
  obtain ⟨hs, h⟩ := h
  have hk := lt_of_some hx
  refine ⟨by simpa using hs, fun j u hj hu => ?_⟩
  by_cases e : j = k
  · subst e
    rw [hx] at hu
    injection hu with hu
    subst hu
    simp [Array.getElem?_setIfInBounds]; omega
  · rw [Array.getElem?_setIfInBounds, if_neg (by omega)]
    exact h j u (by omega) hu

/-- A row of ints of the call's own. -/
def OwnI (w : World) (base : Nat) (v : Value) (l : List Int) : Prop :=
  w.ownsRow base 3 1 v l.length (l.map (Value.int .i64)) ∧ l.length ≤ 17592186044416 ∧ ∀ x ∈ l, I64 x
theorem OwnI.nil (w : World) (base : Nat) : OwnI w base (.slice none 0 0) [] := ⟨World.ownsRow_nil _ _ _ _, by simp, by simp⟩
theorem OwnI.rd {w : World} {base : Nat} {v : Value} {l : List Int} (h : OwnI w base v l) : SlI w w.heap.size v l := by
  obtain ⟨h1, h2, h3⟩ := h
  rcases h1.2 with ⟨rfl, h0⟩ | ⟨g, cap, cur, rfl, _, hg, hnc, hcm, hcs, htake⟩
  · obtain rfl : l = [] := List.eq_nil_of_length_eq_zero h0
    exact SlG.nil
  · refine ⟨_, _, rfl, hnc, by simp only [maxLen] at hcm; omega, h2, fun hp => ⟨g, 0, rfl, (Array.getElem?_eq_some_iff.1 hg).1, fun j x hj => ⟨?_, h3 x (List.mem_of_getElem? hj)⟩⟩⟩
    have hc := h1.cellAt j (by have := lt_of_some hj; omega)
    rw [show 0 + j * 1 = j by omega, hc]
    simp [hj]
theorem OwnI.below {w w' : World} {base : Nat} {v : Value} {l : List Int} (h : OwnI w base v l) (hb : Below w.heap.size w w') : OwnI w' base v l :=
  ⟨h.1.kept (row := none) ⟨hb.os, hb.tape, hb.output, hb.size, fun k hk _ => hb.block k hk⟩ (by cases v.ownBlock <;> simp), h.2⟩
theorem OwnI.lower {w : World} {base base' : Nat} {v : Value} {l : List Int} (h : OwnI w base v l) (hb : base' ≤ base) : OwnI w base' v l := by
  obtain ⟨⟨h0, h1⟩, h2⟩ := h
  refine ⟨⟨h0, ?_⟩, h2⟩
  rcases h1 with h1 | ⟨g, cap, cur, e, hg, rest⟩
  · exact .inl h1
  · exact .inr ⟨g, cap, cur, e, by omega, rest⟩
/-- a block that is known whole is a row of the call's own -/
theorem OwnI.of_blk {w : World} {base g : Nat} {cs : Array Value} {xs : List Int} (hb : Blk w g 3 cs) (hg : base ≤ g) (hcs : IntCs cs xs xs.length) (hn : xs.length ≤ 17592186044416) (hr : ∀ x ∈ xs, I64 x) :
    OwnI w base (.slice (some ⟨g, 0, none⟩) xs.length xs.length) xs := by
  refine ⟨⟨by simp, .inr ⟨g, xs.length, cs, rfl, hg, hb, Nat.le_refl _, by simp only [maxLen]; omega, by rw [hcs.1]; omega, ?_⟩⟩, hn, hr⟩
  apply List.ext_getElem?
  intro j
  by_cases hj : j < xs.length
  · rw [List.getElem?_take, if_pos (by omega), Array.getElem?_toList, hcs.2 j _ hj (List.getElem?_eq_getElem hj)]
    simp [hj]
  · rw [List.getElem?_take, if_neg (by omega)]
    simp [Nat.le_of_not_lt hj]
theorem SlI.i64 {w : World} {B : Nat} {v : Value} {l : List Int} (h : SlI w B v l) : ∀ x ∈ l, I64 x := by
  obtain ⟨A, c, _, _, _, _, h4⟩ := h
  intro x hx
  obtain ⟨j, hj⟩ := List.getElem?_of_mem hx
  obtain ⟨_, _, _, _, hr⟩ := h4 (by have := lt_of_some hj; omega)
  exact (hr j x hj).2

set_option maxHeartbeats 400000 in
theorem toIntS_own (u : Value) (xs : List Int) (w : World) (hu : SlI w w.heap.size u xs) (hn : xs.length ≤ 1048576) :
    Calls Try.prog 34 #[u] w fun e w' => ∃ v, e = .returned v ∧ OwnI w' w.heap.size v xs ∧ Below w.heap.size w w' := by
  obtain ⟨A, c, rfl, _, _, _, hx⟩ := hu.open_
  clear hu
  obtain ⟨i0, hi, hz0, hz1, hz2⟩ := info_parts infoInt
  have hmk := run_mk (P := Try.prog) Try.underlying22 hi hz0 (n := xs.length) (by rw [hz2]; omega) (by omega)
  rw [hz1] at hmk
  clear hi hz0 hz1 hz2
  go_enter Try.func34, Try.ntmps34
  go_wp2
  go_loopw [4] (fun i wr => ∃ (k : Nat) (cs : Array Value), k ≤ xs.length ∧ i = .int .i64 k ∧ Below w.heap.size w wr ∧ Blk wr w.heap.size 3 cs ∧ IntCs cs xs k) (fun i _ => xs.length - (intOf i).toNat)
  case atStart => exact ⟨0, _, Nat.zero_le _, rfl, (Below.refl _ _).alloc (Nat.le_refl _) _, Blk.new _ _ _, by rw [mkCells_size], fun j x h => absurd h (by omega)⟩
  case round =>
    obtain ⟨k, cs, hk, rfl, hbel, hblk, hcs⟩ := hrel
    by_cases hlt : k < xs.length
    · obtain ⟨b, o, x, rfl, hb, HX, c1, _⟩ := SlI.at_ hx hlt
      have d1 := bcell hbel hb c1
      have f0 := hblk.frozen
      obtain ⟨v0, e0⟩ : ∃ v0, wr.cell? ⟨w.heap.size, k, none⟩ = some v0 := by rw [hblk.cell]; have := hcs.1; exact ⟨_, Array.getElem?_eq_getElem (by omega)⟩
      clear c1 hx
      go_wp2
      go_roundw
      case rel => exact ⟨k + 1, _, by omega, by go_num, hbel.setCell (by simp) _, hblk.set_ _ _, hcs.step HX.out⟩
      case measure => simp [intOf]; omega
    · go_wp2
      go_ret
      obtain rfl : k = xs.length := by omega
      exact ⟨_, rfl, OwnI.of_blk hblk (Nat.le_refl _) hcs (by omega) (SlI.i64 hx), hbel⟩
theorem toIntS_any (u : Value) (xs : List Int) (w : World) (hu : SlI w w.heap.size u xs) (hn : xs.length ≤ 1048576) :
    Calls Try.prog 34 #[u] w fun e w' => ∃ v, e = .returned v ∧ SlI w' w'.heap.size v xs ∧ Below w.heap.size w w' :=
  (toIntS_own u xs w hu hn).mono fun _ _ ⟨v, h1, h2, h3⟩ => ⟨v, h1, h2.rd, h3⟩

set_option maxHeartbeats 400000 in
theorem eqIntS_any (u v : Value) (xs ys : List Int) (w : World) (hu : SlI w w.heap.size u xs) (hv : SlI w w.heap.size v ys) :
    Calls Try.prog 36 #[u, v] w fun e w' => e = .returned (.bool (decide (xs = ys))) ∧ Below w.heap.size w w' := by
  obtain ⟨A, c, rfl, _, _, hn, hx⟩ := hu.open_
  obtain ⟨C, d, rfl, _, _, hm, hy⟩ := hv.open_
  clear hu hv
  by_cases hnm : xs.length = ys.length
  · have heq : ((xs.length : Int) != ys.length) = false := by rw [bne_eq_false_iff_eq]; omega
    have HN := Lib.hid hnm
    clear hnm
    go_enter Try.func36, Try.ntmps36
    go_wp2
    go_loopw [5] (fun i wr => ∃ k q : Nat, k ≤ xs.length ∧ i = .int .i64 k ∧ wr = w.drewN q ∧ Hid (xs.take k = ys.take k)) (fun i _ => xs.length - (intOf i).toNat)
    case atStart => exact ⟨0, 0, Nat.zero_le _, rfl, rfl, rfl⟩
    case round =>
      obtain ⟨k, q, hk, rfl, rfl, hxy⟩ := hrel
      by_cases hlt : k < xs.length
      · have hlt' : k < ys.length := by have := HN.out; omega
        obtain ⟨b, o, x, rfl, hb, HX, c1, _⟩ := SlI.at_ hx hlt
        obtain ⟨b', o', x', rfl, hb', HX', c1', _⟩ := SlI.at_ hy hlt'
        clear hx hy
        by_cases hE : x = x'
        · subst hE
          go_wp2
          go_quiet (fail)
          go_wp2
          go_roundw
          case rel =>
            refine ⟨k + 1, q + nq, by omega, by go_num, rfl, ?_⟩
            show _ = _
            rw [take_snoc HX.out, take_snoc HX'.out, hxy.out]
          case measure => simp [intOf]; omega
        · have hne : (x != x') = true := by simpa using hE
          have hxy' : Hid (xs ≠ ys) := by
            rintro rfl
            have h2 := HX.out
            rw [HX'.out] at h2
            exact hE (by injection h2 with h2; exact h2.symm)
          clear hE
          go_wp2
          go_quiet (fail)
          go_wp2
          go_ret
          exact ⟨by rw [decide_eq_false hxy'.out]; rfl, below_drewN (drewN_below _ _ _) _⟩
      · go_wp2
        go_ret
        refine ⟨?_, drewN_below _ _ _⟩
        have h1 := hxy.out
        rw [List.take_of_length_le (by omega), List.take_of_length_le (by have := HN.out; omega)] at h1
        simp [h1]
  · have hne : ((xs.length : Int) != ys.length) = true := by rw [bne_iff_ne]; omega
    go_enter Try.func36, Try.ntmps36
    go_wp2
    go_ret
    refine ⟨?_, Below.refl _ _⟩
    rw [decide_eq_false (by rintro rfl; omega)]; rfl

/-- Marks: k, k + 1, .. -/
def mkI (k : Int) (n : Nat) : List Int := (List.range n).map fun i : Nat => k + (i : Int)
theorem mkI_length (k : Int) (n : Nat) : (mkI k n).length = n := by simp [mkI]
theorem mkI_get {k : Int} {n j : Nat} (h : j < n) : (mkI k n)[j]? = some (k + j) := by simp [mkI, h]
theorem mkI_mem {k x : Int} {n : Nat} (h : x ∈ mkI k n) : k ≤ x ∧ x < k + n := by
  simp only [mkI, List.mem_map, List.mem_range] at h
  obtain ⟨i, hi, rfl⟩ := h
  omega
theorem mk_set (k : Int) (l : List Int) (j : Nat) (hj : j < l.length) :
    (((mkI k j).map (Value.int .i64) ++ (l.map (Value.int .i64)).drop j).set j (.int .i64 (k + j))) = (mkI k (j + 1)).map (Value.int .i64) ++ (l.map (Value.int .i64)).drop (j + 1) := by
  apply List.ext_getElem?
  intro i
  rw [List.getElem?_set]
  by_cases e : j = i
  · subst e
    rw [if_pos rfl, if_pos (by simp [mkI_length]; omega), List.getElem?_append_left (by simp [mkI_length])]
    rw [List.getElem?_map, mkI_get (by omega)]; rfl
  · rw [if_neg e]
    by_cases hi : i < j
    · rw [List.getElem?_append_left (by simp [mkI_length, hi]), List.getElem?_append_left (by simp [mkI_length]; omega)]
      rw [List.getElem?_map, List.getElem?_map, mkI_get hi, mkI_get (by omega)]
    · rw [List.getElem?_append_right (by simp [mkI_length]; omega), List.getElem?_append_right (by simp [mkI_length]; omega)]
      simp only [List.length_map, mkI_length, List.getElem?_drop]
      congr 1
      omega

set_option maxHeartbeats 400000 in
theorem markIntS_any (v : Value) (l : List Int) (k : Int) (base : Nat) (w : World) (hv : OwnI w base v l) (h0 : 0 ≤ k) (h1 : k ≤ 1152921504606846976) :
    Calls Try.prog 51 #[v, .int .i64 k] w fun e w' => e = .returned (.int .i64 (k + l.length)) ∧ OwnI w' base v (mkI k l.length) ∧ w.grownBy w' v.ownBlock := by
  obtain ⟨ho, hn, hr⟩ := hv
  have ho' := ho
  rcases ho.2 with ⟨rfl, hl0⟩ | ⟨g, cap, cur, rfl, hbg, hgg, hnc, hcm, _⟩
  · obtain rfl : l = [] := List.eq_nil_of_length_eq_zero hl0
    go_enter Try.func51, Try.ntmps51
    go_wp2
    refine wp_loop_rounds 1 ?_
    rw [rounds_succ]
    go_wp2
    go_ret
    refine ⟨by simp, ?_, World.grownBy.refl _ _⟩
    exact OwnI.nil _ _
  · have hgl : g < w.heap.size := (Array.getElem?_eq_some_iff.1 hgg).1
    clear ho' hgg
    go_enter Try.func51, Try.ntmps51
    go_wp2
    go_loopw [1, 5] (fun q i wr => ∃ j : Nat, j ≤ l.length ∧ i = .int .i64 j ∧ q = .int .i64 (k + j) ∧ wr.ownsRow base 3 1 (.slice (some ⟨g, 0, none⟩) l.length cap) l.length ((mkI k j).map (Value.int .i64) ++ (l.map (Value.int .i64)).drop j) ∧ w.grownBy wr (some g)) (fun _ i _ => l.length - (intOf i).toNat)
    case atStart => exact ⟨0, Nat.zero_le _, rfl, by simp, by simpa [mkI] using ho, World.grownBy.refl _ _⟩
    case round =>
      obtain ⟨j, hj, rfl, rfl, hown, hgr⟩ := hrel
      by_cases hlt : j < l.length
      · have c0 := hown.cellAt j (by omega)
        have f0 := hown.frozenAt j
        have hlen : j < ((mkI k j).map (Value.int .i64) ++ (l.map (Value.int .i64)).drop j).length := by simp [mkI_length]; omega
        rw [List.getElem?_eq_getElem hlen] at c0
        obtain ⟨v0, c0'⟩ : ∃ v0, wr.cell? ⟨g, j, none⟩ = some v0 := ⟨_, c0⟩
        have hst := hown.stored j (.int .i64 (k + j))
        rw [mk_set k l j hlt] at hst
        clear c0 hown hlen ho
        go_wp2
        go_roundw
        case rel => exact ⟨j + 1, by omega, by go_num, by congr 1; omega, hst.1, ⟨hst.2.os.trans hgr.os, hst.2.tape.trans hgr.tape, hst.2.output.trans hgr.output, Nat.le_trans hgr.size hst.2.size, fun b hb hne => (hst.2.block b (Nat.lt_of_lt_of_le hb hgr.size) hne).trans (hgr.block b hb hne)⟩⟩
        case measure => simp [intOf]; omega
      · obtain rfl : j = l.length := by omega
        go_wp2
        go_ret
        refine ⟨rfl, ⟨?_, by rw [mkI_length]; exact hn, fun x hx => ?_⟩, hgr⟩
        · rw [List.drop_of_length_le (by simp), List.append_nil] at hown
          rw [mkI_length]; exact hown
        · have := mkI_mem hx
          exact ⟨by omega, by omega⟩

set_option maxHeartbeats 400000 in
theorem heldIntS_any (v : Value) (n : Nat) (k : Int) (B : Nat) (w : World) (hv : SlI w B v (mkI k n)) (h0 : 0 ≤ k) (h1 : k ≤ 1152921504606846976) :
    Calls Try.prog 52 #[v, .int .i64 k] w fun e w' => e = .returned (.int .i64 (k + n)) ∧ Below w.heap.size w w' := by
  obtain ⟨A, c, rfl, _, _, hn, hx⟩ := hv.open_
  have HL := Lib.hid (mkI_length k n)
  clear hv
  go_enter Try.func52, Try.ntmps52
  go_wp2
  go_loopw [1, 5] (fun q i wr => ∃ (j : Nat) (m : Nat), j ≤ (mkI k n).length ∧ i = .int .i64 j ∧ q = .int .i64 (k + j) ∧ wr = w.drewN m) (fun _ i _ => (mkI k n).length - (intOf i).toNat)
  case atStart => exact ⟨0, 0, Nat.zero_le _, rfl, by simp, rfl⟩
  case round =>
    obtain ⟨j, m, hj, rfl, rfl, rfl⟩ := hrel
    by_cases hlt : j < (mkI k n).length
    · obtain ⟨b, o, x, rfl, hb, HX, c1, _⟩ := SlI.at_ hx hlt
      have hx' : x = k + j := by
        have := HX.out
        rw [mkI_get (by have := HL.out; omega)] at this
        injection this with this
        exact this.symm
      subst hx'
      clear hx
      go_wp2
      go_roundw
      case rel => exact ⟨j + 1, _, by omega, by go_num, by congr 1; omega, rfl⟩
      case measure => simp [intOf]; omega
    · obtain hjn : j = n := by have := HL.out; omega
      subst hjn
      go_wp2
      go_ret
      exact ⟨rfl, drewN_below _ _ _⟩
end Go.Proofs.Ytjhllgldllbaaaa
