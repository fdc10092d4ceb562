/- What every law goes through: lists of matrices. -/
import Derived.Test.YtjhllgldllbaaaaKitM
namespace Go.Proofs.Ytjhllgldllbaaaa
set_option linter.unusedVariables false
set_option linter.unusedSimpArgs false
open Go.RowKit

theorem infoMx : (Try.prog.info? 75).map (fun i => (i.zero, i.size, i.bytes)) = some (some (.agg #[.int .i64 0, .int .i64 0, .slice none 0 0]), 3, 40) := by kernel_rfl

def totA (ms : List Mx) : Nat := tot (ms.map Mx.a)
def szM (ms : List Mx) : Nat := ms.length + totA ms
def totM (ms : List Mx) : Nat := (ms.map fun m => 2 + m.a.length).sum
theorem totM_eq (ms : List Mx) : totM ms = 2 * ms.length + totA ms := by
  induction ms with
  | nil => rfl
  | cons m ms ih =>
    simp only [totM, totA, tot, List.map_cons, List.sum_cons, List.length_cons] at ih ⊢
    omega
theorem totM_snoc (ms : List Mx) (m : Mx) : totM (ms ++ [m]) = totM ms + (2 + m.a.length) := by simp [totM]
theorem totM_take_le (ms : List Mx) (k : Nat) : totM (ms.take k) ≤ totM ms := by
  have : totM ms = totM (ms.take k) + totM (ms.drop k) := by simp only [totM, ← List.sum_append, ← List.map_append, List.take_append_drop]
  omega
theorem totA_snoc (ms : List Mx) (m : Mx) : totA (ms ++ [m]) = totA ms + m.a.length := by simp [totA, tot]
theorem totA_take_le (ms : List Mx) (k : Nat) : totA (ms.take k) ≤ totA ms := by
  have : totA ms = totA (ms.take k) + totA (ms.drop k) := by simp only [totA, tot, ← List.sum_append, ← List.map_append, List.take_append_drop]
  omega
theorem totA_mem {ms : List Mx} {m : Mx} (h : m ∈ ms) : m.a.length ≤ totA ms := tot_mem (List.mem_map_of_mem h)

/-- marks, matrix by matrix -/
def mkMS : Int → List Mx → List Mx
  | _, [] => []
  | k, m :: r => ⟨k, k + 1, mkI (k + 1 + 1) m.a.length⟩ :: mkMS (k + 1 + 1 + m.a.length) r
theorem mkMS_length : ∀ (ms : List Mx) (k : Int), (mkMS k ms).length = ms.length
  | [], _ => rfl
  | _ :: r, _ => by simp [mkMS, mkMS_length r]
theorem mkMS_get : ∀ (ms : List Mx) (k : Int) (j : Nat) (m : Mx), ms[j]? = some m → (mkMS k ms)[j]? = some ⟨k + totM (ms.take j), k + totM (ms.take j) + 1, mkI (k + totM (ms.take j) + 1 + 1) m.a.length⟩
  | [], _, _, _, h => by simp at h
  | a :: r, k, 0, m, h => by
    simp at h
    subst h
    simp [mkMS, totM]
  | a :: r, k, j + 1, m, h => by
    simp only [List.getElem?_cons_succ] at h
    have e : k + 1 + 1 + (a.a.length : Int) + (totM (r.take j) : Int) = k + (totM ((a :: r).take (j + 1)) : Int) := by simp only [totM, List.take_succ_cons, List.map_cons, List.sum_cons]; omega
    simp only [mkMS, List.getElem?_cons_succ, mkMS_get r (k + 1 + 1 + a.a.length) j m h, e]
theorem mkMS_snoc : ∀ (ms : List Mx) (k : Int) (m : Mx), mkMS k (ms ++ [m]) = mkMS k ms ++ [⟨k + totM ms, k + totM ms + 1, mkI (k + totM ms + 1 + 1) m.a.length⟩]
  | [], k, m => by simp [mkMS, totM]
  | a :: r, k, m => by
    have e : k + 1 + 1 + (a.a.length : Int) + (totM r : Int) = k + (totM (a :: r) : Int) := by simp only [totM, List.map_cons, List.sum_cons]; omega
    simp only [List.cons_append, mkMS, mkMS_snoc r, e]
/-- behind j rounds of marking -/
def mkMTo (k : Int) (ms : List Mx) (j : Nat) : List Mx := mkMS k (ms.take j) ++ ms.drop j
theorem mkMTo_length (k : Int) (ms : List Mx) (j : Nat) (hj : j ≤ ms.length) : (mkMTo k ms j).length = ms.length := by
  rw [mkMTo, List.length_append, mkMS_length]; simp; omega
theorem mkMTo_get {k : Int} {ms : List Mx} {j : Nat} {m : Mx} (h : ms[j]? = some m) : (mkMTo k ms j)[j]? = some m := by
  have hj := lt_of_some h
  rw [mkMTo, List.getElem?_append_right (by rw [mkMS_length]; simp; omega), mkMS_length, List.getElem?_drop, List.length_take, Nat.min_eq_left (by omega)]
  simpa using h
theorem mkMTo_succ {k : Int} {ms : List Mx} {j : Nat} {m : Mx} (h : ms[j]? = some m) : (mkMTo k ms j).set j ⟨k + totM (ms.take j), k + totM (ms.take j) + 1, mkI (k + totM (ms.take j) + 1 + 1) m.a.length⟩ = mkMTo k ms (j + 1) := by
  have hj := lt_of_some h
  have hlen : (mkMS k (ms.take j)).length = j := by rw [mkMS_length]; simp; omega
  rw [mkMTo, List.set_append, hlen, if_neg (by omega), Nat.sub_self, List.drop_eq_getElem_cons hj]
  rw [mkMTo, take_snoc h, mkMS_snoc, List.append_assoc]
  rfl

set_option maxHeartbeats 800000 in
theorem eqMatrixS_any (u v : Value) (xs ys : List Mx) (w : World) (hu : SlM w w.heap.size u xs) (hv : SlM w w.heap.size v ys) :
    Calls Try.prog 67 #[u, v] w fun e w' => e = .returned (.bool (decide (xs = ys))) ∧ Below w.heap.size w w' := by
  obtain ⟨A, c, rfl, _, _, hn, hx⟩ := hu.open_
  obtain ⟨C, d, rfl, _, _, hm, hy⟩ := hv.open_
  clear hu hv
  by_cases hnm : xs.length = ys.length
  · have heq : ((xs.length : Int) != ys.length) = false := by rw [bne_eq_false_iff_eq]; omega
    have HN := Lib.hid hnm
    clear hnm
    go_enter Try.func67, Try.ntmps67
    go_wp2
    go_loopw [5] (fun i wr => ∃ k : Nat, k ≤ xs.length ∧ i = .int .i64 k ∧ Below w.heap.size w wr ∧ Hid (xs.take k = ys.take k)) (fun i _ => xs.length - (intOf i).toNat)
    case atStart => exact ⟨0, Nat.zero_le _, rfl, Below.refl _ _, rfl⟩
    case round =>
      obtain ⟨k, hk, rfl, hbel, hxy⟩ := hrel
      by_cases hlt : k < xs.length
      · have hlt' : k < ys.length := by have := HN.out; omega
        obtain ⟨b, o, x, A', c', rfl, hb, HX, x1, x2, x3, hsx, hx4, hx5, _⟩ := SlM.at_ hx hlt
        obtain ⟨b', o', y, C', d', rfl, hb', HY, y1, y2, y3, hsy, hy4, hy5, _⟩ := SlM.at_ hy hlt'
        clear hx hy
        have s := hbel.size
        have d1 := InB.cell (w := wr) (by omega) (bcell hbel hb x1)
        have d2 := InB.cell (w := wr) (by omega) (bcell hbel hb x2)
        have d3 := InB.cell (w := wr) (by omega) (bcell hbel hb x3)
        have e1 := InB.cell (w := wr) (by omega) (bcell hbel hb' y1)
        have e2 := InB.cell (w := wr) (by omega) (bcell hbel hb' y2)
        have e3 := InB.cell (w := wr) (by omega) (bcell hbel hb' y3)
        have hsx' : ∀ s : InB wr, MxR s.val s.val.heap.size (.agg #[.int .i64 x.r, .int .i64 x.c, .slice A' x.a.length c']) x := fun t => ⟨_, rfl, SlI.next t.below (SlI.more s (SlI.below hbel hsx)), hx4, hx5⟩
        have hsy' : ∀ s : InB wr, MxR s.val s.val.heap.size (.agg #[.int .i64 y.r, .int .i64 y.c, .slice C' y.a.length d']) y := fun t => ⟨_, rfl, SlI.next t.below (SlI.more s (SlI.below hbel hsy)), hy4, hy5⟩
        have HSX := Lib.hid hsx'
        have HSY := Lib.hid hsy'
        clear x1 x2 x3 y1 y2 y3 hsx hsy hsx' hsy' hx4 hx5 hy4 hy5
        by_cases hE : x = y
        · have hdE : decide (x = y) = true := by simpa using hE
          have hst := Lib.hid (show xs.take (k + 1) = ys.take (k + 1) by rw [take_snoc HX.out, take_snoc HY.out, hxy.out, hE])
          clear hE
          go_wp2
          (refine wp_region_inB (by kernel_rfl) (by kernel_rfl) ?_; (repeat (go_big_quiet_step ((go_at_call 126; exact InB.call (eqMatrix_any _ _ x y _ (HSX.out _) (HSY.out _)))))); refine wpQuiet_nil ?_; intro w1 hw'; obtain ⟨s1, hw1⟩ := hw'; have hb1 := s1.below; rw [← hw1] at hb1; clear hw1 s1)
          go_wp2
          go_roundw
          case rel => exact ⟨k + 1, by omega, by go_num, hbel.trans (hb1.mono s), hst.out⟩
          case measure => simp [intOf]; omega
        · have hdE : decide (x = y) = false := by simpa using hE
          have hne : Hid (xs ≠ ys) := by
            rintro rfl
            have h2 := HX.out
            rw [HY.out] at h2
            exact hE (by injection h2 with h2; exact h2.symm)
          clear hE
          go_wp2
          (refine wp_region_inB (by kernel_rfl) (by kernel_rfl) ?_; (repeat (go_big_quiet_step ((go_at_call 126; exact InB.call (eqMatrix_any _ _ x y _ (HSX.out _) (HSY.out _)))))); refine wpQuiet_nil ?_; intro w1 hw'; obtain ⟨s1, hw1⟩ := hw'; have hb1 := s1.below; rw [← hw1] at hb1; clear hw1 s1)
          go_wp2
          go_ret
          exact ⟨by rw [decide_eq_false hne.out]; rfl, hbel.trans (hb1.mono s)⟩
      · go_wp2
        go_ret
        refine ⟨?_, hbel⟩
        have h1 := hxy.out
        rw [List.take_of_length_le (by omega), List.take_of_length_le (by have := HN.out; omega)] at h1
        simp [h1]
  · have hne : ((xs.length : Int) != ys.length) = true := by rw [bne_iff_ne]; omega
    go_enter Try.func67, Try.ntmps67
    go_wp2
    go_ret
    refine ⟨?_, Below.refl _ _⟩
    rw [decide_eq_false (by rintro rfl; omega)]; rfl

set_option maxHeartbeats 800000 in
theorem szMatrixS_any (u : Value) (xs : List Mx) (left : Int) (w : World) (hu : SlM w w.heap.size u xs) (h0 : 0 ≤ left) (h1 : left ≤ 1048576) :
    Calls Try.prog 95 #[u, .int .i64 left] w fun e w' => e = .returned (.int .i64 (szLeft left (szM xs))) ∧ Below w.heap.size w w' := by
  obtain ⟨A, c, rfl, _, _, hn, hx⟩ := hu.open_
  clear hu
  by_cases h2 : left < xs.length
  · have h' : left - xs.length < 0 := by omega
    have e : szLeft left (szM xs) = -1 := by rw [szLeft, if_pos (by simp only [szM]; omega)]
    rw [e]
    clear e
    go_enter Try.func95, Try.ntmps95
    go_wp2
    go_ret
    exact ⟨rfl, Below.refl _ _⟩
  have h' : ¬ left - (xs.length : Int) < 0 := by omega
  go_enter Try.func95, Try.ntmps95
  go_wp2
  go_loopw [1, 5] (fun q i wr => ∃ (k : Nat), k ≤ xs.length ∧ i = .int .i64 k ∧ q = .int .i64 (left - xs.length - totA (xs.take k)) ∧ Below w.heap.size w wr ∧ ((totA (xs.take k) : Nat) : Int) ≤ left - xs.length) (fun _ i _ => xs.length - (intOf i).toNat)
  case atStart => exact ⟨0, Nat.zero_le _, rfl, by simp [totA, tot], Below.refl _ _, by simp [totA, tot]; omega⟩
  case round =>
    obtain ⟨k, hk, rfl, rfl, hbel, hle⟩ := hrel
    obtain ⟨t, ht⟩ : ∃ t, totA (xs.take k) = t := ⟨_, rfl⟩
    rw [ht] at hle ⊢
    by_cases hlt : k < xs.length
    · obtain ⟨b, o, m, A', c', rfl, hb, HX, x1, x2, x3, hsl, hr4, hr5, hll⟩ := SlM.at_ hx hlt
      have d1 := bcell hbel hb x1
      have d2 := bcell hbel hb x2
      have d3 := bcell hbel hb x3
      have hmx : MxR wr wr.heap.size (.agg #[.int .i64 m.r, .int .i64 m.c, .slice A' m.a.length c']) m := ⟨_, rfl, SlI.more hbel.size (SlI.below hbel hsl), hr4, hr5⟩
      have htk : totA (xs.take (k + 1)) = t + m.a.length := by rw [take_snoc HX.out, totA_snoc, ht]
      have htt := totA_take_le xs (k + 1)
      rw [htk] at htt
      have HTK := Lib.hid htk
      clear hx htk ht x1 x2 x3 hsl hr4 hr5
      by_cases h3 : left - xs.length - t < m.a.length
      · have s1 : szLeft (left - xs.length - t) m.size = -1 := by rw [Mx.size, szLeft, if_pos h3]
        have hfin := Lib.hid (show szLeft left (szM xs) = -1 by rw [szLeft, if_pos (by simp only [szM]; omega)])
        go_wp2_with fail
        refine (szMatrix_any _ m _ _ (by first | exact hmx | exact MxR.next (drew_below _) hmx) (by omega) (by omega)).mono ?_; rintro e w' ⟨rfl, hb1⟩
        rw [s1]
        go_wp2
        go_ret
        exact ⟨by rw [hfin.out]; rfl, hbel.trans (hb1.mono hbel.size)⟩
      · have s1 : szLeft (left - xs.length - t) m.size = left - xs.length - t - m.a.length := by rw [Mx.size, szLeft, if_neg h3]
        have n1 : ¬ left - (xs.length : Int) - t - m.a.length < 0 := by omega
        go_wp2_with fail
        refine (szMatrix_any _ m _ _ hmx (by omega) (by omega)).mono ?_; rintro e w' ⟨rfl, hb1⟩
        rw [s1]
        go_wp2
        go_roundw
        case rel => exact ⟨k + 1, by omega, by go_num, by rw [HTK.out]; congr 1; omega, hbel.trans (hb1.mono hbel.size), by rw [HTK.out]; omega⟩
        case measure => simp [intOf]; omega
    · have hfin := Lib.hid (show szLeft left (szM xs) = left - xs.length - t by
        rw [← ht, List.take_of_length_le (by omega)] at hle ⊢
        rw [szLeft, if_neg (by simp only [szM]; omega)]; simp only [szM]; omega)
      clear ht
      go_wp2
      go_ret
      exact ⟨by rw [hfin.out]; rfl, hbel⟩

/-- the first matrices of a row are laid -/
def MatCs (cs : Array Value) (n : Nat) (vs : List Value) (ms : List Mx) : Prop := cs.size = n * 3 ∧ vs.length ≤ n ∧ ∀ (j : Nat) (v : Value) (m : Mx), vs[j]? = some v → ms[j]? = some m → cs[j * 3]? = some (.int .i64 m.r) ∧ cs[j * 3 + 1]? = some (.int .i64 m.c) ∧ cs[j * 3 + 2]? = some v
theorem MatCs.step {cs : Array Value} {n : Nat} {vs : List Value} {ms : List Mx} {v : Value} {m : Mx} (h : MatCs cs n vs ms) (hn : vs.length < n) (hm : ms[vs.length]? = some m) :
    MatCs (((cs.setIfInBounds (vs.length * 3) (.int .i64 m.r)).setIfInBounds (vs.length * 3 + 1) (.int .i64 m.c)).setIfInBounds (vs.length * 3 + 2) v) n (vs ++ [v]) ms := by
  obtain ⟨h1, h2, h3⟩ := h
  refine ⟨by simpa using h1, by simp; omega, fun j u x hu hx => ?_⟩
  by_cases e : j = vs.length
  · subst e
    rw [List.getElem?_append_right (Nat.le_refl _)] at hu
    simp at hu
    subst hu
    rw [hm] at hx
    injection hx with hx
    subst hx
    refine ⟨?_, ?_, ?_⟩ <;> simp [Array.getElem?_setIfInBounds] <;> omega
  · have hj : j < vs.length := by have := lt_of_some hu; simp at this; omega
    rw [List.getElem?_append_left hj] at hu
    obtain ⟨a, b, c⟩ := h3 j u x hu hx
    refine ⟨?_, ?_, ?_⟩ <;> simp only [Array.getElem?_setIfInBounds] <;> (repeat rw [if_neg (by omega)]) <;> assumption
theorem MatCs.own {w : World} {g lo : Nat} {cs : Array Value} {vs : List Value} {ms : List Mx} (h : MatCs cs ms.length vs ms) (hl : vs.length = ms.length) (hb : Blk w g 75 cs) (hlo : lo ≤ g) (hn : ms.length ≤ 17592186044416) : OutM w lo w.heap.size (.slice (some ⟨g, 0, none⟩) ms.length ms.length) vs ms := by
  have e : cs.toList.take (ms.length * 3) = mxCs vs ms := by
    apply List.ext_getElem?
    intro i
    by_cases hi : i < ms.length * 3
    · obtain ⟨k, r, rfl, hr⟩ : ∃ k r, i = k * 3 + r ∧ r < 3 := ⟨i / 3, i % 3, by omega, by omega⟩
      have hj : k < ms.length := by omega
      obtain ⟨a, b, c⟩ := h.2.2 k _ _ (List.getElem?_eq_getElem (by omega : k < vs.length)) (List.getElem?_eq_getElem hj)
      obtain ⟨a', b', c'⟩ := mxCs_get (List.getElem?_eq_getElem (by omega : k < vs.length)) (List.getElem?_eq_getElem hj)
      rw [List.getElem?_take, if_pos hi, Array.getElem?_toList]
      rcases (show r = 0 ∨ r = 1 ∨ r = 2 by omega) with rfl | rfl | rfl
      · rw [Nat.add_zero, a, a']
      · rw [b, b']
      · rw [c, c']
    · rw [List.getElem?_take, if_neg hi, List.getElem?_eq_none (by rw [mxCs_length _ _ hl]; omega)]
  have := hb.own (base := lo) (n := ms.length) (cap := ms.length) (size := 3) hlo (Nat.le_refl _) (by simp only [maxLen]; omega) (by rw [h.1])
  rw [e] at this
  exact ⟨this, fun k hk => by simp [Value.ownBlock] at hk; subst hk; exact hb.lt, hn⟩

set_option maxHeartbeats 800000 in
theorem mats_to (u : Value) (xs : List Mx) (w : World) (hu : SlM w w.heap.size u xs) (hn : xs.length ≤ 1048576) (hm : ∀ m ∈ xs, m.size ≤ 1048576) :
    Calls Try.prog 98 #[u] w fun e w' => ∃ v, e = .returned v ∧ MatsO w' w.heap.size w'.heap.size v xs ∧ Below w.heap.size w w' := by
  obtain ⟨A, c, rfl, _, _, _, hx⟩ := hu.open_
  clear hu
  have hxI : Hid (∀ m ∈ xs, I64 m.r ∧ I64 m.c) := fun m hm => by
    obtain ⟨j, hj⟩ := List.getElem?_of_mem hm
    obtain ⟨_, _, m', _, _, _, _, HX, _, _, _, _, h1, h2, _⟩ := SlM.at_ hx (lt_of_some hj)
    have := HX.out
    rw [hj] at this
    injection this with this
    subst this
    exact ⟨h1, h2⟩
  obtain ⟨i0, hi, hz0, hz1, hz2⟩ := info_parts infoMx
  have hmk := run_mk (P := Try.prog) Try.underlying27 hi hz0 (n := xs.length) (by rw [hz2]; omega) (by omega)
  rw [hz1] at hmk
  have HM := Lib.hid hm
  clear hi hz0 hz1 hz2 hm
  go_enter Try.func98, Try.ntmps98
  go_wp2
  go_loopw [4] (fun i wr => ∃ (cs : Array Value) (vs : List Value), vs.length ≤ xs.length ∧ i = .int .i64 vs.length ∧ Below w.heap.size w wr ∧ Blk wr w.heap.size 75 cs ∧ MatCs cs xs.length vs xs ∧ Fam wr w.heap.size wr.heap.size (vs.zip ((xs.take vs.length).map Mx.a))) (fun i _ => xs.length - (intOf i).toNat)
  case atStart => exact ⟨_, [], Nat.zero_le _, rfl, (Below.refl _ _).alloc (Nat.le_refl _) _, Blk.new _ _ _, ⟨by simp [mkCells_size], by simp, fun j v m h => by simp at h⟩, ⟨fun p hp => by simp at hp, by simp⟩⟩
  case round =>
    obtain ⟨cs, vs, hk, rfl, hbel, hblk, hcs, hF⟩ := hrel
    by_cases hlt : vs.length < xs.length
    · obtain ⟨b, o, m, A', c', rfl, hb, HX, x1, x2, x3, hsl, hr4, hr5, _⟩ := SlM.at_ hx hlt
      have d1 := bcell hbel hb x1
      have d2 := bcell hbel hb x2
      have d3 := bcell hbel hb x3
      have hsz := hbel.size
      have hmx : MxR wr wr.heap.size (.agg #[.int .i64 m.r, .int .i64 m.c, .slice A' m.a.length c']) m := ⟨_, rfl, SlI.more hbel.size (SlI.below hbel hsl), hr4, hr5⟩
      have hl := HM.out m (List.mem_of_getElem? HX.out)
      clear x1 x2 x3 hx hr4 hr5 hsl
      go_wp2_with fail
      refine (mx_to _ m _ hmx hl).mono ?_; rintro e w1 ⟨v, rfl, ⟨s, rfl, hv, _⟩, hb1⟩
      obtain ⟨A1, c2, rfl, _, _⟩ := hv.1.form
      have hblk1 := hblk.call hb1
      have f0 := hblk1.frozen
      have e0 : ∃ v0 v1 v2, w1.cell? ⟨w.heap.size, vs.length * 3, none⟩ = some v0 ∧ w1.cell? ⟨w.heap.size, vs.length * 3 + 1, none⟩ = some v1 ∧ w1.cell? ⟨w.heap.size, vs.length * 3 + 2, none⟩ = some v2 := by
        rw [hblk1.cell, hblk1.cell, hblk1.cell]; have := hcs.1; exact ⟨_, _, _, Array.getElem?_eq_getElem (by omega), Array.getElem?_eq_getElem (by omega), Array.getElem?_eq_getElem (by omega)⟩
      obtain ⟨v0, v1, v2, e0, e1, e2⟩ := e0
      have hF1 := (hF.below hb1).snoc hv hsz hb1.size
      have hzip : vs.zip ((xs.take vs.length).map Mx.a) ++ [(Value.slice A1 m.a.length c2, m.a)] = (vs ++ [Value.slice A1 m.a.length c2]).zip ((xs.take (vs ++ [Value.slice A1 m.a.length c2]).length).map Mx.a) := by
        rw [List.length_append, List.length_singleton, take_snoc HX.out, List.map_append, List.zip_append (by simp; omega)]
        rfl
      rw [hzip] at hF1
      have HF1 := Lib.hid hF1
      clear hF hF1 hzip
      go_wp2
      go_roundw
      case rel =>
        refine ⟨_, vs ++ [.slice A1 m.a.length c2], by simp; omega, by simp, (((hbel.trans (hb1.mono hsz)).setCell (by simp) _).setCell (by simp) _).setCell (by simp) _, ((hblk1.set_ _ _).set_ _ _).set_ _ _, hcs.step hlt HX.out, ?_⟩
        have q1 := HF1.out.setBlk (i := vs.length * 3) hblk1 (by decide) (.int .i64 m.r)
        have q2 := q1.setBlk (i := vs.length * 3 + 1) (hblk1.set_ _ _) (by decide) (.int .i64 m.c)
        have q3 := q2.setBlk (i := vs.length * 3 + 2) ((hblk1.set_ _ _).set_ _ _) (by decide) (.slice A1 m.a.length c2)
        exact q3.mono (Nat.le_refl _) (by simp)
      case measure => simp [intOf]; omega
    · have e : vs.length = xs.length := by omega
      have HE := Lib.hid e
      clear e
      go_wp2
      go_ret
      refine ⟨_, rfl, ⟨vs, hcs.own HE.out hblk (Nat.le_refl _) (by omega), HE.out, ?_, hxI.out⟩, hbel⟩
      have := hF
      rwa [List.take_of_length_le (by have := HE.out; omega)] at this

/-- one row of a family turned, by its place -/
theorem Fam.setAt {w w' : World} {lo hi : Nat} {L0 : List (Value × List Int)} {vs : List Value} {ll : List (List Int)} {j : Nat} {v : Value} {l l' : List Int} (h : Fam w lo hi (L0 ++ vs.zip ll)) (hv : vs[j]? = some v) (hl : ll[j]? = some l) (ho : OwnI w' lo v l') (hg : w.grownBy w' v.ownBlock) :
    Fam w' lo hi (L0 ++ vs.zip (ll.set j l')) := by
  have h1 := zip_split hv hl
  have hj := lt_of_some hl
  have h2 : (ll.set j l')[j]? = some l' := by simp [hj]
  have h3 := zip_split hv h2
  rw [h1, ← List.append_assoc] at h
  rw [h3, ← List.append_assoc]
  have e1 : (ll.set j l').take j = ll.take j := by rw [List.take_set_of_le (by omega)]
  have e2 : (ll.set j l').drop (j + 1) = ll.drop (j + 1) := by rw [List.drop_set_of_lt (by omega)]
  rw [e1, e2]
  exact h.turn ho hg
theorem Fam.getAt {w : World} {lo hi : Nat} {L0 : List (Value × List Int)} {vs : List Value} {ll : List (List Int)} {j : Nat} {v : Value} {l : List Int} (h : Fam w lo hi (L0 ++ vs.zip ll)) (hv : vs[j]? = some v) (hl : ll[j]? = some l) : IntsO w lo hi v l :=
  h.1 (v, l) (List.mem_append_right _ (by rw [List.mem_iff_getElem?]; exact ⟨j, by rw [List.getElem?_zip_eq_some]; exact ⟨hv, hl⟩⟩))

set_option maxHeartbeats 1600000 in
/-- marks, beside other rows -/
theorem markMatrixS_fam (v : Value) (vs : List Value) (ms : List Mx) (L0 : List (Value × List Int)) (k : Int) (lo hi : Nat) (w : World) (ho : OutM w lo hi v vs ms) (hl : vs.length = ms.length) (hF : Fam w lo hi (L0 ++ vs.zip (ms.map Mx.a))) (h0 : 0 ≤ k) (h1 : k ≤ 1125899906842624) (ht : totM ms ≤ 17592186044416) :
    Calls Try.prog 68 #[v, .int .i64 k] w fun e w' => e = .returned (.int .i64 (k + totM ms)) ∧ OutM w' lo hi v vs (mkMS k ms) ∧ Fam w' lo hi (L0 ++ vs.zip ((mkMS k ms).map Mx.a)) ∧ Chg lo hi w w' := by
  obtain ⟨A, c, rfl, _, _⟩ := ho.form
  have hn := ho.2.2
  have HL := Lib.hid hl
  clear hl
  go_enter Try.func68, Try.ntmps68
  go_wp2
  go_loopw [1, 5] (fun q i wr => ∃ j : Nat, j ≤ ms.length ∧ i = .int .i64 j ∧ q = .int .i64 (k + totM (ms.take j)) ∧ RowO 75 3 wr lo hi (.slice A ms.length c) ms.length (mxCs vs (mkMTo k ms j)) ∧ Fam wr lo hi (L0 ++ vs.zip ((mkMTo k ms j).map Mx.a)) ∧ Chg lo hi w wr) (fun _ i _ => ms.length - (intOf i).toNat)
  case atStart => exact ⟨0, Nat.zero_le _, rfl, by simp [totM], ho, by simpa [mkMTo, mkMS] using hF, Chg.refl _ _ _⟩
  case round =>
    clear ho hF
    obtain ⟨j, hj, rfl, rfl, ho, hF, hc⟩ := hrel
    have HSUC := fun (m : Mx) (hm : ms[j]? = some m) => Lib.hid (mkMTo_succ (k := k) hm)
    have HTSU := fun (m : Mx) (hm : ms[j]? = some m) => Lib.hid (show totM (ms.take (j + 1)) = totM (ms.take j) + (2 + m.a.length) by rw [take_snoc hm, totM_snoc])
    obtain ⟨t, htt⟩ : ∃ t, totM (ms.take j) = t := ⟨_, rfl⟩
    have htle := totM_take_le ms j
    have HTT := Lib.hid htt
    rw [htt] at htle HSUC HTSU ⊢
    clear htt
    by_cases hlt : j < ms.length
    · obtain ⟨g, c', cur, hval, hlg, hgh, hgs, hblk⟩ := ho.at_ (by omega)
      injection hval with e1 e2 e3
      subst e1 e3
      clear e2
      have hvj : vs[j]? = some (vs[j]'(by have := HL.out; omega)) := List.getElem?_eq_getElem _
      have hmj : ms[j]? = some ms[j] := List.getElem?_eq_getElem hlt
      obtain ⟨u, hu⟩ : ∃ u, vs[j]'(by have := HL.out; omega) = u := ⟨_, rfl⟩
      obtain ⟨m, hm⟩ : ∃ m, ms[j] = m := ⟨_, rfl⟩
      rw [hu] at hvj
      rw [hm] at hmj
      clear hu hm
      have HSU := HSUC m hmj
      have HTS := HTSU m hmj
      clear HSUC HTSU
      have hlen := mkMTo_length k ms j (by omega)
      have hget := mxCs_get hvj (mkMTo_get (k := k) hmj)
      have c0 := ho.1.cellAt (j * 3) (by omega)
      have c1 := ho.1.cellAt (j * 3 + 1) (by omega)
      have c2 := ho.1.cellAt (j * 3 + 2) (by omega)
      rw [hget.1] at c0
      rw [hget.2.1] at c1
      rw [hget.2.2] at c2
      have f0 := fun i => ho.1.frozenAt i
      have hI := hF.getAt hvj (l := m.a) (by rw [List.getElem?_map, mkMTo_get hmj]; rfl)
      have hml := hI.1.2.1
      obtain ⟨A', c'', rfl, _, _⟩ := hI.1.form
      have st1 := ho.stored (j * 3) (.int .i64 (k + t))
      have st2 := st1.1.stored (j * 3 + 1) (.int .i64 (k + t + 1))
      have hF1 := (hF.setBlk (i := j * 3) hblk (by decide) (.int .i64 (k + t))).setBlk (i := j * 3 + 1) (hblk.set_ _ _) (by decide) (.int .i64 (k + t + 1))
      have ho2 := st2.1
      rw [mxCs_set (by rw [hlen]; omega) (by rw [hlen]; exact HL.out) (k + t) (k + t + 1) (mkI (k + t + 1 + 1) m.a.length), HSU.out] at ho2
      have hc2 := hc.trans (st1.2.trans st2.2)
      have hI2 := hF1.getAt hvj (l := m.a) (by rw [List.getElem?_map, mkMTo_get hmj]; rfl)
      have HI2 := Lib.hid hI2
      have HF1 := Lib.hid hF1
      have HO2 := Lib.hid ho2
      have HVJ := Lib.hid hvj
      have HMJ := Lib.hid hmj
      clear hF hF1 hI hI2 ho2 st1 st2 ho hget hlen hvj hmj hblk
      go_wp2_with fail
      refine (markIntS_any _ m.a _ lo _ HI2.out.1 (by omega) (by omega)).mono ?_; rintro e w1 ⟨rfl, ho1, hg1⟩
      have hF2 := HF1.out.setAt HVJ.out (by rw [List.getElem?_map, mkMTo_get HMJ.out]; rfl) ho1 hg1
      have hc3 := chg_of_grown HI2.out hg1
      have ho3 := HO2.out.grown (by decide) HI2.out.1 hg1
      have e9 : ((mkMTo k ms j).map Mx.a).set j (mkI (k + t + 1 + 1) m.a.length) = (mkMTo k ms (j + 1)).map Mx.a := by
        rw [← HSU.out, List.map_set]
      rw [e9] at hF2
      clear e9
      go_wp2
      go_roundw
      case rel => exact ⟨j + 1, by omega, by go_num, by rw [HTS.out]; congr 1; omega, ho3, hF2, hc2.trans hc3⟩
      case measure => simp [intOf]; omega
    · have e2 : mkMTo k ms j = mkMS k ms := by rw [mkMTo, List.take_of_length_le (by omega), List.drop_of_length_le (by omega), List.append_nil]
      rw [e2] at hF ho
      clear e2 HSUC HTSU
      have e3 := mkMS_length ms k
      have ho' : OutM wr lo hi (.slice A ms.length c) vs (mkMS k ms) := by rw [OutM, e3]; exact ho
      have HE := Lib.hid (show totM ms = t by rw [← HTT.out, List.take_of_length_le (by omega)])
      have HO := Lib.hid ho'
      have HF := Lib.hid hF
      clear e3 ho' hF ho
      go_wp2
      go_ret
      exact ⟨by rw [HE.out]; rfl, HO.out, HF.out, hc⟩
end Go.Proofs.Ytjhllgldllbaaaa
