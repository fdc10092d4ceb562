/- FnExactHasSimpleAtSource: for every argument the program's function returns what the reference's returns. Part 6 of 8 of the proof: Mat2, Mat3, RepSz, RepAt, InOut, InOut2, InOut3, L16. No condition. -/
import Derived.Test.YtjhllgldllbaaaaBHasSimpleAtSource5
/- Dimensions and representations: the tests of both sides. -/
namespace Go.Proofs.Ytjhllgldllbaaaa
set_option linter.unusedVariables false
set_option linter.unusedSimpArgs false
open Go.RowKit

theorem sumW_dims {d : List Int} (h : ∀ x ∈ d, 0 ≤ x ∧ x ≤ 4) (hl : d.length ≤ 5) : sumW d = d.sum ∧ 0 ≤ d.sum ∧ d.sum ≤ 20 := by
  obtain ⟨h1, h2, h3⟩ := sumW_small d 0 4 (by omega) (by omega) h (by omega) (by omega)
  exact ⟨h1, by omega, by omega⟩
theorem sum_bd : ∀ (l : List Int), (∀ x ∈ l, 0 ≤ x ∧ x ≤ 4) → 0 ≤ l.sum ∧ l.sum ≤ 4 * l.length
  | [], _ => by simp
  | a :: l, h => by
    have := sum_bd l (fun x hx => h x (by simp [hx]))
    have := h a (by simp)
    simp only [List.sum_cons, List.length_cons]
    omega
theorem sum_take_le (d : List Int) (k : Nat) (h : ∀ x ∈ d.take k, 0 ≤ x ∧ x ≤ 4) : 0 ≤ (d.take k).sum ∧ (d.take k).sum ≤ 4 * k := by
  have h1 := sum_bd _ h
  have h2 : (d.take k).length ≤ k := List.length_take_le _ _
  omega

set_option maxHeartbeats 800000 in
theorem implAreDims_any (u xv : Value) (q : Qv) (d : List Int) (w : World) (hu : QvR w w.heap.size u q) (hx : SlI w w.heap.size xv d) :
    Calls Try.prog 181 #[u, xv] w fun e w' => e = .returned (.bool (areDims q d)) ∧ Below w.heap.size w w' := by
  obtain ⟨A, c, C, d', eu⟩ := hu.form
  subst eu
  have lx := hx
  obtain ⟨XA, xc, rfl, _, _, lx, _⟩ := lx.open_
  obtain ⟨W, hW⟩ : ∃ W, W = w.alloc (.cells #[.int .i64 q.v, .slice A q.f.length c, .slice C q.t.length d'] 26) := ⟨_, rfl⟩
  have g0 : Below w.heap.size w W := by rw [hW]; exact below_alloc _ _
  have kB : Blk W w.heap.size 26 #[.int .i64 q.v, .slice A q.f.length c, .slice C q.t.length d'] := by rw [hW]; exact Blk.new _ _ _
  have c0 := kB.cell' (i := 0) rfl
  have c1 := kB.cell' (i := 1) rfl
  have c2 := kB.cell' (i := 2) rfl
  replace hu := QvR.next g0 hu
  replace hx := SlI.next g0 hx
  unfold areDims
  rcases hq : isQ q with _ | _
  · go_enter Try.func181, Try.ntmps181
    go_wp2_with fail
    rw [← hW]; clear hW
    refine (implIsQuiver_any _ _ _ hu).mono ?_; rintro e w1 ⟨rfl, hb1⟩
    rw [hq]
    clear hu
    replace g0 := bthen g0 hb1
    replace hx := SlI.next hb1 hx
    replace kB := kB.call hb1
    replace c0 := kB.cell' (i := 0) rfl
    replace c1 := kB.cell' (i := 1) rfl
    replace c2 := kB.cell' (i := 2) rfl
    clear hb1
    go_wp2
    go_ret
    exact ⟨rfl, g0⟩
  obtain ⟨hv1, hv2⟩ := (isQ_t.1 hq).1
  rcases h2 : decide ((d.length : Int) = q.v) with _ | _
  · have e2 : ((d.length : Int) == q.v) = false := by rw [beq_eq_false_iff_ne]; exact of_decide_eq_false h2
    clear h2
    go_enter Try.func181, Try.ntmps181
    go_wp2_with fail
    rw [← hW]; clear hW
    refine (implIsQuiver_any _ _ _ hu).mono ?_; rintro e w1 ⟨rfl, hb1⟩
    rw [hq]
    clear hu
    replace g0 := bthen g0 hb1
    replace hx := SlI.next hb1 hx
    replace kB := kB.call hb1
    replace c0 := kB.cell' (i := 0) rfl
    replace c1 := kB.cell' (i := 1) rfl
    replace c2 := kB.cell' (i := 2) rfl
    clear hb1
    go_wp2
    go_ret
    exact ⟨rfl, g0⟩
  have e2 : ((d.length : Int) == q.v) = true := by rw [beq_iff_eq]; exact of_decide_eq_true h2
  have hl5 : d.length ≤ 5 := by have := of_decide_eq_true h2; omega
  clear h2
  rcases h3 : allR d 0 4 with _ | _
  · have H3 := Lib.hid h3
    clear h3
    go_enter Try.func181, Try.ntmps181
    go_wp2_with fail
    rw [← hW]; clear hW
    refine (implIsQuiver_any _ _ _ hu).mono ?_; rintro e w1 ⟨rfl, hb1⟩
    rw [hq]
    clear hu
    replace g0 := bthen g0 hb1
    replace hx := SlI.next hb1 hx
    replace kB := kB.call hb1
    replace c0 := kB.cell' (i := 0) rfl
    replace c1 := kB.cell' (i := 1) rfl
    replace c2 := kB.cell' (i := 2) rfl
    clear hb1
    go_wp2_with fail
    refine (allWithin_any _ d _ _ _ hx).mono ?_; rintro e w_1 ⟨rfl, hb_1⟩
    replace g0 := bthen g0 hb_1
    replace hx := SlI.next hb_1 hx
    replace kB := kB.call hb_1
    replace c0 := kB.cell' (i := 0) rfl
    replace c1 := kB.cell' (i := 1) rfl
    replace c2 := kB.cell' (i := 2) rfl
    rw [H3.out]
    go_wp2
    go_ret
    exact ⟨rfl, g0⟩
  obtain ⟨s1, s2, s3⟩ := sumW_dims (allR_t.1 h3) hl5
  have H3 := Lib.hid h3
  have H1 := Lib.hid s1
  clear h3 s1
  obtain ⟨s, hs⟩ : ∃ s, d.sum = s := ⟨_, rfl⟩
  rw [hs] at H1 s2 s3 ⊢
  clear hs
  go_enter Try.func181, Try.ntmps181
  go_wp2_with fail
  rw [← hW]; clear hW
  refine (implIsQuiver_any _ _ _ hu).mono ?_; rintro e w1 ⟨rfl, hb1⟩
  rw [hq]
  clear hu
  replace g0 := bthen g0 hb1
  replace hx := SlI.next hb1 hx
  replace kB := kB.call hb1
  replace c0 := kB.cell' (i := 0) rfl
  replace c1 := kB.cell' (i := 1) rfl
  replace c2 := kB.cell' (i := 2) rfl
  clear hb1
  go_wp2_with fail
  refine (allWithin_any _ d _ _ _ hx).mono ?_; rintro e w_2 ⟨rfl, hb_2⟩
  replace g0 := bthen g0 hb_2
  replace hx := SlI.next hb_2 hx
  replace kB := kB.call hb_2
  replace c0 := kB.cell' (i := 0) rfl
  replace c1 := kB.cell' (i := 1) rfl
  replace c2 := kB.cell' (i := 2) rfl
  rw [H3.out]
  go_wp2_with fail
  refine (sumOf_any _ d _ hx).mono ?_; rintro e w2 ⟨rfl, rfl⟩
  rw [H1.out]
  go_wp2
  go_ret
  exact ⟨by simp, g0⟩

set_option maxHeartbeats 800000 in
theorem specAreDims_any (u xv : Value) (q : Qv) (d : List Int) (w : World) (hu : QvR w w.heap.size u q) (hx : SlI w w.heap.size xv d) :
    Calls Try.prog 179 #[u, xv] w fun e w' => e = .returned (.bool (areDims q d)) ∧ Below w.heap.size w w' := by
  obtain ⟨A, c, C, d', eu⟩ := hu.form
  subst eu
  have lx := hx
  obtain ⟨XA, xc, rfl, _, _, lx, _⟩ := lx.open_
  obtain ⟨W, hW⟩ : ∃ W, W = w.alloc (.cells #[.int .i64 q.v, .slice A q.f.length c, .slice C q.t.length d'] 26) := ⟨_, rfl⟩
  have g0 : Below w.heap.size w W := by rw [hW]; exact below_alloc _ _
  have kB : Blk W w.heap.size 26 #[.int .i64 q.v, .slice A q.f.length c, .slice C q.t.length d'] := by rw [hW]; exact Blk.new _ _ _
  have c0 := kB.cell' (i := 0) rfl
  have c1 := kB.cell' (i := 1) rfl
  have c2 := kB.cell' (i := 2) rfl
  replace hu := QvR.next g0 hu
  replace hx := SlI.next g0 hx
  unfold areDims
  rcases hq : isQ q with _ | _
  · go_enter Try.func179, Try.ntmps179
    go_wp2_with fail
    rw [← hW]; clear hW
    refine (specIsQuiver_any _ _ _ hu).mono ?_; rintro e w1 ⟨rfl, hb1⟩
    rw [hq]
    clear hu
    replace g0 := bthen g0 hb1
    replace hx := SlI.next hb1 hx
    replace kB := kB.call hb1
    replace c0 := kB.cell' (i := 0) rfl
    replace c1 := kB.cell' (i := 1) rfl
    replace c2 := kB.cell' (i := 2) rfl
    clear hb1
    go_wp2
    go_ret
    exact ⟨rfl, g0⟩
  obtain ⟨hv1, hv2⟩ := (isQ_t.1 hq).1
  rcases h2 : decide ((d.length : Int) = q.v) with _ | _
  · have e2 : ((d.length : Int) != q.v) = true := by rw [bne_iff_ne]; exact of_decide_eq_false h2
    clear h2
    go_enter Try.func179, Try.ntmps179
    go_wp2_with fail
    rw [← hW]; clear hW
    refine (specIsQuiver_any _ _ _ hu).mono ?_; rintro e w1 ⟨rfl, hb1⟩
    rw [hq]
    clear hu
    replace g0 := bthen g0 hb1
    replace hx := SlI.next hb1 hx
    replace kB := kB.call hb1
    replace c0 := kB.cell' (i := 0) rfl
    replace c1 := kB.cell' (i := 1) rfl
    replace c2 := kB.cell' (i := 2) rfl
    clear hb1
    go_wp2
    go_ret
    exact ⟨rfl, g0⟩
  have e2 : ((d.length : Int) != q.v) = false := by rw [bne_eq_false_iff_eq]; exact of_decide_eq_true h2
  have hl5 : d.length ≤ 5 := by have := of_decide_eq_true h2; omega
  clear h2
  go_enter Try.func179, Try.ntmps179
  go_wp2_with fail
  rw [← hW]; clear hW
  refine (specIsQuiver_any _ _ _ hu).mono ?_; rintro e w1 ⟨rfl, hb1⟩
  rw [hq]
  clear hu
  replace g0 := bthen g0 hb1
  replace hx := SlI.next hb1 hx
  replace kB := kB.call hb1
  replace c0 := kB.cell' (i := 0) rfl
  replace c1 := kB.cell' (i := 1) rfl
  replace c2 := kB.cell' (i := 2) rfl
  clear hb1
  go_wp2
  go_loopw [5, 6] (fun n i wr => ∃ k : Nat, k ≤ d.length ∧ i = .int .i64 k ∧ n = .int .i64 (d.take k).sum ∧ wr = w1 ∧ Hid (∀ x ∈ d.take k, inR x 0 4 = true)) (fun _ i _ => d.length - (intOf i).toNat)
  case atStart => exact ⟨0, Nat.zero_le _, rfl, by simp, rfl, by show ∀ x ∈ _, _; simp⟩
  case round =>
    obtain ⟨k, hk, rfl, rfl, rfl, hall⟩ := hrel
    have hsm := sum_take_le d k (fun x hx => inR_t.1 (hall.out x hx))
    obtain ⟨hs1, hs2⟩ := hsm
    obtain ⟨s, hs⟩ : ∃ s, (d.take k).sum = s := ⟨_, rfl⟩
    rw [hs] at hs1 hs2 ⊢
    have HS := Lib.hid hs
    clear hs
    by_cases hlt : k < d.length
    · obtain ⟨b, o, x, rfl, hb, HX, x1, _⟩ := SlI.at_ hx hlt
      clear hx
      rcases h3 : inR x 0 4 with _ | _
      · have HF := Lib.hid (allR_bad HX.out h3)
        have H3 := Lib.hid h3
        clear h3
        go_wp2_with fail
        refine (l1In_any _ _ _ _).mono ?_; rintro e w' ⟨rfl, rfl⟩
        rw [H3.out]
        go_wp2
        go_ret
        exact ⟨by rw [HF.out]; rfl, g0⟩
      · have HT := Lib.hid (allR_step hall.out HX.out h3)
        have HSU := Lib.hid (show (d.take (k + 1)).sum = s + x by rw [take_snoc HX.out, List.sum_append, HS.out]; simp)
        obtain ⟨x3, x4⟩ := inR_t.1 h3
        have H3 := Lib.hid h3
        clear h3
        go_wp2_with fail
        refine (l1In_any _ _ _ _).mono ?_; rintro e w' ⟨rfl, rfl⟩
        rw [H3.out]
        go_wp2
        go_roundw
        case rel => exact ⟨k + 1, by omega, by go_num, by rw [HSU.out], trivial, HT.out⟩
        case measure => simp [intOf]; omega
    · have HF := Lib.hid (allR_end hall.out (by omega))
      have HE := Lib.hid (show d.sum = s by rw [← HS.out, List.take_of_length_le (by omega)])
      go_wp2
      go_ret
      exact ⟨by rw [HF.out, HE.out]; simp, g0⟩

/-! ### representations -/
def dAt (d : List Int) (v : Int) : Int := d.getD v.toNat 0
def okM (x : Rp) (m : Mx) (f t : Int) : Bool := isMat x.p m && decide (m.c = dAt x.d f) && decide (m.r = dAt x.d t)
def okMs (x : Rp) (k : Nat) : Bool := (List.range k).all fun i => okM x (x.m.getD i ⟨0, 0, []⟩) (x.q.f.getD i 0) (x.q.t.getD i 0)
def isRep (x : Rp) : Bool := isFld x.p && areDims x.q x.d && decide (x.m.length = x.q.f.length) && okMs x x.m.length
theorem okMs_succ {x : Rp} {k : Nat} {m : Mx} {f t : Int} (hm : x.m[k]? = some m) (hf : x.q.f[k]? = some f) (ht : x.q.t[k]? = some t) : okMs x (k + 1) = (okMs x k && okM x m f t) := by
  simp [okMs, List.range_succ, List.getD_eq_getElem?_getD, hm, hf, ht]
theorem okMs_mono {x : Rp} {k n : Nat} (h : okMs x k = false) (hk : k ≤ n) : okMs x n = false := by
  simp only [okMs, List.all_eq_false, List.mem_range] at h ⊢
  obtain ⟨i, hi, h⟩ := h
  exact ⟨i, by omega, h⟩
theorem dAt_of {d : List Int} {n : Nat} {y : Int} (h : d[n]? = some y) : dAt d (n : Int) = y := by
  simp [dAt, List.getD_eq_getElem?_getD, h]
/-- what a round of IsRep meets -/
theorem rep_at {x : Rp} (hq : areDims x.q x.d = true) {k : Nat} (hk : k < x.q.f.length) : ∃ (nf nt : Nat) (yf yt : Int), x.q.f[k]? = some (nf : Int) ∧ x.q.t[k]? = some (nt : Int) ∧ x.d[nf]? = some yf ∧ x.d[nt]? = some yt ∧ nf < x.d.length ∧ nt < x.d.length ∧ nf ≤ 5 ∧ nt ≤ 5 ∧ k < x.q.t.length := by
  obtain ⟨h1, h2, h3, h4⟩ := areDims_t.1 hq
  obtain ⟨hv, hl, h6, hf, ht⟩ := isQ_t.1 h1
  have ef := List.getElem?_eq_getElem hk
  have et := List.getElem?_eq_getElem (show k < x.q.t.length by omega)
  have bf := hf _ (List.mem_of_getElem? ef)
  have bt := ht _ (List.mem_of_getElem? et)
  obtain ⟨nf, enf⟩ := Int.eq_ofNat_of_zero_le bf.1
  obtain ⟨nt, ent⟩ := Int.eq_ofNat_of_zero_le bt.1
  rw [enf] at ef bf
  rw [ent] at et bt
  exact ⟨nf, nt, x.d[nf]'(by omega), x.d[nt]'(by omega), ef, et, List.getElem?_eq_getElem _, List.getElem?_eq_getElem _, by omega, by omega, by omega, by omega, by omega⟩
end Go.Proofs.Ytjhllgldllbaaaa

/- The two IsRep. -/
namespace Go.Proofs.Ytjhllgldllbaaaa
set_option linter.unusedVariables false
set_option linter.unusedSimpArgs false
open Go.RowKit

theorem QvR.sl {w : World} {B n m a c : Nat} {v : Int} {A C : Option Addr} {q : Qv} (h : QvR w B (.agg #[.int .i64 v, .slice A n a, .slice C m c]) q) : SlI w B (.slice A n a) q.f ∧ SlI w B (.slice C m c) q.t := by
  obtain ⟨s, t, e, h1, h2, _⟩ := h
  simp only [Value.agg.injEq, Array.mk.injEq, List.cons.injEq, and_true] at e
  obtain ⟨_, rfl, rfl⟩ := e
  exact ⟨h1, h2⟩


set_option maxHeartbeats 3200000 in
set_option maxRecDepth 100000 in
theorem implIsRep_any (u : Value) (x : Rp) (w : World) (hu : RpR w w.heap.size u x) :
    Calls Try.prog 117 #[u] w fun e w' => e = .returned (.bool (isRep x)) ∧ Below w.heap.size w w' := by
  obtain ⟨A, a, C, c, E, e, H, h, rfl, hq, hd, hm, hp, ld, lm⟩ := hu.open_
  clear hu
  obtain ⟨W, hW⟩ : ∃ W, W = w.alloc (.cells #[.int .i64 x.p, .int .i64 x.q.v, .slice A x.q.f.length a, .slice C x.q.t.length c, .slice E x.d.length e, .slice H x.m.length h] 29) := ⟨_, rfl⟩
  have g0 : Below w.heap.size w W := by rw [hW]; exact below_alloc _ _
  have kB : Blk W w.heap.size 29 #[.int .i64 x.p, .int .i64 x.q.v, .slice A x.q.f.length a, .slice C x.q.t.length c, .slice E x.d.length e, .slice H x.m.length h] := by rw [hW]; exact Blk.new _ _ _
  have c0 := kB.cell' (i := 0) rfl
  have c1 := kB.cell' (i := 1) rfl
  have c2 := kB.cell' (i := 2) rfl
  have c3 := kB.cell' (i := 3) rfl
  have c4 := kB.cell' (i := 4) rfl
  have c5 := kB.cell' (i := 5) rfl
  replace hq := QvR.next g0 hq
  replace hd := SlI.next g0 hd
  replace hm := SlM.next g0 hm
  unfold isRep
  rcases h1 : isFld x.p with _ | _
  · go_enter Try.func117, Try.ntmps117
    go_wp2_with fail
    rw [← hW]; clear hW
    refine (implIsField_any _ _).mono ?_; rintro e w1 ⟨rfl, rfl⟩
    rw [h1]
    go_wp2
    go_ret
    exact ⟨rfl, g0⟩
  rcases h2 : areDims x.q x.d with _ | _
  · have H2 := Lib.hid h2
    clear h2
    go_enter Try.func117, Try.ntmps117
    go_wp2_with fail
    rw [← hW]; clear hW
    refine (implIsField_any _ _).mono ?_; rintro e w1 ⟨rfl, rfl⟩
    rw [h1]
    go_wp2_with fail
    refine (implAreDims_any _ _ _ _ _ hq hd).mono ?_; rintro e w_1 ⟨rfl, hb_1⟩
    replace g0 := bthen g0 hb_1
    replace hq := QvR.next hb_1 hq
    replace hd := SlI.next hb_1 hd
    replace hm := SlM.next hb_1 hm
    replace kB := kB.call hb_1
    replace c0 := kB.cell' (i := 0) rfl
    replace c1 := kB.cell' (i := 1) rfl
    replace c2 := kB.cell' (i := 2) rfl
    replace c3 := kB.cell' (i := 3) rfl
    replace c4 := kB.cell' (i := 4) rfl
    replace c5 := kB.cell' (i := 5) rfl
    rw [H2.out]
    go_wp2
    go_ret
    exact ⟨rfl, g0⟩
  obtain ⟨lf, lt⟩ := hq.lens
  rcases h3 : decide (x.m.length = x.q.f.length) with _ | _
  · have e3 : ((x.m.length : Int) != x.q.f.length) = true := by rw [bne_iff_ne]; have := of_decide_eq_false h3; omega
    have H2 := Lib.hid h2
    clear h2 h3
    go_enter Try.func117, Try.ntmps117
    go_wp2_with fail
    rw [← hW]; clear hW
    refine (implIsField_any _ _).mono ?_; rintro e w1 ⟨rfl, rfl⟩
    rw [h1]
    go_wp2_with fail
    refine (implAreDims_any _ _ _ _ _ hq hd).mono ?_; rintro e w_2 ⟨rfl, hb_2⟩
    replace g0 := bthen g0 hb_2
    replace hq := QvR.next hb_2 hq
    replace hd := SlI.next hb_2 hd
    replace hm := SlM.next hb_2 hm
    replace kB := kB.call hb_2
    replace c0 := kB.cell' (i := 0) rfl
    replace c1 := kB.cell' (i := 1) rfl
    replace c2 := kB.cell' (i := 2) rfl
    replace c3 := kB.cell' (i := 3) rfl
    replace c4 := kB.cell' (i := 4) rfl
    replace c5 := kB.cell' (i := 5) rfl
    rw [H2.out]
    go_wp2
    go_ret
    exact ⟨rfl, g0⟩
  have e3 : ((x.m.length : Int) != x.q.f.length) = false := by rw [bne_eq_false_iff_eq]; have := of_decide_eq_true h3; omega
  have H3 := Lib.hid (of_decide_eq_true h3)
  have H2 := Lib.hid h2
  clear h2 h3
  go_enter Try.func117, Try.ntmps117
  go_wp2_with fail
  rw [← hW]; clear hW
  refine (implIsField_any _ _).mono ?_; rintro e w1 ⟨rfl, rfl⟩
  rw [h1]
  go_wp2_with fail
  refine (implAreDims_any _ _ _ _ _ hq hd).mono ?_; rintro e W1 ⟨rfl, hb0⟩
  replace g0 := bthen g0 hb0
  replace hq := QvR.next hb0 hq
  replace hd := SlI.next hb0 hd
  replace hm := SlM.next hb0 hm
  replace kB := kB.call hb0
  replace c0 := kB.cell' (i := 0) rfl
  replace c1 := kB.cell' (i := 1) rfl
  replace c2 := kB.cell' (i := 2) rfl
  replace c3 := kB.cell' (i := 3) rfl
  replace c4 := kB.cell' (i := 4) rfl
  replace c5 := kB.cell' (i := 5) rfl
  clear hb0
  rw [H2.out]
  obtain ⟨hf, ht⟩ := hq.sl
  clear hq
  go_wp2
  go_loopw [30] (fun i wr => ∃ k : Nat, k ≤ x.m.length ∧ i = .int .i64 k ∧ Below W1.heap.size W1 wr ∧ Hid (okMs x k = true)) (fun i _ => x.m.length - (intOf i).toNat)
  case atStart => exact ⟨0, Nat.zero_le _, rfl, Below.refl _ _, rfl⟩
  case round =>
    obtain ⟨k, hk, rfl, hbel, hok⟩ := hrel
    clear c0 c1 c2 c3 c4 c5
    have z5 := (kB.call hbel).cell' (i := 5) rfl
    by_cases hlt : k < x.m.length
    · have hkf : k < x.q.f.length := by have := H3.out; omega
      obtain ⟨nf, nt, yf, yt, ef, et, df, dt, lnf, lnt, lnf5, lnt5, hkt⟩ := rep_at H2.out hkf
      obtain ⟨b, o, m, A', c', rfl, hb, HX, x1, x2, x3, hsl, i1, i2, lml⟩ := SlM.at_ hm hlt
      obtain ⟨bf, of_, xf, rfl, hbf, HXF, f1, _⟩ := SlI.at_ hf hkf
      obtain ⟨bt, ot, xt, rfl, hbt, HXT, t1, _⟩ := SlI.at_ ht hkt
      obtain ⟨bd, od, xdf, rfl, hbd, HXDF, d1, ddf⟩ := SlI.at_ hd lnf
      obtain ⟨bd', od', xdt, ebd, hbd', HXDT, d2, ddt⟩ := SlI.at_ hd lnt
      injection ebd with ebd
      injection ebd with ebd1 ebd2
      subst ebd1 ebd2
      have q1 := HXF.out
      rw [ef] at q1
      injection q1 with q1
      subst q1
      have q2 := HXT.out
      rw [et] at q2
      injection q2 with q2
      subst q2
      have hsucc := okMs_succ HX.out ef et
      rw [hok.out, Bool.true_and, okM, dAt_of HXDF.out, dAt_of HXDT.out] at hsucc
      have HSU := Lib.hid hsucc
      clear hsucc HXDF HXDT HXF HXT ef et df dt hf ht hd hm
      obtain ⟨Wx, hWx⟩ : ∃ W, W = wr.alloc (.cells #[.int .i64 m.r, .int .i64 m.c, .slice A' m.a.length c'] 75) := ⟨_, rfl⟩
      have gx : Below W1.heap.size W1 Wx := by rw [hWx]; exact hbel.trans ((below_alloc _ _).mono hbel.size)
      have kM : Blk Wx wr.heap.size 75 #[.int .i64 m.r, .int .i64 m.c, .slice A' m.a.length c'] := by rw [hWx]; exact Blk.new _ _ _
      have m0 := fun s : InB Wx => (kM.call s.below).cell' (i := 0) rfl
      have m1 := fun s : InB Wx => (kM.call s.below).cell' (i := 1) rfl
      have m2 := fun s : InB Wx => (kM.call s.below).cell' (i := 2) rfl
      have hx1 := bcell hbel hb x1
      have hx2 := bcell hbel hb x2
      have hx3 := bcell hbel hb x3
      clear kM
      have gx1 := gx.size
      have hF := InB.cell (w := Wx) (by omega) (bcell gx hbf f1)
      have hT := InB.cell (w := Wx) (by omega) (bcell gx hbt t1)
      have hD1 := InB.cell (w := Wx) (by omega) (bcell gx hbd d1)
      have hD2 := InB.cell (w := Wx) (by omega) (bcell gx hbd d2)
      have kBx := kB.call gx
      have r0 := fun s : InB Wx => (kBx.call s.below).cell' (i := 0) rfl
      have r2 := fun s : InB Wx => (kBx.call s.below).cell' (i := 2) rfl
      have r3 := fun s : InB Wx => (kBx.call s.below).cell' (i := 3) rfl
      have r4 := fun s : InB Wx => (kBx.call s.below).cell' (i := 4) rfl
      have r5 := fun s : InB Wx => (kBx.call s.below).cell' (i := 5) rfl
      have HM : Hid (∀ s : InB Wx, MxR s.val s.val.heap.size (.agg #[.int .i64 m.r, .int .i64 m.c, .slice A' m.a.length c']) m) := fun s => ⟨_, rfl, SlI.next s.below (SlI.next gx hsl), i1, i2⟩
      have g1 := bthen g0 gx
      have HGX := Lib.hid gx
      have HG1 := Lib.hid g1
      clear x1 x2 x3 f1 t1 d1 d2 hsl i1 i2 kB kBx gx g1 g0
      have a1 : (0 : Int) ≤ (k : Int) := by omega
      have a2 : (k : Int) < x.q.f.length := by omega
      have a3 : (k : Int) < x.q.t.length := by omega
      have a4 : (0 : Int) ≤ (nf : Int) := by omega
      have a5 : (nf : Int) < x.d.length := by omega
      have a6 : (0 : Int) ≤ (nt : Int) := by omega
      have a7 : (nt : Int) < x.d.length := by omega
      have a8 : (k : Int) < x.m.length := by omega
      rcases h4 : isMat x.p m with _ | _
      · have HF := Lib.hid (okMs_mono (x := x) (k := k + 1) (n := x.m.length) (by rw [HSU.out, h4]; rfl) (by omega))
        go_wp2
        rw [← hWx]; clear hWx
        (refine wp_region_inB (by kernel_rfl) (by kernel_rfl) ?_; (repeat (go_big_quiet_step ((go_at_call 182; exact InB.call (implIsMatrix_any _ _ m _ (HM.out _)))))); refine wpQuiet_nil ?_; intro w1 hw'; obtain ⟨s1, hw1⟩ := hw'; have hb1 := s1.below; rw [← hw1] at hb1; clear hw1 s1)
        go_wp2
        go_ret
        exact ⟨by rw [HF.out]; rfl, bthen HG1.out hb1⟩
      rcases h5 : decide (m.c = xdf) with _ | _
      · have HF := Lib.hid (okMs_mono (x := x) (k := k + 1) (n := x.m.length) (by rw [HSU.out, h5]; simp) (by omega))
        have e5 : (m.c != xdf) = true := by rw [bne_iff_ne]; exact of_decide_eq_false h5
        clear h5
        go_wp2
        rw [← hWx]; clear hWx
        (refine wp_region_inB (by kernel_rfl) (by kernel_rfl) ?_; (repeat (go_big_quiet_step ((go_at_call 182; exact InB.call (implIsMatrix_any _ _ m _ (HM.out _)))))); refine wpQuiet_nil ?_; intro w1 hw'; obtain ⟨s1, hw1⟩ := hw'; have hb1 := s1.below; rw [← hw1] at hb1; clear hw1 s1)
        go_wp2
        go_ret
        exact ⟨by rw [HF.out]; rfl, bthen HG1.out hb1⟩
      have e5 : (m.c != xdf) = false := by rw [bne_eq_false_iff_eq]; exact of_decide_eq_true h5
      rcases h6 : decide (m.r = xdt) with _ | _
      · have HF := Lib.hid (okMs_mono (x := x) (k := k + 1) (n := x.m.length) (by rw [HSU.out, h6]; simp) (by omega))
        have e6 : (m.r != xdt) = true := by rw [bne_iff_ne]; exact of_decide_eq_false h6
        clear h5 h6
        go_wp2
        rw [← hWx]; clear hWx
        (refine wp_region_inB (by kernel_rfl) (by kernel_rfl) ?_; (repeat (go_big_quiet_step ((go_at_call 182; exact InB.call (implIsMatrix_any _ _ m _ (HM.out _)))))); refine wpQuiet_nil ?_; intro w1 hw'; obtain ⟨s1, hw1⟩ := hw'; have hb1 := s1.below; rw [← hw1] at hb1; clear hw1 s1)
        go_wp2
        go_ret
        exact ⟨by rw [HF.out]; rfl, bthen HG1.out hb1⟩
      have e6 : (m.r != xdt) = false := by rw [bne_eq_false_iff_eq]; exact of_decide_eq_true h6
      have HF := Lib.hid (show okMs x (k + 1) = true by rw [HSU.out, h4, h5, h6]; rfl)
      clear h5 h6
      go_wp2
      rw [← hWx]; clear hWx
      (refine wp_region_inB (by kernel_rfl) (by kernel_rfl) ?_; (repeat (go_big_quiet_step ((go_at_call 182; exact InB.call (implIsMatrix_any _ _ m _ (HM.out _)))))); refine wpQuiet_nil ?_; intro w1 hw'; obtain ⟨s1, hw1⟩ := hw'; have hb1 := s1.below; rw [← hw1] at hb1; clear hw1 s1)
      go_wp2
      go_roundw
      case rel => exact ⟨k + 1, by omega, by go_num, bthen HGX.out hb1, HF.out⟩
      case measure => simp [intOf]; omega
    · have HF := Lib.hid (show okMs x x.m.length = true by have := hok.out; rwa [show k = x.m.length by omega] at this)
      have g1 := bthen g0 hbel
      go_wp2
      go_ret
      exact ⟨by rw [HF.out]; rfl, g1⟩
set_option maxHeartbeats 3200000 in
set_option maxRecDepth 100000 in
theorem specIsRep_any (u : Value) (x : Rp) (w : World) (hu : RpR w w.heap.size u x) :
    Calls Try.prog 114 #[u] w fun e w' => e = .returned (.bool (isRep x)) ∧ Below w.heap.size w w' := by
  obtain ⟨A, a, C, c, E, e, H, h, rfl, hq, hd, hm, hp, ld, lm⟩ := hu.open_
  clear hu
  obtain ⟨W, hW⟩ : ∃ W, W = w.alloc (.cells #[.int .i64 x.p, .int .i64 x.q.v, .slice A x.q.f.length a, .slice C x.q.t.length c, .slice E x.d.length e, .slice H x.m.length h] 29) := ⟨_, rfl⟩
  have g0 : Below w.heap.size w W := by rw [hW]; exact below_alloc _ _
  have kB : Blk W w.heap.size 29 #[.int .i64 x.p, .int .i64 x.q.v, .slice A x.q.f.length a, .slice C x.q.t.length c, .slice E x.d.length e, .slice H x.m.length h] := by rw [hW]; exact Blk.new _ _ _
  have c0 := kB.cell' (i := 0) rfl
  have c1 := kB.cell' (i := 1) rfl
  have c2 := kB.cell' (i := 2) rfl
  have c3 := kB.cell' (i := 3) rfl
  have c4 := kB.cell' (i := 4) rfl
  have c5 := kB.cell' (i := 5) rfl
  replace hq := QvR.next g0 hq
  replace hd := SlI.next g0 hd
  replace hm := SlM.next g0 hm
  unfold isRep
  rcases h1 : isFld x.p with _ | _
  · go_enter Try.func114, Try.ntmps114
    go_wp2_with fail
    rw [← hW]; clear hW
    refine (specIsField_any _ _).mono ?_; rintro e w1 ⟨rfl, rfl⟩
    rw [h1]
    go_wp2
    go_ret
    exact ⟨rfl, g0⟩
  rcases h2 : areDims x.q x.d with _ | _
  · have H2 := Lib.hid h2
    clear h2
    go_enter Try.func114, Try.ntmps114
    go_wp2_with fail
    rw [← hW]; clear hW
    refine (specIsField_any _ _).mono ?_; rintro e w1 ⟨rfl, rfl⟩
    rw [h1]
    go_wp2_with fail
    refine (specAreDims_any _ _ _ _ _ hq hd).mono ?_; rintro e w_3 ⟨rfl, hb_3⟩
    replace g0 := bthen g0 hb_3
    replace hq := QvR.next hb_3 hq
    replace hd := SlI.next hb_3 hd
    replace hm := SlM.next hb_3 hm
    replace kB := kB.call hb_3
    replace c0 := kB.cell' (i := 0) rfl
    replace c1 := kB.cell' (i := 1) rfl
    replace c2 := kB.cell' (i := 2) rfl
    replace c3 := kB.cell' (i := 3) rfl
    replace c4 := kB.cell' (i := 4) rfl
    replace c5 := kB.cell' (i := 5) rfl
    rw [H2.out]
    go_wp2
    go_ret
    exact ⟨rfl, g0⟩
  obtain ⟨lf, lt⟩ := hq.lens
  rcases h3 : decide (x.m.length = x.q.f.length) with _ | _
  · have e3 : ((x.m.length : Int) != x.q.f.length) = true := by rw [bne_iff_ne]; have := of_decide_eq_false h3; omega
    have H2 := Lib.hid h2
    clear h2 h3
    go_enter Try.func114, Try.ntmps114
    go_wp2_with fail
    rw [← hW]; clear hW
    refine (specIsField_any _ _).mono ?_; rintro e w1 ⟨rfl, rfl⟩
    rw [h1]
    go_wp2_with fail
    refine (specAreDims_any _ _ _ _ _ hq hd).mono ?_; rintro e w_4 ⟨rfl, hb_4⟩
    replace g0 := bthen g0 hb_4
    replace hq := QvR.next hb_4 hq
    replace hd := SlI.next hb_4 hd
    replace hm := SlM.next hb_4 hm
    replace kB := kB.call hb_4
    replace c0 := kB.cell' (i := 0) rfl
    replace c1 := kB.cell' (i := 1) rfl
    replace c2 := kB.cell' (i := 2) rfl
    replace c3 := kB.cell' (i := 3) rfl
    replace c4 := kB.cell' (i := 4) rfl
    replace c5 := kB.cell' (i := 5) rfl
    rw [H2.out]
    go_wp2
    go_ret
    exact ⟨rfl, g0⟩
  have e3 : ((x.m.length : Int) != x.q.f.length) = false := by rw [bne_eq_false_iff_eq]; have := of_decide_eq_true h3; omega
  have H3 := Lib.hid (of_decide_eq_true h3)
  have H2 := Lib.hid h2
  clear h2 h3
  go_enter Try.func114, Try.ntmps114
  go_wp2_with fail
  rw [← hW]; clear hW
  refine (specIsField_any _ _).mono ?_; rintro e w1 ⟨rfl, rfl⟩
  rw [h1]
  go_wp2_with fail
  refine (specAreDims_any _ _ _ _ _ hq hd).mono ?_; rintro e W1 ⟨rfl, hb0⟩
  replace g0 := bthen g0 hb0
  replace hq := QvR.next hb0 hq
  replace hd := SlI.next hb0 hd
  replace hm := SlM.next hb0 hm
  replace kB := kB.call hb0
  replace c0 := kB.cell' (i := 0) rfl
  replace c1 := kB.cell' (i := 1) rfl
  replace c2 := kB.cell' (i := 2) rfl
  replace c3 := kB.cell' (i := 3) rfl
  replace c4 := kB.cell' (i := 4) rfl
  replace c5 := kB.cell' (i := 5) rfl
  clear hb0
  rw [H2.out]
  obtain ⟨hf, ht⟩ := hq.sl
  clear hq
  go_wp2
  go_loopw [3] (fun i wr => ∃ k : Nat, k ≤ x.m.length ∧ i = .int .i64 k ∧ Below W1.heap.size W1 wr ∧ Hid (okMs x k = true)) (fun i _ => x.m.length - (intOf i).toNat)
  case atStart => exact ⟨0, Nat.zero_le _, rfl, Below.refl _ _, rfl⟩
  case round =>
    obtain ⟨k, hk, rfl, hbel, hok⟩ := hrel
    clear c0 c1 c2 c3 c4 c5
    have z5 := (kB.call hbel).cell' (i := 5) rfl
    by_cases hlt : k < x.m.length
    · have hkf : k < x.q.f.length := by have := H3.out; omega
      obtain ⟨nf, nt, yf, yt, ef, et, df, dt, lnf, lnt, lnf5, lnt5, hkt⟩ := rep_at H2.out hkf
      obtain ⟨b, o, m, A', c', rfl, hb, HX, x1, x2, x3, hsl, i1, i2, lml⟩ := SlM.at_ hm hlt
      obtain ⟨bf, of_, xf, rfl, hbf, HXF, f1, _⟩ := SlI.at_ hf hkf
      obtain ⟨bt, ot, xt, rfl, hbt, HXT, t1, _⟩ := SlI.at_ ht hkt
      obtain ⟨bd, od, xdf, rfl, hbd, HXDF, d1, ddf⟩ := SlI.at_ hd lnf
      obtain ⟨bd', od', xdt, ebd, hbd', HXDT, d2, ddt⟩ := SlI.at_ hd lnt
      injection ebd with ebd
      injection ebd with ebd1 ebd2
      subst ebd1 ebd2
      have q1 := HXF.out
      rw [ef] at q1
      injection q1 with q1
      subst q1
      have q2 := HXT.out
      rw [et] at q2
      injection q2 with q2
      subst q2
      have hsucc := okMs_succ HX.out ef et
      rw [hok.out, Bool.true_and, okM, dAt_of HXDF.out, dAt_of HXDT.out] at hsucc
      have HSU := Lib.hid hsucc
      clear hsucc HXDF HXDT HXF HXT ef et df dt hf ht hd hm
      have gx := hbel
      have hm0 := InB.cell (w := wr) (by have := hbel.size; omega) (bcell hbel hb x1)
      have hm1 := InB.cell (w := wr) (by have := hbel.size; omega) (bcell hbel hb x2)
      have hm2 := InB.cell (w := wr) (by have := hbel.size; omega) (bcell hbel hb x3)
      have gx1 := gx.size
      have hF := InB.cell (w := wr) (by omega) (bcell gx hbf f1)
      have hT := InB.cell (w := wr) (by omega) (bcell gx hbt t1)
      have hD1 := InB.cell (w := wr) (by omega) (bcell gx hbd d1)
      have hD2 := InB.cell (w := wr) (by omega) (bcell gx hbd d2)
      have kBx := kB.call gx
      have r0 := fun s : InB wr => (kBx.call s.below).cell' (i := 0) rfl
      have r2 := fun s : InB wr => (kBx.call s.below).cell' (i := 2) rfl
      have r3 := fun s : InB wr => (kBx.call s.below).cell' (i := 3) rfl
      have r4 := fun s : InB wr => (kBx.call s.below).cell' (i := 4) rfl
      have r5 := fun s : InB wr => (kBx.call s.below).cell' (i := 5) rfl
      have HM : Hid (∀ s : InB wr, MxR s.val s.val.heap.size (.agg #[.int .i64 m.r, .int .i64 m.c, .slice A' m.a.length c']) m) := fun s => ⟨_, rfl, SlI.next s.below (SlI.next gx hsl), i1, i2⟩
      have g1 := bthen g0 gx
      have HGX := Lib.hid gx
      have HG1 := Lib.hid g1
      clear x1 x2 x3 f1 t1 d1 d2 hsl i1 i2 kB kBx gx g1 g0
      have a1 : (0 : Int) ≤ (k : Int) := by omega
      have a2 : (k : Int) < x.q.f.length := by omega
      have a3 : (k : Int) < x.q.t.length := by omega
      have a4 : (0 : Int) ≤ (nf : Int) := by omega
      have a5 : (nf : Int) < x.d.length := by omega
      have a6 : (0 : Int) ≤ (nt : Int) := by omega
      have a7 : (nt : Int) < x.d.length := by omega
      have a8 : (k : Int) < x.m.length := by omega
      rcases h4 : isMat x.p m with _ | _
      · have HF := Lib.hid (okMs_mono (x := x) (k := k + 1) (n := x.m.length) (by rw [HSU.out, h4]; rfl) (by omega))
        go_wp2
        (refine wp_region_inB (by kernel_rfl) (by kernel_rfl) ?_; (repeat (go_big_quiet_step ((go_at_call 180; exact InB.call (specIsMatrix_any _ _ m _ (HM.out _)))))); refine wpQuiet_nil ?_; intro w1 hw'; obtain ⟨s1, hw1⟩ := hw'; have hb1 := s1.below; rw [← hw1] at hb1; clear hw1 s1)
        go_wp2
        go_ret
        exact ⟨by rw [HF.out]; rfl, bthen HG1.out hb1⟩
      rcases h5 : decide (m.c = xdf) with _ | _
      · have HF := Lib.hid (okMs_mono (x := x) (k := k + 1) (n := x.m.length) (by rw [HSU.out, h5]; simp) (by omega))
        have e5 : (m.c != xdf) = true := by rw [bne_iff_ne]; exact of_decide_eq_false h5
        clear h5
        go_wp2
        (refine wp_region_inB (by kernel_rfl) (by kernel_rfl) ?_; (repeat (go_big_quiet_step ((go_at_call 180; exact InB.call (specIsMatrix_any _ _ m _ (HM.out _)))))); refine wpQuiet_nil ?_; intro w1 hw'; obtain ⟨s1, hw1⟩ := hw'; have hb1 := s1.below; rw [← hw1] at hb1; clear hw1 s1)
        go_wp2
        go_ret
        exact ⟨by rw [HF.out]; rfl, bthen HG1.out hb1⟩
      have e5 : (m.c != xdf) = false := by rw [bne_eq_false_iff_eq]; exact of_decide_eq_true h5
      rcases h6 : decide (m.r = xdt) with _ | _
      · have HF := Lib.hid (okMs_mono (x := x) (k := k + 1) (n := x.m.length) (by rw [HSU.out, h6]; simp) (by omega))
        have e6 : (m.r != xdt) = true := by rw [bne_iff_ne]; exact of_decide_eq_false h6
        clear h5 h6
        go_wp2
        (refine wp_region_inB (by kernel_rfl) (by kernel_rfl) ?_; (repeat (go_big_quiet_step ((go_at_call 180; exact InB.call (specIsMatrix_any _ _ m _ (HM.out _)))))); refine wpQuiet_nil ?_; intro w1 hw'; obtain ⟨s1, hw1⟩ := hw'; have hb1 := s1.below; rw [← hw1] at hb1; clear hw1 s1)
        go_wp2
        go_ret
        exact ⟨by rw [HF.out]; rfl, bthen HG1.out hb1⟩
      have e6 : (m.r != xdt) = false := by rw [bne_eq_false_iff_eq]; exact of_decide_eq_true h6
      have HF := Lib.hid (show okMs x (k + 1) = true by rw [HSU.out, h4, h5, h6]; rfl)
      clear h5 h6
      go_wp2
      (refine wp_region_inB (by kernel_rfl) (by kernel_rfl) ?_; (repeat (go_big_quiet_step ((go_at_call 180; exact InB.call (specIsMatrix_any _ _ m _ (HM.out _)))))); refine wpQuiet_nil ?_; intro w1 hw'; obtain ⟨s1, hw1⟩ := hw'; have hb1 := s1.below; rw [← hw1] at hb1; clear hw1 s1)
      go_wp2
      go_roundw
      case rel => exact ⟨k + 1, by omega, by go_num, bthen HGX.out hb1, HF.out⟩
      case measure => simp [intOf]; omega
    · have HF := Lib.hid (show okMs x x.m.length = true by have := hok.out; rwa [show k = x.m.length by omega] at this)
      have g1 := bthen g0 hbel
      go_wp2
      go_ret
      exact ⟨by rw [HF.out]; rfl, g1⟩
end Go.Proofs.Ytjhllgldllbaaaa

/- Valid representations are small. -/
namespace Go.Proofs.Ytjhllgldllbaaaa
set_option linter.unusedVariables false
set_option linter.unusedSimpArgs false
open Go.RowKit

theorem okMs_all {x : Rp} (h : okMs x x.m.length = true) : ∀ m ∈ x.m, isMat x.p m = true := by
  intro m hm
  obtain ⟨j, hj⟩ := List.getElem?_of_mem hm
  have hl := lt_of_some hj
  simp only [okMs, List.all_eq_true, List.mem_range] at h
  have := h j hl
  rw [List.getD_eq_getElem?_getD, hj, Option.getD_some] at this
  simp only [okM, Bool.and_eq_true] at this
  exact this.1.1
theorem isRep_t {x : Rp} : isRep x = true ↔ isFld x.p = true ∧ areDims x.q x.d = true ∧ x.m.length = x.q.f.length ∧ okMs x x.m.length = true := by
  simp only [isRep, Bool.and_eq_true, decide_eq_true_eq, and_assoc]
theorem totA_le {ms : List Mx} {n : Nat} (h : ∀ m ∈ ms, m.a.length ≤ n) : totA ms ≤ ms.length * n := by
  induction ms with
  | nil => simp [totA, tot]
  | cons m ms ih =>
    have h1 := h m (by simp)
    have h2 := ih (fun x hx => h x (by simp [hx]))
    simp only [totA, tot, List.map_cons, List.sum_cons, List.length_cons] at h2 ⊢
    rw [Nat.add_mul]
    omega
theorem isRep_size {x : Rp} (h : isRep x = true) : x.size ≤ 1000 := by
  obtain ⟨h1, h2, h3, h4⟩ := isRep_t.1 h
  obtain ⟨k1, k2, k3, k4⟩ := areDims_t.1 h2
  obtain ⟨q1, q2, q3, q4, q5⟩ := isQ_t.1 k1
  have h5 := totA_le (ms := x.m) (n := 64) (fun m hm => (isVec_t.1 (isMat_t.1 (okMs_all h4 m hm)).2.2.2).2.1)
  simp only [Rp.size, Qv.size, szM]
  have : x.m.length * 64 ≤ 6 * 64 := Nat.mul_le_mul_right _ (by omega)
  omega
theorem rp0_size : rp0.size = 0 := rfl
end Go.Proofs.Ytjhllgldllbaaaa

/- A valid representation at an arrow. -/
namespace Go.Proofs.Ytjhllgldllbaaaa
set_option linter.unusedVariables false
set_option linter.unusedSimpArgs false
open Go.RowKit

/-- a valid representation at an arrow -/
theorem isRep_at {x : Rp} (hx : isRep x = true) {k : Nat} (hk : k < x.q.f.length) : ∃ (m : Mx) (nf nt yf yt : Nat), x.m[k]? = some m ∧ x.q.f[k]? = some (nf : Int) ∧ x.q.t[k]? = some (nt : Int) ∧ x.d[nf]? = some (yf : Int) ∧ x.d[nt]? = some (yt : Int) ∧
    m = mxF yt yf (entry m.a yf) ∧ (∀ i j, i < yt → j < yf → 0 ≤ entry m.a yf i j ∧ entry m.a yf i j ≤ x.p - 1) ∧ yf ≤ 4 ∧ yt ≤ 4 ∧ nf ≤ 5 ∧ nt ≤ 5 ∧ nf < x.d.length ∧ nt < x.d.length ∧ k < x.q.t.length ∧ k < x.m.length := by
  obtain ⟨h1, h2, h3, h4⟩ := isRep_t.1 hx
  obtain ⟨nf, nt, yf, yt, ef, et, df, dt, lf, lt, l5, l6, l7⟩ := rep_at h2 hk
  have hd := (areDims_t.1 h2).2.2.1
  have bf := hd _ (List.mem_of_getElem? df)
  have bt := hd _ (List.mem_of_getElem? dt)
  have hkm : k < x.m.length := by omega
  have em := List.getElem?_eq_getElem hkm
  obtain ⟨m, hm⟩ : ∃ m, x.m[k] = m := ⟨_, rfl⟩
  rw [hm] at em
  have h5 := h4
  simp only [okMs, List.all_eq_true, List.mem_range] at h5
  have h6 := h5 k hkm
  simp only [List.getD_eq_getElem?_getD, em, ef, et, Option.getD_some] at h6
  simp only [okM, Bool.and_eq_true, decide_eq_true_eq] at h6
  obtain ⟨⟨hM, hc⟩, hr⟩ := h6
  rw [dAt_of df] at hc
  rw [dAt_of dt] at hr
  obtain ⟨_, _, hl, hv⟩ := isMat_t.1 hM
  obtain ⟨YF, rfl⟩ := Int.eq_ofNat_of_zero_le bf.1
  obtain ⟨YT, rfl⟩ := Int.eq_ofNat_of_zero_le bt.1
  have hl' : m.a.length = YT * YF := by
    rw [hr, hc] at hl
    exact_mod_cast hl
  have hrange := (isVec_t.1 hv).2.2
  refine ⟨m, nf, nt, YF, YT, em, ef, et, df, dt, ?_, fun i j hi hj => ?_, by omega, by omega, l5, l6, lf, lt, l7, hkm⟩
  · rw [mx_ext]
    exact ⟨hr, hc, flat_of hl'⟩
  · refine hrange _ ?_
    have := ix_lt hi hj
    rw [entry, List.getD_eq_getElem?_getD, List.getElem?_eq_getElem (by omega)]
    exact List.getElem_mem _
def mx0 : Mx := ⟨0, 0, []⟩
theorem MxO.zero (w : World) (lo hi : Nat) : MxO w lo hi (.agg #[.int .i64 0, .int .i64 0, .slice none 0 0]) mx0 := ⟨_, rfl, ⟨OwnI.nil _ _, by simp [Value.ownBlock]⟩, by simp [mx0, I64], by simp [mx0, I64]⟩
theorem MxO.setBlk {w : World} {lo hi g i : Nat} {v : Value} {m : Mx} {t : TypeId} {cs : Array Value} (h : MxO w lo hi v m) (hb : Blk w g t cs) (ht : 3 ≠ t) (u : Value) : MxO (w.setCell ⟨g, i, none⟩ u) lo hi v m := by
  obtain ⟨s, e, h1, h2⟩ := h
  exact ⟨s, e, ⟨h1.1.setCell (p := ⟨g, i, none⟩) (fun e => h1.1.blkne hb ht e.symm) u, h1.2⟩, h2⟩
end Go.Proofs.Ytjhllgldllbaaaa

/- The matrices of the arrows from a source, and to a sink: plain part, and what walks need. -/
namespace Go.Proofs.Ytjhllgldllbaaaa
set_option linter.unusedVariables false
set_option linter.unusedSimpArgs false
open Go.RowKit

/-- rows (or columns) met so far, and the entries -/
def outS (x : Rp) (v : Int) (C : Nat) : Nat → Nat × (Nat → Nat → Int)
  | 0 => (0, fun _ _ => 0)
  | k + 1 => if x.q.f.getD k 0 = v then ((outS x v C k).1 + (x.m.getD k ⟨0, 0, []⟩).r.toNat, blF (outS x v C k).1 (outS x v C k).2 (entry (x.m.getD k ⟨0, 0, []⟩).a C)) else outS x v C k
def inS (x : Rp) (v : Int) (R : Nat) : Nat → Nat × (Nat → Nat → Int)
  | 0 => (0, fun _ _ => 0)
  | k + 1 => if x.q.t.getD k 0 = v then ((inS x v R k).1 + (x.m.getD k ⟨0, 0, []⟩).c.toNat, bsF (inS x v R k).1 (inS x v R k).2 (entry (x.m.getD k ⟨0, 0, []⟩).a (x.m.getD k ⟨0, 0, []⟩).c.toNat)) else inS x v R k
theorem outS_no {x : Rp} {v : Int} {C k : Nat} {y : Int} (hf : x.q.f[k]? = some y) (h : y ≠ v) : outS x v C (k + 1) = outS x v C k := by
  rw [outS, if_neg]
  rw [List.getD_eq_getElem?_getD, hf]
  exact h
theorem inS_no {x : Rp} {v : Int} {C k : Nat} {y : Int} (hf : x.q.t[k]? = some y) (h : y ≠ v) : inS x v C (k + 1) = inS x v C k := by
  rw [inS, if_neg]
  rw [List.getD_eq_getElem?_getD, hf]
  exact h
theorem outS_yes {x : Rp} {v : Int} {C k yt : Nat} {m : Mx} (hf : x.q.f[k]? = some v) (hm : x.m[k]? = some m) (hr : m.r = (yt : Int)) : outS x v C (k + 1) = ((outS x v C k).1 + yt, blF (outS x v C k).1 (outS x v C k).2 (entry m.a C)) := by
  rw [outS, if_pos]
  · simp only [List.getD_eq_getElem?_getD, hm, Option.getD_some, hr, Int.toNat_natCast]
  · rw [List.getD_eq_getElem?_getD, hf]; rfl
theorem inS_yes {x : Rp} {v : Int} {R k yf : Nat} {m : Mx} (hf : x.q.t[k]? = some v) (hm : x.m[k]? = some m) (hc : m.c = (yf : Int)) : inS x v R (k + 1) = ((inS x v R k).1 + yf, bsF (inS x v R k).1 (inS x v R k).2 (entry m.a yf)) := by
  rw [inS, if_pos]
  · simp only [List.getD_eq_getElem?_getD, hm, Option.getD_some, hc, Int.toNat_natCast]
  · rw [List.getD_eq_getElem?_getD, hf]; rfl
def outOk (x : Rp) (v : Int) : Bool := isRep x && endV x.q.t x.q v
def inOk (x : Rp) (v : Int) : Bool := isRep x && endV x.q.f x.q v

def outP (x : Rp) (v : Int) : Mx × Bool := if outOk x v then (mxF (outS x v (dAt x.d v).toNat x.q.f.length).1 (dAt x.d v).toNat (outS x v (dAt x.d v).toNat x.q.f.length).2, true) else (mx0, false)
def inP (x : Rp) (v : Int) : Mx × Bool := if inOk x v then (mxF (dAt x.d v).toNat (inS x v (dAt x.d v).toNat x.q.f.length).1 (inS x v (dAt x.d v).toNat x.q.f.length).2, true) else (mx0, false)


/-- the state of a loop over the arrows is small -/
theorem outS_le {x : Rp} {v : Int} {C : Nat} (hx : isRep x = true) : ∀ k, k ≤ x.q.f.length → (outS x v C k).1 ≤ 4 * k
  | 0, _ => by simp [outS]
  | k + 1, hk => by
    have ih := outS_le (v := v) (C := C) hx k (by omega)
    obtain ⟨m, nf, nt, yf, yt, em, ef, et, df, dt, eM, _, b1, b2, _⟩ := isRep_at hx (show k < x.q.f.length by omega)
    by_cases h : (nf : Int) = v
    · rw [h] at ef
      rw [outS_yes ef em (yt := yt) (by rw [eM]; rfl)]
      simp only
      omega
    · rw [outS_no ef h]; omega
theorem inS_le {x : Rp} {v : Int} {C : Nat} (hx : isRep x = true) : ∀ k, k ≤ x.q.f.length → (inS x v C k).1 ≤ 4 * k
  | 0, _ => by simp [inS]
  | k + 1, hk => by
    have ih := inS_le (v := v) (C := C) hx k (by omega)
    obtain ⟨m, nf, nt, yf, yt, em, ef, et, df, dt, eM, _, b1, b2, _⟩ := isRep_at hx (show k < x.q.f.length by omega)
    by_cases h : (nt : Int) = v
    · rw [h] at et
      rw [inS_yes et em (yf := yf) (by rw [eM]; rfl)]
      simp only
      omega
    · rw [inS_no et h]; omega
def outM (x : Rp) (v : Int) (C k : Nat) : Mx := mxF (outS x v C k).1 C (outS x v C k).2
def inM (x : Rp) (v : Int) (C k : Nat) : Mx := mxF C (inS x v C k).1 (inS x v C k).2
theorem outM_0 (x : Rp) (v : Int) (C : Nat) : zmx 0 C = outM x v C 0 := zmx_flat 0 C
theorem inM_0 (x : Rp) (v : Int) (C : Nat) : zmx C 0 = inM x v C 0 := zmx_flat C 0
theorem outP_yes {x : Rp} {v : Int} {C : Nat} (h : outOk x v = true) (hC : dAt x.d v = (C : Int)) : outP x v = (outM x v C x.q.f.length, true) := by
  rw [outP, if_pos h, hC, Int.toNat_natCast]; rfl
theorem inP_yes {x : Rp} {v : Int} {C : Nat} (h : inOk x v = true) (hC : dAt x.d v = (C : Int)) : inP x v = (inM x v C x.q.f.length, true) := by
  rw [inP, if_pos h, hC, Int.toNat_natCast]; rfl
/-- what a vertex of a valid representation is -/
theorem vert_at {x : Rp} {v : Int} {l : List Int} (hx : isRep x = true) (hv : endV l x.q v = true) : ∃ n C : Nat, v = (n : Int) ∧ n < x.d.length ∧ x.d[n]? = some (C : Int) ∧ dAt x.d v = (C : Int) ∧ C ≤ 4 ∧ n ≤ 5 := by
  obtain ⟨h1, h2, h3, h4⟩ := areDims_t.1 (isRep_t.1 hx).2.1
  have hV := (isQ_t.1 h1).1
  simp only [endV, Bool.and_eq_true, inR_t] at hv
  obtain ⟨n, rfl⟩ := Int.eq_ofNat_of_zero_le hv.1.1
  have hl : n < x.d.length := by omega
  have e := List.getElem?_eq_getElem hl
  have b := h3 _ (List.mem_of_getElem? e)
  obtain ⟨C, hC⟩ := Int.eq_ofNat_of_zero_le b.1
  rw [hC] at e b
  exact ⟨n, C, rfl, hl, e, dAt_of e, by omega, by omega⟩
end Go.Proofs.Ytjhllgldllbaaaa

/- OutgoingMatrix, IncomingMatrix: where the answer is no. -/
namespace Go.Proofs.Ytjhllgldllbaaaa
set_option linter.unusedVariables false
set_option linter.unusedSimpArgs false
open Go.RowKit
set_option maxHeartbeats 3200000 in
set_option maxRecDepth 100000 in
theorem implOut_no (u : Value) (x : Rp) (v : Int) (w0 : World) (hu : RpR w0 w0.heap.size u x) (hno : outOk x v = false) :
    Calls Try.prog 102 #[u, .int .i64 v] w0 fun e w' => ∃ r, e = .returned (.tuple #[r, .bool (outP x v).2]) ∧ MxO w' w0.heap.size w'.heap.size r (outP x v).1 ∧ Below w0.heap.size w0 w' := by
  have hu' := hu
  obtain ⟨A, a, C, c, E, e, H, h, rfl, hq, hd, hm, hp, ld, lm⟩ := hu.open_
  clear hu
  obtain ⟨W, hW⟩ : ∃ W, W = (w0.alloc (.cells #[.int .i64 x.p, .int .i64 x.q.v, .slice A x.q.f.length a, .slice C x.q.t.length c, .slice E x.d.length e, .slice H x.m.length h] 29)).alloc (.cells #[.int .i64 0, .int .i64 0, .slice none 0 0] 75) := ⟨_, rfl⟩
  have g0 : Below w0.heap.size w0 W := by rw [hW]; exact ((Below.refl _ _).alloc (Nat.le_refl _) _).alloc (by simp) _
  have kB : Blk W w0.heap.size 29 #[.int .i64 x.p, .int .i64 x.q.v, .slice A x.q.f.length a, .slice C x.q.t.length c, .slice E x.d.length e, .slice H x.m.length h] := by rw [hW]; exact (Blk.new _ _ _).alloc _
  have kR : Blk W (w0.heap.size + 1) 75 #[.int .i64 0, .int .i64 0, .slice none 0 0] := by
    rw [hW]
    have := Blk.new (w0.alloc (.cells #[.int .i64 x.p, .int .i64 x.q.v, .slice A x.q.f.length a, .slice C x.q.t.length c, .slice E x.d.length e, .slice H x.m.length h] 29)) 75 #[.int .i64 0, .int .i64 0, .slice none 0 0]
    simpa only [World.size_alloc] using this
  have sz : W.heap.size = w0.heap.size + 1 + 1 := by rw [hW]; simp
  replace hq := QvR.next g0 hq
  replace hd := SlI.next g0 hd
  replace hm := SlM.next g0 hm
  rcases h1 : isRep x with _ | _
  · have HF := Lib.hid (show outP x v = (mx0, false) by simp [outP, outOk, h1])
    have H1 := Lib.hid h1
    have SZ := Lib.hid sz
    have hxr : RpR W W.heap.size (.agg #[.int .i64 x.p, .int .i64 x.q.v, .slice A x.q.f.length a, .slice C x.q.t.length c, .slice E x.d.length e, .slice H x.m.length h]) x := RpR.next g0 hu'
    have HXR := Lib.hid hxr
    clear h1 sz hxr hq hd hm
    have c0 := kB.cell' (i := 0) rfl
    have c1 := kB.cell' (i := 1) rfl
    have c2 := kB.cell' (i := 2) rfl
    have c3 := kB.cell' (i := 3) rfl
    have c4 := kB.cell' (i := 4) rfl
    have c5 := kB.cell' (i := 5) rfl
    go_enter Try.func102, Try.ntmps102
    go_wp2_with fail
    rw [← hW]; clear hW
    refine (implIsRep_any _ x _ HXR.out).mono ?_; rintro e w1 ⟨rfl, hb1⟩
    rw [H1.out]
    replace kR := kR.call hb1
    replace kB := kB.call hb1
    replace g0 := bthen g0 hb1
    have hs1 := hb1.size
    clear c0 c1 c2 c3 c4 c5 hb1
    have hF := HF.out
    have sz := SZ.out
    have kZ := kR
    have p0 := kZ.cell' (i := 0) rfl
    have p1 := kZ.cell' (i := 1) rfl
    have p2 := kZ.cell' (i := 2) rfl
    have fr := kZ.frozen
    clear hF kR kB
    go_wp2
    have hF := HF.out
    exact bodyPost_ret (v := .tuple #[.agg #[.int .i64 0, .int .i64 0, .slice none 0 0], .bool false]) (by simp [results, go_sem, p0, p1, p2]) rfl ⟨_, by rw [hF], by rw [hF]; exact MxO.zero _ _ _, ((g0.setCell (by simp) _).setCell (by simp) _).setCell (by simp) _⟩
  · have HF := Lib.hid (show outP x v = (mx0, false) by simp [outP, hno])
    have hq1 : isQ x.q = true := (areDims_t.1 (isRep_t.1 h1).2.1).1
    have h2 : endV x.q.t x.q v = false := by simpa [outOk, h1] using hno
    have H1 := Lib.hid h1
    have H2 := Lib.hid h2
    have HQ1 := Lib.hid hq1
    have SZ := Lib.hid sz
    have hxr : RpR W W.heap.size (.agg #[.int .i64 x.p, .int .i64 x.q.v, .slice A x.q.f.length a, .slice C x.q.t.length c, .slice E x.d.length e, .slice H x.m.length h]) x := RpR.next g0 hu'
    have HXR := Lib.hid hxr
    clear h1 h2 hq1 hno sz hxr hd hm
    have c0 := kB.cell' (i := 0) rfl
    have c1 := kB.cell' (i := 1) rfl
    have c2 := kB.cell' (i := 2) rfl
    have c3 := kB.cell' (i := 3) rfl
    have c4 := kB.cell' (i := 4) rfl
    have c5 := kB.cell' (i := 5) rfl
    go_enter Try.func102, Try.ntmps102
    go_wp2_with fail
    rw [← hW]; clear hW
    refine (implIsRep_any _ x _ HXR.out).mono ?_; rintro e w1 ⟨rfl, hb1⟩
    rw [H1.out]
    replace kR := kR.call hb1
    replace kB := kB.call hb1
    replace g0 := bthen g0 hb1
    replace hq := QvR.next hb1 hq
    have hs1 := hb1.size
    clear c0 c1 c2 c3 c4 c5 hb1
    have c0 := kB.cell' (i := 0) rfl
    have c1 := kB.cell' (i := 1) rfl
    have c2 := kB.cell' (i := 2) rfl
    have c3 := kB.cell' (i := 3) rfl
    have c4 := kB.cell' (i := 4) rfl
    have c5 := kB.cell' (i := 5) rfl
    go_wp2_with fail
    refine (isSource_any _ x.q v _ hq HQ1.out).mono ?_; rintro e w2 ⟨rfl, hb1⟩
    rw [H2.out]
    replace kR := kR.call hb1
    replace kB := kB.call hb1
    replace g0 := bthen g0 hb1
    have hs2 := hb1.size
    clear c0 c1 c2 c3 c4 c5 hb1 hq
    have hF := HF.out
    have sz := SZ.out
    have kZ := kR
    have p0 := kZ.cell' (i := 0) rfl
    have p1 := kZ.cell' (i := 1) rfl
    have p2 := kZ.cell' (i := 2) rfl
    have fr := kZ.frozen
    clear hF kR kB
    go_wp2
    have hF := HF.out
    exact bodyPost_ret (v := .tuple #[.agg #[.int .i64 0, .int .i64 0, .slice none 0 0], .bool false]) (by simp [results, go_sem, p0, p1, p2]) rfl ⟨_, by rw [hF], by rw [hF]; exact MxO.zero _ _ _, ((g0.setCell (by simp) _).setCell (by simp) _).setCell (by simp) _⟩
set_option maxHeartbeats 3200000 in
set_option maxRecDepth 100000 in
theorem implIn_no (u : Value) (x : Rp) (v : Int) (w0 : World) (hu : RpR w0 w0.heap.size u x) (hno : inOk x v = false) :
    Calls Try.prog 99 #[u, .int .i64 v] w0 fun e w' => ∃ r, e = .returned (.tuple #[r, .bool (inP x v).2]) ∧ MxO w' w0.heap.size w'.heap.size r (inP x v).1 ∧ Below w0.heap.size w0 w' := by
  have hu' := hu
  obtain ⟨A, a, C, c, E, e, H, h, rfl, hq, hd, hm, hp, ld, lm⟩ := hu.open_
  clear hu
  obtain ⟨W, hW⟩ : ∃ W, W = (w0.alloc (.cells #[.int .i64 x.p, .int .i64 x.q.v, .slice A x.q.f.length a, .slice C x.q.t.length c, .slice E x.d.length e, .slice H x.m.length h] 29)).alloc (.cells #[.int .i64 0, .int .i64 0, .slice none 0 0] 75) := ⟨_, rfl⟩
  have g0 : Below w0.heap.size w0 W := by rw [hW]; exact ((Below.refl _ _).alloc (Nat.le_refl _) _).alloc (by simp) _
  have kB : Blk W w0.heap.size 29 #[.int .i64 x.p, .int .i64 x.q.v, .slice A x.q.f.length a, .slice C x.q.t.length c, .slice E x.d.length e, .slice H x.m.length h] := by rw [hW]; exact (Blk.new _ _ _).alloc _
  have kR : Blk W (w0.heap.size + 1) 75 #[.int .i64 0, .int .i64 0, .slice none 0 0] := by
    rw [hW]
    have := Blk.new (w0.alloc (.cells #[.int .i64 x.p, .int .i64 x.q.v, .slice A x.q.f.length a, .slice C x.q.t.length c, .slice E x.d.length e, .slice H x.m.length h] 29)) 75 #[.int .i64 0, .int .i64 0, .slice none 0 0]
    simpa only [World.size_alloc] using this
  have sz : W.heap.size = w0.heap.size + 1 + 1 := by rw [hW]; simp
  replace hq := QvR.next g0 hq
  replace hd := SlI.next g0 hd
  replace hm := SlM.next g0 hm
  rcases h1 : isRep x with _ | _
  · have HF := Lib.hid (show inP x v = (mx0, false) by simp [inP, inOk, h1])
    have H1 := Lib.hid h1
    have SZ := Lib.hid sz
    have hxr : RpR W W.heap.size (.agg #[.int .i64 x.p, .int .i64 x.q.v, .slice A x.q.f.length a, .slice C x.q.t.length c, .slice E x.d.length e, .slice H x.m.length h]) x := RpR.next g0 hu'
    have HXR := Lib.hid hxr
    clear h1 sz hxr hq hd hm
    have c0 := kB.cell' (i := 0) rfl
    have c1 := kB.cell' (i := 1) rfl
    have c2 := kB.cell' (i := 2) rfl
    have c3 := kB.cell' (i := 3) rfl
    have c4 := kB.cell' (i := 4) rfl
    have c5 := kB.cell' (i := 5) rfl
    go_enter Try.func99, Try.ntmps99
    go_wp2_with fail
    rw [← hW]; clear hW
    refine (implIsRep_any _ x _ HXR.out).mono ?_; rintro e w1 ⟨rfl, hb1⟩
    rw [H1.out]
    replace kR := kR.call hb1
    replace kB := kB.call hb1
    replace g0 := bthen g0 hb1
    have hs1 := hb1.size
    clear c0 c1 c2 c3 c4 c5 hb1
    have hF := HF.out
    have sz := SZ.out
    have kZ := kR
    have p0 := kZ.cell' (i := 0) rfl
    have p1 := kZ.cell' (i := 1) rfl
    have p2 := kZ.cell' (i := 2) rfl
    have fr := kZ.frozen
    clear hF kR kB
    go_wp2
    have hF := HF.out
    exact bodyPost_ret (v := .tuple #[.agg #[.int .i64 0, .int .i64 0, .slice none 0 0], .bool false]) (by simp [results, go_sem, p0, p1, p2]) rfl ⟨_, by rw [hF], by rw [hF]; exact MxO.zero _ _ _, ((g0.setCell (by simp) _).setCell (by simp) _).setCell (by simp) _⟩
  · have HF := Lib.hid (show inP x v = (mx0, false) by simp [inP, hno])
    have hq1 : isQ x.q = true := (areDims_t.1 (isRep_t.1 h1).2.1).1
    have h2 : endV x.q.f x.q v = false := by simpa [inOk, h1] using hno
    have H1 := Lib.hid h1
    have H2 := Lib.hid h2
    have HQ1 := Lib.hid hq1
    have SZ := Lib.hid sz
    have hxr : RpR W W.heap.size (.agg #[.int .i64 x.p, .int .i64 x.q.v, .slice A x.q.f.length a, .slice C x.q.t.length c, .slice E x.d.length e, .slice H x.m.length h]) x := RpR.next g0 hu'
    have HXR := Lib.hid hxr
    clear h1 h2 hq1 hno sz hxr hd hm
    have c0 := kB.cell' (i := 0) rfl
    have c1 := kB.cell' (i := 1) rfl
    have c2 := kB.cell' (i := 2) rfl
    have c3 := kB.cell' (i := 3) rfl
    have c4 := kB.cell' (i := 4) rfl
    have c5 := kB.cell' (i := 5) rfl
    go_enter Try.func99, Try.ntmps99
    go_wp2_with fail
    rw [← hW]; clear hW
    refine (implIsRep_any _ x _ HXR.out).mono ?_; rintro e w1 ⟨rfl, hb1⟩
    rw [H1.out]
    replace kR := kR.call hb1
    replace kB := kB.call hb1
    replace g0 := bthen g0 hb1
    replace hq := QvR.next hb1 hq
    have hs1 := hb1.size
    clear c0 c1 c2 c3 c4 c5 hb1
    have c0 := kB.cell' (i := 0) rfl
    have c1 := kB.cell' (i := 1) rfl
    have c2 := kB.cell' (i := 2) rfl
    have c3 := kB.cell' (i := 3) rfl
    have c4 := kB.cell' (i := 4) rfl
    have c5 := kB.cell' (i := 5) rfl
    go_wp2_with fail
    refine (isSink_any _ x.q v _ hq HQ1.out).mono ?_; rintro e w2 ⟨rfl, hb1⟩
    rw [H2.out]
    replace kR := kR.call hb1
    replace kB := kB.call hb1
    replace g0 := bthen g0 hb1
    have hs2 := hb1.size
    clear c0 c1 c2 c3 c4 c5 hb1 hq
    have hF := HF.out
    have sz := SZ.out
    have kZ := kR
    have p0 := kZ.cell' (i := 0) rfl
    have p1 := kZ.cell' (i := 1) rfl
    have p2 := kZ.cell' (i := 2) rfl
    have fr := kZ.frozen
    clear hF kR kB
    go_wp2
    have hF := HF.out
    exact bodyPost_ret (v := .tuple #[.agg #[.int .i64 0, .int .i64 0, .slice none 0 0], .bool false]) (by simp [results, go_sem, p0, p1, p2]) rfl ⟨_, by rw [hF], by rw [hF]; exact MxO.zero _ _ _, ((g0.setCell (by simp) _).setCell (by simp) _).setCell (by simp) _⟩
set_option maxHeartbeats 3200000 in
set_option maxRecDepth 100000 in
theorem specOut_no (u : Value) (x : Rp) (v : Int) (w0 : World) (hu : RpR w0 w0.heap.size u x) (hno : outOk x v = false) :
    Calls Try.prog 101 #[u, .int .i64 v] w0 fun e w' => ∃ r, e = .returned (.tuple #[r, .bool (outP x v).2]) ∧ MxO w' w0.heap.size w'.heap.size r (outP x v).1 ∧ Below w0.heap.size w0 w' := by
  have hu' := hu
  obtain ⟨A, a, C, c, E, e, H, h, rfl, hq, hd, hm, hp, ld, lm⟩ := hu.open_
  clear hu
  obtain ⟨W, hW⟩ : ∃ W, W = (w0.alloc (.cells #[.int .i64 x.p, .int .i64 x.q.v, .slice A x.q.f.length a, .slice C x.q.t.length c, .slice E x.d.length e, .slice H x.m.length h] 29)).alloc (.cells #[.int .i64 0, .int .i64 0, .slice none 0 0] 75) := ⟨_, rfl⟩
  have g0 : Below w0.heap.size w0 W := by rw [hW]; exact ((Below.refl _ _).alloc (Nat.le_refl _) _).alloc (by simp) _
  have kB : Blk W w0.heap.size 29 #[.int .i64 x.p, .int .i64 x.q.v, .slice A x.q.f.length a, .slice C x.q.t.length c, .slice E x.d.length e, .slice H x.m.length h] := by rw [hW]; exact (Blk.new _ _ _).alloc _
  have kR : Blk W (w0.heap.size + 1) 75 #[.int .i64 0, .int .i64 0, .slice none 0 0] := by
    rw [hW]
    have := Blk.new (w0.alloc (.cells #[.int .i64 x.p, .int .i64 x.q.v, .slice A x.q.f.length a, .slice C x.q.t.length c, .slice E x.d.length e, .slice H x.m.length h] 29)) 75 #[.int .i64 0, .int .i64 0, .slice none 0 0]
    simpa only [World.size_alloc] using this
  have sz : W.heap.size = w0.heap.size + 1 + 1 := by rw [hW]; simp
  replace hq := QvR.next g0 hq
  replace hd := SlI.next g0 hd
  replace hm := SlM.next g0 hm
  rcases h1 : isRep x with _ | _
  · have HF := Lib.hid (show outP x v = (mx0, false) by simp [outP, outOk, h1])
    have H1 := Lib.hid h1
    have SZ := Lib.hid sz
    have hxr : RpR W W.heap.size (.agg #[.int .i64 x.p, .int .i64 x.q.v, .slice A x.q.f.length a, .slice C x.q.t.length c, .slice E x.d.length e, .slice H x.m.length h]) x := RpR.next g0 hu'
    have HXR := Lib.hid hxr
    clear h1 sz hxr hq hd hm
    have c0 := kB.cell' (i := 0) rfl
    have c1 := kB.cell' (i := 1) rfl
    have c2 := kB.cell' (i := 2) rfl
    have c3 := kB.cell' (i := 3) rfl
    have c4 := kB.cell' (i := 4) rfl
    have c5 := kB.cell' (i := 5) rfl
    go_enter Try.func101, Try.ntmps101
    go_wp2_with fail
    rw [← hW]; clear hW
    refine (specIsRep_any _ x _ HXR.out).mono ?_; rintro e w1 ⟨rfl, hb1⟩
    rw [H1.out]
    replace kR := kR.call hb1
    replace kB := kB.call hb1
    replace g0 := bthen g0 hb1
    have hs1 := hb1.size
    clear c0 c1 c2 c3 c4 c5 hb1
    have hF := HF.out
    have sz := SZ.out
    have kZ := kR
    have p0 := kZ.cell' (i := 0) rfl
    have p1 := kZ.cell' (i := 1) rfl
    have p2 := kZ.cell' (i := 2) rfl
    have fr := kZ.frozen
    clear hF kR kB
    go_wp2
    have hF := HF.out
    exact bodyPost_ret (v := .tuple #[.agg #[.int .i64 0, .int .i64 0, .slice none 0 0], .bool false]) (by simp [results, go_sem, p0, p1, p2]) rfl ⟨_, by rw [hF], by rw [hF]; exact MxO.zero _ _ _, ((g0.setCell (by simp) _).setCell (by simp) _).setCell (by simp) _⟩
  · have HF := Lib.hid (show outP x v = (mx0, false) by simp [outP, hno])
    have hq1 : isQ x.q = true := (areDims_t.1 (isRep_t.1 h1).2.1).1
    have h2 : endV x.q.t x.q v = false := by simpa [outOk, h1] using hno
    have hV : x.q.v = (x.q.v.toNat : Int) := by have := (isQ_t.1 hq1).1; omega
    have h3 : decide (v ∈ freeV x.q.t x.q.v.toNat) = false := by rw [freeV_mem _ _ _ _ hV]; exact h2
    have H1 := Lib.hid h1
    have H3 := Lib.hid h3
    have HQ1 := Lib.hid hq1
    have SZ := Lib.hid sz
    have hxr : RpR W W.heap.size (.agg #[.int .i64 x.p, .int .i64 x.q.v, .slice A x.q.f.length a, .slice C x.q.t.length c, .slice E x.d.length e, .slice H x.m.length h]) x := RpR.next g0 hu'
    have HXR := Lib.hid hxr
    clear h1 h2 h3 hq1 hno sz hxr hd hm hV
    have c0 := kB.cell' (i := 0) rfl
    have c1 := kB.cell' (i := 1) rfl
    have c2 := kB.cell' (i := 2) rfl
    have c3 := kB.cell' (i := 3) rfl
    have c4 := kB.cell' (i := 4) rfl
    have c5 := kB.cell' (i := 5) rfl
    go_enter Try.func101, Try.ntmps101
    go_wp2_with fail
    rw [← hW]; clear hW
    refine (specIsRep_any _ x _ HXR.out).mono ?_; rintro e w1 ⟨rfl, hb1⟩
    rw [H1.out]
    replace kR := kR.call hb1
    replace kB := kB.call hb1
    replace g0 := bthen g0 hb1
    replace hq := QvR.next hb1 hq
    have hs1 := hb1.size
    clear c0 c1 c2 c3 c4 c5 hb1
    have c0 := kB.cell' (i := 0) rfl
    have c1 := kB.cell' (i := 1) rfl
    have c2 := kB.cell' (i := 2) rfl
    have c3 := kB.cell' (i := 3) rfl
    have c4 := kB.cell' (i := 4) rfl
    have c5 := kB.cell' (i := 5) rfl
    go_wp2_with fail
    refine (sourcesOf_any _ x.q _ hq HQ1.out).mono ?_; rintro e w2 ⟨sv, rfl, hsv, hb1⟩
    replace kR := kR.call hb1
    replace kB := kB.call hb1
    replace g0 := bthen g0 hb1
    have hs2 := hb1.size
    clear c0 c1 c2 c3 c4 c5 hb1 hq
    go_wp2_with fail
    refine (l4Has_any _ _ v _ hsv).mono ?_; rintro e w3 ⟨rfl, hb1⟩
    rw [H3.out]
    replace kR := kR.call hb1
    replace kB := kB.call hb1
    replace g0 := bthen g0 hb1
    have hs3 := hb1.size
    clear hb1 hsv
    have hF := HF.out
    have sz := SZ.out
    have kZ := kR
    have p0 := kZ.cell' (i := 0) rfl
    have p1 := kZ.cell' (i := 1) rfl
    have p2 := kZ.cell' (i := 2) rfl
    have fr := kZ.frozen
    clear hF kR kB
    go_wp2
    have hF := HF.out
    exact bodyPost_ret (v := .tuple #[.agg #[.int .i64 0, .int .i64 0, .slice none 0 0], .bool false]) (by simp [results, go_sem, p0, p1, p2]) rfl ⟨_, by rw [hF], by rw [hF]; exact MxO.zero _ _ _, ((g0.setCell (by simp) _).setCell (by simp) _).setCell (by simp) _⟩
set_option maxHeartbeats 3200000 in
set_option maxRecDepth 100000 in
theorem specIn_no (u : Value) (x : Rp) (v : Int) (w0 : World) (hu : RpR w0 w0.heap.size u x) (hno : inOk x v = false) :
    Calls Try.prog 96 #[u, .int .i64 v] w0 fun e w' => ∃ r, e = .returned (.tuple #[r, .bool (inP x v).2]) ∧ MxO w' w0.heap.size w'.heap.size r (inP x v).1 ∧ Below w0.heap.size w0 w' := by
  have hu' := hu
  obtain ⟨A, a, C, c, E, e, H, h, rfl, hq, hd, hm, hp, ld, lm⟩ := hu.open_
  clear hu
  obtain ⟨W, hW⟩ : ∃ W, W = (w0.alloc (.cells #[.int .i64 x.p, .int .i64 x.q.v, .slice A x.q.f.length a, .slice C x.q.t.length c, .slice E x.d.length e, .slice H x.m.length h] 29)).alloc (.cells #[.int .i64 0, .int .i64 0, .slice none 0 0] 75) := ⟨_, rfl⟩
  have g0 : Below w0.heap.size w0 W := by rw [hW]; exact ((Below.refl _ _).alloc (Nat.le_refl _) _).alloc (by simp) _
  have kB : Blk W w0.heap.size 29 #[.int .i64 x.p, .int .i64 x.q.v, .slice A x.q.f.length a, .slice C x.q.t.length c, .slice E x.d.length e, .slice H x.m.length h] := by rw [hW]; exact (Blk.new _ _ _).alloc _
  have kR : Blk W (w0.heap.size + 1) 75 #[.int .i64 0, .int .i64 0, .slice none 0 0] := by
    rw [hW]
    have := Blk.new (w0.alloc (.cells #[.int .i64 x.p, .int .i64 x.q.v, .slice A x.q.f.length a, .slice C x.q.t.length c, .slice E x.d.length e, .slice H x.m.length h] 29)) 75 #[.int .i64 0, .int .i64 0, .slice none 0 0]
    simpa only [World.size_alloc] using this
  have sz : W.heap.size = w0.heap.size + 1 + 1 := by rw [hW]; simp
  replace hq := QvR.next g0 hq
  replace hd := SlI.next g0 hd
  replace hm := SlM.next g0 hm
  rcases h1 : isRep x with _ | _
  · have HF := Lib.hid (show inP x v = (mx0, false) by simp [inP, inOk, h1])
    have H1 := Lib.hid h1
    have SZ := Lib.hid sz
    have hxr : RpR W W.heap.size (.agg #[.int .i64 x.p, .int .i64 x.q.v, .slice A x.q.f.length a, .slice C x.q.t.length c, .slice E x.d.length e, .slice H x.m.length h]) x := RpR.next g0 hu'
    have HXR := Lib.hid hxr
    clear h1 sz hxr hq hd hm
    have c0 := kB.cell' (i := 0) rfl
    have c1 := kB.cell' (i := 1) rfl
    have c2 := kB.cell' (i := 2) rfl
    have c3 := kB.cell' (i := 3) rfl
    have c4 := kB.cell' (i := 4) rfl
    have c5 := kB.cell' (i := 5) rfl
    go_enter Try.func96, Try.ntmps96
    go_wp2_with fail
    rw [← hW]; clear hW
    refine (specIsRep_any _ x _ HXR.out).mono ?_; rintro e w1 ⟨rfl, hb1⟩
    rw [H1.out]
    replace kR := kR.call hb1
    replace kB := kB.call hb1
    replace g0 := bthen g0 hb1
    have hs1 := hb1.size
    clear c0 c1 c2 c3 c4 c5 hb1
    have hF := HF.out
    have sz := SZ.out
    have kZ := kR
    have p0 := kZ.cell' (i := 0) rfl
    have p1 := kZ.cell' (i := 1) rfl
    have p2 := kZ.cell' (i := 2) rfl
    have fr := kZ.frozen
    clear hF kR kB
    go_wp2
    have hF := HF.out
    exact bodyPost_ret (v := .tuple #[.agg #[.int .i64 0, .int .i64 0, .slice none 0 0], .bool false]) (by simp [results, go_sem, p0, p1, p2]) rfl ⟨_, by rw [hF], by rw [hF]; exact MxO.zero _ _ _, ((g0.setCell (by simp) _).setCell (by simp) _).setCell (by simp) _⟩
  · have HF := Lib.hid (show inP x v = (mx0, false) by simp [inP, hno])
    have hq1 : isQ x.q = true := (areDims_t.1 (isRep_t.1 h1).2.1).1
    have h2 : endV x.q.f x.q v = false := by simpa [inOk, h1] using hno
    have hV : x.q.v = (x.q.v.toNat : Int) := by have := (isQ_t.1 hq1).1; omega
    have h3 : decide (v ∈ freeV x.q.f x.q.v.toNat) = false := by rw [freeV_mem _ _ _ _ hV]; exact h2
    have H1 := Lib.hid h1
    have H3 := Lib.hid h3
    have HQ1 := Lib.hid hq1
    have SZ := Lib.hid sz
    have hxr : RpR W W.heap.size (.agg #[.int .i64 x.p, .int .i64 x.q.v, .slice A x.q.f.length a, .slice C x.q.t.length c, .slice E x.d.length e, .slice H x.m.length h]) x := RpR.next g0 hu'
    have HXR := Lib.hid hxr
    clear h1 h2 h3 hq1 hno sz hxr hd hm hV
    have c0 := kB.cell' (i := 0) rfl
    have c1 := kB.cell' (i := 1) rfl
    have c2 := kB.cell' (i := 2) rfl
    have c3 := kB.cell' (i := 3) rfl
    have c4 := kB.cell' (i := 4) rfl
    have c5 := kB.cell' (i := 5) rfl
    go_enter Try.func96, Try.ntmps96
    go_wp2_with fail
    rw [← hW]; clear hW
    refine (specIsRep_any _ x _ HXR.out).mono ?_; rintro e w1 ⟨rfl, hb1⟩
    rw [H1.out]
    replace kR := kR.call hb1
    replace kB := kB.call hb1
    replace g0 := bthen g0 hb1
    replace hq := QvR.next hb1 hq
    have hs1 := hb1.size
    clear c0 c1 c2 c3 c4 c5 hb1
    have c0 := kB.cell' (i := 0) rfl
    have c1 := kB.cell' (i := 1) rfl
    have c2 := kB.cell' (i := 2) rfl
    have c3 := kB.cell' (i := 3) rfl
    have c4 := kB.cell' (i := 4) rfl
    have c5 := kB.cell' (i := 5) rfl
    go_wp2_with fail
    refine (sinksOf_any _ x.q _ hq HQ1.out).mono ?_; rintro e w2 ⟨sv, rfl, hsv, hb1⟩
    replace kR := kR.call hb1
    replace kB := kB.call hb1
    replace g0 := bthen g0 hb1
    have hs2 := hb1.size
    clear c0 c1 c2 c3 c4 c5 hb1 hq
    go_wp2_with fail
    refine (l4Has_any _ _ v _ hsv).mono ?_; rintro e w3 ⟨rfl, hb1⟩
    rw [H3.out]
    replace kR := kR.call hb1
    replace kB := kB.call hb1
    replace g0 := bthen g0 hb1
    have hs3 := hb1.size
    clear hb1 hsv
    have hF := HF.out
    have sz := SZ.out
    have kZ := kR
    have p0 := kZ.cell' (i := 0) rfl
    have p1 := kZ.cell' (i := 1) rfl
    have p2 := kZ.cell' (i := 2) rfl
    have fr := kZ.frozen
    clear hF kR kB
    go_wp2
    have hF := HF.out
    exact bodyPost_ret (v := .tuple #[.agg #[.int .i64 0, .int .i64 0, .slice none 0 0], .bool false]) (by simp [results, go_sem, p0, p1, p2]) rfl ⟨_, by rw [hF], by rw [hF]; exact MxO.zero _ _ _, ((g0.setCell (by simp) _).setCell (by simp) _).setCell (by simp) _⟩
end Go.Proofs.Ytjhllgldllbaaaa

/- OutgoingMatrix, IncomingMatrix of the program. -/
namespace Go.Proofs.Ytjhllgldllbaaaa
set_option linter.unusedVariables false
set_option linter.unusedSimpArgs false
open Go.RowKit
set_option maxHeartbeats 6400000 in
set_option maxRecDepth 100000 in
theorem implOut_yes (u : Value) (x : Rp) (v : Int) (w0 : World) (hu : RpR w0 w0.heap.size u x) (hyes : outOk x v = true) :
    Calls Try.prog 102 #[u, .int .i64 v] w0 fun e w' => ∃ r, e = .returned (.tuple #[r, .bool (outP x v).2]) ∧ MxO w' w0.heap.size w'.heap.size r (outP x v).1 ∧ Below w0.heap.size w0 w' := by
  have hu' := hu
  obtain ⟨A, a, C, c, E, e, H, h, rfl, hq, hd, hm, hp, ld, lm⟩ := hu.open_
  clear hu
  obtain ⟨W, hW⟩ : ∃ W, W = (w0.alloc (.cells #[.int .i64 x.p, .int .i64 x.q.v, .slice A x.q.f.length a, .slice C x.q.t.length c, .slice E x.d.length e, .slice H x.m.length h] 29)).alloc (.cells #[.int .i64 0, .int .i64 0, .slice none 0 0] 75) := ⟨_, rfl⟩
  have g0 : Below w0.heap.size w0 W := by rw [hW]; exact ((Below.refl _ _).alloc (Nat.le_refl _) _).alloc (by simp) _
  have kB : Blk W w0.heap.size 29 #[.int .i64 x.p, .int .i64 x.q.v, .slice A x.q.f.length a, .slice C x.q.t.length c, .slice E x.d.length e, .slice H x.m.length h] := by rw [hW]; exact (Blk.new _ _ _).alloc _
  have kR : Blk W (w0.heap.size + 1) 75 #[.int .i64 0, .int .i64 0, .slice none 0 0] := by
    rw [hW]
    have := Blk.new (w0.alloc (.cells #[.int .i64 x.p, .int .i64 x.q.v, .slice A x.q.f.length a, .slice C x.q.t.length c, .slice E x.d.length e, .slice H x.m.length h] 29)) 75 #[.int .i64 0, .int .i64 0, .slice none 0 0]
    simpa only [World.size_alloc] using this
  have sz : W.heap.size = w0.heap.size + 1 + 1 := by rw [hW]; simp
  replace hq := QvR.next g0 hq
  replace hd := SlI.next g0 hd
  replace hm := SlM.next g0 hm
  have h1 : isRep x = true := by simp only [outOk, Bool.and_eq_true] at hyes; exact hyes.1
  have h2 : endV x.q.t x.q v = true := by simp only [outOk, Bool.and_eq_true] at hyes; exact hyes.2
  have hq1 : isQ x.q = true := (areDims_t.1 (isRep_t.1 h1).2.1).1
  obtain ⟨n, D, rfl, hn, dn, hD, hD4, hn5⟩ := vert_at h1 h2
  have HF := Lib.hid (outP_yes hyes hD)
  have DN := Lib.hid dn
  have H1 := Lib.hid h1
  have H2 := Lib.hid h2
  have HQ1 := Lib.hid hq1
  have SZ := Lib.hid sz
  have hl6 : x.q.f.length ≤ 6 := (isQ_t.1 hq1).2.2.1
  have HXR := Lib.hid (show RpR W W.heap.size (.agg #[.int .i64 x.p, .int .i64 x.q.v, .slice A x.q.f.length a, .slice C x.q.t.length c, .slice E x.d.length e, .slice H x.m.length h]) x from RpR.next g0 hu')
  have HQ := Lib.hid hq
  have HD := Lib.hid hd
  have HM := Lib.hid hm
  have KB := Lib.hid kB
  have KR := Lib.hid kR
  have G0 := Lib.hid g0
  clear h1 h2 hq1 sz hD hyes hu' hm
  have c0 := kB.cell' (i := 0) rfl
  have c1 := kB.cell' (i := 1) rfl
  have c2 := kB.cell' (i := 2) rfl
  have c3 := kB.cell' (i := 3) rfl
  have c4 := kB.cell' (i := 4) rfl
  have c5 := kB.cell' (i := 5) rfl
  go_enter Try.func102, Try.ntmps102
  go_wp2_with fail
  rw [← hW]; clear hW
  refine (implIsRep_any _ x _ HXR.out).mono ?_; rintro e w1 ⟨rfl, hb1⟩
  rw [H1.out]
  replace kB := kB.call hb1
  replace hq := QvR.next hb1 hq
  have gW := hb1
  clear c0 c1 c2 c3 c4 c5 hb1
  have c0 := kB.cell' (i := 0) rfl
  have c1 := kB.cell' (i := 1) rfl
  have c2 := kB.cell' (i := 2) rfl
  have c3 := kB.cell' (i := 3) rfl
  have c4 := kB.cell' (i := 4) rfl
  have c5 := kB.cell' (i := 5) rfl
  go_wp2_with fail
  refine (isSource_any _ x.q n _ hq HQ1.out).mono ?_; rintro e w2 ⟨rfl, hb1⟩
  rw [H2.out]
  replace kB := kB.call hb1
  replace gW := bthen gW hb1
  clear c0 c1 c2 c3 c4 c5 hb1 hq
  have c0 := kB.cell' (i := 0) rfl
  have c1 := kB.cell' (i := 1) rfl
  have c2 := kB.cell' (i := 2) rfl
  have c3 := kB.cell' (i := 3) rfl
  have c4 := kB.cell' (i := 4) rfl
  have c5 := kB.cell' (i := 5) rfl
  have hd2 := SlI.more gW.size (SlI.below gW hd)
  obtain ⟨be, oe, xe, rfl, hbe, HXE, xc, _⟩ := SlI.at_ hd2 hn
  have ex := HXE.out
  rw [dn] at ex
  injection ex with ex
  subst ex
  clear hd hd2 HXE hbe
  go_wp2_with fail
  refine (zero_any 0 (D : Int) _ (by omega) (by omega) (by omega) (by omega)).mono ?_; rintro e w3 ⟨v3, rfl, hZ, hb3⟩
  rw [outM_0 x n D] at hZ
  obtain ⟨MA, mc, e3⟩ := hZ.form
  subst e3
  have gW3 := bthen gW hb3
  have hs3 := hb3.size
  have hs2 := gW.size
  obtain ⟨N3, hN3⟩ : ∃ nn, (outM x n D 0).a.length = nn := ⟨_, rfl⟩
  rw [hN3] at hZ ⊢
  obtain ⟨W4, hW4⟩ : ∃ W4, W4 = w3.alloc (.cells #[.int .i64 (outM x n D 0).r, .int .i64 (outM x n D 0).c, .slice MA N3 mc] 75) := ⟨_, rfl⟩
  have b4 : Below w3.heap.size w3 W4 := by rw [hW4]; exact below_alloc _ _
  have k4 : Blk W4 w3.heap.size 75 #[.int .i64 (outM x n D 0).r, .int .i64 (outM x n D 0).c, .slice MA N3 mc] := by rw [hW4]; exact Blk.new _ _ _
  have l4 : w3.heap.size < W4.heap.size := k4.lt
  have kB4 := (kB.call hb3).call b4
  have gW4 := bthen gW3 b4
  have hO := (hZ.below b4).wider (lo' := W.heap.size) (hi' := W4.heap.size) (by omega) (by omega)
  clear c0 c1 c2 c3 c4 c5 xc hZ hb3 b4 gW gW3 kB hN3
  have c0 := kB4.cell' (i := 0) rfl
  have c1 := kB4.cell' (i := 1) rfl
  have c2 := kB4.cell' (i := 2) rfl
  have c3 := kB4.cell' (i := 3) rfl
  have c4 := kB4.cell' (i := 4) rfl
  have c5 := kB4.cell' (i := 5) rfl
  rw [hW4] at c0 c1 c2 c3 c4 c5
  go_wp2
  rw [← hW4]
  clear hW4 c0 c1 c2 c3 c4 c5 kB4
  go_loopw [30] (fun i wr => ∃ (k N mc : Nat) (MA : Option Addr), k ≤ x.q.f.length ∧ i = .int .i64 k ∧ Below W.heap.size W wr ∧ Blk wr w3.heap.size 75 #[.int .i64 (outM x n D k).r, .int .i64 (outM x n D k).c, .slice MA N mc] ∧ MxO wr W.heap.size wr.heap.size (.agg #[.int .i64 (outM x n D k).r, .int .i64 (outM x n D k).c, .slice MA N mc]) (outM x n D k)) (fun i _ => x.q.f.length - (intOf i).toNat)
  case atStart => exact ⟨0, _, _, _, Nat.zero_le _, rfl, gW4, k4, hO⟩
  case round =>
    clear k4 hO gW4
    obtain ⟨k, N, mc, MA, hk, rfl, gW, k4, hO⟩ := hrel
    have s6 := gW.size
    by_cases hlt : k < x.q.f.length
    · obtain ⟨m, nf, nt, yf, yt, em, ef, et, df, dt, eM, _, b1, b2, b3, b4, b5, b6, b7, b8⟩ := isRep_at H1.out hlt
      obtain ⟨hsf, hst⟩ := QvR.sl HQ.out
      obtain ⟨bf, of_, xf, rfl, hbf, HXF, f1, _⟩ := SlI.at_ hsf hlt
      have q1 := HXF.out
      rw [ef] at q1
      injection q1 with q1
      subst q1
      have f2 := bcell gW hbf f1
      have hm := HM.out
      obtain ⟨bm, om, m', MB, mb, rfl, hbm, HXM, x0, x1, x2, hsl, hr1, hr2, _⟩ := SlM.at_ hm b8
      have q2 := HXM.out
      rw [em] at q2
      injection q2 with q2
      subst q2
      have HMR : Hid (MxR W W.heap.size (.agg #[.int .i64 m.r, .int .i64 m.c, .slice MB m.a.length mb]) m) := ⟨_, rfl, hsl, hr1, hr2⟩
      have kBr := (KB.out).below gW (KB.out).lt
      have EF := Lib.hid ef
      have DF := Lib.hid df
      have EM := Lib.hid em
      have EMX := Lib.hid eM
      clear HXF HXM hsf hst hm hsl hr1 hr2 f1 em ef et df dt eM
      by_cases hv : nf = n
      · subst hv
        have hR := outS_le (v := (nf : Int)) (C := D) H1.out k hk
        have hyD : yf = D := by have := DN.out; rw [DF.out] at this; injection this with this; omega
        subst hyD
        have e1 := outS_yes (C := yf) EF.out EM.out (yt := yt) (by rw [EMX.out]; rfl)
        have e2 : outM x nf yf (k + 1) = mxF ((outS x nf yf k).1 + yt) yf (blF (outS x nf yf k).1 (outS x nf yf k).2 (entry m.a yf)) := by unfold outM; rw [e1]
        have E2 := Lib.hid e2
        have HR := Lib.hid hR
        have gws := gW.size
        have hHO := Lib.hid hO
        have x0' := bcell gW hbm x0
        have x1' := bcell gW hbm x1
        have x2' := bcell gW hbm x2
        have hbmw : bm < wr.heap.size := by omega
        clear e1 e2 hR x0 x1 x2 hO
        go_wp2
        obtain ⟨y, hy⟩ : ∃ y, y = x := ⟨_, rfl⟩
        subst hy
        refine wp_region_net (by kernel_rfl) [.eq (.agg #[.int .i64 (outM y nf yf k).r, .int .i64 (outM y nf yf k).c, .slice MA N mc]), .eq (.pointer (some ⟨w0.heap.size, 5, none⟩)), .eq (.slice (some ⟨bm, om, none⟩) y.m.length h), .eq (.int .i64 k), .eq (.pointer (some ⟨bm, om + k * 3, none⟩)), .eq (.agg #[.int .i64 m.r, .int .i64 m.c, .slice MB m.a.length mb]), rel 6 (fun u lo hi w => MxO w lo hi u (outM y nf yf (k + 1)))] [[], [], [1], [], [1, 2, 3], [1, 2, 3, 4], [0, 1, 2, 3, 4, 5], [0, 1, 2, 3, 4, 5, 6]] 7 (by kernel_rfl) ⟨trivial, trivial, trivial, trivial, trivial, trivial, rel_stable (fun u lo hi w w' h hb => h.below hb), trivial⟩ ⟨?_, ?_, ?_, ?_, ?_, ?_, ?_, trivial⟩ ?_
        · intro x w hb hk Q' hQ
          clear hk
          simp only [netAct, dstAt, List.getElem?_toArray, List.getElem?_cons_zero, List.getElem?_cons_succ, Option.bind_some, Act.put, List.setIfInBounds_toArray, List.set_cons_zero, List.set_cons_succ] at hQ ⊢
          have z0 := (k4.call hb).cell' (i := 0) rfl
          have z1 := (k4.call hb).cell' (i := 1) rfl
          have z2 := (k4.call hb).cell' (i := 2) rfl
          go_wp2
          exact hQ (.agg #[.int .i64 (outM y nf yf k).r, .int .i64 (outM y nf yf k).c, .slice MA N mc]) _ (Below.refl _ _) rfl
        · intro x w hb hk Q' hQ
          clear hk
          simp only [netAct, dstAt, List.getElem?_toArray, List.getElem?_cons_zero, List.getElem?_cons_succ, Option.bind_some, Act.put, List.setIfInBounds_toArray, List.set_cons_zero, List.set_cons_succ] at hQ ⊢
          go_wp2
          exact hQ (.pointer (some ⟨w0.heap.size, 5, none⟩)) _ (Below.refl _ _) rfl
        · intro x w hb hk Q' hQ
          have h1 : x.v 1 = .pointer (some ⟨w0.heap.size, 5, none⟩) := (hk 1 (by decide)).1
          clear hk
          simp only [netAct, dstAt, List.getElem?_toArray, List.getElem?_cons_zero, List.getElem?_cons_succ, Option.bind_some, Act.put, List.setIfInBounds_toArray, List.set_cons_zero, List.set_cons_succ] at hQ ⊢
          simp only [h1] at hQ ⊢
          clear h1
          have z5 := (kBr.call hb).cell' (i := 5) rfl
          go_wp2
          exact hQ (.slice (some ⟨bm, om, none⟩) y.m.length h) _ (Below.refl _ _) rfl
        · intro x w hb hk Q' hQ
          clear hk
          simp only [netAct, dstAt, List.getElem?_toArray, List.getElem?_cons_zero, List.getElem?_cons_succ, Option.bind_some, Act.put, List.setIfInBounds_toArray, List.set_cons_zero, List.set_cons_succ] at hQ ⊢
          go_wp2
          exact hQ (.int .i64 k) _ (Below.refl _ _) rfl
        · intro x w hb hk Q' hQ
          have h2 : x.v 2 = .slice (some ⟨bm, om, none⟩) y.m.length h := (hk 2 (by decide)).1
          have h3 : x.v 3 = .int .i64 k := (hk 3 (by decide)).1
          clear hk
          simp only [netAct, dstAt, List.getElem?_toArray, List.getElem?_cons_zero, List.getElem?_cons_succ, Option.bind_some, Act.put, List.setIfInBounds_toArray, List.set_cons_zero, List.set_cons_succ] at hQ ⊢
          simp only [h2, h3] at hQ ⊢
          clear h2 h3
          go_wp2
          exact hQ (.pointer (some ⟨bm, om + k * 3, none⟩)) _ (Below.refl _ _) rfl
        · intro x w hb hk Q' hQ
          have h4 : x.v 4 = .pointer (some ⟨bm, om + k * 3, none⟩) := (hk 4 (by decide)).1
          clear hk
          simp only [netAct, dstAt, List.getElem?_toArray, List.getElem?_cons_zero, List.getElem?_cons_succ, Option.bind_some, Act.put, List.setIfInBounds_toArray, List.set_cons_zero, List.set_cons_succ] at hQ ⊢
          simp only [h4] at hQ ⊢
          clear h4
          have z0 := bcell hb hbmw x0'
          have z1 := bcell hb hbmw x1'
          have z2 := bcell hb hbmw x2'
          go_wp2
          exact hQ (.agg #[.int .i64 m.r, .int .i64 m.c, .slice MB m.a.length mb]) _ (Below.refl _ _) rfl
        · intro x w hb hk Q' hQ
          have h0 : x.v 0 = .agg #[.int .i64 (outM y nf yf k).r, .int .i64 (outM y nf yf k).c, .slice MA N mc] := (hk 0 (by decide)).1
          have h1 : x.v 1 = .pointer (some ⟨w0.heap.size, 5, none⟩) := (hk 1 (by decide)).1
          have h2 : x.v 2 = .slice (some ⟨bm, om, none⟩) y.m.length h := (hk 2 (by decide)).1
          have h3 : x.v 3 = .int .i64 k := (hk 3 (by decide)).1
          have h4 : x.v 4 = .pointer (some ⟨bm, om + k * 3, none⟩) := (hk 4 (by decide)).1
          have h5 : x.v 5 = .agg #[.int .i64 m.r, .int .i64 m.c, .slice MB m.a.length mb] := (hk 5 (by decide)).1
          clear hk
          simp only [netAct, dstAt, List.getElem?_toArray, List.getElem?_cons_zero, List.getElem?_cons_succ, Option.bind_some, Act.put, List.setIfInBounds_toArray, List.set_cons_zero, List.set_cons_succ] at hQ ⊢
          simp only [h0, h1, h2, h3, h4, h5] at hQ ⊢
          clear h0 h1 h2 h3 h4 h5
          have hmr : MxR w w.heap.size (.agg #[.int .i64 m.r, .int .i64 m.c, .slice MB m.a.length mb]) (mxF yt yf (entry m.a yf)) := by rw [← EMX.out]; exact MxR.more (by have := hb.size; omega) (MxR.below (gW.trans (hb.mono gws)) HMR.out)
          have HMRw := Lib.hid hmr
          have HOw := Lib.hid ((hHO.out).below hb).rd
          clear hmr
          go_wp2_with fail
          refine (below_any _ _ yf (outS y nf yf k).1 yt (outS y nf yf k).2 (entry m.a yf) _ HOw.out HMRw.out (by have := HR.out; omega) (by omega) (by omega)).mono ?_; rintro e w5 ⟨v5, rfl, hO5, hb5⟩
          rw [← E2.out] at hO5
          go_wp2
          exact hQ _ _ hb5 hO5
        · intro x w hb hk hiv hdj
          have h0 : x.v 0 = .agg #[.int .i64 (outM y nf yf k).r, .int .i64 (outM y nf yf k).c, .slice MA N mc] := hk 0 (by decide)
          have h1 : x.v 1 = .pointer (some ⟨w0.heap.size, 5, none⟩) := hk 1 (by decide)
          have h2 : x.v 2 = .slice (some ⟨bm, om, none⟩) y.m.length h := hk 2 (by decide)
          have h3 : x.v 3 = .int .i64 k := hk 3 (by decide)
          have h4 : x.v 4 = .pointer (some ⟨bm, om + k * 3, none⟩) := hk 4 (by decide)
          have h5 : x.v 5 = .agg #[.int .i64 m.r, .int .i64 m.c, .slice MB m.a.length mb] := hk 5 (by decide)
          have h6 : MxO w (x.lo 6) (x.hi 6) (x.v 6) (outM y nf yf (k + 1)) := hk 6 (by decide)
          clear hk
          simp only [netAct, dstAt, List.getElem?_toArray, List.getElem?_cons_zero, List.getElem?_cons_succ, Option.bind_some, Act.put, List.setIfInBounds_toArray, List.set_cons_zero, List.set_cons_succ]
          simp only [List.drop_succ_cons, List.drop_zero, h0, h1, h2, h3, h4, h5]
          clear h0 h1 h2 h3 h4 h5
          obtain ⟨l6, _, l6h⟩ := hiv 6 (by decide)
          obtain ⟨MA', mc', e6⟩ := h6.form
          rw [e6] at h6 ⊢
          obtain ⟨N', hN'⟩ : ∃ nn, (outM y nf yf (k + 1)).a.length = nn := ⟨_, rfl⟩
          rw [hN'] at h6 ⊢
          have k4w := k4.call hb
          have p0 := k4w.cell' (i := 0) rfl
          have p1 := k4w.cell' (i := 1) rfl
          have p2 := k4w.cell' (i := 2) rfl
          have fr := k4w.frozen
          have hbs := hb.size
          have K5 := Lib.hid (((k4w.set_ 0 (.int .i64 (outM y nf yf (k + 1)).r)).set_ 1 (.int .i64 (outM y nf yf (k + 1)).c)).set_ 2 (.slice MA' N' mc'))
          have O5 := Lib.hid ((((h6.setBlk (i := 0) k4w (by decide) (.int .i64 (outM y nf yf (k + 1)).r)).setBlk (i := 1) (k4w.set_ 0 _) (by decide) (.int .i64 (outM y nf yf (k + 1)).c)).setBlk (i := 2) ((k4w.set_ 0 _).set_ 1 _) (by decide) (.slice MA' N' mc')).wider (lo' := W.heap.size) (hi' := w.heap.size) (by omega) (by omega))
          have hc3 := chg3 w w3.heap.size (.int .i64 (outM y nf yf (k + 1)).r) (.int .i64 (outM y nf yf (k + 1)).c) (.slice MA' N' mc')
          have GW := Lib.hid ((gW.trans (hb.mono gws)).trans (hc3.below (B := W.heap.size) (by omega) (by omega)))
          clear hiv hdj e6 h6 hc3 k4w hb gW kBr k4 hN'
          go_wp2
          go_roundw
          case rel => exact ⟨k + 1, N', mc', MA', by omega, by go_num, GW.out, K5.out, O5.out.wider (Nat.le_refl _) (by simp)⟩
          case measure => simp [intOf]; omega
      · have hne : ((nf : Int) == n) = false := by rw [beq_eq_false_iff_ne]; omega
        have e1 := outS_no (C := D) EF.out (show (nf : Int) ≠ n by omega)
        have e2 : outM x n D (k + 1) = outM x n D k := by unfold outM; rw [e1]
        have E2 := Lib.hid e2
        have K4 := Lib.hid k4
        have HO := Lib.hid hO
        have GW := Lib.hid gW
        clear e1 e2 k4 hO gW kBr
        go_wp2
        go_roundw
        case rel => exact ⟨k + 1, N, mc, MA, by omega, by go_num, GW.out, by rw [E2.out]; exact K4.out, by rw [E2.out]; exact HO.out⟩
        case measure => simp [intOf]; omega
    · obtain rfl : k = x.q.f.length := by omega
      have HF' := HF.out
      have k2 := (KR.out).below gW (by have := SZ.out; omega)
      have z0 := k4.cell' (i := 0) rfl
      have z1 := k4.cell' (i := 1) rfl
      have z2 := k4.cell' (i := 2) rfl
      have p0 := k2.cell' (i := 0) rfl
      have p1 := k2.cell' (i := 1) rfl
      have p2 := k2.cell' (i := 2) rfl
      have f2 := k2.frozen
      have h2 := chg3 wr (w0.heap.size + 1) (.int .i64 (outM x n D x.q.f.length).r) (.int .i64 (outM x n D x.q.f.length).c) (.slice MA N mc)
      have gw : Below w0.heap.size w0 wr := (G0.out).trans (gW.mono (G0.out).size)
      have gs := gw.size
      have gws := gW.size
      have sz := SZ.out
      have oA2 := (hO.chg h2 (.inr (by omega))).wider (lo' := w0.heap.size) (hi' := wr.heap.size) (by omega) (Nat.le_refl _)
      have fg := gw.trans (h2.below (by omega) gs)
      have OA2 := Lib.hid oA2
      have FG := Lib.hid fg
      have HFF := Lib.hid HF'
      clear hO oA2 fg gw h2 k2 k4 gW sz gws HF'
      go_wp2
      exact bodyPost_ret (v := .tuple #[.agg #[.int .i64 (outM x n D x.q.f.length).r, .int .i64 (outM x n D x.q.f.length).c, .slice MA N mc], .bool true]) (by simp [results, go_sem, p0, p1, p2]) rfl ⟨_, by rw [(HFF.out : _)], by rw [(HFF.out : _)]; exact OA2.out.wider (Nat.le_refl _) (by simp), FG.out⟩
set_option maxHeartbeats 6400000 in
set_option maxRecDepth 100000 in
theorem implIn_yes (u : Value) (x : Rp) (v : Int) (w0 : World) (hu : RpR w0 w0.heap.size u x) (hyes : inOk x v = true) :
    Calls Try.prog 99 #[u, .int .i64 v] w0 fun e w' => ∃ r, e = .returned (.tuple #[r, .bool (inP x v).2]) ∧ MxO w' w0.heap.size w'.heap.size r (inP x v).1 ∧ Below w0.heap.size w0 w' := by
  have hu' := hu
  obtain ⟨A, a, C, c, E, e, H, h, rfl, hq, hd, hm, hp, ld, lm⟩ := hu.open_
  clear hu
  obtain ⟨W, hW⟩ : ∃ W, W = (w0.alloc (.cells #[.int .i64 x.p, .int .i64 x.q.v, .slice A x.q.f.length a, .slice C x.q.t.length c, .slice E x.d.length e, .slice H x.m.length h] 29)).alloc (.cells #[.int .i64 0, .int .i64 0, .slice none 0 0] 75) := ⟨_, rfl⟩
  have g0 : Below w0.heap.size w0 W := by rw [hW]; exact ((Below.refl _ _).alloc (Nat.le_refl _) _).alloc (by simp) _
  have kB : Blk W w0.heap.size 29 #[.int .i64 x.p, .int .i64 x.q.v, .slice A x.q.f.length a, .slice C x.q.t.length c, .slice E x.d.length e, .slice H x.m.length h] := by rw [hW]; exact (Blk.new _ _ _).alloc _
  have kR : Blk W (w0.heap.size + 1) 75 #[.int .i64 0, .int .i64 0, .slice none 0 0] := by
    rw [hW]
    have := Blk.new (w0.alloc (.cells #[.int .i64 x.p, .int .i64 x.q.v, .slice A x.q.f.length a, .slice C x.q.t.length c, .slice E x.d.length e, .slice H x.m.length h] 29)) 75 #[.int .i64 0, .int .i64 0, .slice none 0 0]
    simpa only [World.size_alloc] using this
  have sz : W.heap.size = w0.heap.size + 1 + 1 := by rw [hW]; simp
  replace hq := QvR.next g0 hq
  replace hd := SlI.next g0 hd
  replace hm := SlM.next g0 hm
  have h1 : isRep x = true := by simp only [inOk, Bool.and_eq_true] at hyes; exact hyes.1
  have h2 : endV x.q.f x.q v = true := by simp only [inOk, Bool.and_eq_true] at hyes; exact hyes.2
  have hq1 : isQ x.q = true := (areDims_t.1 (isRep_t.1 h1).2.1).1
  obtain ⟨n, D, rfl, hn, dn, hD, hD4, hn5⟩ := vert_at h1 h2
  have HF := Lib.hid (inP_yes hyes hD)
  have DN := Lib.hid dn
  have H1 := Lib.hid h1
  have H2 := Lib.hid h2
  have HQ1 := Lib.hid hq1
  have SZ := Lib.hid sz
  have hl6 : x.q.f.length ≤ 6 := (isQ_t.1 hq1).2.2.1
  have HXR := Lib.hid (show RpR W W.heap.size (.agg #[.int .i64 x.p, .int .i64 x.q.v, .slice A x.q.f.length a, .slice C x.q.t.length c, .slice E x.d.length e, .slice H x.m.length h]) x from RpR.next g0 hu')
  have HQ := Lib.hid hq
  have HD := Lib.hid hd
  have HM := Lib.hid hm
  have KB := Lib.hid kB
  have KR := Lib.hid kR
  have G0 := Lib.hid g0
  clear h1 h2 hq1 sz hD hyes hu' hm
  have c0 := kB.cell' (i := 0) rfl
  have c1 := kB.cell' (i := 1) rfl
  have c2 := kB.cell' (i := 2) rfl
  have c3 := kB.cell' (i := 3) rfl
  have c4 := kB.cell' (i := 4) rfl
  have c5 := kB.cell' (i := 5) rfl
  go_enter Try.func99, Try.ntmps99
  go_wp2_with fail
  rw [← hW]; clear hW
  refine (implIsRep_any _ x _ HXR.out).mono ?_; rintro e w1 ⟨rfl, hb1⟩
  rw [H1.out]
  replace kB := kB.call hb1
  replace hq := QvR.next hb1 hq
  have gW := hb1
  clear c0 c1 c2 c3 c4 c5 hb1
  have c0 := kB.cell' (i := 0) rfl
  have c1 := kB.cell' (i := 1) rfl
  have c2 := kB.cell' (i := 2) rfl
  have c3 := kB.cell' (i := 3) rfl
  have c4 := kB.cell' (i := 4) rfl
  have c5 := kB.cell' (i := 5) rfl
  go_wp2_with fail
  refine (isSink_any _ x.q n _ hq HQ1.out).mono ?_; rintro e w2 ⟨rfl, hb1⟩
  rw [H2.out]
  replace kB := kB.call hb1
  replace gW := bthen gW hb1
  clear c0 c1 c2 c3 c4 c5 hb1 hq
  have c0 := kB.cell' (i := 0) rfl
  have c1 := kB.cell' (i := 1) rfl
  have c2 := kB.cell' (i := 2) rfl
  have c3 := kB.cell' (i := 3) rfl
  have c4 := kB.cell' (i := 4) rfl
  have c5 := kB.cell' (i := 5) rfl
  have hd2 := SlI.more gW.size (SlI.below gW hd)
  obtain ⟨be, oe, xe, rfl, hbe, HXE, xc, _⟩ := SlI.at_ hd2 hn
  have ex := HXE.out
  rw [dn] at ex
  injection ex with ex
  subst ex
  clear hd hd2 HXE hbe
  go_wp2_with fail
  refine (zero_any (D : Int) 0 _ (by omega) (by omega) (by omega) (by omega)).mono ?_; rintro e w3 ⟨v3, rfl, hZ, hb3⟩
  rw [inM_0 x n D] at hZ
  obtain ⟨MA, mc, e3⟩ := hZ.form
  subst e3
  have gW3 := bthen gW hb3
  have hs3 := hb3.size
  have hs2 := gW.size
  obtain ⟨N3, hN3⟩ : ∃ nn, (inM x n D 0).a.length = nn := ⟨_, rfl⟩
  rw [hN3] at hZ ⊢
  obtain ⟨W4, hW4⟩ : ∃ W4, W4 = w3.alloc (.cells #[.int .i64 (inM x n D 0).r, .int .i64 (inM x n D 0).c, .slice MA N3 mc] 75) := ⟨_, rfl⟩
  have b4 : Below w3.heap.size w3 W4 := by rw [hW4]; exact below_alloc _ _
  have k4 : Blk W4 w3.heap.size 75 #[.int .i64 (inM x n D 0).r, .int .i64 (inM x n D 0).c, .slice MA N3 mc] := by rw [hW4]; exact Blk.new _ _ _
  have l4 : w3.heap.size < W4.heap.size := k4.lt
  have kB4 := (kB.call hb3).call b4
  have gW4 := bthen gW3 b4
  have hO := (hZ.below b4).wider (lo' := W.heap.size) (hi' := W4.heap.size) (by omega) (by omega)
  clear c0 c1 c2 c3 c4 c5 xc hZ hb3 b4 gW gW3 kB hN3
  have c0 := kB4.cell' (i := 0) rfl
  have c1 := kB4.cell' (i := 1) rfl
  have c2 := kB4.cell' (i := 2) rfl
  have c3 := kB4.cell' (i := 3) rfl
  have c4 := kB4.cell' (i := 4) rfl
  have c5 := kB4.cell' (i := 5) rfl
  rw [hW4] at c0 c1 c2 c3 c4 c5
  go_wp2
  rw [← hW4]
  clear hW4 c0 c1 c2 c3 c4 c5 kB4
  go_loopw [30] (fun i wr => ∃ (k N mc : Nat) (MA : Option Addr), k ≤ x.q.f.length ∧ i = .int .i64 k ∧ Below W.heap.size W wr ∧ Blk wr w3.heap.size 75 #[.int .i64 (inM x n D k).r, .int .i64 (inM x n D k).c, .slice MA N mc] ∧ MxO wr W.heap.size wr.heap.size (.agg #[.int .i64 (inM x n D k).r, .int .i64 (inM x n D k).c, .slice MA N mc]) (inM x n D k)) (fun i _ => x.q.f.length - (intOf i).toNat)
  case atStart => exact ⟨0, _, _, _, Nat.zero_le _, rfl, gW4, k4, hO⟩
  case round =>
    clear k4 hO gW4
    have hlen : x.q.t.length ≤ x.q.f.length := by have := (isQ_t.1 HQ1.out).2.1; omega
    obtain ⟨k, N, mc, MA, hk, rfl, gW, k4, hO⟩ := hrel
    have s6 := gW.size
    by_cases hlt : k < x.q.f.length
    · obtain ⟨m, nf, nt, yf, yt, em, ef, et, df, dt, eM, _, b1, b2, b3, b4, b5, b6, b7, b8⟩ := isRep_at H1.out hlt
      obtain ⟨hsf, hst⟩ := QvR.sl HQ.out
      obtain ⟨bf, of_, xf, rfl, hbf, HXF, f1, _⟩ := SlI.at_ hst b7
      have q1 := HXF.out
      rw [et] at q1
      injection q1 with q1
      subst q1
      have f2 := bcell gW hbf f1
      have hm := HM.out
      obtain ⟨bm, om, m', MB, mb, rfl, hbm, HXM, x0, x1, x2, hsl, hr1, hr2, _⟩ := SlM.at_ hm b8
      have q2 := HXM.out
      rw [em] at q2
      injection q2 with q2
      subst q2
      have HMR : Hid (MxR W W.heap.size (.agg #[.int .i64 m.r, .int .i64 m.c, .slice MB m.a.length mb]) m) := ⟨_, rfl, hsl, hr1, hr2⟩
      have kBr := (KB.out).below gW (KB.out).lt
      have EF := Lib.hid et
      have DF := Lib.hid dt
      have EM := Lib.hid em
      have EMX := Lib.hid eM
      clear HXF HXM hsf hst hm hsl hr1 hr2 f1 em ef et df dt eM
      by_cases hv : nt = n
      · subst hv
        have hR := inS_le (v := (nt : Int)) (C := D) H1.out k hk
        have hyD : yt = D := by have := DN.out; rw [DF.out] at this; injection this with this; omega
        subst hyD
        have e1 := inS_yes (R := yt) EF.out EM.out (yf := yf) (by rw [EMX.out]; rfl)
        have e2 : inM x nt yt (k + 1) = mxF yt ((inS x nt yt k).1 + yf) (bsF (inS x nt yt k).1 (inS x nt yt k).2 (entry m.a yf)) := by unfold inM; rw [e1]
        have E2 := Lib.hid e2
        have HR := Lib.hid hR
        have gws := gW.size
        have hHO := Lib.hid hO
        have x0' := bcell gW hbm x0
        have x1' := bcell gW hbm x1
        have x2' := bcell gW hbm x2
        have hbmw : bm < wr.heap.size := by omega
        clear e1 e2 hR x0 x1 x2 hO
        go_wp2
        obtain ⟨y, hy⟩ : ∃ y, y = x := ⟨_, rfl⟩
        subst hy
        refine wp_region_net (by kernel_rfl) [.eq (.agg #[.int .i64 (inM y nt yt k).r, .int .i64 (inM y nt yt k).c, .slice MA N mc]), .eq (.pointer (some ⟨w0.heap.size, 5, none⟩)), .eq (.slice (some ⟨bm, om, none⟩) y.m.length h), .eq (.int .i64 k), .eq (.pointer (some ⟨bm, om + k * 3, none⟩)), .eq (.agg #[.int .i64 m.r, .int .i64 m.c, .slice MB m.a.length mb]), rel 6 (fun u lo hi w => MxO w lo hi u (inM y nt yt (k + 1)))] [[], [], [1], [], [1, 2, 3], [1, 2, 3, 4], [0, 1, 2, 3, 4, 5], [0, 1, 2, 3, 4, 5, 6]] 7 (by kernel_rfl) ⟨trivial, trivial, trivial, trivial, trivial, trivial, rel_stable (fun u lo hi w w' h hb => h.below hb), trivial⟩ ⟨?_, ?_, ?_, ?_, ?_, ?_, ?_, trivial⟩ ?_
        · intro x w hb hk Q' hQ
          clear hk
          simp only [netAct, dstAt, List.getElem?_toArray, List.getElem?_cons_zero, List.getElem?_cons_succ, Option.bind_some, Act.put, List.setIfInBounds_toArray, List.set_cons_zero, List.set_cons_succ] at hQ ⊢
          have z0 := (k4.call hb).cell' (i := 0) rfl
          have z1 := (k4.call hb).cell' (i := 1) rfl
          have z2 := (k4.call hb).cell' (i := 2) rfl
          go_wp2
          exact hQ (.agg #[.int .i64 (inM y nt yt k).r, .int .i64 (inM y nt yt k).c, .slice MA N mc]) _ (Below.refl _ _) rfl
        · intro x w hb hk Q' hQ
          clear hk
          simp only [netAct, dstAt, List.getElem?_toArray, List.getElem?_cons_zero, List.getElem?_cons_succ, Option.bind_some, Act.put, List.setIfInBounds_toArray, List.set_cons_zero, List.set_cons_succ] at hQ ⊢
          go_wp2
          exact hQ (.pointer (some ⟨w0.heap.size, 5, none⟩)) _ (Below.refl _ _) rfl
        · intro x w hb hk Q' hQ
          have h1 : x.v 1 = .pointer (some ⟨w0.heap.size, 5, none⟩) := (hk 1 (by decide)).1
          clear hk
          simp only [netAct, dstAt, List.getElem?_toArray, List.getElem?_cons_zero, List.getElem?_cons_succ, Option.bind_some, Act.put, List.setIfInBounds_toArray, List.set_cons_zero, List.set_cons_succ] at hQ ⊢
          simp only [h1] at hQ ⊢
          clear h1
          have z5 := (kBr.call hb).cell' (i := 5) rfl
          go_wp2
          exact hQ (.slice (some ⟨bm, om, none⟩) y.m.length h) _ (Below.refl _ _) rfl
        · intro x w hb hk Q' hQ
          clear hk
          simp only [netAct, dstAt, List.getElem?_toArray, List.getElem?_cons_zero, List.getElem?_cons_succ, Option.bind_some, Act.put, List.setIfInBounds_toArray, List.set_cons_zero, List.set_cons_succ] at hQ ⊢
          go_wp2
          exact hQ (.int .i64 k) _ (Below.refl _ _) rfl
        · intro x w hb hk Q' hQ
          have h2 : x.v 2 = .slice (some ⟨bm, om, none⟩) y.m.length h := (hk 2 (by decide)).1
          have h3 : x.v 3 = .int .i64 k := (hk 3 (by decide)).1
          clear hk
          simp only [netAct, dstAt, List.getElem?_toArray, List.getElem?_cons_zero, List.getElem?_cons_succ, Option.bind_some, Act.put, List.setIfInBounds_toArray, List.set_cons_zero, List.set_cons_succ] at hQ ⊢
          simp only [h2, h3] at hQ ⊢
          clear h2 h3
          go_wp2
          exact hQ (.pointer (some ⟨bm, om + k * 3, none⟩)) _ (Below.refl _ _) rfl
        · intro x w hb hk Q' hQ
          have h4 : x.v 4 = .pointer (some ⟨bm, om + k * 3, none⟩) := (hk 4 (by decide)).1
          clear hk
          simp only [netAct, dstAt, List.getElem?_toArray, List.getElem?_cons_zero, List.getElem?_cons_succ, Option.bind_some, Act.put, List.setIfInBounds_toArray, List.set_cons_zero, List.set_cons_succ] at hQ ⊢
          simp only [h4] at hQ ⊢
          clear h4
          have z0 := bcell hb hbmw x0'
          have z1 := bcell hb hbmw x1'
          have z2 := bcell hb hbmw x2'
          go_wp2
          exact hQ (.agg #[.int .i64 m.r, .int .i64 m.c, .slice MB m.a.length mb]) _ (Below.refl _ _) rfl
        · intro x w hb hk Q' hQ
          have h0 : x.v 0 = .agg #[.int .i64 (inM y nt yt k).r, .int .i64 (inM y nt yt k).c, .slice MA N mc] := (hk 0 (by decide)).1
          have h1 : x.v 1 = .pointer (some ⟨w0.heap.size, 5, none⟩) := (hk 1 (by decide)).1
          have h2 : x.v 2 = .slice (some ⟨bm, om, none⟩) y.m.length h := (hk 2 (by decide)).1
          have h3 : x.v 3 = .int .i64 k := (hk 3 (by decide)).1
          have h4 : x.v 4 = .pointer (some ⟨bm, om + k * 3, none⟩) := (hk 4 (by decide)).1
          have h5 : x.v 5 = .agg #[.int .i64 m.r, .int .i64 m.c, .slice MB m.a.length mb] := (hk 5 (by decide)).1
          clear hk
          simp only [netAct, dstAt, List.getElem?_toArray, List.getElem?_cons_zero, List.getElem?_cons_succ, Option.bind_some, Act.put, List.setIfInBounds_toArray, List.set_cons_zero, List.set_cons_succ] at hQ ⊢
          simp only [h0, h1, h2, h3, h4, h5] at hQ ⊢
          clear h0 h1 h2 h3 h4 h5
          have hmr : MxR w w.heap.size (.agg #[.int .i64 m.r, .int .i64 m.c, .slice MB m.a.length mb]) (mxF yt yf (entry m.a yf)) := by rw [← EMX.out]; exact MxR.more (by have := hb.size; omega) (MxR.below (gW.trans (hb.mono gws)) HMR.out)
          have HMRw := Lib.hid hmr
          have HOw := Lib.hid ((hHO.out).below hb).rd
          clear hmr
          go_wp2_with fail
          refine (beside_any _ _ yt (inS y nt yt k).1 yf (inS y nt yt k).2 (entry m.a yf) _ HOw.out HMRw.out (by omega) (by have := HR.out; omega) (by omega)).mono ?_; rintro e w5 ⟨v5, rfl, hO5, hb5⟩
          rw [← E2.out] at hO5
          go_wp2
          exact hQ _ _ hb5 hO5
        · intro x w hb hk hiv hdj
          have h0 : x.v 0 = .agg #[.int .i64 (inM y nt yt k).r, .int .i64 (inM y nt yt k).c, .slice MA N mc] := hk 0 (by decide)
          have h1 : x.v 1 = .pointer (some ⟨w0.heap.size, 5, none⟩) := hk 1 (by decide)
          have h2 : x.v 2 = .slice (some ⟨bm, om, none⟩) y.m.length h := hk 2 (by decide)
          have h3 : x.v 3 = .int .i64 k := hk 3 (by decide)
          have h4 : x.v 4 = .pointer (some ⟨bm, om + k * 3, none⟩) := hk 4 (by decide)
          have h5 : x.v 5 = .agg #[.int .i64 m.r, .int .i64 m.c, .slice MB m.a.length mb] := hk 5 (by decide)
          have h6 : MxO w (x.lo 6) (x.hi 6) (x.v 6) (inM y nt yt (k + 1)) := hk 6 (by decide)
          clear hk
          simp only [netAct, dstAt, List.getElem?_toArray, List.getElem?_cons_zero, List.getElem?_cons_succ, Option.bind_some, Act.put, List.setIfInBounds_toArray, List.set_cons_zero, List.set_cons_succ]
          simp only [List.drop_succ_cons, List.drop_zero, h0, h1, h2, h3, h4, h5]
          clear h0 h1 h2 h3 h4 h5
          obtain ⟨l6, _, l6h⟩ := hiv 6 (by decide)
          obtain ⟨MA', mc', e6⟩ := h6.form
          rw [e6] at h6 ⊢
          obtain ⟨N', hN'⟩ : ∃ nn, (inM y nt yt (k + 1)).a.length = nn := ⟨_, rfl⟩
          rw [hN'] at h6 ⊢
          have k4w := k4.call hb
          have p0 := k4w.cell' (i := 0) rfl
          have p1 := k4w.cell' (i := 1) rfl
          have p2 := k4w.cell' (i := 2) rfl
          have fr := k4w.frozen
          have hbs := hb.size
          have K5 := Lib.hid (((k4w.set_ 0 (.int .i64 (inM y nt yt (k + 1)).r)).set_ 1 (.int .i64 (inM y nt yt (k + 1)).c)).set_ 2 (.slice MA' N' mc'))
          have O5 := Lib.hid ((((h6.setBlk (i := 0) k4w (by decide) (.int .i64 (inM y nt yt (k + 1)).r)).setBlk (i := 1) (k4w.set_ 0 _) (by decide) (.int .i64 (inM y nt yt (k + 1)).c)).setBlk (i := 2) ((k4w.set_ 0 _).set_ 1 _) (by decide) (.slice MA' N' mc')).wider (lo' := W.heap.size) (hi' := w.heap.size) (by omega) (by omega))
          have hc3 := chg3 w w3.heap.size (.int .i64 (inM y nt yt (k + 1)).r) (.int .i64 (inM y nt yt (k + 1)).c) (.slice MA' N' mc')
          have GW := Lib.hid ((gW.trans (hb.mono gws)).trans (hc3.below (B := W.heap.size) (by omega) (by omega)))
          clear hiv hdj e6 h6 hc3 k4w hb gW kBr k4 hN'
          go_wp2
          go_roundw
          case rel => exact ⟨k + 1, N', mc', MA', by omega, by go_num, GW.out, K5.out, O5.out.wider (Nat.le_refl _) (by simp)⟩
          case measure => simp [intOf]; omega
      · have hne : ((nt : Int) == n) = false := by rw [beq_eq_false_iff_ne]; omega
        have e1 := inS_no (C := D) EF.out (show (nt : Int) ≠ n by omega)
        have e2 : inM x n D (k + 1) = inM x n D k := by unfold inM; rw [e1]
        have E2 := Lib.hid e2
        have K4 := Lib.hid k4
        have HO := Lib.hid hO
        have GW := Lib.hid gW
        clear e1 e2 k4 hO gW kBr
        go_wp2
        go_roundw
        case rel => exact ⟨k + 1, N, mc, MA, by omega, by go_num, GW.out, by rw [E2.out]; exact K4.out, by rw [E2.out]; exact HO.out⟩
        case measure => simp [intOf]; omega
    · obtain rfl : k = x.q.f.length := by omega
      have HF' := HF.out
      have k2 := (KR.out).below gW (by have := SZ.out; omega)
      have z0 := k4.cell' (i := 0) rfl
      have z1 := k4.cell' (i := 1) rfl
      have z2 := k4.cell' (i := 2) rfl
      have p0 := k2.cell' (i := 0) rfl
      have p1 := k2.cell' (i := 1) rfl
      have p2 := k2.cell' (i := 2) rfl
      have f2 := k2.frozen
      have h2 := chg3 wr (w0.heap.size + 1) (.int .i64 (inM x n D x.q.f.length).r) (.int .i64 (inM x n D x.q.f.length).c) (.slice MA N mc)
      have gw : Below w0.heap.size w0 wr := (G0.out).trans (gW.mono (G0.out).size)
      have gs := gw.size
      have gws := gW.size
      have sz := SZ.out
      have oA2 := (hO.chg h2 (.inr (by omega))).wider (lo' := w0.heap.size) (hi' := wr.heap.size) (by omega) (Nat.le_refl _)
      have fg := gw.trans (h2.below (by omega) gs)
      have OA2 := Lib.hid oA2
      have FG := Lib.hid fg
      have HFF := Lib.hid HF'
      clear hO oA2 fg gw h2 k2 k4 gW sz gws HF'
      go_wp2
      exact bodyPost_ret (v := .tuple #[.agg #[.int .i64 (inM x n D x.q.f.length).r, .int .i64 (inM x n D x.q.f.length).c, .slice MA N mc], .bool true]) (by simp [results, go_sem, p0, p1, p2]) rfl ⟨_, by rw [(HFF.out : _)], by rw [(HFF.out : _)]; exact OA2.out.wider (Nat.le_refl _) (by simp), FG.out⟩
theorem implOutgoingMatrix_any (u : Value) (x : Rp) (v : Int) (w0 : World) (hu : RpR w0 w0.heap.size u x) (hv : I64 v) :
    Calls Try.prog 102 #[u, .int .i64 v] w0 fun e w' => ∃ r, e = .returned (.tuple #[r, .bool (outP x v).2]) ∧ MxO w' w0.heap.size w'.heap.size r (outP x v).1 ∧ Below w0.heap.size w0 w' := by
  rcases h : outOk x v with _ | _
  · exact implOut_no u x v w0 hu h
  · exact implOut_yes u x v w0 hu h
theorem implIncomingMatrix_any (u : Value) (x : Rp) (v : Int) (w0 : World) (hu : RpR w0 w0.heap.size u x) (hv : I64 v) :
    Calls Try.prog 99 #[u, .int .i64 v] w0 fun e w' => ∃ r, e = .returned (.tuple #[r, .bool (inP x v).2]) ∧ MxO w' w0.heap.size w'.heap.size r (inP x v).1 ∧ Below w0.heap.size w0 w' := by
  rcases h : inOk x v with _ | _
  · exact implIn_no u x v w0 hu h
  · exact implIn_yes u x v w0 hu h
end Go.Proofs.Ytjhllgldllbaaaa

/- The reference's l16Beside. -/
namespace Go.Proofs.Ytjhllgldllbaaaa
set_option linter.unusedVariables false
set_option linter.unusedSimpArgs false
open Go.RowKit

theorem flat_app (r s c : Nat) (f g : Nat → Nat → Int) : flat r c f ++ flat s c g = flat (r + s) c (blF r f g) := by
  rw [← rowsF_flatten, ← rowsF_flatten, ← rowsF_flatten, ← rowsF_app, List.flatten_append]
theorem run_fieldMx (a b s : Value) (w : World) : (Instr.field 75 (.agg #[a, b, s]) 2).run Try.prog w = .ok s w := by
  have h1 := Try.underlying75
  have h2 := Try.underlying22
  simp [Instr.field, part, isAgg, run_underlying h1, run_underlying h2, asAgg]
theorem SlI.app_len {w : World} {B : Nat} {v : Value} {l : List Int} (h : SlI w B v l) : ∃ A c, v = .slice A l.length c := by
  obtain ⟨A, c, e, _⟩ := h
  exact ⟨A, c, e⟩

set_option maxHeartbeats 6400000 in
set_option maxRecDepth 100000 in
theorem l16Beside_any (u v : Value) (r c d : Nat) (f g : Nat → Nat → Int) (w0 : World) (hu : MxR w0 w0.heap.size u (mxF r c f)) (hv : MxR w0 w0.heap.size v (mxF r d g)) (hr : r ≤ 500) (hc : c ≤ 500) (hd : d ≤ 500) :
    Calls Try.prog 149 #[u, v] w0 fun e w' => ∃ v, e = .returned v ∧ MxO w' w0.heap.size w'.heap.size v (mxF r (c + d) (bsF c f g)) ∧ Below w0.heap.size w0 w' := by
  have hu' := hu
  have hv' := hv
  obtain ⟨U, uc, rfl⟩ := hu.form
  obtain ⟨V, vc, rfl⟩ := hv.form
  obtain ⟨L, hL⟩ : ∃ L, (mxF r c f).a.length = L := ⟨_, rfl⟩
  obtain ⟨L', hL'⟩ : ∃ L, (mxF r d g).a.length = L := ⟨_, rfl⟩
  have z1 : (mxF r c f).r = (r : Int) := rfl
  have z2 : (mxF r c f).c = (c : Int) := rfl
  have z3 : (mxF r d g).r = (r : Int) := rfl
  have z4 : (mxF r d g).c = (d : Int) := rfl
  rw [hL, z1, z2] at hu' ⊢
  rw [hL', z3, z4] at hv' ⊢
  clear hu hv hL hL' z1 z2 z3 z4
  obtain ⟨W, hW⟩ : ∃ W, W = ((w0.alloc (.cells #[.int .i64 r, .int .i64 c, .slice U L uc] 75)).alloc (.cells #[.int .i64 r, .int .i64 d, .slice V L' vc] 75)).alloc (.cells #[.int .i64 0, .int .i64 0, .slice none 0 0] 75) := ⟨_, rfl⟩
  have g0 : Below w0.heap.size w0 W := by rw [hW]; exact (((Below.refl _ _).alloc (Nat.le_refl _) _).alloc (by simp) _).alloc (by simp; omega) _
  have k1 : Blk W w0.heap.size 75 #[.int .i64 r, .int .i64 c, .slice U L uc] := by rw [hW]; exact ((Blk.new _ _ _).alloc _).alloc _
  have k2 : Blk W (w0.heap.size + 1) 75 #[.int .i64 r, .int .i64 d, .slice V L' vc] := by
    rw [hW]
    have := (Blk.new (w0.alloc (.cells #[.int .i64 r, .int .i64 c, .slice U L uc] 75)) 75 #[.int .i64 r, .int .i64 d, .slice V L' vc]).alloc (.cells #[.int .i64 0, .int .i64 0, .slice none 0 0] 75)
    simpa only [World.size_alloc] using this
  have k3 : Blk W (w0.heap.size + 1 + 1) 75 #[.int .i64 0, .int .i64 0, .slice none 0 0] := by
    rw [hW]
    have := Blk.new ((w0.alloc (.cells #[.int .i64 r, .int .i64 c, .slice U L uc] 75)).alloc (.cells #[.int .i64 r, .int .i64 d, .slice V L' vc] 75)) 75 #[.int .i64 0, .int .i64 0, .slice none 0 0]
    simpa only [World.size_alloc] using this
  have sz : W.heap.size = w0.heap.size + 1 + 1 + 1 := by rw [hW]; simp
  have HU := Lib.hid (MxR.next g0 hu')
  have HV := Lib.hid (MxR.next g0 hv')
  have SZ := Lib.hid sz
  have hle1 : c * r ≤ 500 * 500 := Nat.mul_le_mul hc hr
  have hle2 : d * r ≤ 500 * 500 := Nat.mul_le_mul hd hr
  have HL1 : Hid ((flat c r (fun a b => f b a)).length + (flat d r (fun a b => g b a)).length ≤ 1000000) := by show _ ≤ _; rw [flat_length, flat_length]; omega
  clear sz hu' hv' hle1 hle2
  go_enter Try.func149, Try.ntmps149
  go_wp2
  rw [← hW]; clear hW
  refine wp_region_netC (by kernel_rfl) [.eq (.pointer (some ⟨w0.heap.size, 1, none⟩)), .eq (.int .i64 c), .eq (.pointer (some ⟨w0.heap.size + 1, 1, none⟩)), .eq (.int .i64 d), .eq (.int .i64 ((c : Int) + d)), .eq (.pointer (some ⟨w0.heap.size, 0, none⟩)), .eq (.int .i64 r), rel 7 (fun u lo hi w => Fresh w W.heap.size u), .eq (.agg #[.int .i64 r, .int .i64 c, .slice U L uc]), rel 9 (fun u lo hi w => MxO w lo hi u (mxF c r (fun a b => f b a))), rel 10 (fun u lo hi w => SlI w w.heap.size u (flat c r (fun a b => f b a))), rel 11 (fun u lo hi w => OwnI w W.heap.size u (flat c r (fun a b => f b a))), .eq (.agg #[.int .i64 r, .int .i64 d, .slice V L' vc]), rel 13 (fun u lo hi w => MxO w lo hi u (mxF d r (fun a b => g b a))), rel 14 (fun u lo hi w => SlI w w.heap.size u (flat d r (fun a b => g b a))), rel 15 (fun u lo hi w => SlI w w.heap.size u (flat (c + d) r (blF c (fun a b => f b a) (fun a b => g b a)))), rel 16 (fun u lo hi w => ∃ s, u = .agg #[.int .i64 ((c + d : Nat) : Int), .int .i64 r, s] ∧ SlI w w.heap.size s (flat (c + d) r (blF c (fun a b => f b a) (fun a b => g b a)))), rel 17 (fun u lo hi w => MxO w lo hi u (mxF r (c + d) (bsF c f g)))] [[], [0], [], [2], [0, 1, 2, 3], [], [5], [], [], [8], [8, 9], [7, 8, 9, 10], [], [7, 8, 9, 10, 11, 12], [7, 8, 9, 10, 11, 12, 13], [7, 8, 9, 10, 11, 12, 13, 14], [0, 1, 2, 3, 4, 5, 6, 7, 8, 9, 10, 11, 12, 13, 14, 15], [0, 1, 2, 3, 4, 5, 6, 7, 8, 9, 10, 11, 12, 13, 14, 15, 16], [0, 1, 2, 3, 4, 5, 6, 7, 8, 9, 10, 11, 12, 13, 14, 15, 16, 17]] [[], [0], [], [2], [0, 1, 2, 3], [], [5], [], [], [8], [8, 9], [7, 8, 9, 10], [], [7, 8, 9, 10, 11, 12], [7, 8, 9, 10, 11, 12, 13], [7, 8, 9, 10, 11, 12, 13, 14], [0, 1, 2, 3, 4, 5, 6, 8, 12, 15], [0, 1, 2, 3, 4, 5, 6, 8, 12, 15, 16]] [0, 1, 2, 3, 4, 5, 6, 8, 12, 15, 16, 17] 18 15 (by kernel_rfl) (by kernel_rfl) ⟨.inr (.inr ⟨_, rfl⟩), .inr (.inr ⟨_, rfl⟩), .inr (.inr ⟨_, rfl⟩), .inr (.inr ⟨_, rfl⟩), .inr (.inr ⟨_, rfl⟩), .inr (.inr ⟨_, rfl⟩), .inr (.inr ⟨_, rfl⟩), .inr (.inr ⟨_, rfl⟩), .inr (.inr ⟨_, rfl⟩), .inl rfl, .inr (.inl rfl), .inr (.inl rfl), trivial⟩ ⟨trivial, trivial, trivial, trivial, trivial, trivial, trivial, rel_stable (fun u lo hi w w' h hb => h.below hb), trivial, rel_stable (fun u lo hi w w' h hb => h.below hb), rel_stable (fun u lo hi w w' h hb => SlI.next hb h), rel_stable (fun u lo hi w w' h hb => h.below hb), trivial, rel_stable (fun u lo hi w w' h hb => h.below hb), rel_stable (fun u lo hi w w' h hb => SlI.next hb h), rel_stable (fun u lo hi w w' h hb => SlI.next hb h), rel_stable (fun u lo hi w w' ⟨s, e, h⟩ hb => ⟨s, e, SlI.next hb h⟩), rel_stable (fun u lo hi w w' h hb => h.below hb), trivial⟩ ⟨?_, ?_, ?_, ?_, ?_, ?_, ?_, ?_, ?_, ?_, ?_, ?_, ?_, ?_, ?_, ?_, ?_, ?_, trivial⟩ ?_
  · intro x w hb hk Q' hQ
    clear hk
    simp only [netAct, dstAt, List.getElem?_toArray, List.getElem?_cons_zero, List.getElem?_cons_succ, Option.bind_some, Act.put, List.setIfInBounds_toArray, List.set_cons_zero, List.set_cons_succ] at hQ ⊢
    go_wp2
    exact hQ (.pointer (some ⟨w0.heap.size, 1, none⟩)) _ (Below.refl _ _) rfl
  · intro x w hb hk Q' hQ
    have h0 : x.v 0 = .pointer (some ⟨w0.heap.size, 1, none⟩) := (hk 0 (by decide)).1
    clear hk
    simp only [netAct, dstAt, List.getElem?_toArray, List.getElem?_cons_zero, List.getElem?_cons_succ, Option.bind_some, Act.put, List.setIfInBounds_toArray, List.set_cons_zero, List.set_cons_succ] at hQ ⊢
    simp only [h0] at hQ ⊢
    clear h0
    have z2 := (k1.below hb k1.lt).cell' (i := 1) rfl
    go_wp2
    exact hQ (.int .i64 c) _ (Below.refl _ _) rfl
  · intro x w hb hk Q' hQ
    clear hk
    simp only [netAct, dstAt, List.getElem?_toArray, List.getElem?_cons_zero, List.getElem?_cons_succ, Option.bind_some, Act.put, List.setIfInBounds_toArray, List.set_cons_zero, List.set_cons_succ] at hQ ⊢
    go_wp2
    exact hQ (.pointer (some ⟨w0.heap.size + 1, 1, none⟩)) _ (Below.refl _ _) rfl
  · intro x w hb hk Q' hQ
    have h2 : x.v 2 = .pointer (some ⟨w0.heap.size + 1, 1, none⟩) := (hk 2 (by decide)).1
    clear hk
    simp only [netAct, dstAt, List.getElem?_toArray, List.getElem?_cons_zero, List.getElem?_cons_succ, Option.bind_some, Act.put, List.setIfInBounds_toArray, List.set_cons_zero, List.set_cons_succ] at hQ ⊢
    simp only [h2] at hQ ⊢
    clear h2
    have z2 := (k2.below hb k2.lt).cell' (i := 1) rfl
    go_wp2
    exact hQ (.int .i64 d) _ (Below.refl _ _) rfl
  · intro x w hb hk Q' hQ
    have h1 : x.v 1 = .int .i64 c := (hk 1 (by decide)).1
    have h3 : x.v 3 = .int .i64 d := (hk 3 (by decide)).1
    clear hk
    simp only [netAct, dstAt, List.getElem?_toArray, List.getElem?_cons_zero, List.getElem?_cons_succ, Option.bind_some, Act.put, List.setIfInBounds_toArray, List.set_cons_zero, List.set_cons_succ] at hQ ⊢
    simp only [h1, h3] at hQ ⊢
    clear h1 h3
    go_wp2
    exact hQ (.int .i64 ((c : Int) + d)) _ (Below.refl _ _) rfl
  · intro x w hb hk Q' hQ
    clear hk
    simp only [netAct, dstAt, List.getElem?_toArray, List.getElem?_cons_zero, List.getElem?_cons_succ, Option.bind_some, Act.put, List.setIfInBounds_toArray, List.set_cons_zero, List.set_cons_succ] at hQ ⊢
    go_wp2
    exact hQ (.pointer (some ⟨w0.heap.size, 0, none⟩)) _ (Below.refl _ _) rfl
  · intro x w hb hk Q' hQ
    have h5 : x.v 5 = .pointer (some ⟨w0.heap.size, 0, none⟩) := (hk 5 (by decide)).1
    clear hk
    simp only [netAct, dstAt, List.getElem?_toArray, List.getElem?_cons_zero, List.getElem?_cons_succ, Option.bind_some, Act.put, List.setIfInBounds_toArray, List.set_cons_zero, List.set_cons_succ] at hQ ⊢
    simp only [h5] at hQ ⊢
    clear h5
    have z2 := (k1.below hb k1.lt).cell' (i := 0) rfl
    go_wp2
    exact hQ (.int .i64 r) _ (Below.refl _ _) rfl
  · intro x w hb hk Q' hQ
    clear hk
    simp only [netAct, dstAt, List.getElem?_toArray, List.getElem?_cons_zero, List.getElem?_cons_succ, Option.bind_some, Act.put, List.setIfInBounds_toArray, List.set_cons_zero, List.set_cons_succ] at hQ ⊢
    go_wp2
    exact hQ _ _ (below_alloc _ _) (Fresh.new _ hb.size)
  · intro x w hb hk Q' hQ
    clear hk
    simp only [netAct, dstAt, List.getElem?_toArray, List.getElem?_cons_zero, List.getElem?_cons_succ, Option.bind_some, Act.put, List.setIfInBounds_toArray, List.set_cons_zero, List.set_cons_succ] at hQ ⊢
    have z0 := (k1.below hb k1.lt).cell' (i := 0) rfl
    have z1 := (k1.below hb k1.lt).cell' (i := 1) rfl
    have z2 := (k1.below hb k1.lt).cell' (i := 2) rfl
    go_wp2
    exact hQ (.agg #[.int .i64 r, .int .i64 c, .slice U L uc]) _ (Below.refl _ _) rfl
  · intro x w hb hk Q' hQ
    have h8 : x.v 8 = .agg #[.int .i64 r, .int .i64 c, .slice U L uc] := (hk 8 (by decide)).1
    clear hk
    simp only [netAct, dstAt, List.getElem?_toArray, List.getElem?_cons_zero, List.getElem?_cons_succ, Option.bind_some, Act.put, List.setIfInBounds_toArray, List.set_cons_zero, List.set_cons_succ] at hQ ⊢
    simp only [h8] at hQ ⊢
    clear h8
    go_wp2_with fail
    refine (l3Transpose_any _ r c f _ (MxR.more hb.size (MxR.below hb HU.out)) (by omega) (by omega)).mono ?_; rintro e w5 ⟨v5, rfl, hO5, hb5⟩
    go_wp2
    exact hQ _ _ hb5 hO5
  · intro x w hb hk Q' hQ
    have h8 : x.v 8 = .agg #[.int .i64 r, .int .i64 c, .slice U L uc] := (hk 8 (by decide)).1
    have h9 : MxO w (x.lo 9) (x.hi 9) (x.v 9) (mxF c r (fun a b => f b a)) := (hk 9 (by decide)).1
    have s9 := (hk 9 (by decide)).2
    clear hk
    simp only [netAct, dstAt, List.getElem?_toArray, List.getElem?_cons_zero, List.getElem?_cons_succ, Option.bind_some, Act.put, List.setIfInBounds_toArray, List.set_cons_zero, List.set_cons_succ] at hQ ⊢
    simp only [h8] at hQ ⊢
    clear h8
    have hrd := h9.rd
    obtain ⟨A9, c9, e9, hs9, _⟩ := hrd.open_
    simp only [mxF] at e9 hs9
    rw [e9] at hQ ⊢
    have HS9 := Lib.hid hs9
    clear hs9 h9 hrd
    have hfm := run_fieldMx (.int .i64 c) (.int .i64 r) (.slice A9 (flat c r (fun a b => f b a)).length c9) w
    go_wp2
    exact hQ _ _ (Below.refl _ _) HS9.out
  · intro x w hb hk Q' hQ
    have h7 : Fresh w W.heap.size (x.v 7) := (hk 7 (by decide)).1
    have h8 : x.v 8 = .agg #[.int .i64 r, .int .i64 c, .slice U L uc] := (hk 8 (by decide)).1
    have h9 : MxO w (x.lo 9) (x.hi 9) (x.v 9) (mxF c r (fun a b => f b a)) := (hk 9 (by decide)).1
    have h10 : SlI w w.heap.size (x.v 10) (flat c r (fun a b => f b a)) := (hk 10 (by decide)).1
    have s7 := (hk 7 (by decide)).2
    have s9 := (hk 9 (by decide)).2
    have s10 := (hk 10 (by decide)).2
    clear hk
    simp only [netAct, dstAt, List.getElem?_toArray, List.getElem?_cons_zero, List.getElem?_cons_succ, Option.bind_some, Act.put, List.setIfInBounds_toArray, List.set_cons_zero, List.set_cons_succ] at hQ ⊢
    simp only [h8] at hQ ⊢
    clear h8
    obtain ⟨g7, e7, hg7, hB7⟩ := h7
    obtain ⟨A10, c10, e10⟩ := h10.app_len
    rw [e10] at h10
    rw [e7, e10] at hQ ⊢
    refine wpList_append_fresh (by rfl) (.tmp 12) (.tmp 15) (by rfl) g7 W.heap.size w.heap.size #[] (by rfl) hB7 rfl hg7 A10 c10 (flat c r (fun a b => f b a)) (by rfl) h10 ?_
    intro v' w' ho hb'
    exact hQ _ _ hb' ho
  · intro x w hb hk Q' hQ
    clear hk
    simp only [netAct, dstAt, List.getElem?_toArray, List.getElem?_cons_zero, List.getElem?_cons_succ, Option.bind_some, Act.put, List.setIfInBounds_toArray, List.set_cons_zero, List.set_cons_succ] at hQ ⊢
    have z0 := (k2.below hb k2.lt).cell' (i := 0) rfl
    have z1 := (k2.below hb k2.lt).cell' (i := 1) rfl
    have z2 := (k2.below hb k2.lt).cell' (i := 2) rfl
    go_wp2
    exact hQ (.agg #[.int .i64 r, .int .i64 d, .slice V L' vc]) _ (Below.refl _ _) rfl
  · intro x w hb hk Q' hQ
    have h7 : Fresh w W.heap.size (x.v 7) := (hk 7 (by decide)).1
    have h8 : x.v 8 = .agg #[.int .i64 r, .int .i64 c, .slice U L uc] := (hk 8 (by decide)).1
    have h9 : MxO w (x.lo 9) (x.hi 9) (x.v 9) (mxF c r (fun a b => f b a)) := (hk 9 (by decide)).1
    have h10 : SlI w w.heap.size (x.v 10) (flat c r (fun a b => f b a)) := (hk 10 (by decide)).1
    have h11 : OwnI w W.heap.size (x.v 11) (flat c r (fun a b => f b a)) := (hk 11 (by decide)).1
    have h12 : x.v 12 = .agg #[.int .i64 r, .int .i64 d, .slice V L' vc] := (hk 12 (by decide)).1
    have s7 := (hk 7 (by decide)).2
    have s9 := (hk 9 (by decide)).2
    have s10 := (hk 10 (by decide)).2
    have s11 := (hk 11 (by decide)).2
    clear hk
    simp only [netAct, dstAt, List.getElem?_toArray, List.getElem?_cons_zero, List.getElem?_cons_succ, Option.bind_some, Act.put, List.setIfInBounds_toArray, List.set_cons_zero, List.set_cons_succ] at hQ ⊢
    simp only [h8, h12] at hQ ⊢
    clear h8 h12
    go_wp2_with fail
    refine (l3Transpose_any _ r d g _ (MxR.more hb.size (MxR.below hb HV.out)) (by omega) (by omega)).mono ?_; rintro e w5 ⟨v5, rfl, hO5, hb5⟩
    go_wp2
    exact hQ _ _ hb5 hO5
  · intro x w hb hk Q' hQ
    have h7 : Fresh w W.heap.size (x.v 7) := (hk 7 (by decide)).1
    have h8 : x.v 8 = .agg #[.int .i64 r, .int .i64 c, .slice U L uc] := (hk 8 (by decide)).1
    have h9 : MxO w (x.lo 9) (x.hi 9) (x.v 9) (mxF c r (fun a b => f b a)) := (hk 9 (by decide)).1
    have h10 : SlI w w.heap.size (x.v 10) (flat c r (fun a b => f b a)) := (hk 10 (by decide)).1
    have h11 : OwnI w W.heap.size (x.v 11) (flat c r (fun a b => f b a)) := (hk 11 (by decide)).1
    have h12 : x.v 12 = .agg #[.int .i64 r, .int .i64 d, .slice V L' vc] := (hk 12 (by decide)).1
    have h13 : MxO w (x.lo 13) (x.hi 13) (x.v 13) (mxF d r (fun a b => g b a)) := (hk 13 (by decide)).1
    have s7 := (hk 7 (by decide)).2
    have s9 := (hk 9 (by decide)).2
    have s10 := (hk 10 (by decide)).2
    have s11 := (hk 11 (by decide)).2
    have s13 := (hk 13 (by decide)).2
    clear hk
    simp only [netAct, dstAt, List.getElem?_toArray, List.getElem?_cons_zero, List.getElem?_cons_succ, Option.bind_some, Act.put, List.setIfInBounds_toArray, List.set_cons_zero, List.set_cons_succ] at hQ ⊢
    simp only [h8, h12] at hQ ⊢
    clear h8 h12
    have hrd := h13.rd
    obtain ⟨A9, c9, e9, hs9, _⟩ := hrd.open_
    simp only [mxF] at e9 hs9
    rw [e9] at hQ ⊢
    have HS9 := Lib.hid hs9
    clear hs9 h13 h9 hrd h10 h11 h7
    have hfm := run_fieldMx (.int .i64 d) (.int .i64 r) (.slice A9 (flat d r (fun a b => g b a)).length c9) w
    go_wp2
    exact hQ _ _ (Below.refl _ _) HS9.out
  · intro x w hb hk Q' hQ
    have h7 : Fresh w W.heap.size (x.v 7) := (hk 7 (by decide)).1
    have h8 : x.v 8 = .agg #[.int .i64 r, .int .i64 c, .slice U L uc] := (hk 8 (by decide)).1
    have h9 : MxO w (x.lo 9) (x.hi 9) (x.v 9) (mxF c r (fun a b => f b a)) := (hk 9 (by decide)).1
    have h10 : SlI w w.heap.size (x.v 10) (flat c r (fun a b => f b a)) := (hk 10 (by decide)).1
    have h11 : OwnI w W.heap.size (x.v 11) (flat c r (fun a b => f b a)) := (hk 11 (by decide)).1
    have h12 : x.v 12 = .agg #[.int .i64 r, .int .i64 d, .slice V L' vc] := (hk 12 (by decide)).1
    have h13 : MxO w (x.lo 13) (x.hi 13) (x.v 13) (mxF d r (fun a b => g b a)) := (hk 13 (by decide)).1
    have h14 : SlI w w.heap.size (x.v 14) (flat d r (fun a b => g b a)) := (hk 14 (by decide)).1
    have s7 := (hk 7 (by decide)).2
    have s9 := (hk 9 (by decide)).2
    have s10 := (hk 10 (by decide)).2
    have s11 := (hk 11 (by decide)).2
    have s13 := (hk 13 (by decide)).2
    have s14 := (hk 14 (by decide)).2
    clear hk
    simp only [netAct, dstAt, List.getElem?_toArray, List.getElem?_cons_zero, List.getElem?_cons_succ, Option.bind_some, Act.put, List.setIfInBounds_toArray, List.set_cons_zero, List.set_cons_succ] at hQ ⊢
    simp only [h8, h12] at hQ ⊢
    clear h8 h12
    obtain ⟨A14, c14, e14⟩ := h14.app_len
    rw [e14] at h14
    have hlo := h11.lt
    rw [e14] at hQ ⊢
    refine wpList_appI (by rfl) (.tmp 16) (.tmp 19) (by rfl) W.heap.size w.heap.size _ _ (by rfl) h11 A14 _ c14 (flat d r (fun a b => g b a)) (by rfl) rfl h14 (by have := HL1.out; omega) hb.size ?_
    intro v' w' h1 h2 h3
    rw [flat_app] at h1
    exact hQ v' w' (below_grown h2 (fun k hk => (hlo k hk).1) hb.size) h1.rd
  · intro x w hb hk Q' hQ
    have h0 : x.v 0 = .pointer (some ⟨w0.heap.size, 1, none⟩) := (hk 0 (by decide)).1
    have h1 : x.v 1 = .int .i64 c := (hk 1 (by decide)).1
    have h2 : x.v 2 = .pointer (some ⟨w0.heap.size + 1, 1, none⟩) := (hk 2 (by decide)).1
    have h3 : x.v 3 = .int .i64 d := (hk 3 (by decide)).1
    have h4 : x.v 4 = .int .i64 ((c : Int) + d) := (hk 4 (by decide)).1
    have h5 : x.v 5 = .pointer (some ⟨w0.heap.size, 0, none⟩) := (hk 5 (by decide)).1
    have h6 : x.v 6 = .int .i64 r := (hk 6 (by decide)).1
    have h8 : x.v 8 = .agg #[.int .i64 r, .int .i64 c, .slice U L uc] := (hk 8 (by decide)).1
    have h12 : x.v 12 = .agg #[.int .i64 r, .int .i64 d, .slice V L' vc] := (hk 12 (by decide)).1
    have h15 : SlI w w.heap.size (x.v 15) (flat (c + d) r (blF c (fun a b => f b a) (fun a b => g b a))) := (hk 15 (by decide)).1
    have s15 := (hk 15 (by decide)).2
    clear hk
    simp only [netAct, dstAt, List.getElem?_toArray, List.getElem?_cons_zero, List.getElem?_cons_succ, Option.bind_some, Act.put, List.setIfInBounds_toArray, List.set_cons_zero, List.set_cons_succ] at hQ ⊢
    simp only [h0, h1, h2, h3, h4, h5, h6, h8, h12] at hQ ⊢
    clear h0 h1 h2 h3 h4 h5 h6 h8 h12
    have H15 := Lib.hid h15
    obtain ⟨A15, c15, e15⟩ := h15.app_len
    rw [e15] at H15 hQ ⊢
    clear h15 e15
    go_wp2
    have he : (Value.agg #[.int .i64 ((c : Int) + d), .int .i64 r, .slice A15 (flat (c + d) r (blF c (fun a b => f b a) (fun a b => g b a))).length c15]) = .agg #[.int .i64 ((c + d : Nat) : Int), .int .i64 r, .slice A15 (flat (c + d) r (blF c (fun a b => f b a) (fun a b => g b a))).length c15] := by rw [show ((c + d : Nat) : Int) = (c : Int) + d from by simp]
    exact hQ _ w (Below.refl _ _) ⟨_, he, H15.out⟩
  · intro x w hb hk Q' hQ
    have h0 : x.v 0 = .pointer (some ⟨w0.heap.size, 1, none⟩) := (hk 0 (by decide)).1
    have h1 : x.v 1 = .int .i64 c := (hk 1 (by decide)).1
    have h2 : x.v 2 = .pointer (some ⟨w0.heap.size + 1, 1, none⟩) := (hk 2 (by decide)).1
    have h3 : x.v 3 = .int .i64 d := (hk 3 (by decide)).1
    have h4 : x.v 4 = .int .i64 ((c : Int) + d) := (hk 4 (by decide)).1
    have h5 : x.v 5 = .pointer (some ⟨w0.heap.size, 0, none⟩) := (hk 5 (by decide)).1
    have h6 : x.v 6 = .int .i64 r := (hk 6 (by decide)).1
    have h8 : x.v 8 = .agg #[.int .i64 r, .int .i64 c, .slice U L uc] := (hk 8 (by decide)).1
    have h12 : x.v 12 = .agg #[.int .i64 r, .int .i64 d, .slice V L' vc] := (hk 12 (by decide)).1
    have h15 : SlI w w.heap.size (x.v 15) (flat (c + d) r (blF c (fun a b => f b a) (fun a b => g b a))) := (hk 15 (by decide)).1
    have h16 : ∃ s, (x.v 16) = .agg #[.int .i64 ((c + d : Nat) : Int), .int .i64 r, s] ∧ SlI w w.heap.size s (flat (c + d) r (blF c (fun a b => f b a) (fun a b => g b a))) := (hk 16 (by decide)).1
    have s15 := (hk 15 (by decide)).2
    have s16 := (hk 16 (by decide)).2
    clear hk
    simp only [netAct, dstAt, List.getElem?_toArray, List.getElem?_cons_zero, List.getElem?_cons_succ, Option.bind_some, Act.put, List.setIfInBounds_toArray, List.set_cons_zero, List.set_cons_succ] at hQ ⊢
    simp only [h0, h1, h2, h3, h4, h5, h6, h8, h12] at hQ ⊢
    clear h0 h1 h2 h3 h4 h5 h6 h8 h12
    obtain ⟨s, e16, hs⟩ := h16
    have HMR : Hid (MxR w w.heap.size (.agg #[.int .i64 ((c + d : Nat) : Int), .int .i64 r, s]) (mxF (c + d) r (blF c (fun a b => f b a) (fun a b => g b a)))) := ⟨s, rfl, hs, by simp only [mxF, I64]; omega, by simp only [mxF, I64]; omega⟩
    obtain ⟨A15, c15, e15⟩ := hs.app_len
    subst e15
    rw [e16] at hQ ⊢
    clear hs e16 h15
    go_wp2_with fail
    refine (l3Transpose_any _ (c + d) r (blF c (fun a b => f b a) (fun a b => g b a)) _ HMR.out (by omega) (by omega)).mono ?_; rintro e w5 ⟨v5, rfl, hO5, hb5⟩
    have hO6 : MxO w5 w.heap.size w5.heap.size v5 (mxF r (c + d) (bsF c f g)) := hO5
    go_wp2
    exact hQ _ _ hb5 hO6
  · intro x w hb hk hiv hdj
    have h0 : x.v 0 = .pointer (some ⟨w0.heap.size, 1, none⟩) := hk 0 (by decide) (by decide)
    have h1 : x.v 1 = .int .i64 c := hk 1 (by decide) (by decide)
    have h2 : x.v 2 = .pointer (some ⟨w0.heap.size + 1, 1, none⟩) := hk 2 (by decide) (by decide)
    have h3 : x.v 3 = .int .i64 d := hk 3 (by decide) (by decide)
    have h4 : x.v 4 = .int .i64 ((c : Int) + d) := hk 4 (by decide) (by decide)
    have h5 : x.v 5 = .pointer (some ⟨w0.heap.size, 0, none⟩) := hk 5 (by decide) (by decide)
    have h6 : x.v 6 = .int .i64 r := hk 6 (by decide) (by decide)
    have h8 : x.v 8 = .agg #[.int .i64 r, .int .i64 c, .slice U L uc] := hk 8 (by decide) (by decide)
    have h12 : x.v 12 = .agg #[.int .i64 r, .int .i64 d, .slice V L' vc] := hk 12 (by decide) (by decide)
    have h15 : SlI w w.heap.size (x.v 15) (flat (c + d) r (blF c (fun a b => f b a) (fun a b => g b a))) := hk 15 (by decide) (by decide)
    have h16 : ∃ s, (x.v 16) = .agg #[.int .i64 ((c + d : Nat) : Int), .int .i64 r, s] ∧ SlI w w.heap.size s (flat (c + d) r (blF c (fun a b => f b a) (fun a b => g b a))) := hk 16 (by decide) (by decide)
    have h17 : MxO w (x.lo 17) (x.hi 17) (x.v 17) (mxF r (c + d) (bsF c f g)) := hk 17 (by decide) (by decide)
    clear hk
    simp only [netAct, dstAt, List.getElem?_toArray, List.getElem?_cons_zero, List.getElem?_cons_succ, Option.bind_some, Act.put, List.setIfInBounds_toArray, List.set_cons_zero, List.set_cons_succ]
    simp only [List.drop_succ_cons, List.drop_zero, h0, h1, h2, h3, h4, h5, h6, h8, h12]
    clear h0 h1 h2 h3 h4 h5 h6 h8 h12
    have sz := SZ.out
    have kR := k3.below hb k3.lt
    obtain ⟨l7, _, l7h⟩ := hiv 17 (by decide)
    obtain ⟨A7, c7, e7⟩ := h17.form
    simp only [mxF] at e7
    rw [e7] at h17 ⊢
    clear hiv hdj e7 h16 h15
    obtain ⟨N, hN⟩ : ∃ N, (flat r (c + d) (bsF c f g)).length = N := ⟨_, rfl⟩
    rw [hN] at h17 ⊢
    have p0 := kR.cell' (i := 0) rfl
    have p1 := kR.cell' (i := 1) rfl
    have p2 := kR.cell' (i := 2) rfl
    have fr := kR.frozen
    have gX := g0.trans (hb.mono g0.size)
    have gXs := gX.size
    have hbs := hb.size
    have h2 := chg3 w (w0.heap.size + 1 + 1) (.int .i64 (r : Int)) (.int .i64 ((c + d : Nat) : Int)) (.slice A7 N c7)
    have OF := Lib.hid ((h17.chg h2 (.inr (by omega))).wider (lo' := w0.heap.size) (hi' := w.heap.size) (by omega) (by omega))
    have GF := Lib.hid (gX.trans (h2.below (by omega) gXs))
    have e8 : ((c + d : Nat) : Int) = (c : Int) + d := by simp
    rw [e8] at OF GF
    clear h17 h2 gX kR hN sz gXs hbs l7 l7h hb k1 k2 k3 e8
    go_wp2
    exact bodyPost_ret (v := .agg #[.int .i64 (r : Int), .int .i64 ((c : Int) + d), .slice A7 N c7]) (by simp [results, go_sem, p0, p1, p2]) rfl ⟨_, rfl, OF.out.wider (Nat.le_refl _) (by simp), GF.out⟩
end Go.Proofs.Ytjhllgldllbaaaa
