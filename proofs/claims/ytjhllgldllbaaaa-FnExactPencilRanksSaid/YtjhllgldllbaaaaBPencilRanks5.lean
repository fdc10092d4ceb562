/- FnExactPencilRanks: for every argument the program's function returns what the reference's returns. Part 5 of 7 of the proof: SVec, AVec, SMat, Rank2, Mat2, Mat3, RepSz, RepAt, Pencil, PenAt, PenAt2. No condition. -/
import Derived.Test.YtjhllgldllbaaaaBPencilRanks4
/- The reference's ScaleVector and AddVectors, for vectors. -/
namespace Go.Proofs.Ytjhllgldllbaaaa
set_option linter.unusedVariables false
set_option linter.unusedSimpArgs false
open Go.RowKit
theorem rowF_snoc (n : Nat) (f : Nat → Int) : rowF (n + 1) f = rowF n f ++ [f n] := by simp [rowF, List.range_succ]
theorem isVec_rowF {p : Int} {n : Nat} {f : Nat → Int} (h : isVec p (rowF n f) = true) : ∀ i, i < n → 0 ≤ f i ∧ f i ≤ p - 1 := fun i hi => (isVec_t.1 h).2.2 _ (List.mem_of_getElem? (rowF_get f hi))
def scF (p k : Int) (f : Nat → Int) (i : Nat) : Int := (k % p * f i) % p
def adF (p : Int) (f g : Nat → Int) (i : Nat) : Int := (f i + g i) % p
set_option maxHeartbeats 3200000 in
set_option maxRecDepth 100000 in
theorem scaleVector_any (p k : Int) (va : Value) (n : Nat) (f : Nat → Int) (w0 : World) (hk : I64 k) (ha : SlI w0 w0.heap.size va (rowF n f)) (hv : isVec p (rowF n f) = true) :
    Calls Try.prog 205 #[.int .i64 p, .int .i64 k, va] w0 fun e w' => ∃ r, e = .returned (.tuple #[r, .bool true]) ∧ IntsO w' w0.heap.size w'.heap.size r (rowF n (scF p k f)) ∧ Below w0.heap.size w0 w' := by
  have hp := isFld_r (isVec_t.1 hv).1
  have hn := (isVec_t.1 hv).2.1
  rw [rowF_length] at hn
  have HR := Lib.hid (isVec_rowF hv)
  have HV := Lib.hid hv
  have ha' := ha
  obtain ⟨A, ac, rfl, _⟩ := ha
  rw [rowF_length] at ha' ⊢
  obtain ⟨W, hW⟩ : ∃ W, W = w0.alloc (.cells #[] 3) := ⟨_, rfl⟩
  have g0 : Below w0.heap.size w0 W := by rw [hW]; exact below_alloc _ _
  have ho : OwnI W w0.heap.size (.slice (some ⟨w0.heap.size, 0, none⟩) 0 0) (rowF 0 (scF p k f)) := by
    rw [hW]
    have h0 : rowF 0 (scF p k f) = [] := rfl
    rw [h0]
    exact OwnI.made (w := w0) (base := w0.heap.size) 3 rfl (Nat.le_refl _)
  have HA := Lib.hid ha'
  have hka := Int.emod_nonneg k (show p ≠ 0 by omega)
  have hkb := Int.emod_lt_of_pos k (show 0 < p by omega)
  clear ha' hv
  go_enter Try.func205, Try.ntmps205
  go_wp2_with fail
  rw [← hW]; clear hW
  refine (specIsVector_any p _ (rowF n f) W (SlI.more g0.size (SlI.below g0 HA.out))).mono ?_; rintro e w1 ⟨rfl, hb1⟩
  rw [HV.out]
  replace ho := ho.below hb1
  have gW := g0.trans (hb1.mono g0.size)
  clear hb1
  go_wp2
  go_loopw [8, 9] (fun out i wr => ∃ j : Nat, j ≤ n ∧ i = .int .i64 j ∧ OwnI wr w0.heap.size out (rowF j (scF p k f)) ∧ Below w0.heap.size w0 wr) (fun _ i _ => n - (intOf i).toNat)
  case atStart => exact ⟨0, Nat.zero_le _, rfl, ho, gW⟩
  case round =>
    clear ho gW
    obtain ⟨j, hj, rfl, ho, gW⟩ := hrel
    have gs := gW.size
    by_cases hlt : j < n
    · have hx := HA.out
      rw [← rowF_length n f] at hlt
      rw [show (Value.slice A n ac) = .slice A (rowF n f).length ac by rw [rowF_length]] at hx
      obtain ⟨b, o, x, rfl, hbl, HXX, x1, _⟩ := SlI.at_ hx hlt
      rw [rowF_length] at hlt
      have hxx := HXX.out
      rw [rowF_get _ hlt] at hxx
      injection hxx with hxx
      subst hxx
      have x2 := bcell gW hbl x1
      have hr := HR.out j hlt
      obtain ⟨z, hz⟩ : ∃ z, f j = z := ⟨_, rfl⟩
      obtain ⟨q, hq⟩ : ∃ q, k % p = q := ⟨_, rfl⟩
      rw [hz] at x2 hr
      rw [hq] at hka hkb
      have hkz0 : 0 ≤ q * z := Int.mul_nonneg hka hr.1
      have hkz1 : q * z ≤ 5 * 4 := Int.mul_le_mul (by omega) (by omega) hr.1 (by omega)
      obtain ⟨K, hK⟩ : ∃ K, q * z = K := ⟨_, rfl⟩
      rw [hK] at hkz0 hkz1
      have hKw : wrap64 (q * z) = K := by rw [hK]; exact IntWalk.wrap64_in _ ⟨by omega, by omega⟩
      have hsn := rowF_snoc j (scF p k f)
      rw [show scF p k f j = K % p by rw [scF, hq, hz, hK]] at hsn
      have HSN := Lib.hid hsn
      have HQ := Lib.hid hq
      have hr0 := Int.emod_nonneg K (show p ≠ 0 by omega)
      have hr1 := Int.emod_lt_of_pos K (show 0 < p by omega)
      obtain ⟨OB, ob, rfl, _, _⟩ := ho.form
      clear hx HXX x1 hz hq hK hsn
      have HKW := Lib.hid hKw
      clear hKw
      have hblr : b < wr.heap.size := by omega
      go_wp2
      refine wp_region_net (by kernel_rfl) [.eq (.slice OB (rowF j (scF p k f)).length ob), .eq (.int .i64 p), .eq (.int .i64 p), .eq (.int .i64 k), .eq (.int .i64 q), .eq (.slice (some ⟨b, o, none⟩) n ac), .eq (.int .i64 j), .eq (.pointer (some ⟨b, o + j, none⟩)), .eq (.int .i64 z), .eq (.int .i64 K), .eq (.int .i64 (K % p)), rel 11 (fun u lo hi w => ∃ g, u = .slice (some ⟨g, 0, none⟩) 1 1 ∧ SlI w w.heap.size u [K % p])] [[], [], [], [], [2, 3], [], [], [5, 6], [5, 6, 7], [2, 3, 4, 5, 6, 7, 8], [1, 2, 3, 4, 5, 6, 7, 8, 9], [1, 2, 3, 4, 5, 6, 7, 8, 9, 10], [0, 1, 2, 3, 4, 5, 6, 7, 8, 9, 10, 11], [0, 1, 2, 3, 4, 5, 6, 7, 8, 9, 10, 11, 12]] 12 (by kernel_rfl) ⟨trivial, trivial, trivial, trivial, trivial, trivial, trivial, trivial, trivial, trivial, trivial, rel_stable (fun u lo hi w w' ⟨g, e, h⟩ hb => ⟨g, e, SlI.next hb h⟩), trivial⟩ ⟨?_, ?_, ?_, ?_, ?_, ?_, ?_, ?_, ?_, ?_, ?_, ?_, trivial⟩ ?_
      · intro x w hb hk Q' hQ
        clear hk
        simp only [netAct, dstAt, List.getElem?_toArray, List.getElem?_cons_zero, List.getElem?_cons_succ, Option.bind_some, Act.put, List.setIfInBounds_toArray, List.set_cons_zero, List.set_cons_succ] at hQ ⊢
        go_wp2
        exact hQ (.slice OB (rowF j (scF p k f)).length ob) _ (Below.refl _ _) rfl
      · intro x w hb hk Q' hQ
        clear hk
        simp only [netAct, dstAt, List.getElem?_toArray, List.getElem?_cons_zero, List.getElem?_cons_succ, Option.bind_some, Act.put, List.setIfInBounds_toArray, List.set_cons_zero, List.set_cons_succ] at hQ ⊢
        go_wp2
        exact hQ (.int .i64 p) _ (Below.refl _ _) rfl
      · intro x w hb hk Q' hQ
        clear hk
        simp only [netAct, dstAt, List.getElem?_toArray, List.getElem?_cons_zero, List.getElem?_cons_succ, Option.bind_some, Act.put, List.setIfInBounds_toArray, List.set_cons_zero, List.set_cons_succ] at hQ ⊢
        go_wp2
        exact hQ (.int .i64 p) _ (Below.refl _ _) rfl
      · intro x w hb hk Q' hQ
        clear hk
        simp only [netAct, dstAt, List.getElem?_toArray, List.getElem?_cons_zero, List.getElem?_cons_succ, Option.bind_some, Act.put, List.setIfInBounds_toArray, List.set_cons_zero, List.set_cons_succ] at hQ ⊢
        go_wp2
        exact hQ (.int .i64 k) _ (Below.refl _ _) rfl
      · intro x w hb hk Q' hQ
        have h2 : x.v 2 = .int .i64 p := (hk 2 (by decide)).1
        have h3 : x.v 3 = .int .i64 k := (hk 3 (by decide)).1
        clear hk
        simp only [netAct, dstAt, List.getElem?_toArray, List.getElem?_cons_zero, List.getElem?_cons_succ, Option.bind_some, Act.put, List.setIfInBounds_toArray, List.set_cons_zero, List.set_cons_succ] at hQ ⊢
        simp only [h2, h3] at hQ ⊢
        clear h2 h3
        go_wp2_with fail
        refine (l2Mod_any p k _ hp hk).mono ?_; rintro e w5 ⟨rfl, rfl⟩
        rw [HQ.out]
        go_wp2
        exact hQ (.int .i64 q) _ (Below.refl _ _) rfl
      · intro x w hb hk Q' hQ
        clear hk
        simp only [netAct, dstAt, List.getElem?_toArray, List.getElem?_cons_zero, List.getElem?_cons_succ, Option.bind_some, Act.put, List.setIfInBounds_toArray, List.set_cons_zero, List.set_cons_succ] at hQ ⊢
        go_wp2
        exact hQ (.slice (some ⟨b, o, none⟩) n ac) _ (Below.refl _ _) rfl
      · intro x w hb hk Q' hQ
        clear hk
        simp only [netAct, dstAt, List.getElem?_toArray, List.getElem?_cons_zero, List.getElem?_cons_succ, Option.bind_some, Act.put, List.setIfInBounds_toArray, List.set_cons_zero, List.set_cons_succ] at hQ ⊢
        go_wp2
        exact hQ (.int .i64 j) _ (Below.refl _ _) rfl
      · intro x w hb hk Q' hQ
        have h5 : x.v 5 = .slice (some ⟨b, o, none⟩) n ac := (hk 5 (by decide)).1
        have h6 : x.v 6 = .int .i64 j := (hk 6 (by decide)).1
        clear hk
        simp only [netAct, dstAt, List.getElem?_toArray, List.getElem?_cons_zero, List.getElem?_cons_succ, Option.bind_some, Act.put, List.setIfInBounds_toArray, List.set_cons_zero, List.set_cons_succ] at hQ ⊢
        simp only [h5, h6] at hQ ⊢
        clear h5 h6
        go_wp2
        exact hQ (.pointer (some ⟨b, o + j, none⟩)) _ (Below.refl _ _) rfl
      · intro x w hb hk Q' hQ
        have h7 : x.v 7 = .pointer (some ⟨b, o + j, none⟩) := (hk 7 (by decide)).1
        clear hk
        simp only [netAct, dstAt, List.getElem?_toArray, List.getElem?_cons_zero, List.getElem?_cons_succ, Option.bind_some, Act.put, List.setIfInBounds_toArray, List.set_cons_zero, List.set_cons_succ] at hQ ⊢
        simp only [h7] at hQ ⊢
        clear h7
        have q0 := bcell hb hblr x2
        go_wp2
        exact hQ (.int .i64 z) _ (Below.refl _ _) rfl
      · intro x w hb hk Q' hQ
        have h4 : x.v 4 = .int .i64 q := (hk 4 (by decide)).1
        have h8 : x.v 8 = .int .i64 z := (hk 8 (by decide)).1
        clear hk
        simp only [netAct, dstAt, List.getElem?_toArray, List.getElem?_cons_zero, List.getElem?_cons_succ, Option.bind_some, Act.put, List.setIfInBounds_toArray, List.set_cons_zero, List.set_cons_succ] at hQ ⊢
        simp only [h4, h8] at hQ ⊢
        clear h4 h8
        go_wp2
        rw [HKW.out]
        exact hQ (.int .i64 K) _ (Below.refl _ _) rfl
      · intro x w hb hk Q' hQ
        have h1 : x.v 1 = .int .i64 p := (hk 1 (by decide)).1
        have h9 : x.v 9 = .int .i64 K := (hk 9 (by decide)).1
        clear hk
        simp only [netAct, dstAt, List.getElem?_toArray, List.getElem?_cons_zero, List.getElem?_cons_succ, Option.bind_some, Act.put, List.setIfInBounds_toArray, List.set_cons_zero, List.set_cons_succ] at hQ ⊢
        simp only [h1, h9] at hQ ⊢
        clear h1 h9
        go_wp2_with fail
        refine (l2Mod_any p K _ hp (by simp only [I64]; omega)).mono ?_; rintro e w5 ⟨rfl, rfl⟩
        go_wp2
        exact hQ (.int .i64 (K % p)) _ (Below.refl _ _) rfl
      · intro x w hb hk Q' hQ
        have h1 : x.v 1 = .int .i64 p := (hk 1 (by decide)).1
        have h2 : x.v 2 = .int .i64 p := (hk 2 (by decide)).1
        have h3 : x.v 3 = .int .i64 k := (hk 3 (by decide)).1
        have h4 : x.v 4 = .int .i64 q := (hk 4 (by decide)).1
        have h5 : x.v 5 = .slice (some ⟨b, o, none⟩) n ac := (hk 5 (by decide)).1
        have h6 : x.v 6 = .int .i64 j := (hk 6 (by decide)).1
        have h7 : x.v 7 = .pointer (some ⟨b, o + j, none⟩) := (hk 7 (by decide)).1
        have h8 : x.v 8 = .int .i64 z := (hk 8 (by decide)).1
        have h9 : x.v 9 = .int .i64 K := (hk 9 (by decide)).1
        have h10 : x.v 10 = .int .i64 (K % p) := (hk 10 (by decide)).1
        clear hk
        simp only [netAct, dstAt, List.getElem?_toArray, List.getElem?_cons_zero, List.getElem?_cons_succ, Option.bind_some, Act.put, List.setIfInBounds_toArray, List.set_cons_zero, List.set_cons_succ] at hQ ⊢
        simp only [h1, h2, h3, h4, h5, h6, h7, h8, h9, h10] at hQ ⊢
        clear h1 h2 h3 h4 h5 h6 h7 h8 h9 h10
        go_wp2
        exact hQ (.slice (some ⟨w.heap.size, 0, none⟩) 1 1) _ (below_alloc _ _) ⟨_, rfl, SlI.one _ _ _ (by simp only [I64]; omega)⟩
      · intro x w hb hk hiv hdj
        have h0 : x.v 0 = .slice OB (rowF j (scF p k f)).length ob := hk 0 (by decide)
        have h1 : x.v 1 = .int .i64 p := hk 1 (by decide)
        have h2 : x.v 2 = .int .i64 p := hk 2 (by decide)
        have h3 : x.v 3 = .int .i64 k := hk 3 (by decide)
        have h4 : x.v 4 = .int .i64 q := hk 4 (by decide)
        have h5 : x.v 5 = .slice (some ⟨b, o, none⟩) n ac := hk 5 (by decide)
        have h6 : x.v 6 = .int .i64 j := hk 6 (by decide)
        have h7 : x.v 7 = .pointer (some ⟨b, o + j, none⟩) := hk 7 (by decide)
        have h8 : x.v 8 = .int .i64 z := hk 8 (by decide)
        have h9 : x.v 9 = .int .i64 K := hk 9 (by decide)
        have h10 : x.v 10 = .int .i64 (K % p) := hk 10 (by decide)
        have h11 : ∃ g, (x.v 11) = .slice (some ⟨g, 0, none⟩) 1 1 ∧ SlI w w.heap.size (x.v 11) [K % p] := hk 11 (by decide)
        clear hk
        simp only [netAct, dstAt, List.getElem?_toArray, List.getElem?_cons_zero, List.getElem?_cons_succ, Option.bind_some, Act.put, List.setIfInBounds_toArray, List.set_cons_zero, List.set_cons_succ]
        simp only [List.drop_succ_cons, List.drop_zero, h0, h1, h2, h3, h4, h5, h6, h7, h8, h9, h10]
        clear h0 h1 h2 h3 h4 h5 h6 h7 h8 h9 h10
        obtain ⟨g, e11, hs11⟩ := h11
        rw [e11] at hs11 ⊢
        have ho2 := ho.below hb
        have hlo := ho2.lt
        have hbs := hb.size
        clear hiv hdj e11 ho
        refine wpList_appI (by rfl) (.tmp 22) (.tmp 33) (by rfl) w0.heap.size w.heap.size _ _ (by rfl) ho2 _ 1 1 [K % p] (by rfl) rfl hs11 (by rw [rowF_length]; simp; omega) (by omega) ?_
        intro v' w' h1 h2 h3
        rw [← HSN.out] at h1
        have G2 := Lib.hid ((gW.trans (hb.mono gs)).trans (below_grown h2 (fun k hk => (hlo k hk).1) (by omega)))
        have H1 := Lib.hid h1
        clear h1 h2 h3 hlo ho2 hs11 hb gW
        go_wp2
        go_roundw
        case rel => exact ⟨j + 1, by omega, by go_num, H1.out, G2.out⟩
        case measure => simp [intOf]; omega
    · obtain rfl : j = n := by omega
      have HO := Lib.hid ho
      clear ho
      go_wp2
      go_ret2
      exact ⟨_, rfl, IntsO.of_own HO.out, gW⟩
end Go.Proofs.Ytjhllgldllbaaaa

/- The reference's AddVectors, for vectors. -/
namespace Go.Proofs.Ytjhllgldllbaaaa
set_option linter.unusedVariables false
set_option linter.unusedSimpArgs false
open Go.RowKit
set_option maxHeartbeats 3200000 in
set_option maxRecDepth 100000 in
theorem addVectors_any (p : Int) (va vb : Value) (n : Nat) (f g : Nat → Int) (w0 : World) (ha : SlI w0 w0.heap.size va (rowF n f)) (hb0 : SlI w0 w0.heap.size vb (rowF n g)) (hv : isVec p (rowF n f) = true) (hv2 : isVec p (rowF n g) = true) :
    Calls Try.prog 206 #[.int .i64 p, va, vb] w0 fun e w' => ∃ r, e = .returned (.tuple #[r, .bool true]) ∧ IntsO w' w0.heap.size w'.heap.size r (rowF n (adF p f g)) ∧ Below w0.heap.size w0 w' := by
  have hp := isFld_r (isVec_t.1 hv).1
  have hn := (isVec_t.1 hv).2.1
  rw [rowF_length] at hn
  have HR := Lib.hid (isVec_rowF hv)
  have HR2 := Lib.hid (isVec_rowF hv2)
  have HV := Lib.hid hv
  have HV2 := Lib.hid hv2
  have ha' := ha
  have hb' := hb0
  obtain ⟨A, ac, rfl, _⟩ := ha
  obtain ⟨B, bc, rfl, _⟩ := hb0
  simp only [rowF_length] at ha' hb' ⊢
  obtain ⟨W, hW⟩ : ∃ W, W = w0.alloc (.cells #[] 3) := ⟨_, rfl⟩
  have g0 : Below w0.heap.size w0 W := by rw [hW]; exact below_alloc _ _
  have ho : OwnI W w0.heap.size (.slice (some ⟨w0.heap.size, 0, none⟩) 0 0) (rowF 0 (adF p f g)) := by
    rw [hW]
    have h0 : rowF 0 (adF p f g) = [] := rfl
    rw [h0]
    exact OwnI.made (w := w0) (base := w0.heap.size) 3 rfl (Nat.le_refl _)
  have HA := Lib.hid ha'
  have HB := Lib.hid hb'
  clear ha' hv hv2 hb'
  go_enter Try.func206, Try.ntmps206
  go_wp2_with fail
  rw [← hW]; clear hW
  refine (specIsVector_any p _ (rowF n f) W (SlI.more g0.size (SlI.below g0 HA.out))).mono ?_; rintro e w1 ⟨rfl, hb1⟩
  rw [HV.out]
  replace ho := ho.below hb1
  have gW := g0.trans (hb1.mono g0.size)
  clear hb1
  go_wp2_with fail
  refine (specIsVector_any p _ (rowF n g) _ (SlI.more gW.size (SlI.below gW HB.out))).mono ?_; rintro e w2 ⟨rfl, hb1⟩
  rw [HV2.out]
  replace ho := ho.below hb1
  replace gW := gW.trans (hb1.mono gW.size)
  clear hb1
  go_wp2
  go_loopw [8, 9] (fun out i wr => ∃ j : Nat, j ≤ n ∧ i = .int .i64 j ∧ OwnI wr w0.heap.size out (rowF j (adF p f g)) ∧ Below w0.heap.size w0 wr) (fun _ i _ => n - (intOf i).toNat)
  case atStart => exact ⟨0, Nat.zero_le _, rfl, ho, gW⟩
  case round =>
    clear ho gW
    obtain ⟨j, hj, rfl, ho, gW⟩ := hrel
    have gs := gW.size
    by_cases hlt : j < n
    · have hx := HA.out
      have hx2 := HB.out
      have hlt2 : j < (rowF n g).length := by rw [rowF_length]; exact hlt
      rw [← rowF_length n f] at hlt
      rw [show (Value.slice A n ac) = .slice A (rowF n f).length ac by rw [rowF_length]] at hx
      rw [show (Value.slice B n bc) = .slice B (rowF n g).length bc by rw [rowF_length]] at hx2
      obtain ⟨b, o, x, rfl, hbl, HXX, x1, _⟩ := SlI.at_ hx hlt
      obtain ⟨b2, o2, y, rfl, hbl2, HYY, y1, _⟩ := SlI.at_ hx2 hlt2
      rw [rowF_length] at hlt
      have hxx := HXX.out
      rw [rowF_get _ hlt] at hxx
      injection hxx with hxx
      subst hxx
      have hyy := HYY.out
      rw [rowF_get _ hlt] at hyy
      injection hyy with hyy
      subst hyy
      have x2 := bcell gW hbl x1
      have y2 := bcell gW hbl2 y1
      have hr := HR.out j hlt
      have hr2 := HR2.out j hlt
      obtain ⟨z, hz⟩ : ∃ z, f j = z := ⟨_, rfl⟩
      obtain ⟨q, hq⟩ : ∃ q, g j = q := ⟨_, rfl⟩
      rw [hz] at x2 hr
      rw [hq] at y2 hr2
      have hsn := rowF_snoc j (adF p f g)
      rw [show adF p f g j = (z + q) % p by rw [adF, hq, hz]] at hsn
      have HSN := Lib.hid hsn
      have hr0 := Int.emod_nonneg (z + q) (show p ≠ 0 by omega)
      have hr1 := Int.emod_lt_of_pos (z + q) (show 0 < p by omega)
      obtain ⟨OB, ob, rfl, _, _⟩ := ho.form
      clear hx HXX x1 hz hq hsn hx2 HYY y1 hlt2
      have hblr : b < wr.heap.size := by omega
      have hblr2 : b2 < wr.heap.size := by omega
      go_wp2
      refine wp_region_net (by kernel_rfl) [.eq (.slice OB (rowF j (adF p f g)).length ob), .eq (.int .i64 p), .eq (.slice (some ⟨b, o, none⟩) n ac), .eq (.int .i64 j), .eq (.pointer (some ⟨b, o + j, none⟩)), .eq (.int .i64 z), .eq (.slice (some ⟨b2, o2, none⟩) n bc), .eq (.int .i64 j), .eq (.pointer (some ⟨b2, o2 + j, none⟩)), .eq (.int .i64 q), .eq (.int .i64 (z + q)), .eq (.int .i64 ((z + q) % p)), rel 12 (fun u lo hi w => ∃ g, u = .slice (some ⟨g, 0, none⟩) 1 1 ∧ SlI w w.heap.size u [(z + q) % p])] [[], [], [], [], [2, 3], [2, 3, 4], [], [], [6, 7], [6, 7, 8], [2, 3, 4, 5, 6, 7, 8, 9], [1, 2, 3, 4, 5, 6, 7, 8, 9, 10], [1, 2, 3, 4, 5, 6, 7, 8, 9, 10, 11], [0, 1, 2, 3, 4, 5, 6, 7, 8, 9, 10, 11, 12], [0, 1, 2, 3, 4, 5, 6, 7, 8, 9, 10, 11, 12, 13]] 13 (by kernel_rfl) ⟨trivial, trivial, trivial, trivial, trivial, trivial, trivial, trivial, trivial, trivial, trivial, trivial, rel_stable (fun u lo hi w w' ⟨g, e, h⟩ hb => ⟨g, e, SlI.next hb h⟩), trivial⟩ ⟨?_, ?_, ?_, ?_, ?_, ?_, ?_, ?_, ?_, ?_, ?_, ?_, ?_, trivial⟩ ?_
      · intro x w hb hk Q' hQ
        clear hk
        simp only [netAct, dstAt, List.getElem?_toArray, List.getElem?_cons_zero, List.getElem?_cons_succ, Option.bind_some, Act.put, List.setIfInBounds_toArray, List.set_cons_zero, List.set_cons_succ] at hQ ⊢
        go_wp2
        exact hQ (.slice OB (rowF j (adF p f g)).length ob) _ (Below.refl _ _) rfl
      · intro x w hb hk Q' hQ
        clear hk
        simp only [netAct, dstAt, List.getElem?_toArray, List.getElem?_cons_zero, List.getElem?_cons_succ, Option.bind_some, Act.put, List.setIfInBounds_toArray, List.set_cons_zero, List.set_cons_succ] at hQ ⊢
        go_wp2
        exact hQ (.int .i64 p) _ (Below.refl _ _) rfl
      · intro x w hb hk Q' hQ
        clear hk
        simp only [netAct, dstAt, List.getElem?_toArray, List.getElem?_cons_zero, List.getElem?_cons_succ, Option.bind_some, Act.put, List.setIfInBounds_toArray, List.set_cons_zero, List.set_cons_succ] at hQ ⊢
        go_wp2
        exact hQ (.slice (some ⟨b, o, none⟩) n ac) _ (Below.refl _ _) rfl
      · intro x w hb hk Q' hQ
        clear hk
        simp only [netAct, dstAt, List.getElem?_toArray, List.getElem?_cons_zero, List.getElem?_cons_succ, Option.bind_some, Act.put, List.setIfInBounds_toArray, List.set_cons_zero, List.set_cons_succ] at hQ ⊢
        go_wp2
        exact hQ (.int .i64 j) _ (Below.refl _ _) rfl
      · intro x w hb hk Q' hQ
        have h2 : x.v 2 = .slice (some ⟨b, o, none⟩) n ac := (hk 2 (by decide)).1
        have h3 : x.v 3 = .int .i64 j := (hk 3 (by decide)).1
        clear hk
        simp only [netAct, dstAt, List.getElem?_toArray, List.getElem?_cons_zero, List.getElem?_cons_succ, Option.bind_some, Act.put, List.setIfInBounds_toArray, List.set_cons_zero, List.set_cons_succ] at hQ ⊢
        simp only [h2, h3] at hQ ⊢
        clear h2 h3
        go_wp2
        exact hQ (.pointer (some ⟨b, o + j, none⟩)) _ (Below.refl _ _) rfl
      · intro x w hb hk Q' hQ
        have h4 : x.v 4 = .pointer (some ⟨b, o + j, none⟩) := (hk 4 (by decide)).1
        clear hk
        simp only [netAct, dstAt, List.getElem?_toArray, List.getElem?_cons_zero, List.getElem?_cons_succ, Option.bind_some, Act.put, List.setIfInBounds_toArray, List.set_cons_zero, List.set_cons_succ] at hQ ⊢
        simp only [h4] at hQ ⊢
        clear h4
        have q0 := bcell hb hblr x2
        go_wp2
        exact hQ (.int .i64 z) _ (Below.refl _ _) rfl
      · intro x w hb hk Q' hQ
        clear hk
        simp only [netAct, dstAt, List.getElem?_toArray, List.getElem?_cons_zero, List.getElem?_cons_succ, Option.bind_some, Act.put, List.setIfInBounds_toArray, List.set_cons_zero, List.set_cons_succ] at hQ ⊢
        go_wp2
        exact hQ (.slice (some ⟨b2, o2, none⟩) n bc) _ (Below.refl _ _) rfl
      · intro x w hb hk Q' hQ
        clear hk
        simp only [netAct, dstAt, List.getElem?_toArray, List.getElem?_cons_zero, List.getElem?_cons_succ, Option.bind_some, Act.put, List.setIfInBounds_toArray, List.set_cons_zero, List.set_cons_succ] at hQ ⊢
        go_wp2
        exact hQ (.int .i64 j) _ (Below.refl _ _) rfl
      · intro x w hb hk Q' hQ
        have h6 : x.v 6 = .slice (some ⟨b2, o2, none⟩) n bc := (hk 6 (by decide)).1
        have h7 : x.v 7 = .int .i64 j := (hk 7 (by decide)).1
        clear hk
        simp only [netAct, dstAt, List.getElem?_toArray, List.getElem?_cons_zero, List.getElem?_cons_succ, Option.bind_some, Act.put, List.setIfInBounds_toArray, List.set_cons_zero, List.set_cons_succ] at hQ ⊢
        simp only [h6, h7] at hQ ⊢
        clear h6 h7
        go_wp2
        exact hQ (.pointer (some ⟨b2, o2 + j, none⟩)) _ (Below.refl _ _) rfl
      · intro x w hb hk Q' hQ
        have h8 : x.v 8 = .pointer (some ⟨b2, o2 + j, none⟩) := (hk 8 (by decide)).1
        clear hk
        simp only [netAct, dstAt, List.getElem?_toArray, List.getElem?_cons_zero, List.getElem?_cons_succ, Option.bind_some, Act.put, List.setIfInBounds_toArray, List.set_cons_zero, List.set_cons_succ] at hQ ⊢
        simp only [h8] at hQ ⊢
        clear h8
        have q0 := bcell hb hblr2 y2
        go_wp2
        exact hQ (.int .i64 q) _ (Below.refl _ _) rfl
      · intro x w hb hk Q' hQ
        have h5 : x.v 5 = .int .i64 z := (hk 5 (by decide)).1
        have h9 : x.v 9 = .int .i64 q := (hk 9 (by decide)).1
        clear hk
        simp only [netAct, dstAt, List.getElem?_toArray, List.getElem?_cons_zero, List.getElem?_cons_succ, Option.bind_some, Act.put, List.setIfInBounds_toArray, List.set_cons_zero, List.set_cons_succ] at hQ ⊢
        simp only [h5, h9] at hQ ⊢
        clear h5 h9
        go_wp2
        exact hQ (.int .i64 (z + q)) _ (Below.refl _ _) rfl
      · intro x w hb hk Q' hQ
        have h1 : x.v 1 = .int .i64 p := (hk 1 (by decide)).1
        have h10 : x.v 10 = .int .i64 (z + q) := (hk 10 (by decide)).1
        clear hk
        simp only [netAct, dstAt, List.getElem?_toArray, List.getElem?_cons_zero, List.getElem?_cons_succ, Option.bind_some, Act.put, List.setIfInBounds_toArray, List.set_cons_zero, List.set_cons_succ] at hQ ⊢
        simp only [h1, h10] at hQ ⊢
        clear h1 h10
        go_wp2_with fail
        refine (l2Mod_any p (z + q) _ hp (by simp only [I64]; omega)).mono ?_; rintro e w5 ⟨rfl, rfl⟩
        go_wp2
        exact hQ (.int .i64 ((z + q) % p)) _ (Below.refl _ _) rfl
      · intro x w hb hk Q' hQ
        have h1 : x.v 1 = .int .i64 p := (hk 1 (by decide)).1
        have h2 : x.v 2 = .slice (some ⟨b, o, none⟩) n ac := (hk 2 (by decide)).1
        have h3 : x.v 3 = .int .i64 j := (hk 3 (by decide)).1
        have h4 : x.v 4 = .pointer (some ⟨b, o + j, none⟩) := (hk 4 (by decide)).1
        have h5 : x.v 5 = .int .i64 z := (hk 5 (by decide)).1
        have h6 : x.v 6 = .slice (some ⟨b2, o2, none⟩) n bc := (hk 6 (by decide)).1
        have h7 : x.v 7 = .int .i64 j := (hk 7 (by decide)).1
        have h8 : x.v 8 = .pointer (some ⟨b2, o2 + j, none⟩) := (hk 8 (by decide)).1
        have h9 : x.v 9 = .int .i64 q := (hk 9 (by decide)).1
        have h10 : x.v 10 = .int .i64 (z + q) := (hk 10 (by decide)).1
        have h11 : x.v 11 = .int .i64 ((z + q) % p) := (hk 11 (by decide)).1
        clear hk
        simp only [netAct, dstAt, List.getElem?_toArray, List.getElem?_cons_zero, List.getElem?_cons_succ, Option.bind_some, Act.put, List.setIfInBounds_toArray, List.set_cons_zero, List.set_cons_succ] at hQ ⊢
        simp only [h1, h2, h3, h4, h5, h6, h7, h8, h9, h10, h11] at hQ ⊢
        clear h1 h2 h3 h4 h5 h6 h7 h8 h9 h10 h11
        go_wp2
        exact hQ (.slice (some ⟨w.heap.size, 0, none⟩) 1 1) _ (below_alloc _ _) ⟨_, rfl, SlI.one _ _ _ (by simp only [I64]; omega)⟩
      · intro x w hb hk hiv hdj
        have h0 : x.v 0 = .slice OB (rowF j (adF p f g)).length ob := hk 0 (by decide)
        have h1 : x.v 1 = .int .i64 p := hk 1 (by decide)
        have h2 : x.v 2 = .slice (some ⟨b, o, none⟩) n ac := hk 2 (by decide)
        have h3 : x.v 3 = .int .i64 j := hk 3 (by decide)
        have h4 : x.v 4 = .pointer (some ⟨b, o + j, none⟩) := hk 4 (by decide)
        have h5 : x.v 5 = .int .i64 z := hk 5 (by decide)
        have h6 : x.v 6 = .slice (some ⟨b2, o2, none⟩) n bc := hk 6 (by decide)
        have h7 : x.v 7 = .int .i64 j := hk 7 (by decide)
        have h8 : x.v 8 = .pointer (some ⟨b2, o2 + j, none⟩) := hk 8 (by decide)
        have h9 : x.v 9 = .int .i64 q := hk 9 (by decide)
        have h10 : x.v 10 = .int .i64 (z + q) := hk 10 (by decide)
        have h11 : x.v 11 = .int .i64 ((z + q) % p) := hk 11 (by decide)
        have h12 : ∃ g, (x.v 12) = .slice (some ⟨g, 0, none⟩) 1 1 ∧ SlI w w.heap.size (x.v 12) [(z + q) % p] := hk 12 (by decide)
        clear hk
        simp only [netAct, dstAt, List.getElem?_toArray, List.getElem?_cons_zero, List.getElem?_cons_succ, Option.bind_some, Act.put, List.setIfInBounds_toArray, List.set_cons_zero, List.set_cons_succ]
        simp only [List.drop_succ_cons, List.drop_zero, h0, h1, h2, h3, h4, h5, h6, h7, h8, h9, h10, h11]
        clear h0 h1 h2 h3 h4 h5 h6 h7 h8 h9 h10 h11
        obtain ⟨gg, e11, hs11⟩ := h12
        rw [e11] at hs11 ⊢
        have ho2 := ho.below hb
        have hlo := ho2.lt
        have hbs := hb.size
        clear hiv hdj e11 ho
        refine wpList_appI (by rfl) (.tmp 35) (.tmp 47) (by rfl) w0.heap.size w.heap.size _ _ (by rfl) ho2 _ 1 1 [(z + q) % p] (by rfl) rfl hs11 (by rw [rowF_length]; simp; omega) (by omega) ?_
        intro v' w' h1 h2 h3
        rw [← HSN.out] at h1
        have G2 := Lib.hid ((gW.trans (hb.mono gs)).trans (below_grown h2 (fun k hk => (hlo k hk).1) (by omega)))
        have H1 := Lib.hid h1
        clear h1 h2 h3 hlo ho2 hs11 hb gW
        go_wp2
        go_roundw
        case rel => exact ⟨j + 1, by omega, by go_num, H1.out, G2.out⟩
        case measure => simp [intOf]; omega
    · obtain rfl : j = n := by omega
      have HO := Lib.hid ho
      clear ho
      go_wp2
      go_ret2
      exact ⟨_, rfl, IntsO.of_own HO.out, gW⟩

end Go.Proofs.Ytjhllgldllbaaaa

/- The reference's ScaleMatrix. -/
namespace Go.Proofs.Ytjhllgldllbaaaa
set_option linter.unusedVariables false
set_option linter.unusedSimpArgs false
open Go.RowKit
/-- a valid matrix told by entries -/
theorem isMat_mxF {p : Int} {r c : Nat} {f : Nat → Nat → Int} (hp : isFld p = true) (hr : r ≤ 8) (hc : c ≤ 8) (hf : ∀ i j, i < r → j < c → 0 ≤ f i j ∧ f i j ≤ p - 1) : isMat p (mxF r c f) = true := by
  rw [isMat_t]
  refine ⟨by simp only [mxF]; omega, by simp only [mxF]; omega, by simp [mxF, flat_length], isVec_t.2 ⟨hp, ?_, fun x hx => ?_⟩⟩
  · simp only [mxF, flat_length]
    exact Nat.mul_le_mul hr hc
  · obtain ⟨i, j, hi, hj, rfl⟩ := flat_mem hx
    exact hf i j hi hj
def scM (p k : Int) (f : Nat → Nat → Int) (i j : Nat) : Int := (k % p * f i j) % p
def adM (p : Int) (f g : Nat → Nat → Int) (i j : Nat) : Int := (f i j + g i j) % p
set_option maxHeartbeats 1600000 in
theorem scaleMatrix_any (p k : Int) (u : Value) (r c : Nat) (f : Nat → Nat → Int) (w0 : World) (hk : I64 k) (hu : MxR w0 w0.heap.size u (mxF r c f)) (hM : isMat p (mxF r c f) = true) :
    Calls Try.prog 173 #[.int .i64 p, .int .i64 k, u] w0 fun e w' => ∃ v, e = .returned (.tuple #[v, .bool true]) ∧ MxO w' w0.heap.size w'.heap.size v (mxF r c (scM p k f)) ∧ Below w0.heap.size w0 w' := by
  have hu' := hu
  obtain ⟨U, uc, rfl, hs, i1, i2, _⟩ := hu.open_
  have hV := (isMat_t.1 hM).2.2.2
  have HV : Hid (isVec p (rowF (r * c) fun j => f (j / c) (j % c)) = true) := hV
  have HS := hs
  have z1 : (mxF r c f).r = (r : Int) := rfl
  have z2 : (mxF r c f).c = (c : Int) := rfl
  have z5 : (mxF r c f).a = rowF (r * c) fun j => f (j / c) (j % c) := rfl
  rw [z1] at i1
  rw [z2] at i2
  have HM := Lib.hid hM
  rw [z5] at hs
  obtain ⟨N, hN⟩ : ∃ N, (mxF r c f).a.length = N := ⟨_, rfl⟩
  rw [← z5, hN, z5] at hs
  rw [hN, z1, z2] at hu' ⊢
  clear hu hV hM z1 z2 z5 hN HS
  obtain ⟨W, hW⟩ : ∃ W, W = (w0.alloc (.cells #[.int .i64 r, .int .i64 c, .slice U N uc] 75)).alloc (.cells #[.int .i64 0, .int .i64 0, .slice none 0 0] 75) := ⟨_, rfl⟩
  have g0 : Below w0.heap.size w0 W := by rw [hW]; exact ((Below.refl _ _).alloc (Nat.le_refl _) _).alloc (by simp) _
  have k1 : Blk W w0.heap.size 75 #[.int .i64 r, .int .i64 c, .slice U N uc] := by rw [hW]; exact (Blk.new _ _ _).alloc _
  have k2 : Blk W (w0.heap.size + 1) 75 #[.int .i64 0, .int .i64 0, .slice none 0 0] := by
    rw [hW]
    have := Blk.new (w0.alloc (.cells #[.int .i64 r, .int .i64 c, .slice U N uc] 75)) 75 #[.int .i64 0, .int .i64 0, .slice none 0 0]
    simpa only [World.size_alloc] using this
  have sz : W.heap.size = w0.heap.size + 1 + 1 := by rw [hW]; simp
  have HU := Lib.hid (MxR.next g0 hu')
  have HSS := Lib.hid (SlI.next g0 hs)
  have SZ := Lib.hid sz
  have G0 := Lib.hid g0
  clear sz hu' hs g0
  go_enter Try.func173, Try.ntmps173
  go_wp2_with fail
  rw [← hW]; clear hW
  refine (specIsMatrix_any p _ (mxF r c f) W HU.out).mono ?_; rintro e w1 ⟨rfl, hb1⟩
  rw [HM.out]
  replace k1 := k1.call hb1
  replace k2 := k2.call hb1
  have hs1 := SlI.next hb1 HSS.out
  have hw1 := hb1.size
  have gW := hb1
  have c2 := k1.cell' (i := 2) rfl
  clear hb1
  go_wp2_with fail
  refine (scaleVector_any p k _ (r * c) _ _ hk hs1 HV.out).mono ?_; rintro e wr ⟨v, rfl, hO, hb1⟩
  replace k1 := k1.call hb1
  replace k2 := k2.call hb1
  have hws := hb1.size
  replace gW := bthen gW hb1
  obtain ⟨A1, c1, rfl⟩ := hO.form
  have hO2 : IntsO wr w1.heap.size wr.heap.size (.slice A1 (rowF (r * c) (scF p k fun j => f (j / c) (j % c))).length c1) (mxF r c (scM p k f)).a := hO
  obtain ⟨N1, hN1⟩ : ∃ N, (rowF (r * c) (scF p k fun j => f (j / c) (j % c))).length = N := ⟨_, rfl⟩
  rw [hN1] at hO2 ⊢
  clear c2 hb1 hs1 hO hN1
  have z0 := k1.cell' (i := 0) rfl
  have z1 := k1.cell' (i := 1) rfl
  have p0 := k2.cell' (i := 0) rfl
  have p1 := k2.cell' (i := 1) rfl
  have p2 := k2.cell' (i := 2) rfl
  have f2 := k2.frozen
  have h2 := chg3 wr (w0.heap.size + 1) (.int .i64 (r : Int)) (.int .i64 c) (.slice A1 N1 c1)
  have gw : Below w0.heap.size w0 wr := (G0.out).trans (gW.mono (G0.out).size)
  have gs := gw.size
  have sz := SZ.out
  have hl1 := k1.lt
  have gW1 := gW.size
  have oA2 := (hO2.chg h2 (.inr (by omega))).wider (lo' := w0.heap.size) (hi' := wr.heap.size) (by omega) (Nat.le_refl _)
  have fg := gw.trans (h2.below (by omega) gs)
  have OA2 := Lib.hid oA2
  have FG := Lib.hid fg
  clear hO2 oA2 fg gw h2 k2 k1 gW sz
  go_wp2
  exact bodyPost_ret (v := .tuple #[.agg #[.int .i64 (r : Int), .int .i64 c, .slice A1 N1 c1], .bool true]) (by simp [results, go_sem, p0, p1, p2]) rfl ⟨_, rfl, ⟨_, rfl, (OA2.out).wider (Nat.le_refl _) (by simp), i1, i2⟩, FG.out⟩
end Go.Proofs.Ytjhllgldllbaaaa

/- Ranks: the reference's RowReduce and RankOf, of valid matrices. -/
namespace Go.Proofs.Ytjhllgldllbaaaa
set_option linter.unusedVariables false
set_option linter.unusedSimpArgs false
open Go.RowKit

theorem slOne {w : World} {g : Nat} {x : Int} (hk : Blk w g 3 #[.int .i64 x]) (hx : I64 x) : SlI w w.heap.size (.slice (some ⟨g, 0, none⟩) 1 1) [x] := by
  refine ⟨_, 1, rfl, by simp, by omega, by simp, fun _ => ⟨g, 0, rfl, hk.lt, fun j y hj => ?_⟩⟩
  match j, hj with
  | 0, hj =>
    simp at hj; subst hj
    exact ⟨by rw [hk.cell]; rfl, hx⟩
  | j + 1, hj => simp at hj
set_option maxHeartbeats 1600000 in
set_option maxRecDepth 100000 in
theorem rowReduce_yes (p : Int) (u : Value) (r c : Nat) (f : Nat → Nat → Int) (w0 : World) (hp : isFld p = true) (hr : r ≤ 8) (hc : c ≤ 8) (hu : MxR w0 w0.heap.size u (mxF r c f)) (hf : InF p r c f) :
    Calls Try.prog 175 #[.int .i64 p, u] w0 fun e w' => ∃ m v, e = .returned (.tuple #[m, v, .bool true]) ∧ MxO w' w0.heap.size w'.heap.size m (mxF r c (rdTo p r f c).1) ∧ IntsO w' w0.heap.size w'.heap.size v (rdTo p r f c).2 ∧ Below w0.heap.size w0 w' := by
  have hu' := hu
  have hmat := isMat_mxF hp hr hc hf
  obtain ⟨UA, uc, rfl⟩ := hu.form
  simp only [mxF] at hu hu' ⊢
  rw [flat_length] at hu hu' ⊢
  obtain ⟨UL, hUL⟩ : ∃ n, r * c = n := ⟨_, rfl⟩
  rw [hUL] at hu hu' ⊢
  clear hUL hu
  obtain ⟨W, hW⟩ : ∃ W, W = (w0.alloc (.cells #[.int .i64 r, .int .i64 c, .slice UA UL uc] 75)).alloc (.cells #[.int .i64 0, .int .i64 0, .slice none 0 0] 75) := ⟨_, rfl⟩
  have g0 : Below w0.heap.size w0 W := by rw [hW]; exact ((Below.refl _ _).alloc (Nat.le_refl _) _).alloc (by simp) _
  have kB : Blk W w0.heap.size 75 #[.int .i64 r, .int .i64 c, .slice UA UL uc] := by rw [hW]; exact (Blk.new _ _ _).alloc _
  have kR : Blk W (w0.heap.size + 1) 75 #[.int .i64 0, .int .i64 0, .slice none 0 0] := by
    rw [hW]
    have := Blk.new (w0.alloc (.cells #[.int .i64 r, .int .i64 c, .slice UA UL uc] 75)) 75 #[.int .i64 0, .int .i64 0, .slice none 0 0]
    simpa only [World.size_alloc] using this
  have sz : W.heap.size = w0.heap.size + 1 + 1 := by rw [hW]; simp
  have SZ := Lib.hid sz
  have hU := MxR.next g0 hu'
  have HF := Lib.hid hf
  have HP := Lib.hid hp
  have HMT := Lib.hid hmat
  have c0 := kB.cell' (i := 0) rfl
  have c1 := kB.cell' (i := 1) rfl
  have c2 := kB.cell' (i := 2) rfl
  clear hu' hf hp hmat sz
  go_enter Try.func175, Try.ntmps175
  go_wp2_with fail
  rw [← hW]; clear hW
  refine (specIsMatrix_any p _ (mxF r c f) _ hU).mono ?_; rintro e w1 ⟨rfl, hb1⟩
  rw [HMT.out]
  have HU1 := Lib.hid (MxR.next hb1 hU)
  have kB1 := kB.call hb1
  have kR1 := kR.call hb1
  have g1 := bthen g0 hb1
  have s1 := hb1.size
  clear c0 c1 c2 hU kB kR g0 hb1
  have c0 := kB1.cell' (i := 0) rfl
  have c1 := kB1.cell' (i := 1) rfl
  have c2 := kB1.cell' (i := 2) rfl
  go_wp2_with fail
  refine (l4Reduce_any p _ r c f _ HP.out (by omega) (by omega) HU1.out HF.out).mono ?_; rintro e w2 ⟨m, v, rfl, hM, hI, hb2⟩
  obtain ⟨MA, mc, em⟩ := hM.form
  obtain ⟨PA, pc, ev⟩ := hI.form
  subst em ev
  simp only [mxF, flat_length] at hM ⊢
  obtain ⟨ML, hML⟩ : ∃ n, r * c = n := ⟨_, rfl⟩
  rw [hML] at hM ⊢
  have g2 := bthen g1 hb2
  have kR2 := kR1.call hb2
  have s2 := hb2.size
  obtain ⟨X, hX⟩ : ∃ X, X = w2.alloc (.cells #[.int .i64 r, .int .i64 c, .slice MA ML mc] 75) := ⟨_, rfl⟩
  have bX : Below w2.heap.size w2 X := by rw [hX]; exact below_alloc _ _
  have kX : Blk X w2.heap.size 75 #[.int .i64 r, .int .i64 c, .slice MA ML mc] := by rw [hX]; exact Blk.new _ _ _
  have kRX := kR2.call bX
  have gX := bthen g2 bX
  have sX := bX.size
  have fr := kRX.frozen
  have p0 := kRX.cell' (i := 0) rfl
  have p1 := kRX.cell' (i := 1) rfl
  have p2 := kRX.cell' (i := 2) rfl
  have d0 := kX.cell' (i := 0) rfl
  have d1 := kX.cell' (i := 1) rfl
  have d2 := kX.cell' (i := 2) rfl
  have sz := SZ.out
  have hc3 := chg3 X (w0.heap.size + 1) (.int .i64 (r : Int)) (.int .i64 c) (.slice MA ML mc)
  have hMX := hM.below bX
  have hIX := hI.below bX
  have OM := Lib.hid ((hMX.chg hc3 (.inr (by omega))).wider (lo' := w0.heap.size) (hi' := X.heap.size) (by omega) (by omega))
  have OI := Lib.hid ((hIX.chg hc3 (.inr (by omega))).wider (lo' := w0.heap.size) (hi' := X.heap.size) (by omega) (by omega))
  have GF := Lib.hid (gX.trans (hc3.below (by omega) gX.size))
  rw [hX] at fr p0 p1 p2 d0 d1 d2
  clear hM hI hMX hIX hc3 gX kRX kX bX kR2 g2 hb2 kR1 g1 s1 s2 sX c0 c1 c2 kB1 sz
  go_wp2
  rw [← hX]
  rw [← hX] at p0 p1 p2
  exact bodyPost_ret (v := .tuple #[.agg #[.int .i64 (r : Int), .int .i64 c, .slice MA ML mc], .slice PA (rdTo p r f c).2.length pc, .bool true]) (by simp [results, go_sem, p0, p1, p2]) rfl ⟨_, _, rfl, MxO.wider OM.out (Nat.le_refl _) (by simp), IntsO.wider OI.out (Nat.le_refl _) (by simp), GF.out⟩

set_option maxHeartbeats 1600000 in
set_option maxRecDepth 100000 in
theorem rankOf_yes (p : Int) (u : Value) (r c : Nat) (f : Nat → Nat → Int) (w0 : World) (hp : isFld p = true) (hr : r ≤ 8) (hc : c ≤ 8) (hu : MxR w0 w0.heap.size u (mxF r c f)) (hf : InF p r c f) :
    Calls Try.prog 111 #[.int .i64 p, u] w0 fun e w' => e = .returned (.int .i64 (rkF p r c f : Int)) ∧ Below w0.heap.size w0 w' := by
  have hu' := hu
  obtain ⟨UA, uc, rfl⟩ := hu.form
  simp only [mxF] at hu hu' ⊢
  rw [flat_length] at hu hu' ⊢
  obtain ⟨UL, hUL⟩ : ∃ n, r * c = n := ⟨_, rfl⟩
  rw [hUL] at hu hu' ⊢
  clear hUL hu
  obtain ⟨W, hW⟩ : ∃ W, W = w0.alloc (.cells #[.int .i64 r, .int .i64 c, .slice UA UL uc] 75) := ⟨_, rfl⟩
  have g0 : Below w0.heap.size w0 W := by rw [hW]; exact below_alloc _ _
  have kB : Blk W w0.heap.size 75 #[.int .i64 r, .int .i64 c, .slice UA UL uc] := by rw [hW]; exact Blk.new _ _ _
  have HU := Lib.hid (MxR.next g0 hu')
  have HF := Lib.hid hf
  have HP := Lib.hid hp
  have c0 := kB.cell' (i := 0) rfl
  have c1 := kB.cell' (i := 1) rfl
  have c2 := kB.cell' (i := 2) rfl
  clear hu' hf hp kB
  go_enter Try.func111, Try.ntmps111
  go_wp2_with fail
  rw [← hW]; clear hW
  refine (rowReduce_yes p _ r c f _ HP.out hr hc HU.out HF.out).mono ?_; rintro e w1 ⟨m, v, rfl, hM, hI, hb1⟩
  obtain ⟨MA, mc, em⟩ := hM.form
  obtain ⟨PA, pc, ev⟩ := hI.form
  subst em ev
  have g1 := bthen g0 hb1
  simp only [mxF]
  obtain ⟨rk, hrk⟩ : ∃ rk, rkF p r c f = rk := ⟨_, rfl⟩
  have hrk2 := hrk
  unfold rkF at hrk2
  rw [hrk2]
  have HRK := Lib.hid hrk
  clear hM hI hb1 g0 c0 c1 c2 hrk hrk2
  go_wp2
  go_ret
  exact ⟨by rw [HRK.out]; rfl, g1.alloc g1.size _⟩
end Go.Proofs.Ytjhllgldllbaaaa

/- Dimensions and representations: the tests of both sides. -/
namespace Go.Proofs.Ytjhllgldllbaaaa
set_option linter.unusedVariables false
set_option linter.unusedSimpArgs false
open Go.RowKit

theorem sumW_dims {d : List Int} (h : ∀ x ∈ d, 0 ≤ x ∧ x ≤ 4) (hl : d.length ≤ 5) : sumW d = d.sum ∧ 0 ≤ d.sum ∧ d.sum ≤ 20 := by
  obtain ⟨h1, h2, h3⟩ := sumW_small d 0 4 (by omega) (by omega) h (by omega) (by omega)
  exact ⟨h1, by omega, by omega⟩
theorem sum_bd : ∀ (l : List Int), (∀ x ∈ l, 0 ≤ x ∧ x ≤ 4) → 0 ≤ l.sum ∧ l.sum ≤ 4 * l.length
  | [], _ => by simp
  | a :: l, h => by
    have := sum_bd l (fun x hx => h x (by simp [hx]))
    have := h a (by simp)
    simp only [List.sum_cons, List.length_cons]
    omega
theorem sum_take_le (d : List Int) (k : Nat) (h : ∀ x ∈ d.take k, 0 ≤ x ∧ x ≤ 4) : 0 ≤ (d.take k).sum ∧ (d.take k).sum ≤ 4 * k := by
  have h1 := sum_bd _ h
  have h2 : (d.take k).length ≤ k := List.length_take_le _ _
  omega

set_option maxHeartbeats 800000 in
theorem implAreDims_any (u xv : Value) (q : Qv) (d : List Int) (w : World) (hu : QvR w w.heap.size u q) (hx : SlI w w.heap.size xv d) :
    Calls Try.prog 181 #[u, xv] w fun e w' => e = .returned (.bool (areDims q d)) ∧ Below w.heap.size w w' := by
  obtain ⟨A, c, C, d', eu⟩ := hu.form
  subst eu
  have lx := hx
  obtain ⟨XA, xc, rfl, _, _, lx, _⟩ := lx.open_
  obtain ⟨W, hW⟩ : ∃ W, W = w.alloc (.cells #[.int .i64 q.v, .slice A q.f.length c, .slice C q.t.length d'] 26) := ⟨_, rfl⟩
  have g0 : Below w.heap.size w W := by rw [hW]; exact below_alloc _ _
  have kB : Blk W w.heap.size 26 #[.int .i64 q.v, .slice A q.f.length c, .slice C q.t.length d'] := by rw [hW]; exact Blk.new _ _ _
  have c0 := kB.cell' (i := 0) rfl
  have c1 := kB.cell' (i := 1) rfl
  have c2 := kB.cell' (i := 2) rfl
  replace hu := QvR.next g0 hu
  replace hx := SlI.next g0 hx
  unfold areDims
  rcases hq : isQ q with _ | _
  · go_enter Try.func181, Try.ntmps181
    go_wp2_with fail
    rw [← hW]; clear hW
    refine (implIsQuiver_any _ _ _ hu).mono ?_; rintro e w1 ⟨rfl, hb1⟩
    rw [hq]
    clear hu
    replace g0 := bthen g0 hb1
    replace hx := SlI.next hb1 hx
    replace kB := kB.call hb1
    replace c0 := kB.cell' (i := 0) rfl
    replace c1 := kB.cell' (i := 1) rfl
    replace c2 := kB.cell' (i := 2) rfl
    clear hb1
    go_wp2
    go_ret
    exact ⟨rfl, g0⟩
  obtain ⟨hv1, hv2⟩ := (isQ_t.1 hq).1
  rcases h2 : decide ((d.length : Int) = q.v) with _ | _
  · have e2 : ((d.length : Int) == q.v) = false := by rw [beq_eq_false_iff_ne]; exact of_decide_eq_false h2
    clear h2
    go_enter Try.func181, Try.ntmps181
    go_wp2_with fail
    rw [← hW]; clear hW
    refine (implIsQuiver_any _ _ _ hu).mono ?_; rintro e w1 ⟨rfl, hb1⟩
    rw [hq]
    clear hu
    replace g0 := bthen g0 hb1
    replace hx := SlI.next hb1 hx
    replace kB := kB.call hb1
    replace c0 := kB.cell' (i := 0) rfl
    replace c1 := kB.cell' (i := 1) rfl
    replace c2 := kB.cell' (i := 2) rfl
    clear hb1
    go_wp2
    go_ret
    exact ⟨rfl, g0⟩
  have e2 : ((d.length : Int) == q.v) = true := by rw [beq_iff_eq]; exact of_decide_eq_true h2
  have hl5 : d.length ≤ 5 := by have := of_decide_eq_true h2; omega
  clear h2
  rcases h3 : allR d 0 4 with _ | _
  · have H3 := Lib.hid h3
    clear h3
    go_enter Try.func181, Try.ntmps181
    go_wp2_with fail
    rw [← hW]; clear hW
    refine (implIsQuiver_any _ _ _ hu).mono ?_; rintro e w1 ⟨rfl, hb1⟩
    rw [hq]
    clear hu
    replace g0 := bthen g0 hb1
    replace hx := SlI.next hb1 hx
    replace kB := kB.call hb1
    replace c0 := kB.cell' (i := 0) rfl
    replace c1 := kB.cell' (i := 1) rfl
    replace c2 := kB.cell' (i := 2) rfl
    clear hb1
    go_wp2_with fail
    refine (allWithin_any _ d _ _ _ hx).mono ?_; rintro e w_1 ⟨rfl, hb_1⟩
    replace g0 := bthen g0 hb_1
    replace hx := SlI.next hb_1 hx
    replace kB := kB.call hb_1
    replace c0 := kB.cell' (i := 0) rfl
    replace c1 := kB.cell' (i := 1) rfl
    replace c2 := kB.cell' (i := 2) rfl
    rw [H3.out]
    go_wp2
    go_ret
    exact ⟨rfl, g0⟩
  obtain ⟨s1, s2, s3⟩ := sumW_dims (allR_t.1 h3) hl5
  have H3 := Lib.hid h3
  have H1 := Lib.hid s1
  clear h3 s1
  obtain ⟨s, hs⟩ : ∃ s, d.sum = s := ⟨_, rfl⟩
  rw [hs] at H1 s2 s3 ⊢
  clear hs
  go_enter Try.func181, Try.ntmps181
  go_wp2_with fail
  rw [← hW]; clear hW
  refine (implIsQuiver_any _ _ _ hu).mono ?_; rintro e w1 ⟨rfl, hb1⟩
  rw [hq]
  clear hu
  replace g0 := bthen g0 hb1
  replace hx := SlI.next hb1 hx
  replace kB := kB.call hb1
  replace c0 := kB.cell' (i := 0) rfl
  replace c1 := kB.cell' (i := 1) rfl
  replace c2 := kB.cell' (i := 2) rfl
  clear hb1
  go_wp2_with fail
  refine (allWithin_any _ d _ _ _ hx).mono ?_; rintro e w_2 ⟨rfl, hb_2⟩
  replace g0 := bthen g0 hb_2
  replace hx := SlI.next hb_2 hx
  replace kB := kB.call hb_2
  replace c0 := kB.cell' (i := 0) rfl
  replace c1 := kB.cell' (i := 1) rfl
  replace c2 := kB.cell' (i := 2) rfl
  rw [H3.out]
  go_wp2_with fail
  refine (sumOf_any _ d _ hx).mono ?_; rintro e w2 ⟨rfl, rfl⟩
  rw [H1.out]
  go_wp2
  go_ret
  exact ⟨by simp, g0⟩

set_option maxHeartbeats 800000 in
theorem specAreDims_any (u xv : Value) (q : Qv) (d : List Int) (w : World) (hu : QvR w w.heap.size u q) (hx : SlI w w.heap.size xv d) :
    Calls Try.prog 179 #[u, xv] w fun e w' => e = .returned (.bool (areDims q d)) ∧ Below w.heap.size w w' := by
  obtain ⟨A, c, C, d', eu⟩ := hu.form
  subst eu
  have lx := hx
  obtain ⟨XA, xc, rfl, _, _, lx, _⟩ := lx.open_
  obtain ⟨W, hW⟩ : ∃ W, W = w.alloc (.cells #[.int .i64 q.v, .slice A q.f.length c, .slice C q.t.length d'] 26) := ⟨_, rfl⟩
  have g0 : Below w.heap.size w W := by rw [hW]; exact below_alloc _ _
  have kB : Blk W w.heap.size 26 #[.int .i64 q.v, .slice A q.f.length c, .slice C q.t.length d'] := by rw [hW]; exact Blk.new _ _ _
  have c0 := kB.cell' (i := 0) rfl
  have c1 := kB.cell' (i := 1) rfl
  have c2 := kB.cell' (i := 2) rfl
  replace hu := QvR.next g0 hu
  replace hx := SlI.next g0 hx
  unfold areDims
  rcases hq : isQ q with _ | _
  · go_enter Try.func179, Try.ntmps179
    go_wp2_with fail
    rw [← hW]; clear hW
    refine (specIsQuiver_any _ _ _ hu).mono ?_; rintro e w1 ⟨rfl, hb1⟩
    rw [hq]
    clear hu
    replace g0 := bthen g0 hb1
    replace hx := SlI.next hb1 hx
    replace kB := kB.call hb1
    replace c0 := kB.cell' (i := 0) rfl
    replace c1 := kB.cell' (i := 1) rfl
    replace c2 := kB.cell' (i := 2) rfl
    clear hb1
    go_wp2
    go_ret
    exact ⟨rfl, g0⟩
  obtain ⟨hv1, hv2⟩ := (isQ_t.1 hq).1
  rcases h2 : decide ((d.length : Int) = q.v) with _ | _
  · have e2 : ((d.length : Int) != q.v) = true := by rw [bne_iff_ne]; exact of_decide_eq_false h2
    clear h2
    go_enter Try.func179, Try.ntmps179
    go_wp2_with fail
    rw [← hW]; clear hW
    refine (specIsQuiver_any _ _ _ hu).mono ?_; rintro e w1 ⟨rfl, hb1⟩
    rw [hq]
    clear hu
    replace g0 := bthen g0 hb1
    replace hx := SlI.next hb1 hx
    replace kB := kB.call hb1
    replace c0 := kB.cell' (i := 0) rfl
    replace c1 := kB.cell' (i := 1) rfl
    replace c2 := kB.cell' (i := 2) rfl
    clear hb1
    go_wp2
    go_ret
    exact ⟨rfl, g0⟩
  have e2 : ((d.length : Int) != q.v) = false := by rw [bne_eq_false_iff_eq]; exact of_decide_eq_true h2
  have hl5 : d.length ≤ 5 := by have := of_decide_eq_true h2; omega
  clear h2
  go_enter Try.func179, Try.ntmps179
  go_wp2_with fail
  rw [← hW]; clear hW
  refine (specIsQuiver_any _ _ _ hu).mono ?_; rintro e w1 ⟨rfl, hb1⟩
  rw [hq]
  clear hu
  replace g0 := bthen g0 hb1
  replace hx := SlI.next hb1 hx
  replace kB := kB.call hb1
  replace c0 := kB.cell' (i := 0) rfl
  replace c1 := kB.cell' (i := 1) rfl
  replace c2 := kB.cell' (i := 2) rfl
  clear hb1
  go_wp2
  go_loopw [5, 6] (fun n i wr => ∃ k : Nat, k ≤ d.length ∧ i = .int .i64 k ∧ n = .int .i64 (d.take k).sum ∧ wr = w1 ∧ Hid (∀ x ∈ d.take k, inR x 0 4 = true)) (fun _ i _ => d.length - (intOf i).toNat)
  case atStart => exact ⟨0, Nat.zero_le _, rfl, by simp, rfl, by show ∀ x ∈ _, _; simp⟩
  case round =>
    obtain ⟨k, hk, rfl, rfl, rfl, hall⟩ := hrel
    have hsm := sum_take_le d k (fun x hx => inR_t.1 (hall.out x hx))
    obtain ⟨hs1, hs2⟩ := hsm
    obtain ⟨s, hs⟩ : ∃ s, (d.take k).sum = s := ⟨_, rfl⟩
    rw [hs] at hs1 hs2 ⊢
    have HS := Lib.hid hs
    clear hs
    by_cases hlt : k < d.length
    · obtain ⟨b, o, x, rfl, hb, HX, x1, _⟩ := SlI.at_ hx hlt
      clear hx
      rcases h3 : inR x 0 4 with _ | _
      · have HF := Lib.hid (allR_bad HX.out h3)
        have H3 := Lib.hid h3
        clear h3
        go_wp2_with fail
        refine (l1In_any _ _ _ _).mono ?_; rintro e w' ⟨rfl, rfl⟩
        rw [H3.out]
        go_wp2
        go_ret
        exact ⟨by rw [HF.out]; rfl, g0⟩
      · have HT := Lib.hid (allR_step hall.out HX.out h3)
        have HSU := Lib.hid (show (d.take (k + 1)).sum = s + x by rw [take_snoc HX.out, List.sum_append, HS.out]; simp)
        obtain ⟨x3, x4⟩ := inR_t.1 h3
        have H3 := Lib.hid h3
        clear h3
        go_wp2_with fail
        refine (l1In_any _ _ _ _).mono ?_; rintro e w' ⟨rfl, rfl⟩
        rw [H3.out]
        go_wp2
        go_roundw
        case rel => exact ⟨k + 1, by omega, by go_num, by rw [HSU.out], trivial, HT.out⟩
        case measure => simp [intOf]; omega
    · have HF := Lib.hid (allR_end hall.out (by omega))
      have HE := Lib.hid (show d.sum = s by rw [← HS.out, List.take_of_length_le (by omega)])
      go_wp2
      go_ret
      exact ⟨by rw [HF.out, HE.out]; simp, g0⟩

/-! ### representations -/
def dAt (d : List Int) (v : Int) : Int := d.getD v.toNat 0
def okM (x : Rp) (m : Mx) (f t : Int) : Bool := isMat x.p m && decide (m.c = dAt x.d f) && decide (m.r = dAt x.d t)
def okMs (x : Rp) (k : Nat) : Bool := (List.range k).all fun i => okM x (x.m.getD i ⟨0, 0, []⟩) (x.q.f.getD i 0) (x.q.t.getD i 0)
def isRep (x : Rp) : Bool := isFld x.p && areDims x.q x.d && decide (x.m.length = x.q.f.length) && okMs x x.m.length
theorem okMs_succ {x : Rp} {k : Nat} {m : Mx} {f t : Int} (hm : x.m[k]? = some m) (hf : x.q.f[k]? = some f) (ht : x.q.t[k]? = some t) : okMs x (k + 1) = (okMs x k && okM x m f t) := by
  simp [okMs, List.range_succ, List.getD_eq_getElem?_getD, hm, hf, ht]
theorem okMs_mono {x : Rp} {k n : Nat} (h : okMs x k = false) (hk : k ≤ n) : okMs x n = false := by
  simp only [okMs, List.all_eq_false, List.mem_range] at h ⊢
  obtain ⟨i, hi, h⟩ := h
  exact ⟨i, by omega, h⟩
theorem dAt_of {d : List Int} {n : Nat} {y : Int} (h : d[n]? = some y) : dAt d (n : Int) = y := by
  simp [dAt, List.getD_eq_getElem?_getD, h]
/-- what a round of IsRep meets -/
theorem rep_at {x : Rp} (hq : areDims x.q x.d = true) {k : Nat} (hk : k < x.q.f.length) : ∃ (nf nt : Nat) (yf yt : Int), x.q.f[k]? = some (nf : Int) ∧ x.q.t[k]? = some (nt : Int) ∧ x.d[nf]? = some yf ∧ x.d[nt]? = some yt ∧ nf < x.d.length ∧ nt < x.d.length ∧ nf ≤ 5 ∧ nt ≤ 5 ∧ k < x.q.t.length := by
  obtain ⟨h1, h2, h3, h4⟩ := areDims_t.1 hq
  obtain ⟨hv, hl, h6, hf, ht⟩ := isQ_t.1 h1
  have ef := List.getElem?_eq_getElem hk
  have et := List.getElem?_eq_getElem (show k < x.q.t.length by omega)
  have bf := hf _ (List.mem_of_getElem? ef)
  have bt := ht _ (List.mem_of_getElem? et)
  obtain ⟨nf, enf⟩ := Int.eq_ofNat_of_zero_le bf.1
  obtain ⟨nt, ent⟩ := Int.eq_ofNat_of_zero_le bt.1
  rw [enf] at ef bf
  rw [ent] at et bt
  exact ⟨nf, nt, x.d[nf]'(by omega), x.d[nt]'(by omega), ef, et, List.getElem?_eq_getElem _, List.getElem?_eq_getElem _, by omega, by omega, by omega, by omega, by omega⟩
end Go.Proofs.Ytjhllgldllbaaaa

/- The two IsRep. -/
namespace Go.Proofs.Ytjhllgldllbaaaa
set_option linter.unusedVariables false
set_option linter.unusedSimpArgs false
open Go.RowKit

theorem QvR.sl {w : World} {B n m a c : Nat} {v : Int} {A C : Option Addr} {q : Qv} (h : QvR w B (.agg #[.int .i64 v, .slice A n a, .slice C m c]) q) : SlI w B (.slice A n a) q.f ∧ SlI w B (.slice C m c) q.t := by
  obtain ⟨s, t, e, h1, h2, _⟩ := h
  simp only [Value.agg.injEq, Array.mk.injEq, List.cons.injEq, and_true] at e
  obtain ⟨_, rfl, rfl⟩ := e
  exact ⟨h1, h2⟩


set_option maxHeartbeats 3200000 in
set_option maxRecDepth 100000 in
theorem implIsRep_any (u : Value) (x : Rp) (w : World) (hu : RpR w w.heap.size u x) :
    Calls Try.prog 117 #[u] w fun e w' => e = .returned (.bool (isRep x)) ∧ Below w.heap.size w w' := by
  obtain ⟨A, a, C, c, E, e, H, h, rfl, hq, hd, hm, hp, ld, lm⟩ := hu.open_
  clear hu
  obtain ⟨W, hW⟩ : ∃ W, W = w.alloc (.cells #[.int .i64 x.p, .int .i64 x.q.v, .slice A x.q.f.length a, .slice C x.q.t.length c, .slice E x.d.length e, .slice H x.m.length h] 29) := ⟨_, rfl⟩
  have g0 : Below w.heap.size w W := by rw [hW]; exact below_alloc _ _
  have kB : Blk W w.heap.size 29 #[.int .i64 x.p, .int .i64 x.q.v, .slice A x.q.f.length a, .slice C x.q.t.length c, .slice E x.d.length e, .slice H x.m.length h] := by rw [hW]; exact Blk.new _ _ _
  have c0 := kB.cell' (i := 0) rfl
  have c1 := kB.cell' (i := 1) rfl
  have c2 := kB.cell' (i := 2) rfl
  have c3 := kB.cell' (i := 3) rfl
  have c4 := kB.cell' (i := 4) rfl
  have c5 := kB.cell' (i := 5) rfl
  replace hq := QvR.next g0 hq
  replace hd := SlI.next g0 hd
  replace hm := SlM.next g0 hm
  unfold isRep
  rcases h1 : isFld x.p with _ | _
  · go_enter Try.func117, Try.ntmps117
    go_wp2_with fail
    rw [← hW]; clear hW
    refine (implIsField_any _ _).mono ?_; rintro e w1 ⟨rfl, rfl⟩
    rw [h1]
    go_wp2
    go_ret
    exact ⟨rfl, g0⟩
  rcases h2 : areDims x.q x.d with _ | _
  · have H2 := Lib.hid h2
    clear h2
    go_enter Try.func117, Try.ntmps117
    go_wp2_with fail
    rw [← hW]; clear hW
    refine (implIsField_any _ _).mono ?_; rintro e w1 ⟨rfl, rfl⟩
    rw [h1]
    go_wp2_with fail
    refine (implAreDims_any _ _ _ _ _ hq hd).mono ?_; rintro e w_1 ⟨rfl, hb_1⟩
    replace g0 := bthen g0 hb_1
    replace hq := QvR.next hb_1 hq
    replace hd := SlI.next hb_1 hd
    replace hm := SlM.next hb_1 hm
    replace kB := kB.call hb_1
    replace c0 := kB.cell' (i := 0) rfl
    replace c1 := kB.cell' (i := 1) rfl
    replace c2 := kB.cell' (i := 2) rfl
    replace c3 := kB.cell' (i := 3) rfl
    replace c4 := kB.cell' (i := 4) rfl
    replace c5 := kB.cell' (i := 5) rfl
    rw [H2.out]
    go_wp2
    go_ret
    exact ⟨rfl, g0⟩
  obtain ⟨lf, lt⟩ := hq.lens
  rcases h3 : decide (x.m.length = x.q.f.length) with _ | _
  · have e3 : ((x.m.length : Int) != x.q.f.length) = true := by rw [bne_iff_ne]; have := of_decide_eq_false h3; omega
    have H2 := Lib.hid h2
    clear h2 h3
    go_enter Try.func117, Try.ntmps117
    go_wp2_with fail
    rw [← hW]; clear hW
    refine (implIsField_any _ _).mono ?_; rintro e w1 ⟨rfl, rfl⟩
    rw [h1]
    go_wp2_with fail
    refine (implAreDims_any _ _ _ _ _ hq hd).mono ?_; rintro e w_2 ⟨rfl, hb_2⟩
    replace g0 := bthen g0 hb_2
    replace hq := QvR.next hb_2 hq
    replace hd := SlI.next hb_2 hd
    replace hm := SlM.next hb_2 hm
    replace kB := kB.call hb_2
    replace c0 := kB.cell' (i := 0) rfl
    replace c1 := kB.cell' (i := 1) rfl
    replace c2 := kB.cell' (i := 2) rfl
    replace c3 := kB.cell' (i := 3) rfl
    replace c4 := kB.cell' (i := 4) rfl
    replace c5 := kB.cell' (i := 5) rfl
    rw [H2.out]
    go_wp2
    go_ret
    exact ⟨rfl, g0⟩
  have e3 : ((x.m.length : Int) != x.q.f.length) = false := by rw [bne_eq_false_iff_eq]; have := of_decide_eq_true h3; omega
  have H3 := Lib.hid (of_decide_eq_true h3)
  have H2 := Lib.hid h2
  clear h2 h3
  go_enter Try.func117, Try.ntmps117
  go_wp2_with fail
  rw [← hW]; clear hW
  refine (implIsField_any _ _).mono ?_; rintro e w1 ⟨rfl, rfl⟩
  rw [h1]
  go_wp2_with fail
  refine (implAreDims_any _ _ _ _ _ hq hd).mono ?_; rintro e W1 ⟨rfl, hb0⟩
  replace g0 := bthen g0 hb0
  replace hq := QvR.next hb0 hq
  replace hd := SlI.next hb0 hd
  replace hm := SlM.next hb0 hm
  replace kB := kB.call hb0
  replace c0 := kB.cell' (i := 0) rfl
  replace c1 := kB.cell' (i := 1) rfl
  replace c2 := kB.cell' (i := 2) rfl
  replace c3 := kB.cell' (i := 3) rfl
  replace c4 := kB.cell' (i := 4) rfl
  replace c5 := kB.cell' (i := 5) rfl
  clear hb0
  rw [H2.out]
  obtain ⟨hf, ht⟩ := hq.sl
  clear hq
  go_wp2
  go_loopw [30] (fun i wr => ∃ k : Nat, k ≤ x.m.length ∧ i = .int .i64 k ∧ Below W1.heap.size W1 wr ∧ Hid (okMs x k = true)) (fun i _ => x.m.length - (intOf i).toNat)
  case atStart => exact ⟨0, Nat.zero_le _, rfl, Below.refl _ _, rfl⟩
  case round =>
    obtain ⟨k, hk, rfl, hbel, hok⟩ := hrel
    clear c0 c1 c2 c3 c4 c5
    have z5 := (kB.call hbel).cell' (i := 5) rfl
    by_cases hlt : k < x.m.length
    · have hkf : k < x.q.f.length := by have := H3.out; omega
      obtain ⟨nf, nt, yf, yt, ef, et, df, dt, lnf, lnt, lnf5, lnt5, hkt⟩ := rep_at H2.out hkf
      obtain ⟨b, o, m, A', c', rfl, hb, HX, x1, x2, x3, hsl, i1, i2, lml⟩ := SlM.at_ hm hlt
      obtain ⟨bf, of_, xf, rfl, hbf, HXF, f1, _⟩ := SlI.at_ hf hkf
      obtain ⟨bt, ot, xt, rfl, hbt, HXT, t1, _⟩ := SlI.at_ ht hkt
      obtain ⟨bd, od, xdf, rfl, hbd, HXDF, d1, ddf⟩ := SlI.at_ hd lnf
      obtain ⟨bd', od', xdt, ebd, hbd', HXDT, d2, ddt⟩ := SlI.at_ hd lnt
      injection ebd with ebd
      injection ebd with ebd1 ebd2
      subst ebd1 ebd2
      have q1 := HXF.out
      rw [ef] at q1
      injection q1 with q1
      subst q1
      have q2 := HXT.out
      rw [et] at q2
      injection q2 with q2
      subst q2
      have hsucc := okMs_succ HX.out ef et
      rw [hok.out, Bool.true_and, okM, dAt_of HXDF.out, dAt_of HXDT.out] at hsucc
      have HSU := Lib.hid hsucc
      clear hsucc HXDF HXDT HXF HXT ef et df dt hf ht hd hm
      obtain ⟨Wx, hWx⟩ : ∃ W, W = wr.alloc (.cells #[.int .i64 m.r, .int .i64 m.c, .slice A' m.a.length c'] 75) := ⟨_, rfl⟩
      have gx : Below W1.heap.size W1 Wx := by rw [hWx]; exact hbel.trans ((below_alloc _ _).mono hbel.size)
      have kM : Blk Wx wr.heap.size 75 #[.int .i64 m.r, .int .i64 m.c, .slice A' m.a.length c'] := by rw [hWx]; exact Blk.new _ _ _
      have m0 := fun s : InB Wx => (kM.call s.below).cell' (i := 0) rfl
      have m1 := fun s : InB Wx => (kM.call s.below).cell' (i := 1) rfl
      have m2 := fun s : InB Wx => (kM.call s.below).cell' (i := 2) rfl
      have hx1 := bcell hbel hb x1
      have hx2 := bcell hbel hb x2
      have hx3 := bcell hbel hb x3
      clear kM
      have gx1 := gx.size
      have hF := InB.cell (w := Wx) (by omega) (bcell gx hbf f1)
      have hT := InB.cell (w := Wx) (by omega) (bcell gx hbt t1)
      have hD1 := InB.cell (w := Wx) (by omega) (bcell gx hbd d1)
      have hD2 := InB.cell (w := Wx) (by omega) (bcell gx hbd d2)
      have kBx := kB.call gx
      have r0 := fun s : InB Wx => (kBx.call s.below).cell' (i := 0) rfl
      have r2 := fun s : InB Wx => (kBx.call s.below).cell' (i := 2) rfl
      have r3 := fun s : InB Wx => (kBx.call s.below).cell' (i := 3) rfl
      have r4 := fun s : InB Wx => (kBx.call s.below).cell' (i := 4) rfl
      have r5 := fun s : InB Wx => (kBx.call s.below).cell' (i := 5) rfl
      have HM : Hid (∀ s : InB Wx, MxR s.val s.val.heap.size (.agg #[.int .i64 m.r, .int .i64 m.c, .slice A' m.a.length c']) m) := fun s => ⟨_, rfl, SlI.next s.below (SlI.next gx hsl), i1, i2⟩
      have g1 := bthen g0 gx
      have HGX := Lib.hid gx
      have HG1 := Lib.hid g1
      clear x1 x2 x3 f1 t1 d1 d2 hsl i1 i2 kB kBx gx g1 g0
      have a1 : (0 : Int) ≤ (k : Int) := by omega
      have a2 : (k : Int) < x.q.f.length := by omega
      have a3 : (k : Int) < x.q.t.length := by omega
      have a4 : (0 : Int) ≤ (nf : Int) := by omega
      have a5 : (nf : Int) < x.d.length := by omega
      have a6 : (0 : Int) ≤ (nt : Int) := by omega
      have a7 : (nt : Int) < x.d.length := by omega
      have a8 : (k : Int) < x.m.length := by omega
      rcases h4 : isMat x.p m with _ | _
      · have HF := Lib.hid (okMs_mono (x := x) (k := k + 1) (n := x.m.length) (by rw [HSU.out, h4]; rfl) (by omega))
        go_wp2
        rw [← hWx]; clear hWx
        (refine wp_region_inB (by kernel_rfl) (by kernel_rfl) ?_; (repeat (go_big_quiet_step ((go_at_call 182; exact InB.call (implIsMatrix_any _ _ m _ (HM.out _)))))); refine wpQuiet_nil ?_; intro w1 hw'; obtain ⟨s1, hw1⟩ := hw'; have hb1 := s1.below; rw [← hw1] at hb1; clear hw1 s1)
        go_wp2
        go_ret
        exact ⟨by rw [HF.out]; rfl, bthen HG1.out hb1⟩
      rcases h5 : decide (m.c = xdf) with _ | _
      · have HF := Lib.hid (okMs_mono (x := x) (k := k + 1) (n := x.m.length) (by rw [HSU.out, h5]; simp) (by omega))
        have e5 : (m.c != xdf) = true := by rw [bne_iff_ne]; exact of_decide_eq_false h5
        clear h5
        go_wp2
        rw [← hWx]; clear hWx
        (refine wp_region_inB (by kernel_rfl) (by kernel_rfl) ?_; (repeat (go_big_quiet_step ((go_at_call 182; exact InB.call (implIsMatrix_any _ _ m _ (HM.out _)))))); refine wpQuiet_nil ?_; intro w1 hw'; obtain ⟨s1, hw1⟩ := hw'; have hb1 := s1.below; rw [← hw1] at hb1; clear hw1 s1)
        go_wp2
        go_ret
        exact ⟨by rw [HF.out]; rfl, bthen HG1.out hb1⟩
      have e5 : (m.c != xdf) = false := by rw [bne_eq_false_iff_eq]; exact of_decide_eq_true h5
      rcases h6 : decide (m.r = xdt) with _ | _
      · have HF := Lib.hid (okMs_mono (x := x) (k := k + 1) (n := x.m.length) (by rw [HSU.out, h6]; simp) (by omega))
        have e6 : (m.r != xdt) = true := by rw [bne_iff_ne]; exact of_decide_eq_false h6
        clear h5 h6
        go_wp2
        rw [← hWx]; clear hWx
        (refine wp_region_inB (by kernel_rfl) (by kernel_rfl) ?_; (repeat (go_big_quiet_step ((go_at_call 182; exact InB.call (implIsMatrix_any _ _ m _ (HM.out _)))))); refine wpQuiet_nil ?_; intro w1 hw'; obtain ⟨s1, hw1⟩ := hw'; have hb1 := s1.below; rw [← hw1] at hb1; clear hw1 s1)
        go_wp2
        go_ret
        exact ⟨by rw [HF.out]; rfl, bthen HG1.out hb1⟩
      have e6 : (m.r != xdt) = false := by rw [bne_eq_false_iff_eq]; exact of_decide_eq_true h6
      have HF := Lib.hid (show okMs x (k + 1) = true by rw [HSU.out, h4, h5, h6]; rfl)
      clear h5 h6
      go_wp2
      rw [← hWx]; clear hWx
      (refine wp_region_inB (by kernel_rfl) (by kernel_rfl) ?_; (repeat (go_big_quiet_step ((go_at_call 182; exact InB.call (implIsMatrix_any _ _ m _ (HM.out _)))))); refine wpQuiet_nil ?_; intro w1 hw'; obtain ⟨s1, hw1⟩ := hw'; have hb1 := s1.below; rw [← hw1] at hb1; clear hw1 s1)
      go_wp2
      go_roundw
      case rel => exact ⟨k + 1, by omega, by go_num, bthen HGX.out hb1, HF.out⟩
      case measure => simp [intOf]; omega
    · have HF := Lib.hid (show okMs x x.m.length = true by have := hok.out; rwa [show k = x.m.length by omega] at this)
      have g1 := bthen g0 hbel
      go_wp2
      go_ret
      exact ⟨by rw [HF.out]; rfl, g1⟩
set_option maxHeartbeats 3200000 in
set_option maxRecDepth 100000 in
theorem specIsRep_any (u : Value) (x : Rp) (w : World) (hu : RpR w w.heap.size u x) :
    Calls Try.prog 114 #[u] w fun e w' => e = .returned (.bool (isRep x)) ∧ Below w.heap.size w w' := by
  obtain ⟨A, a, C, c, E, e, H, h, rfl, hq, hd, hm, hp, ld, lm⟩ := hu.open_
  clear hu
  obtain ⟨W, hW⟩ : ∃ W, W = w.alloc (.cells #[.int .i64 x.p, .int .i64 x.q.v, .slice A x.q.f.length a, .slice C x.q.t.length c, .slice E x.d.length e, .slice H x.m.length h] 29) := ⟨_, rfl⟩
  have g0 : Below w.heap.size w W := by rw [hW]; exact below_alloc _ _
  have kB : Blk W w.heap.size 29 #[.int .i64 x.p, .int .i64 x.q.v, .slice A x.q.f.length a, .slice C x.q.t.length c, .slice E x.d.length e, .slice H x.m.length h] := by rw [hW]; exact Blk.new _ _ _
  have c0 := kB.cell' (i := 0) rfl
  have c1 := kB.cell' (i := 1) rfl
  have c2 := kB.cell' (i := 2) rfl
  have c3 := kB.cell' (i := 3) rfl
  have c4 := kB.cell' (i := 4) rfl
  have c5 := kB.cell' (i := 5) rfl
  replace hq := QvR.next g0 hq
  replace hd := SlI.next g0 hd
  replace hm := SlM.next g0 hm
  unfold isRep
  rcases h1 : isFld x.p with _ | _
  · go_enter Try.func114, Try.ntmps114
    go_wp2_with fail
    rw [← hW]; clear hW
    refine (specIsField_any _ _).mono ?_; rintro e w1 ⟨rfl, rfl⟩
    rw [h1]
    go_wp2
    go_ret
    exact ⟨rfl, g0⟩
  rcases h2 : areDims x.q x.d with _ | _
  · have H2 := Lib.hid h2
    clear h2
    go_enter Try.func114, Try.ntmps114
    go_wp2_with fail
    rw [← hW]; clear hW
    refine (specIsField_any _ _).mono ?_; rintro e w1 ⟨rfl, rfl⟩
    rw [h1]
    go_wp2_with fail
    refine (specAreDims_any _ _ _ _ _ hq hd).mono ?_; rintro e w_3 ⟨rfl, hb_3⟩
    replace g0 := bthen g0 hb_3
    replace hq := QvR.next hb_3 hq
    replace hd := SlI.next hb_3 hd
    replace hm := SlM.next hb_3 hm
    replace kB := kB.call hb_3
    replace c0 := kB.cell' (i := 0) rfl
    replace c1 := kB.cell' (i := 1) rfl
    replace c2 := kB.cell' (i := 2) rfl
    replace c3 := kB.cell' (i := 3) rfl
    replace c4 := kB.cell' (i := 4) rfl
    replace c5 := kB.cell' (i := 5) rfl
    rw [H2.out]
    go_wp2
    go_ret
    exact ⟨rfl, g0⟩
  obtain ⟨lf, lt⟩ := hq.lens
  rcases h3 : decide (x.m.length = x.q.f.length) with _ | _
  · have e3 : ((x.m.length : Int) != x.q.f.length) = true := by rw [bne_iff_ne]; have := of_decide_eq_false h3; omega
    have H2 := Lib.hid h2
    clear h2 h3
    go_enter Try.func114, Try.ntmps114
    go_wp2_with fail
    rw [← hW]; clear hW
    refine (specIsField_any _ _).mono ?_; rintro e w1 ⟨rfl, rfl⟩
    rw [h1]
    go_wp2_with fail
    refine (specAreDims_any _ _ _ _ _ hq hd).mono ?_; rintro e w_4 ⟨rfl, hb_4⟩
    replace g0 := bthen g0 hb_4
    replace hq := QvR.next hb_4 hq
    replace hd := SlI.next hb_4 hd
    replace hm := SlM.next hb_4 hm
    replace kB := kB.call hb_4
    replace c0 := kB.cell' (i := 0) rfl
    replace c1 := kB.cell' (i := 1) rfl
    replace c2 := kB.cell' (i := 2) rfl
    replace c3 := kB.cell' (i := 3) rfl
    replace c4 := kB.cell' (i := 4) rfl
    replace c5 := kB.cell' (i := 5) rfl
    rw [H2.out]
    go_wp2
    go_ret
    exact ⟨rfl, g0⟩
  have e3 : ((x.m.length : Int) != x.q.f.length) = false := by rw [bne_eq_false_iff_eq]; have := of_decide_eq_true h3; omega
  have H3 := Lib.hid (of_decide_eq_true h3)
  have H2 := Lib.hid h2
  clear h2 h3
  go_enter Try.func114, Try.ntmps114
  go_wp2_with fail
  rw [← hW]; clear hW
  refine (specIsField_any _ _).mono ?_; rintro e w1 ⟨rfl, rfl⟩
  rw [h1]
  go_wp2_with fail
  refine (specAreDims_any _ _ _ _ _ hq hd).mono ?_; rintro e W1 ⟨rfl, hb0⟩
  replace g0 := bthen g0 hb0
  replace hq := QvR.next hb0 hq
  replace hd := SlI.next hb0 hd
  replace hm := SlM.next hb0 hm
  replace kB := kB.call hb0
  replace c0 := kB.cell' (i := 0) rfl
  replace c1 := kB.cell' (i := 1) rfl
  replace c2 := kB.cell' (i := 2) rfl
  replace c3 := kB.cell' (i := 3) rfl
  replace c4 := kB.cell' (i := 4) rfl
  replace c5 := kB.cell' (i := 5) rfl
  clear hb0
  rw [H2.out]
  obtain ⟨hf, ht⟩ := hq.sl
  clear hq
  go_wp2
  go_loopw [3] (fun i wr => ∃ k : Nat, k ≤ x.m.length ∧ i = .int .i64 k ∧ Below W1.heap.size W1 wr ∧ Hid (okMs x k = true)) (fun i _ => x.m.length - (intOf i).toNat)
  case atStart => exact ⟨0, Nat.zero_le _, rfl, Below.refl _ _, rfl⟩
  case round =>
    obtain ⟨k, hk, rfl, hbel, hok⟩ := hrel
    clear c0 c1 c2 c3 c4 c5
    have z5 := (kB.call hbel).cell' (i := 5) rfl
    by_cases hlt : k < x.m.length
    · have hkf : k < x.q.f.length := by have := H3.out; omega
      obtain ⟨nf, nt, yf, yt, ef, et, df, dt, lnf, lnt, lnf5, lnt5, hkt⟩ := rep_at H2.out hkf
      obtain ⟨b, o, m, A', c', rfl, hb, HX, x1, x2, x3, hsl, i1, i2, lml⟩ := SlM.at_ hm hlt
      obtain ⟨bf, of_, xf, rfl, hbf, HXF, f1, _⟩ := SlI.at_ hf hkf
      obtain ⟨bt, ot, xt, rfl, hbt, HXT, t1, _⟩ := SlI.at_ ht hkt
      obtain ⟨bd, od, xdf, rfl, hbd, HXDF, d1, ddf⟩ := SlI.at_ hd lnf
      obtain ⟨bd', od', xdt, ebd, hbd', HXDT, d2, ddt⟩ := SlI.at_ hd lnt
      injection ebd with ebd
      injection ebd with ebd1 ebd2
      subst ebd1 ebd2
      have q1 := HXF.out
      rw [ef] at q1
      injection q1 with q1
      subst q1
      have q2 := HXT.out
      rw [et] at q2
      injection q2 with q2
      subst q2
      have hsucc := okMs_succ HX.out ef et
      rw [hok.out, Bool.true_and, okM, dAt_of HXDF.out, dAt_of HXDT.out] at hsucc
      have HSU := Lib.hid hsucc
      clear hsucc HXDF HXDT HXF HXT ef et df dt hf ht hd hm
      have gx := hbel
      have hm0 := InB.cell (w := wr) (by have := hbel.size; omega) (bcell hbel hb x1)
      have hm1 := InB.cell (w := wr) (by have := hbel.size; omega) (bcell hbel hb x2)
      have hm2 := InB.cell (w := wr) (by have := hbel.size; omega) (bcell hbel hb x3)
      have gx1 := gx.size
      have hF := InB.cell (w := wr) (by omega) (bcell gx hbf f1)
      have hT := InB.cell (w := wr) (by omega) (bcell gx hbt t1)
      have hD1 := InB.cell (w := wr) (by omega) (bcell gx hbd d1)
      have hD2 := InB.cell (w := wr) (by omega) (bcell gx hbd d2)
      have kBx := kB.call gx
      have r0 := fun s : InB wr => (kBx.call s.below).cell' (i := 0) rfl
      have r2 := fun s : InB wr => (kBx.call s.below).cell' (i := 2) rfl
      have r3 := fun s : InB wr => (kBx.call s.below).cell' (i := 3) rfl
      have r4 := fun s : InB wr => (kBx.call s.below).cell' (i := 4) rfl
      have r5 := fun s : InB wr => (kBx.call s.below).cell' (i := 5) rfl
      have HM : Hid (∀ s : InB wr, MxR s.val s.val.heap.size (.agg #[.int .i64 m.r, .int .i64 m.c, .slice A' m.a.length c']) m) := fun s => ⟨_, rfl, SlI.next s.below (SlI.next gx hsl), i1, i2⟩
      have g1 := bthen g0 gx
      have HGX := Lib.hid gx
      have HG1 := Lib.hid g1
      clear x1 x2 x3 f1 t1 d1 d2 hsl i1 i2 kB kBx gx g1 g0
      have a1 : (0 : Int) ≤ (k : Int) := by omega
      have a2 : (k : Int) < x.q.f.length := by omega
      have a3 : (k : Int) < x.q.t.length := by omega
      have a4 : (0 : Int) ≤ (nf : Int) := by omega
      have a5 : (nf : Int) < x.d.length := by omega
      have a6 : (0 : Int) ≤ (nt : Int) := by omega
      have a7 : (nt : Int) < x.d.length := by omega
      have a8 : (k : Int) < x.m.length := by omega
      rcases h4 : isMat x.p m with _ | _
      · have HF := Lib.hid (okMs_mono (x := x) (k := k + 1) (n := x.m.length) (by rw [HSU.out, h4]; rfl) (by omega))
        go_wp2
        (refine wp_region_inB (by kernel_rfl) (by kernel_rfl) ?_; (repeat (go_big_quiet_step ((go_at_call 180; exact InB.call (specIsMatrix_any _ _ m _ (HM.out _)))))); refine wpQuiet_nil ?_; intro w1 hw'; obtain ⟨s1, hw1⟩ := hw'; have hb1 := s1.below; rw [← hw1] at hb1; clear hw1 s1)
        go_wp2
        go_ret
        exact ⟨by rw [HF.out]; rfl, bthen HG1.out hb1⟩
      rcases h5 : decide (m.c = xdf) with _ | _
      · have HF := Lib.hid (okMs_mono (x := x) (k := k + 1) (n := x.m.length) (by rw [HSU.out, h5]; simp) (by omega))
        have e5 : (m.c != xdf) = true := by rw [bne_iff_ne]; exact of_decide_eq_false h5
        clear h5
        go_wp2
        (refine wp_region_inB (by kernel_rfl) (by kernel_rfl) ?_; (repeat (go_big_quiet_step ((go_at_call 180; exact InB.call (specIsMatrix_any _ _ m _ (HM.out _)))))); refine wpQuiet_nil ?_; intro w1 hw'; obtain ⟨s1, hw1⟩ := hw'; have hb1 := s1.below; rw [← hw1] at hb1; clear hw1 s1)
        go_wp2
        go_ret
        exact ⟨by rw [HF.out]; rfl, bthen HG1.out hb1⟩
      have e5 : (m.c != xdf) = false := by rw [bne_eq_false_iff_eq]; exact of_decide_eq_true h5
      rcases h6 : decide (m.r = xdt) with _ | _
      · have HF := Lib.hid (okMs_mono (x := x) (k := k + 1) (n := x.m.length) (by rw [HSU.out, h6]; simp) (by omega))
        have e6 : (m.r != xdt) = true := by rw [bne_iff_ne]; exact of_decide_eq_false h6
        clear h5 h6
        go_wp2
        (refine wp_region_inB (by kernel_rfl) (by kernel_rfl) ?_; (repeat (go_big_quiet_step ((go_at_call 180; exact InB.call (specIsMatrix_any _ _ m _ (HM.out _)))))); refine wpQuiet_nil ?_; intro w1 hw'; obtain ⟨s1, hw1⟩ := hw'; have hb1 := s1.below; rw [← hw1] at hb1; clear hw1 s1)
        go_wp2
        go_ret
        exact ⟨by rw [HF.out]; rfl, bthen HG1.out hb1⟩
      have e6 : (m.r != xdt) = false := by rw [bne_eq_false_iff_eq]; exact of_decide_eq_true h6
      have HF := Lib.hid (show okMs x (k + 1) = true by rw [HSU.out, h4, h5, h6]; rfl)
      clear h5 h6
      go_wp2
      (refine wp_region_inB (by kernel_rfl) (by kernel_rfl) ?_; (repeat (go_big_quiet_step ((go_at_call 180; exact InB.call (specIsMatrix_any _ _ m _ (HM.out _)))))); refine wpQuiet_nil ?_; intro w1 hw'; obtain ⟨s1, hw1⟩ := hw'; have hb1 := s1.below; rw [← hw1] at hb1; clear hw1 s1)
      go_wp2
      go_roundw
      case rel => exact ⟨k + 1, by omega, by go_num, bthen HGX.out hb1, HF.out⟩
      case measure => simp [intOf]; omega
    · have HF := Lib.hid (show okMs x x.m.length = true by have := hok.out; rwa [show k = x.m.length by omega] at this)
      have g1 := bthen g0 hbel
      go_wp2
      go_ret
      exact ⟨by rw [HF.out]; rfl, g1⟩
end Go.Proofs.Ytjhllgldllbaaaa

/- Valid representations are small. -/
namespace Go.Proofs.Ytjhllgldllbaaaa
set_option linter.unusedVariables false
set_option linter.unusedSimpArgs false
open Go.RowKit

theorem okMs_all {x : Rp} (h : okMs x x.m.length = true) : ∀ m ∈ x.m, isMat x.p m = true := by
  intro m hm
  obtain ⟨j, hj⟩ := List.getElem?_of_mem hm
  have hl := lt_of_some hj
  simp only [okMs, List.all_eq_true, List.mem_range] at h
  have := h j hl
  rw [List.getD_eq_getElem?_getD, hj, Option.getD_some] at this
  simp only [okM, Bool.and_eq_true] at this
  exact this.1.1
theorem isRep_t {x : Rp} : isRep x = true ↔ isFld x.p = true ∧ areDims x.q x.d = true ∧ x.m.length = x.q.f.length ∧ okMs x x.m.length = true := by
  simp only [isRep, Bool.and_eq_true, decide_eq_true_eq, and_assoc]
theorem totA_le {ms : List Mx} {n : Nat} (h : ∀ m ∈ ms, m.a.length ≤ n) : totA ms ≤ ms.length * n := by
  induction ms with
  | nil => simp [totA, tot]
  | cons m ms ih =>
    have h1 := h m (by simp)
    have h2 := ih (fun x hx => h x (by simp [hx]))
    simp only [totA, tot, List.map_cons, List.sum_cons, List.length_cons] at h2 ⊢
    rw [Nat.add_mul]
    omega
theorem isRep_size {x : Rp} (h : isRep x = true) : x.size ≤ 1000 := by
  obtain ⟨h1, h2, h3, h4⟩ := isRep_t.1 h
  obtain ⟨k1, k2, k3, k4⟩ := areDims_t.1 h2
  obtain ⟨q1, q2, q3, q4, q5⟩ := isQ_t.1 k1
  have h5 := totA_le (ms := x.m) (n := 64) (fun m hm => (isVec_t.1 (isMat_t.1 (okMs_all h4 m hm)).2.2.2).2.1)
  simp only [Rp.size, Qv.size, szM]
  have : x.m.length * 64 ≤ 6 * 64 := Nat.mul_le_mul_right _ (by omega)
  omega
theorem rp0_size : rp0.size = 0 := rfl
end Go.Proofs.Ytjhllgldllbaaaa

/- A valid representation at an arrow. -/
namespace Go.Proofs.Ytjhllgldllbaaaa
set_option linter.unusedVariables false
set_option linter.unusedSimpArgs false
open Go.RowKit

/-- a valid representation at an arrow -/
theorem isRep_at {x : Rp} (hx : isRep x = true) {k : Nat} (hk : k < x.q.f.length) : ∃ (m : Mx) (nf nt yf yt : Nat), x.m[k]? = some m ∧ x.q.f[k]? = some (nf : Int) ∧ x.q.t[k]? = some (nt : Int) ∧ x.d[nf]? = some (yf : Int) ∧ x.d[nt]? = some (yt : Int) ∧
    m = mxF yt yf (entry m.a yf) ∧ (∀ i j, i < yt → j < yf → 0 ≤ entry m.a yf i j ∧ entry m.a yf i j ≤ x.p - 1) ∧ yf ≤ 4 ∧ yt ≤ 4 ∧ nf ≤ 5 ∧ nt ≤ 5 ∧ nf < x.d.length ∧ nt < x.d.length ∧ k < x.q.t.length ∧ k < x.m.length := by
  obtain ⟨h1, h2, h3, h4⟩ := isRep_t.1 hx
  obtain ⟨nf, nt, yf, yt, ef, et, df, dt, lf, lt, l5, l6, l7⟩ := rep_at h2 hk
  have hd := (areDims_t.1 h2).2.2.1
  have bf := hd _ (List.mem_of_getElem? df)
  have bt := hd _ (List.mem_of_getElem? dt)
  have hkm : k < x.m.length := by omega
  have em := List.getElem?_eq_getElem hkm
  obtain ⟨m, hm⟩ : ∃ m, x.m[k] = m := ⟨_, rfl⟩
  rw [hm] at em
  have h5 := h4
  simp only [okMs, List.all_eq_true, List.mem_range] at h5
  have h6 := h5 k hkm
  simp only [List.getD_eq_getElem?_getD, em, ef, et, Option.getD_some] at h6
  simp only [okM, Bool.and_eq_true, decide_eq_true_eq] at h6
  obtain ⟨⟨hM, hc⟩, hr⟩ := h6
  rw [dAt_of df] at hc
  rw [dAt_of dt] at hr
  obtain ⟨_, _, hl, hv⟩ := isMat_t.1 hM
  obtain ⟨YF, rfl⟩ := Int.eq_ofNat_of_zero_le bf.1
  obtain ⟨YT, rfl⟩ := Int.eq_ofNat_of_zero_le bt.1
  have hl' : m.a.length = YT * YF := by
    rw [hr, hc] at hl
    exact_mod_cast hl
  have hrange := (isVec_t.1 hv).2.2
  refine ⟨m, nf, nt, YF, YT, em, ef, et, df, dt, ?_, fun i j hi hj => ?_, by omega, by omega, l5, l6, lf, lt, l7, hkm⟩
  · rw [mx_ext]
    exact ⟨hr, hc, flat_of hl'⟩
  · refine hrange _ ?_
    have := ix_lt hi hj
    rw [entry, List.getD_eq_getElem?_getD, List.getElem?_eq_getElem (by omega)]
    exact List.getElem_mem _
def mx0 : Mx := ⟨0, 0, []⟩
theorem MxO.zero (w : World) (lo hi : Nat) : MxO w lo hi (.agg #[.int .i64 0, .int .i64 0, .slice none 0 0]) mx0 := ⟨_, rfl, ⟨OwnI.nil _ _, by simp [Value.ownBlock]⟩, by simp [mx0, I64], by simp [mx0, I64]⟩
theorem MxO.setBlk {w : World} {lo hi g i : Nat} {v : Value} {m : Mx} {t : TypeId} {cs : Array Value} (h : MxO w lo hi v m) (hb : Blk w g t cs) (ht : 3 ≠ t) (u : Value) : MxO (w.setCell ⟨g, i, none⟩ u) lo hi v m := by
  obtain ⟨s, e, h1, h2⟩ := h
  exact ⟨s, e, ⟨h1.1.setCell (p := ⟨g, i, none⟩) (fun e => h1.1.blkne hb ht e.symm) u, h1.2⟩, h2⟩
end Go.Proofs.Ytjhllgldllbaaaa

/- Equal quivers, the quiver of pencils, the two IsPencil. -/
namespace Go.Proofs.Ytjhllgldllbaaaa
set_option linter.unusedVariables false
set_option linter.unusedSimpArgs false
open Go.RowKit

set_option maxHeartbeats 400000 in
theorem slEqual_any (u v : Value) (xs ys : List Int) (w : World) (hu : SlI w w.heap.size u xs) (hv : SlI w w.heap.size v ys) :
    Calls Try.prog 83 #[u, v] w fun e w' => e = .returned (.bool (decide (xs = ys))) ∧ Below w.heap.size w w' := by
  obtain ⟨A, c, rfl, _, _, hn, hx⟩ := hu.open_
  obtain ⟨C, d, rfl, _, _, hm, hy⟩ := hv.open_
  clear hu hv
  by_cases hnm : xs.length = ys.length
  · have heq : ((xs.length : Int) != ys.length) = false := by rw [bne_eq_false_iff_eq]; omega
    have HN := Lib.hid hnm
    clear hnm
    go_enter Try.func83, Try.ntmps83
    go_wp2
    go_loopw [5, 13] (fun _ i wr => ∃ k q : Nat, k ≤ xs.length ∧ i = .int .i64 k ∧ wr = w.drewN q ∧ Hid (xs.take k = ys.take k)) (fun _ i _ => xs.length - (intOf i).toNat)
    case atStart => exact ⟨0, 0, Nat.zero_le _, rfl, rfl, rfl⟩
    case round =>
      obtain ⟨k, q, hk, rfl, rfl, hxy⟩ := hrel
      by_cases hlt : k < xs.length
      · have hlt' : k < ys.length := by have := HN.out; omega
        obtain ⟨b, o, x, rfl, hb, HX, c1, _⟩ := SlI.at_ hx hlt
        obtain ⟨b', o', x', rfl, hb', HX', c1', _⟩ := SlI.at_ hy hlt'
        clear hx hy
        by_cases hE : x = x'
        · subst hE
          go_wp2
          go_quiet (fail)
          go_wp2
          go_roundw
          case rel =>
            refine ⟨k + 1, q + nq, by omega, by go_num, rfl, ?_⟩
            show _ = _
            rw [take_snoc HX.out, take_snoc HX'.out, hxy.out]
          case measure => simp [intOf]; omega
        · have hne : (x != x') = true := by simpa using hE
          have hxy' : Hid (xs ≠ ys) := by
            rintro rfl
            have h2 := HX.out
            rw [HX'.out] at h2
            exact hE (by injection h2 with h2; exact h2.symm)
          clear hE
          go_wp2
          go_quiet (fail)
          go_wp2
          go_ret
          exact ⟨by rw [decide_eq_false hxy'.out]; rfl, below_drewN (drewN_below _ _ _) _⟩
      · go_wp2
        go_ret
        refine ⟨?_, drewN_below _ _ _⟩
        have h1 := hxy.out
        rw [List.take_of_length_le (by omega), List.take_of_length_le (by have := HN.out; omega)] at h1
        simp [h1]
  · have hne : ((xs.length : Int) != ys.length) = true := by rw [bne_iff_ne]; omega
    go_enter Try.func83, Try.ntmps83
    go_wp2
    go_ret
    refine ⟨?_, Below.refl _ _⟩
    rw [decide_eq_false (by rintro rfl; omega)]; rfl
set_option maxHeartbeats 400000 in
theorem l6Same_any (u v : Value) (xs ys : List Int) (w : World) (hu : SlI w w.heap.size u xs) (hv : SlI w w.heap.size v ys) :
    Calls Try.prog 80 #[u, v] w fun e w' => e = .returned (.bool (decide (xs = ys))) ∧ Below w.heap.size w w' := by
  obtain ⟨A, c, rfl, _, _, hn, hx⟩ := hu.open_
  obtain ⟨C, d, rfl, _, _, hm, hy⟩ := hv.open_
  clear hu hv
  by_cases hnm : xs.length = ys.length
  · have heq : ((xs.length : Int) != ys.length) = false := by rw [bne_eq_false_iff_eq]; omega
    have HN := Lib.hid hnm
    clear hnm
    go_enter Try.func80, Try.ntmps80
    go_wp2
    go_loopw [5] (fun i wr => ∃ k q : Nat, k ≤ xs.length ∧ i = .int .i64 k ∧ wr = w.drewN q ∧ Hid (xs.take k = ys.take k)) (fun i _ => xs.length - (intOf i).toNat)
    case atStart => exact ⟨0, 0, Nat.zero_le _, rfl, rfl, rfl⟩
    case round =>
      obtain ⟨k, q, hk, rfl, rfl, hxy⟩ := hrel
      by_cases hlt : k < xs.length
      · have hlt' : k < ys.length := by have := HN.out; omega
        obtain ⟨b, o, x, rfl, hb, HX, c1, _⟩ := SlI.at_ hx hlt
        obtain ⟨b', o', x', rfl, hb', HX', c1', _⟩ := SlI.at_ hy hlt'
        clear hx hy
        by_cases hE : x = x'
        · subst hE
          go_wp2
          go_quiet (fail)
          go_wp2
          go_roundw
          case rel =>
            refine ⟨k + 1, q + nq, by omega, by go_num, rfl, ?_⟩
            show _ = _
            rw [take_snoc HX.out, take_snoc HX'.out, hxy.out]
          case measure => simp [intOf]; omega
        · have hne : (x != x') = true := by simpa using hE
          have hxy' : Hid (xs ≠ ys) := by
            rintro rfl
            have h2 := HX.out
            rw [HX'.out] at h2
            exact hE (by injection h2 with h2; exact h2.symm)
          clear hE
          go_wp2
          go_quiet (fail)
          go_wp2
          go_ret
          exact ⟨by rw [decide_eq_false hxy'.out]; rfl, below_drewN (drewN_below _ _ _) _⟩
      · go_wp2
        go_ret
        refine ⟨?_, drewN_below _ _ _⟩
        have h1 := hxy.out
        rw [List.take_of_length_le (by omega), List.take_of_length_le (by have := HN.out; omega)] at h1
        simp [h1]
  · have hne : ((xs.length : Int) != ys.length) = true := by rw [bne_iff_ne]; omega
    go_enter Try.func80, Try.ntmps80
    go_wp2
    go_ret
    refine ⟨?_, Below.refl _ _⟩
    rw [decide_eq_false (by rintro rfl; omega)]; rfl

set_option maxHeartbeats 800000 in
theorem implEqualQuivers_any (u v : Value) (p q : Qv) (w : World) (hu : QvR w w.heap.size u p) (hv : QvR w w.heap.size v q) :
    Calls Try.prog 176 #[u, v] w fun e w' => e = .returned (.bool (decide (p = q))) ∧ Below w.heap.size w w' := by
  obtain ⟨A, c, C, d, rfl, hf, ht, _, _, _⟩ := hu.open_
  obtain ⟨A', c', C', d', rfl, hf', ht', _, _, _⟩ := hv.open_
  clear hu hv
  obtain ⟨W, hW⟩ : ∃ W, W = (w.alloc (.cells #[.int .i64 p.v, .slice A p.f.length c, .slice C p.t.length d] 26)).alloc (.cells #[.int .i64 q.v, .slice A' q.f.length c', .slice C' q.t.length d'] 26) := ⟨_, rfl⟩
  have g0 : Below w.heap.size w W := by rw [hW]; exact ((Below.refl _ _).alloc (Nat.le_refl _) _).alloc (by simp) _
  have k1 : Blk W w.heap.size 26 #[.int .i64 p.v, .slice A p.f.length c, .slice C p.t.length d] := by rw [hW]; exact (Blk.new _ _ _).alloc _
  have k2 : Blk W (w.heap.size + 1) 26 #[.int .i64 q.v, .slice A' q.f.length c', .slice C' q.t.length d'] := by
    rw [hW]
    have := Blk.new (w.alloc (.cells #[.int .i64 p.v, .slice A p.f.length c, .slice C p.t.length d] 26)) 26 #[.int .i64 q.v, .slice A' q.f.length c', .slice C' q.t.length d']
    simpa only [World.size_alloc] using this
  replace hf := SlI.next g0 hf
  replace hf' := SlI.next g0 hf'
  replace ht := SlI.next g0 ht
  replace ht' := SlI.next g0 ht'
  by_cases h1 : p.v = q.v
  · have e1 : (p.v == q.v) = true := by rw [h1]; simp
    have H1 := Lib.hid h1
    clear h1
    by_cases h2 : p.f = q.f
    · have e2 : decide (p.f = q.f) = true := by simpa using h2
      have H2 := Lib.hid h2
      clear h2
      obtain ⟨B, hB⟩ : ∃ B, decide (p.t = q.t) = B := ⟨_, rfl⟩
      have HB := Lib.hid hB
      have hfin : decide (p = q) = B := by
        rw [← hB, decide_eq_decide, qv_ext]
        exact ⟨fun h => h.2.2, fun h => ⟨H1.out, H2.out, h⟩⟩
      rw [hfin]
      clear hfin hB
      go_enter Try.func176, Try.ntmps176
      go_wp2_with fail
      rw [← hW]; clear hW
      refine (slEqual_any _ _ _ _ _ hf hf').mono ?_; rintro e w1 ⟨rfl, hb1⟩
      clear hf hf'
      replace g0 := bthen g0 hb1
      replace ht := SlI.next hb1 ht
      replace ht' := SlI.next hb1 ht'
      replace k1 := k1.call hb1
      replace c0 := k1.cell' (i := 0) rfl
      replace c1 := k1.cell' (i := 1) rfl
      replace c2 := k1.cell' (i := 2) rfl
      replace k2 := k2.call hb1
      replace d0 := k2.cell' (i := 0) rfl
      replace d1 := k2.cell' (i := 1) rfl
      replace d2 := k2.cell' (i := 2) rfl
      clear hb1
      go_wp2_with fail
      refine (slEqual_any _ _ _ _ _ ht ht').mono ?_; rintro e w_1 ⟨rfl, hb_1⟩
      replace g0 := bthen g0 hb_1
      replace ht := SlI.next hb_1 ht
      replace ht' := SlI.next hb_1 ht'
      replace k1 := k1.call hb_1
      replace c0 := k1.cell' (i := 0) rfl
      replace c1 := k1.cell' (i := 1) rfl
      replace c2 := k1.cell' (i := 2) rfl
      replace k2 := k2.call hb_1
      replace d0 := k2.cell' (i := 0) rfl
      replace d1 := k2.cell' (i := 1) rfl
      replace d2 := k2.cell' (i := 2) rfl
      rw [HB.out]
      clear ht ht' k1 k2
      go_wp2
      go_ret
      exact ⟨rfl, g0⟩
    · have e2 : decide (p.f = q.f) = false := by simpa using h2
      have hfin : decide (p = q) = false := by
        simp only [decide_eq_false_iff_not, qv_ext]
        exact fun h => h2 h.2.1
      rw [hfin]
      clear hfin h2
      go_enter Try.func176, Try.ntmps176
      go_wp2_with fail
      rw [← hW]; clear hW
      refine (slEqual_any _ _ _ _ _ hf hf').mono ?_; rintro e w1 ⟨rfl, hb1⟩
      go_wp2
      go_ret
      exact ⟨rfl, bthen g0 hb1⟩
  · have e1 : (p.v == q.v) = false := by simpa using h1
    have hfin : decide (p = q) = false := by
      simp only [decide_eq_false_iff_not, qv_ext]
      exact fun h => h1 h.1
    rw [hfin]
    clear hfin h1
    go_enter Try.func176, Try.ntmps176
    go_wp2
    rw [← hW]
    go_ret
    exact ⟨rfl, g0⟩
set_option maxHeartbeats 800000 in
theorem specEqualQuivers_any (u v : Value) (p q : Qv) (w : World) (hu : QvR w w.heap.size u p) (hv : QvR w w.heap.size v q) :
    Calls Try.prog 171 #[u, v] w fun e w' => e = .returned (.bool (decide (p = q))) ∧ Below w.heap.size w w' := by
  obtain ⟨A, c, C, d, rfl, hf, ht, _, _, _⟩ := hu.open_
  obtain ⟨A', c', C', d', rfl, hf', ht', _, _, _⟩ := hv.open_
  clear hu hv
  obtain ⟨W, hW⟩ : ∃ W, W = (w.alloc (.cells #[.int .i64 p.v, .slice A p.f.length c, .slice C p.t.length d] 26)).alloc (.cells #[.int .i64 q.v, .slice A' q.f.length c', .slice C' q.t.length d'] 26) := ⟨_, rfl⟩
  have g0 : Below w.heap.size w W := by rw [hW]; exact ((Below.refl _ _).alloc (Nat.le_refl _) _).alloc (by simp) _
  have k1 : Blk W w.heap.size 26 #[.int .i64 p.v, .slice A p.f.length c, .slice C p.t.length d] := by rw [hW]; exact (Blk.new _ _ _).alloc _
  have k2 : Blk W (w.heap.size + 1) 26 #[.int .i64 q.v, .slice A' q.f.length c', .slice C' q.t.length d'] := by
    rw [hW]
    have := Blk.new (w.alloc (.cells #[.int .i64 p.v, .slice A p.f.length c, .slice C p.t.length d] 26)) 26 #[.int .i64 q.v, .slice A' q.f.length c', .slice C' q.t.length d']
    simpa only [World.size_alloc] using this
  replace hf := SlI.next g0 hf
  replace hf' := SlI.next g0 hf'
  replace ht := SlI.next g0 ht
  replace ht' := SlI.next g0 ht'
  by_cases h1 : p.v = q.v
  · have e1 : (p.v == q.v) = true := by rw [h1]; simp
    have H1 := Lib.hid h1
    clear h1
    by_cases h2 : p.f = q.f
    · have e2 : decide (p.f = q.f) = true := by simpa using h2
      have H2 := Lib.hid h2
      clear h2
      obtain ⟨B, hB⟩ : ∃ B, decide (p.t = q.t) = B := ⟨_, rfl⟩
      have HB := Lib.hid hB
      have hfin : decide (p = q) = B := by
        rw [← hB, decide_eq_decide, qv_ext]
        exact ⟨fun h => h.2.2, fun h => ⟨H1.out, H2.out, h⟩⟩
      rw [hfin]
      clear hfin hB
      go_enter Try.func171, Try.ntmps171
      go_wp2_with fail
      rw [← hW]; clear hW
      refine (l6Same_any _ _ _ _ _ hf hf').mono ?_; rintro e w1 ⟨rfl, hb1⟩
      clear hf hf'
      replace g0 := bthen g0 hb1
      replace ht := SlI.next hb1 ht
      replace ht' := SlI.next hb1 ht'
      replace k1 := k1.call hb1
      replace c0 := k1.cell' (i := 0) rfl
      replace c1 := k1.cell' (i := 1) rfl
      replace c2 := k1.cell' (i := 2) rfl
      replace k2 := k2.call hb1
      replace d0 := k2.cell' (i := 0) rfl
      replace d1 := k2.cell' (i := 1) rfl
      replace d2 := k2.cell' (i := 2) rfl
      clear hb1
      go_wp2_with fail
      refine (l6Same_any _ _ _ _ _ ht ht').mono ?_; rintro e w_2 ⟨rfl, hb_2⟩
      replace g0 := bthen g0 hb_2
      replace ht := SlI.next hb_2 ht
      replace ht' := SlI.next hb_2 ht'
      replace k1 := k1.call hb_2
      replace c0 := k1.cell' (i := 0) rfl
      replace c1 := k1.cell' (i := 1) rfl
      replace c2 := k1.cell' (i := 2) rfl
      replace k2 := k2.call hb_2
      replace d0 := k2.cell' (i := 0) rfl
      replace d1 := k2.cell' (i := 1) rfl
      replace d2 := k2.cell' (i := 2) rfl
      rw [HB.out]
      clear ht ht' k1 k2
      go_wp2
      go_ret
      exact ⟨rfl, g0⟩
    · have e2 : decide (p.f = q.f) = false := by simpa using h2
      have hfin : decide (p = q) = false := by
        simp only [decide_eq_false_iff_not, qv_ext]
        exact fun h => h2 h.2.1
      rw [hfin]
      clear hfin h2
      go_enter Try.func171, Try.ntmps171
      go_wp2_with fail
      rw [← hW]; clear hW
      refine (l6Same_any _ _ _ _ _ hf hf').mono ?_; rintro e w1 ⟨rfl, hb1⟩
      go_wp2
      go_ret
      exact ⟨rfl, bthen g0 hb1⟩
  · have e1 : (p.v == q.v) = false := by simpa using h1
    have hfin : decide (p = q) = false := by
      simp only [decide_eq_false_iff_not, qv_ext]
      exact fun h => h1 h.1
    rw [hfin]
    clear hfin h1
    go_enter Try.func171, Try.ntmps171
    go_wp2
    rw [← hW]
    go_ret
    exact ⟨rfl, g0⟩

/-- the quiver of pencils -/
def pQ : Qv := ⟨2, [0, 0], [1, 1]⟩
theorem pencilQuiver_any (w : World) : Calls Try.prog 177 #[] w fun e w' => ∃ v, e = .returned v ∧ QuivO w' w.heap.size w'.heap.size v pQ ∧ Below w.heap.size w w' := by
  obtain ⟨W, hW⟩ : ∃ W, W = ((w.alloc (.cells #[.int .i64 2, .slice (some ⟨w.heap.size + 1, 0, none⟩) 2 2, .slice (some ⟨w.heap.size + 1 + 1, 0, none⟩) 2 2] 26)).alloc (.cells #[.int .i64 0, .int .i64 0] 3)).alloc (.cells #[.int .i64 1, .int .i64 1] 3) := ⟨_, rfl⟩
  have g0 : Below w.heap.size w W := by rw [hW]; exact (((Below.refl _ _).alloc (Nat.le_refl _) _).alloc (by simp) _).alloc (by simp; omega) _
  have k0 : Blk W w.heap.size 26 #[.int .i64 2, .slice (some ⟨w.heap.size + 1, 0, none⟩) 2 2, .slice (some ⟨w.heap.size + 1 + 1, 0, none⟩) 2 2] := by rw [hW]; exact ((Blk.new _ _ _).alloc _).alloc _
  have k1 : Blk W (w.heap.size + 1) 3 #[.int .i64 0, .int .i64 0] := by
    rw [hW]
    have := (Blk.new (w.alloc (.cells #[.int .i64 2, .slice (some ⟨w.heap.size + 1, 0, none⟩) 2 2, .slice (some ⟨w.heap.size + 1 + 1, 0, none⟩) 2 2] 26)) 3 #[.int .i64 0, .int .i64 0]).alloc (.cells #[.int .i64 1, .int .i64 1] 3)
    simpa only [World.size_alloc] using this
  have k2 : Blk W (w.heap.size + 1 + 1) 3 #[.int .i64 1, .int .i64 1] := by
    rw [hW]
    have := Blk.new ((w.alloc (.cells #[.int .i64 2, .slice (some ⟨w.heap.size + 1, 0, none⟩) 2 2, .slice (some ⟨w.heap.size + 1 + 1, 0, none⟩) 2 2] 26)).alloc (.cells #[.int .i64 0, .int .i64 0] 3)) 3 #[.int .i64 1, .int .i64 1]
    simpa only [World.size_alloc] using this
  have zW : W.heap.size = w.heap.size + 1 + 1 + 1 := by rw [hW]; simp
  have c0 := k0.cell' (i := 0) rfl
  have c1 := k0.cell' (i := 1) rfl
  have c2 := k0.cell' (i := 2) rfl
  have o1 : OwnI W (w.heap.size + 1) (.slice (some ⟨w.heap.size + 1, 0, none⟩) 2 2) [0, 0] := OwnI.of_blk (xs := [0, 0]) k1 (Nat.le_refl _) ⟨rfl, fun j x hj hx => by
    match j, hx with
    | 0, hx => simp at hx; subst hx; rfl
    | 1, hx => simp at hx; subst hx; rfl
    | j + 2, hx => simp at hx⟩ (by simp) (by simp [I64])
  have o2 : OwnI W (w.heap.size + 1 + 1) (.slice (some ⟨w.heap.size + 1 + 1, 0, none⟩) 2 2) [1, 1] := OwnI.of_blk (xs := [1, 1]) k2 (Nat.le_refl _) ⟨rfl, fun j x hj hx => by
    match j, hx with
    | 0, hx => simp at hx; subst hx; rfl
    | 1, hx => simp at hx; subst hx; rfl
    | j + 2, hx => simp at hx⟩ (by simp) (by simp [I64])
  have hF : QuivO W w.heap.size W.heap.size (.agg #[.int .i64 2, .slice (some ⟨w.heap.size + 1, 0, none⟩) 2 2, .slice (some ⟨w.heap.size + 1 + 1, 0, none⟩) 2 2]) pQ :=
    ⟨_, _, rfl, Fam.mono (fam_two (lo := w.heap.size + 1) (mi := w.heap.size + 1 + 1) (hi := W.heap.size) ⟨o1, by simp [Value.ownBlock]⟩ (IntsO.of_own o2) (by omega) (by omega)) (by omega) (Nat.le_refl _), by simp [pQ, I64]⟩
  have HF := Lib.hid hF
  clear hF k0 k1 k2 o1 o2 zW
  go_enter Try.func177, Try.ntmps177
  go_wp2
  rw [← hW]
  exact bodyPost_ret (v := .agg #[.int .i64 2, .slice (some ⟨w.heap.size + 1, 0, none⟩) 2 2, .slice (some ⟨w.heap.size + 1 + 1, 0, none⟩) 2 2]) (by simp [results, go_sem, c0, c1, c2]) rfl ⟨_, rfl, HF.out, g0⟩
theorem l26Quiver_any (w : World) : Calls Try.prog 172 #[] w fun e w' => ∃ v, e = .returned v ∧ QuivO w' w.heap.size w'.heap.size v pQ ∧ Below w.heap.size w w' := by
  obtain ⟨W, hW⟩ : ∃ W, W = ((w.alloc (.cells #[.int .i64 2, .slice (some ⟨w.heap.size + 1, 0, none⟩) 2 2, .slice (some ⟨w.heap.size + 1 + 1, 0, none⟩) 2 2] 26)).alloc (.cells #[.int .i64 0, .int .i64 0] 3)).alloc (.cells #[.int .i64 1, .int .i64 1] 3) := ⟨_, rfl⟩
  have g0 : Below w.heap.size w W := by rw [hW]; exact (((Below.refl _ _).alloc (Nat.le_refl _) _).alloc (by simp) _).alloc (by simp; omega) _
  have k0 : Blk W w.heap.size 26 #[.int .i64 2, .slice (some ⟨w.heap.size + 1, 0, none⟩) 2 2, .slice (some ⟨w.heap.size + 1 + 1, 0, none⟩) 2 2] := by rw [hW]; exact ((Blk.new _ _ _).alloc _).alloc _
  have k1 : Blk W (w.heap.size + 1) 3 #[.int .i64 0, .int .i64 0] := by
    rw [hW]
    have := (Blk.new (w.alloc (.cells #[.int .i64 2, .slice (some ⟨w.heap.size + 1, 0, none⟩) 2 2, .slice (some ⟨w.heap.size + 1 + 1, 0, none⟩) 2 2] 26)) 3 #[.int .i64 0, .int .i64 0]).alloc (.cells #[.int .i64 1, .int .i64 1] 3)
    simpa only [World.size_alloc] using this
  have k2 : Blk W (w.heap.size + 1 + 1) 3 #[.int .i64 1, .int .i64 1] := by
    rw [hW]
    have := Blk.new ((w.alloc (.cells #[.int .i64 2, .slice (some ⟨w.heap.size + 1, 0, none⟩) 2 2, .slice (some ⟨w.heap.size + 1 + 1, 0, none⟩) 2 2] 26)).alloc (.cells #[.int .i64 0, .int .i64 0] 3)) 3 #[.int .i64 1, .int .i64 1]
    simpa only [World.size_alloc] using this
  have zW : W.heap.size = w.heap.size + 1 + 1 + 1 := by rw [hW]; simp
  have c0 := k0.cell' (i := 0) rfl
  have c1 := k0.cell' (i := 1) rfl
  have c2 := k0.cell' (i := 2) rfl
  have o1 : OwnI W (w.heap.size + 1) (.slice (some ⟨w.heap.size + 1, 0, none⟩) 2 2) [0, 0] := OwnI.of_blk (xs := [0, 0]) k1 (Nat.le_refl _) ⟨rfl, fun j x hj hx => by
    match j, hx with
    | 0, hx => simp at hx; subst hx; rfl
    | 1, hx => simp at hx; subst hx; rfl
    | j + 2, hx => simp at hx⟩ (by simp) (by simp [I64])
  have o2 : OwnI W (w.heap.size + 1 + 1) (.slice (some ⟨w.heap.size + 1 + 1, 0, none⟩) 2 2) [1, 1] := OwnI.of_blk (xs := [1, 1]) k2 (Nat.le_refl _) ⟨rfl, fun j x hj hx => by
    match j, hx with
    | 0, hx => simp at hx; subst hx; rfl
    | 1, hx => simp at hx; subst hx; rfl
    | j + 2, hx => simp at hx⟩ (by simp) (by simp [I64])
  have hF : QuivO W w.heap.size W.heap.size (.agg #[.int .i64 2, .slice (some ⟨w.heap.size + 1, 0, none⟩) 2 2, .slice (some ⟨w.heap.size + 1 + 1, 0, none⟩) 2 2]) pQ :=
    ⟨_, _, rfl, Fam.mono (fam_two (lo := w.heap.size + 1) (mi := w.heap.size + 1 + 1) (hi := W.heap.size) ⟨o1, by simp [Value.ownBlock]⟩ (IntsO.of_own o2) (by omega) (by omega)) (by omega) (Nat.le_refl _), by simp [pQ, I64]⟩
  have HF := Lib.hid hF
  clear hF k0 k1 k2 o1 o2 zW
  go_enter Try.func172, Try.ntmps172
  go_wp2
  rw [← hW]
  exact bodyPost_ret (v := .agg #[.int .i64 2, .slice (some ⟨w.heap.size + 1, 0, none⟩) 2 2, .slice (some ⟨w.heap.size + 1 + 1, 0, none⟩) 2 2]) (by simp [results, go_sem, c0, c1, c2]) rfl ⟨_, rfl, HF.out, g0⟩

def isPen (x : Rp) : Bool := isRep x && decide (x.q = pQ)
set_option maxHeartbeats 1600000 in
set_option maxRecDepth 100000 in
theorem implIsPencil_any (u : Value) (x : Rp) (w : World) (hu : RpR w w.heap.size u x) :
    Calls Try.prog 112 #[u] w fun e w' => e = .returned (.bool (isPen x)) ∧ Below w.heap.size w w' := by
  have hx := hu
  obtain ⟨A, a, C, c, E, e, H, h, rfl, hq, hd, hm, hp, ld, lm⟩ := hu.open_
  clear hu
  obtain ⟨W, hW⟩ : ∃ W, W = w.alloc (.cells #[.int .i64 x.p, .int .i64 x.q.v, .slice A x.q.f.length a, .slice C x.q.t.length c, .slice E x.d.length e, .slice H x.m.length h] 29) := ⟨_, rfl⟩
  have g0 : Below w.heap.size w W := by rw [hW]; exact below_alloc _ _
  have kB : Blk W w.heap.size 29 #[.int .i64 x.p, .int .i64 x.q.v, .slice A x.q.f.length a, .slice C x.q.t.length c, .slice E x.d.length e, .slice H x.m.length h] := by rw [hW]; exact Blk.new _ _ _
  have c0 := kB.cell' (i := 0) rfl
  have c1 := kB.cell' (i := 1) rfl
  have c2 := kB.cell' (i := 2) rfl
  have c3 := kB.cell' (i := 3) rfl
  have c4 := kB.cell' (i := 4) rfl
  have c5 := kB.cell' (i := 5) rfl
  replace hq := QvR.next g0 hq
  replace hd := SlI.next g0 hd
  replace hm := SlM.next g0 hm
  replace hx := RpR.next g0 hx
  clear hd hm
  unfold isPen
  rcases h1 : isRep x with _ | _
  · have HX : Hid (∀ s : InB W, RpR s.val s.val.heap.size (.agg #[.int .i64 x.p, .int .i64 x.q.v, .slice A x.q.f.length a, .slice C x.q.t.length c, .slice E x.d.length e, .slice H x.m.length h]) x) := fun s => RpR.next s.below hx
    have r0 := fun s : InB W => (kB.call s.below).cell' (i := 0) rfl
    have r1 := fun s : InB W => (kB.call s.below).cell' (i := 1) rfl
    have r2 := fun s : InB W => (kB.call s.below).cell' (i := 2) rfl
    have r3 := fun s : InB W => (kB.call s.below).cell' (i := 3) rfl
    have r4 := fun s : InB W => (kB.call s.below).cell' (i := 4) rfl
    have r5 := fun s : InB W => (kB.call s.below).cell' (i := 5) rfl
    have HC : Hid (∀ s : InB W, Calls Try.prog 117 #[.agg #[.int .i64 x.p, .int .i64 x.q.v, .slice A x.q.f.length a, .slice C x.q.t.length c, .slice E x.d.length e, .slice H x.m.length h]] s.val fun e w' => e = .returned (.bool false) ∧ Below s.val.heap.size s.val w') := fun s => by
      have := implIsRep_any _ x _ (HX.out s)
      rwa [h1] at this
    clear kB c0 c1 c2 c3 c4 c5 hq hx HX h1
    go_enter Try.func112, Try.ntmps112
    go_wp2
    rw [← hW]; clear hW
    (refine wp_region_inB (by kernel_rfl) (by kernel_rfl) ?_; (repeat (go_big_quiet_step ((go_at_call 117; exact InB.call (HC.out _))))); refine wpQuiet_nil ?_; intro w1 hw'; obtain ⟨s1, hw1⟩ := hw'; have hb1 := s1.below; rw [← hw1] at hb1; clear hw1 s1)
    go_wp2
    go_ret
    exact ⟨rfl, bthen g0 hb1⟩
  have hdr := drew_below W
  replace g0 := bthen g0 hdr
  replace hx := RpR.next hdr hx
  replace hq := QvR.next hdr hq
  replace kB := kB.call hdr
  replace c0 := kB.cell' (i := 0) rfl
  replace c1 := kB.cell' (i := 1) rfl
  replace c2 := kB.cell' (i := 2) rfl
  replace c3 := kB.cell' (i := 3) rfl
  replace c4 := kB.cell' (i := 4) rfl
  replace c5 := kB.cell' (i := 5) rfl
  clear hdr
  obtain ⟨B, hB⟩ : ∃ B, decide (x.q = pQ) = B := ⟨_, rfl⟩
  rw [hB]
  have HB := Lib.hid hB
  clear hB
  go_enter Try.func112, Try.ntmps112
  go_wp2
  rw [← hW]; clear hW
  go_region_held3 (fun W' => W'.cell? ⟨w.heap.size, 0, none⟩ = some (.int .i64 x.p) ∧ W'.cell? ⟨w.heap.size, 1, none⟩ = some (.int .i64 x.q.v) ∧ W'.cell? ⟨w.heap.size, 2, none⟩ = some (.slice A x.q.f.length a) ∧ W'.cell? ⟨w.heap.size, 3, none⟩ = some (.slice C x.q.t.length c) ∧ W'.cell? ⟨w.heap.size, 4, none⟩ = some (.slice E x.d.length e) ∧ W'.cell? ⟨w.heap.size, 5, none⟩ = some (.slice H x.m.length h))
    (first | exact ⟨c0, c1, c2, c3, c4, c5⟩)
    (first | (go_at_call 117; refine (implIsRep_any _ x _ hx).mono ?_; rintro e w1 ⟨rfl, hb1⟩; replace g0 := bthen g0 hb1; replace hx := RpR.next hb1 hx; replace hq := QvR.next hb1 hq; replace kB := kB.call hb1; replace c0 := kB.cell' (i := 0) rfl; replace c1 := kB.cell' (i := 1) rfl; replace c2 := kB.cell' (i := 2) rfl; replace c3 := kB.cell' (i := 3) rfl; replace c4 := kB.cell' (i := 4) rfl; replace c5 := kB.cell' (i := 5) rfl; rw [h1]) | (go_at_call 177; refine (pencilQuiver_any _).mono ?_; rintro e w1 ⟨vq, rfl, hQ, hb1⟩; replace g0 := bthen g0 hb1; replace hx := RpR.next hb1 hx; replace hq := QvR.next hb1 hq; replace kB := kB.call hb1; replace c0 := kB.cell' (i := 0) rfl; replace c1 := kB.cell' (i := 1) rfl; replace c2 := kB.cell' (i := 2) rfl; replace c3 := kB.cell' (i := 3) rfl; replace c4 := kB.cell' (i := 4) rfl; replace c5 := kB.cell' (i := 5) rfl) | (go_at_call 176; refine (implEqualQuivers_any _ _ x.q pQ _ hq hQ.rd).mono ?_; rintro e w1 ⟨rfl, hb1⟩; replace g0 := bthen g0 hb1; replace hx := RpR.next hb1 hx; replace hq := QvR.next hb1 hq; replace kB := kB.call hb1; replace c0 := kB.cell' (i := 0) rfl; replace c1 := kB.cell' (i := 1) rfl; replace c2 := kB.cell' (i := 2) rfl; replace c3 := kB.cell' (i := 3) rfl; replace c4 := kB.cell' (i := 4) rfl; replace c5 := kB.cell' (i := 5) rfl; rw [HB.out]))
  go_wp2
  go_ret
  exact ⟨rfl, g0⟩
set_option maxHeartbeats 1600000 in
set_option maxRecDepth 100000 in
theorem specIsPencil_any (u : Value) (x : Rp) (w : World) (hu : RpR w w.heap.size u x) :
    Calls Try.prog 109 #[u] w fun e w' => e = .returned (.bool (isPen x)) ∧ Below w.heap.size w w' := by
  have hx := hu
  obtain ⟨A, a, C, c, E, e, H, h, rfl, hq, hd, hm, hp, ld, lm⟩ := hu.open_
  clear hu
  obtain ⟨W, hW⟩ : ∃ W, W = w.alloc (.cells #[.int .i64 x.p, .int .i64 x.q.v, .slice A x.q.f.length a, .slice C x.q.t.length c, .slice E x.d.length e, .slice H x.m.length h] 29) := ⟨_, rfl⟩
  have g0 : Below w.heap.size w W := by rw [hW]; exact below_alloc _ _
  have kB : Blk W w.heap.size 29 #[.int .i64 x.p, .int .i64 x.q.v, .slice A x.q.f.length a, .slice C x.q.t.length c, .slice E x.d.length e, .slice H x.m.length h] := by rw [hW]; exact Blk.new _ _ _
  have c0 := kB.cell' (i := 0) rfl
  have c1 := kB.cell' (i := 1) rfl
  have c2 := kB.cell' (i := 2) rfl
  have c3 := kB.cell' (i := 3) rfl
  have c4 := kB.cell' (i := 4) rfl
  have c5 := kB.cell' (i := 5) rfl
  replace hq := QvR.next g0 hq
  replace hd := SlI.next g0 hd
  replace hm := SlM.next g0 hm
  replace hx := RpR.next g0 hx
  clear hd hm
  unfold isPen
  rcases h1 : isRep x with _ | _
  · have HX : Hid (∀ s : InB W, RpR s.val s.val.heap.size (.agg #[.int .i64 x.p, .int .i64 x.q.v, .slice A x.q.f.length a, .slice C x.q.t.length c, .slice E x.d.length e, .slice H x.m.length h]) x) := fun s => RpR.next s.below hx
    have r0 := fun s : InB W => (kB.call s.below).cell' (i := 0) rfl
    have r1 := fun s : InB W => (kB.call s.below).cell' (i := 1) rfl
    have r2 := fun s : InB W => (kB.call s.below).cell' (i := 2) rfl
    have r3 := fun s : InB W => (kB.call s.below).cell' (i := 3) rfl
    have r4 := fun s : InB W => (kB.call s.below).cell' (i := 4) rfl
    have r5 := fun s : InB W => (kB.call s.below).cell' (i := 5) rfl
    have HC : Hid (∀ s : InB W, Calls Try.prog 114 #[.agg #[.int .i64 x.p, .int .i64 x.q.v, .slice A x.q.f.length a, .slice C x.q.t.length c, .slice E x.d.length e, .slice H x.m.length h]] s.val fun e w' => e = .returned (.bool false) ∧ Below s.val.heap.size s.val w') := fun s => by
      have := specIsRep_any _ x _ (HX.out s)
      rwa [h1] at this
    clear kB c0 c1 c2 c3 c4 c5 hq hx HX h1
    go_enter Try.func109, Try.ntmps109
    go_wp2
    rw [← hW]; clear hW
    (refine wp_region_inB (by kernel_rfl) (by kernel_rfl) ?_; (repeat (go_big_quiet_step ((go_at_call 114; exact InB.call (HC.out _))))); refine wpQuiet_nil ?_; intro w1 hw'; obtain ⟨s1, hw1⟩ := hw'; have hb1 := s1.below; rw [← hw1] at hb1; clear hw1 s1)
    go_wp2
    go_ret
    exact ⟨rfl, bthen g0 hb1⟩
  have hdr := drew_below W
  replace g0 := bthen g0 hdr
  replace hx := RpR.next hdr hx
  replace hq := QvR.next hdr hq
  replace kB := kB.call hdr
  replace c0 := kB.cell' (i := 0) rfl
  replace c1 := kB.cell' (i := 1) rfl
  replace c2 := kB.cell' (i := 2) rfl
  replace c3 := kB.cell' (i := 3) rfl
  replace c4 := kB.cell' (i := 4) rfl
  replace c5 := kB.cell' (i := 5) rfl
  clear hdr
  obtain ⟨B, hB⟩ : ∃ B, decide (x.q = pQ) = B := ⟨_, rfl⟩
  rw [hB]
  have HB := Lib.hid hB
  clear hB
  go_enter Try.func109, Try.ntmps109
  go_wp2
  rw [← hW]; clear hW
  go_region_held3 (fun W' => W'.cell? ⟨w.heap.size, 0, none⟩ = some (.int .i64 x.p) ∧ W'.cell? ⟨w.heap.size, 1, none⟩ = some (.int .i64 x.q.v) ∧ W'.cell? ⟨w.heap.size, 2, none⟩ = some (.slice A x.q.f.length a) ∧ W'.cell? ⟨w.heap.size, 3, none⟩ = some (.slice C x.q.t.length c) ∧ W'.cell? ⟨w.heap.size, 4, none⟩ = some (.slice E x.d.length e) ∧ W'.cell? ⟨w.heap.size, 5, none⟩ = some (.slice H x.m.length h))
    (first | exact ⟨c0, c1, c2, c3, c4, c5⟩)
    (first | (go_at_call 114; refine (specIsRep_any _ x _ hx).mono ?_; rintro e w1 ⟨rfl, hb1⟩; replace g0 := bthen g0 hb1; replace hx := RpR.next hb1 hx; replace hq := QvR.next hb1 hq; replace kB := kB.call hb1; replace c0 := kB.cell' (i := 0) rfl; replace c1 := kB.cell' (i := 1) rfl; replace c2 := kB.cell' (i := 2) rfl; replace c3 := kB.cell' (i := 3) rfl; replace c4 := kB.cell' (i := 4) rfl; replace c5 := kB.cell' (i := 5) rfl; rw [h1]) | (go_at_call 172; refine (l26Quiver_any _).mono ?_; rintro e w1 ⟨vq, rfl, hQ, hb1⟩; replace g0 := bthen g0 hb1; replace hx := RpR.next hb1 hx; replace hq := QvR.next hb1 hq; replace kB := kB.call hb1; replace c0 := kB.cell' (i := 0) rfl; replace c1 := kB.cell' (i := 1) rfl; replace c2 := kB.cell' (i := 2) rfl; replace c3 := kB.cell' (i := 3) rfl; replace c4 := kB.cell' (i := 4) rfl; replace c5 := kB.cell' (i := 5) rfl) | (go_at_call 171; refine (specEqualQuivers_any _ _ x.q pQ _ hq hQ.rd).mono ?_; rintro e w1 ⟨rfl, hb1⟩; replace g0 := bthen g0 hb1; replace hx := RpR.next hb1 hx; replace hq := QvR.next hb1 hq; replace kB := kB.call hb1; replace c0 := kB.cell' (i := 0) rfl; replace c1 := kB.cell' (i := 1) rfl; replace c2 := kB.cell' (i := 2) rfl; replace c3 := kB.cell' (i := 3) rfl; replace c4 := kB.cell' (i := 4) rfl; replace c5 := kB.cell' (i := 5) rfl; rw [HB.out]))
  go_wp2
  go_ret
  exact ⟨rfl, g0⟩
end Go.Proofs.Ytjhllgldllbaaaa

/- PencilAt of the program. -/
namespace Go.Proofs.Ytjhllgldllbaaaa
set_option linter.unusedVariables false
set_option linter.unusedSimpArgs false
open Go.RowKit

theorem pen_at {x : Rp} (h : isPen x = true) : ∃ (C R : Nat) (fa fb : Nat → Nat → Int), x.d = [(C : Int), (R : Int)] ∧ x.m = [mxF R C fa, mxF R C fb] ∧ C ≤ 4 ∧ R ≤ 4 ∧ isFld x.p = true ∧ x.q = pQ ∧
    (∀ i j, i < R → j < C → 0 ≤ fa i j ∧ fa i j ≤ x.p - 1) ∧ (∀ i j, i < R → j < C → 0 ≤ fb i j ∧ fb i j ≤ x.p - 1) := by
  simp only [isPen, Bool.and_eq_true, decide_eq_true_eq] at h
  obtain ⟨h1, h2⟩ := h
  obtain ⟨hp, hd, hl, _⟩ := isRep_t.1 h1
  have hdl := (areDims_t.1 hd).2.1
  rw [h2] at hdl hl
  obtain ⟨m0, nf, nt, yf, yt, em, ef, et, df, dt, eM, he, b1, b2, _⟩ := isRep_at h1 (k := 0) (by rw [h2]; decide)
  obtain ⟨m1, nf', nt', yf', yt', em', ef', et', df', dt', eM', he', b1', b2', _⟩ := isRep_at h1 (k := 1) (by rw [h2]; decide)
  rw [h2] at ef et ef' et'
  simp only [pQ, List.getElem?_cons_zero, List.getElem?_cons_succ, Option.some.injEq] at ef et ef' et' hdl hl
  obtain rfl : nf = 0 := by omega
  obtain rfl : nt = 1 := by omega
  obtain rfl : nf' = 0 := by omega
  obtain rfl : nt' = 1 := by omega
  rw [df] at df'
  rw [dt] at dt'
  injection df' with df'
  injection dt' with dt'
  obtain rfl : yf = yf' := by omega
  obtain rfl : yt = yt' := by omega
  have hd2 : x.d.length = 2 := by omega
  have hm2 : x.m.length = 2 := by simpa using hl
  refine ⟨yf, yt, entry m0.a yf, entry m1.a yf, ?_, ?_, b1, b2, hp, h2, he, he'⟩
  · match hx : x.d, hd2 with
    | [a, b], _ =>
      rw [hx] at df dt
      simp only [List.getElem?_cons_zero, List.getElem?_cons_succ, Option.some.injEq] at df dt
      rw [df, dt]
  · match hx : x.m, hm2 with
    | [a, b], _ =>
      rw [hx] at em em'
      simp only [List.getElem?_cons_zero, List.getElem?_cons_succ, Option.some.injEq] at em em'
      rw [em, em', ← eM, ← eM']

def penM (x : Rp) (a b : Int) : Mx := mxF ((x.m.getD 0 mx0).r.toNat) ((x.m.getD 0 mx0).c.toNat) (plF x.p b (plF x.p a (fun _ _ => 0) (entry (x.m.getD 0 mx0).a (x.m.getD 0 mx0).c.toNat)) (entry (x.m.getD 1 mx0).a (x.m.getD 0 mx0).c.toNat))
theorem entry_flat {r c i j : Nat} (f : Nat → Nat → Int) (hi : i < r) (hj : j < c) : entry (flat r c f) c i j = f i j := flat_getD f hi hj
theorem penM_of {x : Rp} {a b : Int} {C R : Nat} {fa fb : Nat → Nat → Int} (hm : x.m = [mxF R C fa, mxF R C fb]) : penM x a b = mxF R C (plF x.p b (plF x.p a (fun _ _ => 0) fa) fb) := by
  simp only [penM, hm, List.getD_cons_zero, List.getD_cons_succ, mxF, Int.toNat_natCast]
  rw [mx_ext]
  refine ⟨rfl, rfl, flat_congr fun i j hi hj => ?_⟩
  simp only [plF, entry_flat fa hi hj, entry_flat fb hi hj]
theorem plF_rng {p k : Int} {f g : Nat → Nat → Int} (hp : 2 ≤ p ∧ p ≤ 5) (i j : Nat) : 0 ≤ plF p k f g i j ∧ plF p k f g i j ≤ 4 := by
  have h1 := Int.emod_nonneg (f i j + k * g i j) (show p ≠ 0 by omega)
  have h2 := Int.emod_lt_of_pos (f i j + k * g i j) (show 0 < p by omega)
  unfold plF
  omega
end Go.Proofs.Ytjhllgldllbaaaa

/- The program's pencilAt. -/
namespace Go.Proofs.Ytjhllgldllbaaaa
set_option linter.unusedVariables false
set_option linter.unusedSimpArgs false
open Go.RowKit
set_option maxHeartbeats 6400000 in
set_option maxRecDepth 100000 in
theorem pencilAt_any (u : Value) (x : Rp) (a b : Int) (w0 : World) (hu : RpR w0 w0.heap.size u x) (hx : isPen x = true) (ha : 0 ≤ a ∧ a ≤ 4) (hb0 : 0 ≤ b ∧ b ≤ 4) :
    Calls Try.prog 113 #[u, .int .i64 a, .int .i64 b] w0 fun e w' => ∃ r, e = .returned r ∧ MxO w' w0.heap.size w'.heap.size r (penM x a b) ∧ Below w0.heap.size w0 w' := by
  obtain ⟨C, R, fa, fb, ed, em, hC, hR, hp, hqq, rfa, rfb⟩ := pen_at hx
  clear hqq
  have hpr := isFld_r hp
  have HPM := Lib.hid (penM_of (a := a) (b := b) em)
  obtain ⟨UA, ua, UC, uc, UE, ue, UH, uh, rfl, hq, hd, hm, hpI, ld, lm⟩ := hu.open_
  clear hu hq
  rw [ed] at hd ⊢
  rw [em] at hm ⊢
  have zd : ([(C : Int), (R : Int)] : List Int).length = 2 := rfl
  have zm : ([mxF R C fa, mxF R C fb] : List Mx).length = 2 := rfl
  obtain ⟨bd, od, x0, rfl, hbd, HX0, d0, _⟩ := SlI.at_ (k := 0) hd (by simp)
  obtain ⟨bd', od', x1, e1, hbd', HX1, d1, _⟩ := SlI.at_ (k := 1) hd (by simp)
  injection e1 with e1
  injection e1 with e1 e2
  subst e1 e2
  obtain ⟨bm, om, m0, A0, c0, rfl, hbm, HM0, y0, y1, y2, hs0, r0, r1, _⟩ := SlM.at_ (k := 0) hm (by simp)
  obtain ⟨bm', om', m1, A1, c1, e1, hbm', HM1, z0, z1, z2, hs1, r2, r3, _⟩ := SlM.at_ (k := 1) hm (by simp)
  injection e1 with e1
  injection e1 with e1 e2
  subst e1 e2
  have t0 := HX0.out
  have t1 := HX1.out
  have t2 := HM0.out
  have t3 := HM1.out
  simp only [List.getElem?_cons_zero, List.getElem?_cons_succ, Option.some.injEq] at t0 t1 t2 t3
  subst t0 t1 t2 t3
  simp only [Nat.zero_mul, Nat.add_zero, Nat.one_mul] at y0 y1 y2 z0 z1 z2 d0 d1
  have q1 : (mxF R C fa).r = (R : Int) := rfl
  have q2 : (mxF R C fa).c = (C : Int) := rfl
  have q3 : (mxF R C fb).r = (R : Int) := rfl
  have q4 : (mxF R C fb).c = (C : Int) := rfl
  obtain ⟨LA, hLA⟩ : ∃ L, (mxF R C fa).a.length = L := ⟨_, rfl⟩
  obtain ⟨LB, hLB⟩ : ∃ L, (mxF R C fb).a.length = L := ⟨_, rfl⟩
  have hM0 : MxR w0 w0.heap.size (.agg #[.int .i64 (R : Int), .int .i64 C, .slice A0 LA c0]) (mxF R C fa) := ⟨_, rfl, by rw [← hLA]; exact hs0, r0, r1⟩
  have hM1 : MxR w0 w0.heap.size (.agg #[.int .i64 (R : Int), .int .i64 C, .slice A1 LB c1]) (mxF R C fb) := ⟨_, rfl, by rw [← hLB]; exact hs1, r2, r3⟩
  rw [q1] at y0
  rw [q2] at y1
  rw [hLA] at y2
  rw [q3] at z0
  rw [q4] at z1
  rw [hLB] at z2
  rw [zd, zm]
  clear q1 q2 q3 q4 hLA hLB hs0 hs1 r0 r1 r2 r3 zd zm hd hm ed em HX0 HX1 HM0 HM1 ld lm hbd' hbm'
  have HFA := Lib.hid rfa
  have HFB := Lib.hid rfb
  clear rfa rfb
  obtain ⟨p, hpp⟩ : ∃ p, x.p = p := ⟨_, rfl⟩
  rw [hpp] at hp hpr hpI HFA HFB HPM ⊢
  generalize hMM : penM x a b = PM at HPM ⊢
  clear hMM hpp hx
  obtain ⟨W, hW⟩ : ∃ W, W = (w0.alloc (.cells #[.int .i64 p, .int .i64 x.q.v, .slice UA x.q.f.length ua, .slice UC x.q.t.length uc, .slice (some ⟨bd, od, none⟩) 2 ue, .slice (some ⟨bm, om, none⟩) 2 uh] 29)).alloc (.cells #[.int .i64 0, .int .i64 0, .slice none 0 0] 75) := ⟨_, rfl⟩
  have g0 : Below w0.heap.size w0 W := by rw [hW]; exact ((Below.refl _ _).alloc (Nat.le_refl _) _).alloc (by simp) _
  have kB : Blk W w0.heap.size 29 #[.int .i64 p, .int .i64 x.q.v, .slice UA x.q.f.length ua, .slice UC x.q.t.length uc, .slice (some ⟨bd, od, none⟩) 2 ue, .slice (some ⟨bm, om, none⟩) 2 uh] := by rw [hW]; exact (Blk.new _ _ _).alloc _
  have kR : Blk W (w0.heap.size + 1) 75 #[.int .i64 0, .int .i64 0, .slice none 0 0] := by
    rw [hW]
    have := Blk.new (w0.alloc (.cells #[.int .i64 p, .int .i64 x.q.v, .slice UA x.q.f.length ua, .slice UC x.q.t.length uc, .slice (some ⟨bd, od, none⟩) 2 ue, .slice (some ⟨bm, om, none⟩) 2 uh] 29)) 75 #[.int .i64 0, .int .i64 0, .slice none 0 0]
    simpa only [World.size_alloc] using this
  have sz : W.heap.size = w0.heap.size + 1 + 1 := by rw [hW]; simp
  have SZ := Lib.hid sz
  have d0' := bcell g0 hbd d0
  have d1' := bcell g0 hbd d1
  have y0' := bcell g0 hbm y0
  have y1' := bcell g0 hbm y1
  have y2' := bcell g0 hbm y2
  have z0' := bcell g0 hbm z0
  have z1' := bcell g0 hbm z1
  have z2' := bcell g0 hbm z2
  have hbd2 : bd < W.heap.size := by omega
  have hbm2 : bm < W.heap.size := by omega
  have HM0 := Lib.hid (MxR.next g0 hM0)
  have HM1 := Lib.hid (MxR.next g0 hM1)
  have GW0 := Lib.hid g0
  clear sz d0 d1 y0 y1 y2 z0 z1 z2 hbd hbm hM0 hM1 g0
  go_enter Try.func113, Try.ntmps113
  go_wp2
  rw [← hW]; clear hW
  have HWS : Hid (w0.heap.size < W.heap.size) := by show _ < _; have := SZ.out; omega
  refine wp_region_net (by kernel_rfl) [.eq (.pointer (some ⟨w0.heap.size, 0, none⟩)), .eq (.int .i64 p), .eq (.pointer (some ⟨w0.heap.size, 4, none⟩)), .eq (.slice (some ⟨bd, od, none⟩) 2 ue), .eq (.pointer (some ⟨bd, od + 1, none⟩)), .eq (.int .i64 R), .eq (.pointer (some ⟨w0.heap.size, 4, none⟩)), .eq (.slice (some ⟨bd, od, none⟩) 2 ue), .eq (.pointer (some ⟨bd, od, none⟩)), .eq (.int .i64 C), rel 10 (fun u lo hi w => MxO w lo hi u (mxF R C (fun _ _ => 0))), .eq (.int .i64 a), .eq (.pointer (some ⟨w0.heap.size, 5, none⟩)), .eq (.slice (some ⟨bm, om, none⟩) 2 uh), .eq (.pointer (some ⟨bm, om, none⟩)), .eq (.agg #[.int .i64 R, .int .i64 C, .slice A0 LA c0]), rel 16 (fun u lo hi w => MxO w lo hi u (mxF R C (plF p a (fun _ _ => 0) fa))), rel 17 (fun u lo hi w => ∃ g, u = .pointer (some ⟨g, 0, none⟩) ∧ (lo ≤ g ∧ g < hi) ∧ Blk w g 75 #[.int .i64 0, .int .i64 0, .slice none 0 0])] [[], [0], [], [2], [2, 3], [2, 3, 4], [], [6], [6, 7], [6, 7, 8], [2, 3, 4, 5, 6, 7, 8, 9], [], [], [12], [12, 13], [12, 13, 14], [0, 1, 2, 3, 4, 5, 6, 7, 8, 9, 10, 11, 12, 13, 14, 15], [], [0, 1, 2, 3, 4, 5, 6, 7, 8, 9, 10, 11, 12, 13, 14, 15, 16, 17]] 18 (by kernel_rfl) ⟨trivial, trivial, trivial, trivial, trivial, trivial, trivial, trivial, trivial, trivial, rel_stable (fun u lo hi w w' h hb => h.below hb), trivial, trivial, trivial, trivial, trivial, rel_stable (fun u lo hi w w' h hb => h.below hb), rel_stable (fun u lo hi w w' ⟨g, e, h1, h⟩ hb => ⟨g, e, h1, h.call hb⟩), trivial⟩ ⟨?_, ?_, ?_, ?_, ?_, ?_, ?_, ?_, ?_, ?_, ?_, ?_, ?_, ?_, ?_, ?_, ?_, ?_, trivial⟩ ?_
  · intro x w hb hk Q' hQ
    clear hk
    simp only [netAct, dstAt, List.getElem?_toArray, List.getElem?_cons_zero, List.getElem?_cons_succ, Option.bind_some, Act.put, List.setIfInBounds_toArray, List.set_cons_zero, List.set_cons_succ] at hQ ⊢
    go_wp2
    exact hQ (.pointer (some ⟨w0.heap.size, 0, none⟩)) _ (Below.refl _ _) rfl
  · intro x w hb hk Q' hQ
    have h0 : x.v 0 = .pointer (some ⟨w0.heap.size, 0, none⟩) := (hk 0 (by decide)).1
    clear hk
    simp only [netAct, dstAt, List.getElem?_toArray, List.getElem?_cons_zero, List.getElem?_cons_succ, Option.bind_some, Act.put, List.setIfInBounds_toArray, List.set_cons_zero, List.set_cons_succ] at hQ ⊢
    simp only [h0] at hQ ⊢
    clear h0
    have z0 := (kB.call hb).cell' (i := 0) rfl
    go_wp2
    exact hQ (.int .i64 p) _ (Below.refl _ _) rfl
  · intro x w hb hk Q' hQ
    clear hk
    simp only [netAct, dstAt, List.getElem?_toArray, List.getElem?_cons_zero, List.getElem?_cons_succ, Option.bind_some, Act.put, List.setIfInBounds_toArray, List.set_cons_zero, List.set_cons_succ] at hQ ⊢
    go_wp2
    exact hQ (.pointer (some ⟨w0.heap.size, 4, none⟩)) _ (Below.refl _ _) rfl
  · intro x w hb hk Q' hQ
    have h2 : x.v 2 = .pointer (some ⟨w0.heap.size, 4, none⟩) := (hk 2 (by decide)).1
    clear hk
    simp only [netAct, dstAt, List.getElem?_toArray, List.getElem?_cons_zero, List.getElem?_cons_succ, Option.bind_some, Act.put, List.setIfInBounds_toArray, List.set_cons_zero, List.set_cons_succ] at hQ ⊢
    simp only [h2] at hQ ⊢
    clear h2
    have z0 := (kB.call hb).cell' (i := 4) rfl
    go_wp2
    exact hQ (.slice (some ⟨bd, od, none⟩) 2 ue) _ (Below.refl _ _) rfl
  · intro x w hb hk Q' hQ
    have h3 : x.v 3 = .slice (some ⟨bd, od, none⟩) 2 ue := (hk 3 (by decide)).1
    clear hk
    simp only [netAct, dstAt, List.getElem?_toArray, List.getElem?_cons_zero, List.getElem?_cons_succ, Option.bind_some, Act.put, List.setIfInBounds_toArray, List.set_cons_zero, List.set_cons_succ] at hQ ⊢
    simp only [h3] at hQ ⊢
    clear h3
    go_wp2
    exact hQ (.pointer (some ⟨bd, od + 1, none⟩)) _ (Below.refl _ _) rfl
  · intro x w hb hk Q' hQ
    have h4 : x.v 4 = .pointer (some ⟨bd, od + 1, none⟩) := (hk 4 (by decide)).1
    clear hk
    simp only [netAct, dstAt, List.getElem?_toArray, List.getElem?_cons_zero, List.getElem?_cons_succ, Option.bind_some, Act.put, List.setIfInBounds_toArray, List.set_cons_zero, List.set_cons_succ] at hQ ⊢
    simp only [h4] at hQ ⊢
    clear h4
    have z0 := bcell hb hbd2 d1'
    go_wp2
    exact hQ (.int .i64 R) _ (Below.refl _ _) rfl
  · intro x w hb hk Q' hQ
    clear hk
    simp only [netAct, dstAt, List.getElem?_toArray, List.getElem?_cons_zero, List.getElem?_cons_succ, Option.bind_some, Act.put, List.setIfInBounds_toArray, List.set_cons_zero, List.set_cons_succ] at hQ ⊢
    go_wp2
    exact hQ (.pointer (some ⟨w0.heap.size, 4, none⟩)) _ (Below.refl _ _) rfl
  · intro x w hb hk Q' hQ
    have h6 : x.v 6 = .pointer (some ⟨w0.heap.size, 4, none⟩) := (hk 6 (by decide)).1
    clear hk
    simp only [netAct, dstAt, List.getElem?_toArray, List.getElem?_cons_zero, List.getElem?_cons_succ, Option.bind_some, Act.put, List.setIfInBounds_toArray, List.set_cons_zero, List.set_cons_succ] at hQ ⊢
    simp only [h6] at hQ ⊢
    clear h6
    have z0 := (kB.call hb).cell' (i := 4) rfl
    go_wp2
    exact hQ (.slice (some ⟨bd, od, none⟩) 2 ue) _ (Below.refl _ _) rfl
  · intro x w hb hk Q' hQ
    have h7 : x.v 7 = .slice (some ⟨bd, od, none⟩) 2 ue := (hk 7 (by decide)).1
    clear hk
    simp only [netAct, dstAt, List.getElem?_toArray, List.getElem?_cons_zero, List.getElem?_cons_succ, Option.bind_some, Act.put, List.setIfInBounds_toArray, List.set_cons_zero, List.set_cons_succ] at hQ ⊢
    simp only [h7] at hQ ⊢
    clear h7
    go_wp2
    exact hQ (.pointer (some ⟨bd, od, none⟩)) _ (Below.refl _ _) rfl
  · intro x w hb hk Q' hQ
    have h8 : x.v 8 = .pointer (some ⟨bd, od, none⟩) := (hk 8 (by decide)).1
    clear hk
    simp only [netAct, dstAt, List.getElem?_toArray, List.getElem?_cons_zero, List.getElem?_cons_succ, Option.bind_some, Act.put, List.setIfInBounds_toArray, List.set_cons_zero, List.set_cons_succ] at hQ ⊢
    simp only [h8] at hQ ⊢
    clear h8
    have z0 := bcell hb hbd2 d0'
    go_wp2
    exact hQ (.int .i64 C) _ (Below.refl _ _) rfl
  · intro x w hb hk Q' hQ
    have h2 : x.v 2 = .pointer (some ⟨w0.heap.size, 4, none⟩) := (hk 2 (by decide)).1
    have h3 : x.v 3 = .slice (some ⟨bd, od, none⟩) 2 ue := (hk 3 (by decide)).1
    have h4 : x.v 4 = .pointer (some ⟨bd, od + 1, none⟩) := (hk 4 (by decide)).1
    have h5 : x.v 5 = .int .i64 R := (hk 5 (by decide)).1
    have h6 : x.v 6 = .pointer (some ⟨w0.heap.size, 4, none⟩) := (hk 6 (by decide)).1
    have h7 : x.v 7 = .slice (some ⟨bd, od, none⟩) 2 ue := (hk 7 (by decide)).1
    have h8 : x.v 8 = .pointer (some ⟨bd, od, none⟩) := (hk 8 (by decide)).1
    have h9 : x.v 9 = .int .i64 C := (hk 9 (by decide)).1
    clear hk
    simp only [netAct, dstAt, List.getElem?_toArray, List.getElem?_cons_zero, List.getElem?_cons_succ, Option.bind_some, Act.put, List.setIfInBounds_toArray, List.set_cons_zero, List.set_cons_succ] at hQ ⊢
    simp only [h2, h3, h4, h5, h6, h7, h8, h9] at hQ ⊢
    clear h2 h3 h4 h5 h6 h7 h8 h9
    go_wp2_with fail
    refine (zero_any (R : Int) C _ (by omega) (by omega) (by omega) (by omega)).mono ?_; rintro e w5 ⟨v5, rfl, hO5, hb5⟩
    rw [zmx_flat] at hO5
    go_wp2
    exact hQ _ _ hb5 hO5
  · intro x w hb hk Q' hQ
    clear hk
    simp only [netAct, dstAt, List.getElem?_toArray, List.getElem?_cons_zero, List.getElem?_cons_succ, Option.bind_some, Act.put, List.setIfInBounds_toArray, List.set_cons_zero, List.set_cons_succ] at hQ ⊢
    go_wp2
    exact hQ (.int .i64 a) _ (Below.refl _ _) rfl
  · intro x w hb hk Q' hQ
    clear hk
    simp only [netAct, dstAt, List.getElem?_toArray, List.getElem?_cons_zero, List.getElem?_cons_succ, Option.bind_some, Act.put, List.setIfInBounds_toArray, List.set_cons_zero, List.set_cons_succ] at hQ ⊢
    go_wp2
    exact hQ (.pointer (some ⟨w0.heap.size, 5, none⟩)) _ (Below.refl _ _) rfl
  · intro x w hb hk Q' hQ
    have h12 : x.v 12 = .pointer (some ⟨w0.heap.size, 5, none⟩) := (hk 12 (by decide)).1
    clear hk
    simp only [netAct, dstAt, List.getElem?_toArray, List.getElem?_cons_zero, List.getElem?_cons_succ, Option.bind_some, Act.put, List.setIfInBounds_toArray, List.set_cons_zero, List.set_cons_succ] at hQ ⊢
    simp only [h12] at hQ ⊢
    clear h12
    have z0 := (kB.call hb).cell' (i := 5) rfl
    go_wp2
    exact hQ (.slice (some ⟨bm, om, none⟩) 2 uh) _ (Below.refl _ _) rfl
  · intro x w hb hk Q' hQ
    have h13 : x.v 13 = .slice (some ⟨bm, om, none⟩) 2 uh := (hk 13 (by decide)).1
    clear hk
    simp only [netAct, dstAt, List.getElem?_toArray, List.getElem?_cons_zero, List.getElem?_cons_succ, Option.bind_some, Act.put, List.setIfInBounds_toArray, List.set_cons_zero, List.set_cons_succ] at hQ ⊢
    simp only [h13] at hQ ⊢
    clear h13
    go_wp2
    exact hQ (.pointer (some ⟨bm, om, none⟩)) _ (Below.refl _ _) rfl
  · intro x w hb hk Q' hQ
    have h14 : x.v 14 = .pointer (some ⟨bm, om, none⟩) := (hk 14 (by decide)).1
    clear hk
    simp only [netAct, dstAt, List.getElem?_toArray, List.getElem?_cons_zero, List.getElem?_cons_succ, Option.bind_some, Act.put, List.setIfInBounds_toArray, List.set_cons_zero, List.set_cons_succ] at hQ ⊢
    simp only [h14] at hQ ⊢
    clear h14
    have q0 := bcell hb hbm2 y0'
    have q1 := bcell hb hbm2 y1'
    have q2 := bcell hb hbm2 y2'
    go_wp2
    exact hQ (.agg #[.int .i64 R, .int .i64 C, .slice A0 LA c0]) _ (Below.refl _ _) rfl
  · intro x w hb hk Q' hQ
    have h0 : x.v 0 = .pointer (some ⟨w0.heap.size, 0, none⟩) := (hk 0 (by decide)).1
    have h1 : x.v 1 = .int .i64 p := (hk 1 (by decide)).1
    have h2 : x.v 2 = .pointer (some ⟨w0.heap.size, 4, none⟩) := (hk 2 (by decide)).1
    have h3 : x.v 3 = .slice (some ⟨bd, od, none⟩) 2 ue := (hk 3 (by decide)).1
    have h4 : x.v 4 = .pointer (some ⟨bd, od + 1, none⟩) := (hk 4 (by decide)).1
    have h5 : x.v 5 = .int .i64 R := (hk 5 (by decide)).1
    have h6 : x.v 6 = .pointer (some ⟨w0.heap.size, 4, none⟩) := (hk 6 (by decide)).1
    have h7 : x.v 7 = .slice (some ⟨bd, od, none⟩) 2 ue := (hk 7 (by decide)).1
    have h8 : x.v 8 = .pointer (some ⟨bd, od, none⟩) := (hk 8 (by decide)).1
    have h9 : x.v 9 = .int .i64 C := (hk 9 (by decide)).1
    have h10 : MxO w (x.lo 10) (x.hi 10) (x.v 10) (mxF R C (fun _ _ => 0)) := (hk 10 (by decide)).1
    have h11 : x.v 11 = .int .i64 a := (hk 11 (by decide)).1
    have h12 : x.v 12 = .pointer (some ⟨w0.heap.size, 5, none⟩) := (hk 12 (by decide)).1
    have h13 : x.v 13 = .slice (some ⟨bm, om, none⟩) 2 uh := (hk 13 (by decide)).1
    have h14 : x.v 14 = .pointer (some ⟨bm, om, none⟩) := (hk 14 (by decide)).1
    have h15 : x.v 15 = .agg #[.int .i64 R, .int .i64 C, .slice A0 LA c0] := (hk 15 (by decide)).1
    have s10 := (hk 10 (by decide)).2
    clear hk
    simp only [netAct, dstAt, List.getElem?_toArray, List.getElem?_cons_zero, List.getElem?_cons_succ, Option.bind_some, Act.put, List.setIfInBounds_toArray, List.set_cons_zero, List.set_cons_succ] at hQ ⊢
    simp only [h0, h1, h2, h3, h4, h5, h6, h7, h8, h9, h11, h12, h13, h14, h15] at hQ ⊢
    clear h0 h1 h2 h3 h4 h5 h6 h7 h8 h9 h11 h12 h13 h14 h15
    obtain ⟨A2, c2, e2⟩ := h10.form
    simp only [mxF] at e2
    have h10r := h10.rd
    rw [e2] at h10r hQ ⊢
    have H10 := Lib.hid h10r
    clear h10 h10r
    go_wp2_with fail
    refine (plus_any p a _ _ R C (fun _ _ => 0) fa _ hpr (by omega) H10.out (MxR.more hb.size (MxR.below hb HM0.out)) (by omega) (by omega) (fun _ _ _ _ => by omega) (fun i j hi hj => by have := HFA.out i j hi hj; omega)).mono ?_; rintro e w5 ⟨v5, rfl, hO5, hb5⟩
    go_wp2
    exact hQ _ _ hb5 hO5
  · intro x w hb hk Q' hQ
    clear hk
    simp only [netAct, dstAt, List.getElem?_toArray, List.getElem?_cons_zero, List.getElem?_cons_succ, Option.bind_some, Act.put, List.setIfInBounds_toArray, List.set_cons_zero, List.set_cons_succ] at hQ ⊢
    go_wp2
    exact hQ _ _ (below_alloc _ _) ⟨_, rfl, ⟨Nat.le_refl _, by show w.heap.size < (w.alloc _).heap.size; simp⟩, Blk.new _ _ _⟩
  · intro x w hb hk hiv hdj
    have h0 : x.v 0 = .pointer (some ⟨w0.heap.size, 0, none⟩) := hk 0 (by decide)
    have h1 : x.v 1 = .int .i64 p := hk 1 (by decide)
    have h2 : x.v 2 = .pointer (some ⟨w0.heap.size, 4, none⟩) := hk 2 (by decide)
    have h3 : x.v 3 = .slice (some ⟨bd, od, none⟩) 2 ue := hk 3 (by decide)
    have h4 : x.v 4 = .pointer (some ⟨bd, od + 1, none⟩) := hk 4 (by decide)
    have h5 : x.v 5 = .int .i64 R := hk 5 (by decide)
    have h6 : x.v 6 = .pointer (some ⟨w0.heap.size, 4, none⟩) := hk 6 (by decide)
    have h7 : x.v 7 = .slice (some ⟨bd, od, none⟩) 2 ue := hk 7 (by decide)
    have h8 : x.v 8 = .pointer (some ⟨bd, od, none⟩) := hk 8 (by decide)
    have h9 : x.v 9 = .int .i64 C := hk 9 (by decide)
    have h10 : MxO w (x.lo 10) (x.hi 10) (x.v 10) (mxF R C (fun _ _ => 0)) := hk 10 (by decide)
    have h11 : x.v 11 = .int .i64 a := hk 11 (by decide)
    have h12 : x.v 12 = .pointer (some ⟨w0.heap.size, 5, none⟩) := hk 12 (by decide)
    have h13 : x.v 13 = .slice (some ⟨bm, om, none⟩) 2 uh := hk 13 (by decide)
    have h14 : x.v 14 = .pointer (some ⟨bm, om, none⟩) := hk 14 (by decide)
    have h15 : x.v 15 = .agg #[.int .i64 R, .int .i64 C, .slice A0 LA c0] := hk 15 (by decide)
    have h16 : MxO w (x.lo 16) (x.hi 16) (x.v 16) (mxF R C (plF p a (fun _ _ => 0) fa)) := hk 16 (by decide)
    have h17 : ∃ g, (x.v 17) = .pointer (some ⟨g, 0, none⟩) ∧ ((x.lo 17) ≤ g ∧ g < (x.hi 17)) ∧ Blk w g 75 #[.int .i64 0, .int .i64 0, .slice none 0 0] := hk 17 (by decide)
    clear hk
    simp only [netAct, dstAt, List.getElem?_toArray, List.getElem?_cons_zero, List.getElem?_cons_succ, Option.bind_some, Act.put, List.setIfInBounds_toArray, List.set_cons_zero, List.set_cons_succ]
    simp only [List.drop_succ_cons, List.drop_zero, h0, h1, h2, h3, h4, h5, h6, h7, h8, h9, h11, h12, h13, h14, h15]
    clear h0 h1 h2 h3 h4 h5 h6 h7 h8 h9 h11 h12 h13 h14 h15
    obtain ⟨gR, e17, hg, kG⟩ := h17
    obtain ⟨A2, c2, e16⟩ := h16.form
    simp only [mxF] at e16
    obtain ⟨N2, hN2⟩ : ∃ n, (flat R C (plF p a (fun _ _ => 0) fa)).length = n := ⟨_, rfl⟩
    rw [hN2] at e16
    rw [e16] at h16
    rw [e16, e17]
    have i16 := hiv 16 (by decide)
    have i17 := hiv 17 (by decide)
    have d167 := hdj 16 17 (by decide) (by decide) (by decide)
    clear hiv hdj e16 e17 h10 hN2
    have frG := kG.frozen
    have r0 := kG.cell' (i := 0) rfl
    have r1 := kG.cell' (i := 1) rfl
    have r2 := kG.cell' (i := 2) rfl
    have hbs := hb.size
    obtain ⟨W3, e3⟩ : ∃ u, u = (((w.setCell ⟨gR, 0, none⟩ (.int .i64 R)).setCell ⟨gR, 1, none⟩ (.int .i64 C)).setCell ⟨gR, 2, none⟩ (.slice A2 N2 c2)) := ⟨_, rfl⟩
    have kG3 : Blk W3 gR 75 #[.int .i64 R, .int .i64 C, .slice A2 N2 c2] := by rw [e3]; exact (((kG.set_ 0 _).set_ 1 _).set_ 2 _)
    have hc : Chg gR (gR + 1) w W3 := by rw [e3]; exact chg3 _ _ _ _ _
    have kB3 := (kB.call hb).chg hc (by have := HWS.out; omega)
    have kR3 := (kR.call hb).chg hc (by have := SZ.out; omega)
    have gW3 := hb.trans (hc.below (B := W.heap.size) (by omega) (by omega))
    have h16' := (h16.chg hc (by omega)).rd
    have H16 := Lib.hid h16'
    have s3 := hc.size
    clear h16 h16' kG hb hc d167 i16 i17 hg kB kR
    go_wp2
    rw [← e3]
    clear e3 frG r0 r1 r2 hbs
    have gs3 := gW3.size
    have hbd3 : bd < W3.heap.size := by omega
    have hbm3 : bm < W3.heap.size := by omega
    have z0'' := bcell gW3 hbm2 z0'
    have z1'' := bcell gW3 hbm2 z1'
    have z2'' := bcell gW3 hbm2 z2'
    refine wp_region_net (by kernel_rfl) [.eq (.pointer (some ⟨w0.heap.size, 0, none⟩)), .eq (.int .i64 p), .eq (.agg #[.int .i64 R, .int .i64 C, .slice A2 N2 c2]), .eq (.int .i64 b), .eq (.pointer (some ⟨w0.heap.size, 5, none⟩)), .eq (.slice (some ⟨bm, om, none⟩) 2 uh), .eq (.pointer (some ⟨bm, om + 3, none⟩)), .eq (.agg #[.int .i64 R, .int .i64 C, .slice A1 LB c1]), rel 8 (fun u lo hi w => MxO w lo hi u PM)] [[], [0], [], [], [], [4], [4, 5], [4, 5, 6], [0, 1, 2, 3, 4, 5, 6, 7], [0, 1, 2, 3, 4, 5, 6, 7, 8]] 9 (by kernel_rfl) ⟨trivial, trivial, trivial, trivial, trivial, trivial, trivial, trivial, rel_stable (fun u lo hi w w' h hb => h.below hb), trivial⟩ ⟨?_, ?_, ?_, ?_, ?_, ?_, ?_, ?_, ?_, trivial⟩ ?_
    · intro x w hb hk Q' hQ
      clear hk
      simp only [netAct, dstAt, List.getElem?_toArray, List.getElem?_cons_zero, List.getElem?_cons_succ, Option.bind_some, Act.put, List.setIfInBounds_toArray, List.set_cons_zero, List.set_cons_succ] at hQ ⊢
      go_wp2
      exact hQ (.pointer (some ⟨w0.heap.size, 0, none⟩)) _ (Below.refl _ _) rfl
    · intro x w hb hk Q' hQ
      have h0 : x.v 0 = .pointer (some ⟨w0.heap.size, 0, none⟩) := (hk 0 (by decide)).1
      clear hk
      simp only [netAct, dstAt, List.getElem?_toArray, List.getElem?_cons_zero, List.getElem?_cons_succ, Option.bind_some, Act.put, List.setIfInBounds_toArray, List.set_cons_zero, List.set_cons_succ] at hQ ⊢
      simp only [h0] at hQ ⊢
      clear h0
      have z0 := (kB3.call hb).cell' (i := 0) rfl
      go_wp2
      exact hQ (.int .i64 p) _ (Below.refl _ _) rfl
    · intro x w hb hk Q' hQ
      clear hk
      simp only [netAct, dstAt, List.getElem?_toArray, List.getElem?_cons_zero, List.getElem?_cons_succ, Option.bind_some, Act.put, List.setIfInBounds_toArray, List.set_cons_zero, List.set_cons_succ] at hQ ⊢
      have q0 := (kG3.call hb).cell' (i := 0) rfl
      have q1 := (kG3.call hb).cell' (i := 1) rfl
      have q2 := (kG3.call hb).cell' (i := 2) rfl
      go_wp2
      exact hQ (.agg #[.int .i64 R, .int .i64 C, .slice A2 N2 c2]) _ (Below.refl _ _) rfl
    · intro x w hb hk Q' hQ
      clear hk
      simp only [netAct, dstAt, List.getElem?_toArray, List.getElem?_cons_zero, List.getElem?_cons_succ, Option.bind_some, Act.put, List.setIfInBounds_toArray, List.set_cons_zero, List.set_cons_succ] at hQ ⊢
      go_wp2
      exact hQ (.int .i64 b) _ (Below.refl _ _) rfl
    · intro x w hb hk Q' hQ
      clear hk
      simp only [netAct, dstAt, List.getElem?_toArray, List.getElem?_cons_zero, List.getElem?_cons_succ, Option.bind_some, Act.put, List.setIfInBounds_toArray, List.set_cons_zero, List.set_cons_succ] at hQ ⊢
      go_wp2
      exact hQ (.pointer (some ⟨w0.heap.size, 5, none⟩)) _ (Below.refl _ _) rfl
    · intro x w hb hk Q' hQ
      have h4 : x.v 4 = .pointer (some ⟨w0.heap.size, 5, none⟩) := (hk 4 (by decide)).1
      clear hk
      simp only [netAct, dstAt, List.getElem?_toArray, List.getElem?_cons_zero, List.getElem?_cons_succ, Option.bind_some, Act.put, List.setIfInBounds_toArray, List.set_cons_zero, List.set_cons_succ] at hQ ⊢
      simp only [h4] at hQ ⊢
      clear h4
      have z0 := (kB3.call hb).cell' (i := 5) rfl
      go_wp2
      exact hQ (.slice (some ⟨bm, om, none⟩) 2 uh) _ (Below.refl _ _) rfl
    · intro x w hb hk Q' hQ
      have h5 : x.v 5 = .slice (some ⟨bm, om, none⟩) 2 uh := (hk 5 (by decide)).1
      clear hk
      simp only [netAct, dstAt, List.getElem?_toArray, List.getElem?_cons_zero, List.getElem?_cons_succ, Option.bind_some, Act.put, List.setIfInBounds_toArray, List.set_cons_zero, List.set_cons_succ] at hQ ⊢
      simp only [h5] at hQ ⊢
      clear h5
      go_wp2
      exact hQ (.pointer (some ⟨bm, om + 3, none⟩)) _ (Below.refl _ _) rfl
    · intro x w hb hk Q' hQ
      have h6 : x.v 6 = .pointer (some ⟨bm, om + 3, none⟩) := (hk 6 (by decide)).1
      clear hk
      simp only [netAct, dstAt, List.getElem?_toArray, List.getElem?_cons_zero, List.getElem?_cons_succ, Option.bind_some, Act.put, List.setIfInBounds_toArray, List.set_cons_zero, List.set_cons_succ] at hQ ⊢
      simp only [h6] at hQ ⊢
      clear h6
      have q0 := bcell hb hbm3 z0''
      have q1 := bcell hb hbm3 z1''
      have q2 := bcell hb hbm3 z2''
      go_wp2
      exact hQ (.agg #[.int .i64 R, .int .i64 C, .slice A1 LB c1]) _ (Below.refl _ _) rfl
    · intro x w hb hk Q' hQ
      have h0 : x.v 0 = .pointer (some ⟨w0.heap.size, 0, none⟩) := (hk 0 (by decide)).1
      have h1 : x.v 1 = .int .i64 p := (hk 1 (by decide)).1
      have h2 : x.v 2 = .agg #[.int .i64 R, .int .i64 C, .slice A2 N2 c2] := (hk 2 (by decide)).1
      have h3 : x.v 3 = .int .i64 b := (hk 3 (by decide)).1
      have h4 : x.v 4 = .pointer (some ⟨w0.heap.size, 5, none⟩) := (hk 4 (by decide)).1
      have h5 : x.v 5 = .slice (some ⟨bm, om, none⟩) 2 uh := (hk 5 (by decide)).1
      have h6 : x.v 6 = .pointer (some ⟨bm, om + 3, none⟩) := (hk 6 (by decide)).1
      have h7 : x.v 7 = .agg #[.int .i64 R, .int .i64 C, .slice A1 LB c1] := (hk 7 (by decide)).1
      clear hk
      simp only [netAct, dstAt, List.getElem?_toArray, List.getElem?_cons_zero, List.getElem?_cons_succ, Option.bind_some, Act.put, List.setIfInBounds_toArray, List.set_cons_zero, List.set_cons_succ] at hQ ⊢
      simp only [h0, h1, h2, h3, h4, h5, h6, h7] at hQ ⊢
      clear h0 h1 h2 h3 h4 h5 h6 h7
      have hm2 := MxR.next hb H16.out
      have HM2 := Lib.hid hm2
      have hm3 := MxR.more (show W.heap.size ≤ w.heap.size by have := hb.size; omega) (MxR.below (gW3.trans (hb.mono gs3)) HM1.out)
      have HM3 := Lib.hid hm3
      clear hm2 hm3
      go_wp2_with fail
      refine (plus_any p b _ _ R C (plF p a (fun _ _ => 0) fa) fb _ hpr (by omega) HM2.out HM3.out (by omega) (by omega) (fun i j _ _ => plF_rng hpr i j) (fun i j hi hj => by have := HFB.out i j hi hj; omega)).mono ?_; rintro e w5 ⟨v5, rfl, hO5, hb5⟩
      rw [← HPM.out] at hO5
      go_wp2
      exact hQ _ _ hb5 hO5
    · intro x w hb hk hiv hdj
      have h0 : x.v 0 = .pointer (some ⟨w0.heap.size, 0, none⟩) := hk 0 (by decide)
      have h1 : x.v 1 = .int .i64 p := hk 1 (by decide)
      have h2 : x.v 2 = .agg #[.int .i64 R, .int .i64 C, .slice A2 N2 c2] := hk 2 (by decide)
      have h3 : x.v 3 = .int .i64 b := hk 3 (by decide)
      have h4 : x.v 4 = .pointer (some ⟨w0.heap.size, 5, none⟩) := hk 4 (by decide)
      have h5 : x.v 5 = .slice (some ⟨bm, om, none⟩) 2 uh := hk 5 (by decide)
      have h6 : x.v 6 = .pointer (some ⟨bm, om + 3, none⟩) := hk 6 (by decide)
      have h7 : x.v 7 = .agg #[.int .i64 R, .int .i64 C, .slice A1 LB c1] := hk 7 (by decide)
      have h8 : MxO w (x.lo 8) (x.hi 8) (x.v 8) PM := hk 8 (by decide)
      clear hk
      simp only [netAct, dstAt, List.getElem?_toArray, List.getElem?_cons_zero, List.getElem?_cons_succ, Option.bind_some, Act.put, List.setIfInBounds_toArray, List.set_cons_zero, List.set_cons_succ]
      simp only [List.drop_succ_cons, List.drop_zero, h0, h1, h2, h3, h4, h5, h6, h7]
      clear h0 h1 h2 h3 h4 h5 h6 h7
      have i8 := hiv 8 (by decide)
      obtain ⟨A7, c7, e7⟩ := h8.form
      rw [e7] at h8 ⊢
      clear hiv hdj e7
      obtain ⟨N, hN⟩ : ∃ N, PM.a.length = N := ⟨_, rfl⟩
      rw [hN] at h8 ⊢
      have kX := kR3.call hb
      have p0 := kX.cell' (i := 0) rfl
      have p1 := kX.cell' (i := 1) rfl
      have p2 := kX.cell' (i := 2) rfl
      have fr := kX.frozen
      have sz := SZ.out
      have gX := (GW0.out).trans ((gW3.mono (by omega)).trans (hb.mono (by omega)))
      have gXs := gX.size
      have hbs := hb.size
      have h2 := chg3 w (w0.heap.size + 1) (.int .i64 PM.r) (.int .i64 PM.c) (.slice A7 N c7)
      have OF := Lib.hid ((h8.chg h2 (.inr (by omega))).wider (lo' := w0.heap.size) (hi' := w.heap.size) (by omega) (by omega))
      have GF := Lib.hid (gX.trans (h2.below (by omega) gXs))
      clear h8 h2 gX kX hN sz gXs hbs i8 hb kB3 kR3 kG3
      go_wp2
      exact bodyPost_ret (v := .agg #[.int .i64 PM.r, .int .i64 PM.c, .slice A7 N c7]) (by simp [results, go_sem, p0, p1, p2]) rfl ⟨_, rfl, OF.out.wider (Nat.le_refl _) (by simp), GF.out⟩
end Go.Proofs.Ytjhllgldllbaaaa
