/- The reference's ScaleVector and AddVectors, for vectors. -/
import Derived.Test.YtbgjhnolnccnnaaPlus
import Derived.Test.YtbgjhnolnccnnaaNet2
namespace Go.Proofs.Ytbgjhnolnccnnaa
set_option linter.unusedVariables false
set_option linter.unusedSimpArgs false
open Go.RowKit
theorem rowF_snoc (n : Nat) (f : Nat → Int) : rowF (n + 1) f = rowF n f ++ [f n] := by simp [rowF, List.range_succ]
theorem isVec_rowF {p : Int} {n : Nat} {f : Nat → Int} (h : isVec p (rowF n f) = true) : ∀ i, i < n → 0 ≤ f i ∧ f i ≤ p - 1 := fun i hi => (isVec_t.1 h).2.2 _ (List.mem_of_getElem? (rowF_get f hi))
def scF (p k : Int) (f : Nat → Int) (i : Nat) : Int := (k % p * f i) % p
def adF (p : Int) (f g : Nat → Int) (i : Nat) : Int := (f i + g i) % p
set_option maxHeartbeats 3200000 in
set_option maxRecDepth 100000 in
theorem scaleVector_any (p k : Int) (va : Value) (n : Nat) (f : Nat → Int) (w0 : World) (hk : I64 k) (ha : SlI w0 w0.heap.size va (rowF n f)) (hv : isVec p (rowF n f) = true) :
    Calls Try.prog 157 #[.int .i64 p, .int .i64 k, va] w0 fun e w' => ∃ r, e = .returned (.tuple #[r, .bool true]) ∧ IntsO w' w0.heap.size w'.heap.size r (rowF n (scF p k f)) ∧ Below w0.heap.size w0 w' := by
  have hp := isFld_r (isVec_t.1 hv).1
  have hn := (isVec_t.1 hv).2.1
  rw [rowF_length] at hn
  have HR := Lib.hid (isVec_rowF hv)
  have HV := Lib.hid hv
  have ha' := ha
  obtain ⟨A, ac, rfl, _⟩ := ha
  rw [rowF_length] at ha' ⊢
  obtain ⟨W, hW⟩ : ∃ W, W = w0.alloc (.cells #[] 3) := ⟨_, rfl⟩
  have g0 : Below w0.heap.size w0 W := by rw [hW]; exact below_alloc _ _
  have ho : OwnI W w0.heap.size (.slice (some ⟨w0.heap.size, 0, none⟩) 0 0) (rowF 0 (scF p k f)) := by
    rw [hW]
    have h0 : rowF 0 (scF p k f) = [] := rfl
    rw [h0]
    exact OwnI.made (w := w0) (base := w0.heap.size) 3 rfl (Nat.le_refl _)
  have HA := Lib.hid ha'
  have hka := Int.emod_nonneg k (show p ≠ 0 by omega)
  have hkb := Int.emod_lt_of_pos k (show 0 < p by omega)
  clear ha' hv
  go_enter Try.func157, Try.ntmps157
  go_wp2_with fail
  rw [← hW]; clear hW
  refine (specIsVector_any p _ (rowF n f) W (SlI.more g0.size (SlI.below g0 HA.out))).mono ?_; rintro e w1 ⟨rfl, hb1⟩
  rw [HV.out]
  replace ho := ho.below hb1
  have gW := g0.trans (hb1.mono g0.size)
  clear hb1
  go_wp2
  go_loopw [8, 9] (fun out i wr => ∃ j : Nat, j ≤ n ∧ i = .int .i64 j ∧ OwnI wr w0.heap.size out (rowF j (scF p k f)) ∧ Below w0.heap.size w0 wr) (fun _ i _ => n - (intOf i).toNat)
  case atStart => exact ⟨0, Nat.zero_le _, rfl, ho, gW⟩
  case round =>
    clear ho gW
    obtain ⟨j, hj, rfl, ho, gW⟩ := hrel
    have gs := gW.size
    by_cases hlt : j < n
    · have hx := HA.out
      rw [← rowF_length n f] at hlt
      rw [show (Value.slice A n ac) = .slice A (rowF n f).length ac by rw [rowF_length]] at hx
      obtain ⟨b, o, x, rfl, hbl, HXX, x1, _⟩ := SlI.at_ hx hlt
      rw [rowF_length] at hlt
      have hxx := HXX.out
      rw [rowF_get _ hlt] at hxx
      injection hxx with hxx
      subst hxx
      have x2 := bcell gW hbl x1
      have hr := HR.out j hlt
      obtain ⟨z, hz⟩ : ∃ z, f j = z := ⟨_, rfl⟩
      obtain ⟨q, hq⟩ : ∃ q, k % p = q := ⟨_, rfl⟩
      rw [hz] at x2 hr
      rw [hq] at hka hkb
      have hkz0 : 0 ≤ q * z := Int.mul_nonneg hka hr.1
      have hkz1 : q * z ≤ 5 * 4 := Int.mul_le_mul (by omega) (by omega) hr.1 (by omega)
      obtain ⟨K, hK⟩ : ∃ K, q * z = K := ⟨_, rfl⟩
      rw [hK] at hkz0 hkz1
      have hKw : wrap64 (q * z) = K := by rw [hK]; exact IntWalk.wrap64_in _ ⟨by omega, by omega⟩
      have hsn := rowF_snoc j (scF p k f)
      rw [show scF p k f j = K % p by rw [scF, hq, hz, hK]] at hsn
      have HSN := Lib.hid hsn
      have HQ := Lib.hid hq
      have hr0 := Int.emod_nonneg K (show p ≠ 0 by omega)
      have hr1 := Int.emod_lt_of_pos K (show 0 < p by omega)
      obtain ⟨OB, ob, rfl, _, _⟩ := ho.form
      clear hx HXX x1 hz hq hK hsn
      have HKW := Lib.hid hKw
      clear hKw
      have hblr : b < wr.heap.size := by omega
      go_wp2
      refine wp_region_net (by kernel_rfl) [.eq (.slice OB (rowF j (scF p k f)).length ob), .eq (.int .i64 p), .eq (.int .i64 p), .eq (.int .i64 k), .eq (.int .i64 q), .eq (.slice (some ⟨b, o, none⟩) n ac), .eq (.int .i64 j), .eq (.pointer (some ⟨b, o + j, none⟩)), .eq (.int .i64 z), .eq (.int .i64 K), .eq (.int .i64 (K % p)), rel 11 (fun u lo hi w => ∃ g, u = .slice (some ⟨g, 0, none⟩) 1 1 ∧ SlI w w.heap.size u [K % p])] [[], [], [], [], [2, 3], [], [], [5, 6], [5, 6, 7], [2, 3, 4, 5, 6, 7, 8], [1, 2, 3, 4, 5, 6, 7, 8, 9], [1, 2, 3, 4, 5, 6, 7, 8, 9, 10], [0, 1, 2, 3, 4, 5, 6, 7, 8, 9, 10, 11], [0, 1, 2, 3, 4, 5, 6, 7, 8, 9, 10, 11, 12]] 12 (by kernel_rfl) ⟨trivial, trivial, trivial, trivial, trivial, trivial, trivial, trivial, trivial, trivial, trivial, rel_stable (fun u lo hi w w' ⟨g, e, h⟩ hb => ⟨g, e, SlI.next hb h⟩), trivial⟩ ⟨?_, ?_, ?_, ?_, ?_, ?_, ?_, ?_, ?_, ?_, ?_, ?_, trivial⟩ ?_
      · intro x w hb hk Q' hQ
        clear hk
        simp only [netAct, dstAt, List.getElem?_toArray, List.getElem?_cons_zero, List.getElem?_cons_succ, Option.bind_some, Act.put, List.setIfInBounds_toArray, List.set_cons_zero, List.set_cons_succ] at hQ ⊢
        go_wp2
        exact hQ (.slice OB (rowF j (scF p k f)).length ob) _ (Below.refl _ _) rfl
      · intro x w hb hk Q' hQ
        clear hk
        simp only [netAct, dstAt, List.getElem?_toArray, List.getElem?_cons_zero, List.getElem?_cons_succ, Option.bind_some, Act.put, List.setIfInBounds_toArray, List.set_cons_zero, List.set_cons_succ] at hQ ⊢
        go_wp2
        exact hQ (.int .i64 p) _ (Below.refl _ _) rfl
      · intro x w hb hk Q' hQ
        clear hk
        simp only [netAct, dstAt, List.getElem?_toArray, List.getElem?_cons_zero, List.getElem?_cons_succ, Option.bind_some, Act.put, List.setIfInBounds_toArray, List.set_cons_zero, List.set_cons_succ] at hQ ⊢
        go_wp2
        exact hQ (.int .i64 p) _ (Below.refl _ _) rfl
      · intro x w hb hk Q' hQ
        clear hk
        simp only [netAct, dstAt, List.getElem?_toArray, List.getElem?_cons_zero, List.getElem?_cons_succ, Option.bind_some, Act.put, List.setIfInBounds_toArray, List.set_cons_zero, List.set_cons_succ] at hQ ⊢
        go_wp2
        exact hQ (.int .i64 k) _ (Below.refl _ _) rfl
      · intro x w hb hk Q' hQ
        have h2 : x.v 2 = .int .i64 p := (hk 2 (by decide)).1
        have h3 : x.v 3 = .int .i64 k := (hk 3 (by decide)).1
        clear hk
        simp only [netAct, dstAt, List.getElem?_toArray, List.getElem?_cons_zero, List.getElem?_cons_succ, Option.bind_some, Act.put, List.setIfInBounds_toArray, List.set_cons_zero, List.set_cons_succ] at hQ ⊢
        simp only [h2, h3] at hQ ⊢
        clear h2 h3
        go_wp2_with fail
        refine (l2Mod_any p k _ hp hk).mono ?_; rintro e w5 ⟨rfl, rfl⟩
        rw [HQ.out]
        go_wp2
        exact hQ (.int .i64 q) _ (Below.refl _ _) rfl
      · intro x w hb hk Q' hQ
        clear hk
        simp only [netAct, dstAt, List.getElem?_toArray, List.getElem?_cons_zero, List.getElem?_cons_succ, Option.bind_some, Act.put, List.setIfInBounds_toArray, List.set_cons_zero, List.set_cons_succ] at hQ ⊢
        go_wp2
        exact hQ (.slice (some ⟨b, o, none⟩) n ac) _ (Below.refl _ _) rfl
      · intro x w hb hk Q' hQ
        clear hk
        simp only [netAct, dstAt, List.getElem?_toArray, List.getElem?_cons_zero, List.getElem?_cons_succ, Option.bind_some, Act.put, List.setIfInBounds_toArray, List.set_cons_zero, List.set_cons_succ] at hQ ⊢
        go_wp2
        exact hQ (.int .i64 j) _ (Below.refl _ _) rfl
      · intro x w hb hk Q' hQ
        have h5 : x.v 5 = .slice (some ⟨b, o, none⟩) n ac := (hk 5 (by decide)).1
        have h6 : x.v 6 = .int .i64 j := (hk 6 (by decide)).1
        clear hk
        simp only [netAct, dstAt, List.getElem?_toArray, List.getElem?_cons_zero, List.getElem?_cons_succ, Option.bind_some, Act.put, List.setIfInBounds_toArray, List.set_cons_zero, List.set_cons_succ] at hQ ⊢
        simp only [h5, h6] at hQ ⊢
        clear h5 h6
        go_wp2
        exact hQ (.pointer (some ⟨b, o + j, none⟩)) _ (Below.refl _ _) rfl
      · intro x w hb hk Q' hQ
        have h7 : x.v 7 = .pointer (some ⟨b, o + j, none⟩) := (hk 7 (by decide)).1
        clear hk
        simp only [netAct, dstAt, List.getElem?_toArray, List.getElem?_cons_zero, List.getElem?_cons_succ, Option.bind_some, Act.put, List.setIfInBounds_toArray, List.set_cons_zero, List.set_cons_succ] at hQ ⊢
        simp only [h7] at hQ ⊢
        clear h7
        have q0 := bcell hb hblr x2
        go_wp2
        exact hQ (.int .i64 z) _ (Below.refl _ _) rfl
      · intro x w hb hk Q' hQ
        have h4 : x.v 4 = .int .i64 q := (hk 4 (by decide)).1
        have h8 : x.v 8 = .int .i64 z := (hk 8 (by decide)).1
        clear hk
        simp only [netAct, dstAt, List.getElem?_toArray, List.getElem?_cons_zero, List.getElem?_cons_succ, Option.bind_some, Act.put, List.setIfInBounds_toArray, List.set_cons_zero, List.set_cons_succ] at hQ ⊢
        simp only [h4, h8] at hQ ⊢
        clear h4 h8
        go_wp2
        rw [HKW.out]
        exact hQ (.int .i64 K) _ (Below.refl _ _) rfl
      · intro x w hb hk Q' hQ
        have h1 : x.v 1 = .int .i64 p := (hk 1 (by decide)).1
        have h9 : x.v 9 = .int .i64 K := (hk 9 (by decide)).1
        clear hk
        simp only [netAct, dstAt, List.getElem?_toArray, List.getElem?_cons_zero, List.getElem?_cons_succ, Option.bind_some, Act.put, List.setIfInBounds_toArray, List.set_cons_zero, List.set_cons_succ] at hQ ⊢
        simp only [h1, h9] at hQ ⊢
        clear h1 h9
        go_wp2_with fail
        refine (l2Mod_any p K _ hp (by simp only [I64]; omega)).mono ?_; rintro e w5 ⟨rfl, rfl⟩
        go_wp2
        exact hQ (.int .i64 (K % p)) _ (Below.refl _ _) rfl
      · intro x w hb hk Q' hQ
        have h1 : x.v 1 = .int .i64 p := (hk 1 (by decide)).1
        have h2 : x.v 2 = .int .i64 p := (hk 2 (by decide)).1
        have h3 : x.v 3 = .int .i64 k := (hk 3 (by decide)).1
        have h4 : x.v 4 = .int .i64 q := (hk 4 (by decide)).1
        have h5 : x.v 5 = .slice (some ⟨b, o, none⟩) n ac := (hk 5 (by decide)).1
        have h6 : x.v 6 = .int .i64 j := (hk 6 (by decide)).1
        have h7 : x.v 7 = .pointer (some ⟨b, o + j, none⟩) := (hk 7 (by decide)).1
        have h8 : x.v 8 = .int .i64 z := (hk 8 (by decide)).1
        have h9 : x.v 9 = .int .i64 K := (hk 9 (by decide)).1
        have h10 : x.v 10 = .int .i64 (K % p) := (hk 10 (by decide)).1
        clear hk
        simp only [netAct, dstAt, List.getElem?_toArray, List.getElem?_cons_zero, List.getElem?_cons_succ, Option.bind_some, Act.put, List.setIfInBounds_toArray, List.set_cons_zero, List.set_cons_succ] at hQ ⊢
        simp only [h1, h2, h3, h4, h5, h6, h7, h8, h9, h10] at hQ ⊢
        clear h1 h2 h3 h4 h5 h6 h7 h8 h9 h10
        go_wp2
        exact hQ (.slice (some ⟨w.heap.size, 0, none⟩) 1 1) _ (below_alloc _ _) ⟨_, rfl, SlI.one _ _ _ (by simp only [I64]; omega)⟩
      · intro x w hb hk hiv hdj
        have h0 : x.v 0 = .slice OB (rowF j (scF p k f)).length ob := hk 0 (by decide)
        have h1 : x.v 1 = .int .i64 p := hk 1 (by decide)
        have h2 : x.v 2 = .int .i64 p := hk 2 (by decide)
        have h3 : x.v 3 = .int .i64 k := hk 3 (by decide)
        have h4 : x.v 4 = .int .i64 q := hk 4 (by decide)
        have h5 : x.v 5 = .slice (some ⟨b, o, none⟩) n ac := hk 5 (by decide)
        have h6 : x.v 6 = .int .i64 j := hk 6 (by decide)
        have h7 : x.v 7 = .pointer (some ⟨b, o + j, none⟩) := hk 7 (by decide)
        have h8 : x.v 8 = .int .i64 z := hk 8 (by decide)
        have h9 : x.v 9 = .int .i64 K := hk 9 (by decide)
        have h10 : x.v 10 = .int .i64 (K % p) := hk 10 (by decide)
        have h11 : ∃ g, (x.v 11) = .slice (some ⟨g, 0, none⟩) 1 1 ∧ SlI w w.heap.size (x.v 11) [K % p] := hk 11 (by decide)
        clear hk
        simp only [netAct, dstAt, List.getElem?_toArray, List.getElem?_cons_zero, List.getElem?_cons_succ, Option.bind_some, Act.put, List.setIfInBounds_toArray, List.set_cons_zero, List.set_cons_succ]
        simp only [List.drop_succ_cons, List.drop_zero, h0, h1, h2, h3, h4, h5, h6, h7, h8, h9, h10]
        clear h0 h1 h2 h3 h4 h5 h6 h7 h8 h9 h10
        obtain ⟨g, e11, hs11⟩ := h11
        rw [e11] at hs11 ⊢
        have ho2 := ho.below hb
        have hlo := ho2.lt
        have hbs := hb.size
        clear hiv hdj e11 ho
        refine wpList_appI (by rfl) (.tmp 22) (.tmp 33) (by rfl) w0.heap.size w.heap.size _ _ (by rfl) ho2 _ 1 1 [K % p] (by rfl) rfl hs11 (by rw [rowF_length]; simp; omega) (by omega) ?_
        intro v' w' h1 h2 h3
        rw [← HSN.out] at h1
        have G2 := Lib.hid ((gW.trans (hb.mono gs)).trans (below_grown h2 (fun k hk => (hlo k hk).1) (by omega)))
        have H1 := Lib.hid h1
        clear h1 h2 h3 hlo ho2 hs11 hb gW
        go_wp2
        go_roundw
        case rel => exact ⟨j + 1, by omega, by go_num, H1.out, G2.out⟩
        case measure => simp [intOf]; omega
    · obtain rfl : j = n := by omega
      have HO := Lib.hid ho
      clear ho
      go_wp2
      go_ret2
      exact ⟨_, rfl, IntsO.of_own HO.out, gW⟩
end Go.Proofs.Ytbgjhnolnccnnaa
