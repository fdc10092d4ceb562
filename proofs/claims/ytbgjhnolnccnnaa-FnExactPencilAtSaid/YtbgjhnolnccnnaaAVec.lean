/- The reference's AddVectors, for vectors. -/
import Derived.Test.YtbgjhnolnccnnaaSVec
namespace Go.Proofs.Ytbgjhnolnccnnaa
set_option linter.unusedVariables false
set_option linter.unusedSimpArgs false
open Go.RowKit
set_option maxHeartbeats 3200000 in
set_option maxRecDepth 100000 in
theorem addVectors_any (p : Int) (va vb : Value) (n : Nat) (f g : Nat → Int) (w0 : World) (ha : SlI w0 w0.heap.size va (rowF n f)) (hb0 : SlI w0 w0.heap.size vb (rowF n g)) (hv : isVec p (rowF n f) = true) (hv2 : isVec p (rowF n g) = true) :
    Calls Try.prog 158 #[.int .i64 p, va, vb] w0 fun e w' => ∃ r, e = .returned (.tuple #[r, .bool true]) ∧ IntsO w' w0.heap.size w'.heap.size r (rowF n (adF p f g)) ∧ Below w0.heap.size w0 w' := by
  have hp := isFld_r (isVec_t.1 hv).1
  have hn := (isVec_t.1 hv).2.1
  rw [rowF_length] at hn
  have HR := Lib.hid (isVec_rowF hv)
  have HR2 := Lib.hid (isVec_rowF hv2)
  have HV := Lib.hid hv
  have HV2 := Lib.hid hv2
  have ha' := ha
  have hb' := hb0
  obtain ⟨A, ac, rfl, _⟩ := ha
  obtain ⟨B, bc, rfl, _⟩ := hb0
  simp only [rowF_length] at ha' hb' ⊢
  obtain ⟨W, hW⟩ : ∃ W, W = w0.alloc (.cells #[] 3) := ⟨_, rfl⟩
  have g0 : Below w0.heap.size w0 W := by rw [hW]; exact below_alloc _ _
  have ho : OwnI W w0.heap.size (.slice (some ⟨w0.heap.size, 0, none⟩) 0 0) (rowF 0 (adF p f g)) := by
    rw [hW]
    have h0 : rowF 0 (adF p f g) = [] := rfl
    rw [h0]
    exact OwnI.made (w := w0) (base := w0.heap.size) 3 rfl (Nat.le_refl _)
  have HA := Lib.hid ha'
  have HB := Lib.hid hb'
  clear ha' hv hv2 hb'
  go_enter Try.func158, Try.ntmps158
  go_wp2_with fail
  rw [← hW]; clear hW
  refine (specIsVector_any p _ (rowF n f) W (SlI.more g0.size (SlI.below g0 HA.out))).mono ?_; rintro e w1 ⟨rfl, hb1⟩
  rw [HV.out]
  replace ho := ho.below hb1
  have gW := g0.trans (hb1.mono g0.size)
  clear hb1
  go_wp2_with fail
  refine (specIsVector_any p _ (rowF n g) _ (SlI.more gW.size (SlI.below gW HB.out))).mono ?_; rintro e w2 ⟨rfl, hb1⟩
  rw [HV2.out]
  replace ho := ho.below hb1
  replace gW := gW.trans (hb1.mono gW.size)
  clear hb1
  go_wp2
  go_loopw [8, 9] (fun out i wr => ∃ j : Nat, j ≤ n ∧ i = .int .i64 j ∧ OwnI wr w0.heap.size out (rowF j (adF p f g)) ∧ Below w0.heap.size w0 wr) (fun _ i _ => n - (intOf i).toNat)
  case atStart => exact ⟨0, Nat.zero_le _, rfl, ho, gW⟩
  case round =>
    clear ho gW
    obtain ⟨j, hj, rfl, ho, gW⟩ := hrel
    have gs := gW.size
    by_cases hlt : j < n
    · have hx := HA.out
      have hx2 := HB.out
      have hlt2 : j < (rowF n g).length := by rw [rowF_length]; exact hlt
      rw [← rowF_length n f] at hlt
      rw [show (Value.slice A n ac) = .slice A (rowF n f).length ac by rw [rowF_length]] at hx
      rw [show (Value.slice B n bc) = .slice B (rowF n g).length bc by rw [rowF_length]] at hx2
      obtain ⟨b, o, x, rfl, hbl, HXX, x1, _⟩ := SlI.at_ hx hlt
      obtain ⟨b2, o2, y, rfl, hbl2, HYY, y1, _⟩ := SlI.at_ hx2 hlt2
      rw [rowF_length] at hlt
      have hxx := HXX.out
      rw [rowF_get _ hlt] at hxx
      injection hxx with hxx
      subst hxx
      have hyy := HYY.out
      rw [rowF_get _ hlt] at hyy
      injection hyy with hyy
      subst hyy
      have x2 := bcell gW hbl x1
      have y2 := bcell gW hbl2 y1
      have hr := HR.out j hlt
      have hr2 := HR2.out j hlt
      obtain ⟨z, hz⟩ : ∃ z, f j = z := ⟨_, rfl⟩
      obtain ⟨q, hq⟩ : ∃ q, g j = q := ⟨_, rfl⟩
      rw [hz] at x2 hr
      rw [hq] at y2 hr2
      have hsn := rowF_snoc j (adF p f g)
      rw [show adF p f g j = (z + q) % p by rw [adF, hq, hz]] at hsn
      have HSN := Lib.hid hsn
      have hr0 := Int.emod_nonneg (z + q) (show p ≠ 0 by omega)
      have hr1 := Int.emod_lt_of_pos (z + q) (show 0 < p by omega)
      obtain ⟨OB, ob, rfl, _, _⟩ := ho.form
      clear hx HXX x1 hz hq hsn hx2 HYY y1 hlt2
      have hblr : b < wr.heap.size := by omega
      have hblr2 : b2 < wr.heap.size := by omega
      go_wp2
      refine wp_region_net (by kernel_rfl) [.eq (.slice OB (rowF j (adF p f g)).length ob), .eq (.int .i64 p), .eq (.slice (some ⟨b, o, none⟩) n ac), .eq (.int .i64 j), .eq (.pointer (some ⟨b, o + j, none⟩)), .eq (.int .i64 z), .eq (.slice (some ⟨b2, o2, none⟩) n bc), .eq (.int .i64 j), .eq (.pointer (some ⟨b2, o2 + j, none⟩)), .eq (.int .i64 q), .eq (.int .i64 (z + q)), .eq (.int .i64 ((z + q) % p)), rel 12 (fun u lo hi w => ∃ g, u = .slice (some ⟨g, 0, none⟩) 1 1 ∧ SlI w w.heap.size u [(z + q) % p])] [[], [], [], [], [2, 3], [2, 3, 4], [], [], [6, 7], [6, 7, 8], [2, 3, 4, 5, 6, 7, 8, 9], [1, 2, 3, 4, 5, 6, 7, 8, 9, 10], [1, 2, 3, 4, 5, 6, 7, 8, 9, 10, 11], [0, 1, 2, 3, 4, 5, 6, 7, 8, 9, 10, 11, 12], [0, 1, 2, 3, 4, 5, 6, 7, 8, 9, 10, 11, 12, 13]] 13 (by kernel_rfl) ⟨trivial, trivial, trivial, trivial, trivial, trivial, trivial, trivial, trivial, trivial, trivial, trivial, rel_stable (fun u lo hi w w' ⟨g, e, h⟩ hb => ⟨g, e, SlI.next hb h⟩), trivial⟩ ⟨?_, ?_, ?_, ?_, ?_, ?_, ?_, ?_, ?_, ?_, ?_, ?_, ?_, trivial⟩ ?_
      · intro x w hb hk Q' hQ
        clear hk
        simp only [netAct, dstAt, List.getElem?_toArray, List.getElem?_cons_zero, List.getElem?_cons_succ, Option.bind_some, Act.put, List.setIfInBounds_toArray, List.set_cons_zero, List.set_cons_succ] at hQ ⊢
        go_wp2
        exact hQ (.slice OB (rowF j (adF p f g)).length ob) _ (Below.refl _ _) rfl
      · intro x w hb hk Q' hQ
        clear hk
        simp only [netAct, dstAt, List.getElem?_toArray, List.getElem?_cons_zero, List.getElem?_cons_succ, Option.bind_some, Act.put, List.setIfInBounds_toArray, List.set_cons_zero, List.set_cons_succ] at hQ ⊢
        go_wp2
        exact hQ (.int .i64 p) _ (Below.refl _ _) rfl
      · intro x w hb hk Q' hQ
        clear hk
        simp only [netAct, dstAt, List.getElem?_toArray, List.getElem?_cons_zero, List.getElem?_cons_succ, Option.bind_some, Act.put, List.setIfInBounds_toArray, List.set_cons_zero, List.set_cons_succ] at hQ ⊢
        go_wp2
        exact hQ (.slice (some ⟨b, o, none⟩) n ac) _ (Below.refl _ _) rfl
      · intro x w hb hk Q' hQ
        clear hk
        simp only [netAct, dstAt, List.getElem?_toArray, List.getElem?_cons_zero, List.getElem?_cons_succ, Option.bind_some, Act.put, List.setIfInBounds_toArray, List.set_cons_zero, List.set_cons_succ] at hQ ⊢
        go_wp2
        exact hQ (.int .i64 j) _ (Below.refl _ _) rfl
      · intro x w hb hk Q' hQ
        have h2 : x.v 2 = .slice (some ⟨b, o, none⟩) n ac := (hk 2 (by decide)).1
        have h3 : x.v 3 = .int .i64 j := (hk 3 (by decide)).1
        clear hk
        simp only [netAct, dstAt, List.getElem?_toArray, List.getElem?_cons_zero, List.getElem?_cons_succ, Option.bind_some, Act.put, List.setIfInBounds_toArray, List.set_cons_zero, List.set_cons_succ] at hQ ⊢
        simp only [h2, h3] at hQ ⊢
        clear h2 h3
        go_wp2
        exact hQ (.pointer (some ⟨b, o + j, none⟩)) _ (Below.refl _ _) rfl
      · intro x w hb hk Q' hQ
        have h4 : x.v 4 = .pointer (some ⟨b, o + j, none⟩) := (hk 4 (by decide)).1
        clear hk
        simp only [netAct, dstAt, List.getElem?_toArray, List.getElem?_cons_zero, List.getElem?_cons_succ, Option.bind_some, Act.put, List.setIfInBounds_toArray, List.set_cons_zero, List.set_cons_succ] at hQ ⊢
        simp only [h4] at hQ ⊢
        clear h4
        have q0 := bcell hb hblr x2
        go_wp2
        exact hQ (.int .i64 z) _ (Below.refl _ _) rfl
      · intro x w hb hk Q' hQ
        clear hk
        simp only [netAct, dstAt, List.getElem?_toArray, List.getElem?_cons_zero, List.getElem?_cons_succ, Option.bind_some, Act.put, List.setIfInBounds_toArray, List.set_cons_zero, List.set_cons_succ] at hQ ⊢
        go_wp2
        exact hQ (.slice (some ⟨b2, o2, none⟩) n bc) _ (Below.refl _ _) rfl
      · intro x w hb hk Q' hQ
        clear hk
        simp only [netAct, dstAt, List.getElem?_toArray, List.getElem?_cons_zero, List.getElem?_cons_succ, Option.bind_some, Act.put, List.setIfInBounds_toArray, List.set_cons_zero, List.set_cons_succ] at hQ ⊢
        go_wp2
        exact hQ (.int .i64 j) _ (Below.refl _ _) rfl
      · intro x w hb hk Q' hQ
        have h6 : x.v 6 = .slice (some ⟨b2, o2, none⟩) n bc := (hk 6 (by decide)).1
        have h7 : x.v 7 = .int .i64 j := (hk 7 (by decide)).1
        clear hk
        simp only [netAct, dstAt, List.getElem?_toArray, List.getElem?_cons_zero, List.getElem?_cons_succ, Option.bind_some, Act.put, List.setIfInBounds_toArray, List.set_cons_zero, List.set_cons_succ] at hQ ⊢
        simp only [h6, h7] at hQ ⊢
        clear h6 h7
        go_wp2
        exact hQ (.pointer (some ⟨b2, o2 + j, none⟩)) _ (Below.refl _ _) rfl
      · intro x w hb hk Q' hQ
        have h8 : x.v 8 = .pointer (some ⟨b2, o2 + j, none⟩) := (hk 8 (by decide)).1
        clear hk
        simp only [netAct, dstAt, List.getElem?_toArray, List.getElem?_cons_zero, List.getElem?_cons_succ, Option.bind_some, Act.put, List.setIfInBounds_toArray, List.set_cons_zero, List.set_cons_succ] at hQ ⊢
        simp only [h8] at hQ ⊢
        clear h8
        have q0 := bcell hb hblr2 y2
        go_wp2
        exact hQ (.int .i64 q) _ (Below.refl _ _) rfl
      · intro x w hb hk Q' hQ
        have h5 : x.v 5 = .int .i64 z := (hk 5 (by decide)).1
        have h9 : x.v 9 = .int .i64 q := (hk 9 (by decide)).1
        clear hk
        simp only [netAct, dstAt, List.getElem?_toArray, List.getElem?_cons_zero, List.getElem?_cons_succ, Option.bind_some, Act.put, List.setIfInBounds_toArray, List.set_cons_zero, List.set_cons_succ] at hQ ⊢
        simp only [h5, h9] at hQ ⊢
        clear h5 h9
        go_wp2
        exact hQ (.int .i64 (z + q)) _ (Below.refl _ _) rfl
      · intro x w hb hk Q' hQ
        have h1 : x.v 1 = .int .i64 p := (hk 1 (by decide)).1
        have h10 : x.v 10 = .int .i64 (z + q) := (hk 10 (by decide)).1
        clear hk
        simp only [netAct, dstAt, List.getElem?_toArray, List.getElem?_cons_zero, List.getElem?_cons_succ, Option.bind_some, Act.put, List.setIfInBounds_toArray, List.set_cons_zero, List.set_cons_succ] at hQ ⊢
        simp only [h1, h10] at hQ ⊢
        clear h1 h10
        go_wp2_with fail
        refine (l2Mod_any p (z + q) _ hp (by simp only [I64]; omega)).mono ?_; rintro e w5 ⟨rfl, rfl⟩
        go_wp2
        exact hQ (.int .i64 ((z + q) % p)) _ (Below.refl _ _) rfl
      · intro x w hb hk Q' hQ
        have h1 : x.v 1 = .int .i64 p := (hk 1 (by decide)).1
        have h2 : x.v 2 = .slice (some ⟨b, o, none⟩) n ac := (hk 2 (by decide)).1
        have h3 : x.v 3 = .int .i64 j := (hk 3 (by decide)).1
        have h4 : x.v 4 = .pointer (some ⟨b, o + j, none⟩) := (hk 4 (by decide)).1
        have h5 : x.v 5 = .int .i64 z := (hk 5 (by decide)).1
        have h6 : x.v 6 = .slice (some ⟨b2, o2, none⟩) n bc := (hk 6 (by decide)).1
        have h7 : x.v 7 = .int .i64 j := (hk 7 (by decide)).1
        have h8 : x.v 8 = .pointer (some ⟨b2, o2 + j, none⟩) := (hk 8 (by decide)).1
        have h9 : x.v 9 = .int .i64 q := (hk 9 (by decide)).1
        have h10 : x.v 10 = .int .i64 (z + q) := (hk 10 (by decide)).1
        have h11 : x.v 11 = .int .i64 ((z + q) % p) := (hk 11 (by decide)).1
        clear hk
        simp only [netAct, dstAt, List.getElem?_toArray, List.getElem?_cons_zero, List.getElem?_cons_succ, Option.bind_some, Act.put, List.setIfInBounds_toArray, List.set_cons_zero, List.set_cons_succ] at hQ ⊢
        simp only [h1, h2, h3, h4, h5, h6, h7, h8, h9, h10, h11] at hQ ⊢
        clear h1 h2 h3 h4 h5 h6 h7 h8 h9 h10 h11
        go_wp2
        exact hQ (.slice (some ⟨w.heap.size, 0, none⟩) 1 1) _ (below_alloc _ _) ⟨_, rfl, SlI.one _ _ _ (by simp only [I64]; omega)⟩
      · intro x w hb hk hiv hdj
        have h0 : x.v 0 = .slice OB (rowF j (adF p f g)).length ob := hk 0 (by decide)
        have h1 : x.v 1 = .int .i64 p := hk 1 (by decide)
        have h2 : x.v 2 = .slice (some ⟨b, o, none⟩) n ac := hk 2 (by decide)
        have h3 : x.v 3 = .int .i64 j := hk 3 (by decide)
        have h4 : x.v 4 = .pointer (some ⟨b, o + j, none⟩) := hk 4 (by decide)
        have h5 : x.v 5 = .int .i64 z := hk 5 (by decide)
        have h6 : x.v 6 = .slice (some ⟨b2, o2, none⟩) n bc := hk 6 (by decide)
        have h7 : x.v 7 = .int .i64 j := hk 7 (by decide)
        have h8 : x.v 8 = .pointer (some ⟨b2, o2 + j, none⟩) := hk 8 (by decide)
        have h9 : x.v 9 = .int .i64 q := hk 9 (by decide)
        have h10 : x.v 10 = .int .i64 (z + q) := hk 10 (by decide)
        have h11 : x.v 11 = .int .i64 ((z + q) % p) := hk 11 (by decide)
        have h12 : ∃ g, (x.v 12) = .slice (some ⟨g, 0, none⟩) 1 1 ∧ SlI w w.heap.size (x.v 12) [(z + q) % p] := hk 12 (by decide)
        clear hk
        simp only [netAct, dstAt, List.getElem?_toArray, List.getElem?_cons_zero, List.getElem?_cons_succ, Option.bind_some, Act.put, List.setIfInBounds_toArray, List.set_cons_zero, List.set_cons_succ]
        simp only [List.drop_succ_cons, List.drop_zero, h0, h1, h2, h3, h4, h5, h6, h7, h8, h9, h10, h11]
        clear h0 h1 h2 h3 h4 h5 h6 h7 h8 h9 h10 h11
        obtain ⟨gg, e11, hs11⟩ := h12
        rw [e11] at hs11 ⊢
        have ho2 := ho.below hb
        have hlo := ho2.lt
        have hbs := hb.size
        clear hiv hdj e11 ho
        refine wpList_appI (by rfl) (.tmp 35) (.tmp 47) (by rfl) w0.heap.size w.heap.size _ _ (by rfl) ho2 _ 1 1 [(z + q) % p] (by rfl) rfl hs11 (by rw [rowF_length]; simp; omega) (by omega) ?_
        intro v' w' h1 h2 h3
        rw [← HSN.out] at h1
        have G2 := Lib.hid ((gW.trans (hb.mono gs)).trans (below_grown h2 (fun k hk => (hlo k hk).1) (by omega)))
        have H1 := Lib.hid h1
        clear h1 h2 h3 hlo ho2 hs11 hb gW
        go_wp2
        go_roundw
        case rel => exact ⟨j + 1, by omega, by go_num, H1.out, G2.out⟩
        case measure => simp [intOf]; omega
    · obtain rfl : j = n := by omega
      have HO := Lib.hid ho
      clear ho
      go_wp2
      go_ret2
      exact ⟨_, rfl, IntsO.of_own HO.out, gW⟩

end Go.Proofs.Ytbgjhnolnccnnaa
