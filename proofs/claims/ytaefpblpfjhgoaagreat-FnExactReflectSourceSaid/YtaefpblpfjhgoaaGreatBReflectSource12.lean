/- FnExactReflectSource: for every argument the program's function returns what the reference's returns. Part 12 of 14 of the proof: Sp5, Im4, Ld12, Pj12. No condition. -/
import Derived.Test.YtaefpblpfjhgoaaGreatBReflectSource11
/- The reference's l5Rows, l5Basis, l5Span. -/
namespace Go.Proofs.YtaefpblpfjhgoaaGreat
set_option linter.unusedVariables false
set_option linter.unusedSimpArgs false
open Go.RowKit

theorem flat_snoc (k c : Nat) (f : Nat → Nat → Int) : flat k c f ++ rowF c (f k) = flat (k + 1) c f := by
  refine flat_ext (by rw [List.length_append, flat_length, rowF_length, Nat.add_mul, Nat.one_mul]) fun i j hi hj => ?_
  by_cases h : i < k
  · have h1 : i * c + j < k * c := by
      have : (i + 1) * c ≤ k * c := Nat.mul_le_mul_right _ h
      rw [Nat.add_mul, Nat.one_mul] at this; omega
    rw [List.getElem?_append_left (by rw [flat_length]; exact h1), flat_get f h hj]
  · obtain rfl : i = k := by omega
    rw [List.getElem?_append_right (by rw [flat_length]; omega), flat_length, show i * c + j - i * c = j by omega, rowF_get _ hj]
theorem flat_0 (c : Nat) (f : Nat → Nat → Int) : flat 0 c f = [] := by
  have := flat_length 0 c f
  rw [Nat.zero_mul] at this
  exact List.eq_nil_of_length_eq_zero this
set_option maxHeartbeats 1600000 in
set_option maxRecDepth 100000 in
theorem l5Rows_any (u : Value) (r c : Nat) (f : Nat → Nat → Int) (w0 : World) (hr : r ≤ 1000) (hc : c ≤ 1000) (hu : SlII w0 w0.heap.size u (rowsF r c f)) :
    Calls Tryz.prog 65 #[.int .i64 c, u] w0 fun e w' => ∃ v, e = .returned v ∧ MxO w' w0.heap.size w'.heap.size v (mxF r c f) ∧ Below w0.heap.size w0 w' := by
  have hu1 := hu
  obtain ⟨UA, uc, rfl, _⟩ := hu1
  rw [rowsF_length] at hu ⊢
  have HU := Lib.hid hu
  clear hu
  go_enter Tryz.func65, Tryz.ntmps65
  go_wp2
  obtain ⟨W, hW⟩ : ∃ W, ((w0.alloc (.cells #[.int .i64 0, .int .i64 0, .slice none 0 0] 50)).alloc (.cells #[.int .i64 r, .int .i64 c, .slice none 0 0] 50)) = W := ⟨_, rfl⟩
  have g0 : Below w0.heap.size w0 W := by rw [← hW]; exact ((Below.refl _ _).alloc (Nat.le_refl _) _).alloc (by simp) _
  have k1 : Blk W w0.heap.size 50 #[.int .i64 0, .int .i64 0, .slice none 0 0] := by rw [← hW]; exact (Blk.new _ _ _).alloc _
  have k2 : Blk W (w0.heap.size + 1) 50 #[.int .i64 r, .int .i64 c, .slice none 0 0] := by
    rw [← hW]
    have := Blk.new (w0.alloc (.cells #[.int .i64 0, .int .i64 0, .slice none 0 0] 50)) 50 #[.int .i64 r, .int .i64 c, .slice none 0 0]
    simpa only [World.size_alloc] using this
  have sW : W.heap.size = w0.heap.size + 1 + 1 := by rw [← hW]; simp
  rw [hW]; clear hW
  have HUL := Lib.hid (rowsF_length r c f)
  go_loopw [6] (fun i wr => ∃ (k : Nat) (OA : Option Addr) (on oc : Nat), k ≤ r ∧ i = .int .i64 k ∧ Blk wr (w0.heap.size + 1) 50 #[.int .i64 r, .int .i64 c, .slice OA on oc] ∧ OwnI wr W.heap.size (.slice OA on oc) (flat k c f) ∧ Below w0.heap.size w0 wr ∧ W.heap.size ≤ wr.heap.size ∧ Blk wr w0.heap.size 50 #[.int .i64 0, .int .i64 0, .slice none 0 0]) (fun i _ => r - (intOf i).toNat)
  case atStart => exact ⟨0, none, 0, 0, Nat.zero_le _, rfl, k2, by rw [flat_0]; exact OwnI.nil _ _, g0, Nat.le_refl _, k1⟩
  case round =>
    clear g0 k1 k2
    obtain ⟨k, OA, on, oc, hk, rfl, hB, hO, hb, hs, hB1⟩ := hrel
    by_cases hlt : k < r
    · have hur := SlII.next hb HU.out
      obtain ⟨bu, ou, l, LA, lc, rfl, hbu, HL, u1, hl⟩ := SlII.at_ (k := k) (xs := rowsF r c f) (by rw [rowsF_length]; exact hur) (by rw [rowsF_length]; exact hlt)
      have hle := HL.out
      rw [rowsF_get _ hlt] at hle
      injection hle with hle
      subst hle
      rw [rowF_length] at u1
      rw [rowF_length] at hl
      have HLL := Lib.hid hl
      have U1 := Lib.hid u1
      have HB := Lib.hid hB
      have HB1 := Lib.hid hB1
      have HO := Lib.hid hO
      have Hb := Lib.hid hb
      have hsz : r * c ≤ 1000000 := Nat.mul_le_mul hr hc
      have hkc : (k + 1) * c ≤ r * c := Nat.mul_le_mul_right _ hlt
      have hfl : (flat k c f).length + c ≤ 1000000 := by rw [flat_length]; rw [Nat.add_mul, Nat.one_mul] at hkc; omega
      have HFL := Lib.hid hfl
      clear hB hB1 hO hb hur HL u1 hl hsz hkc hfl
      go_wp2
      obtain ⟨wx, hwx⟩ : ∃ z, z = wr := ⟨_, rfl⟩
      subst hwx
      refine wp_region_net (by kernel_rfl) [.eq (.pointer (some ⟨w0.heap.size + 1, 2, none⟩)), .eq (.slice OA on oc), .eq (.slice (some ⟨bu, ou, none⟩) r uc), .eq (.int .i64 k), .eq (.pointer (some ⟨bu, ou + k, none⟩)), .eq (.slice LA c lc)] [[], [0], [], [], [2, 3], [2, 3, 4], [0, 1, 2, 3, 4, 5], [0, 1, 2, 3, 4, 5, 6], [0, 1, 2, 3, 4, 5, 6, 7]] 6 (by kernel_rfl) ⟨trivial, trivial, trivial, trivial, trivial, trivial, trivial⟩ ⟨?_, ?_, ?_, ?_, ?_, ?_, trivial⟩ ?_
      · intro x w hb hk Q' hQ
        clear hk
        simp only [netAct, dstAt, List.getElem?_toArray, List.getElem?_cons_zero, List.getElem?_cons_succ, Option.bind_some, Act.put, List.setIfInBounds_toArray, List.set_cons_zero, List.set_cons_succ] at hQ ⊢
        go_wp2
        exact hQ (.pointer (some ⟨w0.heap.size + 1, 2, none⟩)) _ (Below.refl _ _) rfl
      · intro x w hb hk Q' hQ
        have h0 : x.v 0 = .pointer (some ⟨w0.heap.size + 1, 2, none⟩) := (hk 0 (by decide)).1
        clear hk
        simp only [netAct, dstAt, List.getElem?_toArray, List.getElem?_cons_zero, List.getElem?_cons_succ, Option.bind_some, Act.put, List.setIfInBounds_toArray, List.set_cons_zero, List.set_cons_succ] at hQ ⊢
        simp only [h0] at hQ ⊢
        clear h0
        have z := (HB.out.call hb).cell' (i := 2) rfl
        go_wp2
        exact hQ (.slice OA on oc) _ (Below.refl _ _) rfl
      · intro x w hb hk Q' hQ
        clear hk
        simp only [netAct, dstAt, List.getElem?_toArray, List.getElem?_cons_zero, List.getElem?_cons_succ, Option.bind_some, Act.put, List.setIfInBounds_toArray, List.set_cons_zero, List.set_cons_succ] at hQ ⊢
        go_wp2
        exact hQ (.slice (some ⟨bu, ou, none⟩) r uc) _ (Below.refl _ _) rfl
      · intro x w hb hk Q' hQ
        clear hk
        simp only [netAct, dstAt, List.getElem?_toArray, List.getElem?_cons_zero, List.getElem?_cons_succ, Option.bind_some, Act.put, List.setIfInBounds_toArray, List.set_cons_zero, List.set_cons_succ] at hQ ⊢
        go_wp2
        exact hQ (.int .i64 k) _ (Below.refl _ _) rfl
      · intro x w hb hk Q' hQ
        have h2 : x.v 2 = .slice (some ⟨bu, ou, none⟩) r uc := (hk 2 (by decide)).1
        have h3 : x.v 3 = .int .i64 k := (hk 3 (by decide)).1
        clear hk
        simp only [netAct, dstAt, List.getElem?_toArray, List.getElem?_cons_zero, List.getElem?_cons_succ, Option.bind_some, Act.put, List.setIfInBounds_toArray, List.set_cons_zero, List.set_cons_succ] at hQ ⊢
        simp only [h2, h3] at hQ ⊢
        clear h2 h3
        go_wp2
        exact hQ (.pointer (some ⟨bu, ou + k, none⟩)) _ (Below.refl _ _) rfl
      · intro x w hb hk Q' hQ
        have h4 : x.v 4 = .pointer (some ⟨bu, ou + k, none⟩) := (hk 4 (by decide)).1
        clear hk
        simp only [netAct, dstAt, List.getElem?_toArray, List.getElem?_cons_zero, List.getElem?_cons_succ, Option.bind_some, Act.put, List.setIfInBounds_toArray, List.set_cons_zero, List.set_cons_succ] at hQ ⊢
        simp only [h4] at hQ ⊢
        clear h4
        have z := bcell hb hbu U1.out
        go_wp2
        exact hQ (.slice LA c lc) _ (Below.refl _ _) rfl
      · intro x w hb hk hiv hdj
        have h0 : x.v 0 = .pointer (some ⟨w0.heap.size + 1, 2, none⟩) := hk 0 (by decide)
        have h1 : x.v 1 = .slice OA on oc := hk 1 (by decide)
        have h2 : x.v 2 = .slice (some ⟨bu, ou, none⟩) r uc := hk 2 (by decide)
        have h3 : x.v 3 = .int .i64 k := hk 3 (by decide)
        have h4 : x.v 4 = .pointer (some ⟨bu, ou + k, none⟩) := hk 4 (by decide)
        have h5 : x.v 5 = .slice LA c lc := hk 5 (by decide)
        clear hk
        simp only [netAct, dstAt, List.getElem?_toArray, List.getElem?_cons_zero, List.getElem?_cons_succ, Option.bind_some, Act.put, List.setIfInBounds_toArray, List.set_cons_zero, List.set_cons_succ]
        simp only [List.drop_succ_cons, List.drop_zero, h0, h1, h2, h3, h4, h5]
        clear h0 h1 h2 h3 h4 h5
        refine wpList_appI (by rfl) (.tmp 18) (.tmp 22) (by rfl) W.heap.size wx.heap.size _ (flat k c f) (by rfl) (HO.out.below hb) LA c lc (rowF c (f k)) (by rfl) (rowF_length _ _).symm (by rw [rowF_length]; exact SlI.below hb HLL.out) (by rw [rowF_length]; have := HFL.out; omega) (Nat.le_trans hs hb.size) ?_
        intro v' w' ho' hg' _
        rw [flat_snoc] at ho'
        obtain ⟨OA', oc', rfl, _⟩ := ho'.form
        have hOb := HO.out.below hb
        have hk2 := (HB.out.call hb).grown hg' (hOb.blkne (HB.out.call hb) (by decide))
        have hk1 := (HB1.out.call hb).grown hg' (hOb.blkne (HB1.out.call hb) (by decide))
        have hb2 : Below w0.heap.size w0 w' := (Hb.out.trans (hb.mono Hb.out.size)).grown hg' (Nat.le_trans Hb.out.size hb.size) fun j hj => by have := (hOb.lt j hj).1; omega
        have hs2 : W.heap.size ≤ w'.heap.size := Nat.le_trans hs (Nat.le_trans hb.size hg'.size)
        have n2 := ho'.blkne hk2 (by decide)
        have fr := hk2.frozen
        have z2 := hk2.cell' (i := 2) rfl
        obtain ⟨W', hW'⟩ : ∃ z, w'.setCell ⟨w0.heap.size + 1, 2, none⟩ (.slice OA' (flat (k + 1) c f).length oc') = z := ⟨_, rfl⟩
        have hc' : Chg (w0.heap.size + 1) (w0.heap.size + 1 + 1) w' W' := by rw [← hW']; exact chg_set (Nat.le_refl _) (Nat.lt_succ_self _)
        have H2 : Hid (Blk W' (w0.heap.size + 1) 50 #[.int .i64 r, .int .i64 c, .slice OA' (flat (k + 1) c f).length oc']) := by show Blk _ _ _ _; rw [← hW']; exact hk2.set_ 2 _
        have H1 := Lib.hid (hk1.chg hc' (.inl (by omega)))
        have HO2 : Hid (OwnI W' W.heap.size (.slice OA' (flat (k + 1) c f).length oc') (flat (k + 1) c f)) := by
          show OwnI _ _ _ _
          rw [← hW']
          exact ho'.setCell (by intro e; exact n2 e.symm) _
        have HB2 := Lib.hid (hb2.trans (hc'.below (by omega) (by omega)))
        have hs3 : W.heap.size ≤ W'.heap.size := Nat.le_trans hs2 hc'.size
        clear ho' hg' hk2 hk1 hb2 hOb n2 hc' hiv hdj HO HB HB1 Hb HLL
        go_wp2
        clear hW' z2 fr
        go_roundw
        case rel => exact ⟨k + 1, OA', _, oc', by omega, by go_num, H2.out, HO2.out, HB2.out, hs3, H1.out⟩
        case measure => simp [intOf]; omega
    · obtain rfl : k = r := by omega
      have hn : on = (flat k c f).length := by obtain ⟨_, _, e, _⟩ := hO.form; injection e
      subst hn
      have fr := hB1.frozen
      have z0 := hB1.cell' (i := 0) rfl
      have z1 := hB1.cell' (i := 1) rfl
      have z2 := hB1.cell' (i := 2) rfl
      have y0 := hB.cell' (i := 0) rfl
      have y1 := hB.cell' (i := 1) rfl
      have y2 := hB.cell' (i := 2) rfl
      have n1 := hO.blkne hB1 (by decide)
      have hc2 := (((chg_set1 wr w0.heap.size 0 (.int .i64 k)).trans (chg_set1 _ w0.heap.size 1 (.int .i64 c))).trans (chg_set1 _ w0.heap.size 2 (.slice OA (flat k c f).length oc)))
      have OF := Lib.hid (((IntsO.of_own hO).chg hc2 (.inr (by omega))).wider (lo' := w0.heap.size) (hi' := wr.heap.size) (by omega) (Nat.le_refl _))
      have GF := Lib.hid (hb.trans (hc2.below (Nat.le_refl _) hb.size))
      clear hO hb hB hB1 hc2 n1
      go_wp2
      exact bodyPost_ret (v := .agg #[.int .i64 k, .int .i64 c, .slice OA (flat k c f).length oc]) (by simp [results, go_sem, z0, z1, z2]) rfl ⟨_, rfl, ⟨_, rfl, by simpa [mxF] using OF.out, by simp only [mxF]; unfold I64; omega, by simp only [mxF]; unfold I64; omega⟩, GF.out⟩
set_option maxHeartbeats 3200000 in
set_option maxRecDepth 100000 in
theorem l5Basis_any (p : Int) (u : Value) (r c : Nat) (f : Nat → Nat → Int) (w0 : World) (hp : isFld p = true) (hr : r ≤ 1000) (hc : c ≤ 1000) (hu : MxR w0 w0.heap.size u (mxF r c f)) (hf : InF p r c f) :
    Calls Tryz.prog 64 #[.int .i64 p, u] w0 fun e w' => ∃ v, e = .returned v ∧ IntssO w' w0.heap.size w'.heap.size v (rowsF (rdTo p r f c).2.length c (rdTo p r f c).1) ∧ Below w0.heap.size w0 w' := by
  have hpr := isFld_r hp
  have hu' := hu
  obtain ⟨UA, uc, rfl⟩ := hu.form
  simp only [mxF] at hu hu' ⊢
  rw [flat_length] at hu hu' ⊢
  obtain ⟨UL, hUL⟩ : ∃ n, r * c = n := ⟨_, rfl⟩
  rw [hUL] at hu hu' ⊢
  have HUL := Lib.hid hUL
  clear hUL hu
  obtain ⟨W, hW⟩ : ∃ W, W = w0.alloc (.cells #[.int .i64 r, .int .i64 c, .slice UA UL uc] 50) := ⟨_, rfl⟩
  have g0 : Below w0.heap.size w0 W := by rw [hW]; exact below_alloc _ _
  have kB : Blk W w0.heap.size 50 #[.int .i64 r, .int .i64 c, .slice UA UL uc] := by rw [hW]; exact Blk.new _ _ _
  have HU := Lib.hid (MxR.next g0 hu')
  have HF := Lib.hid hf
  have HP := Lib.hid hp
  have sW : W.heap.size = w0.heap.size + 1 := by rw [hW]; simp
  have SW := Lib.hid sW
  have c0 := kB.cell' (i := 0) rfl
  have c1 := kB.cell' (i := 1) rfl
  have c2 := kB.cell' (i := 2) rfl
  clear hu' hf hp sW
  go_enter Tryz.func64, Tryz.ntmps64
  go_wp2_with fail
  rw [← hW]; clear hW
  refine (l4Reduce_any p _ r c f _ HP.out hr hc HU.out HF.out).mono ?_; rintro e w1 ⟨m, v, rfl, hM, hI, hb1⟩
  have hpl := rdTo_len p r f c
  obtain ⟨g, hg⟩ : ∃ g, (rdTo p r f c).1 = g := ⟨_, rfl⟩
  obtain ⟨ps, hps⟩ : ∃ ps, (rdTo p r f c).2 = ps := ⟨_, rfl⟩
  rw [hg] at hM
  rw [hps] at hI hpl
  have HG := Lib.hid hg
  have HPS := Lib.hid hps
  clear hg hps
  obtain ⟨MA, mc, em⟩ := hM.form
  obtain ⟨PA, pc, ev⟩ := hI.form
  subst em ev
  simp only [mxF] at hM ⊢
  rw [flat_length] at hM ⊢
  rw [HUL.out] at hM ⊢
  obtain ⟨pn, hpn⟩ : ∃ n, ps.length = n := ⟨_, rfl⟩
  rw [hpn] at hI hpl ⊢
  have HPN := Lib.hid hpn
  clear hpn c0 c1 c2
  obtain ⟨W2, hW2⟩ : ∃ u, w1.alloc (.cells #[.int .i64 r, .int .i64 c, .slice MA UL mc] 50) = u := ⟨_, rfl⟩
  have ga : Below w1.heap.size w1 W2 := by rw [← hW2]; exact below_alloc _ _
  have kM : Blk W2 w1.heap.size 50 #[.int .i64 r, .int .i64 c, .slice MA UL mc] := by rw [← hW2]; exact Blk.new _ _ _
  have g12 := bthen hb1 ga
  have s12 := g12.size
  have sa : W2.heap.size = w1.heap.size + 1 := by rw [← hW2]; simp
  obtain ⟨W3, hW3⟩ : ∃ u, W2.alloc (.cells #[] 22) = u := ⟨_, rfl⟩
  have gb : Below W2.heap.size W2 W3 := by rw [← hW3]; exact below_alloc _ _
  have hO3 : IntssO W3 W2.heap.size W3.heap.size (.slice (some ⟨W2.heap.size, 0, none⟩) 0 0) (rowsF 0 c g) := by rw [← hW3]; simpa [rowsF] using IntssO.made0 _ (Nat.le_refl _)
  have HM2 := Lib.hid (hM.below ga).rd
  have G2 := Lib.hid (bthen g0 g12)
  have sb := gb.size
  have lM := kM.lt
  clear hM hI ga hb1 g12 g0 kB
  go_wp2
  clear hW2 hW3
  go_loopw [7, 8] (fun out i wr => ∃ (k : Nat) (OA : Option Addr) (on oc : Nat), k ≤ pn ∧ i = .int .i64 k ∧ out = .slice OA on oc ∧ IntssO wr W2.heap.size wr.heap.size (.slice OA on oc) (rowsF k c g) ∧ Below W2.heap.size W2 wr) (fun _ i _ => pn - (intOf i).toNat)
  case atStart => exact ⟨0, _, _, _, Nat.zero_le _, rfl, rfl, by have := hO3; rw [sa] at this ⊢; exact this, gb⟩
  case round =>
    clear hO3 gb
    obtain ⟨k, OA, on, oc, hk, rfl, rfl, hO, hb⟩ := hrel
    have s3 := hb.size
    have kMr := kM.call hb
    have m1 := kMr.cell' (i := 1) rfl
    have m2 := kMr.cell' (i := 2) rfl
    by_cases hlt : k < pn
    · have hkr : k < r := by omega
      obtain ⟨P, hP⟩ : ∃ P, P = k * c := ⟨_, rfl⟩
      have hkc : (k + 1) * c ≤ r * c := Nat.mul_le_mul_right _ hkr
      rw [Nat.add_mul, Nat.one_mul, HUL.out, ← hP] at hkc
      have hrc : r * c ≤ 1000000 := Nat.mul_le_mul hr hc
      rw [HUL.out] at hrc
      have hPw : ∀ [Inhabited Unit], wrap64 ((k : Int) * (c : Int)) = (P : Int) := fun {_} => by
        rw [hP, ← Int.natCast_mul]; exact IntWalk.wrap64_in _ ⟨by rw [← hP]; omega, by rw [← hP]; omega⟩
      obtain ⟨_, _, ema, hMs, _, _, _⟩ := (MxR.next hb HM2.out).open_
      simp only [Value.agg.injEq, Array.mk.injEq, List.cons.injEq, and_true, true_and, Value.slice.injEq] at ema
      obtain ⟨eMA, eUL, emc⟩ := ema
      subst eMA emc
      have hml : UL ≤ mc := by
        obtain ⟨_, c', e', h1, _⟩ := hMs
        injection e' with _ _ e3
        subst e3
        rw [eUL]; exact h1
      rw [← eUL] at hMs
      obtain ⟨A', eA', hcut⟩ : ∃ A', (if mc = P then MA else MA.map (·.add (P * 1))) = A' ∧ SlG 1 RI wr wr.heap.size (.slice A' (P + c - P) (mc - P)) (((flat r c g).drop P).take (P + c - P)) := SlG.cut (i := P) (k := P + c) (xs := flat r c g) (by rw [flat_length, HUL.out]; exact hMs) (by omega) (by rw [flat_length, HUL.out]; omega)
      clear eUL
      rw [show P + c - P = c by omega] at hcut
      have hrow : ((flat r c g).drop P).take c = rowF c (g k) := by
        apply List.ext_getElem?
        intro j
        rw [List.getElem?_take, List.getElem?_drop]
        by_cases hj : j < c
        · rw [if_pos hj, hP, flat_get g hkr hj, rowF_get _ hj]
        · rw [if_neg hj, List.getElem?_eq_none (by rw [rowF_length]; omega)]
      rw [hrow] at hcut
      have hcut2 : SlG 1 RI wr wr.heap.size (.slice (MA.map fun x => x.add P) c (mc - P)) (rowF c (g k)) := by
        rw [Nat.mul_one] at eA'
        by_cases hmp : mc = P
        · obtain rfl : c = 0 := by omega
          refine ⟨_, mc - P, rfl, by simp [rowF], ?_, by simp [rowF], fun h => absurd h (by simp [rowF])⟩
          obtain ⟨_, _, e, _, h, _⟩ := hcut; injection e with _ _ e; omega
        · rw [if_neg hmp] at eA'
          rw [eA']; exact hcut
      have HC := Lib.hid hcut2
      have HO := Lib.hid hO
      have HB := Lib.hid hb
      clear hcut hcut2 eA' hO hb hMs hrow hP kMr
      obtain ⟨X, hX⟩ : ∃ z, wr.alloc (.cells #[] 3) = z := ⟨_, rfl⟩
      have bX : Below wr.heap.size wr X := by rw [← hX]; exact below_alloc _ _
      obtain ⟨gx, hgx⟩ : ∃ z, wr.heap.size = z := ⟨_, rfl⟩
      have kX : Blk X gx 3 #[] := by rw [← hX, ← hgx]; exact Blk.new _ _ _
      have HCX := Lib.hid (SlI.next bX HC.out)
      have HBX := Lib.hid (HB.out.trans (bX.mono HB.out.size))
      have HOX := Lib.hid (HO.out.below bX)
      have kMX := kM.call HBX.out
      have m1x := kMX.cell' (i := 1) rfl
      have m2x := kMX.cell' (i := 2) rfl
      clear m1 m2 kMX bX
      (go_wp2_with (at_builtin; refine Hold.stop ?_)); unfold Hold
      clear hX m1x m2x hPw
      refine wpList_append_fresh (by rfl) (.tmp 23) (.tmp 37) (by rfl) gx gx X.heap.size #[] (by rfl) kX rfl (Nat.le_refl _) _ (mc - P) (rowF c (g k)) (by rw [rowF_length]; rfl) (by rw [rowF_length]; exact HCX.out) ?_
      intro v6 w6 ho6 hb6
      obtain ⟨RA, rc, ev, _⟩ := ho6.form
      subst ev
      rw [rowF_length] at ho6 ⊢
      obtain ⟨Z, hZ⟩ : ∃ Z, w6.alloc (.cells #[.slice RA c rc] 22) = Z := ⟨_, rfl⟩
      obtain ⟨gz, hgz⟩ : ∃ z, w6.heap.size = z := ⟨_, rfl⟩
      have bZ : Below w6.heap.size w6 Z := by rw [← hZ]; exact below_alloc _ _
      have kZ : Blk Z gz 22 #[.slice RA c rc] := by rw [← hZ, ← hgz]; exact Blk.new _ _ _
      have s6 := hb6.size
      have sZ := bZ.size
      have sX : wr.heap.size ≤ X.heap.size := by have := HBX.out.size; have := kX.lt; omega
      have sX0 : W2.heap.size ≤ gx := by omega
      have HOZ := Lib.hid ((HOX.out.below hb6).below bZ)
      have HRZ := Lib.hid ((IntsO.of_own ho6).below bZ)
      have HBZ := Lib.hid ((HBX.out.trans (hb6.mono (by omega))).trans (bZ.mono (by omega)))
      have C0 := Lib.hid (kZ.cell' (i := 0) rfl)
      have hgz2 : w6.heap.size ≤ gz := Nat.le_of_eq hgz
      have hgz3 : gz ≤ w6.heap.size := Nat.le_of_eq hgz.symm
      clear ho6 hb6 bZ kZ
      (go_wp2_with (at_builtin; refine Hold.stop ?_)); unfold Hold
      clear hZ hgz
      refine wpList_appR (by rfl) (.tmp 22) (.tmp 39) (by rfl) W2.heap.size _ gx w6.heap.size _ _ _ (by rfl) HOZ.out (some ⟨gz, 0, none⟩) 1 _ (by rfl) ⟨_, _, rfl, C0.out⟩ HRZ.out (by omega) (by omega) (by omega) (by rw [rowsF_length]; omega) (by omega) (by omega) ?_
      intro v' w' h1 h2 h3
      have hsn := rowsF_succ k c g
      rw [← hsn] at h1
      obtain ⟨A2, c2', ev', _⟩ := h1.form2
      subst ev'
      have H1 := Lib.hid h1
      have H2 := Lib.hid (HBZ.out.trans h2)
      clear h1 h2 h3 hsn
      go_wp2
      go_roundw
      case rel => exact ⟨k + 1, A2, _, c2', by omega, by go_num, rfl, H1.out, H2.out⟩
      case measure => simp [intOf]; omega
    · obtain rfl : k = pn := by omega
      have HOF := Lib.hid hO
      have GF := Lib.hid (bthen G2.out hb)
      have sz := SW.out
      have s5 := s12
      clear hO hb
      go_wp2
      go_ret
      exact ⟨_, rfl, by rw [HPS.out, HG.out, HPN.out]; exact HOF.out.wider (by omega) (Nat.le_refl _), GF.out⟩
set_option maxHeartbeats 1600000 in
theorem l5Span_any (p : Int) (u : Value) (r c : Nat) (f : Nat → Nat → Int) (w0 : World) (hp : isFld p = true) (hr : r ≤ 1000) (hc : c ≤ 1000) (hu : SlII w0 w0.heap.size u (rowsF r c f)) (hf : InF p r c f) :
    Calls Tryz.prog 26 #[.int .i64 p, .int .i64 c, u] w0 fun e w' => ∃ v, e = .returned (.agg #[.int .i64 c, v]) ∧ IntssO w' w0.heap.size w'.heap.size v (rowsF (rdTo p r f c).2.length c (rdTo p r f c).1) ∧ Below w0.heap.size w0 w' := by
  obtain ⟨W, hW⟩ : ∃ W, W = w0.alloc (.cells #[.int .i64 0, .slice none 0 0] 59) := ⟨_, rfl⟩
  have g0 : Below w0.heap.size w0 W := by rw [hW]; exact below_alloc _ _
  have kR : Blk W w0.heap.size 59 #[.int .i64 0, .slice none 0 0] := by rw [hW]; exact Blk.new _ _ _
  have sW : W.heap.size = w0.heap.size + 1 := by rw [hW]; simp
  have HU := Lib.hid (SlII.next g0 hu)
  have HF := Lib.hid hf
  have HP := Lib.hid hp
  clear hu hf hp
  go_enter Tryz.func26, Tryz.ntmps26
  go_wp2_with fail
  rw [← hW]; clear hW
  refine (l5Rows_any _ r c f _ hr hc HU.out).mono ?_; rintro e w1 ⟨v1, rfl, hM, hb1⟩
  have HM := Lib.hid hM.rd
  have g1 := bthen g0 hb1
  have kR1 := kR.call hb1
  clear hM hb1
  go_wp2_with fail
  refine (l5Basis_any p _ r c f _ HP.out hr hc HM.out HF.out).mono ?_; rintro e w2 ⟨v, rfl, hI, hb2⟩
  obtain ⟨VA, vc, ev, _⟩ := hI.form2
  subst ev
  rw [rowsF_length] at hI ⊢
  have kz := kR1.call hb2
  have fr := kz.frozen
  have z0 := kz.cell' (i := 0) rfl
  have z1 := kz.cell' (i := 1) rfl
  have g2 := bthen g1 hb2
  have s1 := g1.size
  obtain ⟨n, hn⟩ : ∃ n, (rdTo p r f c).2.length = n := ⟨_, rfl⟩
  rw [hn] at hI
  rw [hn]
  have HN := Lib.hid hn
  clear hn
  have hc2 : Chg w0.heap.size (w0.heap.size + 1) w2 ((w2.setCell ⟨w0.heap.size, 0, none⟩ (.int .i64 c)).setCell ⟨w0.heap.size, 1, none⟩ (.slice VA n vc)) := (chg_set1 _ _ _ _).trans (chg_set1 _ _ _ _)
  have s2 := kR1.lt
  have OF := Lib.hid ((hI.chg hc2 (.inr (by omega))).wider (lo' := w0.heap.size) (hi' := w2.heap.size) (by omega) (Nat.le_refl _))
  have GF := Lib.hid (g2.trans (hc2.below (Nat.le_refl _) g2.size))
  clear hI kz g2 hc2 hb2
  go_wp2
  exact bodyPost_ret (v := .agg #[.int .i64 c, .slice VA n vc]) (by simp [results, go_sem, z0, z1]) rfl ⟨_, rfl, by rw [HN.out]; simpa using OF.out, GF.out⟩
end Go.Proofs.YtaefpblpfjhgoaaGreat

/- The reference's l4Image: the pivot columns. -/
namespace Go.Proofs.YtaefpblpfjhgoaaGreat
set_option linter.unusedVariables false
set_option linter.unusedSimpArgs false
open Go.RowKit

theorem chg_of_belowG {w w' : World} {G : Nat} (h : Below G w w') : Chg G w.heap.size w w' := ⟨h.os, h.tape, h.output, h.size, fun k hk hn => h.block k (by omega)⟩
theorem rowFs1 (n : Nat) (f : Nat → Int) : rowF (n + 1) f = rowF n f ++ [f n] := by simp [rowF, List.range_succ]
theorem sl_one1 {w : World} {g : Nat} {x : Int} (hk : Blk w g 3 #[.int .i64 x]) (hx : I64 x) : SlI w w.heap.size (.slice (some ⟨g, 0, none⟩) 1 1) [x] := by
  refine ⟨_, 1, rfl, by simp, by omega, by simp, fun _ => ⟨g, 0, rfl, hk.lt, fun j y hj => ?_⟩⟩
  match j, hj with
  | 0, hj =>
    simp at hj; subst hj
    exact ⟨by rw [hk.cell]; rfl, hx⟩
  | j + 1, hj => simp at hj
set_option maxHeartbeats 3200000 in
set_option maxRecDepth 100000 in
theorem l4Image_any (p : Int) (u : Value) (r c : Nat) (f : Nat → Nat → Int) (w0 : World) (hp : isFld p = true) (hr : r ≤ 1000) (hc : c ≤ 1000) (hu : MxR w0 w0.heap.size u (mxF r c f)) (hf : InF p r c f) :
    Calls Tryz.prog 27 #[.int .i64 p, u] w0 fun e w' => ∃ v, e = .returned v ∧ IntssO w' w0.heap.size w'.heap.size v (rowsF (rdTo p r f c).2.length r (pvF f (rdTo p r f c).2)) ∧ Below w0.heap.size w0 w' := by
  have hpr := isFld_r hp
  have hu' := hu
  obtain ⟨UA, uc, rfl⟩ := hu.form
  simp only [mxF] at hu hu' ⊢
  rw [flat_length] at hu hu' ⊢
  obtain ⟨UL, hUL⟩ : ∃ n, r * c = n := ⟨_, rfl⟩
  rw [hUL] at hu hu' ⊢
  have HUL := Lib.hid hUL
  clear hUL hu
  obtain ⟨W, hW⟩ : ∃ W, W = w0.alloc (.cells #[.int .i64 r, .int .i64 c, .slice UA UL uc] 50) := ⟨_, rfl⟩
  have g0 : Below w0.heap.size w0 W := by rw [hW]; exact below_alloc _ _
  have kB : Blk W w0.heap.size 50 #[.int .i64 r, .int .i64 c, .slice UA UL uc] := by rw [hW]; exact Blk.new _ _ _
  have HU := Lib.hid (MxR.next g0 hu')
  have HF := Lib.hid hf
  have HP := Lib.hid hp
  have sW : W.heap.size = w0.heap.size + 1 := by rw [hW]; simp
  have SW := Lib.hid sW
  have c0 := kB.cell' (i := 0) rfl
  have c1 := kB.cell' (i := 1) rfl
  have c2 := kB.cell' (i := 2) rfl
  clear hu' hf hp sW
  go_enter Tryz.func27, Tryz.ntmps27
  go_wp2_with fail
  rw [← hW]; clear hW
  refine (l4Reduce_any p _ r c f _ HP.out hr hc HU.out HF.out).mono ?_; rintro e w1 ⟨m, v, rfl, hM, hI, hb1⟩
  have HPS := Lib.hid (rd_ps HP.out hpr.1 HF.out)
  have hpl := rdTo_len p r f c
  obtain ⟨ps, hps⟩ : ∃ ps, (rdTo p r f c).2 = ps := ⟨_, rfl⟩
  rw [hps] at hI hpl HPS
  have HPSE := Lib.hid hps
  clear hps
  obtain ⟨MA, mc, em⟩ := hM.form
  obtain ⟨PA, pc, ev⟩ := hI.form
  subst em ev
  simp only [mxF] at hM ⊢
  rw [flat_length] at hM ⊢
  rw [HUL.out] at hM ⊢
  obtain ⟨pn, hpn⟩ : ∃ n, ps.length = n := ⟨_, rfl⟩
  rw [hpn] at hI hpl ⊢
  have HPN := Lib.hid hpn
  clear hpn c0 c1 c2
  obtain ⟨W2, hW2⟩ : ∃ u, w1.alloc (.cells #[.int .i64 r, .int .i64 c, .slice MA UL mc] 50) = u := ⟨_, rfl⟩
  have ga : Below w1.heap.size w1 W2 := by rw [← hW2]; exact below_alloc _ _
  have g12 := bthen hb1 ga
  have s12 := g12.size
  have sa : W2.heap.size = w1.heap.size + 1 := by rw [← hW2]; simp
  obtain ⟨W3, hW3⟩ : ∃ u, W2.alloc (.cells #[] 22) = u := ⟨_, rfl⟩
  have gb : Below W2.heap.size W2 W3 := by rw [← hW3]; exact below_alloc _ _
  have hO3 : IntssO W3 W2.heap.size W3.heap.size (.slice (some ⟨W2.heap.size, 0, none⟩) 0 0) (rowsF 0 r (pvF f ps)) := by rw [← hW3]; simpa [rowsF] using IntssO.made0 _ (Nat.le_refl _)
  have HI2 := Lib.hid (hI.below ga).rd
  have HU2 := Lib.hid (MxR.next g12 HU.out)
  have KB := Lib.hid (kB.call g12)
  have G2 := Lib.hid (bthen g0 g12)
  have sb := gb.size
  clear hM hI ga hb1 g12 g0 kB
  go_wp2
  clear hW2 hW3
  go_loopw [7, 8] (fun out i wr => ∃ (k : Nat) (OA : Option Addr) (on oc : Nat), k ≤ pn ∧ i = .int .i64 k ∧ out = .slice OA on oc ∧ IntssO wr W2.heap.size wr.heap.size (.slice OA on oc) (rowsF k r (pvF f ps)) ∧ Below W2.heap.size W2 wr) (fun _ i _ => pn - (intOf i).toNat)
  case atStart => exact ⟨0, _, _, _, Nat.zero_le _, rfl, rfl, by have := hO3; rw [sa] at this ⊢; exact this, gb⟩
  case round =>
    clear hO3 gb
    obtain ⟨k, OA, on, oc, hk, rfl, rfl, hO, hb⟩ := hrel
    have s3 := hb.size
    by_cases hlt : k < pn
    · obtain ⟨bp, op, x, ep, hbp, HXP, p1, _⟩ := SlI.atM (k := k) HI2.out HPN.out hlt
      subst ep
      obtain ⟨pk, rfl, hpk⟩ := HPS.out k x HXP.out
      have hpv : Hid (∀ b, pvF f ps k b = f b pk) := fun b => by rw [pvF, List.getD_eq_getElem?_getD, HXP.out]; rfl
      obtain ⟨X, hX⟩ : ∃ z, wr.alloc (.cells #[] 3) = z := ⟨_, rfl⟩
      have bX : Below wr.heap.size wr X := by rw [← hX]; exact below_alloc _ _
      obtain ⟨G, hG⟩ : ∃ z, wr.heap.size = z := ⟨_, rfl⟩
      have hV : OwnI X G (.slice (some ⟨G, 0, none⟩) 0 0) (rowF 0 (pvF f ps k)) := by rw [← hX, ← hG]; simpa [rowF] using OwnI.made (w := wr) (base := wr.heap.size) 3 rfl (Nat.le_refl _)
      have hOX := hO.below bX
      rw [hG] at hOX
      have hBX := hb.trans (bX.mono s3)
      have hsX : G ≤ X.heap.size := by have := bX.size; omega
      have hGW : W2.heap.size ≤ G := by omega
      have P1 := Lib.hid p1
      clear hO hb bX p1 HXP
      go_wp2
      clear hX hG
      go_loopw [9, 10] (fun vv j wr => ∃ (m : Nat) (VA : Option Addr) (vc : Nat), m ≤ r ∧ j = .int .i64 m ∧ vv = .slice VA m vc ∧ OwnI wr G (.slice VA m vc) (rowF m (pvF f ps k)) ∧ IntssO wr W2.heap.size G (.slice OA on oc) (rowsF k r (pvF f ps)) ∧ Below W2.heap.size W2 wr ∧ G ≤ wr.heap.size) (fun _ j _ => r - (intOf j).toNat)
      case atStart => exact ⟨0, _, 0, Nat.zero_le _, rfl, rfl, hV, hOX, hBX, hsX⟩
      case round =>
        clear hV hOX hBX hsX s3
        obtain ⟨m, VA, vc, hm, rfl, rfl, hV, hO, hb, hG⟩ := hrel
        have s4 := hb.size
        have kBr := KB.out.call hb
        have m0 := kBr.cell' (i := 0) rfl
        by_cases hml : m < r
        · obtain ⟨P, hP⟩ : ∃ P, P = m * c := ⟨_, rfl⟩
          have hPw := Lib.hid (ixP (i := m) (k := pk) hml hpk hr hc hP)
          obtain ⟨d1, d2, d3⟩ := rowP (i := m) (k := pk) (r := r) (c := c) hml hpk hr hc hP
          rw [HUL.out] at d1 d2 d3
          have hU : (flat r c f)[P + pk]? = some (f m pk) := by rw [hP]; exact flat_get f hml hpk
          obtain ⟨_, _, ema, hMs, _, _, _⟩ := HU2.out.open_
          simp only [Value.agg.injEq, Array.mk.injEq, List.cons.injEq, and_true, true_and, Value.slice.injEq] at ema
          obtain ⟨eMA, eUL, emc⟩ := ema
          subst eMA emc
          rw [← eUL] at hMs
          clear eUL
          obtain ⟨bm, om, x', em, hbm, HXM, x1, hx1, hx2⟩ := SlI.atM (k := P + pk) hMs (by simp only [flat_length]; exact HUL.out) d1
          subst em
          have hx' := HXM.out
          simp only at hx'
          rw [hU] at hx'
          injection hx' with hx'
          have HX' := Lib.hid hx'
          have X1 := Lib.hid x1
          have HV := Lib.hid hV
          have HO := Lib.hid hO
          have HB := Lib.hid hb
          have HIx : Hid (I64 x') := ⟨hx1, hx2⟩
          clear hV hO hb kBr hMs hU HXM x1 hx' hP hx1 hx2
          go_wp2
          clear m0
          obtain ⟨wx, hwx⟩ : ∃ z, z = wr := ⟨_, rfl⟩
          subst hwx
          refine wp_region_net (by kernel_rfl) [.eq (.slice VA m vc), .eq (.pointer (some ⟨w0.heap.size, 2, none⟩)), .eq (.slice (some ⟨bm, om, none⟩) UL uc), .eq (.int .i64 m), .eq (.pointer (some ⟨w0.heap.size, 1, none⟩)), .eq (.int .i64 c), .eq (.int .i64 P), .eq (.slice (some ⟨bp, op, none⟩) pn pc), .eq (.int .i64 k), .eq (.pointer (some ⟨bp, op + k, none⟩)), .eq (.int .i64 pk), .eq (.int .i64 ((P : Int) + pk)), .eq (.pointer (some ⟨bm, om + (P + pk), none⟩)), .eq (.int .i64 x'), rel 14 (fun u lo hi w => ∃ g, u = .slice (some ⟨g, 0, none⟩) 1 1 ∧ Blk w g 3 #[.int .i64 x'])] [[], [], [1], [], [], [4], [3, 4, 5], [], [], [7, 8], [7, 8, 9], [3, 4, 5, 6, 7, 8, 9, 10], [1, 2, 3, 4, 5, 6, 7, 8, 9, 10, 11], [1, 2, 3, 4, 5, 6, 7, 8, 9, 10, 11, 12], [1, 2, 3, 4, 5, 6, 7, 8, 9, 10, 11, 12, 13], [0, 1, 2, 3, 4, 5, 6, 7, 8, 9, 10, 11, 12, 13, 14], [0, 1, 2, 3, 4, 5, 6, 7, 8, 9, 10, 11, 12, 13, 14, 15]] 15 (by kernel_rfl) ⟨trivial, trivial, trivial, trivial, trivial, trivial, trivial, trivial, trivial, trivial, trivial, trivial, trivial, trivial, rel_stable (fun u lo hi w w' ⟨g, e, h⟩ hb => ⟨g, e, h.call hb⟩), trivial⟩ ⟨?_, ?_, ?_, ?_, ?_, ?_, ?_, ?_, ?_, ?_, ?_, ?_, ?_, ?_, ?_, trivial⟩ ?_
          · intro x w hb hk Q' hQ
            clear hk
            simp only [netAct, dstAt, List.getElem?_toArray, List.getElem?_cons_zero, List.getElem?_cons_succ, Option.bind_some, Act.put, List.setIfInBounds_toArray, List.set_cons_zero, List.set_cons_succ] at hQ ⊢
            go_wp2
            exact hQ (.slice VA m vc) _ (Below.refl _ _) rfl
          · intro x w hb hk Q' hQ
            clear hk
            simp only [netAct, dstAt, List.getElem?_toArray, List.getElem?_cons_zero, List.getElem?_cons_succ, Option.bind_some, Act.put, List.setIfInBounds_toArray, List.set_cons_zero, List.set_cons_succ] at hQ ⊢
            go_wp2
            exact hQ (.pointer (some ⟨w0.heap.size, 2, none⟩)) _ (Below.refl _ _) rfl
          · intro x w hb hk Q' hQ
            have h1 : x.v 1 = .pointer (some ⟨w0.heap.size, 2, none⟩) := (hk 1 (by decide)).1
            clear hk
            simp only [netAct, dstAt, List.getElem?_toArray, List.getElem?_cons_zero, List.getElem?_cons_succ, Option.bind_some, Act.put, List.setIfInBounds_toArray, List.set_cons_zero, List.set_cons_succ] at hQ ⊢
            simp only [h1] at hQ ⊢
            clear h1
            have z := (KB.out.call (HB.out.trans (hb.mono s4))).cell' (i := 2) rfl
            go_wp2
            exact hQ (.slice (some ⟨bm, om, none⟩) UL uc) _ (Below.refl _ _) rfl
          · intro x w hb hk Q' hQ
            clear hk
            simp only [netAct, dstAt, List.getElem?_toArray, List.getElem?_cons_zero, List.getElem?_cons_succ, Option.bind_some, Act.put, List.setIfInBounds_toArray, List.set_cons_zero, List.set_cons_succ] at hQ ⊢
            go_wp2
            exact hQ (.int .i64 m) _ (Below.refl _ _) rfl
          · intro x w hb hk Q' hQ
            clear hk
            simp only [netAct, dstAt, List.getElem?_toArray, List.getElem?_cons_zero, List.getElem?_cons_succ, Option.bind_some, Act.put, List.setIfInBounds_toArray, List.set_cons_zero, List.set_cons_succ] at hQ ⊢
            go_wp2
            exact hQ (.pointer (some ⟨w0.heap.size, 1, none⟩)) _ (Below.refl _ _) rfl
          · intro x w hb hk Q' hQ
            have h4 : x.v 4 = .pointer (some ⟨w0.heap.size, 1, none⟩) := (hk 4 (by decide)).1
            clear hk
            simp only [netAct, dstAt, List.getElem?_toArray, List.getElem?_cons_zero, List.getElem?_cons_succ, Option.bind_some, Act.put, List.setIfInBounds_toArray, List.set_cons_zero, List.set_cons_succ] at hQ ⊢
            simp only [h4] at hQ ⊢
            clear h4
            have z := (KB.out.call (HB.out.trans (hb.mono s4))).cell' (i := 1) rfl
            go_wp2
            exact hQ (.int .i64 c) _ (Below.refl _ _) rfl
          · intro x w hb hk Q' hQ
            have h3 : x.v 3 = .int .i64 m := (hk 3 (by decide)).1
            have h5 : x.v 5 = .int .i64 c := (hk 5 (by decide)).1
            clear hk
            simp only [netAct, dstAt, List.getElem?_toArray, List.getElem?_cons_zero, List.getElem?_cons_succ, Option.bind_some, Act.put, List.setIfInBounds_toArray, List.set_cons_zero, List.set_cons_succ] at hQ ⊢
            simp only [h3, h5] at hQ ⊢
            clear h3 h5
            go_wp2
            rw [hPw.out]
            exact hQ (.int .i64 P) _ (Below.refl _ _) rfl
          · intro x w hb hk Q' hQ
            clear hk
            simp only [netAct, dstAt, List.getElem?_toArray, List.getElem?_cons_zero, List.getElem?_cons_succ, Option.bind_some, Act.put, List.setIfInBounds_toArray, List.set_cons_zero, List.set_cons_succ] at hQ ⊢
            go_wp2
            exact hQ (.slice (some ⟨bp, op, none⟩) pn pc) _ (Below.refl _ _) rfl
          · intro x w hb hk Q' hQ
            clear hk
            simp only [netAct, dstAt, List.getElem?_toArray, List.getElem?_cons_zero, List.getElem?_cons_succ, Option.bind_some, Act.put, List.setIfInBounds_toArray, List.set_cons_zero, List.set_cons_succ] at hQ ⊢
            go_wp2
            exact hQ (.int .i64 k) _ (Below.refl _ _) rfl
          · intro x w hb hk Q' hQ
            have h7 : x.v 7 = .slice (some ⟨bp, op, none⟩) pn pc := (hk 7 (by decide)).1
            have h8 : x.v 8 = .int .i64 k := (hk 8 (by decide)).1
            clear hk
            simp only [netAct, dstAt, List.getElem?_toArray, List.getElem?_cons_zero, List.getElem?_cons_succ, Option.bind_some, Act.put, List.setIfInBounds_toArray, List.set_cons_zero, List.set_cons_succ] at hQ ⊢
            simp only [h7, h8] at hQ ⊢
            clear h7 h8
            go_wp2
            exact hQ (.pointer (some ⟨bp, op + k, none⟩)) _ (Below.refl _ _) rfl
          · intro x w hb hk Q' hQ
            have h9 : x.v 9 = .pointer (some ⟨bp, op + k, none⟩) := (hk 9 (by decide)).1
            clear hk
            simp only [netAct, dstAt, List.getElem?_toArray, List.getElem?_cons_zero, List.getElem?_cons_succ, Option.bind_some, Act.put, List.setIfInBounds_toArray, List.set_cons_zero, List.set_cons_succ] at hQ ⊢
            simp only [h9] at hQ ⊢
            clear h9
            have z := bcell (HB.out.trans (hb.mono s4)) hbp P1.out
            go_wp2
            exact hQ (.int .i64 pk) _ (Below.refl _ _) rfl
          · intro x w hb hk Q' hQ
            have h6 : x.v 6 = .int .i64 P := (hk 6 (by decide)).1
            have h10 : x.v 10 = .int .i64 pk := (hk 10 (by decide)).1
            clear hk
            simp only [netAct, dstAt, List.getElem?_toArray, List.getElem?_cons_zero, List.getElem?_cons_succ, Option.bind_some, Act.put, List.setIfInBounds_toArray, List.set_cons_zero, List.set_cons_succ] at hQ ⊢
            simp only [h6, h10] at hQ ⊢
            clear h6 h10
            go_wp2
            exact hQ (.int .i64 ((P : Int) + pk)) _ (Below.refl _ _) rfl
          · intro x w hb hk Q' hQ
            have h2 : x.v 2 = .slice (some ⟨bm, om, none⟩) UL uc := (hk 2 (by decide)).1
            have h11 : x.v 11 = .int .i64 ((P : Int) + pk) := (hk 11 (by decide)).1
            clear hk
            simp only [netAct, dstAt, List.getElem?_toArray, List.getElem?_cons_zero, List.getElem?_cons_succ, Option.bind_some, Act.put, List.setIfInBounds_toArray, List.set_cons_zero, List.set_cons_succ] at hQ ⊢
            simp only [h2, h11] at hQ ⊢
            clear h2 h11
            go_wp2
            exact hQ (.pointer (some ⟨bm, om + (P + pk), none⟩)) _ (Below.refl _ _) rfl
          · intro x w hb hk Q' hQ
            have h12 : x.v 12 = .pointer (some ⟨bm, om + (P + pk), none⟩) := (hk 12 (by decide)).1
            clear hk
            simp only [netAct, dstAt, List.getElem?_toArray, List.getElem?_cons_zero, List.getElem?_cons_succ, Option.bind_some, Act.put, List.setIfInBounds_toArray, List.set_cons_zero, List.set_cons_succ] at hQ ⊢
            simp only [h12] at hQ ⊢
            clear h12
            have z := bcell (HB.out.trans (hb.mono s4)) hbm X1.out
            go_wp2
            exact hQ (.int .i64 x') _ (Below.refl _ _) rfl
          · intro x w hb hk Q' hQ
            have h1 : x.v 1 = .pointer (some ⟨w0.heap.size, 2, none⟩) := (hk 1 (by decide)).1
            have h2 : x.v 2 = .slice (some ⟨bm, om, none⟩) UL uc := (hk 2 (by decide)).1
            have h3 : x.v 3 = .int .i64 m := (hk 3 (by decide)).1
            have h4 : x.v 4 = .pointer (some ⟨w0.heap.size, 1, none⟩) := (hk 4 (by decide)).1
            have h5 : x.v 5 = .int .i64 c := (hk 5 (by decide)).1
            have h6 : x.v 6 = .int .i64 P := (hk 6 (by decide)).1
            have h7 : x.v 7 = .slice (some ⟨bp, op, none⟩) pn pc := (hk 7 (by decide)).1
            have h8 : x.v 8 = .int .i64 k := (hk 8 (by decide)).1
            have h9 : x.v 9 = .pointer (some ⟨bp, op + k, none⟩) := (hk 9 (by decide)).1
            have h10 : x.v 10 = .int .i64 pk := (hk 10 (by decide)).1
            have h11 : x.v 11 = .int .i64 ((P : Int) + pk) := (hk 11 (by decide)).1
            have h12 : x.v 12 = .pointer (some ⟨bm, om + (P + pk), none⟩) := (hk 12 (by decide)).1
            have h13 : x.v 13 = .int .i64 x' := (hk 13 (by decide)).1
            clear hk
            simp only [netAct, dstAt, List.getElem?_toArray, List.getElem?_cons_zero, List.getElem?_cons_succ, Option.bind_some, Act.put, List.setIfInBounds_toArray, List.set_cons_zero, List.set_cons_succ] at hQ ⊢
            simp only [h1, h2, h3, h4, h5, h6, h7, h8, h9, h10, h11, h12, h13] at hQ ⊢
            clear h1 h2 h3 h4 h5 h6 h7 h8 h9 h10 h11 h12 h13
            go_wp2
            exact hQ _ _ (below_alloc _ _) ⟨_, rfl, Blk.new _ _ _⟩
          · intro x w hb hk hiv hdj
            have h0 : x.v 0 = .slice VA m vc := hk 0 (by decide)
            have h1 : x.v 1 = .pointer (some ⟨w0.heap.size, 2, none⟩) := hk 1 (by decide)
            have h2 : x.v 2 = .slice (some ⟨bm, om, none⟩) UL uc := hk 2 (by decide)
            have h3 : x.v 3 = .int .i64 m := hk 3 (by decide)
            have h4 : x.v 4 = .pointer (some ⟨w0.heap.size, 1, none⟩) := hk 4 (by decide)
            have h5 : x.v 5 = .int .i64 c := hk 5 (by decide)
            have h6 : x.v 6 = .int .i64 P := hk 6 (by decide)
            have h7 : x.v 7 = .slice (some ⟨bp, op, none⟩) pn pc := hk 7 (by decide)
            have h8 : x.v 8 = .int .i64 k := hk 8 (by decide)
            have h9 : x.v 9 = .pointer (some ⟨bp, op + k, none⟩) := hk 9 (by decide)
            have h10 : x.v 10 = .int .i64 pk := hk 10 (by decide)
            have h11 : x.v 11 = .int .i64 ((P : Int) + pk) := hk 11 (by decide)
            have h12 : x.v 12 = .pointer (some ⟨bm, om + (P + pk), none⟩) := hk 12 (by decide)
            have h13 : x.v 13 = .int .i64 x' := hk 13 (by decide)
            have h14 : ∃ g, (x.v 14) = .slice (some ⟨g, 0, none⟩) 1 1 ∧ Blk w g 3 #[.int .i64 x'] := hk 14 (by decide)
            clear hk
            simp only [netAct, dstAt, List.getElem?_toArray, List.getElem?_cons_zero, List.getElem?_cons_succ, Option.bind_some, Act.put, List.setIfInBounds_toArray, List.set_cons_zero, List.set_cons_succ]
            simp only [List.drop_succ_cons, List.drop_zero, h0, h1, h2, h3, h4, h5, h6, h7, h8, h9, h10, h11, h12, h13]
            clear h0 h1 h2 h3 h4 h5 h6 h7 h8 h9 h10 h11 h12 h13
            obtain ⟨gn, e14, hN⟩ := h14
            rw [e14]
            have hVw := HV.out.below hb
            refine wpList_appI (by rfl) (.tmp 31) (.tmp 45) (by rfl) G w.heap.size _ (rowF m (pvF f ps k)) (by rfl) hVw (some ⟨gn, 0, none⟩) 1 1 [x'] (by rfl) rfl (sl_one1 hN HIx.out) (by rw [rowF_length]; simp; omega) (Nat.le_trans hG hb.size) ?_
            intro v' w' ho' hg' _
            have hsn : rowF m (pvF f ps k) ++ [x'] = rowF (m + 1) (pvF f ps k) := by rw [rowFs1, hpv.out, HX'.out]
            rw [hsn] at ho'
            obtain ⟨VA', vc', ev', _⟩ := ho'.form
            rw [rowF_length] at ev'
            subst ev'
            have hOw := HO.out.below hb
            have hgB : Below G w w' := below_grown hg' (fun j hj => (hVw.lt j hj).1) (Nat.le_trans hG hb.size)
            have H1 := Lib.hid ho'
            have H2 := Lib.hid (show IntssO w' W2.heap.size G _ _ from hOw.chg (chg_of_belowG hgB) (.inl (Nat.le_refl _)))
            have H3 := Lib.hid ((HB.out.trans (hb.mono s4)).trans (hgB.mono hGW))
            have H4 : G ≤ w'.heap.size := Nat.le_trans hG (Nat.le_trans hb.size hgB.size)
            clear ho' hg' hOw hgB hVw hsn hN e14 hiv hdj
            go_wp2
            go_roundw
            case rel => exact ⟨m + 1, VA', vc', by omega, by go_num, rfl, H1.out, H2.out, H3.out, H4⟩
            case measure => simp [intOf]; omega
        · obtain rfl : m = r := by omega
          obtain ⟨Z, hZ⟩ : ∃ Z, wr.alloc (.cells #[.slice VA m vc] 22) = Z := ⟨_, rfl⟩
          obtain ⟨gz, hgz⟩ : ∃ z, wr.heap.size = z := ⟨_, rfl⟩
          have bZ : Below wr.heap.size wr Z := by rw [← hZ]; exact below_alloc _ _
          have kZ : Blk Z gz 22 #[.slice VA m vc] := by rw [← hZ, ← hgz]; exact Blk.new _ _ _
          have HOZ := Lib.hid (hO.below bZ)
          have HRZ := Lib.hid ((IntsO.of_own hV).below bZ)
          have HBZ := Lib.hid (hb.trans (bZ.mono s4))
          have sZ := bZ.size
          have C0 := Lib.hid (kZ.cell' (i := 0) rfl)
          clear hO hV hb bZ kZ
          (go_wp2_with (at_builtin; refine Hold.stop ?_)); unfold Hold
          clear hZ hgz
          refine wpList_appR (by rfl) (.tmp 47) (.tmp 49) (by rfl) W2.heap.size G G wr.heap.size _ _ _ (by rfl) HOZ.out (some ⟨gz, 0, none⟩) 1 _ (by rfl) ⟨_, _, rfl, C0.out⟩ HRZ.out (by omega) (by omega) (by omega) (by rw [rowsF_length]; omega) (by omega) (by omega) ?_
          intro v' w' h1 h2 h3
          have hsn := rowsF_succ k m (pvF f ps)
          rw [← hsn] at h1
          obtain ⟨A2, c2', ev', _⟩ := h1.form2
          subst ev'
          have H1 := Lib.hid h1
          have H2 := Lib.hid (HBZ.out.trans h2)
          clear h1 h2 h3 hsn
          go_wp2
          go_roundw
          case rel => exact ⟨k + 1, A2, _, c2', by omega, by go_num, rfl, H1.out, H2.out⟩
          case measure => simp [intOf]; omega
    · obtain rfl : k = pn := by omega
      have HOF := Lib.hid hO
      have GF := Lib.hid (bthen G2.out hb)
      have sz := SW.out
      have s5 := s12
      clear hO hb
      go_wp2
      go_ret
      exact ⟨_, rfl, by rw [HPSE.out, HPN.out]; exact HOF.out.wider (by omega) (Nat.le_refl _), GF.out⟩
end Go.Proofs.YtaefpblpfjhgoaaGreat

/- The reference's l12Lead. -/
namespace Go.Proofs.YtaefpblpfjhgoaaGreat
set_option linter.unusedVariables false
set_option linter.unusedSimpArgs false
open Go.RowKit

/-- the leading columns of rows, plainly -/
def Leads2 (n c : Nat) (g : Nat → Nat → Int) (ps : List Int) : Prop := ps.length = n ∧ ∀ k, k < n → ∃ b : Nat, ps[k]? = some (b : Int) ∧ b < c ∧ (∀ t, t < b → g k t = 0) ∧ g k b ≠ 0
theorem leads2_rd {p : Int} {r c : Nat} {f : Nat → Nat → Int} (hp : isFld p = true) (hp2 : 2 ≤ p) (hf : InF p r c f) : Leads2 (rdTo p r f c).2.length c (rdTo p r f c).1 (rdTo p r f c).2 := by
  refine ⟨rfl, fun k hk => ?_⟩
  obtain ⟨b, h1, h2, h3⟩ := (rd_to hp hp2 hf c (Nat.le_refl _)).pos k hk
  have hl := (rdTo_len p r f c).1
  exact ⟨b, h1, h2, rdTo_lead hp hp2 hf c (Nat.le_refl _) k b h1, by rw [h3 k (by omega), if_pos rfl]; decide⟩
set_option maxHeartbeats 1600000 in
set_option maxRecDepth 100000 in
theorem l12Lead_any (n c : Nat) (g : Nat → Nat → Int) (ps : List Int) (z : Int) (u : Value) (w0 : World) (hn : n ≤ 1000) (hc : c ≤ 1000) (hu : SlII w0 w0.heap.size u (rowsF n c g)) (hps : Leads2 n c g ps) :
    Calls Tryz.prog 62 #[.agg #[.int .i64 z, u]] w0 fun e w' => ∃ v, e = .returned v ∧ IntsO w' w0.heap.size w'.heap.size v ps ∧ Below w0.heap.size w0 w' := by
  have hu1 := hu
  obtain ⟨UA, uc, rfl, _⟩ := hu1
  rw [rowsF_length] at hu ⊢
  obtain ⟨W, hW⟩ : ∃ W, W = w0.alloc (.cells #[.int .i64 z, .slice UA n uc] 59) := ⟨_, rfl⟩
  have g0 : Below w0.heap.size w0 W := by rw [hW]; exact below_alloc _ _
  have kB : Blk W w0.heap.size 59 #[.int .i64 z, .slice UA n uc] := by rw [hW]; exact Blk.new _ _ _
  have HU := Lib.hid (SlII.next g0 hu)
  have HL := Lib.hid hps.1
  have HP := Lib.hid hps.2
  clear hu hps
  obtain ⟨W1, hW1⟩ : ∃ W1, W.alloc (.cells #[] 3) = W1 := ⟨_, rfl⟩
  have gb : Below W.heap.size W W1 := by rw [← hW1]; exact below_alloc _ _
  have hO0 : OwnI W1 W.heap.size (.slice (some ⟨W.heap.size, 0, none⟩) 0 0) (ps.take 0) := by rw [← hW1]; simpa using OwnI.made (w := W) (base := W.heap.size) 3 rfl (Nat.le_refl _)
  have c1 := kB.cell' (i := 1) rfl
  have sW : W.heap.size = w0.heap.size + 1 := by rw [hW]; simp
  go_enter Tryz.func62, Tryz.ntmps62
  go_wp2
  rw [← hW, hW1]; clear hW hW1 c1
  rw [sW] at hO0
  go_loopw [3, 4] (fun out i wr => ∃ (k : Nat) (OA : Option Addr) (oc : Nat), k ≤ n ∧ i = .int .i64 k ∧ out = .slice OA k oc ∧ OwnI wr W.heap.size (.slice OA k oc) (ps.take k) ∧ Below W.heap.size W wr) (fun _ i _ => n - (intOf i).toNat)
  case atStart => exact ⟨0, _, 0, Nat.zero_le _, rfl, rfl, by rw [sW]; exact hO0, gb⟩
  case round =>
    clear hO0 gb
    obtain ⟨k, OA, oc, hk, rfl, rfl, ho, hb⟩ := hrel
    have sb := hb.size
    have kBr := kB.call hb
    have c1 := kBr.cell' (i := 1) rfl
    by_cases hlt : k < n
    · obtain ⟨bb, oo, lr, A', c', eK, hbb, HXL, r1, hrow⟩ := SlII.at_ (k := k) (xs := rowsF n c g) (by rw [rowsF_length]; exact HU.out) (by rw [rowsF_length]; exact hlt)
      subst eK
      have hlr := HXL.out
      rw [rowsF_get _ hlt] at hlr
      injection hlr with hlr
      subst hlr
      rw [rowF_length] at r1 hrow
      obtain ⟨b, hb1, hb2, hb3, hb4⟩ := HP.out k hlt
      have r1' := bcell hb hbb r1
      have HRW := Lib.hid (SlI.next hb hrow)
      have HTK := Lib.hid (take_snoc hb1)
      have HB3 := Lib.hid hb3
      have HB4 := Lib.hid hb4
      have HO := Lib.hid ho
      have HB := Lib.hid hb
      clear hrow r1 hb1 hb3 hb4 ho hb HXL kBr
      go_wp2
      go_loopw [5] (fun j wx => ∃ m : Nat, m ≤ b ∧ j = .int .i64 m ∧ wx = wr) (fun j _ => b + 1 - (intOf j).toNat)
      case atStart => exact ⟨0, Nat.zero_le _, rfl, rfl⟩
      case round =>
        obtain ⟨m, hm, rfl, rfl⟩ := hrel
        obtain ⟨be, oe, x, ee, hbe, HX, x1, hx1, hx2⟩ := SlI.atM (k := m) HRW.out (rowF_length _ _) (by omega)
        subst ee
        have hx := HX.out
        rw [rowF_get _ (show m < c by omega)] at hx
        injection hx with hx
        by_cases hmb : m < b
        · have hx0 : x = 0 := by rw [← hx]; exact HB3.out m hmb
          subst hx0
          clear hx HX
          go_wp2
          go_roundw
          case rel => exact ⟨m + 1, by omega, by go_num, by first | rfl | trivial⟩
          case measure => simp [intOf]; omega
        · obtain rfl : m = b := by omega
          have hx0 : (x == 0) = false := by
            rw [beq_eq_false_iff_ne, ← hx]; exact HB4.out
          clear hx HX
          have hlo := HO.out.lt
          (go_wp2_with (at_builtin; refine Hold.stop ?_)); unfold Hold
          obtain ⟨X, hX⟩ : ∃ X, X = wr.alloc (.cells #[.int .i64 (m : Int)] 3) := ⟨_, rfl⟩
          have gn : Below wr.heap.size wr X := by rw [hX]; exact below_alloc _ _
          have h1x : SlI X X.heap.size (.slice (some ⟨wr.heap.size, 0, none⟩) 1 1) [(m : Int)] := by rw [hX]; exact SlI.one _ _ _ ⟨by omega, by omega⟩
          have ho3 := (HO.out).below gn
          have gns := gn.size
          rw [← hX]
          clear hX
          refine wpList_appI rfl (.tmp 25) (.tmp 27) rfl W.heap.size X.heap.size _ _ rfl ho3 _ 1 1 [(m : Int)] rfl rfl h1x (by simp; omega) (by omega) ?_
          intro v' w' h1 h2 h3
          have hbX := below_grown h2 (B := W.heap.size) (fun k hk => (hlo k hk).1) (by omega)
          rw [← HTK.out] at h1
          obtain ⟨VA', vc', ev', _⟩ := h1.form
          have hl1 : (ps.take (k + 1)).length = k + 1 := by rw [List.length_take, HL.out]; omega
          rw [hl1] at ev'
          subst ev'
          have H1 := Lib.hid h1
          have G1 := Lib.hid ((HB.out).trans ((gn.mono (by omega)).trans hbX))
          clear h1 h2 h3 hbX gn ho3 h1x hlo hl1 hx0
          go_wp2
          go_roundw
          case rel => exact ⟨k + 1, VA', vc', by omega, by go_num, rfl, H1.out, G1.out⟩
          case measure => simp [intOf]; omega
    · obtain rfl : k = n := by omega
      have HO := Lib.hid (IntsO.of_own ho)
      have GF := Lib.hid (bthen g0 hb)
      have hl : ps.take k = ps := by rw [List.take_of_length_le]; rw [HL.out]; omega
      have HLL := Lib.hid hl
      clear ho hb kBr
      go_wp2
      go_ret
      exact ⟨_, rfl, by have := HO.out; rw [HLL.out] at this; exact this.wider (by omega) (Nat.le_refl _), GF.out⟩
end Go.Proofs.YtaefpblpfjhgoaaGreat

/- The reference's l12Project: the projection modulo a space. -/
namespace Go.Proofs.YtaefpblpfjhgoaaGreat
set_option linter.unusedVariables false
set_option linter.unusedSimpArgs false
open Go.RowKit

/-- the projection, when the first rows, and in the next one the first columns of leading ones, are written -/
def pqF (p : Int) (g : Nat → Nat → Int) (ps L : List Int) (n a i r j : Nat) : Int := if r < a then kvG p g ps (L.getD r 0).toNat n j else if r = a then kvG p g ps (L.getD r 0).toNat i j else 0
def prF (p : Int) (g : Nat → Nat → Int) (ps L : List Int) (n a r j : Nat) : Int := if r < a then kvG p g ps (L.getD r 0).toNat n j else 0
section
variable {p : Int} {g : Nat → Nat → Int} {ps L : List Int} {n a K c : Nat}
theorem prF_0 : flat K c (fun _ _ => 0) = flat K c (prF p g ps L n 0) := flat_congr fun r j _ _ => by rw [prF, if_neg (by omega)]
theorem prF_one {k P : Nat} (ha : a < K) (hk : k < c) (hL : L[a]? = some (k : Int)) (hP : P = a * c) : (flat K c (prF p g ps L n a)).set (P + k) 1 = flat K c (pqF p g ps L n a 0) := by
  rw [hP, flat_set _ _ ha hk]
  refine flat_congr fun r j _ _ => ?_
  have hL' : (L.getD a 0).toNat = k := by rw [List.getD_eq_getElem?_getD, hL]; simp
  by_cases h1 : r < a
  · rw [if_neg (by omega), prF, if_pos h1, pqF, if_pos h1]
  · by_cases h2 : r = a
    · subst h2
      rw [pqF, if_neg h1, if_pos rfl, kvG, hL']
      by_cases h3 : j = k
      · rw [if_pos ⟨rfl, h3⟩, if_pos h3]
      · rw [if_neg (fun h => h3 h.2), if_neg h3, prF, if_neg h1]
    · rw [if_neg (fun h => h2 h.1), prF, if_neg h1, pqF, if_neg h1, if_neg h2]
theorem pqF_put {k b i P : Nat} (ha : a < K) (hb : b < c) (hL : L[a]? = some (k : Int)) (hp : ps[i]? = some (b : Int)) (hP : P = a * c) : (flat K c (pqF p g ps L n a i)).set (P + b) ((- g i k) % p) = flat K c (pqF p g ps L n a (i + 1)) := by
  rw [hP, flat_set _ _ ha hb]
  refine flat_congr fun r j _ _ => ?_
  have hL' : (L.getD a 0).toNat = k := by rw [List.getD_eq_getElem?_getD, hL]; simp
  have hp' : ps.getD i 0 = (b : Int) := by rw [List.getD_eq_getElem?_getD, hp]; rfl
  by_cases h1 : r < a
  · rw [if_neg (by omega), pqF, if_pos h1, pqF, if_pos h1]
  · by_cases h2 : r = a
    · subst h2
      rw [pqF, if_neg h1, if_pos rfl, pqF, if_neg h1, if_pos rfl, kvG, hL', hp']
      by_cases h3 : j = b
      · rw [if_pos ⟨rfl, h3⟩, if_pos (by omega)]
      · rw [if_neg (fun h => h3 h.2), if_neg (by omega)]
    · rw [if_neg (fun h => h2 h.1), pqF, if_neg h1, if_neg h2, pqF, if_neg h1, if_neg h2]
theorem pqF_next : flat K c (pqF p g ps L n a n) = flat K c (prF p g ps L n (a + 1)) := flat_congr fun r j _ _ => by
  unfold pqF prF
  by_cases h1 : r < a
  · rw [if_pos h1, if_pos (by omega)]
  · by_cases h2 : r = a
    · rw [if_neg h1, if_pos h2, if_pos (by omega)]
    · rw [if_neg h1, if_neg h2, if_neg (by omega)]
theorem prF_end : flat K c (prF p g ps L n K) = flat K c (fun a j => kvG p g ps (L.getD a 0).toNat n j) := flat_congr fun r j hr _ => by rw [prF, if_pos hr]
end
theorem IntsO.adr {w : World} {lo hi n c : Nat} {A : Option Addr} {l : List Int} (h : IntsO w lo hi (.slice A n c) l) (h0 : 0 < l.length) : ∃ g, A = some ⟨g, 0, none⟩ ∧ lo ≤ g ∧ g < hi := by
  rcases h.1.1.2 with ⟨_, h1⟩ | ⟨g, cap, cur, e, hg, _⟩
  · omega
  · injection e with e1 _ _
    subst e1
    exact ⟨g, rfl, hg, h.2 g rfl⟩
set_option maxHeartbeats 6400000 in
set_option maxRecDepth 100000 in
theorem l12Project_any (p : Int) (n c : Nat) (g : Nat → Nat → Int) (ps : List Int) (u : Value) (w0 : World) (hp : 2 ≤ p ∧ p ≤ 5) (hn : n ≤ 1000) (hc : c ≤ 100) (hu : SlII w0 w0.heap.size u (rowsF n c g)) (hg : InF p n c g) (hps : Leads2 n c g ps) :
    Calls Tryz.prog 25 #[.int .i64 p, .agg #[.int .i64 c, u]] w0 fun e w' => ∃ v1 x2 y2 A2 n2 c2, e = .returned (.tuple #[v1, .agg #[.int .i64 x2, .int .i64 y2, .slice A2 n2 c2]]) ∧ MxO w' w0.heap.size w'.heap.size v1 (mxF (freeV ps c).length c (fun a j => kvG p g ps ((freeV ps c).getD a 0).toNat n j)) ∧ Below w0.heap.size w0 w' := by
  have hu1 := hu
  obtain ⟨UA, uc, rfl, _⟩ := hu1
  rw [rowsF_length] at hu ⊢
  obtain ⟨W, hW⟩ : ∃ W, W = ((w0.alloc (.cells #[.int .i64 c, .slice UA n uc] 59)).alloc (.cells #[.int .i64 0, .int .i64 0, .slice none 0 0] 50)).alloc (.cells #[.int .i64 0, .int .i64 0, .slice none 0 0] 50) := ⟨_, rfl⟩
  have g0 : Below w0.heap.size w0 W := by rw [hW]; exact (((Below.refl _ _).alloc (Nat.le_refl _) _).alloc (by simp) _).alloc (by simp; omega) _
  have kS : Blk W w0.heap.size 59 #[.int .i64 c, .slice UA n uc] := by rw [hW]; exact ((Blk.new _ _ _).alloc _).alloc _
  have kR1 : Blk W (w0.heap.size + 1) 50 #[.int .i64 0, .int .i64 0, .slice none 0 0] := by
    rw [hW]
    have := (Blk.new (w0.alloc (.cells #[.int .i64 c, .slice UA n uc] 59)) 50 #[.int .i64 0, .int .i64 0, .slice none 0 0]).alloc (.cells #[.int .i64 0, .int .i64 0, .slice none 0 0] 50)
    simpa only [World.size_alloc] using this
  have kR2 : Blk W (w0.heap.size + 1 + 1) 50 #[.int .i64 0, .int .i64 0, .slice none 0 0] := by
    rw [hW]
    have := Blk.new ((w0.alloc (.cells #[.int .i64 c, .slice UA n uc] 59)).alloc (.cells #[.int .i64 0, .int .i64 0, .slice none 0 0] 50)) 50 #[.int .i64 0, .int .i64 0, .slice none 0 0]
    simpa only [World.size_alloc] using this
  have sW : W.heap.size = w0.heap.size + 1 + 1 + 1 := by rw [hW]; simp
  have SW := Lib.hid sW
  have HU := Lib.hid (SlII.next g0 hu)
  have HG := Lib.hid hg
  have HP := Lib.hid hps
  have HPN := Lib.hid hps.1
  have c0 := kS.cell' (i := 0) rfl
  have c1 := kS.cell' (i := 1) rfl
  clear hu hg hps
  go_enter Tryz.func25, Tryz.ntmps25
  go_wp2_with fail
  rw [← hW]; clear hW
  refine (l12Lead_any n c g ps c _ _ hn (by omega) HU.out HP.out).mono ?_; rintro e w1 ⟨v1, rfl, hI, hb1⟩
  obtain ⟨PA, pc, ev⟩ := hI.form
  rw [HPN.out] at ev
  subst ev
  obtain ⟨W2, hW2⟩ : ∃ z, w1.alloc (.cells #[] 3) = z := ⟨_, rfl⟩
  have ga : Below w1.heap.size w1 W2 := by rw [← hW2]; exact below_alloc _ _
  have hO0 : OwnI W2 w1.heap.size (.slice (some ⟨w1.heap.size, 0, none⟩) 0 0) (freeV ps 0) := by rw [← hW2]; simpa [freeV] using OwnI.made (w := w1) (base := w1.heap.size) 3 rfl (Nat.le_refl _)
  have hb2 := bthen hb1 ga
  have HI := Lib.hid (SlI.below ga hI.rd)
  have kS2 := kS.call hb2
  have KR1 := Lib.hid (kR1.call hb2)
  have KR2 := Lib.hid (kR2.call hb2)
  have HU2 := Lib.hid (SlII.below ga (SlII.next hb1 HU.out))
  have G2 := Lib.hid (bthen g0 hb2)
  have s2 := hb2.size
  have s1 := hb1.size
  have KS := Lib.hid kS2
  have sa : w1.heap.size < W2.heap.size := by rw [← hW2]; simp
  clear c0 c1 hI hb1 ga hb2 kS kR1 kR2 g0 kS2
  go_wp2
  clear hW2
  go_loopw [7, 8] (fun fv i wr => ∃ (k : Nat) (OA : Option Addr) (on oc : Nat), k ≤ c ∧ i = .int .i64 k ∧ fv = .slice OA on oc ∧ OwnI wr w1.heap.size (.slice OA on oc) (freeV ps k) ∧ Below w1.heap.size W2 wr) (fun _ i _ => c - (intOf i).toNat)
  case atStart => exact ⟨0, _, _, _, Nat.zero_le _, rfl, rfl, hO0, Below.refl _ _⟩
  case round =>
    clear hO0
    obtain ⟨k, OA, on, oc, hk, rfl, rfl, hO, hb⟩ := hrel
    have sb := hb.size
    have kSr := KS.out.below hb (by omega)
    have c0 := kSr.cell' (i := 0) rfl
    by_cases hlt : k < c
    · have HIr := Lib.hid (SlI.more (show w1.heap.size ≤ wr.heap.size by omega) (SlI.below hb HI.out))
      have HO := Lib.hid hO
      have HB := Lib.hid hb
      clear hO hb kSr
      go_wp2_with fail
      refine (l4Has_any _ ps k _ (by rw [HPN.out] at *; exact HIr.out)).mono ?_; rintro e w4 ⟨rfl, hb4⟩
      have hO4 := HO.out.below hb4
      have hB4 := HB.out.trans (hb4.mono (by omega))
      have s4 := hb4.size
      rcases hd : decide ((k : Int) ∈ ps) with _ | _
      · have HFY := Lib.hid (freeV_yes hd)
        have hfl := freeV_length ps k
        have hlo := hO4.lt
        have HO4 := Lib.hid hO4
        have HB4 := Lib.hid hB4
        clear hd hO4 hB4 hb4 c0
        (go_wp2_with (at_builtin; refine Hold.stop ?_)); unfold Hold
        obtain ⟨X, hX⟩ : ∃ X, X = w4.alloc (.cells #[.int .i64 (k : Int)] 3) := ⟨_, rfl⟩
        have gn : Below w4.heap.size w4 X := by rw [hX]; exact below_alloc _ _
        have h1x : SlI X X.heap.size (.slice (some ⟨w4.heap.size, 0, none⟩) 1 1) [(k : Int)] := by rw [hX]; exact SlI.one _ _ _ ⟨by omega, by omega⟩
        have ho3 := (HO4.out).below gn
        have gns := gn.size
        rw [← hX]
        clear hX
        refine wpList_appI rfl (.tmp 26) (.tmp 28) rfl w1.heap.size X.heap.size _ _ rfl ho3 _ 1 1 [(k : Int)] rfl rfl h1x (by simp; omega) (by omega) ?_
        intro v' w' h1 h2 h3
        have hbX := below_grown h2 (B := w1.heap.size) (fun k hk => (hlo k hk).1) (by omega)
        rw [← HFY.out] at h1
        obtain ⟨VA', vc', ev', _⟩ := h1.form
        subst ev'
        have H1 := Lib.hid h1
        have G1 := Lib.hid ((HB4.out).trans ((gn.mono (by omega)).trans hbX))
        clear h1 h2 h3 hbX gn ho3 h1x hlo
        go_wp2
        go_roundw
        case rel => exact ⟨k + 1, VA', _, vc', by omega, by go_num, rfl, H1.out, G1.out⟩
        case measure => simp [intOf]; omega
      · have HFN := Lib.hid (freeV_no hd)
        have HO4 := Lib.hid hO4
        have HB4 := Lib.hid hB4
        clear hd hO4 hB4 hb4 c0
        go_wp2
        go_roundw
        case rel => exact ⟨k + 1, OA, on, oc, by omega, by go_num, rfl, by rw [HFN.out]; exact HO4.out, HB4.out⟩
        case measure => simp [intOf]; omega
    · obtain rfl : k = c := by omega
      obtain ⟨wq, hwq⟩ : ∃ z, z = wr := ⟨_, rfl⟩
      subst hwq
      obtain ⟨L, hL⟩ : ∃ L, freeV ps k = L := ⟨_, rfl⟩
      have hLa := fun (j : Nat) (x : Int) (h : L[j]? = some x) => freeV_at (l := ps) (k := k) (j := j) (x := x) (by rw [hL]; exact h)
      have hLl := freeV_length ps k
      rw [hL] at hO hLl
      have HLE := Lib.hid hL
      have HLA := Lib.hid hLa
      obtain ⟨K, hK⟩ : ∃ K, L.length = K := ⟨_, rfl⟩
      have hon : on = L.length := by obtain ⟨_, _, e, _⟩ := hO.form; injection e
      subst hon
      rw [hK] at hO hLl ⊢
      have HK := Lib.hid hK
      have HB := Lib.hid hb
      have HO := Lib.hid hO
      clear hL hLa hK hO hb kSr
      go_wp2_with fail
      refine (l3Zero_any (K : Int) (k : Int) _ (by omega) (by omega) (by omega) (by omega)).mono ?_; rintro e w4 ⟨v4, rfl, hM4, hb4⟩
      rw [zmx_flat] at hM4
      obtain ⟨FA, fc, ev⟩ := hM4.form
      simp only [mxF] at ev hM4
      rw [flat_length] at ev
      subst ev
      obtain ⟨FL, hFL⟩ : ∃ z, K * k = z := ⟨_, rfl⟩
      rw [hFL] at hM4 ⊢
      have HFL := Lib.hid hFL
      clear hFL c0
      obtain ⟨W5, hW5⟩ : ∃ z, w4.alloc (.cells #[.int .i64 K, .int .i64 k, .slice FA FL fc] 50) = z := ⟨_, rfl⟩
      have ga5 : Below w4.heap.size w4 W5 := by rw [← hW5]; exact below_alloc _ _
      have k9 : Blk W5 w4.heap.size 50 #[.int .i64 K, .int .i64 k, .slice FA FL fc] := by rw [← hW5]; exact Blk.new _ _ _
      obtain ⟨FSx, eFS, hIF, _, _⟩ := hM4
      simp only [Value.agg.injEq, Array.mk.injEq, List.cons.injEq, and_true, true_and] at eFS
      subst eFS
      have HIF := Lib.hid (hIF.below ga5)
      have hb5 := bthen hb4 ga5
      have HB5 := Lib.hid (HB.out.trans (hb5.mono sb |>.mono (by omega)))
      have s5 := hb5.size
      have s4 := hb4.size
      have kS5 := KS.out.below HB5.out (by omega)
      have c0 := kS5.cell' (i := 0) rfl
      have s5a : W5.heap.size = w4.heap.size + 1 := by rw [← hW5]; simp
      clear hIF hb4 ga5 kS5
      go_wp2_with fail
      clear hW5
      refine (l3Zero_any (k : Int) (K : Int) _ (by omega) (by omega) (by omega) (by omega)).mono ?_; rintro e w6 ⟨v6, rfl, hM6, hb6⟩
      rw [zmx_flat] at hM6
      obtain ⟨BA, bc, ev⟩ := hM6.form
      simp only [mxF] at ev hM6
      rw [flat_length] at ev
      subst ev
      obtain ⟨BL, hBL⟩ : ∃ z, k * K = z := ⟨_, rfl⟩
      rw [hBL] at hM6 ⊢
      have HBL := Lib.hid hBL
      obtain ⟨BS, eBS, hIB, _, _⟩ := hM6
      simp only [Value.agg.injEq, Array.mk.injEq, List.cons.injEq, and_true, true_and] at eBS
      subst eBS
      obtain ⟨W7, hW7⟩ : ∃ z, w6.alloc (.cells #[.int .i64 k, .int .i64 K, .slice BA BL bc] 50) = z := ⟨_, rfl⟩
      have ga7 : Below w6.heap.size w6 W7 := by rw [← hW7]; exact below_alloc _ _
      have k10 : Blk W7 w6.heap.size 50 #[.int .i64 k, .int .i64 K, .slice BA BL bc] := by rw [← hW7]; exact Blk.new _ _ _
      have hb7 := bthen hb6 ga7
      have hIB7 := hIB.below ga7
      have hIF7 := HIF.out.below hb7
      rw [prF_0 (p := p) (g := g) (ps := ps) (L := L) (n := n)] at hIF7
      have hb57 := (hb5.trans (hb7.mono s5))
      have k97 := k9.call hb7
      have s6 := hb6.size
      have s7 : W7.heap.size = w6.heap.size + 1 := by rw [← hW7]; simp
      have hlB : (flat k K fun _ _ => 0).length = BL := by rw [flat_length, hBL]
      clear hBL hIB hb6 ga7 hb7 k9 hb5 c0 HIF
      go_wp2
      clear hW7
      have HLF := Lib.hid (flat_length K k (prF p g ps L n 0))
      have HOF := Lib.hid (SlI.below (bthen (Below.refl wq.heap.size wq) hb57) (HO.out.rd))
      have hHI : Hid (∀ (wz : World), Below wq.heap.size wq wz → SlI wz w1.heap.size (.slice PA n pc) ps ∧ SlII wz w1.heap.size (.slice UA n uc) (rowsF n k g) ∧ SlI wz wq.heap.size (.slice OA K oc) L ∧ Blk wz w0.heap.size 59 #[.int .i64 k, .slice UA n uc]) := fun wz hz => by
        have hBz := HB.out.trans (hz.mono (by omega))
        exact ⟨SlI.below hBz HI.out, SlII.below hBz HU2.out, SlI.below hz HO.out.rd, KS.out.below hBz (by omega)⟩
      clear HOF
      go_loopw [11] (fun i wz => ∃ a : Nat, a ≤ K ∧ i = .int .i64 a ∧ Below wq.heap.size wq wz ∧ Blk wz w4.heap.size 50 #[.int .i64 K, .int .i64 k, .slice FA FL fc] ∧ Blk wz w6.heap.size 50 #[.int .i64 k, .int .i64 K, .slice BA BL bc] ∧ IntsO wz wq.heap.size w4.heap.size (.slice FA FL fc) (flat K k (prF p g ps L n a)) ∧ (∃ H, H.length = BL ∧ IntsO wz W5.heap.size w6.heap.size (.slice BA BL bc) H) ∧ w6.heap.size < wz.heap.size) (fun i _ => K - (intOf i).toNat)
      case atStart => exact ⟨0, Nat.zero_le _, rfl, hb57, k97, k10, hIF7, ⟨_, hlB, hIB7⟩, by omega⟩
      case round =>
        clear hb57 k97 k10 hIF7 hIB7 hlB
        obtain ⟨a, ha, rfl, hb, hB9, hB10, hIF, ⟨H, hH, hIB⟩, hs6⟩ := hrel
        obtain ⟨_, _, hfr, hSp⟩ := hHI.out _ hb
        by_cases hak : a < K
        · obtain ⟨bl, ol, x, el, hbl, HX, l1, _⟩ := SlI.atM (k := a) hfr HK.out hak
          subst el
          obtain ⟨kk, rfl, hkk, hkn⟩ := HLA.out a x HX.out
          obtain ⟨P, hP⟩ : ∃ P, P = a * k := ⟨_, rfl⟩
          have hPw := Lib.hid (ixP (i := a) (k := kk) (r := K) (c := k) hak hkk (by omega) (by omega) hP)
          obtain ⟨d1, d2, d3⟩ := rowP (i := a) (k := kk) (r := K) (c := k) hak hkk (by omega) (by omega) hP
          rw [HFL.out] at d1 d2 d3
          obtain ⟨Q, hQ⟩ : ∃ Q, Q = kk * K := ⟨_, rfl⟩
          have hQw := Lib.hid (ixP (i := kk) (k := a) (r := k) (c := K) hkk hak (by omega) (by omega) hQ)
          obtain ⟨f1, f2, f3⟩ := rowP (i := kk) (k := a) (r := k) (c := K) hkk hak (by omega) (by omega) hQ
          rw [HBL.out] at f1 f2 f3
          obtain ⟨gf, rfl, hgf1, hgf2⟩ := hIF.adr (by rw [flat_length, HFL.out]; omega)
          obtain ⟨gb, rfl, hgb1, hgb2⟩ := hIB.adr (by rw [hH]; omega)
          have HONE := Lib.hid (prF_one (p := p) (g := g) (ps := ps) (L := L) (n := n) (a := a) (K := K) (c := k) hak hkk HX.out hP)
          have HPUT := Lib.hid (fun (i b : Nat) (hb : b < k) (hi : ps[i]? = some (b : Int)) => pqF_put (p := p) (g := g) (ps := ps) (L := L) (n := n) (a := a) (K := K) (c := k) hak hb HX.out hi hP)
          have HROW := Lib.hid (fun (b : Nat) (hb : b < k) => (rowP (i := a) (k := b) (r := K) (c := k) hak hb (by omega) (by omega) hP).1)
          have HIF := Lib.hid hIF
          have HIB := Lib.hid hIB
          have HHL := Lib.hid hH
          have HBB := Lib.hid hb
          have HB9 := Lib.hid hB9
          have HB10 := Lib.hid hB10
          have L1 := Lib.hid l1
          have hbs := hb.size
          obtain ⟨wx, hwx⟩ : ∃ z, z = wr := ⟨_, rfl⟩
          subst hwx
          clear hIF hIB hH hb hB9 hB10 l1 hfr hSp hP hQ
          go_wp2
          refine wp_region_net (by kernel_rfl) [.eq (.pointer (some ⟨w4.heap.size, 2, none⟩)), .eq (.slice (some ⟨gf, 0, none⟩) FL fc), .eq (.int .i64 a), .eq (.pointer (some ⟨w0.heap.size, 0, none⟩)), .eq (.int .i64 k), .eq (.int .i64 P), .eq (.slice (some ⟨bl, ol, none⟩) K oc), .eq (.int .i64 a), .eq (.pointer (some ⟨bl, ol + a, none⟩)), .eq (.int .i64 kk), .eq (.int .i64 ((P : Int) + kk))] [[], [0], [], [], [3], [2, 3, 4], [], [], [6, 7], [6, 7, 8], [2, 3, 4, 5, 6, 7, 8, 9], [0, 1, 2, 3, 4, 5, 6, 7, 8, 9, 10], [0, 1, 2, 3, 4, 5, 6, 7, 8, 9, 10, 11]] 11 (by kernel_rfl) ⟨trivial, trivial, trivial, trivial, trivial, trivial, trivial, trivial, trivial, trivial, trivial, trivial⟩ ⟨?_, ?_, ?_, ?_, ?_, ?_, ?_, ?_, ?_, ?_, ?_, trivial⟩ ?_
          · intro x w hb hk Q' hQ
            clear hk
            simp only [netAct, dstAt, List.getElem?_toArray, List.getElem?_cons_zero, List.getElem?_cons_succ, Option.bind_some, Act.put, List.setIfInBounds_toArray, List.set_cons_zero, List.set_cons_succ] at hQ ⊢
            go_wp2
            exact hQ (.pointer (some ⟨w4.heap.size, 2, none⟩)) _ (Below.refl _ _) rfl
          · intro x w hb hk Q' hQ
            have h0 : x.v 0 = .pointer (some ⟨w4.heap.size, 2, none⟩) := (hk 0 (by decide)).1
            clear hk
            simp only [netAct, dstAt, List.getElem?_toArray, List.getElem?_cons_zero, List.getElem?_cons_succ, Option.bind_some, Act.put, List.setIfInBounds_toArray, List.set_cons_zero, List.set_cons_succ] at hQ ⊢
            simp only [h0] at hQ ⊢
            clear h0
            have z := (HB9.out.call hb).cell' (i := 2) rfl
            go_wp2
            exact hQ (.slice (some ⟨gf, 0, none⟩) FL fc) _ (Below.refl _ _) rfl
          · intro x w hb hk Q' hQ
            clear hk
            simp only [netAct, dstAt, List.getElem?_toArray, List.getElem?_cons_zero, List.getElem?_cons_succ, Option.bind_some, Act.put, List.setIfInBounds_toArray, List.set_cons_zero, List.set_cons_succ] at hQ ⊢
            go_wp2
            exact hQ (.int .i64 a) _ (Below.refl _ _) rfl
          · intro x w hb hk Q' hQ
            clear hk
            simp only [netAct, dstAt, List.getElem?_toArray, List.getElem?_cons_zero, List.getElem?_cons_succ, Option.bind_some, Act.put, List.setIfInBounds_toArray, List.set_cons_zero, List.set_cons_succ] at hQ ⊢
            go_wp2
            exact hQ (.pointer (some ⟨w0.heap.size, 0, none⟩)) _ (Below.refl _ _) rfl
          · intro x w hb hk Q' hQ
            have h3 : x.v 3 = .pointer (some ⟨w0.heap.size, 0, none⟩) := (hk 3 (by decide)).1
            clear hk
            simp only [netAct, dstAt, List.getElem?_toArray, List.getElem?_cons_zero, List.getElem?_cons_succ, Option.bind_some, Act.put, List.setIfInBounds_toArray, List.set_cons_zero, List.set_cons_succ] at hQ ⊢
            simp only [h3] at hQ ⊢
            clear h3
            have z := (hHI.out _ (HBB.out.trans (hb.mono hbs))).2.2.2.cell' (i := 0) rfl
            go_wp2
            exact hQ (.int .i64 k) _ (Below.refl _ _) rfl
          · intro x w hb hk Q' hQ
            have h2 : x.v 2 = .int .i64 a := (hk 2 (by decide)).1
            have h4 : x.v 4 = .int .i64 k := (hk 4 (by decide)).1
            clear hk
            simp only [netAct, dstAt, List.getElem?_toArray, List.getElem?_cons_zero, List.getElem?_cons_succ, Option.bind_some, Act.put, List.setIfInBounds_toArray, List.set_cons_zero, List.set_cons_succ] at hQ ⊢
            simp only [h2, h4] at hQ ⊢
            clear h2 h4
            go_wp2
            rw [hPw.out]
            exact hQ (.int .i64 P) _ (Below.refl _ _) rfl
          · intro x w hb hk Q' hQ
            clear hk
            simp only [netAct, dstAt, List.getElem?_toArray, List.getElem?_cons_zero, List.getElem?_cons_succ, Option.bind_some, Act.put, List.setIfInBounds_toArray, List.set_cons_zero, List.set_cons_succ] at hQ ⊢
            go_wp2
            exact hQ (.slice (some ⟨bl, ol, none⟩) K oc) _ (Below.refl _ _) rfl
          · intro x w hb hk Q' hQ
            clear hk
            simp only [netAct, dstAt, List.getElem?_toArray, List.getElem?_cons_zero, List.getElem?_cons_succ, Option.bind_some, Act.put, List.setIfInBounds_toArray, List.set_cons_zero, List.set_cons_succ] at hQ ⊢
            go_wp2
            exact hQ (.int .i64 a) _ (Below.refl _ _) rfl
          · intro x w hb hk Q' hQ
            have h6 : x.v 6 = .slice (some ⟨bl, ol, none⟩) K oc := (hk 6 (by decide)).1
            have h7 : x.v 7 = .int .i64 a := (hk 7 (by decide)).1
            clear hk
            simp only [netAct, dstAt, List.getElem?_toArray, List.getElem?_cons_zero, List.getElem?_cons_succ, Option.bind_some, Act.put, List.setIfInBounds_toArray, List.set_cons_zero, List.set_cons_succ] at hQ ⊢
            simp only [h6, h7] at hQ ⊢
            clear h6 h7
            go_wp2
            exact hQ (.pointer (some ⟨bl, ol + a, none⟩)) _ (Below.refl _ _) rfl
          · intro x w hb hk Q' hQ
            have h8 : x.v 8 = .pointer (some ⟨bl, ol + a, none⟩) := (hk 8 (by decide)).1
            clear hk
            simp only [netAct, dstAt, List.getElem?_toArray, List.getElem?_cons_zero, List.getElem?_cons_succ, Option.bind_some, Act.put, List.setIfInBounds_toArray, List.set_cons_zero, List.set_cons_succ] at hQ ⊢
            simp only [h8] at hQ ⊢
            clear h8
            have z := bcell hb (show bl < wx.heap.size by omega) L1.out
            go_wp2
            exact hQ (.int .i64 kk) _ (Below.refl _ _) rfl
          · intro x w hb hk Q' hQ
            have h5 : x.v 5 = .int .i64 P := (hk 5 (by decide)).1
            have h9 : x.v 9 = .int .i64 kk := (hk 9 (by decide)).1
            clear hk
            simp only [netAct, dstAt, List.getElem?_toArray, List.getElem?_cons_zero, List.getElem?_cons_succ, Option.bind_some, Act.put, List.setIfInBounds_toArray, List.set_cons_zero, List.set_cons_succ] at hQ ⊢
            simp only [h5, h9] at hQ ⊢
            clear h5 h9
            go_wp2
            exact hQ (.int .i64 ((P : Int) + kk)) _ (Below.refl _ _) rfl
          · intro x w hb hk hiv hdj
            have h0 : x.v 0 = .pointer (some ⟨w4.heap.size, 2, none⟩) := hk 0 (by decide)
            have h1 : x.v 1 = .slice (some ⟨gf, 0, none⟩) FL fc := hk 1 (by decide)
            have h2 : x.v 2 = .int .i64 a := hk 2 (by decide)
            have h3 : x.v 3 = .pointer (some ⟨w0.heap.size, 0, none⟩) := hk 3 (by decide)
            have h4 : x.v 4 = .int .i64 k := hk 4 (by decide)
            have h5 : x.v 5 = .int .i64 P := hk 5 (by decide)
            have h6 : x.v 6 = .slice (some ⟨bl, ol, none⟩) K oc := hk 6 (by decide)
            have h7 : x.v 7 = .int .i64 a := hk 7 (by decide)
            have h8 : x.v 8 = .pointer (some ⟨bl, ol + a, none⟩) := hk 8 (by decide)
            have h9 : x.v 9 = .int .i64 kk := hk 9 (by decide)
            have h10 : x.v 10 = .int .i64 ((P : Int) + kk) := hk 10 (by decide)
            clear hk
            simp only [netAct, dstAt, List.getElem?_toArray, List.getElem?_cons_zero, List.getElem?_cons_succ, Option.bind_some, Act.put, List.setIfInBounds_toArray, List.set_cons_zero, List.set_cons_succ]
            simp only [List.drop_succ_cons, List.drop_zero, h0, h1, h2, h3, h4, h5, h6, h7, h8, h9, h10]
            clear h0 h1 h2 h3 h4 h5 h6 h7 h8 h9 h10
            have hIFw := HIF.out.below hb
            have cX := (hIFw.1.cellG (j := P + kk) (by rw [flat_length, HFL.out]; omega)).1
            have fX := hIFw.1.frozenG (P + kk)
            have rY := hIFw.put (j := P + kk) (x := 1) (by unfold I64; omega)
            rw [HONE.out] at rY
            obtain ⟨Y, hY⟩ : ∃ z, w.setCell ⟨gf, P + kk, none⟩ (.int .i64 1) = z := ⟨_, rfl⟩
            rw [hY] at rY
            have hcY : Chg gf (gf + 1) w Y := by rw [← hY]; exact chg_set1 _ _ _ _
            have hsw := hb.size
            have hsY := hcY.size
            have RY := Lib.hid rY
            have HIB2 := Lib.hid ((HIB.out.below hb).chg hcY (.inr (by omega)))
            have HB92 := Lib.hid ((HB9.out.call hb).chg hcY (.inr (by omega)))
            have HB102 := Lib.hid ((HB10.out.call hb).chg hcY (.inr (by omega)))
            have HBB2 := Lib.hid ((HBB.out.trans (hb.mono hbs)).trans (hcY.below (by omega) (by omega)))
            have L2 := Lib.hid (bcell ((hb.mono hbs).trans (hcY.below (by omega) (by omega))) hbl L1.out)
            have hs6' : w6.heap.size < Y.heap.size := by omega
            have hqY : wq.heap.size ≤ Y.heap.size := by omega
            clear hIFw rY hcY hiv hdj
            go_wp2
            clear hY cX fX
            refine wp_region_net (by kernel_rfl) [.eq (.pointer (some ⟨w6.heap.size, 2, none⟩)), .eq (.slice (some ⟨gb, 0, none⟩) BL bc), .eq (.slice (some ⟨bl, ol, none⟩) K oc), .eq (.int .i64 a), .eq (.pointer (some ⟨bl, ol + a, none⟩)), .eq (.int .i64 kk), .eq (.slice (some ⟨bl, ol, none⟩) K oc), .eq (.int .i64 K), .eq (.int .i64 Q), .eq (.int .i64 a), .eq (.int .i64 ((Q : Int) + a))] [[], [0], [], [], [2, 3], [2, 3, 4], [], [6], [2, 3, 4, 5, 6, 7], [], [2, 3, 4, 5, 6, 7, 8, 9], [0, 1, 2, 3, 4, 5, 6, 7, 8, 9, 10], [0, 1, 2, 3, 4, 5, 6, 7, 8, 9, 10, 11]] 11 (by kernel_rfl) ⟨trivial, trivial, trivial, trivial, trivial, trivial, trivial, trivial, trivial, trivial, trivial, trivial⟩ ⟨?_, ?_, ?_, ?_, ?_, ?_, ?_, ?_, ?_, ?_, ?_, trivial⟩ ?_
            · intro x w hb hk Q' hQ
              clear hk
              simp only [netAct, dstAt, List.getElem?_toArray, List.getElem?_cons_zero, List.getElem?_cons_succ, Option.bind_some, Act.put, List.setIfInBounds_toArray, List.set_cons_zero, List.set_cons_succ] at hQ ⊢
              go_wp2
              exact hQ (.pointer (some ⟨w6.heap.size, 2, none⟩)) _ (Below.refl _ _) rfl
            · intro x w hb hk Q' hQ
              have h0 : x.v 0 = .pointer (some ⟨w6.heap.size, 2, none⟩) := (hk 0 (by decide)).1
              clear hk
              simp only [netAct, dstAt, List.getElem?_toArray, List.getElem?_cons_zero, List.getElem?_cons_succ, Option.bind_some, Act.put, List.setIfInBounds_toArray, List.set_cons_zero, List.set_cons_succ] at hQ ⊢
              simp only [h0] at hQ ⊢
              clear h0
              have z := (HB102.out.call hb).cell' (i := 2) rfl
              go_wp2
              exact hQ (.slice (some ⟨gb, 0, none⟩) BL bc) _ (Below.refl _ _) rfl
            · intro x w hb hk Q' hQ
              clear hk
              simp only [netAct, dstAt, List.getElem?_toArray, List.getElem?_cons_zero, List.getElem?_cons_succ, Option.bind_some, Act.put, List.setIfInBounds_toArray, List.set_cons_zero, List.set_cons_succ] at hQ ⊢
              go_wp2
              exact hQ (.slice (some ⟨bl, ol, none⟩) K oc) _ (Below.refl _ _) rfl
            · intro x w hb hk Q' hQ
              clear hk
              simp only [netAct, dstAt, List.getElem?_toArray, List.getElem?_cons_zero, List.getElem?_cons_succ, Option.bind_some, Act.put, List.setIfInBounds_toArray, List.set_cons_zero, List.set_cons_succ] at hQ ⊢
              go_wp2
              exact hQ (.int .i64 a) _ (Below.refl _ _) rfl
            · intro x w hb hk Q' hQ
              have h2 : x.v 2 = .slice (some ⟨bl, ol, none⟩) K oc := (hk 2 (by decide)).1
              have h3 : x.v 3 = .int .i64 a := (hk 3 (by decide)).1
              clear hk
              simp only [netAct, dstAt, List.getElem?_toArray, List.getElem?_cons_zero, List.getElem?_cons_succ, Option.bind_some, Act.put, List.setIfInBounds_toArray, List.set_cons_zero, List.set_cons_succ] at hQ ⊢
              simp only [h2, h3] at hQ ⊢
              clear h2 h3
              go_wp2
              exact hQ (.pointer (some ⟨bl, ol + a, none⟩)) _ (Below.refl _ _) rfl
            · intro x w hb hk Q' hQ
              have h4 : x.v 4 = .pointer (some ⟨bl, ol + a, none⟩) := (hk 4 (by decide)).1
              clear hk
              simp only [netAct, dstAt, List.getElem?_toArray, List.getElem?_cons_zero, List.getElem?_cons_succ, Option.bind_some, Act.put, List.setIfInBounds_toArray, List.set_cons_zero, List.set_cons_succ] at hQ ⊢
              simp only [h4] at hQ ⊢
              clear h4
              have z := bcell hb (show bl < Y.heap.size by omega) L2.out
              go_wp2
              exact hQ (.int .i64 kk) _ (Below.refl _ _) rfl
            · intro x w hb hk Q' hQ
              clear hk
              simp only [netAct, dstAt, List.getElem?_toArray, List.getElem?_cons_zero, List.getElem?_cons_succ, Option.bind_some, Act.put, List.setIfInBounds_toArray, List.set_cons_zero, List.set_cons_succ] at hQ ⊢
              go_wp2
              exact hQ (.slice (some ⟨bl, ol, none⟩) K oc) _ (Below.refl _ _) rfl
            · intro x w hb hk Q' hQ
              have h6 : x.v 6 = .slice (some ⟨bl, ol, none⟩) K oc := (hk 6 (by decide)).1
              clear hk
              simp only [netAct, dstAt, List.getElem?_toArray, List.getElem?_cons_zero, List.getElem?_cons_succ, Option.bind_some, Act.put, List.setIfInBounds_toArray, List.set_cons_zero, List.set_cons_succ] at hQ ⊢
              simp only [h6] at hQ ⊢
              clear h6
              go_wp2
              exact hQ (.int .i64 K) _ (Below.refl _ _) rfl
            · intro x w hb hk Q' hQ
              have h5 : x.v 5 = .int .i64 kk := (hk 5 (by decide)).1
              have h7 : x.v 7 = .int .i64 K := (hk 7 (by decide)).1
              clear hk
              simp only [netAct, dstAt, List.getElem?_toArray, List.getElem?_cons_zero, List.getElem?_cons_succ, Option.bind_some, Act.put, List.setIfInBounds_toArray, List.set_cons_zero, List.set_cons_succ] at hQ ⊢
              simp only [h5, h7] at hQ ⊢
              clear h5 h7
              go_wp2
              rw [hQw.out]
              exact hQ (.int .i64 Q) _ (Below.refl _ _) rfl
            · intro x w hb hk Q' hQ
              clear hk
              simp only [netAct, dstAt, List.getElem?_toArray, List.getElem?_cons_zero, List.getElem?_cons_succ, Option.bind_some, Act.put, List.setIfInBounds_toArray, List.set_cons_zero, List.set_cons_succ] at hQ ⊢
              go_wp2
              exact hQ (.int .i64 a) _ (Below.refl _ _) rfl
            · intro x w hb hk Q' hQ
              have h8 : x.v 8 = .int .i64 Q := (hk 8 (by decide)).1
              have h9 : x.v 9 = .int .i64 a := (hk 9 (by decide)).1
              clear hk
              simp only [netAct, dstAt, List.getElem?_toArray, List.getElem?_cons_zero, List.getElem?_cons_succ, Option.bind_some, Act.put, List.setIfInBounds_toArray, List.set_cons_zero, List.set_cons_succ] at hQ ⊢
              simp only [h8, h9] at hQ ⊢
              clear h8 h9
              go_wp2
              exact hQ (.int .i64 ((Q : Int) + a)) _ (Below.refl _ _) rfl
            · intro x w hb hk hiv hdj
              have h0 : x.v 0 = .pointer (some ⟨w6.heap.size, 2, none⟩) := hk 0 (by decide)
              have h1 : x.v 1 = .slice (some ⟨gb, 0, none⟩) BL bc := hk 1 (by decide)
              have h2 : x.v 2 = .slice (some ⟨bl, ol, none⟩) K oc := hk 2 (by decide)
              have h3 : x.v 3 = .int .i64 a := hk 3 (by decide)
              have h4 : x.v 4 = .pointer (some ⟨bl, ol + a, none⟩) := hk 4 (by decide)
              have h5 : x.v 5 = .int .i64 kk := hk 5 (by decide)
              have h6 : x.v 6 = .slice (some ⟨bl, ol, none⟩) K oc := hk 6 (by decide)
              have h7 : x.v 7 = .int .i64 K := hk 7 (by decide)
              have h8 : x.v 8 = .int .i64 Q := hk 8 (by decide)
              have h9 : x.v 9 = .int .i64 a := hk 9 (by decide)
              have h10 : x.v 10 = .int .i64 ((Q : Int) + a) := hk 10 (by decide)
              clear hk
              simp only [netAct, dstAt, List.getElem?_toArray, List.getElem?_cons_zero, List.getElem?_cons_succ, Option.bind_some, Act.put, List.setIfInBounds_toArray, List.set_cons_zero, List.set_cons_succ]
              simp only [List.drop_succ_cons, List.drop_zero, h0, h1, h2, h3, h4, h5, h6, h7, h8, h9, h10]
              clear h0 h1 h2 h3 h4 h5 h6 h7 h8 h9 h10
              have hIBw := HIB2.out.below hb
              have cX := (hIBw.1.cellG (j := Q + a) (by rw [HHL.out]; omega)).1
              have fX := hIBw.1.frozenG (Q + a)
              have rY := hIBw.put (j := Q + a) (x := 1) (by unfold I64; omega)
              obtain ⟨V, hV⟩ : ∃ z, w.setCell ⟨gb, Q + a, none⟩ (.int .i64 1) = z := ⟨_, rfl⟩
              rw [hV] at rY
              have hcV : Chg gb (gb + 1) w V := by rw [← hV]; exact chg_set1 _ _ _ _
              have hsw := hb.size
              have hsV := hcV.size
              have hIF3 := (RY.out.below hb).chg hcV (.inl (by omega))
              have hB93 := (HB92.out.call hb).chg hcV (.inl (by omega))
              have hB103 := (HB102.out.call hb).chg hcV (.inr (by omega))
              have hBB3 := (HBB2.out.trans (hb.mono hqY)).trans (hcV.below (by omega) (by omega))
              have hIB3 : ∃ H, H.length = BL ∧ IntsO V W5.heap.size w6.heap.size (.slice (some ⟨gb, 0, none⟩) BL bc) H := ⟨_, by rw [List.length_set, HHL.out], rY⟩
              have hs6V : w6.heap.size < V.heap.size := by omega
              clear hIBw rY hcV hiv hdj HIB2 HB92 HB102 HBB2 L2 RY HIB HB9 HB10 HBB L1 HIF HHL
              go_wp2
              clear hV cX fX
              go_loopw [12] (fun j wr => ∃ i : Nat, i ≤ n ∧ j = .int .i64 i ∧ Below wq.heap.size wq wr ∧ Blk wr w4.heap.size 50 #[.int .i64 K, .int .i64 k, .slice (some ⟨gf, 0, none⟩) FL fc] ∧ Blk wr w6.heap.size 50 #[.int .i64 k, .int .i64 K, .slice (some ⟨gb, 0, none⟩) BL bc] ∧ IntsO wr wq.heap.size w4.heap.size (.slice (some ⟨gf, 0, none⟩) FL fc) (flat K k (pqF p g ps L n a i)) ∧ (∃ H, H.length = BL ∧ IntsO wr W5.heap.size w6.heap.size (.slice (some ⟨gb, 0, none⟩) BL bc) H) ∧ w6.heap.size < wr.heap.size) (fun j _ => n - (intOf j).toNat)
              case atStart => exact ⟨0, Nat.zero_le _, rfl, hBB3, hB93, hB103, hIF3, hIB3, hs6V⟩
              case round =>
                clear hBB3 hB93 hB103 hIF3 hIB3 hs6V hsw hsV hsY hs6' hqY hbs hs6
                obtain ⟨i, hi, rfl, hb, hB9, hB10, hIF, hIB, hs6⟩ := hrel
                obtain ⟨hpi, hui, hfi, hSp⟩ := hHI.out _ hb
                have hbs := hb.size
                by_cases hin : i < n
                · obtain ⟨bp, op, xb, ep, hbp, HXB, p1, _⟩ := SlI.atM (k := i) hpi HPN.out hin
                  subst ep
                  obtain ⟨b, hpb, hbk, _⟩ := HP.out.2 i hin
                  have hxb := HXB.out
                  rw [hpb] at hxb
                  injection hxb with hxb
                  subst hxb
                  obtain ⟨bu, ou, lr, UA', uc', eU, hbu, HXL, r1, hrow⟩ := SlII.at_ (k := i) (xs := rowsF n k g) (by rw [rowsF_length]; exact hui) (by rw [rowsF_length]; exact hin)
                  subst eU
                  have hlr := HXL.out
                  rw [rowsF_get _ hin] at hlr
                  injection hlr with hlr
                  subst hlr
                  rw [rowF_length] at r1 hrow
                  obtain ⟨be, oe, y, ee, hbe, HXE, e1, hy1, hy2⟩ := SlI.atM (k := kk) hrow (rowF_length _ _) hkk
                  subst ee
                  have hye := HXE.out
                  rw [rowF_get _ hkk] at hye
                  injection hye with hye
                  have hgr := HG.out i kk hin hkk
                  have hput := HPUT.out i b hbk hpb
                  rw [hye] at hgr hput
                  have hgm := emod_rng (p := p) (x := - y) hp.1
                  have hrb := HROW.out b hbk
                  rw [HFL.out] at hrb
                  have HPU := Lib.hid hput
                  have hgI : Hid (I64 (- y)) := ⟨by omega, by omega⟩
                  have hgI2 : Hid (I64 ((- y) % p)) := ⟨by omega, by omega⟩
                  have HPP := Lib.hid hp
                  have P1 := Lib.hid p1
                  have R1 := Lib.hid r1
                  have E1 := Lib.hid e1
                  obtain ⟨bl', ol', x', el', hbl', HX', l1', _⟩ := SlI.atM (k := a) hfi HK.out hak
                  injection el' with el'
                  injection el' with el1 el2
                  subst el1 el2
                  have hx' := HX'.out
                  rw [HX.out] at hx'
                  injection hx' with hx'
                  subst hx'
                  have L1 := Lib.hid l1'
                  have HIF := Lib.hid hIF
                  have HIB := Lib.hid hIB
                  have HBB := Lib.hid hb
                  have HB9 := Lib.hid hB9
                  have HB10 := Lib.hid hB10
                  have HSP := Lib.hid hSp
                  obtain ⟨wx, hwx⟩ : ∃ z, z = wr := ⟨_, rfl⟩
                  subst hwx
                  clear hIF hIB hb hB9 hB10 l1' p1 r1 e1 hSp hfi hui hpi hrow HXE HXL HXB hput hpb hye hp HX'
                  go_wp2
                  refine wp_region_net (by kernel_rfl) [.eq (.pointer (some ⟨w4.heap.size, 2, none⟩)), .eq (.slice (some ⟨gf, 0, none⟩) FL fc), .eq (.int .i64 a), .eq (.pointer (some ⟨w0.heap.size, 0, none⟩)), .eq (.int .i64 k), .eq (.int .i64 P), .eq (.slice (some ⟨bp, op, none⟩) n pc), .eq (.int .i64 i), .eq (.pointer (some ⟨bp, op + i, none⟩)), .eq (.int .i64 b), .eq (.int .i64 ((P : Int) + b)), .eq (.int .i64 p), .eq (.pointer (some ⟨w0.heap.size, 1, none⟩)), .eq (.slice (some ⟨bu, ou, none⟩) n uc), .eq (.int .i64 i), .eq (.pointer (some ⟨bu, ou + i, none⟩)), .eq (.slice (some ⟨be, oe, none⟩) k uc'), .eq (.slice (some ⟨bl, ol, none⟩) K oc), .eq (.int .i64 a), .eq (.pointer (some ⟨bl, ol + a, none⟩)), .eq (.int .i64 kk), .eq (.pointer (some ⟨be, oe + kk, none⟩)), .eq (.int .i64 y), .eq (.int .i64 (- y)), .eq (.int .i64 ((- y) % p))] [[], [0], [], [], [3], [2, 3, 4], [], [], [6, 7], [6, 7, 8], [2, 3, 4, 5, 6, 7, 8, 9], [], [], [12], [], [12, 13, 14], [12, 13, 14, 15], [], [], [17, 18], [17, 18, 19], [12, 13, 14, 15, 16, 17, 18, 19, 20], [12, 13, 14, 15, 16, 17, 18, 19, 20, 21], [12, 13, 14, 15, 16, 17, 18, 19, 20, 21, 22], [11, 12, 13, 14, 15, 16, 17, 18, 19, 20, 21, 22, 23], [0, 1, 2, 3, 4, 5, 6, 7, 8, 9, 10, 11, 12, 13, 14, 15, 16, 17, 18, 19, 20, 21, 22, 23, 24], [0, 1, 2, 3, 4, 5, 6, 7, 8, 9, 10, 11, 12, 13, 14, 15, 16, 17, 18, 19, 20, 21, 22, 23, 24, 25]] 25 (by kernel_rfl) ⟨trivial, trivial, trivial, trivial, trivial, trivial, trivial, trivial, trivial, trivial, trivial, trivial, trivial, trivial, trivial, trivial, trivial, trivial, trivial, trivial, trivial, trivial, trivial, trivial, trivial, trivial⟩ ⟨?_, ?_, ?_, ?_, ?_, ?_, ?_, ?_, ?_, ?_, ?_, ?_, ?_, ?_, ?_, ?_, ?_, ?_, ?_, ?_, ?_, ?_, ?_, ?_, ?_, trivial⟩ ?_
                  · intro x w hb hk Q' hQ
                    clear hk
                    simp only [netAct, dstAt, List.getElem?_toArray, List.getElem?_cons_zero, List.getElem?_cons_succ, Option.bind_some, Act.put, List.setIfInBounds_toArray, List.set_cons_zero, List.set_cons_succ] at hQ ⊢
                    go_wp2
                    exact hQ (.pointer (some ⟨w4.heap.size, 2, none⟩)) _ (Below.refl _ _) rfl
                  · intro x w hb hk Q' hQ
                    have h0 : x.v 0 = .pointer (some ⟨w4.heap.size, 2, none⟩) := (hk 0 (by decide)).1
                    clear hk
                    simp only [netAct, dstAt, List.getElem?_toArray, List.getElem?_cons_zero, List.getElem?_cons_succ, Option.bind_some, Act.put, List.setIfInBounds_toArray, List.set_cons_zero, List.set_cons_succ] at hQ ⊢
                    simp only [h0] at hQ ⊢
                    clear h0
                    have z := (HB9.out.call hb).cell' (i := 2) rfl
                    go_wp2
                    exact hQ (.slice (some ⟨gf, 0, none⟩) FL fc) _ (Below.refl _ _) rfl
                  · intro x w hb hk Q' hQ
                    clear hk
                    simp only [netAct, dstAt, List.getElem?_toArray, List.getElem?_cons_zero, List.getElem?_cons_succ, Option.bind_some, Act.put, List.setIfInBounds_toArray, List.set_cons_zero, List.set_cons_succ] at hQ ⊢
                    go_wp2
                    exact hQ (.int .i64 a) _ (Below.refl _ _) rfl
                  · intro x w hb hk Q' hQ
                    clear hk
                    simp only [netAct, dstAt, List.getElem?_toArray, List.getElem?_cons_zero, List.getElem?_cons_succ, Option.bind_some, Act.put, List.setIfInBounds_toArray, List.set_cons_zero, List.set_cons_succ] at hQ ⊢
                    go_wp2
                    exact hQ (.pointer (some ⟨w0.heap.size, 0, none⟩)) _ (Below.refl _ _) rfl
                  · intro x w hb hk Q' hQ
                    have h3 : x.v 3 = .pointer (some ⟨w0.heap.size, 0, none⟩) := (hk 3 (by decide)).1
                    clear hk
                    simp only [netAct, dstAt, List.getElem?_toArray, List.getElem?_cons_zero, List.getElem?_cons_succ, Option.bind_some, Act.put, List.setIfInBounds_toArray, List.set_cons_zero, List.set_cons_succ] at hQ ⊢
                    simp only [h3] at hQ ⊢
                    clear h3
                    have z := (HSP.out.call hb).cell' (i := 0) rfl
                    go_wp2
                    exact hQ (.int .i64 k) _ (Below.refl _ _) rfl
                  · intro x w hb hk Q' hQ
                    have h2 : x.v 2 = .int .i64 a := (hk 2 (by decide)).1
                    have h4 : x.v 4 = .int .i64 k := (hk 4 (by decide)).1
                    clear hk
                    simp only [netAct, dstAt, List.getElem?_toArray, List.getElem?_cons_zero, List.getElem?_cons_succ, Option.bind_some, Act.put, List.setIfInBounds_toArray, List.set_cons_zero, List.set_cons_succ] at hQ ⊢
                    simp only [h2, h4] at hQ ⊢
                    clear h2 h4
                    go_wp2
                    rw [hPw.out]
                    exact hQ (.int .i64 P) _ (Below.refl _ _) rfl
                  · intro x w hb hk Q' hQ
                    clear hk
                    simp only [netAct, dstAt, List.getElem?_toArray, List.getElem?_cons_zero, List.getElem?_cons_succ, Option.bind_some, Act.put, List.setIfInBounds_toArray, List.set_cons_zero, List.set_cons_succ] at hQ ⊢
                    go_wp2
                    exact hQ (.slice (some ⟨bp, op, none⟩) n pc) _ (Below.refl _ _) rfl
                  · intro x w hb hk Q' hQ
                    clear hk
                    simp only [netAct, dstAt, List.getElem?_toArray, List.getElem?_cons_zero, List.getElem?_cons_succ, Option.bind_some, Act.put, List.setIfInBounds_toArray, List.set_cons_zero, List.set_cons_succ] at hQ ⊢
                    go_wp2
                    exact hQ (.int .i64 i) _ (Below.refl _ _) rfl
                  · intro x w hb hk Q' hQ
                    have h6 : x.v 6 = .slice (some ⟨bp, op, none⟩) n pc := (hk 6 (by decide)).1
                    have h7 : x.v 7 = .int .i64 i := (hk 7 (by decide)).1
                    clear hk
                    simp only [netAct, dstAt, List.getElem?_toArray, List.getElem?_cons_zero, List.getElem?_cons_succ, Option.bind_some, Act.put, List.setIfInBounds_toArray, List.set_cons_zero, List.set_cons_succ] at hQ ⊢
                    simp only [h6, h7] at hQ ⊢
                    clear h6 h7
                    go_wp2
                    exact hQ (.pointer (some ⟨bp, op + i, none⟩)) _ (Below.refl _ _) rfl
                  · intro x w hb hk Q' hQ
                    have h8 : x.v 8 = .pointer (some ⟨bp, op + i, none⟩) := (hk 8 (by decide)).1
                    clear hk
                    simp only [netAct, dstAt, List.getElem?_toArray, List.getElem?_cons_zero, List.getElem?_cons_succ, Option.bind_some, Act.put, List.setIfInBounds_toArray, List.set_cons_zero, List.set_cons_succ] at hQ ⊢
                    simp only [h8] at hQ ⊢
                    clear h8
                    have z := bcell hb (show bp < wx.heap.size by omega) P1.out
                    go_wp2
                    exact hQ (.int .i64 b) _ (Below.refl _ _) rfl
                  · intro x w hb hk Q' hQ
                    have h5 : x.v 5 = .int .i64 P := (hk 5 (by decide)).1
                    have h9 : x.v 9 = .int .i64 b := (hk 9 (by decide)).1
                    clear hk
                    simp only [netAct, dstAt, List.getElem?_toArray, List.getElem?_cons_zero, List.getElem?_cons_succ, Option.bind_some, Act.put, List.setIfInBounds_toArray, List.set_cons_zero, List.set_cons_succ] at hQ ⊢
                    simp only [h5, h9] at hQ ⊢
                    clear h5 h9
                    go_wp2
                    exact hQ (.int .i64 ((P : Int) + b)) _ (Below.refl _ _) rfl
                  · intro x w hb hk Q' hQ
                    clear hk
                    simp only [netAct, dstAt, List.getElem?_toArray, List.getElem?_cons_zero, List.getElem?_cons_succ, Option.bind_some, Act.put, List.setIfInBounds_toArray, List.set_cons_zero, List.set_cons_succ] at hQ ⊢
                    go_wp2
                    exact hQ (.int .i64 p) _ (Below.refl _ _) rfl
                  · intro x w hb hk Q' hQ
                    clear hk
                    simp only [netAct, dstAt, List.getElem?_toArray, List.getElem?_cons_zero, List.getElem?_cons_succ, Option.bind_some, Act.put, List.setIfInBounds_toArray, List.set_cons_zero, List.set_cons_succ] at hQ ⊢
                    go_wp2
                    exact hQ (.pointer (some ⟨w0.heap.size, 1, none⟩)) _ (Below.refl _ _) rfl
                  · intro x w hb hk Q' hQ
                    have h12 : x.v 12 = .pointer (some ⟨w0.heap.size, 1, none⟩) := (hk 12 (by decide)).1
                    clear hk
                    simp only [netAct, dstAt, List.getElem?_toArray, List.getElem?_cons_zero, List.getElem?_cons_succ, Option.bind_some, Act.put, List.setIfInBounds_toArray, List.set_cons_zero, List.set_cons_succ] at hQ ⊢
                    simp only [h12] at hQ ⊢
                    clear h12
                    have z := (HSP.out.call hb).cell' (i := 1) rfl
                    go_wp2
                    exact hQ (.slice (some ⟨bu, ou, none⟩) n uc) _ (Below.refl _ _) rfl
                  · intro x w hb hk Q' hQ
                    clear hk
                    simp only [netAct, dstAt, List.getElem?_toArray, List.getElem?_cons_zero, List.getElem?_cons_succ, Option.bind_some, Act.put, List.setIfInBounds_toArray, List.set_cons_zero, List.set_cons_succ] at hQ ⊢
                    go_wp2
                    exact hQ (.int .i64 i) _ (Below.refl _ _) rfl
                  · intro x w hb hk Q' hQ
                    have h13 : x.v 13 = .slice (some ⟨bu, ou, none⟩) n uc := (hk 13 (by decide)).1
                    have h14 : x.v 14 = .int .i64 i := (hk 14 (by decide)).1
                    clear hk
                    simp only [netAct, dstAt, List.getElem?_toArray, List.getElem?_cons_zero, List.getElem?_cons_succ, Option.bind_some, Act.put, List.setIfInBounds_toArray, List.set_cons_zero, List.set_cons_succ] at hQ ⊢
                    simp only [h13, h14] at hQ ⊢
                    clear h13 h14
                    go_wp2
                    exact hQ (.pointer (some ⟨bu, ou + i, none⟩)) _ (Below.refl _ _) rfl
                  · intro x w hb hk Q' hQ
                    have h15 : x.v 15 = .pointer (some ⟨bu, ou + i, none⟩) := (hk 15 (by decide)).1
                    clear hk
                    simp only [netAct, dstAt, List.getElem?_toArray, List.getElem?_cons_zero, List.getElem?_cons_succ, Option.bind_some, Act.put, List.setIfInBounds_toArray, List.set_cons_zero, List.set_cons_succ] at hQ ⊢
                    simp only [h15] at hQ ⊢
                    clear h15
                    have z := bcell hb (show bu < wx.heap.size by omega) R1.out
                    go_wp2
                    exact hQ (.slice (some ⟨be, oe, none⟩) k uc') _ (Below.refl _ _) rfl
                  · intro x w hb hk Q' hQ
                    clear hk
                    simp only [netAct, dstAt, List.getElem?_toArray, List.getElem?_cons_zero, List.getElem?_cons_succ, Option.bind_some, Act.put, List.setIfInBounds_toArray, List.set_cons_zero, List.set_cons_succ] at hQ ⊢
                    go_wp2
                    exact hQ (.slice (some ⟨bl, ol, none⟩) K oc) _ (Below.refl _ _) rfl
                  · intro x w hb hk Q' hQ
                    clear hk
                    simp only [netAct, dstAt, List.getElem?_toArray, List.getElem?_cons_zero, List.getElem?_cons_succ, Option.bind_some, Act.put, List.setIfInBounds_toArray, List.set_cons_zero, List.set_cons_succ] at hQ ⊢
                    go_wp2
                    exact hQ (.int .i64 a) _ (Below.refl _ _) rfl
                  · intro x w hb hk Q' hQ
                    have h17 : x.v 17 = .slice (some ⟨bl, ol, none⟩) K oc := (hk 17 (by decide)).1
                    have h18 : x.v 18 = .int .i64 a := (hk 18 (by decide)).1
                    clear hk
                    simp only [netAct, dstAt, List.getElem?_toArray, List.getElem?_cons_zero, List.getElem?_cons_succ, Option.bind_some, Act.put, List.setIfInBounds_toArray, List.set_cons_zero, List.set_cons_succ] at hQ ⊢
                    simp only [h17, h18] at hQ ⊢
                    clear h17 h18
                    go_wp2
                    exact hQ (.pointer (some ⟨bl, ol + a, none⟩)) _ (Below.refl _ _) rfl
                  · intro x w hb hk Q' hQ
                    have h19 : x.v 19 = .pointer (some ⟨bl, ol + a, none⟩) := (hk 19 (by decide)).1
                    clear hk
                    simp only [netAct, dstAt, List.getElem?_toArray, List.getElem?_cons_zero, List.getElem?_cons_succ, Option.bind_some, Act.put, List.setIfInBounds_toArray, List.set_cons_zero, List.set_cons_succ] at hQ ⊢
                    simp only [h19] at hQ ⊢
                    clear h19
                    have z := bcell hb (show bl < wx.heap.size by omega) L1.out
                    go_wp2
                    exact hQ (.int .i64 kk) _ (Below.refl _ _) rfl
                  · intro x w hb hk Q' hQ
                    have h16 : x.v 16 = .slice (some ⟨be, oe, none⟩) k uc' := (hk 16 (by decide)).1
                    have h20 : x.v 20 = .int .i64 kk := (hk 20 (by decide)).1
                    clear hk
                    simp only [netAct, dstAt, List.getElem?_toArray, List.getElem?_cons_zero, List.getElem?_cons_succ, Option.bind_some, Act.put, List.setIfInBounds_toArray, List.set_cons_zero, List.set_cons_succ] at hQ ⊢
                    simp only [h16, h20] at hQ ⊢
                    clear h16 h20
                    go_wp2
                    exact hQ (.pointer (some ⟨be, oe + kk, none⟩)) _ (Below.refl _ _) rfl
                  · intro x w hb hk Q' hQ
                    have h21 : x.v 21 = .pointer (some ⟨be, oe + kk, none⟩) := (hk 21 (by decide)).1
                    clear hk
                    simp only [netAct, dstAt, List.getElem?_toArray, List.getElem?_cons_zero, List.getElem?_cons_succ, Option.bind_some, Act.put, List.setIfInBounds_toArray, List.set_cons_zero, List.set_cons_succ] at hQ ⊢
                    simp only [h21] at hQ ⊢
                    clear h21
                    have z := bcell hb (show be < wx.heap.size by omega) E1.out
                    go_wp2
                    exact hQ (.int .i64 y) _ (Below.refl _ _) rfl
                  · intro x w hb hk Q' hQ
                    have h22 : x.v 22 = .int .i64 y := (hk 22 (by decide)).1
                    clear hk
                    simp only [netAct, dstAt, List.getElem?_toArray, List.getElem?_cons_zero, List.getElem?_cons_succ, Option.bind_some, Act.put, List.setIfInBounds_toArray, List.set_cons_zero, List.set_cons_succ] at hQ ⊢
                    simp only [h22] at hQ ⊢
                    clear h22
                    go_wp2
                    exact hQ (.int .i64 (- y)) _ (Below.refl _ _) rfl
                  · intro x w hb hk Q' hQ
                    have h11 : x.v 11 = .int .i64 p := (hk 11 (by decide)).1
                    have h23 : x.v 23 = .int .i64 (- y) := (hk 23 (by decide)).1
                    clear hk
                    simp only [netAct, dstAt, List.getElem?_toArray, List.getElem?_cons_zero, List.getElem?_cons_succ, Option.bind_some, Act.put, List.setIfInBounds_toArray, List.set_cons_zero, List.set_cons_succ] at hQ ⊢
                    simp only [h11, h23] at hQ ⊢
                    clear h11 h23
                    go_wp2_with fail
                    refine (l2Mod_any p (- y) _ HPP.out hgI.out).mono ?_; rintro e w5 ⟨rfl, hww⟩; replace hww := hww.symm; subst hww
                    go_wp2
                    exact hQ (.int .i64 ((- y) % p)) _ (Below.refl _ _) rfl
                  · intro x w hb hk hiv hdj
                    have h0 : x.v 0 = .pointer (some ⟨w4.heap.size, 2, none⟩) := hk 0 (by decide)
                    have h1 : x.v 1 = .slice (some ⟨gf, 0, none⟩) FL fc := hk 1 (by decide)
                    have h2 : x.v 2 = .int .i64 a := hk 2 (by decide)
                    have h3 : x.v 3 = .pointer (some ⟨w0.heap.size, 0, none⟩) := hk 3 (by decide)
                    have h4 : x.v 4 = .int .i64 k := hk 4 (by decide)
                    have h5 : x.v 5 = .int .i64 P := hk 5 (by decide)
                    have h6 : x.v 6 = .slice (some ⟨bp, op, none⟩) n pc := hk 6 (by decide)
                    have h7 : x.v 7 = .int .i64 i := hk 7 (by decide)
                    have h8 : x.v 8 = .pointer (some ⟨bp, op + i, none⟩) := hk 8 (by decide)
                    have h9 : x.v 9 = .int .i64 b := hk 9 (by decide)
                    have h10 : x.v 10 = .int .i64 ((P : Int) + b) := hk 10 (by decide)
                    have h11 : x.v 11 = .int .i64 p := hk 11 (by decide)
                    have h12 : x.v 12 = .pointer (some ⟨w0.heap.size, 1, none⟩) := hk 12 (by decide)
                    have h13 : x.v 13 = .slice (some ⟨bu, ou, none⟩) n uc := hk 13 (by decide)
                    have h14 : x.v 14 = .int .i64 i := hk 14 (by decide)
                    have h15 : x.v 15 = .pointer (some ⟨bu, ou + i, none⟩) := hk 15 (by decide)
                    have h16 : x.v 16 = .slice (some ⟨be, oe, none⟩) k uc' := hk 16 (by decide)
                    have h17 : x.v 17 = .slice (some ⟨bl, ol, none⟩) K oc := hk 17 (by decide)
                    have h18 : x.v 18 = .int .i64 a := hk 18 (by decide)
                    have h19 : x.v 19 = .pointer (some ⟨bl, ol + a, none⟩) := hk 19 (by decide)
                    have h20 : x.v 20 = .int .i64 kk := hk 20 (by decide)
                    have h21 : x.v 21 = .pointer (some ⟨be, oe + kk, none⟩) := hk 21 (by decide)
                    have h22 : x.v 22 = .int .i64 y := hk 22 (by decide)
                    have h23 : x.v 23 = .int .i64 (- y) := hk 23 (by decide)
                    have h24 : x.v 24 = .int .i64 ((- y) % p) := hk 24 (by decide)
                    clear hk
                    simp only [netAct, dstAt, List.getElem?_toArray, List.getElem?_cons_zero, List.getElem?_cons_succ, Option.bind_some, Act.put, List.setIfInBounds_toArray, List.set_cons_zero, List.set_cons_succ]
                    simp only [List.drop_succ_cons, List.drop_zero, h0, h1, h2, h3, h4, h5, h6, h7, h8, h9, h10, h11, h12, h13, h14, h15, h16, h17, h18, h19, h20, h21, h22, h23, h24]
                    clear h0 h1 h2 h3 h4 h5 h6 h7 h8 h9 h10 h11 h12 h13 h14 h15 h16 h17 h18 h19 h20 h21 h22 h23 h24
                    have hIFw := HIF.out.below hb
                    have cX := (hIFw.1.cellG (j := P + b) (by rw [flat_length, HFL.out]; omega)).1
                    have fX := hIFw.1.frozenG (P + b)
                    have rY := hIFw.put (j := P + b) (x := (- y) % p) hgI2.out
                    rw [HPU.out] at rY
                    obtain ⟨Y2, hY⟩ : ∃ z, w.setCell ⟨gf, P + b, none⟩ (.int .i64 ((- y) % p)) = z := ⟨_, rfl⟩
                    rw [hY] at rY
                    have hcY : Chg gf (gf + 1) w Y2 := by rw [← hY]; exact chg_set1 _ _ _ _
                    have hsw := hb.size
                    have hsY := hcY.size
                    have RY := Lib.hid rY
                    obtain ⟨H2, hH2, hIB2⟩ := HIB.out
                    have HIB2 := Lib.hid (show ∃ H, H.length = BL ∧ IntsO Y2 W5.heap.size w6.heap.size (.slice (some ⟨gb, 0, none⟩) BL bc) H from ⟨H2, hH2, (hIB2.below hb).chg hcY (.inr (by omega))⟩)
                    have HB92 := Lib.hid ((HB9.out.call hb).chg hcY (.inr (by omega)))
                    have HB102 := Lib.hid ((HB10.out.call hb).chg hcY (.inr (by omega)))
                    have HBB2 := Lib.hid ((HBB.out.trans (hb.mono hbs)).trans (hcY.below (by omega) (by omega)))
                    have hs6Y : w6.heap.size < Y2.heap.size := by omega
                    clear hIFw rY hcY hiv hdj hIB2 hH2
                    go_wp2
                    clear hY cX fX
                    go_roundw
                    case rel => exact ⟨i + 1, by omega, by go_num, HBB2.out, HB92.out, HB102.out, RY.out, HIB2.out, hs6Y⟩
                    case measure => simp [intOf]; omega
                · obtain rfl : i = n := by omega
                  rw [pqF_next] at hIF
                  have HIF := Lib.hid hIF
                  have HIB := Lib.hid hIB
                  have HBB := Lib.hid hb
                  have HB9 := Lib.hid hB9
                  have HB10 := Lib.hid hB10
                  clear hIF hIB hb hB9 hB10 hpi hui hfi hSp
                  go_wp2
                  go_roundw
                  case rel => exact ⟨a + 1, by omega, by go_num, HBB.out, HB9.out, HB10.out, HIF.out, HIB.out, hs6⟩
                  case measure => simp [intOf]; omega
        · obtain rfl : a = K := by omega
          rw [prF_end] at hIF
          have kz1 := KR1.out.below (HB.out.trans (hb.mono (by omega))) (by omega)
          have kz2 := KR2.out.below (HB.out.trans (hb.mono (by omega))) (by omega)
          have HIF := Lib.hid hIF
          have HB9 := Lib.hid hB9
          have HB10 := Lib.hid hB10
          have GF := Lib.hid (G2.out.trans ((HB.out.trans (hb.mono (by omega))).mono (by omega)))
          have hbs := hb.size
          have hIFl := hIF.1.lt
          obtain ⟨wx, hwx⟩ : ∃ z, z = wr := ⟨_, rfl⟩
          subst hwx
          clear hIF hB9 hB10 hIB hH hfr hSp hb
          go_wp2
          refine wp_region_net2 (by kernel_rfl) [.eq (.agg #[.int .i64 a, .int .i64 k, .slice FA FL fc]), .eq (.agg #[.int .i64 k, .int .i64 a, .slice BA BL bc])] [[], [], [0], [0, 1, 2]] 2 1 [0] (by kernel_rfl) rfl ⟨trivial, trivial, trivial⟩ ⟨?_, ?_, trivial⟩ ?_ ?_
          · intro x w hb hk Q' hQ
            clear hk
            simp only [netAct, dstAt, List.getElem?_toArray, List.getElem?_cons_zero, List.getElem?_cons_succ, Option.bind_some, Act.put, List.setIfInBounds_toArray, List.set_cons_zero, List.set_cons_succ] at hQ ⊢
            have z0 := (HB9.out.call hb).cell' (i := 0) rfl
            have z1 := (HB9.out.call hb).cell' (i := 1) rfl
            have z2 := (HB9.out.call hb).cell' (i := 2) rfl
            go_wp2
            exact hQ (.agg #[.int .i64 a, .int .i64 k, .slice FA FL fc]) _ (Below.refl _ _) rfl
          · intro x w hb hk Q' hQ
            clear hk
            simp only [netAct, dstAt, List.getElem?_toArray, List.getElem?_cons_zero, List.getElem?_cons_succ, Option.bind_some, Act.put, List.setIfInBounds_toArray, List.set_cons_zero, List.set_cons_succ] at hQ ⊢
            have z0 := (HB10.out.call hb).cell' (i := 0) rfl
            have z1 := (HB10.out.call hb).cell' (i := 1) rfl
            have z2 := (HB10.out.call hb).cell' (i := 2) rfl
            go_wp2
            exact hQ (.agg #[.int .i64 k, .int .i64 a, .slice BA BL bc]) _ (Below.refl _ _) rfl
          · intro x w hb hk hiv hdj
            have h0 : x.v 0 = .agg #[.int .i64 a, .int .i64 k, .slice FA FL fc] := hk 0 (by decide)
            have h1 : x.v 1 = .agg #[.int .i64 k, .int .i64 a, .slice BA BL bc] := hk 1 (by decide)
            clear hk
            simp only [netAct, dstAt, List.getElem?_toArray, List.getElem?_cons_zero, List.getElem?_cons_succ, Option.bind_some, Act.put, List.setIfInBounds_toArray, List.set_cons_zero, List.set_cons_succ]
            simp only [List.drop_succ_cons, List.drop_zero, h0, h1]
            clear h0 h1
            have k1 := kz1.call hb
            have k2 := kz2.call hb
            have fr1 := k1.frozen
            have fr2 := k2.frozen
            have y0 := k1.cell' (i := 0) rfl
            have y1 := k1.cell' (i := 1) rfl
            have y2 := k1.cell' (i := 2) rfl
            have x0 := k2.cell' (i := 0) rfl
            have x1 := k2.cell' (i := 1) rfl
            have x2 := k2.cell' (i := 2) rfl
            have q0 := (HB10.out.call hb).cell' (i := 0) rfl
            have q1 := (HB10.out.call hb).cell' (i := 1) rfl
            have q2 := (HB10.out.call hb).cell' (i := 2) rfl
            have hne : w0.heap.size + 1 + 1 < w6.heap.size := by omega
            have hsw := hb.size
            have gw := GF.out.trans (hb.mono (by omega))
            have gws := gw.size
            have hc1 := ((chg_set1 w (w0.heap.size + 1) 0 (.int .i64 a)).trans (chg_set1 _ (w0.heap.size + 1) 1 (.int .i64 k))).trans (chg_set1 _ (w0.heap.size + 1) 2 (.slice FA FL fc))
            have hc2 := ((chg_set1 (((w.setCell ⟨w0.heap.size + 1, 0, none⟩ (.int .i64 a)).setCell ⟨w0.heap.size + 1, 1, none⟩ (.int .i64 k)).setCell ⟨w0.heap.size + 1, 2, none⟩ (.slice FA FL fc)) (w0.heap.size + 1 + 1) 0 (.int .i64 k)).trans (chg_set1 _ (w0.heap.size + 1 + 1) 1 (.int .i64 a))).trans (chg_set1 _ (w0.heap.size + 1 + 1) 2 (.slice BA BL bc))
            have hs1 := hc1.size
            have hIo := ((HIF.out.below hb).chg hc1 (.inr (by omega))).chg hc2 (.inr (by omega))
            have OF := Lib.hid (hIo.wider (lo' := w0.heap.size) (hi' := w.heap.size) (by omega) (by omega))
            have GG := Lib.hid ((gw.trans (hc1.below (by omega) gws)).trans (hc2.below (by omega) (by omega)))
            clear hIo hc1 hc2 k1 k2 gw hiv hdj hs1
            go_wp2
            exact bodyPost_ret (v := .tuple #[.agg #[.int .i64 a, .int .i64 k, .slice FA FL fc], .agg #[.int .i64 k, .int .i64 a, .slice BA BL bc]]) (by simp [results, go_sem, y0, y1, y2, x0, x1, x2]) rfl ⟨_, _, _, _, _, _, rfl, by rw [HLE.out, HK.out]; exact ⟨_, rfl, by simpa [mxF] using OF.out, by simp only [mxF]; unfold I64; omega, by simp only [mxF]; unfold I64; omega⟩, GG.out⟩
          · intro x w hb hk hiv hdj om os hom hos
            simp only [List.getElem?_cons_zero, List.getElem?_cons_succ, Option.some.injEq] at hom hos
            subst hom hos
            have h0 : x.v 0 = .agg #[.int .i64 a, .int .i64 k, .slice FA FL fc] := hk 0 (by decide)
            clear hk
            simp only [List.foldl_cons, List.foldl_nil, netAct, dstAt, List.getElem?_toArray, List.getElem?_cons_zero, List.getElem?_cons_succ, Option.bind_some, Act.put, List.setIfInBounds_toArray, List.set_cons_zero, List.set_cons_succ]
            simp only [List.drop_succ_cons, List.drop_zero, h0]
            clear h0
            have k1 := kz1.call hb
            have k2 := kz2.call hb
            have fr1 := k1.frozen
            have fr2 := k2.frozen
            have y0 := k1.cell' (i := 0) rfl
            have y1 := k1.cell' (i := 1) rfl
            have y2 := k1.cell' (i := 2) rfl
            have x0 := k2.cell' (i := 0) rfl
            have x1 := k2.cell' (i := 1) rfl
            have x2 := k2.cell' (i := 2) rfl
            have q0 := (HB10.out.call hb).cell' (i := 0) rfl
            have q1 := (HB10.out.call hb).cell' (i := 1) rfl
            have q2 := (HB10.out.call hb).cell' (i := 2) rfl
            have hne : w0.heap.size + 1 + 1 < w6.heap.size := by omega
            have hsw := hb.size
            have gw := GF.out.trans (hb.mono (by omega))
            have gws := gw.size
            have hc1 := ((chg_set1 w (w0.heap.size + 1) 0 (.int .i64 a)).trans (chg_set1 _ (w0.heap.size + 1) 1 (.int .i64 k))).trans (chg_set1 _ (w0.heap.size + 1) 2 (.slice FA FL fc))
            have hc2 := ((chg_set1 (((w.setCell ⟨w0.heap.size + 1, 0, none⟩ (.int .i64 a)).setCell ⟨w0.heap.size + 1, 1, none⟩ (.int .i64 k)).setCell ⟨w0.heap.size + 1, 2, none⟩ (.slice FA FL fc)) (w0.heap.size + 1 + 1) 0 (.int .i64 k)).trans (chg_set1 _ (w0.heap.size + 1 + 1) 1 (.int .i64 a))).trans (chg_set1 _ (w0.heap.size + 1 + 1) 2 (.slice BA BL bc))
            have hs1 := hc1.size
            have hIo := ((HIF.out.below hb).chg hc1 (.inr (by omega))).chg hc2 (.inr (by omega))
            have OF := Lib.hid (hIo.wider (lo' := w0.heap.size) (hi' := w.heap.size) (by omega) (by omega))
            have GG := Lib.hid ((gw.trans (hc1.below (by omega) gws)).trans (hc2.below (by omega) (by omega)))
            clear hIo hc1 hc2 k1 k2 gw hiv hdj hs1
            go_wp2
            exact bodyPost_ret (v := .tuple #[.agg #[.int .i64 a, .int .i64 k, .slice FA FL fc], .agg #[.int .i64 k, .int .i64 a, .slice BA BL bc]]) (by simp [results, go_sem, y0, y1, y2, x0, x1, x2]) rfl ⟨_, _, _, _, _, _, rfl, by rw [HLE.out, HK.out]; exact ⟨_, rfl, by simpa [mxF] using OF.out, by simp only [mxF]; unfold I64; omega, by simp only [mxF]; unfold I64; omega⟩, GG.out⟩
end Go.Proofs.YtaefpblpfjhgoaaGreat
