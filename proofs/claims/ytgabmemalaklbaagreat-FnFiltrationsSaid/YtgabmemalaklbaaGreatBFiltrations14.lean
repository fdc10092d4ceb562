/- FnFiltrations: the law holds for every argument. Part 14 of 18 of the proof: FrS, BsB. No condition. -/
import Derived.Test.YtgabmemalaklbaaGreatBFiltrations13
/- The reference's FiltrationRep. -/
namespace Go.Proofs.YtgabmemalaklbaaGreat
set_option linter.unusedVariables false
set_option linter.unusedSimpArgs false
open Go.RowKit

set_option maxHeartbeats 6400000 in
set_option maxRecDepth 100000 in
theorem specFiltrationRep_any (p : Int) (u : Value) (q : Filt) (w0 : World) (hp : I64 p) (hu : FiR w0 w0.heap.size u q) :
    Calls Tryz.prog 7 #[.int .i64 p, u] w0 fun e w' => ∃ r, e = .returned (.tuple #[r, .bool (frP p q).2]) ∧ RpR w' w'.heap.size r (frP p q).1 ∧ Below w0.heap.size w0 w' := by
  have hu' := hu
  obtain ⟨A, c, C, d, rfl, hf, hT, hr, lf, lt⟩ := hu.open_
  clear hu hf hT
  obtain ⟨W, hW⟩ : ∃ W, W = (w0.alloc (.cells #[.int .i64 q.stages, .slice A q.birth.length c, .slice C q.ends.length d] 27)).alloc (.cells #[.int .i64 0, .int .i64 0, .slice none 0 0, .slice none 0 0, .slice none 0 0, .slice none 0 0] 34) := ⟨_, rfl⟩
  have g0 : Below w0.heap.size w0 W := by rw [hW]; exact ((Below.refl _ _).alloc (Nat.le_refl _) _).alloc (by simp) _
  have k1 : Blk W w0.heap.size 27 #[.int .i64 q.stages, .slice A q.birth.length c, .slice C q.ends.length d] := by rw [hW]; exact (Blk.new _ _ _).alloc _
  have k2 : Blk W (w0.heap.size + 1) 34 #[.int .i64 0, .int .i64 0, .slice none 0 0, .slice none 0 0, .slice none 0 0, .slice none 0 0] := by
    rw [hW]
    have := Blk.new (w0.alloc (.cells #[.int .i64 q.stages, .slice A q.birth.length c, .slice C q.ends.length d] 27)) 34 #[.int .i64 0, .int .i64 0, .slice none 0 0, .slice none 0 0, .slice none 0 0, .slice none 0 0]
    simpa only [World.size_alloc] using this
  have sz : W.heap.size = w0.heap.size + 1 + 1 := by rw [hW]; simp
  have SZ := Lib.hid sz
  have HFI := Lib.hid (FiR.next g0 hu')
  have c0 := k1.cell' (i := 0) rfl
  have c1 := k1.cell' (i := 1) rfl
  have c2 := k1.cell' (i := 2) rfl
  clear hu' sz
  rcases h1 : isFld p with _ | _
  · have HE := Lib.hid (frP_no (p := p) (q := q) (by rw [frOk, h1]; rfl))
    have H1 := Lib.hid h1
    have GW := Lib.hid (Below.refl W.heap.size W)
    clear h1
    go_enter Tryz.func7, Tryz.ntmps7
    go_wp2_with fail
    rw [← hW]; clear hW
    refine (specIsField_any _ _).mono ?_; rintro e w3 ⟨rfl, hww⟩
    replace hww := hww.symm
    subst hww
    rw [H1.out]
    have kz := k2.call GW.out
    have fr := kz.frozen
    have s0 := kz.cell' (i := 0) rfl
    have s1 := kz.cell' (i := 1) rfl
    have s2 := kz.cell' (i := 2) rfl
    have s3 := kz.cell' (i := 3) rfl
    have s4 := kz.cell' (i := 4) rfl
    have s5 := kz.cell' (i := 5) rfl
    have gf := g0.trans (GW.out.mono g0.size)
    have GF := Lib.hid gf
    clear kz gf
    go_wp2
    have gf := GF.out
    have hE := HE.out
    exact bodyPost_ret (v := .tuple #[.agg #[.int .i64 0, .int .i64 0, .slice none 0 0, .slice none 0 0, .slice none 0 0, .slice none 0 0], .bool false]) (by simp [results, go_sem, s0, s1, s2, s3, s4, s5]) rfl ⟨_, by rw [hE], by rw [hE]; exact (RepO.zero _ 0 0).rd, (((((gf.setCell (by simp) _).setCell (by simp) _).setCell (by simp) _).setCell (by simp) _).setCell (by simp) _).setCell (by simp) _⟩
  rcases h2 : isF q with _ | _
  · have HE := Lib.hid (frP_no (p := p) (q := q) (by rw [frOk, h1, h2]; rfl))
    have H1 := Lib.hid h1
    have H2 := Lib.hid h2
    clear h1 h2
    go_enter Tryz.func7, Tryz.ntmps7
    go_wp2_with fail
    rw [← hW]; clear hW
    refine (specIsField_any _ _).mono ?_; rintro e w3 ⟨rfl, hww⟩
    replace hww := hww.symm
    subst hww
    rw [H1.out]
    go_wp2_with fail
    refine (specIsFiltration_any _ q _ HFI.out).mono ?_; rintro e w3 ⟨rfl, hb3⟩
    rw [H2.out]
    have GW := Lib.hid hb3
    clear hb3 c0 c1 c2
    have kz := k2.call GW.out
    have fr := kz.frozen
    have s0 := kz.cell' (i := 0) rfl
    have s1 := kz.cell' (i := 1) rfl
    have s2 := kz.cell' (i := 2) rfl
    have s3 := kz.cell' (i := 3) rfl
    have s4 := kz.cell' (i := 4) rfl
    have s5 := kz.cell' (i := 5) rfl
    have gf := g0.trans (GW.out.mono g0.size)
    have GF := Lib.hid gf
    clear kz gf
    go_wp2
    have gf := GF.out
    have hE := HE.out
    exact bodyPost_ret (v := .tuple #[.agg #[.int .i64 0, .int .i64 0, .slice none 0 0, .slice none 0 0, .slice none 0 0, .slice none 0 0], .bool false]) (by simp [results, go_sem, s0, s1, s2, s3, s4, s5]) rfl ⟨_, by rw [hE], by rw [hE]; exact (RepO.zero _ 0 0).rd, (((((gf.setCell (by simp) _).setCell (by simp) _).setCell (by simp) _).setCell (by simp) _).setCell (by simp) _).setCell (by simp) _⟩
  have hok : frOk p q = true := by rw [frOk, h1, h2]; rfl
  obtain ⟨hl1, hl2, hl3, hl4, hl5⟩ := isF_lens h2
  have hS : inR q.stages 1 5 = true := inR_t.2 ⟨hl4, hl5⟩
  obtain ⟨ll1, ll2, ll3⟩ := line_len hS
  obtain ⟨S, hSS⟩ : ∃ S, q.stages.toNat = S := ⟨_, rfl⟩
  have hSv : q.stages = (S : Int) := by omega
  have H1 := Lib.hid h1
  have H2 := Lib.hid h2
  have HOK := Lib.hid hok
  have HS := Lib.hid hS
  have HSV := Lib.hid hSv
  have HSS := Lib.hid hSS
  have HLEN := Lib.hid (show (lineQ q.stages).f.length + 1 = S from by rw [← hSS]; exact ll1)
  have HLT := Lib.hid ll2
  have HLV := Lib.hid ll3
  have hS5 : S ≤ 5 := by omega
  have hS1 : 1 ≤ S := by omega
  clear h1 h2 hok hS ll1 ll2 ll3 hSS hSv
  go_enter Tryz.func7, Tryz.ntmps7
  go_wp2_with fail
  rw [← hW]; clear hW
  refine (specIsField_any _ _).mono ?_; rintro e w3 ⟨rfl, hww⟩
  replace hww := hww.symm
  subst hww
  rw [H1.out]
  go_wp2_with fail
  refine (specIsFiltration_any _ q _ HFI.out).mono ?_; rintro e wf ⟨rfl, hbf⟩
  rw [H2.out]
  have kf := k1.call hbf
  clear c0 c1 c2
  have c0 := kf.cell' (i := 0) rfl
  go_wp2_with fail
  refine (specLineOf_any q.stages _ hr).mono ?_; rintro e w1 ⟨v1, rfl, hL, hb1⟩
  obtain ⟨QA, qa, QB, qb, ev⟩ := hL.form
  rw [HLT.out, HLV.out] at ev
  obtain ⟨n, hn⟩ : ∃ n, (lineQ q.stages).f.length = n := ⟨_, rfl⟩
  rw [hn] at ev
  have hnS : n + 1 = S := by rw [← hn]; exact HLEN.out
  have HN := Lib.hid hn
  subst ev
  obtain ⟨W2, hW2⟩ : ∃ u, w1.alloc (.cells #[.int .i64 q.stages, .slice QA n qa, .slice QB n qb] 31) = u := ⟨_, rfl⟩
  have ga : Below w1.heap.size w1 W2 := by rw [← hW2]; exact below_alloc _ _
  have kq : Blk W2 w1.heap.size 31 #[.int .i64 q.stages, .slice QA n qa, .slice QB n qb] := by rw [← hW2]; exact Blk.new _ _ _
  have gW2 := (bthen hbf hb1).trans (ga.mono (bthen hbf hb1).size)
  have HL := Lib.hid (hL.below ga).rd
  have G2 := Lib.hid gW2
  have HNS := Lib.hid hnS
  have hnS1 : n + 1 ≤ S := Nat.le_of_eq hnS
  have hnS2 : S ≤ n + 1 := Nat.le_of_eq hnS.symm
  have k12 := k1.call gW2
  clear c0 kf hbf hb1 ga hL gW2 hn hnS
  have c0 := k12.cell' (i := 0) rfl
  have lq := kq.lt
  rw [HSV.out] at c0
  obtain ⟨X0, hX0⟩ : ∃ z, W2.alloc (.cells #[] 3) = z := ⟨_, rfl⟩
  have bX0 : Below W2.heap.size W2 X0 := by rw [← hX0]; exact below_alloc _ _
  have oX0 : OwnI X0 W2.heap.size (.slice (some ⟨W2.heap.size, 0, none⟩) 0 0) [] := by rw [← hX0]; exact OwnI.made 3 rfl (Nat.le_refl _)
  obtain ⟨g2, hg2⟩ : ∃ z, W2.heap.size = z := ⟨_, rfl⟩
  rw [hg2] at oX0
  clear c0
  go_wp2
  clear hW2 hX0
  go_loopw [8, 9] (fun out i wr => ∃ (t : Nat), t ≤ S ∧ i = .int .i64 t ∧ OwnI wr g2 out (rowF t fun t => ((rtQ q t).length : Int)) ∧ Below W2.heap.size W2 wr) (fun _ i _ => S - (intOf i).toNat)
  case atStart => exact ⟨0, Nat.zero_le _, rfl, by first | (simpa [rowF] using oX0) | (rw [hg2]; simpa [rowF] using oX0) | (have := oX0; simp only [rowF, List.range_zero, List.map_nil]; rw [hg2]; exact this), bX0⟩
  case round =>
    clear oX0 bX0
    obtain ⟨t, ht, rfl, ho, hb⟩ := hrel
    rw [← hg2] at ho
    have hbs := hb.size
    have gWr := G2.out.trans (hb.mono G2.out.size)
    have kr := k1.call gWr
    have c0 := kr.cell' (i := 0) rfl
    have c1 := kr.cell' (i := 1) rfl
    have c2 := kr.cell' (i := 2) rfl
    by_cases htS : t < S
    · have htS' : (t : Int) < q.stages := by have := HSV.out; omega
      obtain ⟨OA, oc, eo, _, _⟩ := ho.form
      rw [rowF_length] at eo
      subst eo
      have HO := Lib.hid ho
      have HB := Lib.hid hb
      have HF := Lib.hid (FiR.next gWr HFI.out)
      have HG2 := Lib.hid hg2
      clear ho hb kr gWr hg2
      go_wp2_with fail
      refine (specCountComponents_any _ q t _ HF.out (by unfold I64; omega)).mono ?_; rintro e w3 ⟨rfl, hb3⟩
      rw [cnt_rt H2.out (t := t) (by have := HSV.out; omega)]
      have hcl := rtQ_le q t
      have ho3 := HO.out.below hb3
      have hB3 := HB.out.trans (hb3.mono hbs)
      have s3 := hb3.size
      obtain ⟨cn, hcn⟩ : ∃ z, (rtQ q t).length = z := ⟨_, rfl⟩
      rw [hcn] at hcl ⊢
      have HCN := Lib.hid hcn
      have HO3 := Lib.hid ho3
      have HB3 := Lib.hid hB3
      have hlo3 := ho3.lt
      clear c0 c1 c2 ho3 hB3 hb3 hcn
      (go_wp2_with (at_builtin; refine Hold.stop ?_)); unfold Hold
      obtain ⟨X, hX⟩ : ∃ X, X = w3.alloc (.cells #[.int .i64 (cn : Int)] 3) := ⟨_, rfl⟩
      have gn : Below w3.heap.size w3 X := by rw [hX]; exact below_alloc _ _
      have h1x : SlI X X.heap.size (.slice (some ⟨w3.heap.size, 0, none⟩) 1 1) [(cn : Int)] := by rw [hX]; exact SlI.one _ _ _ (by simp only [I64]; omega)
      have ho3 := (HO3.out).below gn
      have gns := gn.size
      rw [← hX]
      clear hX
      refine wpList_appI rfl (.tmp 39) (.tmp 43) rfl W2.heap.size X.heap.size _ _ rfl ho3 _ 1 1 [(cn : Int)] rfl rfl h1x (by simp [rowF_length]; omega) (by omega) ?_
      intro v' w' h1 h2 h3
      have hrow : rowF (t + 1) (fun t => ((rtQ q t).length : Int)) = rowF t (fun t => ((rtQ q t).length : Int)) ++ [(cn : Int)] := by
        rw [← HCN.out]; simp [rowF, List.range_succ]
      rw [← hrow] at h1
      have hbX := below_grown h2 (B := W2.heap.size) (fun k hk => (hlo3 k hk).1) (by omega)
      have H1' := Lib.hid h1
      have G1 := Lib.hid ((HB3.out).trans ((gn.mono (by omega)).trans hbX))
      clear h1 h2 h3 hbX gn ho3 h1x hrow hlo3 htS'
      go_wp2
      go_roundw
      case rel => exact ⟨t + 1, by omega, by go_num, by rw [← HG2.out]; exact H1'.out, G1.out⟩
      case measure => simp [intOf]; omega
    · obtain rfl : t = S := by omega
      have htS' : ¬ (t : Int) < q.stages := by have := HSV.out; omega
      obtain ⟨DA, dc, ed, _, _⟩ := ho.form
      rw [rowF_length] at ed
      subst ed
      obtain ⟨w5, hw5⟩ : ∃ z, z = wr := ⟨_, rfl⟩
      subst hw5
      have hfr : frD q = rowF t fun t => ((rtQ q t).length : Int) := by rw [frD, HSS.out]
      have HD := Lib.hid (show SlI w5 w5.heap.size (.slice DA t dc) (frD q) by rw [hfr]; exact ho.rd)
      have kq5 := kq.call hb
      have q0 := kq5.cell' (i := 0) rfl
      have q1 := kq5.cell' (i := 1) rfl
      have q2 := kq5.cell' (i := 2) rfl
      have HLr := Lib.hid (QvR.next hb HL.out)
      have GW5 := Lib.hid (G2.out.trans (hb.mono G2.out.size))
      clear ho hb hfr hg2
      go_wp2_with fail
      clear htS' c0 c1 c2
      refine (specAreDims_any _ _ (lineQ q.stages) (frD q) _ HLr.out HD.out).mono ?_; rintro e w6 ⟨rfl, hb6⟩
      have GW6 := Lib.hid (GW5.out.trans (hb6.mono GW5.out.size))
      rcases hA : areDims (lineQ q.stages) (frD q) with _ | _
      · have HE := Lib.hid (frP_big (p := p) hA)
        clear hA hb6 q0 q1 q2
        have kz := k2.call GW6.out
        have fr := kz.frozen
        have s0 := kz.cell' (i := 0) rfl
        have s1 := kz.cell' (i := 1) rfl
        have s2 := kz.cell' (i := 2) rfl
        have s3 := kz.cell' (i := 3) rfl
        have s4 := kz.cell' (i := 4) rfl
        have s5 := kz.cell' (i := 5) rfl
        have gf := g0.trans (GW6.out.mono g0.size)
        have GF := Lib.hid gf
        clear kz gf
        go_wp2
        have gf := GF.out
        have hE := HE.out
        exact bodyPost_ret (v := .tuple #[.agg #[.int .i64 0, .int .i64 0, .slice none 0 0, .slice none 0 0, .slice none 0 0, .slice none 0 0], .bool false]) (by simp [results, go_sem, s0, s1, s2, s3, s4, s5]) rfl ⟨_, by rw [hE], by rw [hE]; exact (RepO.zero _ 0 0).rd, (((((gf.setCell (by simp) _).setCell (by simp) _).setCell (by simp) _).setCell (by simp) _).setCell (by simp) _).setCell (by simp) _⟩
      · have HE := Lib.hid (frP_yes HOK.out hA)
        have HA := Lib.hid hA
        have kq6 := kq5.call hb6
        clear q0 q1 q2
        have q0 := kq6.cell' (i := 0) rfl
        have q1 := kq6.cell' (i := 1) rfl
        have q2 := kq6.cell' (i := 2) rfl
        have HL6 := Lib.hid (QvR.next hb6 HLr.out)
        have HD6 := Lib.hid (SlI.next hb6 HD.out)
        clear hA hb6 kq5
        go_wp2_with fail
        refine (l8Zero_any p _ _ (lineQ q.stages) (frD q) _ hp HL6.out HD6.out HA.out).mono ?_; rintro e w7 ⟨v7, rfl, hO7, hb7⟩
        obtain ⟨QA, qa, QB, qb, DA, dc, HM, hm, ev⟩ := hO7.rd.form
        have e1 : (zRep p (lineQ q.stages) (frD q)).q.f.length = n := HN.out
        have e2 : (zRep p (lineQ q.stages) (frD q)).q.t.length = n := HLT.out.trans HN.out
        have e3 : (zRep p (lineQ q.stages) (frD q)).d.length = t := by rw [← HSS.out]; exact rowF_length _ _
        have e4 : (zRep p (lineQ q.stages) (frD q)).m.length = n := by rw [zRep, zms_F, msF_length]; exact HN.out
        have e5 : (zRep p (lineQ q.stages) (frD q)).q.v = q.stages := HLV.out
        have e6 : (zRep p (lineQ q.stages) (frD q)).p = p := rfl
        rw [e1, e2, e3, e4, e5, e6] at ev
        subst ev
        have hz : zRep p (lineQ q.stages) (frD q) = ⟨p, lineQ q.stages, frD q, msF n (frS q 0 (frI q 0 0 0))⟩ := by
          rw [zRep, frZ HS.out (g := frI q 0 0 0) (frI_0 q 0), HN.out]
        rw [hz] at hO7
        obtain ⟨W8, hW8⟩ : ∃ z, w7.alloc (.cells #[.int .i64 p, .int .i64 q.stages, .slice QA n qa, .slice QB n qb, .slice DA t dc, .slice HM n hm] 34) = z := ⟨_, rfl⟩
        have ga : Below w7.heap.size w7 W8 := by rw [← hW8]; exact below_alloc _ _
        have kO : Blk W8 w7.heap.size 34 #[.int .i64 p, .int .i64 q.stages, .slice QA n qa, .slice QB n qb, .slice DA t dc, .slice HM n hm] := by rw [← hW8]; exact Blk.new _ _ _
        have hO8 := hO7.below ga
        have hb68 := bthen hb7 ga
        have lO := kO.lt
        have s7 := hb7.size
        clear e1 e2 e3 e4 e5 e6 hz hO7 hb7 ga q0 q1 q2 kq6
        go_wp2
        clear hW8
        go_loopw [11] (fun i wr => ∃ k : Nat, k ≤ n ∧ i = .int .i64 k ∧ Below w6.heap.size w6 wr ∧ Blk wr w7.heap.size 34 #[.int .i64 p, .int .i64 q.stages, .slice QA n qa, .slice QB n qb, .slice DA t dc, .slice HM n hm] ∧ RepI wr w6.heap.size w7.heap.size (.agg #[.int .i64 p, .int .i64 q.stages, .slice QA n qa, .slice QB n qb, .slice DA t dc, .slice HM n hm]) ⟨p, lineQ q.stages, frD q, msF n (frS q k (frI q k 0 0))⟩ ∧ w7.heap.size < wr.heap.size) (fun i _ => n - (intOf i).toNat)
        case atStart => exact ⟨0, Nat.zero_le _, rfl, hb68, kO, hO8, lO⟩
        case round =>
          clear hb68 kO hO8 lO
          obtain ⟨k, hk, rfl, hb, hB, hO, hl⟩ := hrel
          have hbs := hb.size
          have gWr := GW6.out.trans (hb.mono GW6.out.size)
          have kr := k1.call gWr
          have c0 := kr.cell' (i := 0) rfl
          by_cases hkn : k < n
          · have hkS : (k : Int) + 1 < q.stages := by have := HSV.out; omega
            have c1 := kr.cell' (i := 1) rfl
            have c2 := kr.cell' (i := 2) rfl
            have HF := Lib.hid (FiR.next gWr HFI.out)
            have HB := Lib.hid hB
            have HO := Lib.hid hO
            have Hb := Lib.hid hb
            clear hB hO hb
            go_wp2_with fail
            clear c0 c1 c2 hkS
            refine (specComponentsAt_any _ q k _ HF.out (by unfold I64; omega)).mono ?_; rintro e wa ⟨va, rfl, hCa, hba⟩
            rw [comps_rt H2.out (by omega) (by have := HSV.out; omega)] at hCa
            obtain ⟨A1, a1, ea⟩ := hCa.form
            subst ea
            have HCa := Lib.hid hCa.rd
            clear hCa
            go_wp2_with fail
            refine (l24Roots_any _ (compQ q (k : Int)) _ HCa.out).mono ?_; rintro e wb ⟨vb, rfl, hRa, hbb⟩
            obtain ⟨AL, ac, eb⟩ := hRa.form
            obtain ⟨Cc, hC⟩ : ∃ C, (rtQ q k).length = C := ⟨_, rfl⟩
            rw [show (rootsC (compQ q (k : Int))).length = Cc from hC] at eb
            subst eb
            have hab := bthen hba hbb
            have hwab := hba.size
            have kb := kr.call hab
            have c0 := kb.cell' (i := 0) rfl
            have c1 := kb.cell' (i := 1) rfl
            have c2 := kb.cell' (i := 2) rfl
            have HFb := Lib.hid (FiR.next hab HF.out)
            have HRa := Lib.hid (show IntsO wb wa.heap.size wb.heap.size (.slice AL Cc ac) (rtQ q k) from hRa)
            have hab1 := hab.size
            have hbb1 := hbb.size
            have Hab := Lib.hid hab
            have HC := Lib.hid hC
            clear hRa hba hbb hC kr HCa
            go_wp2_with fail
            clear c0 c1 c2
            refine (specComponentsAt_any _ q ((k : Int) + 1) _ HFb.out (by unfold I64; omega)).mono ?_; rintro e wc ⟨vc, rfl, hNx, hbc⟩
            rw [comps_rt H2.out (t := (k : Int) + 1) (by omega) (by have := HSV.out; omega)] at hNx
            obtain ⟨NL, nc, en⟩ := hNx.form
            rw [compQ_length] at en
            subst en
            have HNx := Lib.hid hNx
            have HNr := Lib.hid hNx.rd
            have hbc1 := hbc.size
            have HRc := Lib.hid (HRa.out.below hbc)
            have Hac := Lib.hid (Hab.out.trans (hbc.mono hab1))
            clear hNx hbc
            go_wp2_with fail
            refine (l24Roots_any _ (compQ q ((k : Int) + 1)) _ HNr.out).mono ?_; rintro e wd ⟨vd, rfl, hRb, hbd⟩
            rw [← rtQ_next] at hRb
            obtain ⟨BL, bc, ed⟩ := hRb.form
            obtain ⟨R, hR⟩ : ∃ R, (rtQ q (k + 1)).length = R := ⟨_, rfl⟩
            rw [hR] at ed
            subst ed
            have HRb := Lib.hid hRb
            have HR := Lib.hid hR
            have hbd1 := hbd.size
            have HRd := Lib.hid (HRc.out.below hbd)
            have HNd := Lib.hid (HNx.out.below hbd)
            have Had := Lib.hid (Hac.out.trans (hbd.mono (by omega)))
            have HOd := Lib.hid (HO.out.below Had.out)
            have HBd := Lib.hid (HB.out.call Had.out)
            have Hbd := Lib.hid (Hb.out.trans (Had.out.mono hbs))
            have hC4 := rtQ_le q k
            have hR4 := rtQ_le q (k + 1)
            rw [HC.out] at hC4
            rw [hR] at hR4
            obtain ⟨Lk, hLk⟩ : ∃ z, R * Cc = z := ⟨_, rfl⟩
            have HLk := Lib.hid hLk
            clear hRb hbd hR hLk kb
            go_wp2
            go_loopw [15] (fun i wr => ∃ ja : Nat, ja ≤ Cc ∧ i = .int .i64 ja ∧ Below w6.heap.size w6 wr ∧ Chg w6.heap.size w7.heap.size wd wr ∧ RepI wr w6.heap.size w7.heap.size (.agg #[.int .i64 p, .int .i64 q.stages, .slice QA n qa, .slice QB n qb, .slice DA t dc, .slice HM n hm]) ⟨p, lineQ q.stages, frD q, msF n (frS q k (frI q k ja 0))⟩) (fun i _ => Cc - (intOf i).toNat)
            case atStart => exact ⟨0, Nat.zero_le _, rfl, Hbd.out, Chg.refl _ _ _, HOd.out⟩
            case round =>
              clear Hbd HOd
              obtain ⟨ja, hja, rfl, hb, hch, hO⟩ := hrel
              have hcs := hch.size
              by_cases hjC : ja < Cc
              · obtain ⟨pt, r, hx, hpl, hnx, hrr, hfi, hfr⟩ := fr_row H2.out (t := k) (i := ja) (by rw [HC.out]; exact hjC)
                obtain ⟨nx, hnxe⟩ : ∃ z, nxQ q k ja = z := ⟨_, rfl⟩
                rw [hnxe] at hnx
                have HX := Lib.hid hx
                have HNX := Lib.hid hnx
                have HNE := Lib.hid hnxe
                have HJC := Lib.hid hjC
                have HO1 := Lib.hid hO
                have Hb1 := Lib.hid hb
                have HCH1 := Lib.hid hch
                obtain ⟨we, hwe⟩ : ∃ z, z = wr := ⟨_, rfl⟩
                subst hwe
                clear hx hnx hnxe hrr hfi hfr hO hb hch
                go_wp2
                go_loopw [16] (fun i wr => ∃ jb : Nat, jb ≤ R ∧ i = .int .i64 jb ∧ Below w6.heap.size w6 wr ∧ Chg w6.heap.size w7.heap.size wd wr ∧ RepI wr w6.heap.size w7.heap.size (.agg #[.int .i64 p, .int .i64 q.stages, .slice QA n qa, .slice QB n qb, .slice DA t dc, .slice HM n hm]) ⟨p, lineQ q.stages, frD q, msF n (frS q k (frI q k ja jb))⟩) (fun i _ => R - (intOf i).toNat)
                case atStart => exact ⟨0, Nat.zero_le _, rfl, Hb1.out, HCH1.out, HO1.out⟩
                case round =>
                  clear Hb1 HCH1 HO1
                  obtain ⟨jb, hjb, rfl, hb, hch, hO⟩ := hrel
                  have hcs2 := hch.size
                  by_cases hjR : jb < R
                  · have hLr := HRd.out.chg hch (.inr (by omega))
                    have hNr := HNd.out.chg hch (.inr (by omega))
                    have hBr := HRb.out.chg hch (.inr (by omega))
                    obtain ⟨gL, cL, eL, _, _, _⟩ := hLr.at_ (by rw [HC.out]; omega)
                    obtain ⟨gN, cN, eN, _, _, _⟩ := hNr.at_ (by rw [compQ_length]; omega)
                    obtain ⟨gB, cB, eB, _, _, _⟩ := hBr.at_ (by rw [HR.out]; omega)
                    simp only [Value.slice.injEq] at eL eN eB
                    obtain ⟨eL, eL2, eL3⟩ := eL
                    obtain ⟨eN, eN2, eN3⟩ := eN
                    obtain ⟨eB, eB2, eB3⟩ := eB
                    clear eL2 eN2 eB2 eL3 eN3 eB3
                    subst eL
                    subst eN
                    subst eB
                    have lc := (hLr.1.cellG (j := ja) (by rw [HC.out]; exact hjC)).1
                    rw [List.getD_eq_getElem?_getD, HX.out] at lc
                    simp only [Option.getD_some] at lc
                    have ncl := (hNr.1.cellG (j := pt) (by rw [compQ_length]; exact hpl)).1
                    rw [List.getD_eq_getElem?_getD, HNX.out] at ncl
                    simp only [Option.getD_some] at ncl
                    have bcl := (hBr.1.cellG (j := jb) (by rw [HR.out]; exact hjR)).1
                    obtain ⟨bv, hbv⟩ : ∃ z, (rtQ q (k + 1)).getD jb 0 = z := ⟨_, rfl⟩
                    rw [hbv] at bcl
                    have HBV := Lib.hid hbv
                    have LC := Lib.hid lc
                    have NC := Lib.hid ncl
                    have BC := Lib.hid bcl
                    have hgl := (hLr.1.lt gL rfl).2
                    have hgn := (hNr.1.lt gN rfl).2
                    have hgb := (hBr.1.lt gB rfl).2
                    have HO1 := Lib.hid hO
                    have Hb1 := Lib.hid hb
                    have HCH1 := Lib.hid hch
                    have HB1 := Lib.hid (HBd.out.chg hch (.inr (Nat.le_refl _)))
                    have hbws := hb.size
                    obtain ⟨wg, hwg⟩ : ∃ z, z = wr := ⟨_, rfl⟩
                    subst hwg
                    clear hLr hNr hBr lc ncl bcl hbv hO hb hch
                    go_wp2
                    refine wp_region_net (by kernel_rfl) [.eq (.slice (some ⟨gN, 0, none⟩) q.birth.length nc), .eq (.slice (some ⟨gL, 0, none⟩) Cc ac), .eq (.int .i64 ja), .eq (.pointer (some ⟨gL, ja, none⟩)), .eq (.int .i64 pt), .eq (.pointer (some ⟨gN, pt, none⟩)), .eq (.int .i64 nx), .eq (.slice (some ⟨gB, 0, none⟩) R bc), .eq (.int .i64 jb), .eq (.pointer (some ⟨gB, jb, none⟩)), .eq (.int .i64 bv)] [[], [], [], [1, 2], [1, 2, 3], [0, 1, 2, 3, 4], [0, 1, 2, 3, 4, 5], [], [], [7, 8], [7, 8, 9], [0, 1, 2, 3, 4, 5, 6, 7, 8, 9, 10]] 11 (by kernel_rfl) ⟨trivial, trivial, trivial, trivial, trivial, trivial, trivial, trivial, trivial, trivial, trivial, trivial⟩ ⟨?_, ?_, ?_, ?_, ?_, ?_, ?_, ?_, ?_, ?_, ?_, trivial⟩ ?_
                    · intro x w hb hk Q' hQ
                      clear hk
                      simp only [netAct, dstAt, List.getElem?_toArray, List.getElem?_cons_zero, List.getElem?_cons_succ, Option.bind_some, Act.put, List.setIfInBounds_toArray, List.set_cons_zero, List.set_cons_succ] at hQ ⊢
                      go_wp2
                      exact hQ (.slice (some ⟨gN, 0, none⟩) q.birth.length nc) _ (Below.refl _ _) rfl
                    · intro x w hb hk Q' hQ
                      clear hk
                      simp only [netAct, dstAt, List.getElem?_toArray, List.getElem?_cons_zero, List.getElem?_cons_succ, Option.bind_some, Act.put, List.setIfInBounds_toArray, List.set_cons_zero, List.set_cons_succ] at hQ ⊢
                      go_wp2
                      exact hQ (.slice (some ⟨gL, 0, none⟩) Cc ac) _ (Below.refl _ _) rfl
                    · intro x w hb hk Q' hQ
                      clear hk
                      simp only [netAct, dstAt, List.getElem?_toArray, List.getElem?_cons_zero, List.getElem?_cons_succ, Option.bind_some, Act.put, List.setIfInBounds_toArray, List.set_cons_zero, List.set_cons_succ] at hQ ⊢
                      go_wp2
                      exact hQ (.int .i64 ja) _ (Below.refl _ _) rfl
                    · intro x w hb hk Q' hQ
                      have h1 : x.v 1 = .slice (some ⟨gL, 0, none⟩) Cc ac := (hk 1 (by decide)).1
                      have h2 : x.v 2 = .int .i64 ja := (hk 2 (by decide)).1
                      clear hk
                      simp only [netAct, dstAt, List.getElem?_toArray, List.getElem?_cons_zero, List.getElem?_cons_succ, Option.bind_some, Act.put, List.setIfInBounds_toArray, List.set_cons_zero, List.set_cons_succ] at hQ ⊢
                      simp only [h1, h2] at hQ ⊢
                      clear h1 h2
                      go_wp2
                      exact hQ (.pointer (some ⟨gL, ja, none⟩)) _ (Below.refl _ _) rfl
                    · intro x w hb hk Q' hQ
                      have h3 : x.v 3 = .pointer (some ⟨gL, ja, none⟩) := (hk 3 (by decide)).1
                      clear hk
                      simp only [netAct, dstAt, List.getElem?_toArray, List.getElem?_cons_zero, List.getElem?_cons_succ, Option.bind_some, Act.put, List.setIfInBounds_toArray, List.set_cons_zero, List.set_cons_succ] at hQ ⊢
                      simp only [h3] at hQ ⊢
                      clear h3
                      have z := bcell hb hgl LC.out
                      go_wp2
                      exact hQ (.int .i64 pt) _ (Below.refl _ _) rfl
                    · intro x w hb hk Q' hQ
                      have h0 : x.v 0 = .slice (some ⟨gN, 0, none⟩) q.birth.length nc := (hk 0 (by decide)).1
                      have h4 : x.v 4 = .int .i64 pt := (hk 4 (by decide)).1
                      clear hk
                      simp only [netAct, dstAt, List.getElem?_toArray, List.getElem?_cons_zero, List.getElem?_cons_succ, Option.bind_some, Act.put, List.setIfInBounds_toArray, List.set_cons_zero, List.set_cons_succ] at hQ ⊢
                      simp only [h0, h4] at hQ ⊢
                      clear h0 h4
                      go_wp2
                      exact hQ (.pointer (some ⟨gN, pt, none⟩)) _ (Below.refl _ _) rfl
                    · intro x w hb hk Q' hQ
                      have h5 : x.v 5 = .pointer (some ⟨gN, pt, none⟩) := (hk 5 (by decide)).1
                      clear hk
                      simp only [netAct, dstAt, List.getElem?_toArray, List.getElem?_cons_zero, List.getElem?_cons_succ, Option.bind_some, Act.put, List.setIfInBounds_toArray, List.set_cons_zero, List.set_cons_succ] at hQ ⊢
                      simp only [h5] at hQ ⊢
                      clear h5
                      have z := bcell hb hgn NC.out
                      go_wp2
                      exact hQ (.int .i64 nx) _ (Below.refl _ _) rfl
                    · intro x w hb hk Q' hQ
                      clear hk
                      simp only [netAct, dstAt, List.getElem?_toArray, List.getElem?_cons_zero, List.getElem?_cons_succ, Option.bind_some, Act.put, List.setIfInBounds_toArray, List.set_cons_zero, List.set_cons_succ] at hQ ⊢
                      go_wp2
                      exact hQ (.slice (some ⟨gB, 0, none⟩) R bc) _ (Below.refl _ _) rfl
                    · intro x w hb hk Q' hQ
                      clear hk
                      simp only [netAct, dstAt, List.getElem?_toArray, List.getElem?_cons_zero, List.getElem?_cons_succ, Option.bind_some, Act.put, List.setIfInBounds_toArray, List.set_cons_zero, List.set_cons_succ] at hQ ⊢
                      go_wp2
                      exact hQ (.int .i64 jb) _ (Below.refl _ _) rfl
                    · intro x w hb hk Q' hQ
                      have h7 : x.v 7 = .slice (some ⟨gB, 0, none⟩) R bc := (hk 7 (by decide)).1
                      have h8 : x.v 8 = .int .i64 jb := (hk 8 (by decide)).1
                      clear hk
                      simp only [netAct, dstAt, List.getElem?_toArray, List.getElem?_cons_zero, List.getElem?_cons_succ, Option.bind_some, Act.put, List.setIfInBounds_toArray, List.set_cons_zero, List.set_cons_succ] at hQ ⊢
                      simp only [h7, h8] at hQ ⊢
                      clear h7 h8
                      go_wp2
                      exact hQ (.pointer (some ⟨gB, jb, none⟩)) _ (Below.refl _ _) rfl
                    · intro x w hb hk Q' hQ
                      have h9 : x.v 9 = .pointer (some ⟨gB, jb, none⟩) := (hk 9 (by decide)).1
                      clear hk
                      simp only [netAct, dstAt, List.getElem?_toArray, List.getElem?_cons_zero, List.getElem?_cons_succ, Option.bind_some, Act.put, List.setIfInBounds_toArray, List.set_cons_zero, List.set_cons_succ] at hQ ⊢
                      simp only [h9] at hQ ⊢
                      clear h9
                      have z := bcell hb hgb BC.out
                      go_wp2
                      exact hQ (.int .i64 bv) _ (Below.refl _ _) rfl
                    · intro x w hb hk hiv hdj
                      have h0 : x.v 0 = .slice (some ⟨gN, 0, none⟩) q.birth.length nc := hk 0 (by decide)
                      have h1 : x.v 1 = .slice (some ⟨gL, 0, none⟩) Cc ac := hk 1 (by decide)
                      have h2 : x.v 2 = .int .i64 ja := hk 2 (by decide)
                      have h3 : x.v 3 = .pointer (some ⟨gL, ja, none⟩) := hk 3 (by decide)
                      have h4 : x.v 4 = .int .i64 pt := hk 4 (by decide)
                      have h5 : x.v 5 = .pointer (some ⟨gN, pt, none⟩) := hk 5 (by decide)
                      have h6 : x.v 6 = .int .i64 nx := hk 6 (by decide)
                      have h7 : x.v 7 = .slice (some ⟨gB, 0, none⟩) R bc := hk 7 (by decide)
                      have h8 : x.v 8 = .int .i64 jb := hk 8 (by decide)
                      have h9 : x.v 9 = .pointer (some ⟨gB, jb, none⟩) := hk 9 (by decide)
                      have h10 : x.v 10 = .int .i64 bv := hk 10 (by decide)
                      clear hk
                      simp only [netAct, dstAt, List.getElem?_toArray, List.getElem?_cons_zero, List.getElem?_cons_succ, Option.bind_some, Act.put, List.setIfInBounds_toArray, List.set_cons_zero, List.set_cons_succ]
                      simp only [List.drop_succ_cons, List.drop_zero, h0, h1, h2, h3, h4, h5, h6, h7, h8, h9, h10]
                      clear h0 h1 h2 h3 h4 h5 h6 h7 h8 h9 h10
                      have hbs3 := hb.size
                      have HOw := Lib.hid (HO1.out.below hb)
                      have HBw := Lib.hid (HB1.out.call hb)
                      have Hbw := Lib.hid (Hb1.out.trans (hb.mono (by omega)))
                      have HCHw := Lib.hid (HCH1.out.trans (Chg.of_below hb))
                      obtain ⟨wh, hwh⟩ : ∃ z, z = w := ⟨_, rfl⟩
                      subst hwh
                      clear hiv hdj hb
                      by_cases hnb : nx = bv
                      · have hd : (nx == bv) = true := by rw [hnb]; exact beq_self_eq_true bv
                        have hF1 : frF q k jb ja = 1 := by rw [frF, HNE.out, HBV.out, if_pos hnb]
                        obtain ⟨P, hP⟩ : ∃ P, P = jb * Cc := ⟨_, rfl⟩
                        obtain ⟨p1, p2, p3, p4, p5⟩ := ixR hjR hjC (by omega) (by omega) hP
                        clear p2
                        rw [HLk.out] at p3 p4 p5
                        have hat := frS_at q k (frI q k ja jb) hkn
                        have hput := HOw.out.putMx (i := P + ja) (z := 1) hat (by simp only [mxF]; rw [flat_length, HR.out, HC.out, HLk.out]; exact p4) (by unfold I64; omega)
                        obtain ⟨g, cg, gr, cr, eg, _, z2, ⟨u0, z3⟩, z4, hcg, hcr, ⟨hgr1, hgr2⟩, _, hnew⟩ := hput
                        simp only [mxF] at z2 hcr hnew
                        rw [flat_length, HR.out, HC.out, HLk.out] at z2 hcr
                        simp only [Value.slice.injEq] at eg
                        rw [msF_length] at eg hcg
                        obtain ⟨eg1, el, eg2⟩ := eg
                        clear el
                        subst eg1
                        subst eg2
                        have hst := frS_set q k n (frI q k ja jb) (g' := frI q k ja (jb + 1)) (l := (flat (rtQ q (k + 1)).length (rtQ q k).length (frI q k ja jb)).set (P + ja) 1) (by
                          rw [hP, ← HC.out]
                          exact frI_put (by rw [HC.out]; exact hjC) (by rw [HR.out]; exact hjR) hF1)
                        rw [hst] at hnew
                        have o5 := HBw.out.cell' (i := 5) rfl
                        obtain ⟨W14, hW14⟩ : ∃ u, wh.setCell ⟨gr, P + ja, none⟩ (.int .i64 1) = u := ⟨_, rfl⟩
                        rw [hW14] at hnew
                        have hch3 : Chg gr (gr + 1) wh W14 := by rw [← hW14]; exact chg_set1 _ _ _ _
                        have HREP := Lib.hid hnew
                        have hb14 := Lib.hid (Hbw.out.trans (hch3.below (B := w6.heap.size) hgr1 (by omega)))
                        have HCH14 := Lib.hid (HCHw.out.trans (hch3.wider hgr1 (by omega)))
                        clear hnew hch3 hst hat hF1 hnb hP
                        go_wp2
                        clear hW14 z3 z4 z2 o5 p1
                        refine ⟨⟨jb + 1, by omega, by go_num, hb14.out, HCH14.out, HREP.out⟩, ?_⟩
                        simp [intOf]; omega
                      · have hd : (nx == bv) = false := by rw [beq_eq_false_iff_ne]; exact hnb
                        have hF0 : frF q k jb ja = 0 := by rw [frF, HNE.out, HBV.out, if_neg hnb]
                        have hst := Lib.hid (frS_congr q k n (frI_no (q := q) (t := k) (a := ja) (b := jb) (R := (rtQ q (k + 1)).length) (C := (rtQ q k).length) hF0))
                        clear hF0 hnb
                        go_wp2
                        refine ⟨⟨jb + 1, by omega, by go_num, Hbw.out, HCHw.out, by rw [← hst.out]; exact HOw.out⟩, ?_⟩
                        simp [intOf]; omega
                  · obtain rfl : jb = R := by omega
                    have hst := frS_congr q k n (g := frI q k ja jb) (g' := frI q k (ja + 1) 0) (by
                      have := frI_next q k ja (rtQ q (k + 1)).length (rtQ q k).length
                      rwa [HR.out] at this ⊢)
                    rw [hst] at hO
                    have HO1 := Lib.hid hO
                    have Hb1 := Lib.hid hb
                    have HCH1 := Lib.hid hch
                    have hjC := HJC.out
                    clear hO hb hch hst
                    go_wp2
                    go_roundw
                    case rel => exact ⟨ja + 1, by omega, by go_num, Hb1.out, HCH1.out, HO1.out⟩
                    case measure => simp [intOf]; omega
              · obtain rfl : ja = Cc := by omega
                have hnext := frS_next q k n (g := frI q k ja 0) (g' := frI q (k + 1) 0 0) (fun a i _ hi => by rw [frI, if_pos (.inl (by have := HC.out; omega))]) (frI_0 q (k + 1))
                rw [hnext] at hO
                have HO1 := Lib.hid hO
                have Hb1 := Lib.hid hb
                have HBr := Lib.hid (HBd.out.chg hch (.inr (Nat.le_refl _)))
                have hl' : w7.heap.size < wr.heap.size := by omega
                clear hO hb hch hnext
                go_wp2
                go_roundw
                case rel => exact ⟨k + 1, by omega, by go_num, Hb1.out, HBr.out, HO1.out, hl'⟩
                case measure => simp [intOf]; omega
          · obtain rfl : k = n := by omega
            have hkS : ¬ (k : Int) + 1 < q.stages := by have := HSV.out; omega
            have hw6 := GW6.out.size
            have kz := k2.call gWr
            have fr := kz.frozen
            have s0 := kz.cell' (i := 0) rfl
            have s1 := kz.cell' (i := 1) rfl
            have s2 := kz.cell' (i := 2) rfl
            have s3 := kz.cell' (i := 3) rfl
            have s4 := kz.cell' (i := 4) rfl
            have s5 := kz.cell' (i := 5) rfl
            have r0 := hB.cell' (i := 0) rfl
            have r1 := hB.cell' (i := 1) rfl
            have r2 := hB.cell' (i := 2) rfl
            have r3 := hB.cell' (i := 3) rfl
            have r4 := hB.cell' (i := 4) rfl
            have r5 := hB.cell' (i := 5) rfl
            have gf := g0.trans (gWr.mono g0.size)
            have hc6 := chg6 wr (w0.heap.size + 1) (.int .i64 p) (.int .i64 q.stages) (.slice QA k qa) (.slice QB k qb) (.slice DA t dc) (.slice HM k hm)
            have OF := Lib.hid ((hO.chg hc6 (.inr (by have := SZ.out; omega))).rd)
            have GF := Lib.hid (gf.trans (hc6.below (by omega) gf.size))
            have HRS := Lib.hid (frS_end q k (frI q k 0 0))
            clear hO hB kz gf hc6 hb gWr kr
            go_wp2
            have hE := HE.out
            exact bodyPost_ret (v := .tuple #[.agg #[.int .i64 p, .int .i64 q.stages, .slice QA k qa, .slice QB k qb, .slice DA t dc, .slice HM k hm], .bool true]) (by simp [results, go_sem, s0, s1, s2, s3, s4, s5]) rfl ⟨_, by rw [hE], by rw [hE, frR, HN.out, ← HRS.out]; exact OF.out, GF.out⟩
end Go.Proofs.YtgabmemalaklbaaGreat

/- slices.BinarySearchFunc at bars. -/
namespace Go.Proofs.YtgabmemalaklbaaGreat
set_option linter.unusedVariables false
set_option linter.unusedSimpArgs false
open Go.RowKit

/-- how many bars of l come before b; whether b is there -/
def bsK (l : List Bar) (b : Bar) : Nat := (l.takeWhile fun x => decide (cmpB x b < 0)).length
def bsBF (l : List Bar) (b : Bar) : Bool := match l[bsK l b]? with
  | some x => decide (cmpB x b = 0)
  | none => false
theorem bsK_eq {b : Bar} : ∀ {l : List Bar} {k : Nat}, k ≤ l.length → (∀ (t : Nat) (x : Bar), t < k → l[t]? = some x → cmpB x b < 0) → (∀ x, l[k]? = some x → ¬ cmpB x b < 0) → bsK l b = k
  | [], k, hk, _, _ => by simp at hk; subst hk; rfl
  | x :: r, 0, _, _, h2 => by
    have := h2 x rfl
    simp [bsK, this]
  | x :: r, k + 1, hk, h1, h2 => by
    have h0 := h1 0 x (by omega) rfl
    have ih : bsK r b = k := bsK_eq (l := r) (k := k) (by simpa using hk) (fun t y ht hy => h1 (t + 1) y (by omega) (by simpa using hy)) (fun y hy => h2 y (by simpa using hy))
    rw [bsK, List.takeWhile_cons, if_pos (by simpa using h0), List.length_cons]
    have : (r.takeWhile fun x => decide (cmpB x b < 0)).length = k := ih
    omega
theorem srt_down {l : List Bar} (hs : srtB l) {a c : Nat} {x y b : Bar} (hac : a ≤ c) (hx : l[a]? = some x) (hy : l[c]? = some y) (h : cmpB y b < 0) : cmpB x b < 0 := by
  rcases Nat.eq_or_lt_of_le hac with rfl | hlt
  · rw [hx] at hy; injection hy with hy; subst hy; exact h
  · have h1 := (List.pairwise_iff_getElem.1 hs) a c (lt_of_some hx) (lt_of_some hy) hlt
    have e1 : l[a]'(lt_of_some hx) = x := by rw [List.getElem?_eq_getElem (lt_of_some hx)] at hx; injection hx
    have e2 : l[c]'(lt_of_some hy) = y := by rw [List.getElem?_eq_getElem (lt_of_some hy)] at hy; injection hy
    rw [e1, e2] at h1
    rw [cmpB_neg] at h ⊢
    simp only [keyLt, decide_eq_true_eq] at h1
    omega
set_option maxRecDepth 100000 in
set_option maxHeartbeats 1600000 in
theorem bsearch_any (u : Value) (l : List Bar) (t1 t2 t3 : Int) (w : World) (hu : SlB w w.heap.size u l) (hs : srtB l) (hn : l.length ≤ 1000) :
    Calls Tryz.prog 72 #[u, .agg #[.int .i64 t1, .int .i64 t2, .int .i64 t3], .func (Fn.func 73) #[] #[]] w fun e w' => e = .returned (.tuple #[.int .i64 (bsK l (t1, t2, t3) : Nat), .bool (bsBF l (t1, t2, t3))]) ∧ Below w.heap.size w w' := by
  obtain ⟨A, c, rfl, hx⟩ : ∃ A c, u = .slice A l.length c ∧ SlB w w.heap.size (.slice A l.length c) l := by
    obtain ⟨A, c, e, h⟩ := hu
    exact ⟨A, c, e, A, c, rfl, h⟩
  clear hu
  obtain ⟨b, hb⟩ : ∃ b : Bar, (t1, t2, t3) = b := ⟨_, rfl⟩
  rw [hb]
  have HB := Lib.hid hb
  clear hb
  obtain ⟨W, hW⟩ : ∃ W, w.alloc (.cells #[.int .i64 t1, .int .i64 t2, .int .i64 t3] 70) = W := ⟨_, rfl⟩
  have g0 : Below w.heap.size w W := by rw [← hW]; exact below_alloc _ _
  have KB : Hid (Blk W w.heap.size 70 #[.int .i64 t1, .int .i64 t2, .int .i64 t3]) := by show Blk _ _ _ _; rw [← hW]; exact Blk.new _ _ _
  obtain ⟨K, hK⟩ : ∃ K, bsK l b = K := ⟨_, rfl⟩
  obtain ⟨F, hF⟩ : ∃ F, bsBF l b = F := ⟨_, rfl⟩
  rw [hK, hF]
  have HK := Lib.hid hK
  have HF := Lib.hid hF
  have HS := Lib.hid hs
  clear hK hF hs
  go_enter Tryz.func72, Tryz.ntmps72
  go_wp2
  clear hW
  go_loopw [9, 10] (fun i j wr => ∃ lo hi : Nat, lo ≤ hi ∧ hi ≤ l.length ∧ i = .int .i64 lo ∧ j = .int .i64 hi ∧ Below W.heap.size W wr ∧ Hid (∀ (t : Nat) (x : Bar), t < lo → l[t]? = some x → cmpB x b < 0) ∧ Hid (∀ (t : Nat) (x : Bar), hi ≤ t → l[t]? = some x → 0 ≤ cmpB x b)) (fun i j _ => (intOf j).toNat - (intOf i).toNat)
  case atStart => exact ⟨0, l.length, Nat.zero_le _, Nat.le_refl _, rfl, rfl, Below.refl _ _, fun t x ht => absurd ht (Nat.not_lt_zero _), fun t x ht hx => by have := lt_of_some hx; omega⟩
  case round =>
    obtain ⟨lo, hi, hlh, hil, rfl, rfl, hbel, hI1, hI2⟩ := hrel
    have kr := KB.out.call hbel
    have gr := bthen g0 hbel
    have k0 := InB.cell kr.lt (kr.cell' (i := 0) rfl)
    have k1 := InB.cell kr.lt (kr.cell' (i := 1) rfl)
    have k2 := InB.cell kr.lt (kr.cell' (i := 2) rfl)
    have HBE := Lib.hid hbel
    by_cases hlt : lo < hi
    · obtain ⟨M, hM⟩ : ∃ M, (lo + hi) / 2 = M := ⟨_, rfl⟩
      have hM2 : ((lo : Int) + (hi : Int)) / 2 = (M : Int) := by omega
      have hM3 : lo ≤ M := by omega
      have hM4 : M < hi := by omega
      obtain ⟨bb, o, x, y, z, rfl, hbb, HX, y1, y2, y3, _⟩ := SlB.at_ (k := M) hx (by omega)
      have hbr : bb < wr.heap.size := by have := gr.size; omega
      have d1 := InB.cell hbr (bcell gr hbb y1)
      have d2 := InB.cell hbr (bcell gr hbb y2)
      have d3 := InB.cell hbr (bcell gr hbb y3)
      have HC : Hid (∀ X, Calls Tryz.prog 73 #[.agg #[.int .i64 x, .int .i64 y, .int .i64 z], .agg #[.int .i64 t1, .int .i64 t2, .int .i64 t3]] X fun e w' => e = .returned (.int .i64 (cmpB (x, y, z) b)) ∧ Below X.heap.size X w') := fun X => by rw [← HB.out]; exact compareBars_any x y z t1 t2 t3 X
      obtain ⟨cv, hcv⟩ : ∃ cv, cmpB (x, y, z) b = cv := ⟨_, rfl⟩
      have hcr := cmpB_r (x, y, z) b
      rw [hcv] at HC hcr
      have HCV := Lib.hid hcv
      clear hM hcv y1 y2 y3 hx kr hbel
      by_cases hc0 : cv < 0
      · have hd : decide (cv < 0) = true := decide_eq_true hc0
        have HN : Hid (∀ (t : Nat) (x : Bar), t < M + 1 → l[t]? = some x → cmpB x b < 0) := fun t x' ht hx' => srt_down HS.out (show t ≤ M by omega) hx' HX.out (by rw [HCV.out]; exact hc0)
        go_wp2
        (refine wp_region_inB (by kernel_rfl) (by kernel_rfl) ?_; (repeat (go_big_quiet_step ((go_at_call 73; exact InB.call (HC.out _))))); refine wpQuiet_nil ?_; intro w1 hw'; obtain ⟨s1, hw1⟩ := hw'; have hb1 := s1.below; rw [← hw1] at hb1; clear hw1 s1)
        have HB1 := Lib.hid (HBE.out.trans (hb1.mono HBE.out.size))
        clear hb1
        go_wp2
        go_roundw
        case rel => exact ⟨M + 1, hi, by omega, hil, by go_num, rfl, HB1.out, HN, hI2⟩
        case measure => simp [intOf]; omega
      · have hd : decide (cv < 0) = false := decide_eq_false hc0
        have HN : Hid (∀ (t : Nat) (x : Bar), M ≤ t → l[t]? = some x → 0 ≤ cmpB x b) := fun t x' ht hx' => Int.not_lt.1 fun hcn => hc0 (by rw [← HCV.out]; exact srt_down HS.out ht HX.out hx' hcn)
        go_wp2
        (refine wp_region_inB (by kernel_rfl) (by kernel_rfl) ?_; (repeat (go_big_quiet_step ((go_at_call 73; exact InB.call (HC.out _))))); refine wpQuiet_nil ?_; intro w1 hw'; obtain ⟨s1, hw1⟩ := hw'; have hb1 := s1.below; rw [← hw1] at hb1; clear hw1 s1)
        have HB1 := Lib.hid (HBE.out.trans (hb1.mono HBE.out.size))
        clear hb1
        go_wp2
        go_roundw
        case rel => exact ⟨lo, M, by omega, by omega, rfl, rfl, HB1.out, hI1, HN⟩
        case measure => simp [intOf]; omega
    · have hhl : hi = lo := by omega
      subst hhl
      have HKE : Hid (K = hi) := by show _ = _; rw [← HK.out]; exact bsK_eq hil hI1.out fun x hx' => Int.not_lt.2 (hI2.out hi x (Nat.le_refl _) hx')
      by_cases hnl : hi < l.length
      · have hdn : decide ((hi : Int) < (l.length : Int)) = true := decide_eq_true (by omega)
        obtain ⟨bb, o, x, y, z, rfl, hbb, HX, y1, y2, y3, _⟩ := SlB.at_ (k := hi) hx hnl
        have hbr : bb < wr.heap.size := by have := gr.size; omega
        have d1 := InB.cell hbr (bcell gr hbb y1)
        have d2 := InB.cell hbr (bcell gr hbb y2)
        have d3 := InB.cell hbr (bcell gr hbb y3)
        have HC : Hid (∀ X, Calls Tryz.prog 73 #[.agg #[.int .i64 x, .int .i64 y, .int .i64 z], .agg #[.int .i64 t1, .int .i64 t2, .int .i64 t3]] X fun e w' => e = .returned (.int .i64 (cmpB (x, y, z) b)) ∧ Below X.heap.size X w') := fun X => by rw [← HB.out]; exact compareBars_any x y z t1 t2 t3 X
        have HFE : Hid (F = decide (cmpB (x, y, z) b = 0)) := by
          show _ = _
          rw [← HF.out, bsBF, HK.out, HKE.out, HX.out]
        obtain ⟨cv, hcv⟩ : ∃ cv, cmpB (x, y, z) b = cv := ⟨_, rfl⟩
        rw [hcv] at HC HFE
        clear hcv y1 y2 y3 hx kr hbel
        rcases hc0 : cv == 0 with _ | _
        · have HFF : Hid (F = false) := by show _ = _; rw [HFE.out]; exact decide_eq_false (by simpa using hc0)
          go_wp2
          (refine wp_region_inB (by kernel_rfl) (by kernel_rfl) ?_; (repeat (go_big_quiet_step ((go_at_call 73; exact InB.call (HC.out _))))); refine wpQuiet_nil ?_; intro w1 hw'; obtain ⟨s1, hw1⟩ := hw'; have hb1 := s1.below; rw [← hw1] at hb1; clear hw1 s1)
          go_wp2
          go_ret2
          exact ⟨by rw [HFF.out, HKE.out]; rfl, bthen gr hb1⟩
        · have HFF : Hid (F = true) := by show _ = _; rw [HFE.out]; exact decide_eq_true (by simpa using hc0)
          go_wp2
          (refine wp_region_inB (by kernel_rfl) (by kernel_rfl) ?_; (repeat (go_big_quiet_step ((go_at_call 73; exact InB.call (HC.out _))))); refine wpQuiet_nil ?_; intro w1 hw'; obtain ⟨s1, hw1⟩ := hw'; have hb1 := s1.below; rw [← hw1] at hb1; clear hw1 s1)
          go_wp2
          go_ret2
          exact ⟨by rw [HFF.out, HKE.out]; rfl, bthen gr hb1⟩
      · have hdn : decide ((hi : Int) < (l.length : Int)) = false := decide_eq_false (by omega)
        have HFF : Hid (F = false) := by
          show _ = _
          rw [← HF.out, bsBF, HK.out, HKE.out, List.getElem?_eq_none (by omega)]
        clear kr hbel
        go_wp2
        (refine wp_region_inB (by kernel_rfl) (by kernel_rfl) ?_; (repeat (go_big_quiet_step ((go_at_call 73; fail)))); refine wpQuiet_nil ?_; intro w1 hw'; obtain ⟨s1, hw1⟩ := hw'; have hb1 := s1.below; rw [← hw1] at hb1; clear hw1 s1)
        go_wp2
        go_ret2
        exact ⟨by rw [HFF.out, HKE.out]; rfl, bthen gr hb1⟩
end Go.Proofs.YtgabmemalaklbaaGreat
