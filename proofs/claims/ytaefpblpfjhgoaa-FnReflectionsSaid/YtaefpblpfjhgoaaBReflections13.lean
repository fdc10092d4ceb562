/- FnReflections: the law holds for every argument. Part 13 of 13 of the proof: PthS, PthZ, DimS, CoxN, CoxN2, LwR, LawReflectionsRow. No condition. -/
import Derived.Test.YtaefpblpfjhgoaaBReflections12
import Derived.Deep.CutRange
import Derived.Deep.LoopGhost
import Derived.Deep.CutBlock
/- l7From -/
namespace Go.Proofs.Ytaefpblpfjhgoaa
set_option linter.unusedVariables false
set_option linter.unusedSimpArgs false
open Go.RowKit

set_option maxHeartbeats 3200000 in
set_option maxRecDepth 100000 in
theorem l7From_step (q : Qv) (h : Int → Nat) (hh : Hgt q h) (hq : isQ q = true) (n : Nat) (hn4 : n ≤ 4)
    (IH : ∀ m, m + 1 = n → ∀ (u : Value) (s : Int) (w0 : World), h s ≤ m → QvR w0 w0.heap.size u q → I64 s →
      Calls Try.prog 89 #[u, .int .i64 s] w0 fun e w' => ∃ v, e = .returned v ∧ PtsO s w' w0.heap.size w0.heap.size v (pthF q m s) ∧ Below w0.heap.size w0 w')
    (u : Value) (s : Int) (w0 : World) (hs : h s ≤ n) (hu : QvR w0 w0.heap.size u q) (hsi : I64 s) :
    Calls Try.prog 89 #[u, .int .i64 s] w0 fun e w' => ∃ v, e = .returned v ∧ PtsO s w' w0.heap.size w0.heap.size v (pthF q n s) ∧ Below w0.heap.size w0 w' := by
  have hu' := hu
  obtain ⟨A, c, C, d, rfl, hf, hT, hr, lf, lt⟩ := hu.open_
  clear hu
  obtain ⟨G, hG⟩ : ∃ G, w0.heap.size = G := ⟨_, rfl⟩
  obtain ⟨W, hW⟩ : ∃ W, w0.alloc (.cells #[.int .i64 q.v, .slice A q.f.length c, .slice C q.t.length d] 26) = W := ⟨_, rfl⟩
  have gw : W.heap.size = G + 1 := by rw [← hW, ← hG]; simp
  have g0 : Below w0.heap.size w0 W := by rw [← hW]; exact below_alloc _ _
  have kB : Blk W G 26 #[.int .i64 q.v, .slice A q.f.length c, .slice C q.t.length d] := by rw [← hW, ← hG]; exact Blk.new _ _ _
  obtain ⟨hv5, hlen, h6, _, _⟩ := isQ_t.1 hq
  have HU := Lib.hid (QvR.next g0 hu')
  obtain ⟨W2, hW2⟩ : ∃ W2, (W.alloc (.cells #[] 3)).alloc (.cells #[.int .i64 s, .slice (some ⟨G + 1, 0, none⟩) 0 0] 99) = W2 := ⟨_, rfl⟩
  have g2 : Below W.heap.size W W2 := by rw [← hW2]; exact ((Below.refl _ _).alloc (Nat.le_refl _) _).alloc (by simp) _
  have o0 : OwnI (W.alloc (.cells #[] 3)) W.heap.size (.slice (some ⟨G + 1, 0, none⟩) 0 0) [] := by rw [← gw]; exact OwnI.made _ rfl (Nat.le_refl _)
  have HO := Lib.hid (show PtsO s W2 W.heap.size W.heap.size (.slice (some ⟨G + 2, 0, none⟩) 1 1) (pthK q n s 0) by
    rw [pthK_0, ← hW2]
    refine PtsO.new (by omega) ?_ (o0.alloc _)
    have := Blk.new (W.alloc (.cells #[] 3)) 99 #[.int .i64 s, .slice (some ⟨G + 1, 0, none⟩) 0 0]
    simpa only [World.size_alloc, gw] using this)
  have HL := Lib.hid hlen
  have hG2 : (W.alloc (.cells #[] 3)).heap.size = G + 2 := by simp [gw]
  clear hu' hlen o0
  go_enter Try.func89, Try.ntmps89
  go_wp2
  go_loopw [5, 6, 7, 8] (fun o i l k wr => ∃ (j : Nat), j ≤ q.f.length ∧ i = .int .i64 j ∧ PtsO s wr W.heap.size W.heap.size o (pthK q n s j) ∧ Below W.heap.size W wr) (fun _ i _ _ _ => q.f.length - (intOf i).toNat)
  case atStart => exact ⟨0, Nat.zero_le _, rfl, HO.out, g2⟩
  case round =>
    obtain ⟨j, hj, rfl, hO, hbel⟩ := hrel
    have hGs : w0.heap.size = G := hG
    have kBr := kB.below (hbel.mono (Nat.le_refl _)) (by omega)
    have c0 := kBr.cell' (i := 0) rfl
    have c1 := kBr.cell' (i := 1) rfl
    have c2 := kBr.cell' (i := 2) rfl
    have gr := bthen g0 hbel
    have hws := hbel.size
    by_cases hlt : j < q.f.length
    · obtain ⟨b1, o1, xa, rfl, hbb1, HF, y1, _⟩ := SlI.at_ hf hlt
      obtain ⟨b2, o2, xb, rfl, hbb2, HT, y2, xbr⟩ := SlI.at_ hT (k := j) (by have := HL.out; omega)
      have z1 := bcell gr hbb1 y1
      have z2 := bcell gr hbb2 y2
      clear y1 y2
      by_cases hxs : xa = s
      · subst hxs
        have hhb := hh j xa xb HF.out HT.out
        obtain ⟨m, rfl⟩ : ∃ m, n = m + 1 := ⟨n - 1, by omega⟩
        have HY := Lib.hid (pthK_yes (n := m) HF.out HT.out rfl)
        have HI := Lib.hid (IH m rfl)
        have hle := pthR_le h6 m xa j
        have hpl := pthF_le h6 m xb
        have hvl := pthF_vld HL.out m xb
        have hbel1 := Lib.hid hbel
        have hO1 := Lib.hid hO
        have GR := Lib.hid gr
        have hjt : j < q.t.length := by have := HL.out; omega
        have hbw1 : b1 < wr.heap.size := by have := gr.size; omega
        have hbw2 : b2 < wr.heap.size := by have := gr.size; omega
        obtain ⟨OA, oc, eo, _, _⟩ := hO.form
        subst eo
        clear hO hbel gr hh IH
        have HVL := Lib.hid hvl
        clear hvl
        go_wp2
        refine wp_region_net (by kernel_rfl) [.eq (.agg #[.int .i64 q.v, .slice (some ⟨b1, o1, none⟩) q.f.length c, .slice (some ⟨b2, o2, none⟩) q.t.length d]), .eq (.pointer (some ⟨G, 2, none⟩)), .eq (.slice (some ⟨b2, o2, none⟩) q.t.length d), .eq (.int .i64 j), .eq (.pointer (some ⟨b2, o2 + j, none⟩)), .eq (.int .i64 xb)] [[], [], [1], [], [1, 2, 3], [1, 2, 3, 4], [0, 1, 2, 3, 4, 5], [0, 1, 2, 3, 4, 5, 6]] 6 (by kernel_rfl) ⟨trivial, trivial, trivial, trivial, trivial, trivial, trivial⟩ ⟨?_, ?_, ?_, ?_, ?_, ?_, trivial⟩ ?_
        · intro x w hb hk Q' hQ
          clear hk
          simp only [netAct, dstAt, List.getElem?_toArray, List.getElem?_cons_zero, List.getElem?_cons_succ, Option.bind_some, Act.put, List.setIfInBounds_toArray, List.set_cons_zero, List.set_cons_succ] at hQ ⊢
          have q0 := (kBr.call hb).cell' (i := 0) rfl
          have q1 := (kBr.call hb).cell' (i := 1) rfl
          have q2 := (kBr.call hb).cell' (i := 2) rfl
          go_wp2
          exact hQ (.agg #[.int .i64 q.v, .slice (some ⟨b1, o1, none⟩) q.f.length c, .slice (some ⟨b2, o2, none⟩) q.t.length d]) _ (Below.refl _ _) rfl
        · intro x w hb hk Q' hQ
          clear hk
          simp only [netAct, dstAt, List.getElem?_toArray, List.getElem?_cons_zero, List.getElem?_cons_succ, Option.bind_some, Act.put, List.setIfInBounds_toArray, List.set_cons_zero, List.set_cons_succ] at hQ ⊢
          go_wp2
          exact hQ (.pointer (some ⟨G, 2, none⟩)) _ (Below.refl _ _) rfl
        · intro x w hb hk Q' hQ
          have h1 : x.v 1 = .pointer (some ⟨G, 2, none⟩) := (hk 1 (by decide)).1
          clear hk
          simp only [netAct, dstAt, List.getElem?_toArray, List.getElem?_cons_zero, List.getElem?_cons_succ, Option.bind_some, Act.put, List.setIfInBounds_toArray, List.set_cons_zero, List.set_cons_succ] at hQ ⊢
          simp only [h1] at hQ ⊢
          clear h1
          have q2 := (kBr.call hb).cell' (i := 2) rfl
          go_wp2
          exact hQ (.slice (some ⟨b2, o2, none⟩) q.t.length d) _ (Below.refl _ _) rfl
        · intro x w hb hk Q' hQ
          clear hk
          simp only [netAct, dstAt, List.getElem?_toArray, List.getElem?_cons_zero, List.getElem?_cons_succ, Option.bind_some, Act.put, List.setIfInBounds_toArray, List.set_cons_zero, List.set_cons_succ] at hQ ⊢
          go_wp2
          exact hQ (.int .i64 j) _ (Below.refl _ _) rfl
        · intro x w hb hk Q' hQ
          have h2 : x.v 2 = .slice (some ⟨b2, o2, none⟩) q.t.length d := (hk 2 (by decide)).1
          have h3 : x.v 3 = .int .i64 j := (hk 3 (by decide)).1
          clear hk
          simp only [netAct, dstAt, List.getElem?_toArray, List.getElem?_cons_zero, List.getElem?_cons_succ, Option.bind_some, Act.put, List.setIfInBounds_toArray, List.set_cons_zero, List.set_cons_succ] at hQ ⊢
          simp only [h2, h3] at hQ ⊢
          clear h2 h3
          go_wp2
          exact hQ (.pointer (some ⟨b2, o2 + j, none⟩)) _ (Below.refl _ _) rfl
        · intro x w hb hk Q' hQ
          have h4 : x.v 4 = .pointer (some ⟨b2, o2 + j, none⟩) := (hk 4 (by decide)).1
          clear hk
          simp only [netAct, dstAt, List.getElem?_toArray, List.getElem?_cons_zero, List.getElem?_cons_succ, Option.bind_some, Act.put, List.setIfInBounds_toArray, List.set_cons_zero, List.set_cons_succ] at hQ ⊢
          simp only [h4] at hQ ⊢
          clear h4
          have q2 := bcell hb hbw2 z2
          go_wp2
          exact hQ (.int .i64 xb) _ (Below.refl _ _) rfl
        · intro x w hb hk hiv hdj
          have h0 : x.v 0 = .agg #[.int .i64 q.v, .slice (some ⟨b1, o1, none⟩) q.f.length c, .slice (some ⟨b2, o2, none⟩) q.t.length d] := hk 0 (by decide)
          have h1 : x.v 1 = .pointer (some ⟨G, 2, none⟩) := hk 1 (by decide)
          have h2 : x.v 2 = .slice (some ⟨b2, o2, none⟩) q.t.length d := hk 2 (by decide)
          have h3 : x.v 3 = .int .i64 j := hk 3 (by decide)
          have h4 : x.v 4 = .pointer (some ⟨b2, o2 + j, none⟩) := hk 4 (by decide)
          have h5 : x.v 5 = .int .i64 xb := hk 5 (by decide)
          clear hk
          simp only [netAct, dstAt, List.getElem?_toArray, List.getElem?_cons_zero, List.getElem?_cons_succ, Option.bind_some, Act.put, List.setIfInBounds_toArray, List.set_cons_zero, List.set_cons_succ]
          simp only [List.drop_succ_cons, List.drop_zero, h0, h1, h2, h3, h4, h5]
          clear h0 h1 h2 h3 h4 h5
          have HUw := Lib.hid (QvR.more (Nat.le_trans hws hb.size) (QvR.below (hbel1.out.trans (hb.mono hws)) HU.out))
          have HOw := Lib.hid (hO1.out.below hb)
          have HBw := Lib.hid (hbel1.out.trans (hb.mono hws))
          have kBw := kBr.call hb
          have hhb2 : h xb ≤ m := by omega
          have hbs := hb.size
          clear hiv hdj kBr c0 c1 c2 z1 z2 hbel1 hO1 HU hb
          go_wp2_with fail
          refine (HI.out _ xb _ hhb2 HUw.out xbr).mono ?_; rintro e w5 ⟨v5, rfl, hP5, hb5⟩
          have HP5 := Lib.hid hP5
          have HO5 := Lib.hid (HOw.out.below hb5)
          have HB5 := Lib.hid (HBw.out.trans (hb5.mono (by omega)))
          have hs5 := hb5.size
          obtain ⟨PA, pc, ep, _, _⟩ := hP5.form
          subst ep
          have hne5 : (Value.slice PA (pthF q m xb).length pc).ownBlock = none ∨ (Value.slice PA (pthF q m xb).length pc).ownBlock ≠ (Value.slice OA (pthK q (m + 1) xa j).length oc).ownBlock := by
            rcases e : (Value.slice PA (pthF q m xb).length pc).ownBlock with _ | g
            · exact .inl rfl
            · right
              intro e2
              have k1 := hP5.lt g e
              have k2 := HOw.out.lt g e2.symm
              omega
          obtain ⟨B5, hB5⟩ : ∃ z, w.heap.size = z := ⟨_, rfl⟩
          rw [hB5] at HP5
          have hB52 : B5 ≤ w5.heap.size := by omega
          have hp10 : 10 ^ m ≤ 10000 := (Nat.pow_le_pow_right (show 0 < 10 by omega) (show m ≤ 4 by omega) : 10 ^ m ≤ 10 ^ 4)
          have hj6 : j * 10 ^ m ≤ 60000 := Nat.mul_le_mul (show j ≤ 6 by omega) hp10
          have hle2 : (pthK q (m + 1) xa j).length ≤ 60001 := by have : (pthK q (m + 1) xa j).length ≤ 1 + j * 10 ^ m := hle; omega
          have hpl2 : (pthF q m xb).length ≤ 10000 := by omega
          clear hle hpl hp10 hj6 hP5 hb5 HUw HOw HBw HI
          obtain ⟨OO, hOO⟩ : ∃ z, pthK q (m + 1) xa j = z := ⟨_, rfl⟩
          obtain ⟨LR, hLR⟩ : ∃ z, pthF q m xb = z := ⟨_, rfl⟩
          rw [hOO] at HO5 hle2 HY hne5 ⊢
          obtain ⟨ol, hol⟩ : ∃ z, OO.length = z := ⟨_, rfl⟩
          rw [hol] at HO5 hle2 hne5 ⊢
          have HOL := Lib.hid hol
          clear hol
          rw [hLR] at HP5 hpl2 HVL HY hne5 ⊢
          obtain ⟨pl, hpl3⟩ : ∃ z, LR.length = z := ⟨_, rfl⟩
          rw [hpl3] at HP5 hpl2 hne5 ⊢
          have HPL := Lib.hid hpl3
          have HNE5 := Lib.hid hne5
          clear hOO hLR hpl3 hne5 hB5
          obtain ⟨w8, hw8⟩ : ∃ z, z = wr := ⟨_, rfl⟩
          subst hw8
          go_wp2
          go_loopw [5, 8] (fun o i wr => ∃ (k : Nat), k ≤ pl ∧ i = .int .i64 k ∧ PtsO xa wr W.heap.size W.heap.size o (OO ++ (LR.take k).map fun r => (j : Int) :: r) ∧ PtsO xb wr B5 B5 (.slice PA pl pc) LR ∧ ((Value.slice PA pl pc).ownBlock = none ∨ (Value.slice PA pl pc).ownBlock ≠ o.ownBlock) ∧ Below W.heap.size W wr) (fun _ i _ => pl - (intOf i).toNat)
          case atStart => exact ⟨0, Nat.zero_le _, rfl, by simpa using HO5.out, HP5.out, HNE5.out, HB5.out⟩
          case round =>
            obtain ⟨k, hk, rfl, hO, hP, hne, hBr⟩ := hrel
            have HBr := Lib.hid hBr
            have hwr := hBr.size
            clear hBr
            by_cases hkl : k < pl
            · obtain ⟨pb, po, rr, A', c', rfl, hpb, HR, q0, q1, hsr, hr1, hr2, hr3⟩ := SlP.at_ (c := pc) (A := PA) (by rw [HPL.out]; exact hP.rd) (k := k) (by rw [HPL.out]; exact hkl)
              have HP := Lib.hid hP
              have hrn : rr.length ≤ m := (HVL.out rr (List.mem_of_getElem? HR.out)).2
              have HTK := Lib.hid (show (LR.take (k + 1)).map (fun r => (j : Int) :: r) = (LR.take k).map (fun r => (j : Int) :: r) ++ [(j : Int) :: rr] by
                rw [List.take_add_one, HR.out]; simp)
              obtain ⟨OA2, oc2, eo2, _, _⟩ := hO.form
              subst eo2
              obtain ⟨n2, hn2⟩ : ∃ z, (OO ++ (LR.take k).map fun r => (j : Int) :: r).length = z := ⟨_, rfl⟩
              have hn2b : n2 ≤ 100000 := by rw [← hn2, List.length_append, List.length_map, List.length_take, HOL.out, HPL.out]; omega
              rw [hn2] at hO hne ⊢
              have HNE := Lib.hid hne
              have HN2 := Lib.hid hn2
              have HO := Lib.hid hO
              have oj : OwnI (wr.alloc (.cells #[.int .i64 (j : Int)] 3)) wr.heap.size (.slice (some ⟨wr.heap.size, 0, none⟩) 1 1) [(j : Int)] :=
                OwnI.of_blk (cs := #[.int .i64 (j : Int)]) (xs := [(j : Int)]) (Blk.new _ _ _) (Nat.le_refl _) ⟨rfl, fun i y hi hy => by (match i, hy with | 0, hy => (simp at hy; subst hy; rfl) | i + 1, hy => simp at hy)⟩ (by simp) (by intro y hy; simp at hy; subst hy; constructor <;> omega)
              have bj := below_alloc wr (.cells #[.int .i64 (j : Int)] 3)
              have HSR := Lib.hid (SlI.more bj.size (SlI.below bj hsr))
              have HO2 := Lib.hid (HO.out.below bj)
              have HOJ := Lib.hid oj
              have HBJ := Lib.hid bj
              have hjs := bj.size
              have q1'' := bcell bj hpb q1
              clear hn2 hO hP hne hsr q0 q1 oj bj
              (go_wp2_with (at_builtin; refine Hold.stop ?_)); unfold Hold
              refine wpList_appI rfl (.tmp 43) (.tmp 48) rfl wr.heap.size _ _ [(j : Int)] rfl HOJ.out A' rr.length c' rr rfl rfl HSR.out (by simp; omega) (by omega) ?_
              intro v9 w9 ho9 hg9 _
              have hb9 : Below wr.heap.size wr w9 := HBJ.out.trans (below_grown hg9 (fun k hk => (HOJ.out.lt k hk).1) (by omega))
              obtain ⟨NA, nc, en, _, _⟩ := ho9.form
              subst en
              have HO9 := Lib.hid (HO.out.below hb9)
              have HN9 := Lib.hid ho9
              have HP9 := Lib.hid (HP.out.below hb9)
              have HG9 := Lib.hid (HBr.out.trans (hb9.mono (by omega)))
              have hs9 := hb9.size
              obtain ⟨nn, hnn⟩ : ∃ z, ([(j : Int)] ++ rr).length = z := ⟨_, rfl⟩
              rw [hnn] at HN9 ⊢
              have bp := below_alloc w9 (.cells #[.int .i64 xa, .slice NA nn nc] 99)
              have HPN := Lib.hid (show PtsO xa (w9.alloc (.cells #[.int .i64 xa, .slice NA nn nc] 99)) w9.heap.size W.heap.size (.slice (some ⟨w9.heap.size, 0, none⟩) 1 1) [[(j : Int)] ++ rr] from
                PtsO.new (Nat.le_refl _) (Blk.new _ _ _) ((HN9.out.lower hwr).alloc _))
              have HOp := Lib.hid (HO9.out.below bp)
              have HPp := Lib.hid (HP9.out.below bp)
              have HGp := Lib.hid (HG9.out.trans (bp.mono (by omega)))
              have hsp := bp.size
              clear hnn ho9 hg9 hb9 bp q1'' HSR HO2 HOJ HBJ HO9 HP9
              (go_wp2_with (at_builtin; refine Hold.stop ?_)); unfold Hold
              refine wpList_appP rfl (.tmp 40) (.tmp 51) rfl xa W.heap.size W.heap.size w9.heap.size _ _ rfl HOp.out _ _ _ [[(j : Int)] ++ rr] rfl HPN.out (by rw [HN2.out]; simp; omega) (by omega) ?_
              intro v10 w10 ho10 hb10 hg10 hv10
              have hP10 := HPp.out.grown HOp.out HNE.out hg10
              have hne10 : (Value.slice (some ⟨pb, po, none⟩) pl pc).ownBlock = none ∨ (Value.slice (some ⟨pb, po, none⟩) pl pc).ownBlock ≠ v10.ownBlock := by
                rcases HNE.out with e | e
                · exact .inl e
                · rcases hv10 with e2 | e2
                  · right; rw [e2]; exact e
                  · rcases e3 : (Value.slice (some ⟨pb, po, none⟩) pl pc).ownBlock with _ | g
                    · exact .inl rfl
                    · right
                      rw [e2]
                      intro e4
                      injection e4 with e4
                      have := (HPp.out.lt g e3).2
                      omega
              have HP10 := Lib.hid hP10
              have HNE10 := Lib.hid hne10
              have HO10 := Lib.hid ho10
              have HB10 := Lib.hid (HGp.out.trans hb10)
              clear ho10 hb10 hg10 hv10 hP10 hne10
              go_wp2
              go_roundw
              case rel => exact ⟨k + 1, by omega, by go_num, by rw [HTK.out, ← List.append_assoc]; exact HO10.out, HP10.out, HNE10.out, HB10.out⟩
              case measure => simp [intOf]; omega
            · have hkp : k = pl := by omega
              have HTK := Lib.hid (show OO ++ (LR.take k).map (fun r => (j : Int) :: r) = pthK q (m + 1) xa (j + 1) by rw [hkp, ← HPL.out, List.take_length, HY.out])
              have HO := Lib.hid hO
              clear hO hP hne hkp
              go_wp2
              go_roundw
              case rel => exact ⟨j + 1, by omega, by go_num, by rw [← HTK.out]; exact HO.out, HBr.out⟩
              case measure => simp [intOf]; omega
      · have HN := Lib.hid (pthK_no (n := n) HF.out hxs)
        have hne : ((xa : Int) == s) = false := by rw [beq_eq_false_iff_ne]; exact hxs
        have HO2 := Lib.hid hO
        have HB := Lib.hid hbel
        clear hO hbel hh IH
        go_wp2
        go_roundw
        case rel => exact ⟨j + 1, by omega, by go_num, by rw [HN.out]; exact HO2.out, HB.out⟩
        case measure => simp [intOf]; omega
    · have hje : j = q.f.length := by omega
      have HE := Lib.hid (show pthK q n s j = pthF q n s by rw [hje, pthK_end])
      have HO2 := Lib.hid hO
      have GR := Lib.hid gr
      clear hO hbel hje IH gr
      go_wp2
      go_ret
      exact ⟨_, rfl, by rw [← HE.out]; exact HO2.out.lower (by omega) (by omega), by rw [hG]; rw [hG] at GR; exact GR.out⟩
theorem l7From_any (q : Qv) (h : Int → Nat) (hh : Hgt q h) (hq : isQ q = true) : ∀ (n : Nat), n ≤ 4 → ∀ (u : Value) (s : Int) (w0 : World), h s ≤ n → QvR w0 w0.heap.size u q → I64 s →
    Calls Try.prog 89 #[u, .int .i64 s] w0 fun e w' => ∃ v, e = .returned v ∧ PtsO s w' w0.heap.size w0.heap.size v (pthF q n s) ∧ Below w0.heap.size w0 w'
  | 0, hn => fun u s w0 hs hu hi => l7From_step q h hh hq 0 hn (fun m hm => by omega) u s w0 hs hu hi
  | n + 1, hn => fun u s w0 hs hu hi => l7From_step q h hh hq (n + 1) hn (fun m hm => by
      obtain rfl : m = n := by omega
      exact l7From_any q h hh hq m (by omega)) u s w0 hs hu hi
/-- from a vertex of an acyclic quiver -/
theorem l7From_acy (q : Qv) (ha : acyQ q = true) (u : Value) (s : Int) (w0 : World) (hu : QvR w0 w0.heap.size u q) (hi : I64 s) :
    Calls Try.prog 89 #[u, .int .i64 s] w0 fun e w' => ∃ v, e = .returned v ∧ PtsO s w' w0.heap.size w0.heap.size v (pthF q 4 s) ∧ Below w0.heap.size w0 w' := by
  have hv := (isQ_t.1 (acy_isQ ha)).1
  have := hgtQ_le q s
  exact l7From_any q (hgtQ q) (acy_hgt ha) (acy_isQ ha) 4 (by omega) u s w0 (by omega) hu hi
end Go.Proofs.Ytaefpblpfjhgoaa

/- The reference's PathsBetween and CountPaths. -/
namespace Go.Proofs.Ytaefpblpfjhgoaa
set_option linter.unusedVariables false
set_option linter.unusedSimpArgs false
open Go.RowKit

theorem PtsO.made {s : Int} {w : World} {lo la g : Nat} (hlo : lo ≤ g) (hb : Blk w g 99 #[]) : PtsO s w lo la (.slice (some ⟨g, 0, none⟩) 0 0) [] :=
  ⟨[], ⟨rfl, by simp⟩, hb.own (base := lo) (n := 0) (cap := 0) (size := 2) hlo (Nat.le_refl _) (by simp only [maxLen]; omega) (by rfl), by simp⟩
theorem PtsO.at_ {s : Int} {w : World} {lo la k : Nat} {v : Value} {ll : List (List Int)} (h : PtsO s w lo la v ll) (hk : k < ll.length) :
    ∃ g c r A' c', v = .slice (some ⟨g, 0, none⟩) ll.length c ∧ g < w.heap.size ∧ Hid (ll[k]? = some r) ∧ w.cell? ⟨g, k * 2, none⟩ = some (.int .i64 s) ∧ w.cell? ⟨g, k * 2 + 1, none⟩ = some (.slice A' r.length c') ∧ OwnI w la (.slice A' r.length c') r := by
  obtain ⟨vs, h1, h2, h3⟩ := h
  have h2' := h2
  rcases h2.2 with ⟨rfl, h0⟩ | ⟨g, cap, cur, rfl, _, hg, hnc, hcm, hcs, htake⟩
  · omega
  · have hx : ll[k]? = some ll[k] := List.getElem?_eq_getElem hk
    have hv : vs[k]? = some (vs[k]'(by have := h1.1; omega)) := List.getElem?_eq_getElem (by have := h1.1; omega)
    obtain ⟨a, b⟩ := pcs_get (s := s) hv
    have e := fun i (hi : i < 2) => h2'.cellAt (k * 2 + i) (by omega)
    have ho := h1.2 k _ _ hv hx
    obtain ⟨A', c', e', _, _⟩ := ho.form
    rw [e'] at b ho
    have e0 := e 0 (by omega)
    rw [Nat.add_zero] at e0
    exact ⟨g, cap, ll[k], A', c', rfl, (Array.getElem?_eq_some_iff.1 hg).1, hx, by rw [e0]; exact a, by rw [e 1 (by omega)]; exact b, ho⟩
set_option maxRecDepth 100000 in
set_option maxHeartbeats 3200000 in
theorem specPathsBetween_any (u : Value) (q : Qv) (s t : Int) (w0 : World) (hu : QvR w0 w0.heap.size u q) (hsi : I64 s) (hti : I64 t) :
    Calls Try.prog 72 #[u, .int .i64 s, .int .i64 t] w0 fun e w' => (∃ A c, e = .returned (.tuple #[.slice A (pbN q s t) c, .bool (pbOk q s t)])) ∧ Below w0.heap.size w0 w' := by
  have hu' := hu
  obtain ⟨A, c, C, d, rfl, hf, hT, hr, lf, lt⟩ := hu.open_
  clear hu hf hT
  obtain ⟨W, hW⟩ : ∃ W, w0.alloc (.cells #[.int .i64 q.v, .slice A q.f.length c, .slice C q.t.length d] 26) = W := ⟨_, rfl⟩
  have g0 : Below w0.heap.size w0 W := by rw [← hW]; exact below_alloc _ _
  have kB : Blk W w0.heap.size 26 #[.int .i64 q.v, .slice A q.f.length c, .slice C q.t.length d] := by rw [← hW]; exact Blk.new _ _ _
  have HQ := Lib.hid (QvR.next g0 hu')
  clear hu'
  have c0 := kB.cell' (i := 0) rfl
  have c1 := kB.cell' (i := 1) rfl
  have c2 := kB.cell' (i := 2) rfl
  obtain ⟨W1, hW1⟩ : ∃ W1, W.alloc (.cells #[] 99) = W1 := ⟨_, rfl⟩
  have b1 : Below W.heap.size W W1 := by rw [← hW1]; exact below_alloc _ _
  have kE : Blk W1 W.heap.size 99 #[] := by rw [← hW1]; exact Blk.new _ _ _
  have kB1 := kB.call b1
  have HQ1 := Lib.hid (QvR.next b1 HQ.out)
  have g1 := bthen g0 b1
  clear c0 c1 c2
  have c0 := kB1.cell' (i := 0) rfl
  have c1 := kB1.cell' (i := 1) rfl
  have c2 := kB1.cell' (i := 2) rfl
  have gw : W.heap.size = w0.heap.size + 1 := by rw [← hW]; simp
  by_cases ha : acyQ q = true
  case neg =>
    rw [Bool.not_eq_true] at ha
    have hok : pbOk q s t = false := pbOk_acy ha
    rw [hok, (cp_no hok).2]
    have HA := Lib.hid ha
    clear ha hok
    go_enter Try.func72, Try.ntmps72
    go_wp2_with fail
    clear hW hW1
    refine (specIsAcyclic_any _ q _ HQ1.out).mono ?_; rintro e w1 ⟨rfl, hb1⟩
    rw [HA.out]
    go_wp2
    go_ret2
    exact ⟨⟨_, _, rfl⟩, bthen g1 hb1⟩
  case pos =>
  have hv5 := (isQ_t.1 (acy_isQ ha)).1
  have HA := Lib.hid ha
  by_cases hs : inR s 0 (q.v - 1) = true
  case neg =>
    rw [Bool.not_eq_true] at hs
    have hok : pbOk q s t = false := pbOk_s hs
    rw [hok, (cp_no hok).2]
    have HS := Lib.hid hs
    clear ha hok hs
    go_enter Try.func72, Try.ntmps72
    go_wp2_with fail
    clear hW hW1
    refine (specIsAcyclic_any _ q _ HQ1.out).mono ?_; rintro e wa ⟨rfl, hba⟩
    rw [HA.out]
    have k1 := kB1.call hba
    clear c0 c1 c2
    have c0 := k1.cell' (i := 0) rfl
    have c1 := k1.cell' (i := 1) rfl
    have c2 := k1.cell' (i := 2) rfl
    go_wp2_with fail
    refine (l1In_any _ _ _ _).mono ?_; rintro e wz ⟨rfl, hwz⟩
    replace hwz := hwz.symm
    subst hwz
    rw [HS.out]
    go_wp2
    go_ret2
    exact ⟨⟨_, _, rfl⟩, bthen g1 hba⟩
  case pos =>
  have HS := Lib.hid hs
  by_cases ht : inR t 0 (q.v - 1) = true
  case neg =>
    rw [Bool.not_eq_true] at ht
    have hok : pbOk q s t = false := pbOk_t ht
    rw [hok, (cp_no hok).2]
    have HT := Lib.hid ht
    clear ha hok hs ht
    go_enter Try.func72, Try.ntmps72
    go_wp2_with fail
    clear hW hW1
    refine (specIsAcyclic_any _ q _ HQ1.out).mono ?_; rintro e wa ⟨rfl, hba⟩
    rw [HA.out]
    have k1 := kB1.call hba
    clear c0 c1 c2
    have c0 := k1.cell' (i := 0) rfl
    have c1 := k1.cell' (i := 1) rfl
    have c2 := k1.cell' (i := 2) rfl
    go_wp2_with fail
    refine (l1In_any _ _ _ _).mono ?_; rintro e wz ⟨rfl, hwz⟩
    replace hwz := hwz.symm
    subst hwz
    rw [HS.out]
    go_wp2_with fail
    refine (l1In_any _ _ _ _).mono ?_; rintro e wz ⟨rfl, hwz⟩
    replace hwz := hwz.symm
    subst hwz
    rw [HT.out]
    go_wp2
    go_ret2
    exact ⟨⟨_, _, rfl⟩, bthen g1 hba⟩
  case pos =>
  have HT := Lib.hid ht
  have hok : pbOk q s t = true := by simp [pbOk, ha, hs, ht]
  obtain ⟨L, hL⟩ : ∃ L, pbN q s t = L := ⟨_, rfl⟩
  have HL : Hid (((pthF q 4 s).filter fun r => endP q s r == t).length = L) := by
    show _ = _
    rw [← hL, pbN, if_pos hok]
  rw [hok, hL]
  have hs1 := inR_t.1 hs
  have h6 := (isQ_t.1 (acy_isQ ha)).2.2.1
  have hpl1 := pthF_le h6 4 s
  have HVL := Lib.hid (pthF_vld (isQ_t.1 (acy_isQ ha)).2.1 4 s)
  have HIQ := Lib.hid (acy_isQ ha)
  clear hok hs ht ha hL
  go_enter Try.func72, Try.ntmps72
  go_wp2_with fail
  clear hW hW1
  refine (specIsAcyclic_any _ q _ HQ1.out).mono ?_; rintro e wa ⟨rfl, hba⟩
  rw [HA.out]
  have k1 := kB1.call hba
  clear c0 c1 c2
  have c0 := k1.cell' (i := 0) rfl
  have c1 := k1.cell' (i := 1) rfl
  have c2 := k1.cell' (i := 2) rfl
  go_wp2_with fail
  refine (l1In_any _ _ _ _).mono ?_; rintro e wz ⟨rfl, hwz⟩
  replace hwz := hwz.symm
  subst hwz
  rw [HS.out]
  go_wp2_with fail
  refine (l1In_any _ _ _ _).mono ?_; rintro e wz ⟨rfl, hwz⟩
  replace hwz := hwz.symm
  subst hwz
  rw [HT.out]
  have HQa := Lib.hid (QvR.next hba HQ1.out)
  go_wp2_with fail
  refine (l7From_acy q HA.out _ s wa HQa.out hsi).mono ?_; rintro e wb ⟨v5, rfl, hP5, hbb⟩
  have k2 := Lib.hid (k1.call hbb)
  have HQb := Lib.hid (QvR.next hbb HQa.out)
  have hEb := Lib.hid ((kE.call hba).call hbb)
  have hGb := Lib.hid (bthen (bthen b1 hba) hbb)
  have hsb := hbb.size
  have hsa := hba.size
  have hs1' := b1.size
  have HOb := Lib.hid (PtsO.made (s := s) (lo := W.heap.size) (la := W.heap.size) (Nat.le_refl _) hEb.out)
  obtain ⟨PA, pc, ep, _, _⟩ := hP5.form
  subst ep
  have hne5 : (Value.slice PA (pthF q 4 s).length pc).ownBlock = none ∨ (Value.slice PA (pthF q 4 s).length pc).ownBlock ≠ (Value.slice (some ⟨W.heap.size, 0, none⟩) 0 0).ownBlock := by
    rcases e : (Value.slice PA (pthF q 4 s).length pc).ownBlock with _ | g
    · exact .inl rfl
    · right
      intro e2
      have k1 := hP5.lt g e
      have k2 := HOb.out.lt g e2.symm
      have k3 := kE.lt
      have k4 : (Value.slice (some ⟨W.heap.size, 0, none⟩) 0 0).ownBlock = some W.heap.size := rfl
      rw [k4] at e2
      injection e2 with e2
      omega
  have HP5 := Lib.hid hP5
  obtain ⟨LR, hLR⟩ : ∃ z, pthF q 4 s = z := ⟨_, rfl⟩
  rw [hLR] at HP5 hpl1 HVL HL hne5 ⊢
  obtain ⟨pl, hpl⟩ : ∃ z, LR.length = z := ⟨_, rfl⟩
  rw [hpl] at HP5 hpl1 hne5 ⊢
  have HPL := Lib.hid hpl
  have HNE5 := Lib.hid hne5
  obtain ⟨B5, hB5⟩ : ∃ z, wa.heap.size = z := ⟨_, rfl⟩
  rw [hB5] at HP5
  have hB52 : W.heap.size ≤ B5 := by omega
  have hB53 : B5 ≤ wb.heap.size := by omega
  have hpl2 : pl ≤ 10000 := hpl1
  have G0 := Lib.hid g0
  have KB := Lib.hid kB
  clear hLR hpl hne5 hP5 hbb hba b1 kE kB kB1 k1 c0 c1 c2 g0 g1 hpl1 HQ1 HQa hB5
  go_wp2
  go_loopw [8, 10] (fun o i wr => ∃ (k : Nat), k ≤ pl ∧ i = .int .i64 k ∧ PtsO s wr W.heap.size W.heap.size o ((LR.take k).filter fun r => endP q s r == t) ∧ PtsO s wr B5 B5 (.slice PA pl pc) LR ∧ ((Value.slice PA pl pc).ownBlock = none ∨ (Value.slice PA pl pc).ownBlock ≠ o.ownBlock) ∧ Below W.heap.size W wr) (fun _ i _ => pl - (intOf i).toNat)
  case atStart =>
    rw [← gw]
    exact ⟨0, Nat.zero_le _, rfl, by simpa using HOb.out, HP5.out, HNE5.out, hGb.out⟩
  case round =>
    obtain ⟨k, hk, rfl, hO, hP, hne, hBr⟩ := hrel
    have HBr := Lib.hid hBr
    have hwr := hBr.size
    have hkr : Blk wr w0.heap.size 26 #[.int .i64 q.v, .slice A q.f.length c, .slice C q.t.length d] := KB.out.below hBr KB.out.lt
    have HQr := Lib.hid (QvR.more hwr (QvR.below hBr HQ.out))
    have HP := Lib.hid hP
    have HO := Lib.hid hO
    have HNE := Lib.hid hne
    by_cases hkl : k < pl
    · obtain ⟨gp, cp, rr, A', c', ep, hgp, HR, q0, q1, hrr⟩ := hP.at_ (k := k) (by rw [HPL.out]; exact hkl)
      rw [HPL.out] at ep
      injection ep with ep1 _ ep2
      subst ep1 ep2
      have hvl := HVL.out rr (List.mem_of_getElem? HR.out)
      have HEND := Lib.hid (fun (T : InB wr) => specEndOf_any (.agg #[.int .i64 q.v, .slice A q.f.length c, .slice C q.t.length d]) (.agg #[.int .i64 s, .slice A' rr.length c']) q s rr T.val (QvR.next T.below HQr.out) ⟨_, rfl, SlI.next T.below hrr.rd⟩ HIQ.out hs1.1 hs1.2 hvl.1 (by omega))
      have d0 := InB.cell hkr.lt (hkr.cell' (i := 0) rfl)
      have d1 := InB.cell hkr.lt (hkr.cell' (i := 1) rfl)
      have d2 := InB.cell hkr.lt (hkr.cell' (i := 2) rfl)
      have d3 := InB.cell hgp q0
      have d4 := InB.cell hgp q1
      have HHP := Lib.hid hgp
      obtain ⟨E, hE⟩ : ∃ E, endP q s rr = E := ⟨_, rfl⟩
      have HTK := Lib.hid (show (LR.take (k + 1)).filter (fun r => endP q s r == t) = (LR.take k).filter (fun r => endP q s r == t) ++ if E == t then [rr] else [] by
        rw [take_snoc HR.out, List.filter_append, ← hE]
        congr 1
        by_cases h : endP q s rr = t
        · simp [h]
        · simp [h])
      have hE2 : ∀ T : InB wr, Calls Try.prog 90 #[.agg #[.int .i64 q.v, .slice A q.f.length c, .slice C q.t.length d], .agg #[.int .i64 s, .slice A' rr.length c']] T.val fun e w' => e = .returned (.int .i64 E) ∧ Below T.val.heap.size T.val w' := by
        intro T; rw [← hE]; exact HEND.out T
      have HE2 := Lib.hid hE2
      obtain ⟨rl, hrl⟩ : ∃ z, rr.length = z := ⟨_, rfl⟩
      rw [hrl] at d4 HE2 q1 hrr
      have HRR := Lib.hid hrr
      clear hP hO hne hBr hvl HEND hE hE2 hrl hkr hgp hrr
      rcases hB : E == t with _ | _
      · rw [hB] at HTK
        go_wp2
        (refine wp_region_inB (by kernel_rfl) (by kernel_rfl) ?_; (repeat (go_big_quiet_step ((go_at_call 90; exact InB.call (HE2.out _))))); refine wpQuiet_nil ?_; intro w1 hw'; obtain ⟨s1, hw1⟩ := hw'; have hb1 := s1.below; rw [← hw1] at hb1; clear hw1 s1)
        have HB1 := Lib.hid hb1
        clear hb1
        go_wp2
        go_roundw
        case rel =>
          refine ⟨k + 1, by omega, by go_num, ?_, HP.out.below HB1.out, HNE.out, HBr.out.trans (HB1.out.mono HBr.out.size)⟩
          rw [HTK.out]
          simpa using HO.out.below HB1.out
        case measure => simp [intOf]; omega
      · rw [hB] at HTK
        go_wp2
        (refine wp_region_inB (by kernel_rfl) (by kernel_rfl) ?_; (repeat (go_big_quiet_step ((go_at_call 90; exact InB.call (HE2.out _))))); refine wpQuiet_nil ?_; intro w1 hw'; obtain ⟨s1, hw1⟩ := hw'; have hb1 := s1.below; rw [← hw1] at hb1; clear hw1 s1)
        have hO1 := HO.out.below hb1
        have hP1 := HP.out.below hb1
        have r0 := bcell hb1 HHP.out q0
        have r1 := bcell hb1 HHP.out q1
        have HB1 := Lib.hid (HBr.out.trans (hb1.mono hwr))
        have hs9 := hb1.size
        have hRR := HRR.out.below hb1
        obtain ⟨OA, oc, eo, _, _⟩ := hO1.form
        subst eo
        obtain ⟨ol, hol⟩ : ∃ z, ((LR.take k).filter fun r => endP q s r == t).length = z := ⟨_, rfl⟩
        have hol2 : ol ≤ 10000 := by
          have h1 := List.length_filter_le (fun r => endP q s r == t) (LR.take k)
          rw [List.length_take] at h1
          omega
        have HNE2 := HNE.out
        rw [hol] at hO1 HNE2 ⊢
        have HOL := Lib.hid hol
        obtain ⟨w9, hw9⟩ : ∃ z, z = w1 := ⟨_, rfl⟩
        subst hw9
        have bp := below_alloc w9 (.cells #[.int .i64 s, .slice A' rl c'] 99)
        have HPN := Lib.hid (show PtsO s (w9.alloc (.cells #[.int .i64 s, .slice A' rl c'] 99)) w9.heap.size W.heap.size (.slice (some ⟨w9.heap.size, 0, none⟩) 1 1) [rr] from
          PtsO.new (Nat.le_refl _) (Blk.new _ _ _) ((hRR.lower hB52).alloc _))
        have HOp := Lib.hid (hO1.below bp)
        have HPp := Lib.hid (hP1.below bp)
        have HGp := Lib.hid (HB1.out.trans (bp.mono (by omega)))
        have HNE3 := Lib.hid HNE2
        have hsp := bp.size
        clear hO1 hP1 hRR hol HNE2 bp hb1 d0 d1 d2 d3 d4 q0 q1
        (go_wp2_with (at_builtin; refine Hold.stop ?_)); unfold Hold
        refine wpList_appP rfl (.tmp 49) (.tmp 54) rfl s W.heap.size W.heap.size w9.heap.size _ _ rfl HOp.out _ _ _ [rr] rfl HPN.out (by rw [HOL.out]; simp; omega) (by omega) ?_
        intro v10 w10 ho10 hb10 hg10 hv10
        have hP10 := HPp.out.grown HOp.out HNE3.out hg10
        have hne10 : (Value.slice (some ⟨gp, 0, none⟩) pl pc).ownBlock = none ∨ (Value.slice (some ⟨gp, 0, none⟩) pl pc).ownBlock ≠ v10.ownBlock := by
          rcases HNE3.out with e | e
          · exact .inl e
          · rcases hv10 with e2 | e2
            · right; rw [e2]; exact e
            · rcases e3 : (Value.slice (some ⟨gp, 0, none⟩) pl pc).ownBlock with _ | g
              · exact .inl rfl
              · right
                rw [e2]
                intro e4
                injection e4 with e4
                have := (HPp.out.lt g e3).2
                omega
        have HP10 := Lib.hid hP10
        have HNE10 := Lib.hid hne10
        have HO10 := Lib.hid ho10
        have HB10 := Lib.hid (HGp.out.trans hb10)
        clear ho10 hb10 hg10 hv10 hP10 hne10
        go_wp2
        go_roundw
        case rel => exact ⟨k + 1, by omega, by go_num, by rw [HTK.out]; exact HO10.out, HP10.out, HNE10.out, HB10.out⟩
        case measure => simp [intOf]; omega
    · have hkp : k = pl := by omega
      have hf : ((LR.take k).filter fun r => endP q s r == t).length = L := by rw [hkp, ← HPL.out, List.take_length, HL.out]
      obtain ⟨OA, oc, eo, _, _⟩ := hO.form
      subst eo
      rw [hf]
      clear hO hP hne hkp hBr hf HP HO HNE
      go_wp2
      go_ret2
      exact ⟨⟨_, _, rfl⟩, G0.out.trans (HBr.out.mono G0.out.size)⟩
set_option maxHeartbeats 800000 in
theorem specCountPaths_any (u : Value) (q : Qv) (s t : Int) (w0 : World) (hu : QvR w0 w0.heap.size u q) (hs : I64 s) (ht : I64 t) :
    Calls Try.prog 44 #[u, .int .i64 s, .int .i64 t] w0 fun e w' => e = .returned (.int .i64 (cpQ q s t)) ∧ Below w0.heap.size w0 w' := by
  have hu' := hu
  obtain ⟨A, c, C, d, rfl, hf, hT, hr, lf, lt⟩ := hu.open_
  clear hu hf hT
  obtain ⟨W, hW⟩ : ∃ W, w0.alloc (.cells #[.int .i64 q.v, .slice A q.f.length c, .slice C q.t.length d] 26) = W := ⟨_, rfl⟩
  have g0 : Below w0.heap.size w0 W := by rw [← hW]; exact below_alloc _ _
  have kB : Blk W w0.heap.size 26 #[.int .i64 q.v, .slice A q.f.length c, .slice C q.t.length d] := by rw [← hW]; exact Blk.new _ _ _
  have HQ := Lib.hid (QvR.next g0 hu')
  clear hu'
  have c0 := kB.cell' (i := 0) rfl
  have c1 := kB.cell' (i := 1) rfl
  have c2 := kB.cell' (i := 2) rfl
  rcases hok : pbOk q s t with _ | _
  · have HC := Lib.hid (cp_no hok).1
    have HP := specPathsBetween_any _ q s t W HQ.out hs ht
    rw [hok] at HP
    have HP := Lib.hid HP
    clear hok kB
    go_enter Try.func44, Try.ntmps44
    go_wp2_with fail
    clear hW
    refine HP.out.mono ?_; rintro e w1 ⟨⟨A1, c1', rfl⟩, hb1⟩
    go_wp2
    go_ret
    exact ⟨by rw [HC.out]; rfl, bthen g0 hb1⟩
  · have HC := Lib.hid (cp_yes hok)
    have HP := specPathsBetween_any _ q s t W HQ.out hs ht
    rw [hok] at HP
    obtain ⟨L, hL⟩ : ∃ L, pbN q s t = L := ⟨_, rfl⟩
    rw [hL] at HP HC
    have HP := Lib.hid HP
    clear hok kB hL
    go_enter Try.func44, Try.ntmps44
    go_wp2_with fail
    clear hW
    refine HP.out.mono ?_; rintro e w1 ⟨⟨A1, c1', rfl⟩, hb1⟩
    go_wp2
    go_ret
    exact ⟨by rw [HC.out]; rfl, bthen g0 hb1⟩
end Go.Proofs.Ytaefpblpfjhgoaa

/- ProjectiveDims and InjectiveDims: the reference's. -/
namespace Go.Proofs.Ytaefpblpfjhgoaa
set_option linter.unusedVariables false
set_option linter.unusedSimpArgs false
open Go.RowKit

set_option maxRecDepth 100000 in
set_option maxHeartbeats 1600000 in
theorem specProjectiveDims_any (u : Value) (q : Qv) (v : Int) (w0 : World) (hu : QvR w0 w0.heap.size u q) (hi : I64 v) :
    Calls Try.prog 12 #[u, .int .i64 v] w0 fun e w' => ∃ o, e = .returned o ∧ OwnI w' w0.heap.size o (dmQ q v) ∧ Below w0.heap.size w0 w' := by
  have HRW := Lib.hid (dmQ_row q v)
  obtain ⟨g, hg⟩ : ∃ g, g = fun w : Nat => cpQ q v w := ⟨_, rfl⟩
  have hgr : acyQ q = true → ∀ j, -1 ≤ g j ∧ g j ≤ 10000 := fun h j => by rw [hg]; exact cp_rng h _ _
  have HGE := Lib.hid (show ∀ w : Nat, g w = cpQ q v w from fun w => by rw [hg])
  rw [← hg] at HRW
  clear hg
  have hrr : I64 q.v := by
    obtain ⟨A, c, C, d, rfl, hf, hT, hr, lf, lt⟩ := hu.open_
    exact hr
  have hu' := hu
  obtain ⟨A, c, C, d, rfl, hf, hT, hr, lf, lt⟩ := hu.open_
  clear hu hf hT
  obtain ⟨W, hW⟩ : ∃ W, w0.alloc (.cells #[.int .i64 q.v, .slice A q.f.length c, .slice C q.t.length d] 26) = W := ⟨_, rfl⟩
  have g0 : Below w0.heap.size w0 W := by rw [← hW]; exact below_alloc _ _
  have kB : Blk W w0.heap.size 26 #[.int .i64 q.v, .slice A q.f.length c, .slice C q.t.length d] := by rw [← hW]; exact Blk.new _ _ _
  have HQ := Lib.hid (QvR.next g0 hu')
  clear hu'
  have c0 := kB.cell' (i := 0) rfl
  have c1 := kB.cell' (i := 1) rfl
  have c2 := kB.cell' (i := 2) rfl
  obtain ⟨W1, hW1⟩ : ∃ W1, W.alloc (.cells #[] 3) = W1 := ⟨_, rfl⟩
  have b1 : Below W.heap.size W W1 := by rw [← hW1]; exact below_alloc _ _
  have gw : W.heap.size = w0.heap.size + 1 := by rw [← hW]; simp
  have ho0 : OwnI W1 W.heap.size (.slice (some ⟨w0.heap.size + 1, 0, none⟩) 0 0) [] := by
    rw [← hW1, ← gw]; exact OwnI.made 3 rfl (Nat.le_refl _)
  have kB1 := kB.call b1
  have HQ1 := Lib.hid (QvR.next b1 HQ.out)
  have G1 := Lib.hid (bthen g0 b1)
  clear c0 c1 c2
  have c0 := kB1.cell' (i := 0) rfl
  have c1 := kB1.cell' (i := 1) rfl
  have c2 := kB1.cell' (i := 2) rfl
  have KB := Lib.hid kB1
  have KB0 := Lib.hid kB
  have B1 := Lib.hid b1
  have G0 := Lib.hid g0
  have hs0 := b1.size
  have hsg := g0.size
  have HO0 := Lib.hid ho0
  have hs1 := G1.out.size
  by_cases hok : dimOk q v = true
  case neg =>
    rw [Bool.not_eq_true] at hok
    rw [hok, if_neg (by simp)] at HRW
    rw [HRW.out]
    have HK := Lib.hid hok
    clear hok b1 kB kB1 g0 HQ ho0 hgr HGE
    go_enter Try.func12, Try.ntmps12
    go_wp2
    clear hW hW1
    go_loopw [5, 6] (fun o i wr => i = .int .i64 0 ∧ o = .slice (some ⟨w0.heap.size + 1, 0, none⟩) 0 0 ∧ wr = W1) (fun _ _ _ => 0)
    case atStart => exact ⟨rfl, rfl, rfl⟩
    case round =>
      obtain ⟨rfl, rfl, rfl⟩ := hrel
      have hI := HK.out
      rw [dimOk, Bool.and_eq_false_iff] at hI
      by_cases h0 : 0 < q.v
      · have hd : decide (0 < q.v) = true := decide_eq_true h0
        rcases ha : acyQ q with _ | _
        · have HA := Lib.hid ha
          clear hI ha
          go_wp2_with fail
          refine (specIsAcyclic_any _ q _ HQ1.out).mono ?_; rintro e w1 ⟨rfl, hb1⟩
          rw [HA.out]
          go_wp2
          go_ret
          exact ⟨_, rfl, (HO0.out.below hb1).lower hsg, bthen G1.out hb1⟩
        · have hs : inR v 0 (q.v - 1) = false := by
            rcases hI with h | h
            · rw [ha] at h; cases h
            · exact h
          have hv5 := (isQ_t.1 (acy_isQ ha)).1
          have HA := Lib.hid ha
          have HS := Lib.hid hs
          clear hI ha hs
          go_wp2_with fail
          refine (specIsAcyclic_any _ q _ HQ1.out).mono ?_; rintro e w1 ⟨rfl, hb1⟩
          rw [HA.out]
          have k1 := KB.out.call hb1
          clear c0 c1 c2
          have c0 := k1.cell' (i := 0) rfl
          have c1 := k1.cell' (i := 1) rfl
          have c2 := k1.cell' (i := 2) rfl
          go_wp2_with fail
          refine (l1In_any _ _ _ _).mono ?_; rintro e wz ⟨rfl, hwz⟩
          replace hwz := hwz.symm
          subst hwz
          rw [HS.out]
          go_wp2
          go_ret
          exact ⟨_, rfl, (HO0.out.below hb1).lower hsg, bthen G1.out hb1⟩
      · have hd : decide (0 < q.v) = false := decide_eq_false h0
        clear hI
        go_wp2
        go_ret
        exact ⟨_, rfl, HO0.out.lower hsg, G1.out⟩
  case pos =>
  rw [hok, if_pos rfl] at HRW
  rw [HRW.out]
  have ha : acyQ q = true := by rw [dimOk, Bool.and_eq_true] at hok; exact hok.1
  have hs : inR v 0 (q.v - 1) = true := by rw [dimOk, Bool.and_eq_true] at hok; exact hok.2
  have hv5 := (isQ_t.1 (acy_isQ ha)).1
  obtain ⟨V, hV⟩ := Int.eq_ofNat_of_zero_le (show 0 ≤ q.v by omega)
  have hVn : q.v.toNat = V := by omega
  rw [hVn]
  have HA := Lib.hid ha
  have HS := Lib.hid hs
  have HVN := Lib.hid hV
  have HG := Lib.hid (hgr ha)
  clear hok ha hs hVn b1 kB kB1 g0 ho0 hgr hV HRW
  go_enter Try.func12, Try.ntmps12
  go_wp2
  clear hW hW1
  go_loopw [5, 6] (fun o i wr => ∃ k : Nat, k ≤ V ∧ i = .int .i64 k ∧ OwnI wr W.heap.size o (rowF k g) ∧ Below W.heap.size W wr) (fun _ i _ => V - (intOf i).toNat)
  case atStart => exact ⟨0, Nat.zero_le _, rfl, HO0.out, B1.out⟩
  case round =>
    obtain ⟨k, hk, rfl, hown, hbel⟩ := hrel
    clear c0 c1 c2
    have kr := KB0.out.call hbel
    have HQr := Lib.hid (QvR.next hbel HQ.out)
    have c0 := kr.cell' (i := 0) rfl
    have c1 := kr.cell' (i := 1) rfl
    have c2 := kr.cell' (i := 2) rfl
    have hws := hbel.size
    have hol := rowF_length k g
    obtain ⟨ol, hol2⟩ : ∃ ol, rowF k g = ol := ⟨_, rfl⟩
    rw [hol2] at hown hol
    obtain ⟨OA, oc, rfl, _, _⟩ := hown.form
    by_cases hlt : k < V
    · have hd : decide ((k : Int) < q.v) = true := decide_eq_true (by have := HVN.out; omega)
      have hv6 : (V : Int) ≤ 5 := by have := HVN.out; omega
      have HX := HG.out k
      obtain ⟨x, hx⟩ : ∃ x, g k = x := ⟨_, rfl⟩
      rw [hx] at HX
      have HCP : Hid (cpQ q v k = x) := by show _ = _; rw [← hx, HGE.out]
      have HST : Hid (ol ++ [x] = rowF (k + 1) g) := by show _ = _; rw [rowFs, hol2, hx]
      have HOW := Lib.hid hown
      have HBE := Lib.hid hbel
      have HOL := Lib.hid hol
      clear hx hol hol2 hown hbel
      go_wp2_with fail
      refine (specIsAcyclic_any _ q _ HQr.out).mono ?_; rintro e w1 ⟨rfl, hb1⟩
      rw [HA.out]
      have k1 := kr.call hb1
      have HQ2 := Lib.hid (QvR.next hb1 HQr.out)
      clear c0 c1 c2
      have c0 := k1.cell' (i := 0) rfl
      have c1 := k1.cell' (i := 1) rfl
      have c2 := k1.cell' (i := 2) rfl
      go_wp2_with fail
      refine (l1In_any _ _ _ _).mono ?_; rintro e wz ⟨rfl, hwz⟩
      replace hwz := hwz.symm
      subst hwz
      rw [HS.out]
      have hCC := specCountPaths_any _ q v k w1 HQ2.out (by first | exact hi | exact ⟨by omega, by omega⟩) (by first | exact hi | exact ⟨by omega, by omega⟩)
      rw [HCP.out] at hCC
      have HCC := Lib.hid hCC
      clear hCC
      go_wp2_with fail
      refine HCC.out.mono ?_; rintro e w3 ⟨rfl, hb3⟩
      have hko := ((HOW.out.below hb1).below hb3).alloc (.cells #[.int .i64 x] 3)
      have hb4 := HBE.out.trans ((hb1.trans (hb3.mono hb1.size)).mono hws)
      have hs4 := hb4.size
      clear HCC HOW HBE hb3 hb1 HQ2 HQr HCP k1 kr c0 c1 c2
      (go_wp2_with (at_builtin; refine Hold.stop ?_)); unfold Hold
      refine wpList_appI rfl (.tmp 25) (.tmp 30) rfl W.heap.size _ (.slice OA ol.length oc) ol rfl hko _ _ _ [x] rfl rfl (SlI.one w3 _ x ⟨by omega, by omega⟩) (by have := HOL.out; simp only [List.length_singleton]; omega) (by simp; omega) ?_
      intro v1 w4 ho1 hg1 hv1
      rw [HST.out] at ho1
      have hb5 := (hb4.alloc hb4.size (.cells #[.int .i64 x] 3)).grown hg1 (by simp; omega) (fun j hj => (hko.lt j hj).1)
      clear hko hg1 hv1
      go_wp2
      go_roundw
      case rel => exact ⟨k + 1, by omega, by go_num, ho1, hb5⟩
      case measure => simp [intOf]; omega
    · have hkV : k = V := by omega
      have hd : decide ((k : Int) < q.v) = false := decide_eq_false (by have := HVN.out; omega)
      have HE : Hid (ol = rowF V g) := by show _ = _; rw [← hol2, hkV]
      have HO := Lib.hid hown
      clear hol hol2 hown hkV kr
      go_wp2
      go_ret
      exact ⟨_, rfl, by rw [← HE.out]; exact HO.out.lower hsg, bthen G0.out hbel⟩
set_option maxRecDepth 100000 in
set_option maxHeartbeats 1600000 in
theorem specInjectiveDims_any (u : Value) (q : Qv) (v : Int) (w0 : World) (hu : QvR w0 w0.heap.size u q) (hi : I64 v) :
    Calls Try.prog 13 #[u, .int .i64 v] w0 fun e w' => ∃ o, e = .returned o ∧ OwnI w' w0.heap.size o (dmJ q v) ∧ Below w0.heap.size w0 w' := by
  have HRW := Lib.hid (dmJ_row q v)
  obtain ⟨g, hg⟩ : ∃ g, g = fun w : Nat => cpQ q w v := ⟨_, rfl⟩
  have hgr : acyQ q = true → ∀ j, -1 ≤ g j ∧ g j ≤ 10000 := fun h j => by rw [hg]; exact cp_rng h _ _
  have HGE := Lib.hid (show ∀ w : Nat, g w = cpQ q w v from fun w => by rw [hg])
  rw [← hg] at HRW
  clear hg
  have hrr : I64 q.v := by
    obtain ⟨A, c, C, d, rfl, hf, hT, hr, lf, lt⟩ := hu.open_
    exact hr
  have hu' := hu
  obtain ⟨A, c, C, d, rfl, hf, hT, hr, lf, lt⟩ := hu.open_
  clear hu hf hT
  obtain ⟨W, hW⟩ : ∃ W, w0.alloc (.cells #[.int .i64 q.v, .slice A q.f.length c, .slice C q.t.length d] 26) = W := ⟨_, rfl⟩
  have g0 : Below w0.heap.size w0 W := by rw [← hW]; exact below_alloc _ _
  have kB : Blk W w0.heap.size 26 #[.int .i64 q.v, .slice A q.f.length c, .slice C q.t.length d] := by rw [← hW]; exact Blk.new _ _ _
  have HQ := Lib.hid (QvR.next g0 hu')
  clear hu'
  have c0 := kB.cell' (i := 0) rfl
  have c1 := kB.cell' (i := 1) rfl
  have c2 := kB.cell' (i := 2) rfl
  obtain ⟨W1, hW1⟩ : ∃ W1, W.alloc (.cells #[] 3) = W1 := ⟨_, rfl⟩
  have b1 : Below W.heap.size W W1 := by rw [← hW1]; exact below_alloc _ _
  have gw : W.heap.size = w0.heap.size + 1 := by rw [← hW]; simp
  have ho0 : OwnI W1 W.heap.size (.slice (some ⟨w0.heap.size + 1, 0, none⟩) 0 0) [] := by
    rw [← hW1, ← gw]; exact OwnI.made 3 rfl (Nat.le_refl _)
  have kB1 := kB.call b1
  have HQ1 := Lib.hid (QvR.next b1 HQ.out)
  have G1 := Lib.hid (bthen g0 b1)
  clear c0 c1 c2
  have c0 := kB1.cell' (i := 0) rfl
  have c1 := kB1.cell' (i := 1) rfl
  have c2 := kB1.cell' (i := 2) rfl
  have KB := Lib.hid kB1
  have KB0 := Lib.hid kB
  have B1 := Lib.hid b1
  have G0 := Lib.hid g0
  have hs0 := b1.size
  have hsg := g0.size
  have HO0 := Lib.hid ho0
  have hs1 := G1.out.size
  by_cases hok : dimOk q v = true
  case neg =>
    rw [Bool.not_eq_true] at hok
    rw [hok, if_neg (by simp)] at HRW
    rw [HRW.out]
    have HK := Lib.hid hok
    clear hok b1 kB kB1 g0 HQ ho0 hgr HGE
    go_enter Try.func13, Try.ntmps13
    go_wp2
    clear hW hW1
    go_loopw [5, 6] (fun o i wr => i = .int .i64 0 ∧ o = .slice (some ⟨w0.heap.size + 1, 0, none⟩) 0 0 ∧ wr = W1) (fun _ _ _ => 0)
    case atStart => exact ⟨rfl, rfl, rfl⟩
    case round =>
      obtain ⟨rfl, rfl, rfl⟩ := hrel
      have hI := HK.out
      rw [dimOk, Bool.and_eq_false_iff] at hI
      by_cases h0 : 0 < q.v
      · have hd : decide (0 < q.v) = true := decide_eq_true h0
        rcases ha : acyQ q with _ | _
        · have HA := Lib.hid ha
          clear hI ha
          go_wp2_with fail
          refine (specIsAcyclic_any _ q _ HQ1.out).mono ?_; rintro e w1 ⟨rfl, hb1⟩
          rw [HA.out]
          go_wp2
          go_ret
          exact ⟨_, rfl, (HO0.out.below hb1).lower hsg, bthen G1.out hb1⟩
        · have hs : inR v 0 (q.v - 1) = false := by
            rcases hI with h | h
            · rw [ha] at h; cases h
            · exact h
          have hv5 := (isQ_t.1 (acy_isQ ha)).1
          have HA := Lib.hid ha
          have HS := Lib.hid hs
          clear hI ha hs
          go_wp2_with fail
          refine (specIsAcyclic_any _ q _ HQ1.out).mono ?_; rintro e w1 ⟨rfl, hb1⟩
          rw [HA.out]
          have k1 := KB.out.call hb1
          clear c0 c1 c2
          have c0 := k1.cell' (i := 0) rfl
          have c1 := k1.cell' (i := 1) rfl
          have c2 := k1.cell' (i := 2) rfl
          go_wp2_with fail
          refine (l1In_any _ _ _ _).mono ?_; rintro e wz ⟨rfl, hwz⟩
          replace hwz := hwz.symm
          subst hwz
          rw [HS.out]
          go_wp2
          go_ret
          exact ⟨_, rfl, (HO0.out.below hb1).lower hsg, bthen G1.out hb1⟩
      · have hd : decide (0 < q.v) = false := decide_eq_false h0
        clear hI
        go_wp2
        go_ret
        exact ⟨_, rfl, HO0.out.lower hsg, G1.out⟩
  case pos =>
  rw [hok, if_pos rfl] at HRW
  rw [HRW.out]
  have ha : acyQ q = true := by rw [dimOk, Bool.and_eq_true] at hok; exact hok.1
  have hs : inR v 0 (q.v - 1) = true := by rw [dimOk, Bool.and_eq_true] at hok; exact hok.2
  have hv5 := (isQ_t.1 (acy_isQ ha)).1
  obtain ⟨V, hV⟩ := Int.eq_ofNat_of_zero_le (show 0 ≤ q.v by omega)
  have hVn : q.v.toNat = V := by omega
  rw [hVn]
  have HA := Lib.hid ha
  have HS := Lib.hid hs
  have HVN := Lib.hid hV
  have HG := Lib.hid (hgr ha)
  clear hok ha hs hVn b1 kB kB1 g0 ho0 hgr hV HRW
  go_enter Try.func13, Try.ntmps13
  go_wp2
  clear hW hW1
  go_loopw [5, 6] (fun o i wr => ∃ k : Nat, k ≤ V ∧ i = .int .i64 k ∧ OwnI wr W.heap.size o (rowF k g) ∧ Below W.heap.size W wr) (fun _ i _ => V - (intOf i).toNat)
  case atStart => exact ⟨0, Nat.zero_le _, rfl, HO0.out, B1.out⟩
  case round =>
    obtain ⟨k, hk, rfl, hown, hbel⟩ := hrel
    clear c0 c1 c2
    have kr := KB0.out.call hbel
    have HQr := Lib.hid (QvR.next hbel HQ.out)
    have c0 := kr.cell' (i := 0) rfl
    have c1 := kr.cell' (i := 1) rfl
    have c2 := kr.cell' (i := 2) rfl
    have hws := hbel.size
    have hol := rowF_length k g
    obtain ⟨ol, hol2⟩ : ∃ ol, rowF k g = ol := ⟨_, rfl⟩
    rw [hol2] at hown hol
    obtain ⟨OA, oc, rfl, _, _⟩ := hown.form
    by_cases hlt : k < V
    · have hd : decide ((k : Int) < q.v) = true := decide_eq_true (by have := HVN.out; omega)
      have hv6 : (V : Int) ≤ 5 := by have := HVN.out; omega
      have HX := HG.out k
      obtain ⟨x, hx⟩ : ∃ x, g k = x := ⟨_, rfl⟩
      rw [hx] at HX
      have HCP : Hid (cpQ q k v = x) := by show _ = _; rw [← hx, HGE.out]
      have HST : Hid (ol ++ [x] = rowF (k + 1) g) := by show _ = _; rw [rowFs, hol2, hx]
      have HOW := Lib.hid hown
      have HBE := Lib.hid hbel
      have HOL := Lib.hid hol
      clear hx hol hol2 hown hbel
      go_wp2_with fail
      refine (specIsAcyclic_any _ q _ HQr.out).mono ?_; rintro e w1 ⟨rfl, hb1⟩
      rw [HA.out]
      have k1 := kr.call hb1
      have HQ2 := Lib.hid (QvR.next hb1 HQr.out)
      clear c0 c1 c2
      have c0 := k1.cell' (i := 0) rfl
      have c1 := k1.cell' (i := 1) rfl
      have c2 := k1.cell' (i := 2) rfl
      go_wp2_with fail
      refine (l1In_any _ _ _ _).mono ?_; rintro e wz ⟨rfl, hwz⟩
      replace hwz := hwz.symm
      subst hwz
      rw [HS.out]
      have hCC := specCountPaths_any _ q k v w1 HQ2.out (by first | exact hi | exact ⟨by omega, by omega⟩) (by first | exact hi | exact ⟨by omega, by omega⟩)
      rw [HCP.out] at hCC
      have HCC := Lib.hid hCC
      clear hCC
      go_wp2_with fail
      refine HCC.out.mono ?_; rintro e w3 ⟨rfl, hb3⟩
      have hko := ((HOW.out.below hb1).below hb3).alloc (.cells #[.int .i64 x] 3)
      have hb4 := HBE.out.trans ((hb1.trans (hb3.mono hb1.size)).mono hws)
      have hs4 := hb4.size
      clear HCC HOW HBE hb3 hb1 HQ2 HQr HCP k1 kr c0 c1 c2
      (go_wp2_with (at_builtin; refine Hold.stop ?_)); unfold Hold
      refine wpList_appI rfl (.tmp 25) (.tmp 30) rfl W.heap.size _ (.slice OA ol.length oc) ol rfl hko _ _ _ [x] rfl rfl (SlI.one w3 _ x ⟨by omega, by omega⟩) (by have := HOL.out; simp only [List.length_singleton]; omega) (by simp; omega) ?_
      intro v1 w4 ho1 hg1 hv1
      rw [HST.out] at ho1
      have hb5 := (hb4.alloc hb4.size (.cells #[.int .i64 x] 3)).grown hg1 (by simp; omega) (fun j hj => (hko.lt j hj).1)
      clear hko hg1 hv1
      go_wp2
      go_roundw
      case rel => exact ⟨k + 1, by omega, by go_num, ho1, hb5⟩
      case measure => simp [intOf]; omega
    · have hkV : k = V := by omega
      have hd : decide ((k : Int) < q.v) = false := decide_eq_false (by have := HVN.out; omega)
      have HE : Hid (ol = rowF V g) := by show _ = _; rw [← hol2, hkV]
      have HO := Lib.hid hown
      clear hol hol2 hown hkV kr
      go_wp2
      go_ret
      exact ⟨_, rfl, by rw [← HE.out]; exact HO.out.lower hsg, bthen G0.out hbel⟩
end Go.Proofs.Ytaefpblpfjhgoaa

/- CoxeterNumber. -/
namespace Go.Proofs.Ytaefpblpfjhgoaa
set_option linter.unusedVariables false
set_option linter.unusedSimpArgs false
open Go.RowKit

def unR (V v : Nat) : List Int := rowF V (idF v)
def cnOk (q : Qv) (V n v : Nat) : Bool := (coxP q (unR V v) n).2 && decide ((coxP q (unR V v) n).1 = unR V v)
def cnAll (q : Qv) (V n k : Nat) : Bool := (List.range k).all (cnOk q V n)
def cnGo (q : Qv) (V : Nat) : Nat → Nat → Int
  | 0, _ => 0
  | m + 1, n => if cnAll q V n V then n else cnGo q V m (n + 1)
def cnQ (q : Qv) : Int := if kindQ q = 1 then cnGo q q.v.toNat 40 1 else 0
theorem cnAll_succ (q : Qv) (V n k : Nat) : cnAll q V n (k + 1) = (cnAll q V n k && cnOk q V n k) := by
  simp [cnAll, List.range_succ]
set_option maxHeartbeats 6400000 in
set_option maxRecDepth 100000 in
theorem implCoxeterNumber_any (u : Value) (q : Qv) (w0 : World) (hu : QvR w0 w0.heap.size u q) :
    Calls Try.prog 27 #[u] w0 fun e w' => e = .returned (.int .i64 (cnQ q)) ∧ Below w0.heap.size w0 w' := by
  have hu' := hu
  obtain ⟨A, c, C, d, rfl, hf, hT, hr, lf, lt⟩ := hu.open_
  clear hu hf hT
  obtain ⟨W, hW⟩ : ∃ W, W = w0.alloc (.cells #[.int .i64 q.v, .slice A q.f.length c, .slice C q.t.length d] 26) := ⟨_, rfl⟩
  have g0 : Below w0.heap.size w0 W := by rw [hW]; exact below_alloc _ _
  have kB : Blk W w0.heap.size 26 #[.int .i64 q.v, .slice A q.f.length c, .slice C q.t.length d] := by rw [hW]; exact Blk.new _ _ _
  have HQ := Lib.hid (QvR.next g0 hu')
  clear hu'
  have c0 := kB.cell' (i := 0) rfl
  have c1 := kB.cell' (i := 1) rfl
  have c2 := kB.cell' (i := 2) rfl
  have hkr := kindQ_rng q
  obtain ⟨K, hK⟩ : ∃ k, kindQ q = k := ⟨_, rfl⟩
  by_cases h1 : K = 1
  · have hq : isQ q = true := by
      rcases h : isQ q with _ | _
      · simp [kindQ, h] at hK; omega
      · rfl
    have hv := (isQ_t.1 hq).1
    obtain ⟨V, hV⟩ := Int.eq_ofNat_of_zero_le (show 0 ≤ q.v by omega)
    have HF := Lib.hid (show cnQ q = cnGo q V (41 - 1) 1 by rw [cnQ, hK, if_pos h1, hV]; rfl)
    have HK := Lib.hid hK
    have hV5 : V ≤ 5 := by omega
    replace HQ := Lib.hid (show QvR W W.heap.size (.agg #[.int .i64 (V : Int), .slice A q.f.length c, .slice C q.t.length d]) q by rw [← hV]; exact HQ.out)
    rw [hV] at kB c0 hW ⊢
    clear hq hv hV hkr hK
    subst h1
    go_enter Try.func27, Try.ntmps27
    go_wp2_with fail
    rw [← hW]; clear hW
    refine (implKind_any _ q _ HQ.out).mono ?_; rintro e w1 ⟨rfl, hb1⟩
    rw [HK.out]
    have g1 := bthen g0 hb1
    have kB1 := kB.call hb1
    have HQ1 := Lib.hid (QvR.next hb1 HQ.out)
    have s1 := g1.size
    clear hb1 c0 c1 c2 kB g0 HQ
    go_wp2
    go_loopw [3] (fun i wr => ∃ n : Nat, 1 ≤ n ∧ n ≤ 41 ∧ i = .int .i64 n ∧ Hid (cnQ q = cnGo q V (41 - n) n) ∧ Below w1.heap.size w1 wr) (fun i _ => 41 - (intOf i).toNat)
    case atStart => exact ⟨1, by omega, by omega, rfl, HF, Below.refl _ _⟩
    case round =>
      obtain ⟨n, hn1, hn, rfl, HN, hbel⟩ := hrel
      by_cases hlt : n < 41
      · have kBr := kB1.call hbel
        have c0 := kBr.cell' (i := 0) rfl
        have hws := hbel.size
        go_wp2_with fail
        refine (identity_any V _ (by omega)).mono ?_; rintro e w2 ⟨v2, rfl, hI, hb2⟩
        obtain ⟨MA, mc, em⟩ := hI.form
        subst em
        have HI := Lib.hid hI.rd
        have hb12 := hbel.trans (hb2.mono hws)
        have hw2 := hb2.size
        clear hI hbel hb2 c0 kBr
        go_wp2_with fail
        refine (rows_any _ V V idF _ HI.out (by omega) (by omega)).mono ?_; rintro e w3 ⟨v3, rfl, hR, hb3⟩
        obtain ⟨RA, rc, er, _⟩ := hR.form2
        rw [rowsF_length] at er
        subst er
        have hb13 := hb12.trans (hb3.mono (by omega))
        have hw3 := hb3.size
        have HR : Hid (SlII w3 w3.heap.size (.slice RA (rowsF V V idF).length rc) (rowsF V V idF)) := by rw [rowsF_length]; exact hR.rd
        have HB13 := Lib.hid hb13
        clear hb12 hb3 hR hb13
        go_wp2
        go_loopw [4, 21] (fun a i wr => ∃ (k : Nat) (b : Bool), k ≤ V ∧ i = .int .i64 k ∧ a = .bool b ∧ Hid (b = cnAll q V n k) ∧ Below w3.heap.size w3 wr) (fun _ i _ => V - (intOf i).toNat)
        case atStart => exact ⟨0, true, Nat.zero_le _, rfl, rfl, by show _ = _; simp [cnAll], Below.refl _ _⟩
        case round =>
          obtain ⟨k, b, hk, rfl, rfl, HB, hbq⟩ := hrel
          have hqs := hbq.size
          have hbw := HB13.out.trans (hbq.mono (by omega))
          by_cases hkV : k < V
          · obtain ⟨bR, oR, rfl, hbR⟩ := SlII.addr HR.out (by rw [rowsF_length]; omega)
            obtain ⟨r, UA, uc, hr0, _, y1, hru, _, _⟩ := SlII.elt HR.out (k := k) (by rw [rowsF_length]; exact hkV)
            rw [rowsF_get _ hkV] at hr0
            injection hr0 with hr0
            subst hr0
            have hrl : (rowF V (idF k)).length = V := rowF_length _ _
            rw [hrl] at y1 hru
            have y2 := bcell hbq hbR y1
            have HU := Lib.hid (SlI.more hqs (SlI.below hbq hru))
            have kBr := kB1.call hbw
            have HQ2 := Lib.hid (QvR.next hbw HQ1.out)
            have c0 := kBr.cell' (i := 0) rfl
            have c1 := kBr.cell' (i := 1) rfl
            have c2 := kBr.cell' (i := 2) rfl
            clear y1 hru hrl
            go_wp2_with fail
            refine (implCoxeterPower_any _ q _ (unR V k) n _ HQ2.out HU.out ⟨by omega, by omega⟩).mono ?_; rintro e w4 ⟨xv, rfl, hX, hb4⟩
            obtain ⟨XA, xc, ex⟩ := hX.form
            subst ex
            have hbw4 := hbq.trans (hb4.mono hqs)
            have hw4 := hb4.size
            have HX := Lib.hid hX.rd
            have HU4 := Lib.hid (SlI.next hb4 HU.out)
            have HW4 := Lib.hid hbw4
            obtain ⟨XL, hXL⟩ : ∃ l, (coxP q (unR V k) n).1 = l := ⟨_, rfl⟩
            obtain ⟨ok, hok⟩ : ∃ l, (coxP q (unR V k) n).2 = l := ⟨_, rfl⟩
            rw [hXL] at HX ⊢
            rw [hok]
            have HSC := Lib.hid (show cnAll q V n (k + 1) = (b && (ok && decide (XL = unR V k))) by rw [cnAll_succ, cnOk, ← (HB.out : b = _), hXL, hok])
            clear hX hb4 hbw hbq hbw4 c0 c1 c2 y2 hXL hok kBr
            rcases b with _ | _
            · go_wp2
              go_roundw
              case rel => exact ⟨k + 1, false, by omega, by go_num, rfl, by show _ = _; rw [HSC.out]; rfl, HW4.out⟩
              case measure => simp [intOf]; omega
            · rcases ok with _ | _
              · go_wp2
                go_roundw
                case rel => exact ⟨k + 1, false, by omega, by go_num, rfl, by show _ = _; rw [HSC.out]; rfl, HW4.out⟩
                case measure => simp [intOf]; omega
              · go_wp2_with fail
                refine (slEqual_any _ _ XL (unR V k) _ HX.out HU4.out).mono ?_; rintro e w5 ⟨rfl, hb5⟩
                have HW5 := Lib.hid (HW4.out.trans (hb5.mono (by omega)))
                obtain ⟨E, hE⟩ : ∃ z, decide (XL = unR V k) = z := ⟨_, rfl⟩
                rw [hE]
                have HE := Lib.hid hE
                clear hE hb5
                go_wp2
                go_roundw
                case rel => exact ⟨k + 1, E, by omega, by go_num, rfl, by show _ = _; rw [HSC.out, HE.out]; rfl, HW5.out⟩
                case measure => simp [intOf]; omega
          · have hkV' : k = V := by omega
            obtain ⟨m, hm⟩ : ∃ m, 41 - n = m + 1 := ⟨40 - n, by omega⟩
            have hN := HN.out
            rw [hm] at hN
            simp only [cnGo] at hN
            have hb' := HB.out
            rw [hkV'] at hb'
            rw [← hb'] at hN
            have hm2 : m = 41 - (n + 1) := by omega
            rw [hm2] at hN
            have HW := Lib.hid hbw
            have HNN := Lib.hid hN
            have HG := Lib.hid (g1.trans (hbw.mono s1))
            clear hN hm hm2 hb' hkV' hbw hbq HB
            rcases b with _ | _
            · go_wp2
              go_roundw
              case rel => exact ⟨n + 1, by omega, by omega, by go_num, by show _ = _; simpa using HNN.out, HW.out⟩
              case measure => simp [intOf]; omega
            · go_wp2
              go_ret
              exact ⟨by rw [HNN.out]; rfl, HG.out⟩
      · have HNN := Lib.hid (show cnQ q = 0 by rw [(HN.out : cnQ q = _), show 41 - n = 0 by omega]; rfl)
        have HG := Lib.hid (g1.trans (hbel.mono s1))
        clear hbel
        go_wp2
        go_ret
        exact ⟨by rw [HNN.out]; rfl, HG.out⟩
  · have HF := Lib.hid (show cnQ q = 0 by rw [cnQ, hK, if_neg h1])
    have HK := Lib.hid hK
    have hne : (K != 1) = true := by rw [bne_iff_ne]; exact h1
    rw [hK] at hkr
    clear hK h1
    go_enter Try.func27, Try.ntmps27
    go_wp2_with fail
    rw [← hW]; clear hW
    refine (implKind_any _ q _ HQ.out).mono ?_; rintro e w1 ⟨rfl, hb1⟩
    rw [HK.out]
    have g1 := bthen g0 hb1
    clear hb1 c0 c1 c2 kB
    go_wp2
    go_ret
    exact ⟨by rw [HF.out]; rfl, g1⟩
end Go.Proofs.Ytaefpblpfjhgoaa

/- CoxeterNumber: the reference's. -/
namespace Go.Proofs.Ytaefpblpfjhgoaa
set_option linter.unusedVariables false
set_option linter.unusedSimpArgs false
open Go.RowKit

set_option maxHeartbeats 6400000 in
set_option maxRecDepth 100000 in
theorem specCoxeterNumber_any (u : Value) (q : Qv) (w0 : World) (hu : QvR w0 w0.heap.size u q) :
    Calls Try.prog 28 #[u] w0 fun e w' => e = .returned (.int .i64 (cnQ q)) ∧ Below w0.heap.size w0 w' := by
  have hu' := hu
  obtain ⟨A, c, C, d, rfl, hf, hT, hr, lf, lt⟩ := hu.open_
  clear hu hf hT
  obtain ⟨W, hW⟩ : ∃ W, W = w0.alloc (.cells #[.int .i64 q.v, .slice A q.f.length c, .slice C q.t.length d] 26) := ⟨_, rfl⟩
  have g0 : Below w0.heap.size w0 W := by rw [hW]; exact below_alloc _ _
  have kB : Blk W w0.heap.size 26 #[.int .i64 q.v, .slice A q.f.length c, .slice C q.t.length d] := by rw [hW]; exact Blk.new _ _ _
  have HQ := Lib.hid (QvR.next g0 hu')
  clear hu'
  have c0 := kB.cell' (i := 0) rfl
  have c1 := kB.cell' (i := 1) rfl
  have c2 := kB.cell' (i := 2) rfl
  have hkr := kindQ_rng q
  obtain ⟨K, hK⟩ : ∃ k, kindQ q = k := ⟨_, rfl⟩
  by_cases h1 : K = 1
  · have hq : isQ q = true := by
      rcases h : isQ q with _ | _
      · simp [kindQ, h] at hK; omega
      · rfl
    have hv := (isQ_t.1 hq).1
    obtain ⟨V, hV⟩ := Int.eq_ofNat_of_zero_le (show 0 ≤ q.v by omega)
    have HF := Lib.hid (show cnQ q = cnGo q V (41 - 1) 1 by rw [cnQ, hK, if_pos h1, hV]; rfl)
    have HK := Lib.hid hK
    have hV5 : V ≤ 5 := by omega
    replace HQ := Lib.hid (show QvR W W.heap.size (.agg #[.int .i64 (V : Int), .slice A q.f.length c, .slice C q.t.length d]) q by rw [← hV]; exact HQ.out)
    rw [hV] at kB c0 hW ⊢
    clear hq hv hV hkr hK
    subst h1
    go_enter Try.func28, Try.ntmps28
    go_wp2_with fail
    rw [← hW]; clear hW
    refine (specKind_any _ q _ HQ.out).mono ?_; rintro e w1 ⟨rfl, hb1⟩
    rw [HK.out]
    have g1 := bthen g0 hb1
    have kB1 := kB.call hb1
    have HQ1 := Lib.hid (QvR.next hb1 HQ.out)
    have s1 := g1.size
    clear hb1 c0 c1 c2 kB g0 HQ
    go_wp2
    go_loopw [3] (fun i wr => ∃ n : Nat, 1 ≤ n ∧ n ≤ 41 ∧ i = .int .i64 n ∧ Hid (cnQ q = cnGo q V (41 - n) n) ∧ Below w1.heap.size w1 wr) (fun i _ => 41 - (intOf i).toNat)
    case atStart => exact ⟨1, by omega, by omega, rfl, HF, Below.refl _ _⟩
    case round =>
      obtain ⟨n, hn1, hn, rfl, HN, hbel⟩ := hrel
      by_cases hlt : n < 41
      · have kBr := kB1.call hbel
        have c0 := kBr.cell' (i := 0) rfl
        have hws := hbel.size
        have hdn : decide ((n : Int) ≤ 40) = true := decide_eq_true (by omega)
        go_wp2
        clear c0 kBr hdn
        obtain ⟨w3, hw3⟩ : ∃ z, z = wr := ⟨_, rfl⟩
        subst hw3
        have HB13 := Lib.hid hbel
        clear hbel
        go_loopw [4, 5] (fun a i wr => ∃ (k : Nat) (b : Bool), k ≤ V ∧ i = .int .i64 k ∧ a = .bool b ∧ Hid (b = cnAll q V n k) ∧ Below w3.heap.size w3 wr) (fun _ i _ => V - (intOf i).toNat)
        case atStart => exact ⟨0, true, Nat.zero_le _, rfl, rfl, by show _ = _; simp [cnAll], Below.refl _ _⟩
        case round =>
          obtain ⟨k, b, hk, rfl, rfl, HB, hbq⟩ := hrel
          have hqs := hbq.size
          have hbw := HB13.out.trans (hbq.mono (by omega))
          have kBr := kB1.call hbw
          have c0 := kBr.cell' (i := 0) rfl
          by_cases hkV : k < V
          · obtain ⟨X1, hX1⟩ : ∃ z, z = wr.alloc (.cells (mkCells (.int .i64 0) V) 3) := ⟨_, rfl⟩
            have hmk := run_mkI wr (n := V) (by omega)
            rw [← hX1] at hmk
            have bX1 : Below wr.heap.size wr X1 := by rw [hX1]; exact below_alloc _ _
            have rX1 : IntsO X1 wr.heap.size X1.heap.size (.slice (some ⟨wr.heap.size, 0, none⟩) V V) (List.replicate V 0) := by
              rw [hX1]
              exact IntsO.of_own (OwnI.made0 (Nat.le_refl _) (by omega))
            have y3 := (rX1.1.cellG (j := k) (by simpa using hkV)).1
            have y4 := rX1.1.frozenG k
            have pt := rX1.put (j := k) (x := 1) ⟨by omega, by omega⟩
            have hun : (List.replicate V (0 : Int)).set k 1 = unR V k := by
              rw [show List.replicate V (0 : Int) = rowF V (fun _ => 0) from by rw [rowF, List.map_const', List.length_range], rowF_set]
              refine rowF_congr fun b _ => ?_
              simp only [idF]
              by_cases e : b = k
              · rw [if_pos e, if_pos e.symm]
              · rw [if_neg e, if_neg fun h => e h.symm]
            rw [hun] at pt
            obtain ⟨Z, hZ⟩ : ∃ z, z = X1.setCell ⟨wr.heap.size, k, none⟩ (.int .i64 1) := ⟨_, rfl⟩
            rw [← hZ] at pt
            have hc : Chg wr.heap.size (wr.heap.size + 1) X1 Z := by rw [hZ]; exact chg_set (Nat.le_refl _) (Nat.lt_succ_self _)
            have bZ : Below wr.heap.size wr Z := bX1.trans (hc.below (Nat.le_refl _) bX1.size)
            have hbw' := hbw.trans (bZ.mono (by omega))
            have hbq' := hbq.trans (bZ.mono (by omega))
            have hZs := bZ.size
            have HU := Lib.hid (show SlI Z Z.heap.size (.slice (some ⟨wr.heap.size, 0, none⟩) V V) (unR V k) from pt.rd)
            have kBZ := kB1.call hbw'
            have HQ2 := Lib.hid (QvR.next hbw' HQ1.out)
            have d0 := kBZ.cell' (i := 0) rfl
            have d1 := kBZ.cell' (i := 1) rfl
            have d2 := kBZ.cell' (i := 2) rfl
            rw [hZ] at d0 d1 d2
            have p0 := (kBr.call bX1).cell' (i := 0) rfl
            clear pt hc bZ rX1 bX1 hX1 hun kBr hbq
            go_wp2_with fail
            rw [← hZ]
            clear hZ d0 d1 d2 p0 y3 y4 c0 hmk
            refine (specCoxeterPower_any _ q _ (unR V k) n _ HQ2.out HU.out ⟨by omega, by omega⟩).mono ?_; rintro e w4 ⟨xv, rfl, hX, hb4⟩
            obtain ⟨XA, xc, ex⟩ := hX.form
            subst ex
            have hbw4 := hbq'.trans (hb4.mono (by omega))
            have hw4 := hb4.size
            have HX := Lib.hid hX.rd
            have HU4 := Lib.hid (SlI.next hb4 HU.out)
            have HW4 := Lib.hid hbw4
            obtain ⟨XL, hXL⟩ : ∃ l, (coxP q (unR V k) n).1 = l := ⟨_, rfl⟩
            obtain ⟨ok, hok⟩ : ∃ l, (coxP q (unR V k) n).2 = l := ⟨_, rfl⟩
            rw [hXL] at HX ⊢
            rw [hok]
            have HSC := Lib.hid (show cnAll q V n (k + 1) = (b && (ok && decide (unR V k = XL))) by rw [cnAll_succ, cnOk, ← (HB.out : b = _), hXL, hok]; simp only [eq_comm (a := XL)])
            clear hX hb4 hbw hbw' hbq' hbw4 hXL hok
            rcases b with _ | _
            · go_wp2
              go_roundw
              case rel => exact ⟨k + 1, false, by omega, by go_num, rfl, by show _ = _; rw [HSC.out]; rfl, HW4.out⟩
              case measure => simp [intOf]; omega
            · rcases ok with _ | _
              · go_wp2
                go_roundw
                case rel => exact ⟨k + 1, false, by omega, by go_num, rfl, by show _ = _; rw [HSC.out]; rfl, HW4.out⟩
                case measure => simp [intOf]; omega
              · go_wp2_with fail
                refine (l6Same_any _ _ (unR V k) XL _ HU4.out HX.out).mono ?_; rintro e w5 ⟨rfl, hb5⟩
                have HW5 := Lib.hid (HW4.out.trans (hb5.mono (by omega)))
                obtain ⟨E, hE⟩ : ∃ z, decide (unR V k = XL) = z := ⟨_, rfl⟩
                rw [hE]
                have HE := Lib.hid hE
                clear hE hb5
                go_wp2
                go_roundw
                case rel => exact ⟨k + 1, E, by omega, by go_num, rfl, by show _ = _; rw [HSC.out, HE.out]; rfl, HW5.out⟩
                case measure => simp [intOf]; omega
          · have hkV' : k = V := by omega
            obtain ⟨m, hm⟩ : ∃ m, 41 - n = m + 1 := ⟨40 - n, by omega⟩
            have hN := HN.out
            rw [hm] at hN
            simp only [cnGo] at hN
            have hb' := HB.out
            rw [hkV'] at hb'
            rw [← hb'] at hN
            have hm2 : m = 41 - (n + 1) := by omega
            rw [hm2] at hN
            have HW := Lib.hid hbw
            have HNN := Lib.hid hN
            have HG := Lib.hid (g1.trans (hbw.mono s1))
            clear hN hm hm2 hb' hkV' hbw hbq HB kBr
            rcases b with _ | _
            · go_wp2
              go_roundw
              case rel => exact ⟨n + 1, by omega, by omega, by go_num, by show _ = _; simpa using HNN.out, HW.out⟩
              case measure => simp [intOf]; omega
            · go_wp2
              go_ret
              exact ⟨by rw [HNN.out]; rfl, HG.out⟩
      · have HNN := Lib.hid (show cnQ q = 0 by rw [(HN.out : cnQ q = _), show 41 - n = 0 by omega]; rfl)
        have HG := Lib.hid (g1.trans (hbel.mono s1))
        clear hbel
        go_wp2
        go_ret
        exact ⟨by rw [HNN.out]; rfl, HG.out⟩
  · have HF := Lib.hid (show cnQ q = 0 by rw [cnQ, hK, if_neg h1])
    have HK := Lib.hid hK
    have hne : (K != 1) = true := by rw [bne_iff_ne]; exact h1
    rw [hK] at hkr
    clear hK h1
    go_enter Try.func28, Try.ntmps28
    go_wp2_with fail
    rw [← hW]; clear hW
    refine (specKind_any _ q _ HQ.out).mono ?_; rintro e w1 ⟨rfl, hb1⟩
    rw [HK.out]
    have g1 := bthen g0 hb1
    clear hb1 c0 c1 c2 kB
    go_wp2
    go_ret
    exact ⟨by rw [HF.out]; rfl, g1⟩
end Go.Proofs.Ytaefpblpfjhgoaa

/- The law FnReflections: its walk. -/
namespace Go.Proofs.Ytaefpblpfjhgoaa
set_option linter.unusedVariables false
set_option linter.unusedSimpArgs false
open Go.RowKit

def smB (y : List Int) (k : Nat) : Prop := ∀ z ∈ y.take k, -100 ≤ z ∧ z ≤ 100
theorem smB_succ {y : List Int} {k : Nat} {z : Int} (h : smB y k) (hz : y[k]? = some z) (h1 : -100 ≤ z) (h2 : z ≤ 100) : smB y (k + 1) := by
  intro t ht
  rw [take_snoc hz] at ht
  rcases List.mem_append.1 ht with h' | h'
  · exact h t h'
  · rw [List.mem_singleton.1 h']; exact ⟨h1, h2⟩
theorem dmJ_small {q : Qv} (ha : acyQ q = true) (i : Int) {j : Nat} {z : Int} (h : (dmJ q i)[j]? = some z) : -1 ≤ z ∧ z ≤ 64 := by
  have hm := List.mem_of_getElem? h
  rw [dmJ_row] at hm
  split at hm
  · rw [rowF] at hm
    obtain ⟨w, _, rfl⟩ := List.mem_map.1 hm
    rw [cpQ]
    split
    · have := cN_le64 ha 4 (w : Int) i
      omega
    · omega
  · simp at hm
set_option maxHeartbeats 3200000 in
set_option maxRecDepth 100000 in
theorem fnReflections_any (u : Value) (l : List Int) (w0 : World) (hu : SlY w0 w0.heap.size u l) :
    Calls Try.prog 3 #[u] w0 fun e w' => e = .returned (.bool true) ∧ Below w0.heap.size w0 w' := by
  have HU := Lib.hid hu
  clear hu
  go_enter Try.func3, Try.ntmps3
  go_wp2_with fail
  refine (big_any u l _ HU.out).mono ?_; rintro e w1 ⟨rfl, hb1⟩
  obtain ⟨B, hB⟩ : ∃ B, decide ((l.length : Int) > 1048576) = B := ⟨_, rfl⟩
  rw [hB]
  clear hB
  have HY1 := Lib.hid (SlY.next hb1 HU.out)
  have G1 := Lib.hid hb1
  have hs1 := hb1.size
  clear HU hb1
  cases B
  rotate_left
  · go_wp2
    go_ret
    exact ⟨rfl, G1.out⟩
  go_wp2_with fail
  refine (drawReflectDims_any u l _ HY1.out).mono ?_; rintro e w2 ⟨v, q, X, x, k, rfl, hq, _, _, hx, _, hk, hb2⟩
  obtain ⟨A, a2, C, d2, rfl⟩ := hq.form
  have HY2 := SlY.next hb2 HY1.out
  have g2 := G1.out.trans (hb2.mono hs1)
  have hs2 := hb2.size
  clear HY1 hb2 G1
  obtain ⟨W3, hW3⟩ : ∃ z, w2.alloc (.cells #[.int .i64 q.v, .slice A q.f.length a2, .slice C q.t.length d2] 26) = z := ⟨_, rfl⟩
  have ga : Below w2.heap.size w2 W3 := by rw [← hW3]; exact below_alloc _ _
  obtain ⟨gq, hgq⟩ : ∃ z, w2.heap.size = z := ⟨_, rfl⟩
  have hgq2 : w2.heap.size ≤ gq ∧ gq ≤ w2.heap.size := by omega
  have kq : Blk W3 gq 26 #[.int .i64 q.v, .slice A q.f.length a2, .slice C q.t.length d2] := by rw [← hW3, ← hgq]; exact Blk.new _ _ _
  have g3 := g2.trans (ga.mono (by omega))
  have hs3 := ga.size
  have hq3 := hq.next ga
  have hx3 := SlI.next ga hx
  have HY3 := SlY.next ga HY2
  clear HY2 g2 ga hq hx
  have z0 := kq.cell' (i := 0) rfl
  have z1 := kq.cell' (i := 1) rfl
  have z2 := kq.cell' (i := 2) rfl
  obtain ⟨⟨y, b⟩, hR⟩ : ∃ z, reflQ q x k = z := ⟨_, rfl⟩
  have HR := Lib.hid hR
  clear hR
  go_wp2_with fail
  clear hW3 hgq
  refine (implReflectDims_any _ q _ x k _ hq3 hx3 hk).mono ?_; rintro e w4 ⟨r1, rfl, hr1, hb4⟩
  rw [HR.out] at hr1 ⊢
  simp only at hr1 ⊢
  have kq4 := kq.call hb4
  have hq4 := hq3.next hb4
  have hx4 := SlI.next hb4 hx3
  have HY4 := SlY.next hb4 HY3
  have g4 := g3.trans (hb4.mono (by omega))
  have hs4 := hb4.size
  clear kq hq3 hx3 HY3 g3 hb4 z0 z1 z2
  have z0 := kq4.cell' (i := 0) rfl
  have z1 := kq4.cell' (i := 1) rfl
  have z2 := kq4.cell' (i := 2) rfl
  go_wp2_with fail
  refine (specReflectDims_any _ q _ x k _ hq4 hx4 hk).mono ?_; rintro e w5 ⟨r2, rfl, hr2, hb5⟩
  rw [HR.out] at hr2 ⊢
  simp only at hr2 ⊢
  have kq5 := kq4.call hb5
  have hq5 := hq4.next hb5
  have hx5 := SlI.next hb5 hx4
  have HY5 := SlY.next hb5 HY4
  have g5 := g4.trans (hb5.mono (by omega))
  have hs5 := hb5.size
  have hr15 := (hr1.below hb5).rd
  have hr25 := hr2.rd
  clear kq4 hq4 hx4 HY4 g4 hb5 z0 z1 z2 hr1 hr2
  go_wp2_with fail
  refine (sameI_any _ _ y _ hr15 hr25).mono ?_; rintro e w6 ⟨rfl, hb6⟩
  have kq6 := kq5.call hb6
  have hq6 := hq5.next hb6
  have hx6 := SlI.next hb6 hx5
  have HY6 := SlY.next hb6 HY5
  have g6 := g5.trans (hb6.mono (by omega))
  have hs6 := hb6.size
  have hr6 := SlI.next hb6 hr25
  clear kq5 hq5 hx5 HY5 g5 hb6 hr15 hr25
  have HK := Lib.hid kq6
  have HQ := Lib.hid hq6
  have HX := Lib.hid hx6
  have HY := Lib.hid HY6
  have HG := Lib.hid g6
  obtain ⟨R, rc, rfl, _, _, _, hr6⟩ := hr6.open_
  have HR2 := Lib.hid hr6
  clear kq6 hq6 hx6 HY6 g6 hr6
  go_wp2
  go_loopw [10, 11] (fun bv iv wr => ∃ (i : Nat) (B : Bool), i ≤ y.length ∧ iv = .int .i64 i ∧ bv = .bool B ∧ (B = true → smB y i) ∧ wr = w6) (fun _ iv _ => y.length - (intOf iv).toNat)
  case atStart => exact ⟨0, true, Nat.zero_le _, rfl, rfl, fun _ z hz => by simp at hz, rfl⟩
  case round =>
    obtain ⟨i, B, hi, rfl, rfl, hB, rfl⟩ := hrel
    have HB := Lib.hid hB
    clear hB
    by_cases hlt : i < y.length
    · obtain ⟨rb, ro, z, rfl, _, HZ, rz, hz⟩ := SlI.at_ HR2.out hlt
      cases B
      · go_wp2
        go_roundw
        case rel => exact ⟨i + 1, false, by omega, by go_num, rfl, fun h => by simp at h, trivial⟩
        case measure => simp [intOf]; omega
      · by_cases h1 : -100 ≤ z
        · by_cases h2 : z ≤ 100
          · have HS := Lib.hid (smB_succ (HB.out rfl) HZ.out h1 h2)
            go_wp2
            go_roundw
            case rel => exact ⟨i + 1, true, by omega, by go_num, rfl, fun _ => HS.out, trivial⟩
            case measure => simp [intOf]; omega
          · go_wp2
            go_roundw
            case rel => exact ⟨i + 1, false, by omega, by go_num, rfl, fun h => by simp at h, trivial⟩
            case measure => simp [intOf]; omega
        · go_wp2
          go_roundw
          case rel => exact ⟨i + 1, false, by omega, by go_num, rfl, fun h => by simp at h, trivial⟩
          case measure => simp [intOf]; omega
    · obtain rfl : i = y.length := by omega
      go_upto_region 13 with fail
      go_cut [105] from 102 to 105 (fun s wx => s = .bool (b && B) ∧ wx = wr)
      case first => cases b <;> cases B <;> (go_wp2; go_meet; exact ⟨rfl, rfl⟩)
      case rest =>
        obtain ⟨rfl, hwc⟩ := hcut
        replace hwc := hwc.symm
        subst hwc
        obtain ⟨c, hc⟩ : ∃ c, (b && B) = c := ⟨_, rfl⟩
        rw [hc]
        have HBB := Lib.hid hc
        clear hc
        go_upto_if 105 with fail
        go_cut [12, 13] from 106 to 129 (fun s s' wx => Blk wx gq 26 #[.int .i64 q.v, .slice A q.f.length a2, .slice C q.t.length d2] ∧ QvR wx wx.heap.size (.agg #[.int .i64 q.v, .slice A q.f.length a2, .slice C q.t.length d2]) q ∧ SlY wx wx.heap.size u l ∧ Below w0.heap.size w0 wx)
        case first =>
          cases c
          · go_wp2
            go_meet
            case rel => exact ⟨HK.out, HQ.out, HY.out, HG.out⟩
          · have hbt : b = true ∧ B = true := by have := HBB.out; simpa using this
            obtain ⟨rfl, rfl⟩ := hbt
            have hR2 : (reflQ q x k).2 = true := by rw [HR.out]
            have hsm : ∀ z ∈ (reflQ q x k).1, -100 ≤ z ∧ z ≤ 100 := by
              rw [HR.out]
              have h1 := HB.out rfl
              unfold smB at h1
              rwa [List.take_of_length_le (Nat.le_refl _)] at h1
            have hbk := refl_back hR2 hsm
            have hN0 := (refl_yes hR2).1
            rw [HR.out] at hbk
            simp only at hbk
            obtain ⟨hN1, hback, heul⟩ := hbk
            have HT := Lib.hid (show tfQ q y = tfQ q x by rw [tfQ, tfQ, hN0, hN1]; simpa using heul)
            have HBK := Lib.hid hback
            clear hR2 hsm hN0 hN1 hback heul HB
            have z0 := HK.out.cell' (i := 0) rfl
            have z1 := HK.out.cell' (i := 1) rfl
            have z2 := HK.out.cell' (i := 2) rfl
            go_wp2_with fail
            refine (implReflectDims_any _ q _ y k _ HQ.out HR2.out hk).mono ?_; rintro e w7 ⟨r3, rfl, hr3, hb7⟩
            rw [HBK.out] at hr3 ⊢
            simp only at hr3 ⊢
            have HK7 := HK.out.call hb7
            have hs7 := hb7.size
            have HQ7 := Lib.hid (HQ.out.next hb7)
            have HX7 := Lib.hid (SlI.next hb7 HX.out)
            have HR7 := Lib.hid (SlI.next hb7 HR2.out)
            have HY7 := Lib.hid (SlY.next hb7 HY.out)
            have HG7 := Lib.hid (HG.out.trans (hb7.mono (by omega)))
            have HR3 := Lib.hid hr3.rd
            clear hb7 z0 z1 z2 hr3 HQ HX HR2 HY HG
            have hgq7 : gq < w7.heap.size := HK7.lt
            have y0 := HK7.cell' (i := 0) rfl
            have y1 := HK7.cell' (i := 1) rfl
            have y2 := HK7.cell' (i := 2) rfl
            have z0 := InB.cell hgq7 y0
            have z1 := InB.cell hgq7 y1
            have z2 := InB.cell hgq7 y2
            have HKK := Lib.hid HK7
            clear HK7 y0 y1 y2
            obtain ⟨TT, hTT⟩ : ∃ z, tfQ q x = z := ⟨_, rfl⟩
            have HTT := Lib.hid hTT
            clear hTT
            have HCS := Lib.hid (show ∀ s : InB w7, Calls Try.prog 8 #[r3, X] s.val fun e w' => e = .returned (.bool true) ∧ Below s.val.heap.size s.val w' from fun s => by
              exact sameI_any _ _ x _ (SlI.next s.below HR3.out) (SlI.next s.below HX7.out))
            have HCY := Lib.hid (show ∀ (s : InB w7) (args : Array Value), (args = #[.agg #[.int .i64 q.v, .slice A q.f.length a2, .slice C q.t.length d2], .slice R y.length rc] ∨ args = #[.agg #[.int .i64 q.v, .slice A q.f.length a2, .slice C q.t.length d2], X]) → Calls Try.prog 9 args s.val fun e w' => e = .returned (.int .i64 TT) ∧ Below s.val.heap.size s.val w' from fun s args h => by
              rcases h with rfl | rfl
              · have h := implTits_any _ _ q y _ (QvR.next s.below HQ7.out) (SlI.next s.below HR7.out)
                rw [HT.out, HTT.out] at h
                exact h
              · have h := implTits_any _ _ q x _ (QvR.next s.below HQ7.out) (SlI.next s.below HX7.out)
                rw [HTT.out] at h
                exact h)
            go_upto_region 15 with fail
            (refine wp_region_inB (by kernel_rfl) (by kernel_rfl) ?_; (repeat (go_big_quiet_step (first | (go_at_call 8; exact InB.call (HCS.out _)) | (go_at_call 9; exact InB.call (HCY.out _ _ (by first | exact Or.inl rfl | exact Or.inr rfl)))))); refine wpQuiet_nil ?_; intro w1 hw'; obtain ⟨s1, hw1⟩ := hw'; have hb1 := s1.below; rw [← hw1] at hb1; clear hw1 s1)
            have HKF := Lib.hid (HKK.out.call hb1)
            have HQF := Lib.hid (HQ7.out.next hb1)
            have HYF := Lib.hid (SlY.next hb1 HY7.out)
            have HGF := Lib.hid (HG7.out.trans (hb1.mono (by omega)))
            clear hb1
            go_wp2
            go_meet
            case rel => exact ⟨HKF.out, HQF.out, HYF.out, HGF.out⟩
        case rest =>
          clear HK HQ HX HY HG HR2 HR HB HBB
          obtain ⟨kq8, hq8, hy8, g8⟩ := hcut
          obtain ⟨w8, hw8⟩ : ∃ z, z = wc := ⟨_, rfl⟩
          subst hw8
          have hr8 : I64 q.v := by obtain ⟨_, _, _, _, _, hV⟩ := hq8; exact hV
          obtain ⟨hr81, hr82⟩ := hr8
          have HK := Lib.hid kq8
          have HQ := Lib.hid hq8
          have HY := Lib.hid hy8
          have HG := Lib.hid g8
          clear kq8 hq8 hy8 g8
          go_upto_block 2 with fail
          go_cut [14, 15, 16, 17, 18] from 130 to 175 (fun _ _ _ _ _ wx => SlY wx wx.heap.size u l ∧ Below w0.heap.size w0 wx)
          case first =>
            go_wp2_with fail
            go_loopw [14, 15, 16, 17, 18] (fun iv _ _ _ _ wr => ∃ i : Nat, i ≤ q.v.toNat ∧ iv = .int .i64 i ∧ Blk wr gq 26 #[.int .i64 q.v, .slice A q.f.length a2, .slice C q.t.length d2] ∧ QvR wr wr.heap.size (.agg #[.int .i64 q.v, .slice A q.f.length a2, .slice C q.t.length d2]) q ∧ SlY wr wr.heap.size u l ∧ Below w0.heap.size w0 wr) (fun iv _ _ _ _ _ => q.v.toNat - (intOf iv).toNat)
            case atStart => exact ⟨0, Nat.zero_le _, rfl, HK.out, HQ.out, HY.out, HG.out⟩
            case round =>
              clear HK HQ HY HG
              obtain ⟨i, hi, rfl, kr, hqr, hyr, gr⟩ := hrel
              obtain ⟨wl, hwl⟩ : ∃ z, z = wr := ⟨_, rfl⟩
              subst hwl
              have z0 := kr.cell' (i := 0) rfl
              have z1 := kr.cell' (i := 1) rfl
              have z2 := kr.cell' (i := 2) rfl
              have HK := Lib.hid kr
              have HQ := Lib.hid hqr
              have HY := Lib.hid hyr
              have HG := Lib.hid gr
              have hwl0 := gr.size
              clear kr hqr hyr gr
              by_cases hlt : (i : Int) < q.v
              · rcases hac : acyQ q with _ | _
                · have HA := Lib.hid hac
                  clear hac
                  go_wp2_with fail
                  refine (specIsAcyclic_any _ q _ HQ.out).mono ?_; rintro e w9 ⟨rfl, hb9⟩
                  rw [HA.out]
                  have HYF := Lib.hid (SlY.next hb9 HY.out)
                  have HGF := Lib.hid (HG.out.trans (hb9.mono (by omega)))
                  clear hb9 z0 z1 z2
                  go_wp2
                  go_meet
                  case rel => exact ⟨HYF.out, HGF.out⟩
                · have HCX := Lib.hid (cox_proj hac (u := (i : Int)) (by omega) (by omega))
                  have HJS := Lib.hid (fun (j : Nat) (z : Int) h => dmJ_small (q := q) hac (i : Int) (j := j) (z := z) h)
                  have HA := Lib.hid hac
                  clear hac
                  go_wp2_with fail
                  refine (specIsAcyclic_any _ q _ HQ.out).mono ?_; rintro e w9 ⟨rfl, hb9⟩
                  rw [HA.out]
                  have hs9 := hb9.size
                  have HK9 := Lib.hid (HK.out.call hb9)
                  have HQ9 := Lib.hid (HQ.out.next hb9)
                  have HY9 := Lib.hid (SlY.next hb9 HY.out)
                  have HG9 := Lib.hid (HG.out.trans (hb9.mono (by omega)))
                  clear hb9 z0 z1 z2 HK HQ HY HG
                  go_wp2_with fail
                  refine wp_region_net (by kernel_rfl) [.eq (.agg #[.int .i64 q.v, .slice A q.f.length a2, .slice C q.t.length d2]), .eq (.agg #[.int .i64 q.v, .slice A q.f.length a2, .slice C q.t.length d2]), .eq (.int .i64 i), rel 3 (fun u lo hi w => IntsO w lo hi u (dmQ q i)), rel 4 (fun u lo hi w => ∃ r, u = .tuple #[r, .bool true] ∧ SlI w w.heap.size r ((dmJ q i).map fun y => -y)), rel 5 (fun u lo hi w => ∃ r, u = .tuple #[r, .bool true] ∧ SlI w w.heap.size r ((dmJ q i).map fun y => -y)), rel 6 (fun u lo hi w => SlI w w.heap.size u ((dmJ q i).map fun y => -y)), rel 7 (fun u lo hi w => u = .bool true), rel 8 (fun u lo hi w => SlI w w.heap.size u ((dmJ q i).map fun y => -y))] [[], [], [], [1, 2], [0, 1, 2, 3], [0, 1, 2, 3, 4], [0, 1, 2, 3, 4, 5], [0, 1, 2, 3, 4, 5], [0, 1, 2, 3, 4, 5, 6], [0, 1, 2, 3, 4, 5, 6, 7, 8]] 9 (by kernel_rfl) ⟨trivial, trivial, trivial, rel_stable (fun u lo hi w w' h hb => h.below hb), rel_stable (fun u lo hi w w' ⟨r, h1, h2⟩ hb => ⟨r, h1, SlI.next hb h2⟩), rel_stable (fun u lo hi w w' ⟨r, h1, h2⟩ hb => ⟨r, h1, SlI.next hb h2⟩), rel_stable (fun u lo hi w w' h hb => SlI.next hb h), rel_stable (fun u lo hi w w' h hb => h), rel_stable (fun u lo hi w w' h hb => SlI.next hb h), trivial⟩ ⟨?_, ?_, ?_, ?_, ?_, ?_, ?_, ?_, ?_, trivial⟩ ?_
                  · intro x w hb hk Q' hQ
                    clear hk
                    simp only [netAct, dstAt, List.getElem?_toArray, List.getElem?_cons_zero, List.getElem?_cons_succ, Option.bind_some, Act.put, List.setIfInBounds_toArray, List.set_cons_zero, List.set_cons_succ] at hQ ⊢
                    have z0 := (HK9.out.call hb).cell' (i := 0) rfl
                    have z1 := (HK9.out.call hb).cell' (i := 1) rfl
                    have z2 := (HK9.out.call hb).cell' (i := 2) rfl
                    go_wp2
                    exact hQ (.agg #[.int .i64 q.v, .slice A q.f.length a2, .slice C q.t.length d2]) _ (Below.refl _ _) rfl
                  · intro x w hb hk Q' hQ
                    clear hk
                    simp only [netAct, dstAt, List.getElem?_toArray, List.getElem?_cons_zero, List.getElem?_cons_succ, Option.bind_some, Act.put, List.setIfInBounds_toArray, List.set_cons_zero, List.set_cons_succ] at hQ ⊢
                    have z0 := (HK9.out.call hb).cell' (i := 0) rfl
                    have z1 := (HK9.out.call hb).cell' (i := 1) rfl
                    have z2 := (HK9.out.call hb).cell' (i := 2) rfl
                    go_wp2
                    exact hQ (.agg #[.int .i64 q.v, .slice A q.f.length a2, .slice C q.t.length d2]) _ (Below.refl _ _) rfl
                  · intro x w hb hk Q' hQ
                    clear hk
                    simp only [netAct, dstAt, List.getElem?_toArray, List.getElem?_cons_zero, List.getElem?_cons_succ, Option.bind_some, Act.put, List.setIfInBounds_toArray, List.set_cons_zero, List.set_cons_succ] at hQ ⊢
                    go_wp2
                    exact hQ (.int .i64 i) _ (Below.refl _ _) rfl
                  · intro x w hb hk Q' hQ
                    have h1 : x.v 1 = .agg #[.int .i64 q.v, .slice A q.f.length a2, .slice C q.t.length d2] := (hk 1 (by decide)).1
                    have h2 : x.v 2 = .int .i64 i := (hk 2 (by decide)).1
                    clear hk
                    simp only [netAct, dstAt, List.getElem?_toArray, List.getElem?_cons_zero, List.getElem?_cons_succ, Option.bind_some, Act.put, List.setIfInBounds_toArray, List.set_cons_zero, List.set_cons_succ] at hQ ⊢
                    simp only [h1, h2] at hQ ⊢
                    clear h1 h2
                    go_wp2_with fail
                    refine (specProjectiveDims_any _ q i _ (HQ9.out.next hb) ⟨by omega, by omega⟩).mono ?_; rintro e w10 ⟨o, rfl, ho, hb10⟩
                    go_wp2
                    exact hQ _ _ hb10 (IntsO.of_own ho)
                  · intro x w hb hk Q' hQ
                    have h0 : x.v 0 = .agg #[.int .i64 q.v, .slice A q.f.length a2, .slice C q.t.length d2] := (hk 0 (by decide)).1
                    have h1 : x.v 1 = .agg #[.int .i64 q.v, .slice A q.f.length a2, .slice C q.t.length d2] := (hk 1 (by decide)).1
                    have h2 : x.v 2 = .int .i64 i := (hk 2 (by decide)).1
                    have h3 : IntsO w (x.lo 3) (x.hi 3) (x.v 3) (dmQ q i) := (hk 3 (by decide)).1
                    have s3 := (hk 3 (by decide)).2
                    clear hk
                    simp only [netAct, dstAt, List.getElem?_toArray, List.getElem?_cons_zero, List.getElem?_cons_succ, Option.bind_some, Act.put, List.setIfInBounds_toArray, List.set_cons_zero, List.set_cons_succ] at hQ ⊢
                    simp only [h0, h1, h2] at hQ ⊢
                    clear h0 h1 h2
                    go_wp2_with fail
                    refine (implCoxeterOf_any _ q _ (dmQ q i) _ (HQ9.out.next hb) h3.rd).mono ?_; rintro e w10 ⟨r, rfl, hr, hb10⟩
                    rw [HCX.out] at hr ⊢
                    go_wp2
                    exact hQ _ _ hb10 ⟨r, rfl, hr.rd⟩
                  · intro x w hb hk Q' hQ
                    have h0 : x.v 0 = .agg #[.int .i64 q.v, .slice A q.f.length a2, .slice C q.t.length d2] := (hk 0 (by decide)).1
                    have h1 : x.v 1 = .agg #[.int .i64 q.v, .slice A q.f.length a2, .slice C q.t.length d2] := (hk 1 (by decide)).1
                    have h2 : x.v 2 = .int .i64 i := (hk 2 (by decide)).1
                    have h3 : IntsO w (x.lo 3) (x.hi 3) (x.v 3) (dmQ q i) := (hk 3 (by decide)).1
                    have h4 : ∃ r, (x.v 4) = .tuple #[r, .bool true] ∧ SlI w w.heap.size r ((dmJ q i).map fun y => -y) := (hk 4 (by decide)).1
                    have s3 := (hk 3 (by decide)).2
                    have s4 := (hk 4 (by decide)).2
                    clear hk
                    simp only [netAct, dstAt, List.getElem?_toArray, List.getElem?_cons_zero, List.getElem?_cons_succ, Option.bind_some, Act.put, List.setIfInBounds_toArray, List.set_cons_zero, List.set_cons_succ] at hQ ⊢
                    simp only [h0, h1, h2] at hQ ⊢
                    clear h0 h1 h2
                    obtain ⟨r, e, hr⟩ := h4
                    have hQ' := hQ (.tuple #[r, .bool true]) w (Below.refl _ _) ⟨r, rfl, hr⟩
                    rw [e] at hQ' ⊢
                    clear hQ e
                    go_wp2
                    exact hQ'
                  · intro x w hb hk Q' hQ
                    have h0 : x.v 0 = .agg #[.int .i64 q.v, .slice A q.f.length a2, .slice C q.t.length d2] := (hk 0 (by decide)).1
                    have h1 : x.v 1 = .agg #[.int .i64 q.v, .slice A q.f.length a2, .slice C q.t.length d2] := (hk 1 (by decide)).1
                    have h2 : x.v 2 = .int .i64 i := (hk 2 (by decide)).1
                    have h3 : IntsO w (x.lo 3) (x.hi 3) (x.v 3) (dmQ q i) := (hk 3 (by decide)).1
                    have h4 : ∃ r, (x.v 4) = .tuple #[r, .bool true] ∧ SlI w w.heap.size r ((dmJ q i).map fun y => -y) := (hk 4 (by decide)).1
                    have h5 : ∃ r, (x.v 5) = .tuple #[r, .bool true] ∧ SlI w w.heap.size r ((dmJ q i).map fun y => -y) := (hk 5 (by decide)).1
                    have s3 := (hk 3 (by decide)).2
                    have s4 := (hk 4 (by decide)).2
                    have s5 := (hk 5 (by decide)).2
                    clear hk
                    simp only [netAct, dstAt, List.getElem?_toArray, List.getElem?_cons_zero, List.getElem?_cons_succ, Option.bind_some, Act.put, List.setIfInBounds_toArray, List.set_cons_zero, List.set_cons_succ] at hQ ⊢
                    simp only [h0, h1, h2] at hQ ⊢
                    clear h0 h1 h2
                    obtain ⟨r, e, hr⟩ := h5
                    have hQ' := hQ r w (Below.refl _ _) hr
                    rw [e] at hQ' ⊢
                    clear hQ e
                    go_wp2
                    exact hQ'
                  · intro x w hb hk Q' hQ
                    have h0 : x.v 0 = .agg #[.int .i64 q.v, .slice A q.f.length a2, .slice C q.t.length d2] := (hk 0 (by decide)).1
                    have h1 : x.v 1 = .agg #[.int .i64 q.v, .slice A q.f.length a2, .slice C q.t.length d2] := (hk 1 (by decide)).1
                    have h2 : x.v 2 = .int .i64 i := (hk 2 (by decide)).1
                    have h3 : IntsO w (x.lo 3) (x.hi 3) (x.v 3) (dmQ q i) := (hk 3 (by decide)).1
                    have h4 : ∃ r, (x.v 4) = .tuple #[r, .bool true] ∧ SlI w w.heap.size r ((dmJ q i).map fun y => -y) := (hk 4 (by decide)).1
                    have h5 : ∃ r, (x.v 5) = .tuple #[r, .bool true] ∧ SlI w w.heap.size r ((dmJ q i).map fun y => -y) := (hk 5 (by decide)).1
                    have s3 := (hk 3 (by decide)).2
                    have s4 := (hk 4 (by decide)).2
                    have s5 := (hk 5 (by decide)).2
                    clear hk
                    simp only [netAct, dstAt, List.getElem?_toArray, List.getElem?_cons_zero, List.getElem?_cons_succ, Option.bind_some, Act.put, List.setIfInBounds_toArray, List.set_cons_zero, List.set_cons_succ] at hQ ⊢
                    simp only [h0, h1, h2] at hQ ⊢
                    clear h0 h1 h2
                    obtain ⟨r, e, hr⟩ := h5
                    have hQ' := hQ (.bool true) w (Below.refl _ _) rfl
                    rw [e] at hQ' ⊢
                    clear hQ e
                    go_wp2
                    exact hQ'
                  · intro x w hb hk Q' hQ
                    have h0 : x.v 0 = .agg #[.int .i64 q.v, .slice A q.f.length a2, .slice C q.t.length d2] := (hk 0 (by decide)).1
                    have h1 : x.v 1 = .agg #[.int .i64 q.v, .slice A q.f.length a2, .slice C q.t.length d2] := (hk 1 (by decide)).1
                    have h2 : x.v 2 = .int .i64 i := (hk 2 (by decide)).1
                    have h3 : IntsO w (x.lo 3) (x.hi 3) (x.v 3) (dmQ q i) := (hk 3 (by decide)).1
                    have h4 : ∃ r, (x.v 4) = .tuple #[r, .bool true] ∧ SlI w w.heap.size r ((dmJ q i).map fun y => -y) := (hk 4 (by decide)).1
                    have h5 : ∃ r, (x.v 5) = .tuple #[r, .bool true] ∧ SlI w w.heap.size r ((dmJ q i).map fun y => -y) := (hk 5 (by decide)).1
                    have h6 : SlI w w.heap.size (x.v 6) ((dmJ q i).map fun y => -y) := (hk 6 (by decide)).1
                    have s3 := (hk 3 (by decide)).2
                    have s4 := (hk 4 (by decide)).2
                    have s5 := (hk 5 (by decide)).2
                    have s6 := (hk 6 (by decide)).2
                    clear hk
                    simp only [netAct, dstAt, List.getElem?_toArray, List.getElem?_cons_zero, List.getElem?_cons_succ, Option.bind_some, Act.put, List.setIfInBounds_toArray, List.set_cons_zero, List.set_cons_succ] at hQ ⊢
                    simp only [h0, h1, h2] at hQ ⊢
                    clear h0 h1 h2
                    have hQ' := hQ (x.v 6) w (Below.refl _ _) h6
                    clear hQ
                    go_wp2
                    exact hQ'
                  · intro x w hb hk hiv hdj
                    have h0 : x.v 0 = .agg #[.int .i64 q.v, .slice A q.f.length a2, .slice C q.t.length d2] := hk 0 (by decide)
                    have h1 : x.v 1 = .agg #[.int .i64 q.v, .slice A q.f.length a2, .slice C q.t.length d2] := hk 1 (by decide)
                    have h2 : x.v 2 = .int .i64 i := hk 2 (by decide)
                    have h3 : IntsO w (x.lo 3) (x.hi 3) (x.v 3) (dmQ q i) := hk 3 (by decide)
                    have h4 : ∃ r, (x.v 4) = .tuple #[r, .bool true] ∧ SlI w w.heap.size r ((dmJ q i).map fun y => -y) := hk 4 (by decide)
                    have h5 : ∃ r, (x.v 5) = .tuple #[r, .bool true] ∧ SlI w w.heap.size r ((dmJ q i).map fun y => -y) := hk 5 (by decide)
                    have h6 : SlI w w.heap.size (x.v 6) ((dmJ q i).map fun y => -y) := hk 6 (by decide)
                    have h7 : (x.v 7) = .bool true := hk 7 (by decide)
                    have h8 : SlI w w.heap.size (x.v 8) ((dmJ q i).map fun y => -y) := hk 8 (by decide)
                    clear hk
                    simp only [netAct, dstAt, List.getElem?_toArray, List.getElem?_cons_zero, List.getElem?_cons_succ, Option.bind_some, Act.put, List.setIfInBounds_toArray, List.set_cons_zero, List.set_cons_succ]
                    simp only [List.drop_succ_cons, List.drop_zero, h0, h1, h2]
                    clear h0 h1 h2
                    obtain ⟨r, hr0⟩ : ∃ z, x.v 8 = z := ⟨_, rfl⟩
                    rw [h7]
                    rw [hr0] at h8 ⊢
                    have hr2 := h8
                    have hsb := hb.size
                    have kq10 := HK9.out.call hb
                    have HQ10 := Lib.hid (HQ9.out.next hb)
                    have HY10 := Lib.hid (SlY.next hb HY9.out)
                    have HG10 := Lib.hid (HG9.out.trans (hb.mono (by omega)))
                    clear hb hiv hdj h3 h4 h5 h6 h7 h8 hr0
                    have z0 := kq10.cell' (i := 0) rfl
                    have z1 := kq10.cell' (i := 1) rfl
                    have z2 := kq10.cell' (i := 2) rfl
                    obtain ⟨wn, hwn⟩ : ∃ z, z = w := ⟨_, rfl⟩
                    subst hwn
                    obtain ⟨J, hJ⟩ : ∃ z, dmJ q i = z := ⟨_, rfl⟩
                    rw [hJ] at hr2 HJS
                    have HJ := Lib.hid hJ
                    clear hJ
                    obtain ⟨Ay, cy, rfl, _, _, hyl, hr3⟩ := hr2.open_
                    rw [List.length_map]
                    clear hr2
                    go_wp2_with fail
                    refine (specInjectiveDims_any _ q i _ HQ10.out ⟨by omega, by omega⟩).mono ?_; rintro e w11 ⟨o, rfl, ho, hb11⟩
                    rw [HJ.out] at ho
                    have hs11 := hb11.size
                    have HK11 := Lib.hid (kq10.call hb11)
                    have HQ11 := Lib.hid (HQ10.out.next hb11)
                    have HY11 := Lib.hid (SlY.next hb11 HY10.out)
                    have HG11 := Lib.hid (HG10.out.trans (hb11.mono (by omega)))
                    have HR11 := Lib.hid (SlI.next hb11 hr3)
                    obtain ⟨Ao, co, rfl, _, _, _, ho2⟩ := (ho.rd).open_
                    have HO11 := Lib.hid ho2
                    clear hb11 z0 z1 z2 ho ho2 hr3 kq10 HQ10 HY10 HG10
                    rw [List.length_map] at hyl
                    go_wp2
                    go_loopw [18] (fun jv wr => ∃ (j n : Nat), j ≤ J.length ∧ jv = .int .i64 j ∧ wr = w11.drewN n) (fun jv _ => J.length - (intOf jv).toNat)
                    case atStart => exact ⟨0, 0, Nat.zero_le _, rfl, rfl⟩
                    case round =>
                      obtain ⟨j, n, hj, rfl, rfl⟩ := hrel
                      by_cases hjl : j < J.length
                      · have hjl' : j < (J.map fun y => -y).length := by rw [List.length_map]; exact hjl
                        obtain ⟨b1, o1, y1, rfl, _, HYV, c1, hy1⟩ := SlI.at_ HR11.out hjl'
                        obtain ⟨b2, o2, y2, rfl, _, HZV, c2, hy2⟩ := SlI.at_ HO11.out hjl
                        have hz := HJS.out j y2 HZV.out
                        have he : y1 = -y2 := by
                          have h1 := HYV.out
                          rw [List.getElem?_map, HZV.out] at h1
                          injection h1 with h1
                          exact h1.symm
                        subst he
                        clear hjl'
                        go_wp2
                        go_quiet (fail)
                        go_wp2
                        go_roundw
                        case rel => exact ⟨j + 1, n + nq, by omega, by go_num, rfl⟩
                        case measure => simp [intOf]; omega
                      · have hbd := drewN_below w11.heap.size w11 n
                        have HKF := Lib.hid (HK11.out.call hbd)
                        have HQF := Lib.hid (HQ11.out.next hbd)
                        have HYF := Lib.hid (SlY.next hbd HY11.out)
                        have HGF := Lib.hid (HG11.out.trans (hbd.mono (by omega)))
                        clear hbd
                        go_wp2
                        go_roundw
                        case rel => exact ⟨i + 1, by omega, by go_num, HKF.out, HQF.out, HYF.out, HGF.out⟩
                        case measure => simp [intOf]; omega
              · go_wp2
                go_meet
                case rel => exact ⟨HY.out, HG.out⟩
          case rest =>
            clear HK HQ HY HG
            obtain ⟨hy, hg⟩ := hcut
            obtain ⟨w20, hwc⟩ : ∃ z, z = wc := ⟨_, rfl⟩
            subst hwc
            go_wp2_with fail
            refine (drawCoxeterPower_any u l _ hy).mono ?_; rintro e w21 ⟨v, q2, X2, x2, n2, rfl, hq2, _, _, hx2, _, hn2, hb⟩
            replace hy := SlY.next hb hy
            replace hg := bthen hg hb
            clear hb
            obtain ⟨A2, a2, C2, d2, rfl⟩ := hq2.form
            obtain ⟨W2, eW2⟩ : ∃ z, w21.alloc (.cells #[.int .i64 q2.v, .slice A2 q2.f.length a2, .slice C2 q2.t.length d2] 26) = z := ⟨_, rfl⟩
            have ga : Below w21.heap.size w21 W2 := by rw [← eW2]; exact below_alloc _ _
            obtain ⟨g2, hg2⟩ : ∃ z, w21.heap.size = z := ⟨_, rfl⟩
            have k2 : Blk W2 g2 26 #[.int .i64 q2.v, .slice A2 q2.f.length a2, .slice C2 q2.t.length d2] := by rw [← eW2, ← hg2]; exact Blk.new _ _ _
            replace hy := SlY.next ga hy
            replace hg := bthen hg ga
            replace hq2 := QvR.next ga hq2
            replace hx2 := SlI.next ga hx2
            clear ga
            obtain ⟨⟨y2, b2⟩, hR2⟩ : ∃ z, coxP q2 x2 n2 = z := ⟨_, rfl⟩
            have HR2 := Lib.hid hR2
            clear hR2
            have z20 := k2.cell' (i := 0) rfl
            have z21 := k2.cell' (i := 1) rfl
            have z22 := k2.cell' (i := 2) rfl
            go_wp2_with fail
            clear eW2 hg2
            refine (implCoxeterPower_any _ q2 _ x2 n2 _ hq2 hx2 ⟨by omega, by omega⟩).mono ?_; rintro e w22 ⟨r2, rfl, hr2, hb⟩
            rw [HR2.out] at hr2 ⊢
            simp only at hr2 ⊢
            replace hr2 := hr2.rd
            clear z20 z21 z22
            replace hy := SlY.next hb hy
            replace hg := bthen hg hb
            replace hq2 := QvR.next hb hq2
            replace hx2 := SlI.next hb hx2
            replace k2 := k2.call hb
            clear hb
            have z20 := k2.cell' (i := 0) rfl
            have z21 := k2.cell' (i := 1) rfl
            have z22 := k2.cell' (i := 2) rfl
            go_wp2_with fail
            refine (specCoxeterPower_any _ q2 _ x2 n2 _ hq2 hx2 ⟨by omega, by omega⟩).mono ?_; rintro e w23 ⟨s2, rfl, hs2, hb⟩
            rw [HR2.out] at hs2 ⊢
            simp only at hs2 ⊢
            replace hs2 := hs2.rd
            clear z20 z21 z22
            replace hy := SlY.next hb hy
            replace hg := bthen hg hb
            replace hq2 := QvR.next hb hq2
            replace hx2 := SlI.next hb hx2
            replace hr2 := SlI.next hb hr2
            replace k2 := k2.call hb
            clear hb
            have z20 := k2.cell' (i := 0) rfl
            have z21 := k2.cell' (i := 1) rfl
            have z22 := k2.cell' (i := 2) rfl
            go_wp2_with fail
            refine (sameI_any _ _ y2 _ hr2 hs2).mono ?_; rintro e w24 ⟨rfl, hb⟩
            clear z20 z21 z22
            replace hy := SlY.next hb hy
            replace hg := bthen hg hb
            replace hq2 := QvR.next hb hq2
            replace hx2 := SlI.next hb hx2
            replace hr2 := SlI.next hb hr2
            replace hs2 := SlI.next hb hs2
            replace k2 := k2.call hb
            clear hb
            have z20 := k2.cell' (i := 0) rfl
            have z21 := k2.cell' (i := 1) rfl
            have z22 := k2.cell' (i := 2) rfl
            go_upto_if 205 with fail
            go_cut [26, 27] from 206 to 220 (fun _ _ wx => SlY wx wx.heap.size u l ∧ Below w0.heap.size w0 wx ∧ QvR wx wx.heap.size (.agg #[.int .i64 q2.v, .slice A2 q2.f.length a2, .slice C2 q2.t.length d2]) q2 ∧ Blk wx g2 26 #[.int .i64 q2.v, .slice A2 q2.f.length a2, .slice C2 q2.t.length d2])
            case first =>
              cases b2
              · go_wp2
                go_meet
                case rel => exact ⟨hy, hg, hq2, k2⟩
              · skip
                obtain ⟨⟨y3, b3⟩, hR3⟩ : ∃ z, coxP q2 y2 (-n2) = z := ⟨_, rfl⟩
                have HR3 := Lib.hid hR3
                clear hR3
                clear z20 z21 z22
                have z20 := k2.cell' (i := 0) rfl
                have z21 := k2.cell' (i := 1) rfl
                have z22 := k2.cell' (i := 2) rfl
                go_wp2_with fail
                refine (implCoxeterPower_any _ q2 _ y2 (-n2) _ hq2 hs2 ⟨by omega, by omega⟩).mono ?_; rintro e w25 ⟨r3, rfl, hr3, hb⟩
                rw [HR3.out] at hr3 ⊢
                simp only at hr3 ⊢
                replace hr3 := hr3.rd
                clear z20 z21 z22
                replace hy := SlY.next hb hy
                replace hg := bthen hg hb
                replace hq2 := QvR.next hb hq2
                replace hx2 := SlI.next hb hx2
                replace hr2 := SlI.next hb hr2
                replace hs2 := SlI.next hb hs2
                replace k2 := k2.call hb
                clear hb
                cases b3
                · go_wp2
                  go_meet
                  case rel => exact ⟨hy, hg, hq2, k2⟩
                · skip
                  have HE := Lib.hid (cox_back HR2.out (show (coxP q2 y2 (-n2)).2 = true by rw [HR3.out]))
                  have HE2 : y3 = x2 := by
                    have h1 := HE.out
                    rw [HR3.out] at h1
                    injection h1
                  clear HE HR3
                  subst HE2
                  have z20 := k2.cell' (i := 0) rfl
                  have z21 := k2.cell' (i := 1) rfl
                  have z22 := k2.cell' (i := 2) rfl
                  go_wp2_with fail
                  refine (sameI_any _ _ y3 _ hr3 hx2).mono ?_; rintro e w26 ⟨rfl, hb⟩
                  clear z20 z21 z22
                  replace hy := SlY.next hb hy
                  replace hg := bthen hg hb
                  replace hq2 := QvR.next hb hq2
                  replace hx2 := SlI.next hb hx2
                  replace hr2 := SlI.next hb hr2
                  replace hs2 := SlI.next hb hs2
                  replace hr3 := SlI.next hb hr3
                  replace k2 := k2.call hb
                  clear hb
                  go_wp2
                  go_meet
                  case rel => exact ⟨hy, hg, hq2, k2⟩
            case rest =>
              clear HR2 z20 z21 z22 hy hg hq2 hx2 hr2 hs2 k2
              obtain ⟨hy, hg, hq2, k2⟩ := hcut
              obtain ⟨w27, hwc⟩ : ∃ z, z = wc := ⟨_, rfl⟩
              subst hwc
              have z20 := k2.cell' (i := 0) rfl
              have z21 := k2.cell' (i := 1) rfl
              have z22 := k2.cell' (i := 2) rfl
              go_wp2_with fail
              refine (drawDefectOf_any u l _ hy).mono ?_; rintro e w28 ⟨v, q3, X3, x3, rfl, hq3, _, _, hx3, _, hb⟩
              clear z20 z21 z22
              replace hy := SlY.next hb hy
              replace hg := bthen hg hb
              replace hq2 := QvR.next hb hq2
              replace k2 := k2.call hb
              clear hb
              obtain ⟨A3, a3, C3, d3, rfl⟩ := hq3.form
              obtain ⟨W3, eW3⟩ : ∃ z, w28.alloc (.cells #[.int .i64 q3.v, .slice A3 q3.f.length a3, .slice C3 q3.t.length d3] 26) = z := ⟨_, rfl⟩
              have ga : Below w28.heap.size w28 W3 := by rw [← eW3]; exact below_alloc _ _
              obtain ⟨g3, hg3⟩ : ∃ z, w28.heap.size = z := ⟨_, rfl⟩
              have k3 : Blk W3 g3 26 #[.int .i64 q3.v, .slice A3 q3.f.length a3, .slice C3 q3.t.length d3] := by rw [← eW3, ← hg3]; exact Blk.new _ _ _
              replace hy := SlY.next ga hy
              replace hg := bthen hg ga
              replace hq2 := QvR.next ga hq2
              replace hq3 := QvR.next ga hq3
              replace hx3 := SlI.next ga hx3
              replace k2 := k2.call ga
              clear ga
              obtain ⟨⟨m3, b3⟩, hR3⟩ : ∃ z, dfQ q3 x3 = z := ⟨_, rfl⟩
              have HR3 := Lib.hid hR3
              clear hR3
              have z20 := k2.cell' (i := 0) rfl
              have z21 := k2.cell' (i := 1) rfl
              have z22 := k2.cell' (i := 2) rfl
              have z30 := k3.cell' (i := 0) rfl
              have z31 := k3.cell' (i := 1) rfl
              have z32 := k3.cell' (i := 2) rfl
              go_wp2_with fail
              clear eW3 hg3
              refine (implDefectOf_any _ _ q3 x3 _ hq3 hx3).mono ?_; rintro e w29 ⟨rfl, hb⟩
              rw [HR3.out]
              simp only
              clear z20 z21 z22 z30 z31 z32
              replace hy := SlY.next hb hy
              replace hg := bthen hg hb
              replace hq2 := QvR.next hb hq2
              replace hq3 := QvR.next hb hq3
              replace hx3 := SlI.next hb hx3
              replace k2 := k2.call hb
              replace k3 := k3.call hb
              clear hb
              have z20 := k2.cell' (i := 0) rfl
              have z21 := k2.cell' (i := 1) rfl
              have z22 := k2.cell' (i := 2) rfl
              have z30 := k3.cell' (i := 0) rfl
              have z31 := k3.cell' (i := 1) rfl
              have z32 := k3.cell' (i := 2) rfl
              go_wp2_with fail
              refine (specDefectOf_any _ _ q3 x3 _ hq3 hx3).mono ?_; rintro e w30 ⟨rfl, hb⟩
              rw [HR3.out]
              simp only
              clear z20 z21 z22 z30 z31 z32
              replace hy := SlY.next hb hy
              replace hg := bthen hg hb
              replace hq2 := QvR.next hb hq2
              replace hq3 := QvR.next hb hq3
              replace hx3 := SlI.next hb hx3
              replace k2 := k2.call hb
              replace k3 := k3.call hb
              clear hb
              obtain ⟨⟨y3, c3⟩, hS3⟩ : ∃ z, coxP q3 x3 1 = z := ⟨_, rfl⟩
              have HS3 := Lib.hid hS3
              clear hS3
              have z20 := k2.cell' (i := 0) rfl
              have z21 := k2.cell' (i := 1) rfl
              have z22 := k2.cell' (i := 2) rfl
              have z30 := k3.cell' (i := 0) rfl
              have z31 := k3.cell' (i := 1) rfl
              have z32 := k3.cell' (i := 2) rfl
              go_wp2_with fail
              refine (specCoxeterOf_any _ q3 _ x3 _ hq3 hx3).mono ?_; rintro e w31 ⟨r3, rfl, hr3, hb⟩
              rw [HS3.out] at hr3 ⊢
              simp only at hr3 ⊢
              replace hr3 := hr3.rd
              clear z20 z21 z22 z30 z31 z32
              replace hy := SlY.next hb hy
              replace hg := bthen hg hb
              replace hq2 := QvR.next hb hq2
              replace hq3 := QvR.next hb hq3
              replace hx3 := SlI.next hb hx3
              replace k2 := k2.call hb
              replace k3 := k3.call hb
              clear hb
              go_upto_region 44 with fail
              go_cut [255] from 252 to 255 (fun s wx => s = .bool (b3 && c3) ∧ wx = w31)
              case first => cases b3 <;> cases c3 <;> (go_wp2; go_meet; exact ⟨rfl, rfl⟩)
              case rest =>
                obtain ⟨rfl, hwc⟩ := hcut
                replace hwc := hwc.symm
                subst hwc
                obtain ⟨c, hc⟩ : ∃ c, (b3 && c3) = c := ⟨_, rfl⟩
                rw [hc]
                have HC3 := Lib.hid hc
                clear hc
                go_upto_if 255 with fail
                go_cut [36, 37] from 256 to 267 (fun _ _ wx => SlY wx wx.heap.size u l ∧ Below w0.heap.size w0 wx ∧ QvR wx wx.heap.size (.agg #[.int .i64 q2.v, .slice A2 q2.f.length a2, .slice C2 q2.t.length d2]) q2 ∧ Blk wx g2 26 #[.int .i64 q2.v, .slice A2 q2.f.length a2, .slice C2 q2.t.length d2])
                case first =>
                  cases c
                  · go_wp2
                    go_meet
                    case rel => exact ⟨hy, hg, hq2, k2⟩
                  · skip
                    have hbc : b3 = true ∧ c3 = true := by have := HC3.out; simpa using this
                    obtain ⟨rfl, rfl⟩ := hbc
                    clear HC3
                    obtain ⟨⟨m4, b4⟩, hR4⟩ : ∃ z, dfQ q3 y3 = z := ⟨_, rfl⟩
                    have HR4 := Lib.hid hR4
                    clear hR4
                    have z20 := k2.cell' (i := 0) rfl
                    have z21 := k2.cell' (i := 1) rfl
                    have z22 := k2.cell' (i := 2) rfl
                    have z30 := k3.cell' (i := 0) rfl
                    have z31 := k3.cell' (i := 1) rfl
                    have z32 := k3.cell' (i := 2) rfl
                    go_wp2_with fail
                    refine (implDefectOf_any _ _ q3 y3 _ hq3 hr3).mono ?_; rintro e w32 ⟨rfl, hb⟩
                    rw [HR4.out]
                    simp only
                    clear z20 z21 z22 z30 z31 z32
                    replace hy := SlY.next hb hy
                    replace hg := bthen hg hb
                    replace hq2 := QvR.next hb hq2
                    replace hq3 := QvR.next hb hq3
                    replace hx3 := SlI.next hb hx3
                    replace hr3 := SlI.next hb hr3
                    replace k2 := k2.call hb
                    replace k3 := k3.call hb
                    clear hb
                    cases b4
                    · go_wp2
                      go_meet
                      case rel => exact ⟨hy, hg, hq2, k2⟩
                    · skip
                      have HE := Lib.hid (df_cox (q := q3) (x := x3) (by rw [HR3.out]) (by rw [HS3.out]) (by rw [HS3.out]; show (dfQ q3 y3).2 = true; rw [HR4.out]))
                      have HE2 : m4 = m3 := by
                        have h1 := HE.out
                        rw [HS3.out] at h1
                        simp only at h1
                        rw [HR4.out, HR3.out] at h1
                        exact h1
                      clear HE HR4
                      subst HE2
                      go_wp2
                      go_meet
                      case rel => exact ⟨hy, hg, hq2, k2⟩
                case rest =>
                  clear HR3 HS3 HC3 hy hg hq2 hq3 hx3 hr3 k2 k3
                  obtain ⟨hy, hg, hq2, k2⟩ := hcut
                  obtain ⟨w33, hwc⟩ : ∃ z, z = wc := ⟨_, rfl⟩
                  subst hwc
                  have z20 := k2.cell' (i := 0) rfl
                  have z21 := k2.cell' (i := 1) rfl
                  have z22 := k2.cell' (i := 2) rfl
                  go_wp2_with fail
                  refine (drawReflectWord_any u l _ hy).mono ?_; rintro e w34 ⟨v, q4, X4, x4, Y4, wd4, rfl, hq4, _, _, hx4, _, hd4, _, hb⟩
                  clear z20 z21 z22
                  replace hy := SlY.next hb hy
                  replace hg := bthen hg hb
                  replace hq2 := QvR.next hb hq2
                  replace k2 := k2.call hb
                  clear hb
                  obtain ⟨A4, a4, C4, d4, rfl⟩ := hq4.form
                  obtain ⟨W4, eW4⟩ : ∃ z, w34.alloc (.cells #[.int .i64 q4.v, .slice A4 q4.f.length a4, .slice C4 q4.t.length d4] 26) = z := ⟨_, rfl⟩
                  have ga : Below w34.heap.size w34 W4 := by rw [← eW4]; exact below_alloc _ _
                  obtain ⟨g4, hg4⟩ : ∃ z, w34.heap.size = z := ⟨_, rfl⟩
                  have k4 : Blk W4 g4 26 #[.int .i64 q4.v, .slice A4 q4.f.length a4, .slice C4 q4.t.length d4] := by rw [← eW4, ← hg4]; exact Blk.new _ _ _
                  replace hy := SlY.next ga hy
                  replace hg := bthen hg ga
                  replace hq2 := QvR.next ga hq2
                  replace hq4 := QvR.next ga hq4
                  replace hx4 := SlI.next ga hx4
                  replace hd4 := SlI.next ga hd4
                  replace k2 := k2.call ga
                  clear ga
                  obtain ⟨⟨y4, b4⟩, hR4⟩ : ∃ z, wordQ q4 x4 wd4 = z := ⟨_, rfl⟩
                  have HR4 := Lib.hid hR4
                  clear hR4
                  have z20 := k2.cell' (i := 0) rfl
                  have z21 := k2.cell' (i := 1) rfl
                  have z22 := k2.cell' (i := 2) rfl
                  have z40 := k4.cell' (i := 0) rfl
                  have z41 := k4.cell' (i := 1) rfl
                  have z42 := k4.cell' (i := 2) rfl
                  go_wp2_with fail
                  clear eW4 hg4
                  refine (implReflectWord_any _ q4 _ x4 _ wd4 _ hq4 hx4 hd4).mono ?_; rintro e w35 ⟨r4, rfl, hr4, hb⟩
                  rw [HR4.out] at hr4 ⊢
                  simp only at hr4 ⊢
                  replace hr4 := hr4.rd
                  clear z20 z21 z22 z40 z41 z42
                  replace hy := SlY.next hb hy
                  replace hg := bthen hg hb
                  replace hq2 := QvR.next hb hq2
                  replace hq4 := QvR.next hb hq4
                  replace hx4 := SlI.next hb hx4
                  replace hd4 := SlI.next hb hd4
                  replace k2 := k2.call hb
                  replace k4 := k4.call hb
                  clear hb
                  have z20 := k2.cell' (i := 0) rfl
                  have z21 := k2.cell' (i := 1) rfl
                  have z22 := k2.cell' (i := 2) rfl
                  have z40 := k4.cell' (i := 0) rfl
                  have z41 := k4.cell' (i := 1) rfl
                  have z42 := k4.cell' (i := 2) rfl
                  go_wp2_with fail
                  refine (specReflectWord_any _ q4 _ x4 _ wd4 _ hq4 hx4 hd4).mono ?_; rintro e w36 ⟨s4, rfl, hs4, hb⟩
                  rw [HR4.out] at hs4 ⊢
                  simp only at hs4 ⊢
                  replace hs4 := hs4.rd
                  clear z20 z21 z22 z40 z41 z42
                  replace hy := SlY.next hb hy
                  replace hg := bthen hg hb
                  replace hq2 := QvR.next hb hq2
                  replace hq4 := QvR.next hb hq4
                  replace hx4 := SlI.next hb hx4
                  replace hd4 := SlI.next hb hd4
                  replace hr4 := SlI.next hb hr4
                  replace k2 := k2.call hb
                  replace k4 := k4.call hb
                  clear hb
                  clear hq4 hx4 hd4 k4
                  obtain ⟨⟨o2, p2⟩, hO2⟩ : ∃ z, ((ordQ q2).1.reverse, (ordQ q2).2) = z := ⟨_, rfl⟩
                  have HO21 := Lib.hid (show (ordQ q2).1.reverse = o2 by injection hO2)
                  have HO22 := Lib.hid (show (ordQ q2).2 = p2 by injection hO2)
                  clear hO2
                  have z20 := k2.cell' (i := 0) rfl
                  have z21 := k2.cell' (i := 1) rfl
                  have z22 := k2.cell' (i := 2) rfl
                  go_wp2_with fail
                  refine (implCoxeterOrder_any _ q2 _ hq2).mono ?_; rintro e w37 ⟨a5, rfl, ha5, hb⟩
                  rw [HO21.out] at ha5
                  rw [HO22.out]
                  replace ha5 := ha5.rd
                  clear z20 z21 z22
                  replace hy := SlY.next hb hy
                  replace hg := bthen hg hb
                  replace hq2 := QvR.next hb hq2
                  replace hr4 := SlI.next hb hr4
                  replace hs4 := SlI.next hb hs4
                  replace k2 := k2.call hb
                  clear hb
                  have z20 := k2.cell' (i := 0) rfl
                  have z21 := k2.cell' (i := 1) rfl
                  have z22 := k2.cell' (i := 2) rfl
                  go_wp2_with fail
                  refine (specCoxeterOrder_any _ q2 _ hq2).mono ?_; rintro e w38 ⟨c5, rfl, hc5, hb⟩
                  rw [HO21.out] at hc5
                  rw [HO22.out]
                  replace hc5 := hc5.rd
                  clear z20 z21 z22
                  replace hy := SlY.next hb hy
                  replace hg := bthen hg hb
                  replace hq2 := QvR.next hb hq2
                  replace hr4 := SlI.next hb hr4
                  replace hs4 := SlI.next hb hs4
                  replace ha5 := SlI.next hb ha5
                  replace k2 := k2.call hb
                  clear hb
                  clear hq2 k2
                  go_wp2_with fail
                  refine (drawCoxeterNumber_any u l _ hy).mono ?_; rintro e w39 ⟨v, q6, rfl, hq6, _, _, hb⟩
                  replace hy := SlY.next hb hy
                  replace hg := bthen hg hb
                  replace hr4 := SlI.next hb hr4
                  replace hs4 := SlI.next hb hs4
                  replace ha5 := SlI.next hb ha5
                  replace hc5 := SlI.next hb hc5
                  clear hb
                  obtain ⟨A6, a6, C6, d6, rfl⟩ := hq6.form
                  obtain ⟨W6, eW6⟩ : ∃ z, w39.alloc (.cells #[.int .i64 q6.v, .slice A6 q6.f.length a6, .slice C6 q6.t.length d6] 26) = z := ⟨_, rfl⟩
                  have ga : Below w39.heap.size w39 W6 := by rw [← eW6]; exact below_alloc _ _
                  obtain ⟨g6, hg6⟩ : ∃ z, w39.heap.size = z := ⟨_, rfl⟩
                  have k6 : Blk W6 g6 26 #[.int .i64 q6.v, .slice A6 q6.f.length a6, .slice C6 q6.t.length d6] := by rw [← eW6, ← hg6]; exact Blk.new _ _ _
                  replace hy := SlY.next ga hy
                  replace hg := bthen hg ga
                  replace hr4 := SlI.next ga hr4
                  replace hs4 := SlI.next ga hs4
                  replace ha5 := SlI.next ga ha5
                  replace hc5 := SlI.next ga hc5
                  replace hq6 := QvR.next ga hq6
                  clear ga
                  have yz0 := k6.cell' (i := 0) rfl
                  have yz1 := k6.cell' (i := 1) rfl
                  have yz2 := k6.cell' (i := 2) rfl
                  have hg6 : g6 < W6.heap.size := k6.lt
                  have HZ0 := Lib.hid (InB.cell hg6 yz0)
                  have HZ1 := Lib.hid (InB.cell hg6 yz1)
                  have HZ2 := Lib.hid (InB.cell hg6 yz2)
                  clear yz0 yz1 yz2
                  have Hhr4 := Lib.hid hr4
                  have Hhs4 := Lib.hid hs4
                  have Hha5 := Lib.hid ha5
                  have Hhc5 := Lib.hid hc5
                  have Hhq6 := Lib.hid hq6
                  have Hhy := Lib.hid hy
                  have HHG := Lib.hid hg
                  clear hr4 hs4 ha5 hc5 hq6 hy k6 hg
                  obtain ⟨N6, hN6⟩ : ∃ z, cnQ q6 = z := ⟨_, rfl⟩
                  have HN6 := Lib.hid hN6
                  clear hN6
                  have HC1 := Lib.hid (show ∀ (s : InB W6) (args : Array Value), (args = #[r4, s4] ∨ args = #[a5, c5]) → Calls Try.prog 8 args s.val fun e w' => e = .returned (.bool true) ∧ Below s.val.heap.size s.val w' from fun s args h => by
                    rcases h with rfl | rfl
                    · exact sameI_any _ _ y4 _ (SlI.next s.below Hhr4.out) (SlI.next s.below Hhs4.out)
                    · exact sameI_any _ _ o2 _ (SlI.next s.below Hha5.out) (SlI.next s.below Hhc5.out))
                  have HC4 := Lib.hid (show ∀ s : InB W6, Calls Try.prog 27 #[.agg #[.int .i64 q6.v, .slice A6 q6.f.length a6, .slice C6 q6.t.length d6]] s.val fun e w' => e = .returned (.int .i64 N6) ∧ Below s.val.heap.size s.val w' from fun s => by
                    have h := implCoxeterNumber_any _ q6 _ (Hhq6.out.next s.below)
                    rw [HN6.out] at h
                    exact h)
                  have HC5 := Lib.hid (show ∀ s : InB W6, Calls Try.prog 28 #[.agg #[.int .i64 q6.v, .slice A6 q6.f.length a6, .slice C6 q6.t.length d6]] s.val fun e w' => e = .returned (.int .i64 N6) ∧ Below s.val.heap.size s.val w' from fun s => by
                    have h := specCoxeterNumber_any _ q6 _ (Hhq6.out.next s.below)
                    rw [HN6.out] at h
                    exact h)
                  go_upto_region 54 with fail
                  clear eW6 hg6
                  have z0 := HZ0.out
                  have z1 := HZ1.out
                  have z2 := HZ2.out
                  (refine wp_region_inB (by kernel_rfl) (by kernel_rfl) ?_; (repeat (go_big_quiet_step (first | (go_at_call 8; exact InB.call (HC1.out _ _ (by first | exact Or.inl rfl | exact Or.inr rfl))) | (go_at_call 27; exact InB.call (HC4.out _)) | (go_at_call 28; exact InB.call (HC5.out _))))); refine wpQuiet_nil ?_; intro w1 hw'; obtain ⟨s1, hw1⟩ := hw'; have hb1 := s1.below; rw [← hw1] at hb1; clear hw1 s1)
                  have HGF := Lib.hid (bthen HHG.out hb1)
                  clear hb1
                  go_wp2
                  go_ret
                  exact ⟨rfl, HGF.out⟩
end Go.Proofs.Ytaefpblpfjhgoaa

/- FnReflections is proved: for every input the law returns true and its input reads as it did. No condition. -/
namespace Go.Proofs.Ytaefpblpfjhgoaa
set_option linter.unusedVariables false
set_option linter.unusedSimpArgs false
open Go.RowKit Go.ChangeShapes Go.WideShapes Go.ChangeAt Go.Deep

section
variable {H : Type} {enc : TypeId × Value → H} {w : World}
theorem u8_of_wf {n : Int} (h : (Lit.int .u8 n).wf = true) : 0 ≤ n ∧ n ≤ 255 := by
  simp only [Lit.wf, Bool.and_eq_true, decide_eq_true_eq] at h
  have e1 : IntKind.min .u8 = 0 := by decide
  have e2 : IntKind.max .u8 = 255 := by decide
  rw [e1, e2] at h
  exact h
theorem elByte (fuel b o : Nat) (cs : List Value) (y : DataW H × List MemPlace) (hc : ∀ j, j < 1 → w.cell? ⟨b, o + j, none⟩ = cs[j]?) (hl : cs.length = 1) (h : TrodA enc w fuel 5 cs y) : ∃ a, RY w w.heap.size b o a := by
  obtain ⟨n, rfl, _, h3⟩ := DataW.trod_int Try.underlying5 h
  obtain ⟨h1, h2⟩ := u8_of_wf h3
  exact ⟨n, by simpa using hc 0 (by omega), h1, h2⟩
set_option maxRecDepth 100000 in
theorem openY {fuel : Nat} {cs : List Value} {x : DataW H × List MemPlace} (h : TrodA enc w fuel 22 cs x) :
    ∃ v, cs = [v] ∧ ((∃ (A : Option Addr) (n c : Nat), v = .slice A n c ∧ 1048576 < n ∧ n ≤ 9223372036854775807) ∨ ∃ xs, SlY w w.heap.size v xs) := by
  have hsz : Try.prog.cellsOf 5 = 1 := by kernel_rfl
  rcases open_slice Try.underlying22 h with ⟨rfl, rfl⟩ | ⟨a, len, cap, m, n, D, Pl, rfl, _, hl, hm, hmm, hx, hi⟩
  · exact ⟨_, rfl, .inr ⟨[], SlG.nil⟩⟩
  simp only [if_true] at hmm
  subst hmm
  rw [hsz] at hi
  have hm' : m ≤ 9223372036854775807 := by simp only [maxLen] at hm; omega
  by_cases hbig : 1048576 < len
  · exact ⟨_, rfl, .inl ⟨_, _, _, rfl, hbig, by omega⟩⟩
  have hlen : len ≤ 17592186044416 := by omega
  rcases Nat.eq_zero_or_pos len with h0 | h0
  · subst h0
    exact ⟨_, rfl, .inr ⟨[], some a, m, rfl, by simp, by simp only [maxLen] at hm; omega, by simp, fun h => absurd h (by simp)⟩⟩
  · have hspot : a.spot = none := by
      obtain ⟨cs', hc, _⟩ := hi 0 (by omega)
      obtain ⟨_, hlc, hat⟩ := World.cells?_some hc
      have h4 := hat 0 (by omega)
      rw [List.getElem?_eq_getElem (by omega)] at h4
      have e : (a.add (0 * 1)).add 0 = a := by simp [Addr.add]
      rw [e] at h4
      unfold World.cell? at h4
      split at h4
      · by_cases hs : a.spot.isSome
        · rw [if_pos hs] at h4; cases h4
        · simpa using hs
      · cases h4
    obtain ⟨b, o, sp⟩ := a
    simp only at hspot
    subst hspot
    have hadd : ∀ i, (⟨b, o, none⟩ : Addr).add i = ⟨b, o + i, none⟩ := by
      intro i; unfold Addr.add; split <;> simp_all
    have hR : ∀ i, i < len → ∃ y : Int, RY w w.heap.size b (o + i * 1) y := by
      intro i hil
      obtain ⟨cs', hc, htr⟩ := hi i (by omega)
      obtain ⟨_, hlc, hat⟩ := World.cells?_some hc
      refine elByte n b (o + i * 1) cs' _ (fun j hj => ?_) hlc htr
      have := hat j hj
      rwa [hadd, show (⟨b, o + i * 1, none⟩ : Addr).add j = ⟨b, o + i * 1 + j, none⟩ from by unfold Addr.add; split <;> simp_all] at this
    obtain ⟨f, hf⟩ := choose_lt hR
    have hb : b < w.heap.size := by
      obtain ⟨cs', hc, _⟩ := hi 0 (by omega)
      obtain ⟨_, hlc, hat⟩ := World.cells?_some hc
      have h4 := hat 0 (by omega)
      rw [List.getElem?_eq_getElem (by omega)] at h4
      have := World.block_lt_of_cell? _ _ h4
      simpa [hadd, Addr.add] using this
    refine ⟨_, rfl, .inr ⟨(List.range len).map f, some ⟨b, o, none⟩, m, by simp, by simpa using hl, by simp only [maxLen] at hm; omega, by simpa using hlen, fun _ => ⟨b, o, rfl, hb, fun j y hj => ?_⟩⟩⟩
    rw [List.getElem?_map, Option.map_eq_some_iff] at hj
    obtain ⟨i, hi', rfl⟩ := hj
    have hjl := lt_of_some hi'
    simp only [List.length_range] at hjl
    rw [List.getElem?_range hjl] at hi'
    injection hi' with hi'
    subst hi'
    exact hf j hjl
end
set_option maxRecDepth 100000 in
set_option maxHeartbeats 800000 in
theorem fnReflections_big (A : Option Addr) (n c : Nat) (w : World) (hn : 1048576 < n) (hn2 : n ≤ 9223372036854775807) :
    Calls Try.prog 3 #[.slice A n c] w fun e w' => e = .returned (.bool true) ∧ Below w.heap.size w w' := by
  have hB : Calls Try.prog 4 #[.slice A n c] w fun e w' => e = .returned (.bool true) ∧ Below w.heap.size w w' := by
    have hd : decide ((n : Int) > 1048576) = true := decide_eq_true (by omega)
    go_enter Try.func4, Try.ntmps4
    go_wp2
    go_ret
    exact ⟨by first | rfl | (rw [show (true : Bool) = decide ((n : Int) > 1048576) from hd.symm]; rfl), Below.refl _ _⟩
  go_enter Try.func3, Try.ntmps3
  go_wp2_with fail
  refine hB.mono ?_; rintro e w1 ⟨rfl, hb1⟩
  go_wp2
  go_ret
  exact ⟨rfl, hb1⟩
set_option maxRecDepth 100000 in
theorem fnReflections_lifted (os : Os) (started : os.Started) (H : Type) (enc : TypeId × Value → H) :
    ReturnsInHanded {} Try.checked os 3 .any (Rows.fnReflectionsSpec.pre6 enc Try.prog Try.f3 Rows.fnReflectionsRow.domain false) (Rows.fnReflectionsSpec.post enc Try.prog Try.f3 false true false false) := by
  refine lift_law started (by kernel_rfl) Try.func3 (ChangeSpec.witness6 (enc := enc) (C := Try.checked) false ⟨#[], #[.slice none 0 0], []⟩ 8 (by kernel_rfl) (by kernel_rfl) (by kernel_rfl) (by kernel_rfl))
    rfl rfl (by rw [Try.params3]; intro t ht; simp only [List.mem_cons, List.not_mem_nil, or_false] at ht; rcases ht with rfl <;> exact ⟨by kernel_rfl, of_decide_eq_true (by kernel_rfl)⟩) (fun ds hl => by rw [Try.params3] at hl; match ds, hl with | [_], _ => rfl) ?_
  intro W args ds ps base hval hA hwt
  rw [Try.params3] at hA hval hwt
  obtain ⟨v0, d0, hargs, rfl, h0⟩ := trodAll_one hA
  obtain rfl : args = #[v0] := by cases args; simp_all
  obtain ⟨f, h0'⟩ := argSl Try.underlying22 (hval 0 _ _ rfl rfl) h0
  obtain ⟨v, e, hx⟩ := openY h0'
  injection e with e
  subst e
  rcases hx with ⟨A, n, c, rfl, h1, h2⟩ | ⟨xs, hx⟩
  · exact fnReflections_big A n c W h1 h2
  · exact fnReflections_any _ xs W hx

theorem fnReflections_closed : joinedFacts Try.prog 3 Try.f3 Rows.fnReflectionsSpec Rows.fnReflectionsRow = true := by
  unfold joinedFacts
  refine band (band (band (band (band (band (band ?_ seatEnter) seatLifts) seatMake) ?_) ?_) ?_) ?_ <;> kernel_rfl

theorem fnReflections_holds : Rows.FnReflectionsSaid :=
  OpenClaim.holds_of_wide 3 Try.f3 rfl rfl rfl rfl rfl rfl rfl ⟨rfl, rfl, rfl, rfl, rfl⟩ rfl rfl rfl rfl rfl (by kernel_rfl) Try.func3 fnReflections_closed
    (of_decide_eq_true (by kernel_rfl)) (by unfold Func.isWrapper; first | (rw [if_pos (by decide +kernel)]; kernel_rfl) | (rw [if_neg (by decide +kernel)]; exact ⟨rfl, rfl⟩))
    (fun os started H enc _ => fnReflections_lifted os started H enc)
#print axioms fnReflections_holds
end Go.Proofs.Ytaefpblpfjhgoaa
