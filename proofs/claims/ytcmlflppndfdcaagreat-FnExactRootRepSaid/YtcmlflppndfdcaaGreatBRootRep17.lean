/- FnExactRootRep: the law holds for every argument. Part 17 of 18 of the proof: Hom6, RrS. No condition. -/
import Derived.Test.YtcmlflppndfdcaaGreatBRootRep16
set_option linter.unusedVariables false
set_option linter.unusedSimpArgs false
namespace Go.Proofs.YtcmlflppndfdcaaGreat
open Go.RowKit
theorem freeV_rd (p : Int) (r : Nat) (f : Nat → Nat → Int) : ∀ k, (freeV (rdTo p r f k).2 k).length + (rdTo p r f k).2.length = k
 | 0 => by simp [rdTo, freeV]
 | k + 1 => by
  have ih := freeV_rd p r f k
  have hm := rdTo_mem p r f k
  rw [rdTo_succ]
  split
  ·simp only
   rw [freeV_no (by simp)]
   have : freeV ((rdTo p r f k).2 ++ [(k : Int)]) k = freeV (rdTo p r f k).2 k := by
    unfold freeV
    refine List.filter_congr fun u hu => ?_
    simp only [List.mem_map, List.mem_range] at hu
    obtain ⟨i, hi, rfl⟩ := hu
    have : (i : Int) ≠ (k : Int) := by omega
    simp [this]
   rw [this, List.length_append, List.length_singleton]
   omega
  ·simp only
   rw [freeV_yes (by simp only [decide_eq_false_iff_not]; intro h; have := hm _ h; omega), List.length_append, List.length_singleton]
   omega
theorem kerM_row {p : Int} {c : Nat} {g : Nat → Nat → Int} {ps L : List Int} {l : List Int} (h : l ∈ kerM p c g ps L) : l.length = c := by
 simp only [kerM, List.mem_map] at h
 obtain ⟨_, _, rfl⟩ := h
 exact rowF_length _ _
theorem infoMxS : (Tryz.prog.info? 30).map (fun i => (i.zero, i.size, i.bytes)) = some (some (.slice none 0 0), 1, 24) := by kernel_rfl
theorem part_flat (n o r c : Nat) (e : Nat → Int) (h : o + r * c ≤ n) : ((rowF n e).drop o).take (r * c) = flat r c fun s t => e (o + s * c + t) := by
 rw [rowF_part _ _ _ _ h, flat, rowF]
 refine List.map_congr_left fun i hi => ?_
 by_cases hc : c = 0
 ·rw [List.mem_range, hc, Nat.mul_zero] at hi
  omega
 ·congr 1
  rw [Nat.add_assoc, Nat.mul_comm (i / c), Nat.div_add_mod]
theorem SlI.cutG {w : World} {B c n i k : Nat} {A : Option Addr} {xs : List Int} (h : SlI w B (.slice A n c) xs) (hn : xs.length = n) (hk : i + k ≤ n) : ∃ A', (if c = i then A else A.map (·.add (i * 1))) = A' ∧ SlI w B (.slice A' k (c - i)) ((xs.drop i).take k) := by
 subst hn
 obtain ⟨A', e, h2⟩ := SlG.cut (i := i) (k := i + k) h (by omega) hk
 rw [show i + k - i = k by omega] at h2
 exact ⟨A', e, h2⟩
set_option maxHeartbeats 12800000 in
set_option maxRecDepth 100000 in
theorem l11Cells_any (ua ub cv : Value) (X Y : Rp) (e : Nat → Int) (w0 : World) (ha : RpR w0 w0.heap.size ua X) (hb : RpR w0 w0.heap.size ub Y) (hcv : SlI w0 w0.heap.size cv (rowF (hmN X Y) e)) (hf : Fit2 X Y) :
  Calls Tryz.prog 121 #[ua, ub, cv] w0 fun e' w' => ∃ v, e' = .returned v ∧ MatsO w' w0.heap.size w'.heap.size v (shF X.d Y.d e X.d.length) ∧ Below w0.heap.size w0 w' := by
 obtain ⟨CA, cc, rfl, hcc1, hcc2, _, hcx⟩ := hcv.open_
 clear hcv
 rw [rowF_length] at hcx hcc1 ⊢
 have ha' := ha
 have hb' := hb
 obtain ⟨A, a, C, c, Ea, ea, Ha, ha_, rfl, hqa, hda, hma, hpa, lda, lma⟩ := ha.open_
 obtain ⟨A2, a2, C2, c2, Eb, eb, Hb, hb_, rfl, hqb, hdb, hmb, hpb, ldb, lmb⟩ := hb.open_
 clear ha hb
 obtain ⟨W, hW⟩ : ∃ W, W = (w0.alloc (.cells #[.int .i64 X.p, .int .i64 X.q.v, .slice A X.q.f.length a, .slice C X.q.t.length c, .slice Ea X.d.length ea, .slice Ha X.m.length ha_] 32)).alloc (.cells #[.int .i64 Y.p, .int .i64 Y.q.v, .slice A2 Y.q.f.length a2, .slice C2 Y.q.t.length c2, .slice Eb Y.d.length eb, .slice Hb Y.m.length hb_] 32) := ⟨_, rfl⟩
 have g0 : Below w0.heap.size w0 W := by rw [hW]; exact ((Below.refl _ _).alloc (Nat.le_refl _) _).alloc (by simp) _
 have k1 : Blk W w0.heap.size 32 #[.int .i64 X.p, .int .i64 X.q.v, .slice A X.q.f.length a, .slice C X.q.t.length c, .slice Ea X.d.length ea, .slice Ha X.m.length ha_] := by rw [hW]; exact (Blk.new _ _ _).alloc _
 have k2 : Blk W (w0.heap.size + 1) 32 #[.int .i64 Y.p, .int .i64 Y.q.v, .slice A2 Y.q.f.length a2, .slice C2 Y.q.t.length c2, .slice Eb Y.d.length eb, .slice Hb Y.m.length hb_] := by
  rw [hW]
  have := Blk.new (w0.alloc (.cells #[.int .i64 X.p, .int .i64 X.q.v, .slice A X.q.f.length a, .slice C X.q.t.length c, .slice Ea X.d.length ea, .slice Ha X.m.length ha_] 32)) 32 #[.int .i64 Y.p, .int .i64 Y.q.v, .slice A2 Y.q.f.length a2, .slice C2 Y.q.t.length c2, .slice Eb Y.d.length eb, .slice Hb Y.m.length hb_]
  simpa only [World.size_alloc] using this
 have HXA := Lib.hid (RpR.next g0 ha')
 have HXB := Lib.hid (RpR.next g0 hb')
 have HQA := Lib.hid (QvR.next g0 hqa)
 have HDA := Lib.hid (SlI.next g0 hda)
 have HDB := Lib.hid (SlI.next g0 hdb)
 have HMA := Lib.hid (SlM.next g0 hma)
 have HMB := Lib.hid (SlM.next g0 hmb)
 have G0 := Lib.hid g0
 clear ha' hb' hqa hqb hda hdb hma hmb hpa hpb g0
 have HCV := Lib.hid (SlI.next G0.out hcx)
 have HF := Lib.hid hf
 have hl5 := hf.len.2
 have hN80 := hmN_le hf
 have HLY := Lib.hid hf.len.1
 have HOL := Lib.hid (fun v (h : v < X.d.length) => hOff_mono X.d Y.d (show v + 1 ≤ X.d.length by omega))
 have HHM := Lib.hid (show hOff X.d Y.d X.d.length = hmN X Y from rfl)
 obtain ⟨n, hn⟩ : ∃ n, hmN X Y = n := ⟨_, rfl⟩
 rw [hn] at hN80 HCV HHM hcc1 ⊢
 obtain ⟨V, hV⟩ : ∃ n, X.d.length = n := ⟨_, rfl⟩
 obtain ⟨VY, hVY⟩ : ∃ n, Y.d.length = n := ⟨_, rfl⟩
 rw [hV] at hl5 k1 hW HOL HHM ⊢
 rw [hVY] at k2 hW ⊢
 have hVV : VY = V := by have := HLY.out; omega
 subst hVV
 have HV := Lib.hid hV
 have HVY := Lib.hid hVY
 obtain ⟨W2, hW2⟩ : ∃ z, W.alloc (.cells #[] 50) = z := ⟨_, rfl⟩
 have b2 : Below W.heap.size W W2 := by rw [← hW2]; exact below_alloc _ _
 have O2 : MatsO W2 W.heap.size W2.heap.size (.slice (some ⟨W.heap.size, 0, none⟩) 0 0) (shF X.d Y.d e 0) := by
  rw [← hW2, show shF X.d Y.d e 0 = [] from rfl]
  exact ⟨[], ⟨World.ownsRow_made _ #[] 0 (Nat.le_refl _) (by simp [maxLen]) (by simp), by simp [Value.ownBlock], by simp⟩, rfl, ⟨fun p hp => by simp at hp, by simp⟩, by simp⟩
 have sW : W.heap.size = w0.heap.size + 1 + 1 := by rw [hW]; simp
 have O2' : MatsO W2 W.heap.size W2.heap.size (.slice (some ⟨w0.heap.size + 1 + 1, 0, none⟩) 0 0) (shF X.d Y.d e 0) := by
  have h := O2
  rw [show (Value.slice (some ⟨W.heap.size, 0, none⟩) 0 0) = .slice (some ⟨w0.heap.size + 1 + 1, 0, none⟩) 0 0 by rw [sW]] at h
  exact h
 clear sW O2
 clear hf hV hVY hn hcx
 go_enter Tryz.func121, Tryz.ntmps121
 go_wp2
 rw [← hW]
 clear hW
 rw [hW2]
 clear hW2
 go_loopw [7, 8, 9] (fun out at_ i wr => ∃ (k : Nat) (OA : Option Addr) (oc on : Nat), k ≤ VY ∧ i = .int .i64 k ∧ at_ = .int .i64 (hOff X.d Y.d k : Nat) ∧ out = .slice OA on oc ∧ MatsO wr W.heap.size wr.heap.size (.slice OA on oc) (shF X.d Y.d e k) ∧ Below W.heap.size W wr) (fun _ _ i _ => VY - (intOf i).toNat)
 case atStart => exact ⟨0, _, _, _, Nat.zero_le _, rfl, rfl, rfl, O2', b2⟩
 case round =>
  clear O2' b2
  obtain ⟨k, OA, oc, on, hk, rfl, rfl, rfl, hO, hbel⟩ := hrel
  have hbs := hbel.size
  have kBr := k1.call hbel
  have z4r := kBr.cell' (i := 4) rfl
  by_cases hlt : k < VY
  ·obtain ⟨dx, dy, bx, by_⟩ := HF.out.dim (k := k) (by rw [HV.out]; exact hlt)
   obtain ⟨b1, o1, x1, e1, hb1, HX1, z1, _, _⟩ := SlI.at_ HDA.out (k := k) (by rw [HV.out]; exact hlt)
   obtain ⟨b2, o2, x2, e2, hb2, HX2, z2, _, _⟩ := SlI.at_ HDB.out (k := k) (by rw [HVY.out]; exact hlt)
   subst e1 e2
   have q1 := HX1.out
   rw [dx] at q1
   injection q1 with q1
   subst q1
   have q2 := HX2.out
   rw [dy] at q2
   injection q2 with q2
   subst q2
   have hle := hOff_le HF.out (v := k) (by rw [HV.out]; omega)
   have hHS : hOff X.d Y.d (k + 1) = hOff X.d Y.d k + dmN Y.d k * dmN X.d k := rfl
   have hol := HOL.out k hlt
   rw [HHM.out] at hol
   have HSH := Lib.hid (shF_succ X.d Y.d e k)
   have HPF := Lib.hid (part_flat n (hOff X.d Y.d k) (dmN Y.d k) (dmN X.d k) e (by omega))
   obtain ⟨DX, hDX⟩ : ∃ n, dmN X.d k = n := ⟨_, rfl⟩
   obtain ⟨DY, hDY⟩ : ∃ n, dmN Y.d k = n := ⟨_, rfl⟩
   rw [hDX] at z1 bx hHS HSH HPF
   rw [hDY] at z2 by_ hHS HSH HPF
   have hP16 : DY * DX ≤ 4 * 4 := Nat.mul_le_mul by_ bx
   obtain ⟨P, hP⟩ : ∃ P, DY * DX = P := ⟨_, rfl⟩
   rw [hP] at hP16 hHS HPF
   have HPw : Hid (wrap64 ((DX : Int) * (DY : Int)) = (P : Int)) := by
    show _ = _
    rw [show ((DX : Int) * (DY : Int)) = (P : Int) by rw [← hP]; push_cast; exact Int.mul_comm _ _]
    exact IntWalk.wrap64_in _ ⟨by omega, by omega⟩
   obtain ⟨S, hS⟩ : ∃ n, hOff X.d Y.d k = n := ⟨_, rfl⟩
   rw [hS] at hle hHS HSH HPF ⊢
   rw [hHS] at hol
   have HHS := Lib.hid hHS
   have Z1 := Lib.hid (bcell hbel hb1 z1)
   have Z2 := Lib.hid (bcell hbel hb2 z2)
   have KA := Lib.hid kBr
   have KB := Lib.hid (k2.call hbel)
   have HB := Lib.hid hbel
   have HO := Lib.hid hO
   have HCr := Lib.hid (SlI.next hbel HCV.out)
   have hPS : Hid (flat DY DX (fun s t => e (S + s * DX + t)) = ((rowF n e).drop S).take P) := HPF.out.symm
   obtain ⟨M, hM⟩ : ∃ M, mxF DY DX (fun s t => e (S + s * DX + t)) = M := ⟨_, rfl⟩
   have HM1 := Lib.hid (show M.r = DY ∧ M.c = DX ∧ M.a = ((rowF n e).drop S).take P by rw [← hM]; exact ⟨rfl, rfl, hPS.out⟩)
   rw [hM] at HSH
   clear HX1 HX2 dx dy hDX hDY hP hS hHS hbel z1 z2 kBr hM hO
   go_wp2
   clear z4r
   refine wp_region_net (by kernel_rfl) [.eq (.pointer (some ⟨w0.heap.size, 4, none⟩)), .eq (.slice (some ⟨b1, o1, none⟩) VY ea), .eq (.int .i64 k), .eq (.pointer (some ⟨b1, o1 + k, none⟩)), .eq (.int .i64 DX), .eq (.pointer (some ⟨w0.heap.size + 1, 4, none⟩)), .eq (.slice (some ⟨b2, o2, none⟩) VY eb), .eq (.int .i64 k), .eq (.pointer (some ⟨b2, o2 + k, none⟩)), .eq (.int .i64 DY), .eq (.int .i64 P)] [[], [0], [], [0, 1, 2], [0, 1, 2, 3], [], [5], [], [5, 6, 7], [5, 6, 7, 8], [0, 1, 2, 3, 4, 5, 6, 7, 8, 9], [0, 1, 2, 3, 4, 5, 6, 7, 8, 9, 10]] 11 (by kernel_rfl) ⟨trivial, trivial, trivial, trivial, trivial, trivial, trivial, trivial, trivial, trivial, trivial, trivial⟩ ⟨?_, ?_, ?_, ?_, ?_, ?_, ?_, ?_, ?_, ?_, ?_, trivial⟩ ?_
   ·intro x w hb hk Q' hQ
    clear hk
    simp only [netE] at hQ ⊢
    go_wp2
    exact hQ _ _ (Below.refl _ _) rfl
   ·intro x w hb hk Q' hQ
    have h0 : x.v 0 = .pointer (some ⟨w0.heap.size, 4, none⟩) := (hk 0 (by decide)).1
    clear hk
    simp only [netE] at hQ ⊢
    simp only [h0] at hQ ⊢
    clear h0
    have z := (KA.out.call hb).cell' (i := 4) rfl
    go_wp2
    exact hQ _ _ (Below.refl _ _) rfl
   ·intro x w hb hk Q' hQ
    clear hk
    simp only [netE] at hQ ⊢
    go_wp2
    exact hQ _ _ (Below.refl _ _) rfl
   ·intro x w hb hk Q' hQ
    have h1 : x.v 1 = .slice (some ⟨b1, o1, none⟩) VY ea := (hk 1 (by decide)).1
    have h2 : x.v 2 = .int .i64 k := (hk 2 (by decide)).1
    clear hk
    simp only [netE] at hQ ⊢
    simp only [h1, h2] at hQ ⊢
    clear h1 h2
    go_wp2
    exact hQ _ _ (Below.refl _ _) rfl
   ·intro x w hb hk Q' hQ
    have h3 : x.v 3 = .pointer (some ⟨b1, o1 + k, none⟩) := (hk 3 (by decide)).1
    clear hk
    simp only [netE] at hQ ⊢
    simp only [h3] at hQ ⊢
    clear h3
    have z := bcell hb (by omega) Z1.out
    go_wp2
    exact hQ _ _ (Below.refl _ _) rfl
   ·intro x w hb hk Q' hQ
    clear hk
    simp only [netE] at hQ ⊢
    go_wp2
    exact hQ _ _ (Below.refl _ _) rfl
   ·intro x w hb hk Q' hQ
    have h5 : x.v 5 = .pointer (some ⟨w0.heap.size + 1, 4, none⟩) := (hk 5 (by decide)).1
    clear hk
    simp only [netE] at hQ ⊢
    simp only [h5] at hQ ⊢
    clear h5
    have z := (KB.out.call hb).cell' (i := 4) rfl
    go_wp2
    exact hQ _ _ (Below.refl _ _) rfl
   ·intro x w hb hk Q' hQ
    clear hk
    simp only [netE] at hQ ⊢
    go_wp2
    exact hQ _ _ (Below.refl _ _) rfl
   ·intro x w hb hk Q' hQ
    have h6 : x.v 6 = .slice (some ⟨b2, o2, none⟩) VY eb := (hk 6 (by decide)).1
    have h7 : x.v 7 = .int .i64 k := (hk 7 (by decide)).1
    clear hk
    simp only [netE] at hQ ⊢
    simp only [h6, h7] at hQ ⊢
    clear h6 h7
    go_wp2
    exact hQ _ _ (Below.refl _ _) rfl
   ·intro x w hb hk Q' hQ
    have h8 : x.v 8 = .pointer (some ⟨b2, o2 + k, none⟩) := (hk 8 (by decide)).1
    clear hk
    simp only [netE] at hQ ⊢
    simp only [h8] at hQ ⊢
    clear h8
    have z := bcell hb (by omega) Z2.out
    go_wp2
    exact hQ _ _ (Below.refl _ _) rfl
   ·intro x w hb hk Q' hQ
    have h4 : x.v 4 = .int .i64 DX := (hk 4 (by decide)).1
    have h9 : x.v 9 = .int .i64 DY := (hk 9 (by decide)).1
    clear hk
    simp only [netE] at hQ ⊢
    simp only [h4, h9] at hQ ⊢
    clear h4 h9
    go_wp2
    rw [HPw.out]
    exact hQ _ _ (Below.refl _ _) rfl
   ·intro x w hb hk hiv hdj
    have h0 : x.v 0 = .pointer (some ⟨w0.heap.size, 4, none⟩) := hk 0 (by decide)
    have h1 : x.v 1 = .slice (some ⟨b1, o1, none⟩) VY ea := hk 1 (by decide)
    have h2 : x.v 2 = .int .i64 k := hk 2 (by decide)
    have h3 : x.v 3 = .pointer (some ⟨b1, o1 + k, none⟩) := hk 3 (by decide)
    have h4 : x.v 4 = .int .i64 DX := hk 4 (by decide)
    have h5 : x.v 5 = .pointer (some ⟨w0.heap.size + 1, 4, none⟩) := hk 5 (by decide)
    have h6 : x.v 6 = .slice (some ⟨b2, o2, none⟩) VY eb := hk 6 (by decide)
    have h7 : x.v 7 = .int .i64 k := hk 7 (by decide)
    have h8 : x.v 8 = .pointer (some ⟨b2, o2 + k, none⟩) := hk 8 (by decide)
    have h9 : x.v 9 = .int .i64 DY := hk 9 (by decide)
    have h10 : x.v 10 = .int .i64 P := hk 10 (by decide)
    clear hk
    simp only [netE]
    simp only [List.drop_succ_cons, List.drop_zero, h0, h1, h2, h3, h4, h5, h6, h7, h8, h9, h10]
    clear h0 h1 h2 h3 h4 h5 h6 h7 h8 h9 h10
    have HBa := Lib.hid (HB.out.trans (hb.mono hbs))
    have HOa := Lib.hid (HO.out.below hb)
    have KAa := Lib.hid (KA.out.call hb)
    have KBa := Lib.hid (KB.out.call hb)
    have Z1a := Lib.hid (bcell hb (by omega) Z1.out)
    have Z2a := Lib.hid (bcell hb (by omega) Z2.out)
    have HCa := Lib.hid (SlI.next hb HCr.out)
    have hsa := hb.size
    have hbsa : W.heap.size ≤ w.heap.size := by omega
    obtain ⟨wa, hwa⟩ : ∃ z, z = w := ⟨_, rfl⟩
    subst hwa
    clear hiv hdj hb HB HO KA KB Z1 Z2 HCr
    go_wp2
    refine wp_region_net (by kernel_rfl) [.eq (.slice OA on oc), .eq (.pointer (some ⟨w0.heap.size + 1, 4, none⟩)), .eq (.slice (some ⟨b2, o2, none⟩) VY eb), .eq (.int .i64 k), .eq (.pointer (some ⟨b2, o2 + k, none⟩)), .eq (.int .i64 DY), .eq (.pointer (some ⟨w0.heap.size, 4, none⟩)), .eq (.slice (some ⟨b1, o1, none⟩) VY ea), .eq (.int .i64 k), .eq (.pointer (some ⟨b1, o1 + k, none⟩)), .eq (.int .i64 DX), rel 11 (fun u lo hi w => Fresh w wa.heap.size u), .eq (.slice CA n cc), .eq (.int .i64 S), .eq (.int .i64 S), .eq (.int .i64 P), .eq (.int .i64 ((S : Int) + P)), rel 17 (fun u lo hi w => ∃ A', u = .slice A' P (cc - S) ∧ SlI w w.heap.size (.slice A' P (cc - S)) (((rowF n e).drop S).take P)), rel 18 (fun u lo hi w => OwnI w wa.heap.size u (((rowF n e).drop S).take P)), rel 19 (fun u lo hi w => ∃ s, u = .agg #[.int .i64 DY, .int .i64 DX, s] ∧ OwnI w wa.heap.size s (((rowF n e).drop S).take P)), .rel (fun x w => ∃ g s, x.v 20 = .slice (some ⟨g, 0, none⟩) 1 1 ∧ x.v 19 = .agg #[.int .i64 DY, .int .i64 DX, s] ∧ Blk w g 50 #[.int .i64 DY, .int .i64 DX, s])] [[], [], [1], [], [1, 2, 3], [1, 2, 3, 4], [], [6], [], [6, 7, 8], [6, 7, 8, 9], [], [], [], [], [], [14, 15], [12, 13, 14, 15, 16], [11, 12, 13, 14, 15, 16, 17], [1, 2, 3, 4, 5, 6, 7, 8, 9, 10, 11, 12, 13, 14, 15, 16, 17, 18], [1, 2, 3, 4, 5, 6, 7, 8, 9, 10, 11, 12, 13, 14, 15, 16, 17, 18, 19], [0, 1, 2, 3, 4, 5, 6, 7, 8, 9, 10, 11, 12, 13, 14, 15, 16, 17, 18, 19, 20], [0, 1, 2, 3, 4, 5, 6, 7, 8, 9, 10, 11, 12, 13, 14, 15, 16, 17, 18, 19, 20, 21]] 21 (by kernel_rfl) ⟨trivial, trivial, trivial, trivial, trivial, trivial, trivial, trivial, trivial, trivial, trivial, rel_stable (fun u lo hi w w' h hb => h.below hb), trivial, trivial, trivial, trivial, trivial, rel_stable (fun u lo hi w w' ⟨A', e1, h⟩ hb => ⟨A', e1, SlI.next hb h⟩), rel_stable (fun u lo hi w w' h hb => h.below hb), rel_stable (fun u lo hi w w' ⟨s, e, h⟩ hb => ⟨s, e, h.below hb⟩), fun x w w' ⟨g, s, e1, e2, h⟩ hb => ⟨g, s, e1, e2, h.call hb⟩, trivial⟩ ⟨?_, ?_, ?_, ?_, ?_, ?_, ?_, ?_, ?_, ?_, ?_, ?_, ?_, ?_, ?_, ?_, ?_, ?_, ?_, ?_, ?_, trivial⟩ ?_
    ·intro x w hb hk Q' hQ
     clear hk
     simp only [netE] at hQ ⊢
     go_wp2
     exact hQ _ _ (Below.refl _ _) rfl
    ·intro x w hb hk Q' hQ
     clear hk
     simp only [netE] at hQ ⊢
     go_wp2
     exact hQ _ _ (Below.refl _ _) rfl
    ·intro x w hb hk Q' hQ
     have h1 : x.v 1 = .pointer (some ⟨w0.heap.size + 1, 4, none⟩) := (hk 1 (by decide)).1
     clear hk
     simp only [netE] at hQ ⊢
     simp only [h1] at hQ ⊢
     clear h1
     have z := (KBa.out.call hb).cell' (i := 4) rfl
     go_wp2
     exact hQ _ _ (Below.refl _ _) rfl
    ·intro x w hb hk Q' hQ
     clear hk
     simp only [netE] at hQ ⊢
     go_wp2
     exact hQ _ _ (Below.refl _ _) rfl
    ·intro x w hb hk Q' hQ
     have h2 : x.v 2 = .slice (some ⟨b2, o2, none⟩) VY eb := (hk 2 (by decide)).1
     have h3 : x.v 3 = .int .i64 k := (hk 3 (by decide)).1
     clear hk
     simp only [netE] at hQ ⊢
     simp only [h2, h3] at hQ ⊢
     clear h2 h3
     go_wp2
     exact hQ _ _ (Below.refl _ _) rfl
    ·intro x w hb hk Q' hQ
     have h4 : x.v 4 = .pointer (some ⟨b2, o2 + k, none⟩) := (hk 4 (by decide)).1
     clear hk
     simp only [netE] at hQ ⊢
     simp only [h4] at hQ ⊢
     clear h4
     have z := bcell hb (by omega) Z2a.out
     go_wp2
     exact hQ _ _ (Below.refl _ _) rfl
    ·intro x w hb hk Q' hQ
     clear hk
     simp only [netE] at hQ ⊢
     go_wp2
     exact hQ _ _ (Below.refl _ _) rfl
    ·intro x w hb hk Q' hQ
     have h6 : x.v 6 = .pointer (some ⟨w0.heap.size, 4, none⟩) := (hk 6 (by decide)).1
     clear hk
     simp only [netE] at hQ ⊢
     simp only [h6] at hQ ⊢
     clear h6
     have z := (KAa.out.call hb).cell' (i := 4) rfl
     go_wp2
     exact hQ _ _ (Below.refl _ _) rfl
    ·intro x w hb hk Q' hQ
     clear hk
     simp only [netE] at hQ ⊢
     go_wp2
     exact hQ _ _ (Below.refl _ _) rfl
    ·intro x w hb hk Q' hQ
     have h7 : x.v 7 = .slice (some ⟨b1, o1, none⟩) VY ea := (hk 7 (by decide)).1
     have h8 : x.v 8 = .int .i64 k := (hk 8 (by decide)).1
     clear hk
     simp only [netE] at hQ ⊢
     simp only [h7, h8] at hQ ⊢
     clear h7 h8
     go_wp2
     exact hQ _ _ (Below.refl _ _) rfl
    ·intro x w hb hk Q' hQ
     have h9 : x.v 9 = .pointer (some ⟨b1, o1 + k, none⟩) := (hk 9 (by decide)).1
     clear hk
     simp only [netE] at hQ ⊢
     simp only [h9] at hQ ⊢
     clear h9
     have z := bcell hb (by omega) Z1a.out
     go_wp2
     exact hQ _ _ (Below.refl _ _) rfl
    ·intro x w hb hk Q' hQ
     clear hk
     simp only [netE] at hQ ⊢
     go_wp2
     exact hQ _ _ (below_alloc _ _) (Fresh.new _ hb.size)
    ·intro x w hb hk Q' hQ
     clear hk
     simp only [netE] at hQ ⊢
     go_wp2
     exact hQ _ _ (Below.refl _ _) rfl
    ·intro x w hb hk Q' hQ
     clear hk
     simp only [netE] at hQ ⊢
     go_wp2
     exact hQ _ _ (Below.refl _ _) rfl
    ·intro x w hb hk Q' hQ
     clear hk
     simp only [netE] at hQ ⊢
     go_wp2
     exact hQ _ _ (Below.refl _ _) rfl
    ·intro x w hb hk Q' hQ
     clear hk
     simp only [netE] at hQ ⊢
     go_wp2
     exact hQ _ _ (Below.refl _ _) rfl
    ·intro x w hb hk Q' hQ
     have h14 : x.v 14 = .int .i64 S := (hk 14 (by decide)).1
     have h15 : x.v 15 = .int .i64 P := (hk 15 (by decide)).1
     clear hk
     simp only [netE] at hQ ⊢
     simp only [h14, h15] at hQ ⊢
     clear h14 h15
     go_wp2
     exact hQ (.int .i64 ((S : Int) + P)) _ (Below.refl _ _) rfl
    ·intro x w hb hk Q' hQ
     have h12 : x.v 12 = .slice CA n cc := (hk 12 (by decide)).1
     have h13 : x.v 13 = .int .i64 S := (hk 13 (by decide)).1
     have h14 : x.v 14 = .int .i64 S := (hk 14 (by decide)).1
     have h15 : x.v 15 = .int .i64 P := (hk 15 (by decide)).1
     have h16 : x.v 16 = .int .i64 ((S : Int) + P) := (hk 16 (by decide)).1
     clear hk
     simp only [netE] at hQ ⊢
     simp only [h12, h13, h14, h15, h16] at hQ ⊢
     clear h12 h13 h14 h15 h16
     obtain ⟨A', eA', hcut⟩ := SlI.cutG (i := S) (k := P) (SlI.next hb HCa.out) (rowF_length _ _) (by omega)
     rw [Nat.mul_one] at eA'
     have HCUT := Lib.hid hcut
     clear hcut
     go_wp2
     rw [show S + P - S = P by omega]
     exact hQ _ _ (Below.refl _ _) ⟨A', rfl, HCUT.out⟩
    ·intro x w hb hk Q' hQ
     have h11 : Fresh w wa.heap.size (x.v 11) := (hk 11 (by decide)).1
     have h12 : x.v 12 = .slice CA n cc := (hk 12 (by decide)).1
     have h13 : x.v 13 = .int .i64 S := (hk 13 (by decide)).1
     have h14 : x.v 14 = .int .i64 S := (hk 14 (by decide)).1
     have h15 : x.v 15 = .int .i64 P := (hk 15 (by decide)).1
     have h16 : x.v 16 = .int .i64 ((S : Int) + P) := (hk 16 (by decide)).1
     have h17 : ∃ A', (x.v 17) = .slice A' P (cc - S) ∧ SlI w w.heap.size (.slice A' P (cc - S)) (((rowF n e).drop S).take P) := (hk 17 (by decide)).1
     have s11 := (hk 11 (by decide)).2
     have s17 := (hk 17 (by decide)).2
     clear hk
     simp only [netE] at hQ ⊢
     simp only [h12, h13, h14, h15, h16] at hQ ⊢
     clear h12 h13 h14 h15 h16
     obtain ⟨g, e4, hg, hB⟩ := h11
     obtain ⟨A', e17, hS17⟩ := h17
     have hlen : (((rowF n e).drop S).take P).length = P := by rw [List.length_take, List.length_drop, rowF_length]; omega
     rw [e4, e17] at hQ ⊢
     refine wpList_append_fresh (by rfl) (.tmp 41) (.tmp 47) (by rfl) g wa.heap.size w.heap.size #[] (by rfl) hB rfl hg A' (cc - S) (((rowF n e).drop S).take P) (by rw [hlen]; rfl) (by rw [hlen]; exact hS17) ?_
     intro v' w' ho hb'
     exact hQ _ _ hb' ho
    ·intro x w hb hk Q' hQ
     have h1 : x.v 1 = .pointer (some ⟨w0.heap.size + 1, 4, none⟩) := (hk 1 (by decide)).1
     have h2 : x.v 2 = .slice (some ⟨b2, o2, none⟩) VY eb := (hk 2 (by decide)).1
     have h3 : x.v 3 = .int .i64 k := (hk 3 (by decide)).1
     have h4 : x.v 4 = .pointer (some ⟨b2, o2 + k, none⟩) := (hk 4 (by decide)).1
     have h5 : x.v 5 = .int .i64 DY := (hk 5 (by decide)).1
     have h6 : x.v 6 = .pointer (some ⟨w0.heap.size, 4, none⟩) := (hk 6 (by decide)).1
     have h7 : x.v 7 = .slice (some ⟨b1, o1, none⟩) VY ea := (hk 7 (by decide)).1
     have h8 : x.v 8 = .int .i64 k := (hk 8 (by decide)).1
     have h9 : x.v 9 = .pointer (some ⟨b1, o1 + k, none⟩) := (hk 9 (by decide)).1
     have h10 : x.v 10 = .int .i64 DX := (hk 10 (by decide)).1
     have h11 : Fresh w wa.heap.size (x.v 11) := (hk 11 (by decide)).1
     have h12 : x.v 12 = .slice CA n cc := (hk 12 (by decide)).1
     have h13 : x.v 13 = .int .i64 S := (hk 13 (by decide)).1
     have h14 : x.v 14 = .int .i64 S := (hk 14 (by decide)).1
     have h15 : x.v 15 = .int .i64 P := (hk 15 (by decide)).1
     have h16 : x.v 16 = .int .i64 ((S : Int) + P) := (hk 16 (by decide)).1
     have h17 : ∃ A', (x.v 17) = .slice A' P (cc - S) ∧ SlI w w.heap.size (.slice A' P (cc - S)) (((rowF n e).drop S).take P) := (hk 17 (by decide)).1
     have h18 : OwnI w wa.heap.size (x.v 18) (((rowF n e).drop S).take P) := (hk 18 (by decide)).1
     have s11 := (hk 11 (by decide)).2
     have s17 := (hk 17 (by decide)).2
     have s18 := (hk 18 (by decide)).2
     clear hk
     simp only [netE] at hQ ⊢
     simp only [h1, h2, h3, h4, h5, h6, h7, h8, h9, h10, h12, h13, h14, h15, h16] at hQ ⊢
     clear h1 h2 h3 h4 h5 h6 h7 h8 h9 h10 h12 h13 h14 h15 h16
     obtain ⟨A', c', e7, _, _⟩ := h18.form
     obtain ⟨sn, hsn⟩ : ∃ z, (((rowF n e).drop S).take P).length = z := ⟨_, rfl⟩
     rw [hsn] at e7
     rw [e7] at h18
     rw [e7] at hQ ⊢
     have H18 := Lib.hid h18
     clear h18 e7 hsn
     go_wp2
     exact hQ (.agg #[.int .i64 DY, .int .i64 DX, .slice A' sn c']) w (Below.refl _ _) ⟨_, rfl, H18.out⟩
    ·intro x w hb hk Q' hQ
     have h1 : x.v 1 = .pointer (some ⟨w0.heap.size + 1, 4, none⟩) := (hk 1 (by decide)).1
     have h2 : x.v 2 = .slice (some ⟨b2, o2, none⟩) VY eb := (hk 2 (by decide)).1
     have h3 : x.v 3 = .int .i64 k := (hk 3 (by decide)).1
     have h4 : x.v 4 = .pointer (some ⟨b2, o2 + k, none⟩) := (hk 4 (by decide)).1
     have h5 : x.v 5 = .int .i64 DY := (hk 5 (by decide)).1
     have h6 : x.v 6 = .pointer (some ⟨w0.heap.size, 4, none⟩) := (hk 6 (by decide)).1
     have h7 : x.v 7 = .slice (some ⟨b1, o1, none⟩) VY ea := (hk 7 (by decide)).1
     have h8 : x.v 8 = .int .i64 k := (hk 8 (by decide)).1
     have h9 : x.v 9 = .pointer (some ⟨b1, o1 + k, none⟩) := (hk 9 (by decide)).1
     have h10 : x.v 10 = .int .i64 DX := (hk 10 (by decide)).1
     have h11 : Fresh w wa.heap.size (x.v 11) := (hk 11 (by decide)).1
     have h12 : x.v 12 = .slice CA n cc := (hk 12 (by decide)).1
     have h13 : x.v 13 = .int .i64 S := (hk 13 (by decide)).1
     have h14 : x.v 14 = .int .i64 S := (hk 14 (by decide)).1
     have h15 : x.v 15 = .int .i64 P := (hk 15 (by decide)).1
     have h16 : x.v 16 = .int .i64 ((S : Int) + P) := (hk 16 (by decide)).1
     have h17 : ∃ A', (x.v 17) = .slice A' P (cc - S) ∧ SlI w w.heap.size (.slice A' P (cc - S)) (((rowF n e).drop S).take P) := (hk 17 (by decide)).1
     have h18 : OwnI w wa.heap.size (x.v 18) (((rowF n e).drop S).take P) := (hk 18 (by decide)).1
     have h19 : ∃ s, (x.v 19) = .agg #[.int .i64 DY, .int .i64 DX, s] ∧ OwnI w wa.heap.size s (((rowF n e).drop S).take P) := (hk 19 (by decide)).1
     have s11 := (hk 11 (by decide)).2
     have s17 := (hk 17 (by decide)).2
     have s18 := (hk 18 (by decide)).2
     have s19 := (hk 19 (by decide)).2
     clear hk
     simp only [netE] at hQ ⊢
     simp only [h1, h2, h3, h4, h5, h6, h7, h8, h9, h10, h12, h13, h14, h15, h16] at hQ ⊢
     clear h1 h2 h3 h4 h5 h6 h7 h8 h9 h10 h12 h13 h14 h15 h16
     obtain ⟨s, e19, hs⟩ := h19
     obtain ⟨sA, sc, es, _, _⟩ := hs.form
     obtain ⟨sn, hsn⟩ : ∃ z, (((rowF n e).drop S).take P).length = z := ⟨_, rfl⟩
     rw [hsn] at es
     subst es
     clear hsn hs
     have hQ' := hQ (.slice (some ⟨w.heap.size, 0, none⟩) 1 1) (w.alloc (.cells #[.int .i64 DY, .int .i64 DX, .slice sA sn sc] 50)) (below_alloc _ _) ⟨_, _, rfl, e19, Blk.new _ _ _⟩
     rw [e19] at hQ' ⊢
     go_wp2
     exact hQ'
    ·intro x w hb hk hiv hdj
     have h0 : x.v 0 = .slice OA on oc := hk 0 (by decide)
     have h1 : x.v 1 = .pointer (some ⟨w0.heap.size + 1, 4, none⟩) := hk 1 (by decide)
     have h2 : x.v 2 = .slice (some ⟨b2, o2, none⟩) VY eb := hk 2 (by decide)
     have h3 : x.v 3 = .int .i64 k := hk 3 (by decide)
     have h4 : x.v 4 = .pointer (some ⟨b2, o2 + k, none⟩) := hk 4 (by decide)
     have h5 : x.v 5 = .int .i64 DY := hk 5 (by decide)
     have h6 : x.v 6 = .pointer (some ⟨w0.heap.size, 4, none⟩) := hk 6 (by decide)
     have h7 : x.v 7 = .slice (some ⟨b1, o1, none⟩) VY ea := hk 7 (by decide)
     have h8 : x.v 8 = .int .i64 k := hk 8 (by decide)
     have h9 : x.v 9 = .pointer (some ⟨b1, o1 + k, none⟩) := hk 9 (by decide)
     have h10 : x.v 10 = .int .i64 DX := hk 10 (by decide)
     have h11 : Fresh w wa.heap.size (x.v 11) := hk 11 (by decide)
     have h12 : x.v 12 = .slice CA n cc := hk 12 (by decide)
     have h13 : x.v 13 = .int .i64 S := hk 13 (by decide)
     have h14 : x.v 14 = .int .i64 S := hk 14 (by decide)
     have h15 : x.v 15 = .int .i64 P := hk 15 (by decide)
     have h16 : x.v 16 = .int .i64 ((S : Int) + P) := hk 16 (by decide)
     have h17 : ∃ A', (x.v 17) = .slice A' P (cc - S) ∧ SlI w w.heap.size (.slice A' P (cc - S)) (((rowF n e).drop S).take P) := hk 17 (by decide)
     have h18 : OwnI w wa.heap.size (x.v 18) (((rowF n e).drop S).take P) := hk 18 (by decide)
     have h19 : ∃ s, (x.v 19) = .agg #[.int .i64 DY, .int .i64 DX, s] ∧ OwnI w wa.heap.size s (((rowF n e).drop S).take P) := hk 19 (by decide)
     have h20 : ∃ g s, x.v 20 = .slice (some ⟨g, 0, none⟩) 1 1 ∧ x.v 19 = .agg #[.int .i64 DY, .int .i64 DX, s] ∧ Blk w g 50 #[.int .i64 DY, .int .i64 DX, s] := hk 20 (by decide)
     clear hk
     simp only [netE]
     simp only [List.drop_succ_cons, List.drop_zero, h0, h1, h2, h3, h4, h5, h6, h7, h8, h9, h10, h12, h13, h14, h15, h16]
     clear h0 h1 h2 h3 h4 h5 h6 h7 h8 h9 h10 h12 h13 h14 h15 h16
     obtain ⟨g, s, ej, ei, hg⟩ := h20
     obtain ⟨s', ei', hs⟩ := h19
     rw [ei] at ei'
     simp only [Value.agg.injEq, Array.mk.injEq, List.cons.injEq, and_true, true_and] at ei'
     subst ei'
     rw [ej]
     have hbs2 := hb.size
     have HOZ := Lib.hid (HOa.out.below hb)
     have HKZ := Lib.hid hg
     have HSZ := Lib.hid (IntsO.of_own hs)
     have HBZ := Lib.hid (HBa.out.trans (hb.mono hbsa))
     obtain ⟨mr, mc_, ma⟩ := HM1.out
     clear hiv hdj hs ej ei hg hb h11 h17 h18
     refine wpList_appMats (by rfl) (.tmp 30) (.tmp 50) (by rfl) W.heap.size wa.heap.size _ (shF X.d Y.d e k) (by rfl) (HOZ.out.wider (Nat.le_refl _) hsa) g 1 wa.heap.size w.heap.size M s (by rfl) (by rw [mr, mc_]; exact HKZ.out) (by rw [ma]; exact HSZ.out) (by rw [mr, mc_]; simp only [I64]; omega) (Nat.le_refl _) hbsa (Nat.le_refl _) hbs2 (by rw [shF_length]; omega) ?_
     intro v' w' h1 h2
     rw [← HSH.out] at h1
     obtain ⟨A9, c9, ev, _, _⟩ := h1.form2
     subst ev
     have H1 := Lib.hid h1
     have H2 := Lib.hid (HBZ.out.trans (h2.below (Nat.le_refl _) (by omega)))
     clear h1 h2 mr mc_ ma
     go_wp2
     go_roundw
     case rel => exact ⟨k + 1, A9, c9, _, by omega, by go_num, by rw [HHS.out]; go_num, rfl, H1.out, H2.out⟩
     case measure => simp [intOf]; omega
  ·obtain rfl : k = VY := by omega
   have HO := Lib.hid hO
   have GF := Lib.hid (G0.out.trans (hbel.mono G0.out.size))
   have hgs := G0.out.size
   obtain ⟨S, hS⟩ : ∃ n, hOff X.d Y.d k = n := ⟨_, rfl⟩
   rw [hS]
   clear hO hbel kBr hS
   go_wp2
   go_ret
   exact ⟨_, rfl, HO.out.wider hgs (Nat.le_refl _), GF.out⟩
theorem IntssO.grownFar2 {w w' : World} {lo hi : Nat} {v : Value} {ll : List (List Int)} {row : Option Nat} (h : IntssO w lo hi v ll) (hg : w.grownBy w' row) (hr : ∀ g, row = some g → g < lo ∨ hi ≤ g) : IntssO w' lo hi v ll := by
 cases row with
 | none => exact h.below ⟨hg.os, hg.tape, hg.output, hg.size, fun k hk => hg.block k hk (by simp)⟩
 | some g =>
  have := hr g rfl
  exact h.chg (lo' := g) (hi' := g + 1) ⟨hg.os, hg.tape, hg.output, hg.size, fun k hk hne => hg.block k hk (fun e => by injection e with e; omega)⟩ (by omega)
set_option maxHeartbeats 12800000 in
set_option maxRecDepth 100000 in
theorem homBasis_len (ua ub : Value) (X Y : Rp) (w0 : World) (ha : RpR w0 w0.heap.size ua X) (hb : RpR w0 w0.heap.size ub Y) (hf : Fit2 X Y) :
  Calls Tryz.prog 90 #[ua, ub] w0 fun e w' => ∃ A c, e = .returned (.tuple #[.slice A (homN X Y) c, .bool true]) ∧ Below w0.heap.size w0 w' := by
 have hN80 := hmN_le hf
 have hR96 := eqR_le hf
 have HP := Lib.hid (isRep_t.1 hf.hx).1
 have HIF := Lib.hid (eqG_inF (x := X) Y hf.p2.1)
 have HKL := Lib.hid (show (kerR X.p (eqR X Y) (hmN X Y) (eqG X Y)).length = homN X Y by
  have := freeV_rd X.p (eqR X Y) (eqG X Y) (hmN X Y)
  rw [kerR, kerM_length, homN, rkF]
  omega)
 have ha' := ha
 have hb' := hb
 obtain ⟨A, a, C, c, Ea, ea, Ha, ha_, rfl, hqa, hda, hma, hpa, lda, lma⟩ := ha.open_
 obtain ⟨A2, a2, C2, c2, Eb, eb, Hb, hb_, rfl, hqb, hdb, hmb, hpb, ldb, lmb⟩ := hb.open_
 clear ha hb
 obtain ⟨W, hW⟩ : ∃ W, W = (w0.alloc (.cells #[.int .i64 X.p, .int .i64 X.q.v, .slice A X.q.f.length a, .slice C X.q.t.length c, .slice Ea X.d.length ea, .slice Ha X.m.length ha_] 32)).alloc (.cells #[.int .i64 Y.p, .int .i64 Y.q.v, .slice A2 Y.q.f.length a2, .slice C2 Y.q.t.length c2, .slice Eb Y.d.length eb, .slice Hb Y.m.length hb_] 32) := ⟨_, rfl⟩
 have g0 : Below w0.heap.size w0 W := by rw [hW]; exact ((Below.refl _ _).alloc (Nat.le_refl _) _).alloc (by simp) _
 have k1 : Blk W w0.heap.size 32 #[.int .i64 X.p, .int .i64 X.q.v, .slice A X.q.f.length a, .slice C X.q.t.length c, .slice Ea X.d.length ea, .slice Ha X.m.length ha_] := by rw [hW]; exact (Blk.new _ _ _).alloc _
 have k2 : Blk W (w0.heap.size + 1) 32 #[.int .i64 Y.p, .int .i64 Y.q.v, .slice A2 Y.q.f.length a2, .slice C2 Y.q.t.length c2, .slice Eb Y.d.length eb, .slice Hb Y.m.length hb_] := by
  rw [hW]
  have := Blk.new (w0.alloc (.cells #[.int .i64 X.p, .int .i64 X.q.v, .slice A X.q.f.length a, .slice C X.q.t.length c, .slice Ea X.d.length ea, .slice Ha X.m.length ha_] 32)) 32 #[.int .i64 Y.p, .int .i64 Y.q.v, .slice A2 Y.q.f.length a2, .slice C2 Y.q.t.length c2, .slice Eb Y.d.length eb, .slice Hb Y.m.length hb_]
  simpa only [World.size_alloc] using this
 have HXA := Lib.hid (RpR.next g0 ha')
 have HXB := Lib.hid (RpR.next g0 hb')
 have HQA := Lib.hid (QvR.next g0 hqa)
 have HDA := Lib.hid (SlI.next g0 hda)
 have HDB := Lib.hid (SlI.next g0 hdb)
 have HMA := Lib.hid (SlM.next g0 hma)
 have HMB := Lib.hid (SlM.next g0 hmb)
 have G0 := Lib.hid g0
 clear ha' hb' hqa hqb hda hdb hma hmb hpa hpb g0
 have HF := Lib.hid hf
 have c0 := k1.cell' (i := 0) rfl
 have c1 := k1.cell' (i := 1) rfl
 have c2_ := k1.cell' (i := 2) rfl
 have c3 := k1.cell' (i := 3) rfl
 have c4 := k1.cell' (i := 4) rfl
 have c5 := k1.cell' (i := 5) rfl
 have d0 := k2.cell' (i := 0) rfl
 have d1 := k2.cell' (i := 1) rfl
 have d2 := k2.cell' (i := 2) rfl
 have d3 := k2.cell' (i := 3) rfl
 have d4 := k2.cell' (i := 4) rfl
 have d5 := k2.cell' (i := 5) rfl
 have HXA' := HXA.out
 have HXB' := HXB.out
 obtain ⟨W2, hW2⟩ : ∃ z, W.alloc (.cells #[] 30) = z := ⟨_, rfl⟩
 have b2 : Below W.heap.size W W2 := by rw [← hW2]; exact below_alloc _ _
 have sW : W.heap.size = w0.heap.size + 1 + 1 := by rw [hW]; simp
 have O2 : RowO 30 1 W2 W.heap.size W2.heap.size (.slice (some ⟨w0.heap.size + 1 + 1, 0, none⟩) 0 0) 0 [] := by
  rw [show (Value.slice (some ⟨w0.heap.size + 1 + 1, 0, none⟩) 0 0) = .slice (some ⟨W.heap.size, 0, none⟩) 0 0 by rw [sW], ← hW2]
  exact ⟨World.ownsRow_made _ #[] 0 (Nat.le_refl _) (by simp [maxLen]) (by simp), by simp [Value.ownBlock], by simp⟩
 have HXA2 := Lib.hid (RpR.next b2 HXA')
 have HXB2 := Lib.hid (RpR.next b2 HXB')
 have kk1 := k1.call b2
 have kk2 := k2.call b2
 have c0' := kk1.cell' (i := 0) rfl
 have c1' := kk1.cell' (i := 1) rfl
 have c2' := kk1.cell' (i := 2) rfl
 have c3' := kk1.cell' (i := 3) rfl
 have c4' := kk1.cell' (i := 4) rfl
 have c5' := kk1.cell' (i := 5) rfl
 have d0' := kk2.cell' (i := 0) rfl
 have d1' := kk2.cell' (i := 1) rfl
 have d2' := kk2.cell' (i := 2) rfl
 have d3' := kk2.cell' (i := 3) rfl
 have d4' := kk2.cell' (i := 4) rfl
 have d5' := kk2.cell' (i := 5) rfl
 have HFX := Lib.hid hf.hx
 have HFY := Lib.hid hf.hy
 have HFP := Lib.hid hf.hp
 have HFQ := Lib.hid hf.hq
 clear sW hf HXA' HXB' kk1 kk2 c0 c1 c2_ c3 c4 c5 d0 d1 d2 d3 d4 d5
 obtain ⟨N, hN⟩ : ∃ z, homN X Y = z := ⟨_, rfl⟩
 have hNle : N ≤ 80 := by rw [← hN]; unfold homN; omega
 rw [hN] at HKL ⊢
 have HNE := Lib.hid hN
 clear hN
 go_enter Tryz.func90, Tryz.ntmps90
 go_wp2_with fail
 rw [← hW]
 clear hW
 rw [hW2]
 clear hW2
 refine (l9Fit_yes _ _ X Y _ HXA2.out HXB2.out HFX.out HFY.out HFP.out HFQ.out).mono ?_; rintro e w3 ⟨rfl, hb3⟩
 have g3 := bthen b2 hb3
 have HG3 := Lib.hid g3
 have HO3 := Lib.hid ((O2.below hb3).mono (Nat.le_refl _) hb3.size)
 have K13 := Lib.hid (k1.call g3)
 have K23 := Lib.hid (k2.call g3)
 have HXA3 := Lib.hid (RpR.next g3 HXA.out)
 have HXB3 := Lib.hid (RpR.next g3 HXB.out)
 have hs3 := g3.size
 clear b2 O2 hb3 g3 c0' c1' c2' c3' c4' c5' d0' d1' d2' d3' d4' d5'
 go_wp2
 refine wp_region_net (by kernel_rfl) [.eq (.pointer (some ⟨w0.heap.size, 0, none⟩)), .eq (.int .i64 X.p), .eq (.agg #[.int .i64 X.p, .int .i64 X.q.v, .slice A X.q.f.length a, .slice C X.q.t.length c, .slice Ea X.d.length ea, .slice Ha X.m.length ha_]), .eq (.agg #[.int .i64 Y.p, .int .i64 Y.q.v, .slice A2 Y.q.f.length a2, .slice C2 Y.q.t.length c2, .slice Eb Y.d.length eb, .slice Hb Y.m.length hb_]), rel 4 (fun u lo hi w => MxO w lo hi u (mxF (eqR X Y) (hmN X Y) (eqG X Y))), rel 5 (fun u lo hi w => IntssO w lo hi u (kerR X.p (eqR X Y) (hmN X Y) (eqG X Y)))] [[], [0], [], [], [2, 3], [0, 1, 2, 3, 4], [0, 1, 2, 3, 4, 5]] 6 (by kernel_rfl) ⟨trivial, trivial, trivial, trivial, rel_stable (fun u lo hi w w' h hb => h.below hb), rel_stable (fun u lo hi w w' h hb => h.below hb), trivial⟩ ⟨?_, ?_, ?_, ?_, ?_, ?_, trivial⟩ ?_
 ·intro x w hb hk Q' hQ
  clear hk
  simp only [netE] at hQ ⊢
  go_wp2
  exact hQ _ _ (Below.refl _ _) rfl
 ·intro x w hb hk Q' hQ
  have h0 : x.v 0 = .pointer (some ⟨w0.heap.size, 0, none⟩) := (hk 0 (by decide)).1
  clear hk
  simp only [netE] at hQ ⊢
  simp only [h0] at hQ ⊢
  clear h0
  have z := (K13.out.call hb).cell' (i := 0) rfl
  go_wp2
  exact hQ _ _ (Below.refl _ _) rfl
 ·intro x w hb hk Q' hQ
  clear hk
  simp only [netE] at hQ ⊢
  have z0 := (K13.out.call hb).cell' (i := 0) rfl
  have z1 := (K13.out.call hb).cell' (i := 1) rfl
  have z2 := (K13.out.call hb).cell' (i := 2) rfl
  have z3 := (K13.out.call hb).cell' (i := 3) rfl
  have z4 := (K13.out.call hb).cell' (i := 4) rfl
  have z5 := (K13.out.call hb).cell' (i := 5) rfl
  go_wp2
  exact hQ _ _ (Below.refl _ _) rfl
 ·intro x w hb hk Q' hQ
  clear hk
  simp only [netE] at hQ ⊢
  have z0 := (K23.out.call hb).cell' (i := 0) rfl
  have z1 := (K23.out.call hb).cell' (i := 1) rfl
  have z2 := (K23.out.call hb).cell' (i := 2) rfl
  have z3 := (K23.out.call hb).cell' (i := 3) rfl
  have z4 := (K23.out.call hb).cell' (i := 4) rfl
  have z5 := (K23.out.call hb).cell' (i := 5) rfl
  go_wp2
  exact hQ _ _ (Below.refl _ _) rfl
 ·intro x w hb hk Q' hQ
  have h2 : x.v 2 = .agg #[.int .i64 X.p, .int .i64 X.q.v, .slice A X.q.f.length a, .slice C X.q.t.length c, .slice Ea X.d.length ea, .slice Ha X.m.length ha_] := (hk 2 (by decide)).1
  have h3 : x.v 3 = .agg #[.int .i64 Y.p, .int .i64 Y.q.v, .slice A2 Y.q.f.length a2, .slice C2 Y.q.t.length c2, .slice Eb Y.d.length eb, .slice Hb Y.m.length hb_] := (hk 3 (by decide)).1
  clear hk
  simp only [netE] at hQ ⊢
  simp only [h2, h3] at hQ ⊢
  clear h2 h3
  have hA := Lib.hid (RpR.next hb HXA3.out)
  have hB := Lib.hid (RpR.next hb HXB3.out)
  go_wp2_with fail
  refine (l11Equations_any _ _ X Y _ hA.out hB.out HF.out).mono ?_; rintro e w5 ⟨v5, rfl, hM, hb5⟩
  go_wp2
  exact hQ _ _ hb5 hM
 ·intro x w hb hk Q' hQ
  have h0 : x.v 0 = .pointer (some ⟨w0.heap.size, 0, none⟩) := (hk 0 (by decide)).1
  have h1 : x.v 1 = .int .i64 X.p := (hk 1 (by decide)).1
  have h2 : x.v 2 = .agg #[.int .i64 X.p, .int .i64 X.q.v, .slice A X.q.f.length a, .slice C X.q.t.length c, .slice Ea X.d.length ea, .slice Ha X.m.length ha_] := (hk 2 (by decide)).1
  have h3 : x.v 3 = .agg #[.int .i64 Y.p, .int .i64 Y.q.v, .slice A2 Y.q.f.length a2, .slice C2 Y.q.t.length c2, .slice Eb Y.d.length eb, .slice Hb Y.m.length hb_] := (hk 3 (by decide)).1
  have h4 : MxO w (x.lo 4) (x.hi 4) (x.v 4) (mxF (eqR X Y) (hmN X Y) (eqG X Y)) := (hk 4 (by decide)).1
  have s4 := (hk 4 (by decide)).2
  clear hk
  simp only [netE] at hQ ⊢
  simp only [h0, h1, h2, h3] at hQ ⊢
  clear h0 h1 h2 h3
  have H4 := Lib.hid h4.rd
  clear h4
  go_wp2_with fail
  refine (l4Kernel_any X.p _ (eqR X Y) (hmN X Y) (eqG X Y) _ HP.out (by omega) (by omega) H4.out HIF.out).mono ?_; rintro e w5 ⟨v5, rfl, hM, hb5⟩
  go_wp2
  exact hQ _ _ hb5 hM
 ·intro x w hb hk hiv hdj
  have h0 : x.v 0 = .pointer (some ⟨w0.heap.size, 0, none⟩) := hk 0 (by decide)
  have h1 : x.v 1 = .int .i64 X.p := hk 1 (by decide)
  have h2 : x.v 2 = .agg #[.int .i64 X.p, .int .i64 X.q.v, .slice A X.q.f.length a, .slice C X.q.t.length c, .slice Ea X.d.length ea, .slice Ha X.m.length ha_] := hk 2 (by decide)
  have h3 : x.v 3 = .agg #[.int .i64 Y.p, .int .i64 Y.q.v, .slice A2 Y.q.f.length a2, .slice C2 Y.q.t.length c2, .slice Eb Y.d.length eb, .slice Hb Y.m.length hb_] := hk 3 (by decide)
  have h4 : MxO w (x.lo 4) (x.hi 4) (x.v 4) (mxF (eqR X Y) (hmN X Y) (eqG X Y)) := hk 4 (by decide)
  have h5 : IntssO w (x.lo 5) (x.hi 5) (x.v 5) (kerR X.p (eqR X Y) (hmN X Y) (eqG X Y)) := hk 5 (by decide)
  clear hk
  simp only [netE]
  simp only [List.drop_succ_cons, List.drop_zero, h0, h1, h2, h3]
  clear h0 h1 h2 h3
  have HKR := Lib.hid (fun l (h : l ∈ kerR X.p (eqR X Y) (hmN X Y) (eqG X Y)) => kerM_row h)
  obtain ⟨KL, hKL⟩ : ∃ z, kerR X.p (eqR X Y) (hmN X Y) (eqG X Y) = z := ⟨_, rfl⟩
  rw [hKL] at h5 HKR HKL
  obtain ⟨KA, kc, ek, _, _, _⟩ := h5.form2
  rw [HKL.out] at ek
  rw [ek] at h5 ⊢
  have hbs4 := hb.size
  have li := (hiv 5 (by decide)).1
  have hi_ := (hiv 5 (by decide)).2.2
  obtain ⟨LO, hLO⟩ : ∃ z, x.lo 5 = z := ⟨_, rfl⟩
  obtain ⟨HI, hHI⟩ : ∃ z, x.hi 5 = z := ⟨_, rfl⟩
  rw [hLO] at h5 li
  rw [hHI] at h5 hi_
  have hOlt : w0.heap.size + 1 + 1 < w3.heap.size := by
   rcases HO3.out.1.2 with ⟨e, _⟩ | ⟨g, cap, cur, e, _, hh, _⟩
   ·cases e
   ·injection e with e1 _ _
    injection e1 with e1
    injection e1 with e1
    have := (Array.getElem?_eq_some_iff.1 hh).1
    omega
  have HSK := Lib.hid h5
  have HO4 := Lib.hid ((HO3.out.below hb).mono (Nat.le_refl _) hb.size)
  have G4 := Lib.hid (HG3.out.trans (hb.mono hs3))
  clear hiv hdj h4 h5 hb hKL ek hLO hHI
  obtain ⟨w4, hw4⟩ : ∃ z, z = w := ⟨_, rfl⟩
  subst hw4
  go_wp2
  go_loopw [6, 8] (fun out i wr => ∃ (k : Nat) (OA : Option Addr) (oc : Nat) (vs : List Value), k ≤ N ∧ i = .int .i64 k ∧ out = .slice OA k oc ∧ RowO 30 1 wr W.heap.size wr.heap.size (.slice OA k oc) k vs ∧ Hid (∀ g, (Value.slice OA k oc).ownBlock = some g → g < LO ∨ HI ≤ g) ∧ IntssO wr LO HI (.slice KA N kc) KL ∧ HI ≤ wr.heap.size ∧ Below W.heap.size W wr) (fun _ i _ => N - (intOf i).toNat)
  case atStart => exact ⟨0, _, _, _, Nat.zero_le _, rfl, rfl, HO4.out, fun g hg => (by simp [Value.ownBlock] at hg; omega), HSK.out, hi_, G4.out⟩
  case round =>
   clear HO4 HSK G4 hi_
   obtain ⟨k, OA, oc, vs, hk, rfl, rfl, hO, HNE, hK, hHI, hbel⟩ := hrel
   have hbs := hbel.size
   by_cases hlt : k < N
   ·obtain ⟨bk, ok, l, LA, lc, eK, hbk, HL, zk, hl⟩ := SlII.at_ (k := k) (xs := KL) (by have := hK.rd; rw [HKL.out]; exact this) (by rw [HKL.out]; exact hlt)
    subst eK
    have hll := HKR.out l (List.mem_of_getElem? HL.out)
    have hrow : rowF (hmN X Y) (fun i => l.getD i 0) = l := by rw [← hll]; exact rowF_self l
    rw [hll] at zk hl
    have ZK := Lib.hid zk
    have HLr := Lib.hid (show SlI wr wr.heap.size (.slice LA (hmN X Y) lc) (rowF (hmN X Y) (fun i => l.getD i 0)) by rw [hrow]; exact hl)
    have HO := Lib.hid hO
    have HB := Lib.hid hbel
    have HK := Lib.hid hK
    have K1r := Lib.hid (k1.call hbel)
    have K2r := Lib.hid (k2.call hbel)
    have HXAr := Lib.hid (RpR.next hbel HXA.out)
    have HXBr := Lib.hid (RpR.next hbel HXB.out)
    clear hO hbel zk hl hrow HL hll hK
    go_wp2
    refine wp_region_net (by kernel_rfl) [.eq (.slice OA k oc), .eq (.agg #[.int .i64 X.p, .int .i64 X.q.v, .slice A X.q.f.length a, .slice C X.q.t.length c, .slice Ea X.d.length ea, .slice Ha X.m.length ha_]), .eq (.agg #[.int .i64 Y.p, .int .i64 Y.q.v, .slice A2 Y.q.f.length a2, .slice C2 Y.q.t.length c2, .slice Eb Y.d.length eb, .slice Hb Y.m.length hb_]), .eq (.slice (some ⟨bk, ok, none⟩) N kc), .eq (.int .i64 k), .eq (.pointer (some ⟨bk, ok + k, none⟩)), .eq (.slice LA (hmN X Y) lc), rel 7 (fun u lo hi w => MatsO w lo hi u (shF X.d Y.d (fun i => l.getD i 0) X.d.length)), .rel (fun x w => ∃ g', x.v 8 = .slice (some ⟨g', 0, none⟩) 1 1 ∧ Blk w g' 30 #[x.v 7])] [[], [], [], [], [], [3, 4], [3, 4, 5], [1, 2, 3, 4, 5, 6], [1, 2, 3, 4, 5, 6, 7], [0, 1, 2, 3, 4, 5, 6, 7, 8], [0, 1, 2, 3, 4, 5, 6, 7, 8, 9]] 9 (by kernel_rfl) ⟨trivial, trivial, trivial, trivial, trivial, trivial, trivial, rel_stable (fun u lo hi w w' h hb => h.below hb), fun x w w' ⟨g, e1, h⟩ hb => ⟨g, e1, h.call hb⟩, trivial⟩ ⟨?_, ?_, ?_, ?_, ?_, ?_, ?_, ?_, ?_, trivial⟩ ?_
    ·intro x w hb hk Q' hQ
     clear hk
     simp only [netE] at hQ ⊢
     go_wp2
     exact hQ _ _ (Below.refl _ _) rfl
    ·intro x w hb hk Q' hQ
     clear hk
     simp only [netE] at hQ ⊢
     have z0 := (K1r.out.call hb).cell' (i := 0) rfl
     have z1 := (K1r.out.call hb).cell' (i := 1) rfl
     have z2 := (K1r.out.call hb).cell' (i := 2) rfl
     have z3 := (K1r.out.call hb).cell' (i := 3) rfl
     have z4 := (K1r.out.call hb).cell' (i := 4) rfl
     have z5 := (K1r.out.call hb).cell' (i := 5) rfl
     go_wp2
     exact hQ _ _ (Below.refl _ _) rfl
    ·intro x w hb hk Q' hQ
     clear hk
     simp only [netE] at hQ ⊢
     have z0 := (K2r.out.call hb).cell' (i := 0) rfl
     have z1 := (K2r.out.call hb).cell' (i := 1) rfl
     have z2 := (K2r.out.call hb).cell' (i := 2) rfl
     have z3 := (K2r.out.call hb).cell' (i := 3) rfl
     have z4 := (K2r.out.call hb).cell' (i := 4) rfl
     have z5 := (K2r.out.call hb).cell' (i := 5) rfl
     go_wp2
     exact hQ _ _ (Below.refl _ _) rfl
    ·intro x w hb hk Q' hQ
     clear hk
     simp only [netE] at hQ ⊢
     go_wp2
     exact hQ _ _ (Below.refl _ _) rfl
    ·intro x w hb hk Q' hQ
     clear hk
     simp only [netE] at hQ ⊢
     go_wp2
     exact hQ _ _ (Below.refl _ _) rfl
    ·intro x w hb hk Q' hQ
     have h3 : x.v 3 = .slice (some ⟨bk, ok, none⟩) N kc := (hk 3 (by decide)).1
     have h4 : x.v 4 = .int .i64 k := (hk 4 (by decide)).1
     clear hk
     simp only [netE] at hQ ⊢
     simp only [h3, h4] at hQ ⊢
     clear h3 h4
     go_wp2
     exact hQ _ _ (Below.refl _ _) rfl
    ·intro x w hb hk Q' hQ
     have h5 : x.v 5 = .pointer (some ⟨bk, ok + k, none⟩) := (hk 5 (by decide)).1
     clear hk
     simp only [netE] at hQ ⊢
     simp only [h5] at hQ ⊢
     clear h5
     have z := bcell hb hbk ZK.out
     go_wp2
     exact hQ _ _ (Below.refl _ _) rfl
    ·intro x w hb hk Q' hQ
     have h1 : x.v 1 = .agg #[.int .i64 X.p, .int .i64 X.q.v, .slice A X.q.f.length a, .slice C X.q.t.length c, .slice Ea X.d.length ea, .slice Ha X.m.length ha_] := (hk 1 (by decide)).1
     have h2 : x.v 2 = .agg #[.int .i64 Y.p, .int .i64 Y.q.v, .slice A2 Y.q.f.length a2, .slice C2 Y.q.t.length c2, .slice Eb Y.d.length eb, .slice Hb Y.m.length hb_] := (hk 2 (by decide)).1
     have h3 : x.v 3 = .slice (some ⟨bk, ok, none⟩) N kc := (hk 3 (by decide)).1
     have h4 : x.v 4 = .int .i64 k := (hk 4 (by decide)).1
     have h5 : x.v 5 = .pointer (some ⟨bk, ok + k, none⟩) := (hk 5 (by decide)).1
     have h6 : x.v 6 = .slice LA (hmN X Y) lc := (hk 6 (by decide)).1
     clear hk
     simp only [netE] at hQ ⊢
     simp only [h1, h2, h3, h4, h5, h6] at hQ ⊢
     clear h1 h2 h3 h4 h5 h6
     have hA := Lib.hid (RpR.next hb HXAr.out)
     have hB := Lib.hid (RpR.next hb HXBr.out)
     have hL := Lib.hid (SlI.next hb HLr.out)
     go_wp2_with fail
     refine (l11Cells_any _ _ _ X Y (fun i => l.getD i 0) _ hA.out hB.out hL.out HF.out).mono ?_; rintro e w5 ⟨v5, rfl, hM, hb5⟩
     go_wp2
     exact hQ _ _ hb5 hM
    ·intro x w hb hk Q' hQ
     have h1 : x.v 1 = .agg #[.int .i64 X.p, .int .i64 X.q.v, .slice A X.q.f.length a, .slice C X.q.t.length c, .slice Ea X.d.length ea, .slice Ha X.m.length ha_] := (hk 1 (by decide)).1
     have h2 : x.v 2 = .agg #[.int .i64 Y.p, .int .i64 Y.q.v, .slice A2 Y.q.f.length a2, .slice C2 Y.q.t.length c2, .slice Eb Y.d.length eb, .slice Hb Y.m.length hb_] := (hk 2 (by decide)).1
     have h3 : x.v 3 = .slice (some ⟨bk, ok, none⟩) N kc := (hk 3 (by decide)).1
     have h4 : x.v 4 = .int .i64 k := (hk 4 (by decide)).1
     have h5 : x.v 5 = .pointer (some ⟨bk, ok + k, none⟩) := (hk 5 (by decide)).1
     have h6 : x.v 6 = .slice LA (hmN X Y) lc := (hk 6 (by decide)).1
     have h7 : MatsO w (x.lo 7) (x.hi 7) (x.v 7) (shF X.d Y.d (fun i => l.getD i 0) X.d.length) := (hk 7 (by decide)).1
     have s7 := (hk 7 (by decide)).2
     clear hk
     simp only [netE] at hQ ⊢
     simp only [h1, h2, h3, h4, h5, h6] at hQ ⊢
     clear h1 h2 h3 h4 h5 h6
     obtain ⟨sA, sc, es, _, _⟩ := h7.form2
     rw [shF_length] at es
     have hQ' := hQ (.slice (some ⟨w.heap.size, 0, none⟩) 1 1) (w.alloc (.cells #[x.v 7] 30)) (below_alloc _ _) ⟨_, rfl, Blk.new _ _ _⟩
     rw [es] at hQ' ⊢
     clear h7 es
     go_wp2
     exact hQ'
    ·intro x w hb hk hiv hdj
     have h0 : x.v 0 = .slice OA k oc := hk 0 (by decide)
     have h1 : x.v 1 = .agg #[.int .i64 X.p, .int .i64 X.q.v, .slice A X.q.f.length a, .slice C X.q.t.length c, .slice Ea X.d.length ea, .slice Ha X.m.length ha_] := hk 1 (by decide)
     have h2 : x.v 2 = .agg #[.int .i64 Y.p, .int .i64 Y.q.v, .slice A2 Y.q.f.length a2, .slice C2 Y.q.t.length c2, .slice Eb Y.d.length eb, .slice Hb Y.m.length hb_] := hk 2 (by decide)
     have h3 : x.v 3 = .slice (some ⟨bk, ok, none⟩) N kc := hk 3 (by decide)
     have h4 : x.v 4 = .int .i64 k := hk 4 (by decide)
     have h5 : x.v 5 = .pointer (some ⟨bk, ok + k, none⟩) := hk 5 (by decide)
     have h6 : x.v 6 = .slice LA (hmN X Y) lc := hk 6 (by decide)
     have h7 : MatsO w (x.lo 7) (x.hi 7) (x.v 7) (shF X.d Y.d (fun i => l.getD i 0) X.d.length) := hk 7 (by decide)
     have h8 : ∃ g', x.v 8 = .slice (some ⟨g', 0, none⟩) 1 1 ∧ Blk w g' 30 #[x.v 7] := hk 8 (by decide)
     clear hk
     simp only [netE]
     simp only [List.drop_succ_cons, List.drop_zero, h0, h1, h2, h3, h4, h5, h6]
     clear h0 h1 h2 h3 h4 h5 h6
     obtain ⟨g8, e8, kg⟩ := h8
     rw [e8]
     obtain ⟨sA, sc, es, _, _⟩ := h7.form2
     obtain ⟨v7, hv7⟩ : ∃ z, x.v 7 = z := ⟨_, rfl⟩
     rw [hv7] at es kg
     have hone : v7.oneCell' = true := by rw [es]; rfl
     have hbs2 := hb.size
     have HOZ := Lib.hid (HO.out.below hb)
     have C0 := Lib.hid (kg.cell' (i := 0) rfl)
     have HBZ := Lib.hid (HB.out.trans (hb.mono hbs))
     have HKZ := Lib.hid (HK.out.below hb)
     clear hiv hdj h7 e8 kg hb hv7 es
     obtain ⟨i0, hi0, hz0, hz1, hz2⟩ := info_parts infoMxS
     refine wpList_append_G w (by rfl) (.tmp 27) (.tmp 35) _ (by rfl) W.heap.size 30 i0 _ 1 24 Tryz.underlying104 hi0 hz0 hz1 hz2 rfl (by decide) _ k vs (by rfl) HOZ.out.1 (some ⟨g8, 0, none⟩) 1 1 [v7] (by rfl) ⟨rfl, .inr ⟨g8, 0, rfl, fun j u hj => ?_⟩⟩ (fun u hu => by rw [List.mem_singleton] at hu; subst hu; exact hone) (by simp only [maxLen]; omega) (by omega) (by omega) ?_
     ·match j, hj with
      | 0, hj => simp at hj; subst hj; exact C0.out
      | j + 1, hj => simp at hj
     intro v' w' h1 h2 h3
     have hs' := h2.size
     have hr1 : RowO 30 1 w' W.heap.size w'.heap.size v' (k + 1) (vs ++ [v7]) := ⟨h1, fun k hk => (h1.lt k hk).2, by omega⟩
     have hgr := HBZ.out.trans (below_grown h2 (fun k hk => (HOZ.out.1.lt k hk).1) (by omega))
     have hK9 := HKZ.out.grownFar2 h2 HNE.out
     have hne9 : ∀ g, v'.ownBlock = some g → g < LO ∨ HI ≤ g := by
      intro g hg
      rcases h3 with h3 | h3
      ·exact HNE.out g (by rw [← h3]; exact hg)
      ·rw [h3] at hg
       injection hg with hg
       omega
     obtain ⟨A9, c9, ev, _, _⟩ := hr1.form
     subst ev
     have H1 := Lib.hid hr1
     have H2 := Lib.hid hgr
     have H3 := Lib.hid hK9
     have H4 := Lib.hid hne9
     have hHI9 : HI ≤ w'.heap.size := by omega
     clear h1 h2 h3 hr1 hgr hK9 hne9
     go_wp2
     go_roundw
     case rel => exact ⟨k + 1, A9, c9, _, by omega, by go_num, rfl, H1.out, H4.out, H3.out, hHI9, H2.out⟩
     case measure => simp [intOf]; omega
   ·obtain rfl : k = N := by omega
    have GF := Lib.hid (G0.out.trans (hbel.mono G0.out.size))
    clear hO hbel hK
    go_wp2
    go_ret2
    exact ⟨_, _, rfl, GF.out⟩
set_option maxHeartbeats 6400000 in
set_option maxRecDepth 100000 in
theorem specHomDim_yes (ua ub : Value) (X Y : Rp) (w0 : World) (ha : RpR w0 w0.heap.size ua X) (hb : RpR w0 w0.heap.size ub Y) (hf : Fit2 X Y) :
  Calls Tryz.prog 45 #[ua, ub] w0 fun e w' => e = .returned (.int .i64 (homN X Y : Int)) ∧ Below w0.heap.size w0 w' := by
 have ha' := ha
 have hb' := hb
 obtain ⟨A, a, C, c, Ea, ea, Ha, ha_, rfl, hqa, hda, hma, hpa, lda, lma⟩ := ha.open_
 obtain ⟨A2, a2, C2, c2, Eb, eb, Hb, hb_, rfl, hqb, hdb, hmb, hpb, ldb, lmb⟩ := hb.open_
 clear ha hb
 obtain ⟨W, hW⟩ : ∃ W, W = (w0.alloc (.cells #[.int .i64 X.p, .int .i64 X.q.v, .slice A X.q.f.length a, .slice C X.q.t.length c, .slice Ea X.d.length ea, .slice Ha X.m.length ha_] 32)).alloc (.cells #[.int .i64 Y.p, .int .i64 Y.q.v, .slice A2 Y.q.f.length a2, .slice C2 Y.q.t.length c2, .slice Eb Y.d.length eb, .slice Hb Y.m.length hb_] 32) := ⟨_, rfl⟩
 have g0 : Below w0.heap.size w0 W := by rw [hW]; exact ((Below.refl _ _).alloc (Nat.le_refl _) _).alloc (by simp) _
 have k1 : Blk W w0.heap.size 32 #[.int .i64 X.p, .int .i64 X.q.v, .slice A X.q.f.length a, .slice C X.q.t.length c, .slice Ea X.d.length ea, .slice Ha X.m.length ha_] := by rw [hW]; exact (Blk.new _ _ _).alloc _
 have k2 : Blk W (w0.heap.size + 1) 32 #[.int .i64 Y.p, .int .i64 Y.q.v, .slice A2 Y.q.f.length a2, .slice C2 Y.q.t.length c2, .slice Eb Y.d.length eb, .slice Hb Y.m.length hb_] := by
  rw [hW]
  have := Blk.new (w0.alloc (.cells #[.int .i64 X.p, .int .i64 X.q.v, .slice A X.q.f.length a, .slice C X.q.t.length c, .slice Ea X.d.length ea, .slice Ha X.m.length ha_] 32)) 32 #[.int .i64 Y.p, .int .i64 Y.q.v, .slice A2 Y.q.f.length a2, .slice C2 Y.q.t.length c2, .slice Eb Y.d.length eb, .slice Hb Y.m.length hb_]
  simpa only [World.size_alloc] using this
 have HXA := Lib.hid (RpR.next g0 ha')
 have HXB := Lib.hid (RpR.next g0 hb')
 have HQA := Lib.hid (QvR.next g0 hqa)
 have HDA := Lib.hid (SlI.next g0 hda)
 have HDB := Lib.hid (SlI.next g0 hdb)
 have HMA := Lib.hid (SlM.next g0 hma)
 have HMB := Lib.hid (SlM.next g0 hmb)
 have G0 := Lib.hid g0
 clear ha' hb' hqa hqb hda hdb hma hmb hpa hpb g0
 have HF := Lib.hid hf
 have c0 := k1.cell' (i := 0) rfl
 have c1 := k1.cell' (i := 1) rfl
 have c2_ := k1.cell' (i := 2) rfl
 have c3 := k1.cell' (i := 3) rfl
 have c4 := k1.cell' (i := 4) rfl
 have c5 := k1.cell' (i := 5) rfl
 have d0 := k2.cell' (i := 0) rfl
 have d1 := k2.cell' (i := 1) rfl
 have d2 := k2.cell' (i := 2) rfl
 have d3 := k2.cell' (i := 3) rfl
 have d4 := k2.cell' (i := 4) rfl
 have d5 := k2.cell' (i := 5) rfl
 obtain ⟨N, hN⟩ : ∃ z, homN X Y = z := ⟨_, rfl⟩
 rw [hN]
 have HNE := Lib.hid hN
 clear hf hN
 go_enter Tryz.func45, Tryz.ntmps45
 go_wp2_with fail
 rw [← hW]; clear hW
 refine (homBasis_len _ _ X Y _ HXA.out HXB.out HF.out).mono ?_; rintro e w1 ⟨A9, c9, rfl, hb1⟩
 have GF := Lib.hid (bthen G0.out hb1)
 rw [HNE.out]
 clear hb1 c0 c1 c2_ c3 c4 c5 d0 d1 d2 d3 d4 d5
 go_wp2
 go_ret
 exact ⟨rfl, GF.out⟩
end Go.Proofs.YtcmlflppndfdcaaGreat
namespace Go.Proofs.YtcmlflppndfdcaaGreat
open Go.RowKit
def mixL (old new : List Int) (n : Nat) : List Int := old.take n ++ new.drop n
theorem mixL_len {old new : List Int} {N : Nat} (h1 : old.length = N) (h2 : new.length = N) (n : Nat) : (mixL old new n).length = N := by
 rw [mixL, List.length_append, List.length_take, List.length_drop]
 omega
theorem mixL_all {old new : List Int} {N : Nat} (h1 : old.length = N) (h2 : new.length = N) : mixL old new N = old := by
 rw [mixL, List.take_of_length_le (by omega), List.drop_of_length_le (by omega), List.append_nil]
theorem mixL_none (old new : List Int) : mixL old new 0 = new := by simp [mixL]
theorem mixL_put {old new : List Int} {N n : Nat} {z : Int} (h1 : old.length = N) (h2 : new.length = N) (hn : n < N) (hz : new[n]? = some z) : (mixL old new (n + 1)).set n z = mixL old new n := by
 apply List.ext_getElem?
 intro i
 rw [List.getElem?_set]
 have hl := mixL_len h1 h2
 by_cases e : n = i
 ·subst e
  rw [if_pos rfl, if_pos (by rw [hl]; exact hn), mixL, List.getElem?_append_right (by rw [List.length_take]; omega), List.getElem?_drop, List.length_take, show n + (n - min n old.length) = n by omega, hz]
 ·rw [if_neg e]
  by_cases h : i < n
  ·rw [mixL, mixL, List.getElem?_append_left (by rw [List.length_take]; omega), List.getElem?_append_left (by rw [List.length_take]; omega), List.getElem?_take_of_lt (by omega), List.getElem?_take_of_lt h]
  ·rw [mixL, mixL, List.getElem?_append_right (by rw [List.length_take]; omega), List.getElem?_append_right (by rw [List.length_take]; omega), List.getElem?_drop, List.getElem?_drop, List.length_take, List.length_take]
   congr 1
   omega
theorem shL_set {ms : List Mx} {cs : List Int} {i j : Nat} {m : Mx} {z : Int} (hm : ms[i]? = some m) (hj : j < m.a.length) (hc : cs.length = totA ms) :
  (shL ms cs).set i ⟨m.r, m.c, ((cs.drop (totA (ms.take i))).take m.a.length).set j z⟩ = shL ms (cs.set (totA (ms.take i) + j) z) := by
 have hpi := totA_part hm
 apply List.ext_getElem?
 intro k
 rw [List.getElem?_set, shL_length]
 have hi := lt_of_some hm
 by_cases e : i = k
 ·subst e
  rw [if_pos rfl, if_pos hi, shL_get ms _ i m hm]
  congr 2
  apply List.ext_getElem?
  intro t
  by_cases ht : t < m.a.length
  ·rw [List.getElem?_take_of_lt ht, List.getElem?_drop, List.getElem?_set, List.getElem?_set, List.getElem?_take_of_lt ht, List.getElem?_drop]
   by_cases e2 : j = t
   ·subst e2
    rw [if_pos rfl, if_pos rfl, if_pos (by rw [List.length_take, List.length_drop]; omega), if_pos (by omega)]
   ·rw [if_neg e2, if_neg (by omega)]
  ·rw [List.getElem?_eq_none (by rw [List.length_set, List.length_take]; omega), List.getElem?_eq_none (by rw [List.length_take]; omega)]
 ·rw [if_neg e]
  by_cases hk : k < ms.length
  ·obtain ⟨m', hm'⟩ : ∃ m', ms[k]? = some m' := ⟨_, List.getElem?_eq_getElem hk⟩
   rw [shL_get ms _ k m' hm', shL_get ms _ k m' hm']
   have hpk := totA_part hm'
   congr 2
   apply List.ext_getElem?
   intro t
   by_cases ht : t < m'.a.length
   ·rw [List.getElem?_take_of_lt ht, List.getElem?_take_of_lt ht, List.getElem?_drop, List.getElem?_drop, List.getElem?_set, if_neg]
    intro e3
    rcases Nat.lt_or_ge k i with hki | hki
    ·have h1 : totA (ms.take (k + 1)) ≤ totA (ms.take i) := by
      have : ms.take i = ms.take (k + 1) ++ (ms.take i).drop (k + 1) := by
       rw [← List.take_append_drop (k + 1) (ms.take i), List.take_take, Nat.min_eq_left (by omega), List.drop_left' (by rw [List.length_take]; omega)]
      have h2 := congrArg totA this
      rw [totA_app] at h2
      omega
     rw [take_snoc hm', totA_app, totA_one] at h1
     omega
    ·have h1 : totA (ms.take (i + 1)) ≤ totA (ms.take k) := by
      have : ms.take k = ms.take (i + 1) ++ (ms.take k).drop (i + 1) := by
       rw [← List.take_append_drop (i + 1) (ms.take k), List.take_take, Nat.min_eq_left (by omega), List.drop_left' (by rw [List.length_take]; omega)]
      have h2 := congrArg totA this
      rw [totA_app] at h2
      omega
     rw [take_snoc hm, totA_app, totA_one] at h1
     omega
   ·rw [List.getElem?_eq_none (by rw [List.length_take]; omega), List.getElem?_eq_none (by rw [List.length_take]; omega)]
  ·rw [List.getElem?_eq_none (by rw [shL_length]; omega), List.getElem?_eq_none (by rw [shL_length]; omega)]
theorem bx1_at {N code n : Nat} (hn : n < N) : (bxV 1 N code)[n]? = some ((code / 2 ^ (N - 1 - n) % 2 : Nat) : Int) := by
 simp [bxV, hn]
theorem code_step {N code n : Nat} (hn : n < N) : code / 2 ^ (N - (n + 1)) / 2 = code / 2 ^ (N - n) := by
 rw [Nat.div_div_eq_div_mul, ← Nat.pow_succ, show (N - (n + 1)).succ = N - n by omega]
theorem zr_sh {ms : List Mx} (h : ∀ m ∈ ms, m.a = List.replicate m.a.length 0) : ∀ {cs : List Int}, cs = List.replicate (totA ms) 0 → shL ms cs = ms := by
 induction ms with
 | nil => intro _ _; rfl
 | cons m ms ih =>
  intro cs hc
  have e : totA (m :: ms) = m.a.length + totA ms := by simp [totA, tot]
  rw [e] at hc
  rw [shL, ih (fun y hy => h y (by simp [hy])) (cs := cs.drop m.a.length) (by rw [hc]; simp)]
  congr 1
  have h1 := h m (by simp)
  have h2 : cs.take m.a.length = m.a := by
   rw [hc, List.take_replicate, Nat.min_eq_left (by omega)]
   exact h1.symm
  rw [h2]
theorem zms_zero (q : Qv) (x : List Int) (n : Nat) : ∀ m ∈ zms q x n, m.a = List.replicate m.a.length 0 := by
 intro m hm
 simp only [zms, List.mem_map] at hm
 obtain ⟨i, _, rfl⟩ := hm
 simp [zmx]
theorem rr_zero (p : Int) (q : Qv) (x : List Int) : zRep p q x = ⟨p, q, x, shL (zms q x q.f.length) (List.replicate (rrN q x) 0)⟩ := by
 rw [zRep, zr_sh (zms_zero q x q.f.length) (cs := List.replicate (rrN q x) 0) rfl]
set_option maxHeartbeats 6400000 in
set_option maxRecDepth 100000 in
theorem specRootRep_no (p : Int) (u xv : Value) (q : Qv) (x : List Int) (w0 : World) (hp : I64 p) (hu : QvR w0 w0.heap.size u q) (hx : SlI w0 w0.heap.size xv x) (h : rrOk p q x = false) :
  Calls Tryz.prog 13 #[.int .i64 p, u, xv] w0 fun e w' => ∃ v, e = .returned (.tuple #[v, .bool (rrQ p q x).2]) ∧ RepI w' w0.heap.size w'.heap.size v (rrQ p q x).1 ∧ Below w0.heap.size w0 w' := by
 have hu' := hu
 obtain ⟨A, c, C, d, rfl, hf, ht, hr, lf, lt⟩ := hu.open_
 have hx' := hx
 obtain ⟨XA, xc, rfl, _, _, lx, _⟩ := hx.open_
 clear hu hx hf ht
 obtain ⟨W, hW⟩ : ∃ z, (w0.alloc (.cells #[.int .i64 q.v, .slice A q.f.length c, .slice C q.t.length d] 29)).alloc (.cells #[.int .i64 0, .int .i64 0, .slice none 0 0, .slice none 0 0, .slice none 0 0, .slice none 0 0] 32) = z := ⟨_, rfl⟩
 have g0 : Below w0.heap.size w0 W := by rw [← hW]; exact ((Below.refl _ _).alloc (Nat.le_refl _) _).alloc (by simp) _
 have kQ : Blk W w0.heap.size 29 #[.int .i64 q.v, .slice A q.f.length c, .slice C q.t.length d] := by rw [← hW]; exact (Blk.new _ _ _).alloc _
 have kR : Blk W (w0.heap.size + 1) 32 #[.int .i64 0, .int .i64 0, .slice none 0 0, .slice none 0 0, .slice none 0 0, .slice none 0 0] := by
  rw [← hW]
  have := Blk.new (w0.alloc (.cells #[.int .i64 q.v, .slice A q.f.length c, .slice C q.t.length d] 29)) 32 #[.int .i64 0, .int .i64 0, .slice none 0 0, .slice none 0 0, .slice none 0 0, .slice none 0 0]
  simpa only [World.size_alloc] using this
 have sW : Hid (W.heap.size = w0.heap.size + 1 + 1) := by show _ = _; rw [← hW]; simp
 have HQ := Lib.hid (QvR.next g0 hu')
 have HX := Lib.hid (SlI.next g0 hx')
 have q0 := kQ.cell' (i := 0) rfl
 have q1 := kQ.cell' (i := 1) rfl
 have q2 := kQ.cell' (i := 2) rfl
 have G0 := Lib.hid g0
 clear hu' hx' g0
 have HE := Lib.hid (rrQ_no h)
 rcases h1 : isFld p with _ | _
 ·have H1 := Lib.hid h1
  clear h h1
  go_enter Tryz.func13, Tryz.ntmps13
  go_wp2_with fail
  clear hW
  refine (specIsField_any _ _).mono ?_; rintro e w1 ⟨rfl, hww⟩; replace hww := hww.symm; subst hww
  rw [H1.out]
  have hb1 := Below.refl W.heap.size W
  have kRz := kR.call hb1
  have z0 := kRz.cell' (i := 0) rfl
  have z1 := kRz.cell' (i := 1) rfl
  have z2 := kRz.cell' (i := 2) rfl
  have z3 := kRz.cell' (i := 3) rfl
  have z4 := kRz.cell' (i := 4) rfl
  have z5 := kRz.cell' (i := 5) rfl
  have fr := kRz.frozen
  have GF := Lib.hid (G0.out.trans (hb1.mono G0.out.size))
  clear kRz
  go_wp2
  have gf := GF.out
  have sw := sW.out
  have gfs := gf.size
  refine bodyPost_ret (v := .tuple #[.agg #[.int .i64 0, .int .i64 0, .slice none 0 0, .slice none 0 0, .slice none 0 0, .slice none 0 0], .bool false]) (by simp [results, go_sem, z0, z1, z2, z3, z4, z5]) rfl ⟨_, by rw [HE.out], by rw [HE.out]; exact RepI.zero _ (by simp; omega), (((((gf.setCell (by simp) _).setCell (by simp) _).setCell (by simp) _).setCell (by simp) _).setCell (by simp) _).setCell (by simp) _⟩
 ·rcases h2 : isRtB q x with _ | _
  ·have H1 := Lib.hid h1
   have H2 := Lib.hid h2
   clear h h1 h2
   go_enter Tryz.func13, Tryz.ntmps13
   go_wp2_with fail
   clear hW
   refine (specIsField_any _ _).mono ?_; rintro e w1 ⟨rfl, hww⟩; replace hww := hww.symm; subst hww
   rw [H1.out]
   go_wp2_with fail
   refine (specIsRoot_any _ _ q x _ HQ.out HX.out).mono ?_; rintro e w2 ⟨rfl, hb2⟩
   rw [H2.out]
   have kRz := kR.call hb2
   have z0 := kRz.cell' (i := 0) rfl
   have z1 := kRz.cell' (i := 1) rfl
   have z2 := kRz.cell' (i := 2) rfl
   have z3 := kRz.cell' (i := 3) rfl
   have z4 := kRz.cell' (i := 4) rfl
   have z5 := kRz.cell' (i := 5) rfl
   have fr := kRz.frozen
   have GF := Lib.hid (G0.out.trans (hb2.mono G0.out.size))
   clear kRz
   go_wp2
   have gf := GF.out
   have sw := sW.out
   have gfs := gf.size
   refine bodyPost_ret (v := .tuple #[.agg #[.int .i64 0, .int .i64 0, .slice none 0 0, .slice none 0 0, .slice none 0 0, .slice none 0 0], .bool false]) (by simp [results, go_sem, z0, z1, z2, z3, z4, z5]) rfl ⟨_, by rw [HE.out], by rw [HE.out]; exact RepI.zero _ (by simp; omega), (((((gf.setCell (by simp) _).setCell (by simp) _).setCell (by simp) _).setCell (by simp) _).setCell (by simp) _).setCell (by simp) _⟩
  ·rcases h3 : areDims q x with _ | _
   ·have H1 := Lib.hid h1
    have H2 := Lib.hid h2
    have H3 := Lib.hid h3
    clear h h1 h2 h3
    go_enter Tryz.func13, Tryz.ntmps13
    go_wp2_with fail
    clear hW
    refine (specIsField_any _ _).mono ?_; rintro e w1 ⟨rfl, hww⟩; replace hww := hww.symm; subst hww
    rw [H1.out]
    go_wp2_with fail
    refine (specIsRoot_any _ _ q x _ HQ.out HX.out).mono ?_; rintro e w2 ⟨rfl, hb2⟩
    rw [H2.out]
    have kQ2 := kQ.call hb2
    have q0' := kQ2.cell' (i := 0) rfl
    have q1' := kQ2.cell' (i := 1) rfl
    have q2' := kQ2.cell' (i := 2) rfl
    go_wp2_with fail
    refine (specAreDims_any _ _ q x _ (QvR.next hb2 HQ.out) (SlI.next hb2 HX.out)).mono ?_; rintro e w3 ⟨rfl, hb3⟩
    rw [H3.out]
    have hb23 := bthen hb2 hb3
    clear q0 q1 q2 q0' q1' q2'
    have kRz := kR.call hb23
    have z0 := kRz.cell' (i := 0) rfl
    have z1 := kRz.cell' (i := 1) rfl
    have z2 := kRz.cell' (i := 2) rfl
    have z3 := kRz.cell' (i := 3) rfl
    have z4 := kRz.cell' (i := 4) rfl
    have z5 := kRz.cell' (i := 5) rfl
    have fr := kRz.frozen
    have GF := Lib.hid (G0.out.trans (hb23.mono G0.out.size))
    clear kRz
    go_wp2
    have gf := GF.out
    have sw := sW.out
    have gfs := gf.size
    refine bodyPost_ret (v := .tuple #[.agg #[.int .i64 0, .int .i64 0, .slice none 0 0, .slice none 0 0, .slice none 0 0, .slice none 0 0], .bool false]) (by simp [results, go_sem, z0, z1, z2, z3, z4, z5]) rfl ⟨_, by rw [HE.out], by rw [HE.out]; exact RepI.zero _ (by simp; omega), (((((gf.setCell (by simp) _).setCell (by simp) _).setCell (by simp) _).setCell (by simp) _).setCell (by simp) _).setCell (by simp) _⟩
   ·simp [rrOk, h1, h2, h3] at h
set_option maxHeartbeats 25600000 in
set_option maxRecDepth 100000 in
theorem specRootRep_I (p : Int) (u xv : Value) (q : Qv) (x : List Int) (w0 : World) (hp : I64 p) (hu : QvR w0 w0.heap.size u q) (hx : SlI w0 w0.heap.size xv x) :
  Calls Tryz.prog 13 #[.int .i64 p, u, xv] w0 fun e w' => ∃ v, e = .returned (.tuple #[v, .bool (rrQ p q x).2]) ∧ RepI w' w0.heap.size w'.heap.size v (rrQ p q x).1 ∧ Below w0.heap.size w0 w' := by
 rcases h : rrOk p q x with _ | _
 ·exact specRootRep_no p u xv q x w0 hp hu hx h
 have h0 := h
 simp only [rrOk, Bool.and_eq_true] at h0
 obtain ⟨⟨h1, h2⟩, h3⟩ := h0
 have hN96 := rrN_le h3
 have hn6 : q.f.length ≤ 6 := (isQ_t.1 (areDims_t.1 h3).1).2.2.1
 have HFIT := Lib.hid (fun k => rrR_fit h1 h3 k)
 have HRE := Lib.hid (fun k => show rrR p q x k = ⟨p, q, x, shL (zms q x q.f.length) (bxV 1 (rrN q x) k)⟩ from rfl)
 have HONE := Lib.hid (fun k => show rrOne p q x k = decide (homN (rrR p q x k) (rrR p q x k) = 1) from rfl)
 have HKA := Lib.hid (fun k => rrK_at (p := p) (q := q) (x := x) (k := k))
 have HKN := Lib.hid (rrK_no (p := p) (q := q) (x := x))
 have HZR := Lib.hid (rr_zero p q x)
 have HYES := Lib.hid (fun h2 => rrQ_yes (p := p) (q := q) (x := x) h h2)
 have HBIG := Lib.hid (fun h2 => rrQ_big (p := p) (q := q) (x := x) h2)
 have H1 := Lib.hid h1
 have H2 := Lib.hid h2
 have H3 := Lib.hid h3
 obtain ⟨ms, hms⟩ : ∃ z, zms q x q.f.length = z := ⟨_, rfl⟩
 have HZN := Lib.hid (show totA ms = rrN q x by rw [← hms]; rfl)
 have HZL := Lib.hid (show ms.length = q.f.length by rw [← hms]; exact zms_length q x q.f.length)
 rw [hms] at HRE HZR
 have HZE := Lib.hid hms
 obtain ⟨N, hN⟩ : ∃ z, rrN q x = z := ⟨_, rfl⟩
 rw [hN] at hN96 HRE HKA HKN HZR HYES HBIG HZN
 clear h h1 h2 h3 hms hN
 have hu' := hu
 obtain ⟨A, c, C, d, rfl, hf, ht, hr, lf, lt⟩ := hu.open_
 have hx' := hx
 obtain ⟨XA, xc, rfl, _, _, lx, _⟩ := hx.open_
 clear hu hx hf ht
 obtain ⟨W, hW⟩ : ∃ z, (w0.alloc (.cells #[.int .i64 q.v, .slice A q.f.length c, .slice C q.t.length d] 29)).alloc (.cells #[.int .i64 0, .int .i64 0, .slice none 0 0, .slice none 0 0, .slice none 0 0, .slice none 0 0] 32) = z := ⟨_, rfl⟩
 have g0 : Below w0.heap.size w0 W := by rw [← hW]; exact ((Below.refl _ _).alloc (Nat.le_refl _) _).alloc (by simp) _
 have kQ : Blk W w0.heap.size 29 #[.int .i64 q.v, .slice A q.f.length c, .slice C q.t.length d] := by rw [← hW]; exact (Blk.new _ _ _).alloc _
 have kR : Blk W (w0.heap.size + 1) 32 #[.int .i64 0, .int .i64 0, .slice none 0 0, .slice none 0 0, .slice none 0 0, .slice none 0 0] := by
  rw [← hW]
  have := Blk.new (w0.alloc (.cells #[.int .i64 q.v, .slice A q.f.length c, .slice C q.t.length d] 29)) 32 #[.int .i64 0, .int .i64 0, .slice none 0 0, .slice none 0 0, .slice none 0 0, .slice none 0 0]
  simpa only [World.size_alloc] using this
 have sW : Hid (W.heap.size = w0.heap.size + 1 + 1) := by show _ = _; rw [← hW]; simp
 have HQ := Lib.hid (QvR.next g0 hu')
 have HX := Lib.hid (SlI.next g0 hx')
 have q0 := kQ.cell' (i := 0) rfl
 have q1 := kQ.cell' (i := 1) rfl
 have q2 := kQ.cell' (i := 2) rfl
 have G0 := Lib.hid g0
 clear hu' hx' g0
 go_enter Tryz.func13, Tryz.ntmps13
 go_wp2_with fail
 clear hW
 refine (specIsField_any _ _).mono ?_; rintro e w1 ⟨rfl, hww⟩; replace hww := hww.symm; subst hww
 rw [H1.out]
 go_wp2_with fail
 refine (specIsRoot_any _ _ q x _ HQ.out HX.out).mono ?_; rintro e w2 ⟨rfl, hb2⟩
 rw [H2.out]
 have kQ2 := kQ.call hb2
 have q0' := kQ2.cell' (i := 0) rfl
 have q1' := kQ2.cell' (i := 1) rfl
 have q2' := kQ2.cell' (i := 2) rfl
 go_wp2_with fail
 refine (specAreDims_any _ _ q x _ (QvR.next hb2 HQ.out) (SlI.next hb2 HX.out)).mono ?_; rintro e w3 ⟨rfl, hb3⟩
 rw [H3.out]
 have hb23 := bthen hb2 hb3
 have kQ3 := kQ.call hb23
 have q0'' := kQ3.cell' (i := 0) rfl
 have q1'' := kQ3.cell' (i := 1) rfl
 have q2'' := kQ3.cell' (i := 2) rfl
 clear q0 q1 q2 q0' q1' q2' hb3 kQ2 hb2
 go_wp2_with fail
 refine (l8Zero_any p _ _ q x _ hp (QvR.next hb23 HQ.out) (SlI.next hb23 HX.out) H3.out).mono ?_; rintro e w4 ⟨v4, rfl, hZ, hb4⟩
 rw [HZR.out] at hZ
 obtain ⟨fA, tA, dA, mA, ev, s1, s2, s3, s4, _⟩ := hZ.rd
 obtain ⟨MA, mc, em, _⟩ := s4.open_
 simp only at ev em s1 s2 s3
 rw [shL_length, HZL.out] at em
 subst em
 subst ev
 obtain ⟨FA, fc, ef, _⟩ := s1.open_
 obtain ⟨TA, tc, et, _⟩ := s2.open_
 obtain ⟨DA, dc, ed, _⟩ := s3.open_
 subst ef et ed
 have gb4 := bthen hb23 hb4
 have hs23 := hb23.size
 obtain ⟨W5, hW5⟩ : ∃ z, w4.alloc (.cells #[.int .i64 p, .int .i64 q.v, .slice FA q.f.length fc, .slice TA q.t.length tc, .slice DA x.length dc, .slice MA q.f.length mc] 32) = z := ⟨_, rfl⟩
 obtain ⟨Bo, hBoE⟩ : ∃ z, w4.heap.size = z := ⟨_, rfl⟩
 have b5 : Below w4.heap.size w4 W5 := by rw [← hW5]; exact below_alloc _ _
 have z5 : W5.heap.size = Bo + 1 := by rw [← hW5, ← hBoE]; simp
 have k5 : Blk W5 Bo 32 #[.int .i64 p, .int .i64 q.v, .slice FA q.f.length fc, .slice TA q.t.length tc, .slice DA x.length dc, .slice MA q.f.length mc] := by rw [← hW5, ← hBoE]; exact Blk.new _ _ _
 have hR5 := (hZ.below b5).wider (lo' := W.heap.size) (hi' := Bo) hs23 (Nat.le_of_eq hBoE)
 have gb5 := bthen gb4 b5
 have hs4 := gb4.size
 have hBoW : W.heap.size ≤ Bo := by omega
 have Z5 : Hid (Bo < W5.heap.size) := by show _ < _; omega
 have HR5 := Lib.hid hR5
 have GB5 := Lib.hid gb5
 have r5 := k5.cell' (i := 5) rfl
 clear hZ s1 s2 s3 s4 hb23 hb4 q0'' q1'' q2'' kQ3 b5 gb4 hR5 gb5 z5
 go_wp2
 clear hW5
 go_loopw [9, 10] (fun n i wr => ∃ k : Nat, k ≤ q.f.length ∧ i = .int .i64 k ∧ n = .int .i64 (totA (ms.take k) : Nat) ∧ W5 = wr) (fun _ i _ => q.f.length - (intOf i).toNat)
 case atStart => exact ⟨0, Nat.zero_le _, rfl, by simp [totA, tot], rfl⟩
 case round =>
  obtain ⟨k, hk, rfl, rfl, rfl⟩ := hrel
  by_cases hlt : k < q.f.length
  ·obtain ⟨m, hm⟩ : ∃ m, ms[k]? = some m := ⟨_, List.getElem?_eq_getElem (by rw [HZL.out]; exact hlt)⟩
   have hpt := totA_part hm
   rw [HZN.out] at hpt
   have HTS := Lib.hid (show totA (ms.take (k + 1)) = totA (ms.take k) + m.a.length by rw [take_snoc hm, totA_app, totA_one])
   have hg := shL_get ms (List.replicate N 0) k m hm
   obtain ⟨g, c', s, em, _, _, _, _, y2, hs, _⟩ := RepI.mxAt HR5.out (y := ⟨m.r, m.c, ((List.replicate N (0 : Int)).drop (totA (ms.take k))).take m.a.length⟩) hg
   simp only [shL_length, HZL.out] at em
   injection em with em _ em3
   subst em em3
   obtain ⟨sA, sc, es⟩ := hs.form
   have hlen : (((List.replicate N (0 : Int)).drop (totA (ms.take k))).take m.a.length).length = m.a.length := by
    rw [List.length_take, List.length_drop, List.length_replicate]; omega
   simp only [hlen] at es
   subst es
   obtain ⟨La, hLa⟩ : ∃ z, m.a.length = z := ⟨_, rfl⟩
   obtain ⟨T, hT⟩ : ∃ z, totA (ms.take k) = z := ⟨_, rfl⟩
   rw [hLa] at y2 hpt HTS
   rw [hT] at hpt HTS ⊢
   clear hg hs hlen hm hLa hT
   go_wp2
   go_roundw
   case rel => exact ⟨k + 1, by omega, by go_num, by rw [HTS.out]; go_num, by first | rfl | trivial⟩
   case measure => first | (simp [intOf]; omega) | simp [intOf]
  ·obtain rfl : k = q.f.length := by omega
   have e0 : ms.take q.f.length = ms := List.take_of_length_le (by rw [HZL.out]; exact Nat.le_refl _)
   rw [e0, HZN.out]
   clear e0
   by_cases hbig : 10 < N
   ·have HE := Lib.hid (HBIG.out hbig)
    go_wp2
    go_loopw [11] (fun i wr => i = .int .i64 0 ∧ W5 = wr) (fun _ _ => 0)
    case atStart => exact ⟨rfl, rfl⟩
    case round =>
     obtain ⟨rfl, rfl⟩ := hrel
     have hb5 := GB5.out
     clear r5
     have kRz := kR.call hb5
     have z0 := kRz.cell' (i := 0) rfl
     have z1 := kRz.cell' (i := 1) rfl
     have z2 := kRz.cell' (i := 2) rfl
     have z3 := kRz.cell' (i := 3) rfl
     have z4 := kRz.cell' (i := 4) rfl
     have z5 := kRz.cell' (i := 5) rfl
     have fr := kRz.frozen
     have GF := Lib.hid (G0.out.trans (hb5.mono G0.out.size))
     clear kRz
     go_wp2
     have gf := GF.out
     have sw := sW.out
     have gfs := gf.size
     refine bodyPost_ret (v := .tuple #[.agg #[.int .i64 0, .int .i64 0, .slice none 0 0, .slice none 0 0, .slice none 0 0, .slice none 0 0], .bool false]) (by simp [results, go_sem, z0, z1, z2, z3, z4, z5]) rfl ⟨_, by rw [HE.out], by rw [HE.out]; exact RepI.zero _ (by simp; omega), (((((gf.setCell (by simp) _).setCell (by simp) _).setCell (by simp) _).setCell (by simp) _).setCell (by simp) _).setCell (by simp) _⟩
   ·have hN10 : N ≤ 10 := by omega
    have HE := Lib.hid (HYES.out hN10)
    obtain ⟨M, hM⟩ : ∃ z, 2 ^ N = z := ⟨_, rfl⟩
    have hM1 : M ≤ 1024 := by rw [← hM]; exact Nat.pow_le_pow_right (by omega) hN10
    have hshl : Hid (∀ i, i < M → ∃ _ : True, True) := fun _ _ => ⟨trivial, trivial⟩
    have HM := Lib.hid hM
    rw [hM] at HKA HKN
    have hpw : wrap64 (2 ^ N) = (M : Int) := by
     rw [← hM, Int.natCast_pow]
     have : (2 : Int) ^ N = ((2 ^ N : Nat) : Int) := by rw [Int.natCast_pow]; rfl
     have h2 : ((2 : Nat) : Int) ^ N = ((2 ^ N : Nat) : Int) := by rw [Int.natCast_pow]
     rw [this, h2]
     exact IntWalk.wrap64_in _ ⟨by omega, by rw [hM]; omega⟩
    have HPW := Lib.hid hpw
    clear hM hpw hshl
    go_wp2
    clear r5
    go_loopw [11] (fun i wr => ∃ (cd : Nat) (old : List Int), cd ≤ M ∧ i = .int .i64 cd ∧ Hid (old.length = N) ∧ Blk wr Bo 32 #[.int .i64 p, .int .i64 q.v, .slice FA q.f.length fc, .slice TA q.t.length tc, .slice DA x.length dc, .slice MA q.f.length mc] ∧ RepI wr W.heap.size Bo (.agg #[.int .i64 p, .int .i64 q.v, .slice FA q.f.length fc, .slice TA q.t.length tc, .slice DA x.length dc, .slice MA q.f.length mc]) ⟨p, q, x, shL ms old⟩ ∧ Below W.heap.size W wr ∧ Bo < wr.heap.size ∧ Hid (∀ i, i < cd → rrOne p q x i = false)) (fun i _ => M - (intOf i).toNat)
    case atStart => exact ⟨0, List.replicate N 0, Nat.zero_le _, rfl, by show _ = _; simp, k5, HR5.out, GB5.out, Z5.out, fun i hi => absurd hi (by omega)⟩
    case round =>
     obtain ⟨cd, old, hcd, rfl, HOL, kB, hR, hbel, hBs, hno⟩ := hrel
     by_cases hlt : cd < M
     ·have hpw := HPW.out
      have r5 := kB.cell' (i := 5) rfl
      obtain ⟨new, hnew⟩ : ∃ z, bxV 1 N cd = z := ⟨_, rfl⟩
      have HNL := Lib.hid (show new.length = N by rw [← hnew]; exact bxV_length _ _ _)
      have HDG := Lib.hid (fun n (hn : n < N) => show new[n]? = some ((cd / 2 ^ (N - 1 - n) % 2 : Nat) : Int) by rw [← hnew]; exact bx1_at hn)
      have HNEW := Lib.hid hnew
      clear hnew
      have HR := Lib.hid hR
      have HB := Lib.hid hbel
      have KB := Lib.hid kB
      clear hR hbel kB
      go_wp2
      clear r5 hpw
      go_loopw [12, 13] (fun kv i wr => ∃ (m K : Nat), m ≤ q.f.length ∧ i = .int .i64 ((m : Int) - 1) ∧ kv = .int .i64 K ∧ Hid (K = cd / 2 ^ (N - totA (ms.take m))) ∧ Blk wr Bo 32 #[.int .i64 p, .int .i64 q.v, .slice FA q.f.length fc, .slice TA q.t.length tc, .slice DA x.length dc, .slice MA q.f.length mc] ∧ RepI wr W.heap.size Bo (.agg #[.int .i64 p, .int .i64 q.v, .slice FA q.f.length fc, .slice TA q.t.length tc, .slice DA x.length dc, .slice MA q.f.length mc]) ⟨p, q, x, shL ms (mixL old new (totA (ms.take m)))⟩ ∧ Below W.heap.size W wr ∧ Bo < wr.heap.size) (fun _ i _ => (intOf i + 1).toNat)
      case atStart =>
       have e0 : ms.take q.f.length = ms := List.take_of_length_le (by rw [HZL.out]; exact Nat.le_refl _)
       refine ⟨q.f.length, cd, Nat.le_refl _, rfl, rfl, ?_, KB.out, ?_, HB.out, hBs⟩
       ·show _ = _
        rw [e0, HZN.out, Nat.sub_self, Nat.pow_zero, Nat.div_one]
       ·rw [e0, HZN.out, mixL_all HOL.out HNL.out]; exact HR.out
      case round =>
       clear HR HB KB hBs
       obtain ⟨m, K, hm, rfl, rfl, HK, kB, hR, hbel, hBs⟩ := hrel
       by_cases hm0 : 0 < m
       ·obtain ⟨t, rfl⟩ : ∃ t, m = t + 1 := ⟨m - 1, by omega⟩
        obtain ⟨y, hy⟩ : ∃ y, ms[t]? = some y := ⟨_, List.getElem?_eq_getElem (by rw [HZL.out]; omega)⟩
        have hpt := totA_part hy
        rw [HZN.out] at hpt
        have hts : totA (ms.take (t + 1)) = totA (ms.take t) + y.a.length := by rw [take_snoc hy, totA_app, totA_one]
        rw [hts] at hR HK
        have HSET := Lib.hid (fun (cs : List Int) (j : Nat) (z : Int) (hj : j < y.a.length) (hc : cs.length = totA ms) => shL_set (z := z) hy hj hc)
        have HGET := Lib.hid (fun cs => shL_get ms cs t y hy)
        obtain ⟨La, hLa⟩ : ∃ z, y.a.length = z := ⟨_, rfl⟩
        obtain ⟨T, hT⟩ : ∃ z, totA (ms.take t) = z := ⟨_, rfl⟩
        rw [hLa, hT] at hpt hR HK HSET HGET
        have HTT := Lib.hid hT
        have e1 : ((t + 1 : Nat) : Int) - 1 = (t : Int) := by omega
        rw [e1]
        have r5 := kB.cell' (i := 5) rfl
        have hgt := HGET.out (mixL old new (T + La))
        have hmlen := mixL_len HOL.out HNL.out (T + La)
        have hl1 : (((mixL old new (T + La)).drop T).take La).length = La := by rw [List.length_take, List.length_drop, hmlen]; omega
        obtain ⟨g, c', s, em, _, _, _, _, y2, hs, _⟩ := hR.mxAt hgt
        simp only [shL_length, HZL.out] at em
        injection em with em _ em3
        subst em em3
        obtain ⟨sA, sc, es⟩ := hs.form
        simp only [hl1] at es
        subst es
        have a1' : (t : Int) < q.f.length := by omega
        have HR := Lib.hid hR
        have HB := Lib.hid hbel
        have KB := Lib.hid kB
        clear hR hbel kB hgt hmlen hl1 hs e1 hts hLa hT hy
        go_wp2
        clear r5 y2
        go_loopw [12, 14] (fun kv j wr => ∃ (s K : Nat), s ≤ La ∧ j = .int .i64 ((s : Int) - 1) ∧ kv = .int .i64 K ∧ Hid (K = cd / 2 ^ (N - (T + s))) ∧ Blk wr Bo 32 #[.int .i64 p, .int .i64 q.v, .slice FA q.f.length fc, .slice TA q.t.length tc, .slice DA x.length dc, .slice (some ⟨g, 0, none⟩) q.f.length mc] ∧ RepI wr W.heap.size Bo (.agg #[.int .i64 p, .int .i64 q.v, .slice FA q.f.length fc, .slice TA q.t.length tc, .slice DA x.length dc, .slice (some ⟨g, 0, none⟩) q.f.length mc]) ⟨p, q, x, shL ms (mixL old new (T + s))⟩ ∧ Below W.heap.size W wr ∧ Bo < wr.heap.size) (fun _ j _ => (intOf j + 1).toNat)
        case atStart => exact ⟨La, K, Nat.le_refl _, rfl, rfl, HK.out, KB.out, HR.out, HB.out, hBs⟩
        case round =>
         clear HR HB KB hBs HK
         obtain ⟨s, K2, hs, rfl, rfl, HK, kB, hR, hbel, hBs⟩ := hrel
         by_cases hs0 : 0 < s
         ·obtain ⟨u, rfl⟩ : ∃ u, s = u + 1 := ⟨s - 1, by omega⟩
          have hTu : T + u < N := by omega
          have hdg := HDG.out (T + u) hTu
          have hK := HK.out
          rw [show N - (T + (u + 1)) = N - 1 - (T + u) by omega] at hK
          rw [← hK] at hdg
          have HK3 := Lib.hid (show K2 / 2 = cd / 2 ^ (N - (T + u)) by rw [hK, show N - 1 - (T + u) = N - (T + u + 1) by omega]; exact code_step hTu)
          have hKle : K2 ≤ 1024 := by rw [hK]; exact Nat.le_trans (Nat.div_le_self _ _) (by omega)
          have hmlen := mixL_len HOL.out HNL.out (T + (u + 1))
          have hl1 : (((mixL old new (T + (u + 1))).drop T).take La).length = La := by rw [List.length_take, List.length_drop, hmlen]; omega
          have hgt := HGET.out (mixL old new (T + (u + 1)))
          obtain ⟨D, hD⟩ : ∃ z, K2 % 2 = z := ⟨_, rfl⟩
          obtain ⟨E2, hE2⟩ : ∃ z, K2 / 2 = z := ⟨_, rfl⟩
          have hD2 : D < 2 := by omega
          have hE3 : E2 ≤ 1024 := by omega
          rw [hD] at hdg
          rw [hE2] at HK3
          have hput := hR.putMx hgt (i := u) (z := (D : Int)) (by simp only [hl1]; omega) (by simp only [I64]; omega)
          obtain ⟨g', c'', gr, cr, em, _, y2, ⟨u0, y3⟩, fr, _, hcr, hgr, hne, hput⟩ := hput
          simp only [shL_length, HZL.out, hl1] at em y2 hcr
          injection em with em1 _ em3
          injection em1 with em1
          injection em1 with em1
          subst em1 em3
          simp only at hput
          rw [HSET.out _ u _ (by omega) (by rw [hmlen, HZN.out]), show T + (u + 1) = (T + u) + 1 by omega, mixL_put HOL.out HNL.out hTu hdg] at hput
          have r5 := kB.cell' (i := 5) rfl
          have hneB := hne Bo _ _ kB (by decide)
          obtain ⟨W9, hW9⟩ : ∃ z, wr.setCell ⟨gr, u, none⟩ (.int .i64 (D : Int)) = z := ⟨_, rfl⟩
          rw [hW9] at hput
          have k9 : Blk W9 Bo 32 #[.int .i64 p, .int .i64 q.v, .slice FA q.f.length fc, .slice TA q.t.length tc, .slice DA x.length dc, .slice (some ⟨g, 0, none⟩) q.f.length mc] := by rw [← hW9]; exact kB.far hneB _
          have hc9 : Chg gr (gr + 1) wr W9 := by rw [← hW9]; exact chg_set (Nat.le_refl _) (Nat.lt_succ_self _)
          have s9 := hc9.size
          have HB9 := Lib.hid (hbel.trans (hc9.below (by omega) hbel.size))
          have HP9 := Lib.hid hput
          have K9 := Lib.hid k9
          have e1 : ((u + 1 : Nat) : Int) - 1 = (u : Int) := by omega
          rw [e1]
          have hm1 : ((K2 : Int)).tmod 2 = (D : Int) := by rw [Int.tmod_eq_emod_of_nonneg (by omega)]; omega
          have hm2 : ((K2 : Int)).tdiv 2 = (E2 : Int) := by rw [Int.tdiv_eq_ediv_of_nonneg (by omega)]; omega
          clear hD hE2
          have a2' : (u : Int) < La := by omega
          clear hput k9 hc9 hgt hmlen hl1 hdg hK hne hneB hbel hR kB e1 HK
          go_wp2
          clear hW9 r5 y2 y3 fr
          go_roundw
          case rel => exact ⟨u, E2, by omega, by go_num, rfl, HK3.out, K9.out, HP9.out, HB9.out, by omega⟩
          case measure => first | (simp [intOf]; omega) | simp [intOf]
         ·obtain rfl : s = 0 := by omega
          rw [Nat.add_zero] at hR HK
          have HR := Lib.hid hR
          have HB := Lib.hid hbel
          have KB := Lib.hid kB
          have e1 : ((0 : Nat) : Int) - 1 = -1 := by omega
          rw [e1]
          clear hR hbel kB e1
          go_wp2
          go_roundw
          case rel => exact ⟨t, K2, by omega, by go_num, rfl, by have := HK.out; show _ = _; rw [HTT.out]; exact this, KB.out, by rw [HTT.out]; exact HR.out, HB.out, hBs⟩
          case measure => first | (simp [intOf]; omega) | simp [intOf]
       ·obtain rfl : m = 0 := by omega
        have hz : totA (ms.take 0) = 0 := rfl
        rw [hz, mixL_none] at hR
        have e1 : ((0 : Nat) : Int) - 1 = -1 := by omega
        rw [e1]
        have z0 := kB.cell' (i := 0) rfl
        have z1 := kB.cell' (i := 1) rfl
        have z2 := kB.cell' (i := 2) rfl
        have z3 := kB.cell' (i := 3) rfl
        have z4 := kB.cell' (i := 4) rfl
        have z5 := kB.cell' (i := 5) rfl
        have hRD : RpR wr wr.heap.size (.agg #[.int .i64 p, .int .i64 q.v, .slice FA q.f.length fc, .slice TA q.t.length tc, .slice DA x.length dc, .slice MA q.f.length mc]) (rrR p q x cd) := by rw [HRE.out, HNEW.out]; exact hR.rd
        have HRD := Lib.hid hRD
        have HR := Lib.hid hR
        have HB := Lib.hid hbel
        have hone := HONE.out cd
        have hbs := hbel.size
        clear hRD hR hbel hz e1 HK
        go_wp2_with fail
        refine (specHomDim_yes _ _ (rrR p q x cd) (rrR p q x cd) _ HRD.out HRD.out (HFIT.out cd)).mono ?_; rintro e w8 ⟨rfl, hb8⟩
        have k8 := kB.call hb8
        have s8 := hb8.size
        have HR8 := Lib.hid (HR.out.below hb8)
        have HB8 := Lib.hid (HB.out.trans (hb8.mono hbs))
        obtain ⟨hd, hhd⟩ : ∃ z, homN (rrR p q x cd) (rrR p q x cd) = z := ⟨_, rfl⟩
        rw [hhd] at hone ⊢
        clear hhd hb8 kB z0 z1 z2 z3 z4 z5
        by_cases h1 : hd = 1
        ·subst h1
         have HKK := Lib.hid (HKA.out cd hlt hno.out (by rw [hone]; rfl))
         have z0 := k8.cell' (i := 0) rfl
         have z1 := k8.cell' (i := 1) rfl
         have z2 := k8.cell' (i := 2) rfl
         have z3 := k8.cell' (i := 3) rfl
         have z4 := k8.cell' (i := 4) rfl
         have z5 := k8.cell' (i := 5) rfl
         have kR8 := kR.call HB8.out
         have r0 := kR8.cell' (i := 0) rfl
         have r1 := kR8.cell' (i := 1) rfl
         have r2 := kR8.cell' (i := 2) rfl
         have r3 := kR8.cell' (i := 3) rfl
         have r4 := kR8.cell' (i := 4) rfl
         have r5 := kR8.cell' (i := 5) rfl
         have fr := kR8.frozen
         have HQQ := Lib.hid (show rrQ p q x = (rrR p q x cd, true) by rw [HE.out, HKK.out]; rfl)
         clear hone k8 kR8
         go_wp2
         have gf := HB8.out
         have g00 := G0.out
         have sw := sW.out
         have gfs := gf.size
         have hc1 := chg6 w8 (w0.heap.size + 1) (.int .i64 p) (.int .i64 q.v) (.slice FA q.f.length fc) (.slice TA q.t.length tc) (.slice DA x.length dc) (.slice MA q.f.length mc)
         refine bodyPost_ret (v := .tuple #[(.agg #[.int .i64 p, .int .i64 q.v, .slice FA q.f.length fc, .slice TA q.t.length tc, .slice DA x.length dc, .slice MA q.f.length mc]), .bool true]) (by simp [results, go_sem, r0, r1, r2, r3, r4, r5]) rfl ⟨_, by rw [HQQ.out], ?_, (g00.trans (gf.mono (by omega))).trans (hc1.below (by omega) (by omega))⟩
         rw [HQQ.out, HRE.out, HNEW.out]
         exact (HR8.out.chg hc1 (.inr (by omega))).wider (by omega) (by have := hc1.size; omega)
        ·have hd1 : ((hd : Int) == 1) = false := by rw [beq_eq_false_iff_ne]; omega
         have HNO := Lib.hid (show ∀ i, i < cd + 1 → rrOne p q x i = false by
          intro i hi
          by_cases e : i = cd
          ·subst e; rw [hone]; simpa using h1
          ·exact hno.out i (by omega))
         have K8 := Lib.hid k8
         clear hone k8
         go_wp2
         go_roundw
         case rel => exact ⟨cd + 1, new, by omega, by go_num, HNL.out, K8.out, HR8.out, HB8.out, by omega, HNO.out⟩
         case measure => first | (simp [intOf]; omega) | simp [intOf]
     ·have hcm : cd = M := Nat.le_antisymm hcd (Nat.le_of_not_lt hlt)
      subst hcm
      have hrk := HKN.out hno.out
      have HQF := Lib.hid (show rrQ p q x = (rp0, false) by rw [HE.out, hrk]; rfl)
      have hnm : ¬ ((cd : Int) < cd) := by omega
      clear hno hrk hR kB
      have kRz := kR.call hbel
      have z0 := kRz.cell' (i := 0) rfl
      have z1 := kRz.cell' (i := 1) rfl
      have z2 := kRz.cell' (i := 2) rfl
      have z3 := kRz.cell' (i := 3) rfl
      have z4 := kRz.cell' (i := 4) rfl
      have z5 := kRz.cell' (i := 5) rfl
      have fr := kRz.frozen
      have GF := Lib.hid (G0.out.trans (hbel.mono G0.out.size))
      have hpw := HPW.out
      clear kRz hbel
      go_wp2
      clear hpw
      have gf := GF.out
      have sw := sW.out
      have gfs := gf.size
      refine bodyPost_ret (v := .tuple #[.agg #[.int .i64 0, .int .i64 0, .slice none 0 0, .slice none 0 0, .slice none 0 0, .slice none 0 0], .bool false]) (by simp [results, go_sem, z0, z1, z2, z3, z4, z5]) rfl ⟨_, by rw [HQF.out], by rw [HQF.out]; exact RepI.zero _ (by simp; omega), (((((gf.setCell (by simp) _).setCell (by simp) _).setCell (by simp) _).setCell (by simp) _).setCell (by simp) _).setCell (by simp) _⟩
theorem specRootRep_any (p : Int) (u xv : Value) (q : Qv) (x : List Int) (w0 : World) (hp : I64 p) (hu : QvR w0 w0.heap.size u q) (hx : SlI w0 w0.heap.size xv x) :
  Calls Tryz.prog 13 #[.int .i64 p, u, xv] w0 fun e w' => ∃ v, e = .returned (.tuple #[v, .bool (rrQ p q x).2]) ∧ RpR w' w'.heap.size v (rrQ p q x).1 ∧ Below w0.heap.size w0 w' :=
 (specRootRep_I p u xv q x w0 hp hu hx).mono fun e w' ⟨v, h1, h2, h3⟩ => ⟨v, h1, h2.rd, h3⟩
end Go.Proofs.YtcmlflppndfdcaaGreat
