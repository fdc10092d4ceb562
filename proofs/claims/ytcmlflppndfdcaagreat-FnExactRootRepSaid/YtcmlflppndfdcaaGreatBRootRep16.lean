/- FnExactRootRep: the law holds for every argument. Part 16 of 18 of the proof: Hom5. No condition. -/
import Derived.Test.YtcmlflppndfdcaaGreatBRootRep15
set_option linter.unusedVariables false
set_option linter.unusedSimpArgs false
namespace Go.Proofs.YtcmlflppndfdcaaGreat
open Go.RowKit
def EqS (gm lo hi n : Nat) (w : World) (L : List (List Int)) : Prop := ∃ A c, Blk w gm 50 #[.int .i64 (L.length : Int), .int .i64 n, .slice A L.flatten.length c] ∧ IntsO w lo hi (.slice A L.flatten.length c) L.flatten
theorem EqS.call {gm lo hi n : Nat} {w w' : World} {L : List (List Int)} (h : EqS gm lo hi n w L) (hb : Below w.heap.size w w') : EqS gm lo hi n w' L := by
 obtain ⟨A, c, h1, h2⟩ := h
 exact ⟨A, c, h1.call hb, h2.below hb⟩
theorem EqS.chg {gm lo hi n g : Nat} {w w' : World} {L : List (List Int)} (h : EqS gm lo hi n w L) (hc : Chg g (g + 1) w w') (h1 : hi ≤ g) (h2 : gm < hi) : EqS gm lo hi n w' L := by
 obtain ⟨A, c, k1, k2⟩ := h
 exact ⟨A, c, k1.chg hc (by omega), k2.chg hc (.inl h1)⟩
theorem EqS.wider {gm lo hi hi' n : Nat} {w : World} {L : List (List Int)} (h : EqS gm lo hi n w L) (h1 : hi ≤ hi') : EqS gm lo hi' n w L := by
 obtain ⟨A, c, k1, k2⟩ := h
 exact ⟨A, c, k1, k2.wider (Nat.le_refl _) h1⟩
theorem EqS.congr {gm lo hi n : Nat} {w : World} {L L' : List (List Int)} (h : EqS gm lo hi n w L) (e : L = L') : EqS gm lo hi n w L' := e ▸ h
theorem rowS_0 (X Y : Rp) (n k r c : Nat) : List.replicate n (0 : Int) = rowF n (fun m => eqS X Y k r c m 0 % X.p) := by
 symm
 rw [List.eq_replicate_iff]
 refine ⟨rowF_length _ _, fun x hx => ?_⟩
 simp only [rowF, List.mem_map] at hx
 obtain ⟨_, _, rfl⟩ := hx
 simp [eqS, sgF]
theorem rowS_put {X Y : Rp} {n k r c j P : Nat} (hP : P = hOff X.d Y.d (srN X.q k) + j * dmN X.d (srN X.q k) + c) :
  (rowF n (fun m => eqS X Y k r c m j % X.p)).set P ((eqS X Y k r c P j % X.p + arF Y k r j) % X.p) = rowF n (fun m => eqS X Y k r c m (j + 1) % X.p) := by
 rw [rowF_set]
 refine rowF_congr fun m _ => ?_
 have e : eqS X Y k r c m (j + 1) = eqS X Y k r c m j + arF Y k r j * hInd P m := by rw [hP]; rfl
 by_cases h : m = P
 ·subst h
  rw [if_pos rfl, e, hInd, if_pos rfl, Int.mul_one, Int.emod_add_emod]
 ·rw [if_neg h, e, hInd, if_neg (fun e => h e.symm), Int.mul_zero, Int.add_zero]
theorem rowT_put {X Y : Rp} {n k r c j P D : Nat} (hP : P = hOff X.d Y.d (tgN X.q k) + r * dmN X.d (tgN X.q k) + j) :
  (rowF n (fun m => (eqS X Y k r c m D - eqT X Y k r c m j) % X.p)).set P (((eqS X Y k r c P D - eqT X Y k r c P j) % X.p - arF X k j c) % X.p) = rowF n (fun m => (eqS X Y k r c m D - eqT X Y k r c m (j + 1)) % X.p) := by
 rw [rowF_set]
 refine rowF_congr fun m _ => ?_
 have e : eqT X Y k r c m (j + 1) = eqT X Y k r c m j + arF X k j c * hInd P m := by rw [hP]; rfl
 by_cases h : m = P
 ·subst h
  rw [if_pos rfl, e, hInd, if_pos rfl, Int.mul_one, Int.emod_sub_emod]
  congr 1
  omega
 ·rw [if_neg h, e, hInd, if_neg (fun e => h e.symm), Int.mul_zero, Int.add_zero]
theorem rowT_0 (X Y : Rp) (n k r c D : Nat) : rowF n (fun m => eqS X Y k r c m D % X.p) = rowF n (fun m => (eqS X Y k r c m D - eqT X Y k r c m 0) % X.p) := rowF_congr fun m _ => by simp [eqT, sgF]
def eqRk (X Y : Rp) (n k i : Nat) : List (List Int) := rowsF i n (fun i => eqE X Y k (i / dmN X.d (srN X.q k)) (i % dmN X.d (srN X.q k)))
theorem eqRk_len (X Y : Rp) (n k i : Nat) : (eqRk X Y n k i).length = i := rowsF_length _ _ _
theorem eqRk_next {X Y : Rp} {n k r c : Nat} (hc : c < dmN X.d (srN X.q k)) : eqRk X Y n k (r * dmN X.d (srN X.q k) + c + 1) = eqRk X Y n k (r * dmN X.d (srN X.q k) + c) ++ [rowF n (eqE X Y k r c)] := by
 rw [eqRk, rowsF_succ, ix_div hc, ix_mod hc]; rfl
theorem eqFl_len {X Y : Rp} {n K k i : Nat} : (eqL X Y n K ++ eqRk X Y n k i).flatten.length = ((eqL X Y n K).length + i) * n := by
 have h : ∀ l ∈ eqL X Y n K ++ eqRk X Y n k i, l.length = n := by
  intro l hl
  rcases List.mem_append.1 hl with h | h
  ·exact (eqL_mem h).1
  ·simp only [eqRk, rowsF, List.mem_map, List.mem_range] at h
   obtain ⟨_, _, rfl⟩ := h
   exact rowF_length _ _
 rw [rows_flat h, flat_length, List.length_append, eqRk_len]
theorem eqL_len_le {X Y : Rp} (h : Fit2 X Y) (n : Nat) : ∀ K, (eqL X Y n K).length ≤ K * 16
 | 0 => by simp [eqL]
 | K + 1 => by
  have ih := eqL_len_le h n K
  rw [eqL, List.length_append, eqRw, rowsF_length]
  have : dmN Y.d (tgN X.q K) * dmN X.d (srN X.q K) ≤ 4 * 4 := Nat.mul_le_mul (h.dims _).2 (h.dims _).1
  omega
theorem hOff_in {X Y : Rp} {v i j : Nat} (hv : v < X.d.length) (hi : i < dmN Y.d v) (hj : j < dmN X.d v) : hOff X.d Y.d v + i * dmN X.d v + j < hmN X Y := by
 have h1 := ix_lt hi hj
 have h2 := hOff_mono X.d Y.d (show v + 1 ≤ X.d.length by omega)
 unfold hmN
 simp only [hOff] at h2
 omega
set_option maxHeartbeats 25600000 in
set_option maxRecDepth 100000 in
theorem l11Equations_any (ua ub : Value) (X Y : Rp) (w0 : World) (ha : RpR w0 w0.heap.size ua X) (hb : RpR w0 w0.heap.size ub Y) (hf : Fit2 X Y) :
  Calls Tryz.prog 120 #[ua, ub] w0 fun e w' => ∃ v, e = .returned v ∧ MxO w' w0.heap.size w'.heap.size v (mxF (eqR X Y) (hmN X Y) (eqG X Y)) ∧ Below w0.heap.size w0 w' := by
 have ha' := ha
 have hb' := hb
 obtain ⟨A, a, C, c, Ea, ea, Ha, ha_, rfl, hqa, hda, hma, _⟩ := ha.open_
 obtain ⟨A2, a2, C2, c2, Eb, eb, Hb, hb_, rfl, hqb, hdb, hmb, _⟩ := hb.open_
 clear ha hb
 obtain ⟨W, hW⟩ : ∃ W, W = ((w0.alloc (.cells #[.int .i64 X.p, .int .i64 X.q.v, .slice A X.q.f.length a, .slice C X.q.t.length c, .slice Ea X.d.length ea, .slice Ha X.m.length ha_] 32)).alloc (.cells #[.int .i64 Y.p, .int .i64 Y.q.v, .slice A2 Y.q.f.length a2, .slice C2 Y.q.t.length c2, .slice Eb Y.d.length eb, .slice Hb Y.m.length hb_] 32)).alloc (.cells #[.int .i64 0, .int .i64 0, .slice none 0 0] 50) := ⟨_, rfl⟩
 have g0 : Below w0.heap.size w0 W := by rw [hW]; exact (((Below.refl _ _).alloc (Nat.le_refl _) _).alloc (by simp) _).alloc (by simp; omega) _
 have k1 : Blk W w0.heap.size 32 #[.int .i64 X.p, .int .i64 X.q.v, .slice A X.q.f.length a, .slice C X.q.t.length c, .slice Ea X.d.length ea, .slice Ha X.m.length ha_] := by rw [hW]; exact ((Blk.new _ _ _).alloc _).alloc _
 have k2 : Blk W (w0.heap.size + 1) 32 #[.int .i64 Y.p, .int .i64 Y.q.v, .slice A2 Y.q.f.length a2, .slice C2 Y.q.t.length c2, .slice Eb Y.d.length eb, .slice Hb Y.m.length hb_] := by
  rw [hW]
  have := (Blk.new (w0.alloc (.cells #[.int .i64 X.p, .int .i64 X.q.v, .slice A X.q.f.length a, .slice C X.q.t.length c, .slice Ea X.d.length ea, .slice Ha X.m.length ha_] 32)) 32 #[.int .i64 Y.p, .int .i64 Y.q.v, .slice A2 Y.q.f.length a2, .slice C2 Y.q.t.length c2, .slice Eb Y.d.length eb, .slice Hb Y.m.length hb_]).alloc (.cells #[.int .i64 0, .int .i64 0, .slice none 0 0] 50)
  simpa only [World.size_alloc] using this
 have k3 : Blk W (w0.heap.size + 1 + 1) 50 #[.int .i64 0, .int .i64 0, .slice none 0 0] := by
  rw [hW]
  have := Blk.new ((w0.alloc (.cells #[.int .i64 X.p, .int .i64 X.q.v, .slice A X.q.f.length a, .slice C X.q.t.length c, .slice Ea X.d.length ea, .slice Ha X.m.length ha_] 32)).alloc (.cells #[.int .i64 Y.p, .int .i64 Y.q.v, .slice A2 Y.q.f.length a2, .slice C2 Y.q.t.length c2, .slice Eb Y.d.length eb, .slice Hb Y.m.length hb_] 32)) 50 #[.int .i64 0, .int .i64 0, .slice none 0 0]
  simpa only [World.size_alloc] using this
 have sz : W.heap.size = w0.heap.size + 1 + 1 + 1 := by rw [hW]; simp
 have SZ := Lib.hid sz
 have HXA := Lib.hid (RpR.next g0 ha')
 have HXB := Lib.hid (RpR.next g0 hb')
 have HQA := Lib.hid (QvR.next g0 hqa)
 have HDA := Lib.hid (SlI.next g0 hda)
 have HDB := Lib.hid (SlI.next g0 hdb)
 have HMA := Lib.hid (SlM.next g0 hma)
 have HMB := Lib.hid (SlM.next g0 hmb)
 have G0 := Lib.hid g0
 have HF := Lib.hid hf
 have hp2 := hf.p2
 have hN80 := hmN_le hf
 have hR96 := eqR_le hf
 obtain ⟨hN6, hlm, hlmy, hTl⟩ := hf.arrs
 have HLM := Lib.hid hlm
 have HLMY := Lib.hid hlmy
 have HDL := Lib.hid hf.len.1
 have hwX : w0.heap.size < W.heap.size := by omega
 obtain ⟨_, _, _, _, eqq, hfs, hts, _⟩ := HQA.out.open_
 simp only [Value.agg.injEq, Array.mk.injEq, List.cons.injEq, and_true, Value.slice.injEq, true_and] at eqq
 obtain ⟨⟨rfl, rfl⟩, rfl, rfl⟩ := eqq
 have HFS := Lib.hid hfs
 have HTS := Lib.hid hts
 have c0 := k1.cell' (i := 0) rfl
 have c1 := k1.cell' (i := 1) rfl
 have c2_ := k1.cell' (i := 2) rfl
 have c3 := k1.cell' (i := 3) rfl
 have c4 := k1.cell' (i := 4) rfl
 have c5 := k1.cell' (i := 5) rfl
 have d0 := k2.cell' (i := 0) rfl
 have d1 := k2.cell' (i := 1) rfl
 have d2 := k2.cell' (i := 2) rfl
 have d3 := k2.cell' (i := 3) rfl
 have d4 := k2.cell' (i := 4) rfl
 have d5 := k2.cell' (i := 5) rfl
 have K3W := Lib.hid k3
 clear hf hfs hts hlm hlmy hTl ha' hb' hqa hqb hda hdb hma hmb g0 k3
 have HOFF : Hid (∀ v i j, v < X.d.length → i < dmN Y.d v → j < dmN X.d v → hOff X.d Y.d v + i * dmN X.d v + j < hmN X Y) := fun v i j h1 h2 h3 => hOff_in h1 h2 h3
 have HLL := Lib.hid (show (eqL X Y (hmN X Y) X.q.f.length).length = eqR X Y from rfl)
 have HFL := Lib.hid (eqG_flat X Y)
 obtain ⟨n, hn⟩ : ∃ n, hmN X Y = n := ⟨_, rfl⟩
 rw [hn] at hN80 HOFF HLL HFL ⊢
 have HNE := Lib.hid hn
 obtain ⟨R, hR⟩ : ∃ R, eqR X Y = R := ⟨_, rfl⟩
 rw [hR] at HLL HFL hR96 ⊢
 clear hn hR
 go_enter Tryz.func120, Tryz.ntmps120
 go_wp2_with fail
 rw [← hW]; clear hW
 refine (l11Size_any _ _ X Y _ HXA.out HXB.out HF.out).mono ?_; rintro e w1 ⟨rfl, hb1⟩
 rw [HNE.out]
 obtain ⟨W2, hW2⟩ : ∃ z, w1.alloc (.cells #[] 3) = z := ⟨_, rfl⟩
 have o2 : OwnI W2 w1.heap.size (.slice (some ⟨w1.heap.size, 0, none⟩) 0 0) [] := by rw [← hW2]; exact OwnI.made _ rfl (Nat.le_refl _)
 have b2 : Below w1.heap.size w1 W2 := by rw [← hW2]; exact below_alloc _ _
 have s2 : W2.heap.size = w1.heap.size + 1 := by rw [← hW2]; simp
 obtain ⟨W3, hW3⟩ : ∃ z, W2.alloc (.cells #[.int .i64 0, .int .i64 n, .slice (some ⟨w1.heap.size, 0, none⟩) 0 0] 50) = z := ⟨_, rfl⟩
 have b3 : Below W2.heap.size W2 W3 := by rw [← hW3]; exact below_alloc _ _
 have s3 : W3.heap.size = w1.heap.size + 1 + 1 := by rw [← hW3]; simp [s2]
 obtain ⟨gm, hgm⟩ : ∃ z, W2.heap.size = z := ⟨_, rfl⟩
 have hgm1 : gm = w1.heap.size + 1 := by rw [← hgm]; exact s2
 have k3 : Blk W3 gm 50 #[.int .i64 0, .int .i64 n, .slice (some ⟨w1.heap.size, 0, none⟩) 0 0] := by rw [← hW3, ← hgm]; exact Blk.new _ _ _
 have s1 := hb1.size
 have E3 : EqS gm W.heap.size W3.heap.size n W3 (eqL X Y n 0) := ⟨some ⟨w1.heap.size, 0, none⟩, 0, k3, (IntsO.of_own (o2.below b3)).wider s1 (Nat.le_refl _)⟩
 have B3 := hb1.trans ((bthen b2 b3).mono s1)
 have hgmW : W.heap.size < gm := by omega
 have hgm3 : gm < W3.heap.size := by omega
 clear o2 b2 s2 b3 k3 hb1 s1 s3 hgm1 c0 c1 c2_ c3 c4 c5 d0 d1 d2 d3 d4 d5
 go_wp2
 try rw [hgm]
 clear hW2 hW3 hgm
 go_loopw [7] (fun i wr => ∃ k : Nat, k ≤ X.q.f.length ∧ i = .int .i64 k ∧ gm < wr.heap.size ∧ EqS gm W.heap.size wr.heap.size n wr (eqL X Y n k) ∧ Below W.heap.size W wr) (fun i _ => X.q.f.length - (intOf i).toNat)
 case atStart => exact ⟨0, Nat.zero_le _, rfl, hgm3, E3, B3⟩
 case round =>
  clear E3 B3 hgm3
  obtain ⟨k, hk, rfl, hgs, hE, hbel⟩ := hrel
  have hbs := hbel.size
  have kr1 := k1.call hbel
  have c5 := kr1.cell' (i := 5) rfl
  by_cases hlt : k < X.q.f.length
  ·obtain ⟨ef, et, lf, lt, hkt, emx, emy, hIx, hIy⟩ := HF.out.arr hlt
   obtain ⟨dfx, dfy, bfx, bfy⟩ := HF.out.dim lf
   obtain ⟨dtx, dty, btx, bty⟩ := HF.out.dim lt
   have HSP := Lib.hid (fun r c j P hP => rowS_put (X := X) (Y := Y) (n := n) (k := k) (r := r) (c := c) (j := j) (P := P) hP)
   have HTP := Lib.hid (fun r c j P D hP => rowT_put (X := X) (Y := Y) (n := n) (k := k) (r := r) (c := c) (j := j) (P := P) (D := D) hP)
   have HRN := Lib.hid (fun r c hc => eqRk_next (X := X) (Y := Y) (n := n) (k := k) (r := r) (c := c) hc)
   have HRE := Lib.hid (show eqL X Y n (k + 1) = eqL X Y n k ++ eqRk X Y n k (dmN Y.d (tgN X.q k) * dmN X.d (srN X.q k)) from rfl)
   have HEE := Lib.hid (show ∀ r c, eqE X Y k r c = fun m => (eqS X Y k r c m (dmN Y.d (srN X.q k)) - eqT X Y k r c m (dmN X.d (tgN X.q k))) % X.p from fun _ _ => rfl)
   have HOF := Lib.hid (fun i j => HOFF.out (srN X.q k) i j lf)
   have HOT := Lib.hid (fun i j => HOFF.out (tgN X.q k) i j lt)
   have hof := hOff_le HF.out (v := srN X.q k) (by omega)
   have hot := hOff_le HF.out (v := tgN X.q k) (by omega)
   have hl5 := HF.out.len.2
   obtain ⟨nf, hnf⟩ : ∃ n, srN X.q k = n := ⟨_, rfl⟩
   obtain ⟨nt, hnt⟩ : ∃ n, tgN X.q k = n := ⟨_, rfl⟩
   rw [hnf] at ef lf dfx dfy bfx bfy emx emy hIx hIy HSP HRN HRE HEE HOF hof
   rw [hnt] at et lt dtx dty btx bty emx emy hIx hIy HTP HRE HEE HOT hot
   obtain ⟨DXF, e1⟩ : ∃ n, dmN X.d nf = n := ⟨_, rfl⟩
   obtain ⟨DYF, e2⟩ : ∃ n, dmN Y.d nf = n := ⟨_, rfl⟩
   obtain ⟨DXT, e3⟩ : ∃ n, dmN X.d nt = n := ⟨_, rfl⟩
   obtain ⟨DYT, e4⟩ : ∃ n, dmN Y.d nt = n := ⟨_, rfl⟩
   rw [e1] at dfx bfx emx hIx HSP HRN HRE HOF
   rw [e2] at dfy bfy emy hIy HEE HOF
   rw [e3] at dtx btx emx hIx HTP HEE HOT
   rw [e4] at dty bty emy hIy HRE HOT
   obtain ⟨OF, hOF⟩ : ∃ n, hOff X.d Y.d nf = n := ⟨_, rfl⟩
   obtain ⟨OT, hOT⟩ : ∃ n, hOff X.d Y.d nt = n := ⟨_, rfl⟩
   rw [hOF] at HSP HOF hof
   rw [hOT] at HTP HOT hot
   have HOFE := Lib.hid hOF
   have HOTE := Lib.hid hOT
   clear hnf hnt e1 e2 e3 e4 hOF hOT
   obtain ⟨bf, of_, x1, e1, hbf, HX1, z1, _, _⟩ := SlI.at_ HFS.out hlt
   obtain ⟨bt, ot, x2, e2, hbt, HX2, z2, _, _⟩ := SlI.at_ HTS.out hkt
   obtain ⟨bd, od, x3, e3, hbd, HX3, z3, _, _⟩ := SlI.at_ HDA.out lf
   obtain ⟨bd', od', x4, e4, _, HX4, z4, _, _⟩ := SlI.at_ HDA.out lt
   rw [e3] at e4
   injection e4 with e4
   injection e4 with e4 e5
   subst e4 e5
   have lfy : nf < Y.d.length := by have := HDL.out; omega
   obtain ⟨be, oe, x5, e5, hbe, HX5, z5, _, _⟩ := SlI.at_ HDB.out lfy
   have lty : nt < Y.d.length := by have := HDL.out; omega
   obtain ⟨be', oe', x6, e6, _, HX6, z6, _, _⟩ := SlI.at_ HDB.out lty
   rw [e5] at e6
   injection e6 with e6
   injection e6 with e6 e7
   subst e6 e7
   subst e1 e2 e3 e5
   have q1 := HX1.out
   rw [ef] at q1
   injection q1 with q1
   subst q1
   have q2 := HX2.out
   rw [et] at q2
   injection q2 with q2
   subst q2
   have q3 := HX3.out
   rw [dfx] at q3
   injection q3 with q3
   subst q3
   have q4 := HX4.out
   rw [dtx] at q4
   injection q4 with q4
   subst q4
   have q5 := HX5.out
   rw [dfy] at q5
   injection q5 with q5
   subst q5
   have q6 := HX6.out
   rw [dty] at q6
   injection q6 with q6
   subst q6
   obtain ⟨bx, ox, AX, LX, cx, e1, hbx, _, _, mx2, MX⟩ := SlM.atF HMA.out rfl emx
   obtain ⟨by_, oy, AY, LY, cy, e2, hby, _, _, my2, MY⟩ := SlM.atF HMB.out rfl emy
   subst e1 e2
   clear HX1 HX2 HX3 HX4 HX5 HX6 ef et dfx dfy dtx dty emx emy
   have ZDX := Lib.hid z3
   have ZTX := Lib.hid z4
   have ZDY := Lib.hid z5
   have ZTY := Lib.hid z6
   have ZMX := Lib.hid mx2
   have ZMY := Lib.hid my2
   have HMX := Lib.hid MX
   have HMY := Lib.hid MY
   have HIX := Lib.hid hIx
   have HIY := Lib.hid hIy
   have c2r := kr1.cell' (i := 2) rfl
   have c3r := kr1.cell' (i := 3) rfl
   have y1 := bcell hbel hbf z1
   have y2 := bcell hbel hbt z2
   have a1' : (k : Int) < X.q.t.length := by omega
   have a2' : (nf : Int) < X.d.length := by omega
   have a3' : (nt : Int) < X.d.length := by omega
   have a4' : (nf : Int) < Y.d.length := by omega
   have a5' : (nt : Int) < Y.d.length := by omega
   have a6' : (0 : Int) ≤ (nf : Int) := by omega
   have a7' : (0 : Int) ≤ (nt : Int) := by omega
   have a8' : (k : Int) < X.m.length := by have := HLM.out; omega
   have a9' : (k : Int) < Y.m.length := by have := HLMY.out; omega
   have HE := Lib.hid hE
   have HB := Lib.hid hbel
   clear hE hbel z1 z2 z3 z4 z5 z6 mx2 my2 MX MY hIx hIy kr1
   go_wp2
   clear y1 y2 c2r c3r c5
   go_loopw [10] (fun i wr => ∃ r : Nat, r ≤ DYT ∧ i = .int .i64 r ∧ gm < wr.heap.size ∧ EqS gm W.heap.size wr.heap.size n wr (eqL X Y n k ++ eqRk X Y n k (r * DXF)) ∧ Below W.heap.size W wr) (fun i _ => DYT - (intOf i).toNat)
   case atStart => exact ⟨0, Nat.zero_le _, rfl, hgs, by simpa [eqRk, rowsF] using HE.out, HB.out⟩
   case round =>
    clear HE HB hgs hbs
    obtain ⟨r, hr, rfl, hgs, hE, hbel⟩ := hrel
    have hbs := hbel.size
    have kr2 := k2.call hbel
    have d4 := kr2.cell' (i := 4) rfl
    have zty := bcell hbel hbe ZTY.out
    by_cases hrl : r < DYT
    ·have HE := Lib.hid hE
     have HB := Lib.hid hbel
     clear hE hbel kr2
     go_wp2
     clear d4 zty
     go_loopw [11] (fun i wr => ∃ cc : Nat, cc ≤ DXF ∧ i = .int .i64 cc ∧ gm < wr.heap.size ∧ EqS gm W.heap.size wr.heap.size n wr (eqL X Y n k ++ eqRk X Y n k (r * DXF + cc)) ∧ Below W.heap.size W wr) (fun i _ => DXF - (intOf i).toNat)
     case atStart => exact ⟨0, Nat.zero_le _, rfl, hgs, HE.out, HB.out⟩
     case round =>
      clear HE HB hgs hbs
      obtain ⟨cc, hc, rfl, hgs, hE, hbel⟩ := hrel
      have hbs := hbel.size
      have kr1 := k1.call hbel
      have c4 := kr1.cell' (i := 4) rfl
      have zdx := bcell hbel hbd ZDX.out
      by_cases hcl : cc < DXF
      ·have hmk := run_mkI wr (n := n) (by omega)
       obtain ⟨W4, hW4⟩ : ∃ z, wr.alloc (.cells (mkCells (.int .i64 0) n) 3) = z := ⟨_, rfl⟩
       rw [hW4] at hmk
       have g4 : Below wr.heap.size wr W4 := by rw [← hW4]; exact below_alloc _ _
       have o4 : OwnI W4 wr.heap.size (.slice (some ⟨wr.heap.size, 0, none⟩) n n) (List.replicate n 0) := by
        rw [← hW4]
        exact OwnI.made0 (Nat.le_refl _) (by omega)
       have s4 : W4.heap.size = wr.heap.size + 1 := by rw [← hW4]; simp
       obtain ⟨G, hG⟩ : ∃ z, wr.heap.size = z := ⟨_, rfl⟩
       have R4 : IntsO W4 G (G + 1) (.slice (some ⟨G, 0, none⟩) n n) (rowF n (fun m => eqS X Y k r cc m 0 % X.p)) := by
        rw [← rowS_0]
        have := IntsO.of_own o4
        rw [s4, hG] at this
        exact this
       have E4 : EqS gm W.heap.size G n W4 (eqL X Y n k ++ eqRk X Y n k (r * DXF + cc)) := by rw [← hG]; exact hE.call g4
       have B4 := hbel.trans (g4.mono hbs)
       have hGW : W.heap.size ≤ G := by omega
       have hgG : gm < G := by omega
       have hs4 : G + 1 ≤ W4.heap.size := by omega
       clear hE hbel g4 o4 s4 kr1
       rw [hG] at hmk
       clear hG hW4 hgs
       go_wp2
       clear c4 zdx hmk
       go_loopw [13] (fun i wr => ∃ j : Nat, j ≤ DYF ∧ i = .int .i64 j ∧ G + 1 ≤ wr.heap.size ∧ IntsO wr G (G + 1) (.slice (some ⟨G, 0, none⟩) n n) (rowF n (fun m => eqS X Y k r cc m j % X.p)) ∧ EqS gm W.heap.size G n wr (eqL X Y n k ++ eqRk X Y n k (r * DXF + cc)) ∧ Below W.heap.size W wr) (fun i _ => DYF - (intOf i).toNat)
       case atStart => exact ⟨0, Nat.zero_le _, rfl, hs4, R4, E4, B4⟩
       case round =>
        as_aux_lemma =>
        clear R4 E4 B4 hs4 hbs
        obtain ⟨j, hj, rfl, hs4, hR, hE, hbel⟩ := hrel
        have hbs := hbel.size
        have kr2 := k2.call hbel
        have d4 := kr2.cell' (i := 4) rfl
        have zdy := bcell hbel hbe ZDY.out
        by_cases hjl : j < DYF
        ·have HR := Lib.hid hR
         have HE := Lib.hid hE
         have HB := Lib.hid hbel
         have HXr := Lib.hid (RpR.next hbel HXA.out)
         have HYr := Lib.hid (RpR.next hbel HXB.out)
         have K1r := Lib.hid (k1.call hbel)
         have K2r := Lib.hid kr2
         have hAT := HOF.out j cc hjl hcl
         have hPl : j * DXF ≤ 4 * 4 := Nat.mul_le_mul (by omega) (by omega)
         obtain ⟨P, hP⟩ : ∃ P, j * DXF = P := ⟨_, rfl⟩
         have HPP := Lib.hid (HSP.out r cc j (OF + P + cc) (by rw [hP]))
         rw [hP] at hAT hPl
         have HPw : Hid (wrap64 ((j : Int) * (DXF : Int)) = (P : Int)) := by
          show _ = _
          rw [show ((j : Int) * (DXF : Int)) = (P : Int) by rw [← hP]; push_cast; rfl]
          exact IntWalk.wrap64_in _ ⟨by omega, by omega⟩
         obtain ⟨AT, hATe⟩ : ∃ z, OF + P + cc = z := ⟨_, rfl⟩
         rw [hATe] at hAT HPP
         obtain ⟨ba, oa, eA, hba, za, hil, _⟩ := MxR.cellF HMY.out hrl hjl
         subst eA
         have hbv := HIY.out r j hrl hjl
         have hQl : r * DYF ≤ 4 * 4 := Nat.mul_le_mul (by omega) (by omega)
         obtain ⟨Q, hQe⟩ : ∃ Q, r * DYF = Q := ⟨_, rfl⟩
         rw [hQe] at za hil hQl
         have HQw : Hid (wrap64 ((r : Int) * (DYF : Int)) = (Q : Int)) := by
          show _ = _
          rw [show ((r : Int) * (DYF : Int)) = (Q : Int) by rw [← hQe]; push_cast; rfl]
          exact IntWalk.wrap64_in _ ⟨by omega, by omega⟩
         obtain ⟨bv, hbve⟩ : ∃ z, arF Y k r j = z := ⟨_, rfl⟩
         rw [hbve] at za hbv HPP
         have ov_r := emod_rng (p := X.p) (x := eqS X Y k r cc AT j) hp2.1
         have HOV := Lib.hid (rowF_getD (V := n) (fun m => eqS X Y k r cc m j % X.p) hAT)
         obtain ⟨ov, hov⟩ : ∃ z, eqS X Y k r cc AT j % X.p = z := ⟨_, rfl⟩
         rw [hov] at ov_r HPP HOV
         have ZA := Lib.hid za
         have hI1 : Hid (I64 (ov + bv)) := by show _ ∧ _; omega
         have hI2 : Hid (I64 ((ov + bv) % X.p)) := by
          have := emod_rng (p := X.p) (x := ov + bv) hp2.1
          show _ ∧ _; omega
         clear hR hE hbel hP hQe hbve hov za kr2
         go_wp2
         clear d4 zdy
         refine wp_region_net (by kernel_rfl) [.eq (.agg #[.int .i64 X.p, .int .i64 X.q.v, .slice (some ⟨bf, of_, none⟩) X.q.f.length a, .slice (some ⟨bt, ot, none⟩) X.q.t.length c, .slice (some ⟨bd, od, none⟩) X.d.length ea, .slice (some ⟨bx, ox, none⟩) X.m.length ha_]), .eq (.agg #[.int .i64 Y.p, .int .i64 Y.q.v, .slice A2 Y.q.f.length a2, .slice C2 Y.q.t.length c2, .slice (some ⟨be, oe, none⟩) Y.d.length eb, .slice (some ⟨by_, oy, none⟩) Y.m.length hb_]), .eq (.int .i64 nf), .eq (.int .i64 OF), .eq (.int .i64 j), .eq (.pointer (some ⟨w0.heap.size, 4, none⟩)), .eq (.slice (some ⟨bd, od, none⟩) X.d.length ea), .eq (.int .i64 nf), .eq (.pointer (some ⟨bd, od + nf, none⟩)), .eq (.int .i64 DXF), .eq (.int .i64 P), .eq (.int .i64 ((OF : Int) + P)), .eq (.int .i64 cc), .eq (.int .i64 ((OF : Int) + P + cc))] [[], [], [], [0, 1, 2], [], [], [5], [], [5, 6, 7], [5, 6, 7, 8], [4, 5, 6, 7, 8, 9], [0, 1, 2, 3, 4, 5, 6, 7, 8, 9, 10], [], [0, 1, 2, 3, 4, 5, 6, 7, 8, 9, 10, 11, 12], [0, 1, 2, 3, 4, 5, 6, 7, 8, 9, 10, 11, 12, 13]] 14 (by kernel_rfl) ⟨trivial, trivial, trivial, trivial, trivial, trivial, trivial, trivial, trivial, trivial, trivial, trivial, trivial, trivial, trivial⟩ ⟨?_, ?_, ?_, ?_, ?_, ?_, ?_, ?_, ?_, ?_, ?_, ?_, ?_, ?_, trivial⟩ ?_
         ·intro x w hb hk Q' hQ
          clear hk
          simp only [netE] at hQ ⊢
          have z0 := (K1r.out.call hb).cell' (i := 0) rfl
          have z1 := (K1r.out.call hb).cell' (i := 1) rfl
          have z2 := (K1r.out.call hb).cell' (i := 2) rfl
          have z3 := (K1r.out.call hb).cell' (i := 3) rfl
          have z4 := (K1r.out.call hb).cell' (i := 4) rfl
          have z5 := (K1r.out.call hb).cell' (i := 5) rfl
          go_wp2
          exact hQ _ _ (Below.refl _ _) rfl
         ·intro x w hb hk Q' hQ
          clear hk
          simp only [netE] at hQ ⊢
          have z0 := (K2r.out.call hb).cell' (i := 0) rfl
          have z1 := (K2r.out.call hb).cell' (i := 1) rfl
          have z2 := (K2r.out.call hb).cell' (i := 2) rfl
          have z3 := (K2r.out.call hb).cell' (i := 3) rfl
          have z4 := (K2r.out.call hb).cell' (i := 4) rfl
          have z5 := (K2r.out.call hb).cell' (i := 5) rfl
          go_wp2
          exact hQ _ _ (Below.refl _ _) rfl
         ·intro x w hb hk Q' hQ
          clear hk
          simp only [netE] at hQ ⊢
          go_wp2
          exact hQ _ _ (Below.refl _ _) rfl
         ·intro x w hb hk Q' hQ
          have h0 : x.v 0 = .agg #[.int .i64 X.p, .int .i64 X.q.v, .slice (some ⟨bf, of_, none⟩) X.q.f.length a, .slice (some ⟨bt, ot, none⟩) X.q.t.length c, .slice (some ⟨bd, od, none⟩) X.d.length ea, .slice (some ⟨bx, ox, none⟩) X.m.length ha_] := (hk 0 (by decide)).1
          have h1 : x.v 1 = .agg #[.int .i64 Y.p, .int .i64 Y.q.v, .slice A2 Y.q.f.length a2, .slice C2 Y.q.t.length c2, .slice (some ⟨be, oe, none⟩) Y.d.length eb, .slice (some ⟨by_, oy, none⟩) Y.m.length hb_] := (hk 1 (by decide)).1
          have h2 : x.v 2 = .int .i64 nf := (hk 2 (by decide)).1
          clear hk
          simp only [netE] at hQ ⊢
          simp only [h0, h1, h2] at hQ ⊢
          clear h0 h1 h2
          have hA := Lib.hid (RpR.next hb HXr.out)
          have hB := Lib.hid (RpR.next hb HYr.out)
          go_wp2_with fail
          refine (l11At_any _ _ X Y nf _ hA.out hB.out HF.out lf).mono ?_; rintro e w5 ⟨rfl, hb5⟩
          rw [HOFE.out]
          go_wp2
          exact hQ _ _ hb5 rfl
         ·intro x w hb hk Q' hQ
          clear hk
          simp only [netE] at hQ ⊢
          go_wp2
          exact hQ _ _ (Below.refl _ _) rfl
         ·intro x w hb hk Q' hQ
          clear hk
          simp only [netE] at hQ ⊢
          go_wp2
          exact hQ _ _ (Below.refl _ _) rfl
         ·intro x w hb hk Q' hQ
          have h5 : x.v 5 = .pointer (some ⟨w0.heap.size, 4, none⟩) := (hk 5 (by decide)).1
          clear hk
          simp only [netE] at hQ ⊢
          simp only [h5] at hQ ⊢
          clear h5
          have z := (K1r.out.call hb).cell' (i := 4) rfl
          go_wp2
          exact hQ _ _ (Below.refl _ _) rfl
         ·intro x w hb hk Q' hQ
          clear hk
          simp only [netE] at hQ ⊢
          go_wp2
          exact hQ _ _ (Below.refl _ _) rfl
         ·intro x w hb hk Q' hQ
          have h6 : x.v 6 = .slice (some ⟨bd, od, none⟩) X.d.length ea := (hk 6 (by decide)).1
          have h7 : x.v 7 = .int .i64 nf := (hk 7 (by decide)).1
          clear hk
          simp only [netE] at hQ ⊢
          simp only [h6, h7] at hQ ⊢
          clear h6 h7
          go_wp2
          exact hQ _ _ (Below.refl _ _) rfl
         ·intro x w hb hk Q' hQ
          have h8 : x.v 8 = .pointer (some ⟨bd, od + nf, none⟩) := (hk 8 (by decide)).1
          clear hk
          simp only [netE] at hQ ⊢
          simp only [h8] at hQ ⊢
          clear h8
          have z := bcell (HB.out.trans (hb.mono hbs)) hbd ZDX.out
          go_wp2
          exact hQ _ _ (Below.refl _ _) rfl
         ·intro x w hb hk Q' hQ
          have h4 : x.v 4 = .int .i64 j := (hk 4 (by decide)).1
          have h9 : x.v 9 = .int .i64 DXF := (hk 9 (by decide)).1
          clear hk
          simp only [netE] at hQ ⊢
          simp only [h4, h9] at hQ ⊢
          clear h4 h9
          go_wp2
          rw [HPw.out]
          exact hQ _ _ (Below.refl _ _) rfl
         ·intro x w hb hk Q' hQ
          have h3 : x.v 3 = .int .i64 OF := (hk 3 (by decide)).1
          have h10 : x.v 10 = .int .i64 P := (hk 10 (by decide)).1
          clear hk
          simp only [netE] at hQ ⊢
          simp only [h3, h10] at hQ ⊢
          clear h3 h10
          go_wp2
          exact hQ (.int .i64 ((OF : Int) + P)) _ (Below.refl _ _) rfl
         ·intro x w hb hk Q' hQ
          clear hk
          simp only [netE] at hQ ⊢
          go_wp2
          exact hQ _ _ (Below.refl _ _) rfl
         ·intro x w hb hk Q' hQ
          have h11 : x.v 11 = .int .i64 ((OF : Int) + P) := (hk 11 (by decide)).1
          have h12 : x.v 12 = .int .i64 cc := (hk 12 (by decide)).1
          clear hk
          simp only [netE] at hQ ⊢
          simp only [h11, h12] at hQ ⊢
          clear h11 h12
          go_wp2
          exact hQ (.int .i64 ((OF : Int) + P + cc)) _ (Below.refl _ _) rfl
         ·intro x w hb hk hiv hdj
          have h0 : x.v 0 = .agg #[.int .i64 X.p, .int .i64 X.q.v, .slice (some ⟨bf, of_, none⟩) X.q.f.length a, .slice (some ⟨bt, ot, none⟩) X.q.t.length c, .slice (some ⟨bd, od, none⟩) X.d.length ea, .slice (some ⟨bx, ox, none⟩) X.m.length ha_] := hk 0 (by decide)
          have h1 : x.v 1 = .agg #[.int .i64 Y.p, .int .i64 Y.q.v, .slice A2 Y.q.f.length a2, .slice C2 Y.q.t.length c2, .slice (some ⟨be, oe, none⟩) Y.d.length eb, .slice (some ⟨by_, oy, none⟩) Y.m.length hb_] := hk 1 (by decide)
          have h2 : x.v 2 = .int .i64 nf := hk 2 (by decide)
          have h3 : x.v 3 = .int .i64 OF := hk 3 (by decide)
          have h4 : x.v 4 = .int .i64 j := hk 4 (by decide)
          have h5 : x.v 5 = .pointer (some ⟨w0.heap.size, 4, none⟩) := hk 5 (by decide)
          have h6 : x.v 6 = .slice (some ⟨bd, od, none⟩) X.d.length ea := hk 6 (by decide)
          have h7 : x.v 7 = .int .i64 nf := hk 7 (by decide)
          have h8 : x.v 8 = .pointer (some ⟨bd, od + nf, none⟩) := hk 8 (by decide)
          have h9 : x.v 9 = .int .i64 DXF := hk 9 (by decide)
          have h10 : x.v 10 = .int .i64 P := hk 10 (by decide)
          have h11 : x.v 11 = .int .i64 ((OF : Int) + P) := hk 11 (by decide)
          have h12 : x.v 12 = .int .i64 cc := hk 12 (by decide)
          have h13 : x.v 13 = .int .i64 ((OF : Int) + P + cc) := hk 13 (by decide)
          clear hk
          simp only [netE]
          simp only [List.drop_succ_cons, List.drop_zero, h0, h1, h2, h3, h4, h5, h6, h7, h8, h9, h10, h11, h12, h13]
          clear h0 h1 h2 h3 h4 h5 h6 h7 h8 h9 h10 h11 h12 h13
          have HBa := Lib.hid (HB.out.trans (hb.mono hbs))
          have HRa := Lib.hid (HR.out.below hb)
          have HEa := Lib.hid (HE.out.call hb)
          have K1a := Lib.hid (K1r.out.call hb)
          have K2a := Lib.hid (K2r.out.call hb)
          have hsa := hb.size
          have hbsa : W.heap.size ≤ w.heap.size := by omega
          have hs4a : G + 1 ≤ w.heap.size := by omega
          obtain ⟨wa, hwa⟩ : ∃ z, z = w := ⟨_, rfl⟩
          subst hwa
          have eAT : (OF : Int) + (P : Int) + (cc : Int) = (AT : Int) := by omega
          clear hiv hdj hb HR HE HB K1r K2r HXr HYr
          rw [eAT]
          clear eAT
          go_wp2
          refine wp_region_net (by kernel_rfl) [.eq (.slice (some ⟨G, 0, none⟩) n n), .eq (.int .i64 AT), .eq (.pointer (some ⟨w0.heap.size, 0, none⟩)), .eq (.int .i64 X.p), .eq (.slice (some ⟨G, 0, none⟩) n n), .eq (.int .i64 AT), .eq (.pointer (some ⟨G, AT, none⟩)), .eq (.int .i64 ov), .eq (.pointer (some ⟨w0.heap.size + 1, 5, none⟩)), .eq (.slice (some ⟨by_, oy, none⟩) Y.m.length hb_), .eq (.int .i64 k), .eq (.pointer (some ⟨by_, oy + k * 3, none⟩)), .eq (.pointer (some ⟨by_, oy + k * 3 + 2, none⟩)), .eq (.slice (some ⟨ba, oa, none⟩) LY cy), .eq (.int .i64 r), .eq (.pointer (some ⟨w0.heap.size + 1, 4, none⟩)), .eq (.slice (some ⟨be, oe, none⟩) Y.d.length eb), .eq (.int .i64 nf), .eq (.pointer (some ⟨be, oe + nf, none⟩)), .eq (.int .i64 DYF), .eq (.int .i64 Q), .eq (.int .i64 j), .eq (.int .i64 ((Q : Int) + j)), .eq (.pointer (some ⟨ba, oa + (Q + j), none⟩)), .eq (.int .i64 bv), .eq (.int .i64 (ov + bv)), .eq (.int .i64 ((ov + bv) % X.p)), .eq (.pointer (some ⟨G, AT, none⟩))] [[], [], [], [2], [], [], [4, 5], [4, 5, 6], [], [8], [], [8, 9, 10], [8, 9, 10, 11], [8, 9, 10, 11, 12], [], [], [15], [], [15, 16, 17], [15, 16, 17, 18], [14, 15, 16, 17, 18, 19], [], [14, 15, 16, 17, 18, 19, 20, 21], [8, 9, 10, 11, 12, 13, 14, 15, 16, 17, 18, 19, 20, 21, 22], [8, 9, 10, 11, 12, 13, 14, 15, 16, 17, 18, 19, 20, 21, 22, 23], [4, 5, 6, 7, 8, 9, 10, 11, 12, 13, 14, 15, 16, 17, 18, 19, 20, 21, 22, 23, 24], [2, 3, 4, 5, 6, 7, 8, 9, 10, 11, 12, 13, 14, 15, 16, 17, 18, 19, 20, 21, 22, 23, 24, 25], [0, 1, 2, 3, 4, 5, 6, 7, 8, 9, 10, 11, 12, 13, 14, 15, 16, 17, 18, 19, 20, 21, 22, 23, 24, 25, 26], [0, 1, 2, 3, 4, 5, 6, 7, 8, 9, 10, 11, 12, 13, 14, 15, 16, 17, 18, 19, 20, 21, 22, 23, 24, 25, 26, 27]] 28 (by kernel_rfl) ⟨trivial, trivial, trivial, trivial, trivial, trivial, trivial, trivial, trivial, trivial, trivial, trivial, trivial, trivial, trivial, trivial, trivial, trivial, trivial, trivial, trivial, trivial, trivial, trivial, trivial, trivial, trivial, trivial, trivial⟩ ⟨?_, ?_, ?_, ?_, ?_, ?_, ?_, ?_, ?_, ?_, ?_, ?_, ?_, ?_, ?_, ?_, ?_, ?_, ?_, ?_, ?_, ?_, ?_, ?_, ?_, ?_, ?_, ?_, trivial⟩ ?_
          ·intro x w hb hk Q' hQ
           clear hk
           simp only [netE] at hQ ⊢
           go_wp2
           exact hQ _ _ (Below.refl _ _) rfl
          ·intro x w hb hk Q' hQ
           clear hk
           simp only [netE] at hQ ⊢
           go_wp2
           exact hQ _ _ (Below.refl _ _) rfl
          ·intro x w hb hk Q' hQ
           clear hk
           simp only [netE] at hQ ⊢
           go_wp2
           exact hQ _ _ (Below.refl _ _) rfl
          ·intro x w hb hk Q' hQ
           have h2 : x.v 2 = .pointer (some ⟨w0.heap.size, 0, none⟩) := (hk 2 (by decide)).1
           clear hk
           simp only [netE] at hQ ⊢
           simp only [h2] at hQ ⊢
           clear h2
           have z := (K1a.out.call hb).cell' (i := 0) rfl
           go_wp2
           exact hQ _ _ (Below.refl _ _) rfl
          ·intro x w hb hk Q' hQ
           clear hk
           simp only [netE] at hQ ⊢
           go_wp2
           exact hQ _ _ (Below.refl _ _) rfl
          ·intro x w hb hk Q' hQ
           clear hk
           simp only [netE] at hQ ⊢
           go_wp2
           exact hQ _ _ (Below.refl _ _) rfl
          ·intro x w hb hk Q' hQ
           have h4 : x.v 4 = .slice (some ⟨G, 0, none⟩) n n := (hk 4 (by decide)).1
           have h5 : x.v 5 = .int .i64 AT := (hk 5 (by decide)).1
           clear hk
           simp only [netE] at hQ ⊢
           simp only [h4, h5] at hQ ⊢
           clear h4 h5
           go_wp2
           exact hQ _ _ (Below.refl _ _) rfl
          ·intro x w hb hk Q' hQ
           have h6 : x.v 6 = .pointer (some ⟨G, AT, none⟩) := (hk 6 (by decide)).1
           clear hk
           simp only [netE] at hQ ⊢
           simp only [h6] at hQ ⊢
           clear h6
           have z := ((HRa.out.below hb).1.cellG (j := AT) (by rw [rowF_length]; exact hAT)).1
           rw [HOV.out] at z
           go_wp2
           exact hQ _ _ (Below.refl _ _) rfl
          ·intro x w hb hk Q' hQ
           clear hk
           simp only [netE] at hQ ⊢
           go_wp2
           exact hQ _ _ (Below.refl _ _) rfl
          ·intro x w hb hk Q' hQ
           have h8 : x.v 8 = .pointer (some ⟨w0.heap.size + 1, 5, none⟩) := (hk 8 (by decide)).1
           clear hk
           simp only [netE] at hQ ⊢
           simp only [h8] at hQ ⊢
           clear h8
           have z := (K2a.out.call hb).cell' (i := 5) rfl
           go_wp2
           exact hQ _ _ (Below.refl _ _) rfl
          ·intro x w hb hk Q' hQ
           clear hk
           simp only [netE] at hQ ⊢
           go_wp2
           exact hQ _ _ (Below.refl _ _) rfl
          ·intro x w hb hk Q' hQ
           have h9 : x.v 9 = .slice (some ⟨by_, oy, none⟩) Y.m.length hb_ := (hk 9 (by decide)).1
           have h10 : x.v 10 = .int .i64 k := (hk 10 (by decide)).1
           clear hk
           simp only [netE] at hQ ⊢
           simp only [h9, h10] at hQ ⊢
           clear h9 h10
           go_wp2
           exact hQ _ _ (Below.refl _ _) rfl
          ·intro x w hb hk Q' hQ
           have h11 : x.v 11 = .pointer (some ⟨by_, oy + k * 3, none⟩) := (hk 11 (by decide)).1
           clear hk
           simp only [netE] at hQ ⊢
           simp only [h11] at hQ ⊢
           clear h11
           go_wp2
           exact hQ _ _ (Below.refl _ _) rfl
          ·intro x w hb hk Q' hQ
           have h12 : x.v 12 = .pointer (some ⟨by_, oy + k * 3 + 2, none⟩) := (hk 12 (by decide)).1
           clear hk
           simp only [netE] at hQ ⊢
           simp only [h12] at hQ ⊢
           clear h12
           have z := bcell (HBa.out.trans (hb.mono hbsa)) hby ZMY.out
           go_wp2
           exact hQ _ _ (Below.refl _ _) rfl
          ·intro x w hb hk Q' hQ
           clear hk
           simp only [netE] at hQ ⊢
           go_wp2
           exact hQ _ _ (Below.refl _ _) rfl
          ·intro x w hb hk Q' hQ
           clear hk
           simp only [netE] at hQ ⊢
           go_wp2
           exact hQ _ _ (Below.refl _ _) rfl
          ·intro x w hb hk Q' hQ
           have h15 : x.v 15 = .pointer (some ⟨w0.heap.size + 1, 4, none⟩) := (hk 15 (by decide)).1
           clear hk
           simp only [netE] at hQ ⊢
           simp only [h15] at hQ ⊢
           clear h15
           have z := (K2a.out.call hb).cell' (i := 4) rfl
           go_wp2
           exact hQ _ _ (Below.refl _ _) rfl
          ·intro x w hb hk Q' hQ
           clear hk
           simp only [netE] at hQ ⊢
           go_wp2
           exact hQ _ _ (Below.refl _ _) rfl
          ·intro x w hb hk Q' hQ
           have h16 : x.v 16 = .slice (some ⟨be, oe, none⟩) Y.d.length eb := (hk 16 (by decide)).1
           have h17 : x.v 17 = .int .i64 nf := (hk 17 (by decide)).1
           clear hk
           simp only [netE] at hQ ⊢
           simp only [h16, h17] at hQ ⊢
           clear h16 h17
           go_wp2
           exact hQ _ _ (Below.refl _ _) rfl
          ·intro x w hb hk Q' hQ
           have h18 : x.v 18 = .pointer (some ⟨be, oe + nf, none⟩) := (hk 18 (by decide)).1
           clear hk
           simp only [netE] at hQ ⊢
           simp only [h18] at hQ ⊢
           clear h18
           have z := bcell (HBa.out.trans (hb.mono hbsa)) hbe ZDY.out
           go_wp2
           exact hQ _ _ (Below.refl _ _) rfl
          ·intro x w hb hk Q' hQ
           have h14 : x.v 14 = .int .i64 r := (hk 14 (by decide)).1
           have h19 : x.v 19 = .int .i64 DYF := (hk 19 (by decide)).1
           clear hk
           simp only [netE] at hQ ⊢
           simp only [h14, h19] at hQ ⊢
           clear h14 h19
           go_wp2
           rw [HQw.out]
           exact hQ _ _ (Below.refl _ _) rfl
          ·intro x w hb hk Q' hQ
           clear hk
           simp only [netE] at hQ ⊢
           go_wp2
           exact hQ _ _ (Below.refl _ _) rfl
          ·intro x w hb hk Q' hQ
           have h20 : x.v 20 = .int .i64 Q := (hk 20 (by decide)).1
           have h21 : x.v 21 = .int .i64 j := (hk 21 (by decide)).1
           clear hk
           simp only [netE] at hQ ⊢
           simp only [h20, h21] at hQ ⊢
           clear h20 h21
           go_wp2
           exact hQ (.int .i64 ((Q : Int) + j)) _ (Below.refl _ _) rfl
          ·intro x w hb hk Q' hQ
           have h13 : x.v 13 = .slice (some ⟨ba, oa, none⟩) LY cy := (hk 13 (by decide)).1
           have h22 : x.v 22 = .int .i64 ((Q : Int) + j) := (hk 22 (by decide)).1
           clear hk
           simp only [netE] at hQ ⊢
           simp only [h13, h22] at hQ ⊢
           clear h13 h22
           go_wp2
           exact hQ (.pointer (some ⟨ba, oa + (Q + j), none⟩)) _ (Below.refl _ _) rfl
          ·intro x w hb hk Q' hQ
           have h23 : x.v 23 = .pointer (some ⟨ba, oa + (Q + j), none⟩) := (hk 23 (by decide)).1
           clear hk
           simp only [netE] at hQ ⊢
           simp only [h23] at hQ ⊢
           clear h23
           have z := bcell (HBa.out.trans (hb.mono hbsa)) hba ZA.out
           go_wp2
           exact hQ _ _ (Below.refl _ _) rfl
          ·intro x w hb hk Q' hQ
           have h7 : x.v 7 = .int .i64 ov := (hk 7 (by decide)).1
           have h24 : x.v 24 = .int .i64 bv := (hk 24 (by decide)).1
           clear hk
           simp only [netE] at hQ ⊢
           simp only [h7, h24] at hQ ⊢
           clear h7 h24
           go_wp2
           exact hQ _ _ (Below.refl _ _) rfl
          ·intro x w hb hk Q' hQ
           have h3 : x.v 3 = .int .i64 X.p := (hk 3 (by decide)).1
           have h25 : x.v 25 = .int .i64 (ov + bv) := (hk 25 (by decide)).1
           clear hk
           simp only [netE] at hQ ⊢
           simp only [h3, h25] at hQ ⊢
           clear h3 h25
           go_wp2_with fail
           refine (l2Mod_any X.p (ov + bv) _ hp2 hI1.out).mono ?_; rintro e w5 ⟨rfl, hww⟩; replace hww := hww.symm; subst hww
           go_wp2
           exact hQ (.int .i64 ((ov + bv) % X.p)) _ (Below.refl _ _) rfl
          ·intro x w hb hk Q' hQ
           have h0 : x.v 0 = .slice (some ⟨G, 0, none⟩) n n := (hk 0 (by decide)).1
           have h1 : x.v 1 = .int .i64 AT := (hk 1 (by decide)).1
           clear hk
           simp only [netE] at hQ ⊢
           simp only [h0, h1] at hQ ⊢
           clear h0 h1
           go_wp2
           exact hQ _ _ (Below.refl _ _) rfl
          ·intro x w hb hk hiv hdj
           have h0 : x.v 0 = .slice (some ⟨G, 0, none⟩) n n := hk 0 (by decide)
           have h1 : x.v 1 = .int .i64 AT := hk 1 (by decide)
           have h2 : x.v 2 = .pointer (some ⟨w0.heap.size, 0, none⟩) := hk 2 (by decide)
           have h3 : x.v 3 = .int .i64 X.p := hk 3 (by decide)
           have h4 : x.v 4 = .slice (some ⟨G, 0, none⟩) n n := hk 4 (by decide)
           have h5 : x.v 5 = .int .i64 AT := hk 5 (by decide)
           have h6 : x.v 6 = .pointer (some ⟨G, AT, none⟩) := hk 6 (by decide)
           have h7 : x.v 7 = .int .i64 ov := hk 7 (by decide)
           have h8 : x.v 8 = .pointer (some ⟨w0.heap.size + 1, 5, none⟩) := hk 8 (by decide)
           have h9 : x.v 9 = .slice (some ⟨by_, oy, none⟩) Y.m.length hb_ := hk 9 (by decide)
           have h10 : x.v 10 = .int .i64 k := hk 10 (by decide)
           have h11 : x.v 11 = .pointer (some ⟨by_, oy + k * 3, none⟩) := hk 11 (by decide)
           have h12 : x.v 12 = .pointer (some ⟨by_, oy + k * 3 + 2, none⟩) := hk 12 (by decide)
           have h13 : x.v 13 = .slice (some ⟨ba, oa, none⟩) LY cy := hk 13 (by decide)
           have h14 : x.v 14 = .int .i64 r := hk 14 (by decide)
           have h15 : x.v 15 = .pointer (some ⟨w0.heap.size + 1, 4, none⟩) := hk 15 (by decide)
           have h16 : x.v 16 = .slice (some ⟨be, oe, none⟩) Y.d.length eb := hk 16 (by decide)
           have h17 : x.v 17 = .int .i64 nf := hk 17 (by decide)
           have h18 : x.v 18 = .pointer (some ⟨be, oe + nf, none⟩) := hk 18 (by decide)
           have h19 : x.v 19 = .int .i64 DYF := hk 19 (by decide)
           have h20 : x.v 20 = .int .i64 Q := hk 20 (by decide)
           have h21 : x.v 21 = .int .i64 j := hk 21 (by decide)
           have h22 : x.v 22 = .int .i64 ((Q : Int) + j) := hk 22 (by decide)
           have h23 : x.v 23 = .pointer (some ⟨ba, oa + (Q + j), none⟩) := hk 23 (by decide)
           have h24 : x.v 24 = .int .i64 bv := hk 24 (by decide)
           have h25 : x.v 25 = .int .i64 (ov + bv) := hk 25 (by decide)
           have h26 : x.v 26 = .int .i64 ((ov + bv) % X.p) := hk 26 (by decide)
           have h27 : x.v 27 = .pointer (some ⟨G, AT, none⟩) := hk 27 (by decide)
           clear hk
           simp only [netE]
           simp only [List.drop_succ_cons, List.drop_zero, h0, h1, h2, h3, h4, h5, h6, h7, h8, h9, h10, h11, h12, h13, h14, h15, h16, h17, h18, h19, h20, h21, h22, h23, h24, h25, h26, h27]
           clear h0 h1 h2 h3 h4 h5 h6 h7 h8 h9 h10 h11 h12 h13 h14 h15 h16 h17 h18 h19 h20 h21 h22 h23 h24 h25 h26 h27
           have hR6 := HRa.out.below hb
           have cX := (hR6.1.cellG (j := AT) (by rw [rowF_length]; exact hAT)).1
           have fX := hR6.1.frozenG AT
           have rY := hR6.put (j := AT) (x := (ov + bv) % X.p) hI2.out
           rw [HPP.out] at rY
           have RY := Lib.hid rY
           obtain ⟨Z, hZ⟩ : ∃ u, w.setCell ⟨G, AT, none⟩ (.int .i64 ((ov + bv) % X.p)) = u := ⟨_, rfl⟩
           have hcY : Chg G (G + 1) w Z := by rw [← hZ]; exact chg_set (Nat.le_refl _) (Nat.lt_succ_self _)
           have s6 := hb.size
           have sY := hcY.size
           rw [hZ] at RY
           have BY := Lib.hid ((HBa.out.trans (hb.mono hbsa)).trans (hcY.below hGW (by omega)))
           have EY := Lib.hid ((HEa.out.call hb).chg hcY (Nat.le_refl _) hgG)
           clear rY hcY hR6 hiv hdj hb
           go_wp2
           clear hZ cX fX
           go_roundw
           case rel => exact ⟨j + 1, by omega, by go_num, by omega, RY.out, EY.out, BY.out⟩
           case measure => simp [intOf]; omega
        ·obtain rfl : j = DYF := by omega
         rw [rowT_0] at hR
         have HR := Lib.hid hR
         have HE := Lib.hid hE
         have HB := Lib.hid hbel
         clear hR hE hbel kr2
         go_wp2
         clear d4 zdy
         go_loopw [15] (fun i wr => ∃ t : Nat, t ≤ DXT ∧ i = .int .i64 t ∧ G + 1 ≤ wr.heap.size ∧ IntsO wr G (G + 1) (.slice (some ⟨G, 0, none⟩) n n) (rowF n (fun m => (eqS X Y k r cc m j - eqT X Y k r cc m t) % X.p)) ∧ EqS gm W.heap.size G n wr (eqL X Y n k ++ eqRk X Y n k (r * DXF + cc)) ∧ Below W.heap.size W wr) (fun i _ => DXT - (intOf i).toNat)
         case atStart => exact ⟨0, Nat.zero_le _, rfl, hs4, HR.out, HE.out, HB.out⟩
         case round =>
          as_aux_lemma =>
          clear HR HE HB hs4 hbs
          obtain ⟨t, ht, rfl, hs4, hR, hE, hbel⟩ := hrel
          have hbs := hbel.size
          have kr1 := k1.call hbel
          have c4 := kr1.cell' (i := 4) rfl
          have ztx := bcell hbel hbd ZTX.out
          by_cases htl : t < DXT
          ·have HR := Lib.hid hR
           have HE := Lib.hid hE
           have HB := Lib.hid hbel
           have HXr := Lib.hid (RpR.next hbel HXA.out)
           have HYr := Lib.hid (RpR.next hbel HXB.out)
           have K1r := Lib.hid kr1
           have K2r := Lib.hid (k2.call hbel)
           have hAT := HOT.out r t hrl htl
           have hPl : r * DXT ≤ 4 * 4 := Nat.mul_le_mul (by omega) (by omega)
           obtain ⟨P, hP⟩ : ∃ P, r * DXT = P := ⟨_, rfl⟩
           have HPP := Lib.hid (HTP.out r cc t (OT + P + t) j (by rw [hP]))
           rw [hP] at hAT hPl
           have HPw : Hid (wrap64 ((r : Int) * (DXT : Int)) = (P : Int)) := by
            show _ = _
            rw [show ((r : Int) * (DXT : Int)) = (P : Int) by rw [← hP]; push_cast; rfl]
            exact IntWalk.wrap64_in _ ⟨by omega, by omega⟩
           obtain ⟨AT, hATe⟩ : ∃ z, OT + P + t = z := ⟨_, rfl⟩
           rw [hATe] at hAT HPP
           obtain ⟨ba, oa, eA, hba, za, hil, _⟩ := MxR.cellF HMX.out htl hcl
           subst eA
           have hbv := HIX.out t cc htl hcl
           have hQl : t * DXF ≤ 4 * 4 := Nat.mul_le_mul (by omega) (by omega)
           obtain ⟨Q, hQe⟩ : ∃ Q, t * DXF = Q := ⟨_, rfl⟩
           rw [hQe] at za hil hQl
           have HQw : Hid (wrap64 ((t : Int) * (DXF : Int)) = (Q : Int)) := by
            show _ = _
            rw [show ((t : Int) * (DXF : Int)) = (Q : Int) by rw [← hQe]; push_cast; rfl]
            exact IntWalk.wrap64_in _ ⟨by omega, by omega⟩
           obtain ⟨bv, hbve⟩ : ∃ z, arF X k t cc = z := ⟨_, rfl⟩
           rw [hbve] at za hbv HPP
           have ov_r := emod_rng (p := X.p) (x := eqS X Y k r cc AT j - eqT X Y k r cc AT t) hp2.1
           have HOV := Lib.hid (rowF_getD (V := n) (fun m => (eqS X Y k r cc m j - eqT X Y k r cc m t) % X.p) hAT)
           obtain ⟨ov, hov⟩ : ∃ z, (eqS X Y k r cc AT j - eqT X Y k r cc AT t) % X.p = z := ⟨_, rfl⟩
           rw [hov] at ov_r HPP HOV
           have ZA := Lib.hid za
           have hI1 : Hid (I64 (ov - bv)) := by show _ ∧ _; omega
           have hI2 : Hid (I64 ((ov - bv) % X.p)) := by
            have := emod_rng (p := X.p) (x := ov - bv) hp2.1
            show _ ∧ _; omega
           clear hR hE hbel hP hQe hbve hov za kr1
           go_wp2
           clear c4 ztx
           refine wp_region_net (by kernel_rfl) [.eq (.agg #[.int .i64 X.p, .int .i64 X.q.v, .slice (some ⟨bf, of_, none⟩) X.q.f.length a, .slice (some ⟨bt, ot, none⟩) X.q.t.length c, .slice (some ⟨bd, od, none⟩) X.d.length ea, .slice (some ⟨bx, ox, none⟩) X.m.length ha_]), .eq (.agg #[.int .i64 Y.p, .int .i64 Y.q.v, .slice A2 Y.q.f.length a2, .slice C2 Y.q.t.length c2, .slice (some ⟨be, oe, none⟩) Y.d.length eb, .slice (some ⟨by_, oy, none⟩) Y.m.length hb_]), .eq (.int .i64 nt), .eq (.int .i64 OT), .eq (.int .i64 r), .eq (.pointer (some ⟨w0.heap.size, 4, none⟩)), .eq (.slice (some ⟨bd, od, none⟩) X.d.length ea), .eq (.int .i64 nt), .eq (.pointer (some ⟨bd, od + nt, none⟩)), .eq (.int .i64 DXT), .eq (.int .i64 P), .eq (.int .i64 ((OT : Int) + P)), .eq (.int .i64 t), .eq (.int .i64 ((OT : Int) + P + t))] [[], [], [], [0, 1, 2], [], [], [5], [], [5, 6, 7], [5, 6, 7, 8], [4, 5, 6, 7, 8, 9], [0, 1, 2, 3, 4, 5, 6, 7, 8, 9, 10], [], [0, 1, 2, 3, 4, 5, 6, 7, 8, 9, 10, 11, 12], [0, 1, 2, 3, 4, 5, 6, 7, 8, 9, 10, 11, 12, 13]] 14 (by kernel_rfl) ⟨trivial, trivial, trivial, trivial, trivial, trivial, trivial, trivial, trivial, trivial, trivial, trivial, trivial, trivial, trivial⟩ ⟨?_, ?_, ?_, ?_, ?_, ?_, ?_, ?_, ?_, ?_, ?_, ?_, ?_, ?_, trivial⟩ ?_
           ·intro x w hb hk Q' hQ
            clear hk
            simp only [netE] at hQ ⊢
            have z0 := (K1r.out.call hb).cell' (i := 0) rfl
            have z1 := (K1r.out.call hb).cell' (i := 1) rfl
            have z2 := (K1r.out.call hb).cell' (i := 2) rfl
            have z3 := (K1r.out.call hb).cell' (i := 3) rfl
            have z4 := (K1r.out.call hb).cell' (i := 4) rfl
            have z5 := (K1r.out.call hb).cell' (i := 5) rfl
            go_wp2
            exact hQ _ _ (Below.refl _ _) rfl
           ·intro x w hb hk Q' hQ
            clear hk
            simp only [netE] at hQ ⊢
            have z0 := (K2r.out.call hb).cell' (i := 0) rfl
            have z1 := (K2r.out.call hb).cell' (i := 1) rfl
            have z2 := (K2r.out.call hb).cell' (i := 2) rfl
            have z3 := (K2r.out.call hb).cell' (i := 3) rfl
            have z4 := (K2r.out.call hb).cell' (i := 4) rfl
            have z5 := (K2r.out.call hb).cell' (i := 5) rfl
            go_wp2
            exact hQ _ _ (Below.refl _ _) rfl
           ·intro x w hb hk Q' hQ
            clear hk
            simp only [netE] at hQ ⊢
            go_wp2
            exact hQ _ _ (Below.refl _ _) rfl
           ·intro x w hb hk Q' hQ
            have h0 : x.v 0 = .agg #[.int .i64 X.p, .int .i64 X.q.v, .slice (some ⟨bf, of_, none⟩) X.q.f.length a, .slice (some ⟨bt, ot, none⟩) X.q.t.length c, .slice (some ⟨bd, od, none⟩) X.d.length ea, .slice (some ⟨bx, ox, none⟩) X.m.length ha_] := (hk 0 (by decide)).1
            have h1 : x.v 1 = .agg #[.int .i64 Y.p, .int .i64 Y.q.v, .slice A2 Y.q.f.length a2, .slice C2 Y.q.t.length c2, .slice (some ⟨be, oe, none⟩) Y.d.length eb, .slice (some ⟨by_, oy, none⟩) Y.m.length hb_] := (hk 1 (by decide)).1
            have h2 : x.v 2 = .int .i64 nt := (hk 2 (by decide)).1
            clear hk
            simp only [netE] at hQ ⊢
            simp only [h0, h1, h2] at hQ ⊢
            clear h0 h1 h2
            have hA := Lib.hid (RpR.next hb HXr.out)
            have hB := Lib.hid (RpR.next hb HYr.out)
            go_wp2_with fail
            refine (l11At_any _ _ X Y nt _ hA.out hB.out HF.out lt).mono ?_; rintro e w5 ⟨rfl, hb5⟩
            rw [HOTE.out]
            go_wp2
            exact hQ _ _ hb5 rfl
           ·intro x w hb hk Q' hQ
            clear hk
            simp only [netE] at hQ ⊢
            go_wp2
            exact hQ _ _ (Below.refl _ _) rfl
           ·intro x w hb hk Q' hQ
            clear hk
            simp only [netE] at hQ ⊢
            go_wp2
            exact hQ _ _ (Below.refl _ _) rfl
           ·intro x w hb hk Q' hQ
            have h5 : x.v 5 = .pointer (some ⟨w0.heap.size, 4, none⟩) := (hk 5 (by decide)).1
            clear hk
            simp only [netE] at hQ ⊢
            simp only [h5] at hQ ⊢
            clear h5
            have z := (K1r.out.call hb).cell' (i := 4) rfl
            go_wp2
            exact hQ _ _ (Below.refl _ _) rfl
           ·intro x w hb hk Q' hQ
            clear hk
            simp only [netE] at hQ ⊢
            go_wp2
            exact hQ _ _ (Below.refl _ _) rfl
           ·intro x w hb hk Q' hQ
            have h6 : x.v 6 = .slice (some ⟨bd, od, none⟩) X.d.length ea := (hk 6 (by decide)).1
            have h7 : x.v 7 = .int .i64 nt := (hk 7 (by decide)).1
            clear hk
            simp only [netE] at hQ ⊢
            simp only [h6, h7] at hQ ⊢
            clear h6 h7
            go_wp2
            exact hQ _ _ (Below.refl _ _) rfl
           ·intro x w hb hk Q' hQ
            have h8 : x.v 8 = .pointer (some ⟨bd, od + nt, none⟩) := (hk 8 (by decide)).1
            clear hk
            simp only [netE] at hQ ⊢
            simp only [h8] at hQ ⊢
            clear h8
            have z := bcell (HB.out.trans (hb.mono hbs)) hbd ZTX.out
            go_wp2
            exact hQ _ _ (Below.refl _ _) rfl
           ·intro x w hb hk Q' hQ
            have h4 : x.v 4 = .int .i64 r := (hk 4 (by decide)).1
            have h9 : x.v 9 = .int .i64 DXT := (hk 9 (by decide)).1
            clear hk
            simp only [netE] at hQ ⊢
            simp only [h4, h9] at hQ ⊢
            clear h4 h9
            go_wp2
            rw [HPw.out]
            exact hQ _ _ (Below.refl _ _) rfl
           ·intro x w hb hk Q' hQ
            have h3 : x.v 3 = .int .i64 OT := (hk 3 (by decide)).1
            have h10 : x.v 10 = .int .i64 P := (hk 10 (by decide)).1
            clear hk
            simp only [netE] at hQ ⊢
            simp only [h3, h10] at hQ ⊢
            clear h3 h10
            go_wp2
            exact hQ (.int .i64 ((OT : Int) + P)) _ (Below.refl _ _) rfl
           ·intro x w hb hk Q' hQ
            clear hk
            simp only [netE] at hQ ⊢
            go_wp2
            exact hQ _ _ (Below.refl _ _) rfl
           ·intro x w hb hk Q' hQ
            have h11 : x.v 11 = .int .i64 ((OT : Int) + P) := (hk 11 (by decide)).1
            have h12 : x.v 12 = .int .i64 t := (hk 12 (by decide)).1
            clear hk
            simp only [netE] at hQ ⊢
            simp only [h11, h12] at hQ ⊢
            clear h11 h12
            go_wp2
            exact hQ (.int .i64 ((OT : Int) + P + t)) _ (Below.refl _ _) rfl
           ·intro x w hb hk hiv hdj
            have h0 : x.v 0 = .agg #[.int .i64 X.p, .int .i64 X.q.v, .slice (some ⟨bf, of_, none⟩) X.q.f.length a, .slice (some ⟨bt, ot, none⟩) X.q.t.length c, .slice (some ⟨bd, od, none⟩) X.d.length ea, .slice (some ⟨bx, ox, none⟩) X.m.length ha_] := hk 0 (by decide)
            have h1 : x.v 1 = .agg #[.int .i64 Y.p, .int .i64 Y.q.v, .slice A2 Y.q.f.length a2, .slice C2 Y.q.t.length c2, .slice (some ⟨be, oe, none⟩) Y.d.length eb, .slice (some ⟨by_, oy, none⟩) Y.m.length hb_] := hk 1 (by decide)
            have h2 : x.v 2 = .int .i64 nt := hk 2 (by decide)
            have h3 : x.v 3 = .int .i64 OT := hk 3 (by decide)
            have h4 : x.v 4 = .int .i64 r := hk 4 (by decide)
            have h5 : x.v 5 = .pointer (some ⟨w0.heap.size, 4, none⟩) := hk 5 (by decide)
            have h6 : x.v 6 = .slice (some ⟨bd, od, none⟩) X.d.length ea := hk 6 (by decide)
            have h7 : x.v 7 = .int .i64 nt := hk 7 (by decide)
            have h8 : x.v 8 = .pointer (some ⟨bd, od + nt, none⟩) := hk 8 (by decide)
            have h9 : x.v 9 = .int .i64 DXT := hk 9 (by decide)
            have h10 : x.v 10 = .int .i64 P := hk 10 (by decide)
            have h11 : x.v 11 = .int .i64 ((OT : Int) + P) := hk 11 (by decide)
            have h12 : x.v 12 = .int .i64 t := hk 12 (by decide)
            have h13 : x.v 13 = .int .i64 ((OT : Int) + P + t) := hk 13 (by decide)
            clear hk
            simp only [netE]
            simp only [List.drop_succ_cons, List.drop_zero, h0, h1, h2, h3, h4, h5, h6, h7, h8, h9, h10, h11, h12, h13]
            clear h0 h1 h2 h3 h4 h5 h6 h7 h8 h9 h10 h11 h12 h13
            have HBa := Lib.hid (HB.out.trans (hb.mono hbs))
            have HRa := Lib.hid (HR.out.below hb)
            have HEa := Lib.hid (HE.out.call hb)
            have K1a := Lib.hid (K1r.out.call hb)
            have K2a := Lib.hid (K2r.out.call hb)
            have hsa := hb.size
            have hbsa : W.heap.size ≤ w.heap.size := by omega
            have hs4a : G + 1 ≤ w.heap.size := by omega
            obtain ⟨wa, hwa⟩ : ∃ z, z = w := ⟨_, rfl⟩
            subst hwa
            have eAT : (OT : Int) + (P : Int) + (t : Int) = (AT : Int) := by omega
            clear hiv hdj hb HR HE HB K1r K2r HXr HYr
            rw [eAT]
            clear eAT
            go_wp2
            refine wp_region_net (by kernel_rfl) [.eq (.slice (some ⟨G, 0, none⟩) n n), .eq (.int .i64 AT), .eq (.pointer (some ⟨w0.heap.size, 0, none⟩)), .eq (.int .i64 X.p), .eq (.slice (some ⟨G, 0, none⟩) n n), .eq (.int .i64 AT), .eq (.pointer (some ⟨G, AT, none⟩)), .eq (.int .i64 ov), .eq (.pointer (some ⟨w0.heap.size, 5, none⟩)), .eq (.slice (some ⟨bx, ox, none⟩) X.m.length ha_), .eq (.int .i64 k), .eq (.pointer (some ⟨bx, ox + k * 3, none⟩)), .eq (.pointer (some ⟨bx, ox + k * 3 + 2, none⟩)), .eq (.slice (some ⟨ba, oa, none⟩) LX cx), .eq (.int .i64 t), .eq (.pointer (some ⟨w0.heap.size, 4, none⟩)), .eq (.slice (some ⟨bd, od, none⟩) X.d.length ea), .eq (.int .i64 nf), .eq (.pointer (some ⟨bd, od + nf, none⟩)), .eq (.int .i64 DXF), .eq (.int .i64 Q), .eq (.int .i64 cc), .eq (.int .i64 ((Q : Int) + cc)), .eq (.pointer (some ⟨ba, oa + (Q + cc), none⟩)), .eq (.int .i64 bv), .eq (.int .i64 (ov - bv)), .eq (.int .i64 ((ov - bv) % X.p)), .eq (.pointer (some ⟨G, AT, none⟩))] [[], [], [], [2], [], [], [4, 5], [4, 5, 6], [], [8], [], [8, 9, 10], [8, 9, 10, 11], [8, 9, 10, 11, 12], [], [], [15], [], [15, 16, 17], [15, 16, 17, 18], [14, 15, 16, 17, 18, 19], [], [14, 15, 16, 17, 18, 19, 20, 21], [8, 9, 10, 11, 12, 13, 14, 15, 16, 17, 18, 19, 20, 21, 22], [8, 9, 10, 11, 12, 13, 14, 15, 16, 17, 18, 19, 20, 21, 22, 23], [4, 5, 6, 7, 8, 9, 10, 11, 12, 13, 14, 15, 16, 17, 18, 19, 20, 21, 22, 23, 24], [2, 3, 4, 5, 6, 7, 8, 9, 10, 11, 12, 13, 14, 15, 16, 17, 18, 19, 20, 21, 22, 23, 24, 25], [0, 1, 2, 3, 4, 5, 6, 7, 8, 9, 10, 11, 12, 13, 14, 15, 16, 17, 18, 19, 20, 21, 22, 23, 24, 25, 26], [0, 1, 2, 3, 4, 5, 6, 7, 8, 9, 10, 11, 12, 13, 14, 15, 16, 17, 18, 19, 20, 21, 22, 23, 24, 25, 26, 27]] 28 (by kernel_rfl) ⟨trivial, trivial, trivial, trivial, trivial, trivial, trivial, trivial, trivial, trivial, trivial, trivial, trivial, trivial, trivial, trivial, trivial, trivial, trivial, trivial, trivial, trivial, trivial, trivial, trivial, trivial, trivial, trivial, trivial⟩ ⟨?_, ?_, ?_, ?_, ?_, ?_, ?_, ?_, ?_, ?_, ?_, ?_, ?_, ?_, ?_, ?_, ?_, ?_, ?_, ?_, ?_, ?_, ?_, ?_, ?_, ?_, ?_, ?_, trivial⟩ ?_
            ·intro x w hb hk Q' hQ
             clear hk
             simp only [netE] at hQ ⊢
             go_wp2
             exact hQ _ _ (Below.refl _ _) rfl
            ·intro x w hb hk Q' hQ
             clear hk
             simp only [netE] at hQ ⊢
             go_wp2
             exact hQ _ _ (Below.refl _ _) rfl
            ·intro x w hb hk Q' hQ
             clear hk
             simp only [netE] at hQ ⊢
             go_wp2
             exact hQ _ _ (Below.refl _ _) rfl
            ·intro x w hb hk Q' hQ
             have h2 : x.v 2 = .pointer (some ⟨w0.heap.size, 0, none⟩) := (hk 2 (by decide)).1
             clear hk
             simp only [netE] at hQ ⊢
             simp only [h2] at hQ ⊢
             clear h2
             have z := (K1a.out.call hb).cell' (i := 0) rfl
             go_wp2
             exact hQ _ _ (Below.refl _ _) rfl
            ·intro x w hb hk Q' hQ
             clear hk
             simp only [netE] at hQ ⊢
             go_wp2
             exact hQ _ _ (Below.refl _ _) rfl
            ·intro x w hb hk Q' hQ
             clear hk
             simp only [netE] at hQ ⊢
             go_wp2
             exact hQ _ _ (Below.refl _ _) rfl
            ·intro x w hb hk Q' hQ
             have h4 : x.v 4 = .slice (some ⟨G, 0, none⟩) n n := (hk 4 (by decide)).1
             have h5 : x.v 5 = .int .i64 AT := (hk 5 (by decide)).1
             clear hk
             simp only [netE] at hQ ⊢
             simp only [h4, h5] at hQ ⊢
             clear h4 h5
             go_wp2
             exact hQ _ _ (Below.refl _ _) rfl
            ·intro x w hb hk Q' hQ
             have h6 : x.v 6 = .pointer (some ⟨G, AT, none⟩) := (hk 6 (by decide)).1
             clear hk
             simp only [netE] at hQ ⊢
             simp only [h6] at hQ ⊢
             clear h6
             have z := ((HRa.out.below hb).1.cellG (j := AT) (by rw [rowF_length]; exact hAT)).1
             rw [HOV.out] at z
             go_wp2
             exact hQ _ _ (Below.refl _ _) rfl
            ·intro x w hb hk Q' hQ
             clear hk
             simp only [netE] at hQ ⊢
             go_wp2
             exact hQ _ _ (Below.refl _ _) rfl
            ·intro x w hb hk Q' hQ
             have h8 : x.v 8 = .pointer (some ⟨w0.heap.size, 5, none⟩) := (hk 8 (by decide)).1
             clear hk
             simp only [netE] at hQ ⊢
             simp only [h8] at hQ ⊢
             clear h8
             have z := (K1a.out.call hb).cell' (i := 5) rfl
             go_wp2
             exact hQ _ _ (Below.refl _ _) rfl
            ·intro x w hb hk Q' hQ
             clear hk
             simp only [netE] at hQ ⊢
             go_wp2
             exact hQ _ _ (Below.refl _ _) rfl
            ·intro x w hb hk Q' hQ
             have h9 : x.v 9 = .slice (some ⟨bx, ox, none⟩) X.m.length ha_ := (hk 9 (by decide)).1
             have h10 : x.v 10 = .int .i64 k := (hk 10 (by decide)).1
             clear hk
             simp only [netE] at hQ ⊢
             simp only [h9, h10] at hQ ⊢
             clear h9 h10
             go_wp2
             exact hQ _ _ (Below.refl _ _) rfl
            ·intro x w hb hk Q' hQ
             have h11 : x.v 11 = .pointer (some ⟨bx, ox + k * 3, none⟩) := (hk 11 (by decide)).1
             clear hk
             simp only [netE] at hQ ⊢
             simp only [h11] at hQ ⊢
             clear h11
             go_wp2
             exact hQ _ _ (Below.refl _ _) rfl
            ·intro x w hb hk Q' hQ
             have h12 : x.v 12 = .pointer (some ⟨bx, ox + k * 3 + 2, none⟩) := (hk 12 (by decide)).1
             clear hk
             simp only [netE] at hQ ⊢
             simp only [h12] at hQ ⊢
             clear h12
             have z := bcell (HBa.out.trans (hb.mono hbsa)) hbx ZMX.out
             go_wp2
             exact hQ _ _ (Below.refl _ _) rfl
            ·intro x w hb hk Q' hQ
             clear hk
             simp only [netE] at hQ ⊢
             go_wp2
             exact hQ _ _ (Below.refl _ _) rfl
            ·intro x w hb hk Q' hQ
             clear hk
             simp only [netE] at hQ ⊢
             go_wp2
             exact hQ _ _ (Below.refl _ _) rfl
            ·intro x w hb hk Q' hQ
             have h15 : x.v 15 = .pointer (some ⟨w0.heap.size, 4, none⟩) := (hk 15 (by decide)).1
             clear hk
             simp only [netE] at hQ ⊢
             simp only [h15] at hQ ⊢
             clear h15
             have z := (K1a.out.call hb).cell' (i := 4) rfl
             go_wp2
             exact hQ _ _ (Below.refl _ _) rfl
            ·intro x w hb hk Q' hQ
             clear hk
             simp only [netE] at hQ ⊢
             go_wp2
             exact hQ _ _ (Below.refl _ _) rfl
            ·intro x w hb hk Q' hQ
             have h16 : x.v 16 = .slice (some ⟨bd, od, none⟩) X.d.length ea := (hk 16 (by decide)).1
             have h17 : x.v 17 = .int .i64 nf := (hk 17 (by decide)).1
             clear hk
             simp only [netE] at hQ ⊢
             simp only [h16, h17] at hQ ⊢
             clear h16 h17
             go_wp2
             exact hQ _ _ (Below.refl _ _) rfl
            ·intro x w hb hk Q' hQ
             have h18 : x.v 18 = .pointer (some ⟨bd, od + nf, none⟩) := (hk 18 (by decide)).1
             clear hk
             simp only [netE] at hQ ⊢
             simp only [h18] at hQ ⊢
             clear h18
             have z := bcell (HBa.out.trans (hb.mono hbsa)) hbd ZDX.out
             go_wp2
             exact hQ _ _ (Below.refl _ _) rfl
            ·intro x w hb hk Q' hQ
             have h14 : x.v 14 = .int .i64 t := (hk 14 (by decide)).1
             have h19 : x.v 19 = .int .i64 DXF := (hk 19 (by decide)).1
             clear hk
             simp only [netE] at hQ ⊢
             simp only [h14, h19] at hQ ⊢
             clear h14 h19
             go_wp2
             rw [HQw.out]
             exact hQ _ _ (Below.refl _ _) rfl
            ·intro x w hb hk Q' hQ
             clear hk
             simp only [netE] at hQ ⊢
             go_wp2
             exact hQ _ _ (Below.refl _ _) rfl
            ·intro x w hb hk Q' hQ
             have h20 : x.v 20 = .int .i64 Q := (hk 20 (by decide)).1
             have h21 : x.v 21 = .int .i64 cc := (hk 21 (by decide)).1
             clear hk
             simp only [netE] at hQ ⊢
             simp only [h20, h21] at hQ ⊢
             clear h20 h21
             go_wp2
             exact hQ (.int .i64 ((Q : Int) + cc)) _ (Below.refl _ _) rfl
            ·intro x w hb hk Q' hQ
             have h13 : x.v 13 = .slice (some ⟨ba, oa, none⟩) LX cx := (hk 13 (by decide)).1
             have h22 : x.v 22 = .int .i64 ((Q : Int) + cc) := (hk 22 (by decide)).1
             clear hk
             simp only [netE] at hQ ⊢
             simp only [h13, h22] at hQ ⊢
             clear h13 h22
             go_wp2
             exact hQ (.pointer (some ⟨ba, oa + (Q + cc), none⟩)) _ (Below.refl _ _) rfl
            ·intro x w hb hk Q' hQ
             have h23 : x.v 23 = .pointer (some ⟨ba, oa + (Q + cc), none⟩) := (hk 23 (by decide)).1
             clear hk
             simp only [netE] at hQ ⊢
             simp only [h23] at hQ ⊢
             clear h23
             have z := bcell (HBa.out.trans (hb.mono hbsa)) hba ZA.out
             go_wp2
             exact hQ _ _ (Below.refl _ _) rfl
            ·intro x w hb hk Q' hQ
             have h7 : x.v 7 = .int .i64 ov := (hk 7 (by decide)).1
             have h24 : x.v 24 = .int .i64 bv := (hk 24 (by decide)).1
             clear hk
             simp only [netE] at hQ ⊢
             simp only [h7, h24] at hQ ⊢
             clear h7 h24
             go_wp2
             exact hQ _ _ (Below.refl _ _) rfl
            ·intro x w hb hk Q' hQ
             have h3 : x.v 3 = .int .i64 X.p := (hk 3 (by decide)).1
             have h25 : x.v 25 = .int .i64 (ov - bv) := (hk 25 (by decide)).1
             clear hk
             simp only [netE] at hQ ⊢
             simp only [h3, h25] at hQ ⊢
             clear h3 h25
             go_wp2_with fail
             refine (l2Mod_any X.p (ov - bv) _ hp2 hI1.out).mono ?_; rintro e w5 ⟨rfl, hww⟩; replace hww := hww.symm; subst hww
             go_wp2
             exact hQ (.int .i64 ((ov - bv) % X.p)) _ (Below.refl _ _) rfl
            ·intro x w hb hk Q' hQ
             have h0 : x.v 0 = .slice (some ⟨G, 0, none⟩) n n := (hk 0 (by decide)).1
             have h1 : x.v 1 = .int .i64 AT := (hk 1 (by decide)).1
             clear hk
             simp only [netE] at hQ ⊢
             simp only [h0, h1] at hQ ⊢
             clear h0 h1
             go_wp2
             exact hQ _ _ (Below.refl _ _) rfl
            ·intro x w hb hk hiv hdj
             have h0 : x.v 0 = .slice (some ⟨G, 0, none⟩) n n := hk 0 (by decide)
             have h1 : x.v 1 = .int .i64 AT := hk 1 (by decide)
             have h2 : x.v 2 = .pointer (some ⟨w0.heap.size, 0, none⟩) := hk 2 (by decide)
             have h3 : x.v 3 = .int .i64 X.p := hk 3 (by decide)
             have h4 : x.v 4 = .slice (some ⟨G, 0, none⟩) n n := hk 4 (by decide)
             have h5 : x.v 5 = .int .i64 AT := hk 5 (by decide)
             have h6 : x.v 6 = .pointer (some ⟨G, AT, none⟩) := hk 6 (by decide)
             have h7 : x.v 7 = .int .i64 ov := hk 7 (by decide)
             have h8 : x.v 8 = .pointer (some ⟨w0.heap.size, 5, none⟩) := hk 8 (by decide)
             have h9 : x.v 9 = .slice (some ⟨bx, ox, none⟩) X.m.length ha_ := hk 9 (by decide)
             have h10 : x.v 10 = .int .i64 k := hk 10 (by decide)
             have h11 : x.v 11 = .pointer (some ⟨bx, ox + k * 3, none⟩) := hk 11 (by decide)
             have h12 : x.v 12 = .pointer (some ⟨bx, ox + k * 3 + 2, none⟩) := hk 12 (by decide)
             have h13 : x.v 13 = .slice (some ⟨ba, oa, none⟩) LX cx := hk 13 (by decide)
             have h14 : x.v 14 = .int .i64 t := hk 14 (by decide)
             have h15 : x.v 15 = .pointer (some ⟨w0.heap.size, 4, none⟩) := hk 15 (by decide)
             have h16 : x.v 16 = .slice (some ⟨bd, od, none⟩) X.d.length ea := hk 16 (by decide)
             have h17 : x.v 17 = .int .i64 nf := hk 17 (by decide)
             have h18 : x.v 18 = .pointer (some ⟨bd, od + nf, none⟩) := hk 18 (by decide)
             have h19 : x.v 19 = .int .i64 DXF := hk 19 (by decide)
             have h20 : x.v 20 = .int .i64 Q := hk 20 (by decide)
             have h21 : x.v 21 = .int .i64 cc := hk 21 (by decide)
             have h22 : x.v 22 = .int .i64 ((Q : Int) + cc) := hk 22 (by decide)
             have h23 : x.v 23 = .pointer (some ⟨ba, oa + (Q + cc), none⟩) := hk 23 (by decide)
             have h24 : x.v 24 = .int .i64 bv := hk 24 (by decide)
             have h25 : x.v 25 = .int .i64 (ov - bv) := hk 25 (by decide)
             have h26 : x.v 26 = .int .i64 ((ov - bv) % X.p) := hk 26 (by decide)
             have h27 : x.v 27 = .pointer (some ⟨G, AT, none⟩) := hk 27 (by decide)
             clear hk
             simp only [netE]
             simp only [List.drop_succ_cons, List.drop_zero, h0, h1, h2, h3, h4, h5, h6, h7, h8, h9, h10, h11, h12, h13, h14, h15, h16, h17, h18, h19, h20, h21, h22, h23, h24, h25, h26, h27]
             clear h0 h1 h2 h3 h4 h5 h6 h7 h8 h9 h10 h11 h12 h13 h14 h15 h16 h17 h18 h19 h20 h21 h22 h23 h24 h25 h26 h27
             have hR6 := HRa.out.below hb
             have cX := (hR6.1.cellG (j := AT) (by rw [rowF_length]; exact hAT)).1
             have fX := hR6.1.frozenG AT
             have rY := hR6.put (j := AT) (x := (ov - bv) % X.p) hI2.out
             rw [HPP.out] at rY
             have RY := Lib.hid rY
             obtain ⟨Z, hZ⟩ : ∃ u, w.setCell ⟨G, AT, none⟩ (.int .i64 ((ov - bv) % X.p)) = u := ⟨_, rfl⟩
             have hcY : Chg G (G + 1) w Z := by rw [← hZ]; exact chg_set (Nat.le_refl _) (Nat.lt_succ_self _)
             have s6 := hb.size
             have sY := hcY.size
             rw [hZ] at RY
             have BY := Lib.hid ((HBa.out.trans (hb.mono hbsa)).trans (hcY.below hGW (by omega)))
             have EY := Lib.hid ((HEa.out.call hb).chg hcY (Nat.le_refl _) hgG)
             clear rY hcY hR6 hiv hdj hb
             go_wp2
             clear hZ cX fX
             go_roundw
             case rel => exact ⟨t + 1, by omega, by go_num, by omega, RY.out, EY.out, BY.out⟩
             case measure => simp [intOf]; omega
          ·obtain rfl : t = DXT := by omega
           have hrow : (rowF n fun m => (eqS X Y k r cc m j - eqT X Y k r cc m t) % X.p) = rowF n (eqE X Y k r cc) := by rw [HEE.out]
           rw [hrow] at hR
           have HNX := Lib.hid (show eqL X Y n k ++ eqRk X Y n k (r * DXF + (cc + 1)) = (eqL X Y n k ++ eqRk X Y n k (r * DXF + cc)) ++ [rowF n (eqE X Y k r cc)] by rw [← Nat.add_assoc, HRN.out r cc hcl, List.append_assoc])
           have hLlen : (eqL X Y n k ++ eqRk X Y n k (r * DXF + cc)).length ≤ 1000 := by
            rw [List.length_append, eqRk_len]
            have h1 := eqL_len_le HF.out n k
            have : r * DXF ≤ 4 * 4 := Nat.mul_le_mul (by omega) (by omega)
            omega
           have hflen : (eqL X Y n k ++ eqRk X Y n k (r * DXF + cc)).flatten.length ≤ 100000 := by
            rw [eqFl_len]
            rw [List.length_append, eqRk_len] at hLlen
            have : ((eqL X Y n k).length + (r * DXF + cc)) * n ≤ 1000 * 80 := Nat.mul_le_mul (by omega) hN80
            omega
           obtain ⟨L, hL⟩ : ∃ L, eqL X Y n k ++ eqRk X Y n k (r * DXF + cc) = L := ⟨_, rfl⟩
           rw [hL] at hE HNX hLlen hflen
           obtain ⟨row, hrw⟩ : ∃ z, rowF n (eqE X Y k r cc) = z := ⟨_, rfl⟩
           have hrl2 : row.length = n := by rw [← hrw]; exact rowF_length _ _
           have HRL := Lib.hid hrl2
           rw [hrw] at hR HNX
           obtain ⟨MA, mc, kM, oM⟩ := hE
           obtain ⟨LN, hLN⟩ : ∃ z, L.length = z := ⟨_, rfl⟩
           obtain ⟨FL, hFLe⟩ : ∃ z, L.flatten.length = z := ⟨_, rfl⟩
           rw [hLN] at kM hLlen
           rw [hFLe] at kM oM hflen
           have HLN := Lib.hid hLN
           have HFLE := Lib.hid hFLe
           have m0 := kM.cell' (i := 0) rfl
           have fr0 := kM.frozen
           obtain ⟨W7, hW7⟩ : ∃ z, wr.setCell ⟨gm, 0, none⟩ (.int .i64 ((LN : Int) + 1)) = z := ⟨_, rfl⟩
           have k7 : Blk W7 gm 50 #[.int .i64 ((LN : Int) + 1), .int .i64 n, .slice MA FL mc] := by rw [← hW7]; exact kM.set_ 0 _
           have hc7 : Chg gm (gm + 1) wr W7 := by rw [← hW7]; exact chg_set (Nat.le_refl _) (Nat.lt_succ_self _)
           have o7 : OwnI W7 W.heap.size (.slice MA FL mc) L.flatten := by
            rw [← hW7]
            exact oM.1.setCell (fun e => oM.1.blkne kM (by decide) e.symm) _
           have r7 : IntsO W7 G (G + 1) (.slice (some ⟨G, 0, none⟩) n n) row := hR.chg hc7 (.inr (by omega))
           have s7 : W7.heap.size = wr.heap.size := by rw [← hW7]; simp
           have B7 := Lib.hid (hbel.trans (hc7.below (by omega) (by omega)))
           have m2 := k7.cell' (i := 2) rfl
           have hlo7 := o7.lt
           have HO7 := Lib.hid o7
           have HR7 := Lib.hid r7.rd
           have K7 := Lib.hid k7
           have NE7 := Lib.hid (o7.blkne k7 (by decide))
           clear hR hrow hL hrw kM oM hc7 hbel kr1 hLN hFLe o7 r7 k7
           (go_wp2_with (at_builtin; refine Hold.stop ?_)); unfold Hold
           clear hW7 m0 fr0 m2 c4 ztx
           refine wpList_appI rfl (.tmp 169) (.tmp 170) rfl W.heap.size W7.heap.size _ _ rfl HO7.out (some ⟨G, 0, none⟩) n n row (by rfl) HRL.out.symm (by have := HR7.out; rw [HRL.out]; exact this) (by have := HRL.out; have := HFLE.out; omega) (by omega) ?_
           intro v' w' h1 h2 h3
           have k8 := K7.out.grown h2 NE7.out
           have g8 := B7.out.trans (below_grown h2 (fun k hk => (hlo7 k hk).1) (by omega))
           obtain ⟨A8, c8, ev8, _, _⟩ := h1.form
           have hL8 : (L.flatten ++ row).length = (L ++ [row]).flatten.length := by rw [List.flatten_append]; simp
           have hL9 : L.flatten ++ row = (L ++ [row]).flatten := by rw [List.flatten_append]; simp
           rw [hL9] at h1 ev8
           subst ev8
           obtain ⟨FL8, hFL8⟩ : ∃ z, (L ++ [row]).flatten.length = z := ⟨_, rfl⟩
           rw [hFL8] at h1 ⊢
           have hs8 := h2.size
           have z2 := k8.cell' (i := 2) rfl
           have fr8 := k8.frozen
           obtain ⟨W9, hW9⟩ : ∃ z, w'.setCell ⟨gm, 2, none⟩ (.slice A8 FL8 c8) = z := ⟨_, rfl⟩
           have k9 : Blk W9 gm 50 #[.int .i64 ((LN : Int) + 1), .int .i64 n, .slice A8 FL8 c8] := by rw [← hW9]; exact k8.set_ 2 _
           have hc9 : Chg gm (gm + 1) w' W9 := by rw [← hW9]; exact chg_set (Nat.le_refl _) (Nat.lt_succ_self _)
           have o9 : OwnI W9 W.heap.size (.slice A8 FL8 c8) (L ++ [row]).flatten := by
            rw [← hW9]
            exact h1.setCell (fun e => h1.blkne k8 (by decide) e.symm) _
           have s9 : W9.heap.size = w'.heap.size := by rw [← hW9]; simp
           have E9 : EqS gm W.heap.size W9.heap.size n W9 (L ++ [row]) := by
            refine ⟨A8, c8, ?_, ?_⟩
            ·rw [hFL8, List.length_append, HLN.out]
             exact k9
            ·rw [hFL8]
             exact IntsO.of_own o9
           rw [← HNX.out] at E9
           have HE9 := Lib.hid E9
           have HB9 := Lib.hid (g8.trans (hc9.below (by omega) (by have := g8.size; omega)))
           clear E9 o9 hc9 k9 h1 h2 h3 k8 g8 hL8 hL9 hlo7 HNX hFL8
           go_wp2
           clear hW9 z2 fr8
           go_roundw
           case rel => exact ⟨cc + 1, by omega, by go_num, by omega, HE9.out, HB9.out⟩
           case measure => simp [intOf]; omega
      ·obtain rfl : cc = DXF := by omega
       have e1 : r * cc + cc = (r + 1) * cc := by rw [Nat.add_mul, Nat.one_mul]
       rw [e1] at hE
       have HE := Lib.hid hE
       have HB := Lib.hid hbel
       clear hE hbel e1 kr1
       go_wp2
       go_roundw
       case rel => exact ⟨r + 1, by omega, by go_num, hgs, HE.out, HB.out⟩
       case measure => simp [intOf]; omega
    ·obtain rfl : r = DYT := by omega
     have e1 := HRE.out
     rw [← e1] at hE
     have HE := Lib.hid hE
     have HB := Lib.hid hbel
     clear hE hbel e1 kr2
     go_wp2
     go_roundw
     case rel => exact ⟨k + 1, by omega, by go_num, hgs, HE.out, HB.out⟩
     case measure => simp [intOf]; omega
  ·obtain rfl : k = X.q.f.length := by omega
   have a1' : ¬ ((X.q.f.length : Int) < X.m.length) := by have := HLM.out; omega
   obtain ⟨MA, mc, kM, oM⟩ := hE
   have hLL := HLL.out
   have hfl := HFL.out
   obtain ⟨L, hL⟩ : ∃ L, eqL X Y n X.q.f.length = L := ⟨_, rfl⟩
   rw [hL] at kM oM hLL hfl
   rw [hLL] at kM
   obtain ⟨FL, hFLe⟩ : ∃ z, L.flatten.length = z := ⟨_, rfl⟩
   rw [hFLe] at kM oM
   rw [hfl] at oM
   have m0 := kM.cell' (i := 0) rfl
   have m1 := kM.cell' (i := 1) rfl
   have m2 := kM.cell' (i := 2) rfl
   have K3r := K3W.out.call hbel
   have z0 := K3r.cell' (i := 0) rfl
   have z1 := K3r.cell' (i := 1) rfl
   have z2 := K3r.cell' (i := 2) rfl
   have fr := K3r.frozen
   have GF := Lib.hid (G0.out.trans (hbel.mono G0.out.size))
   have HOM := Lib.hid oM
   have gs := G0.out.size
   clear hbel K3r kM oM hL hLL hfl hFLe kr1
   go_wp2
   have gf := GF.out
   have sz := SZ.out
   have hc : Chg (w0.heap.size + 1 + 1) (w0.heap.size + 1 + 1 + 1) wr _ := ((chg_set (w := wr) (p := ⟨w0.heap.size + 1 + 1, 0, none⟩) (u := .int .i64 R) (by simp) (by simp)).trans (chg_set (p := ⟨w0.heap.size + 1 + 1, 1, none⟩) (u := .int .i64 n) (by simp) (by simp))).trans (chg_set (p := ⟨w0.heap.size + 1 + 1, 2, none⟩) (u := .slice MA FL mc) (by simp) (by simp))
   refine bodyPost_ret (v := .agg #[.int .i64 R, .int .i64 n, .slice MA FL mc]) (by simp [results, go_sem, z0, z1, z2]) rfl ⟨_, rfl, ⟨_, rfl, (HOM.out.chg hc (.inr (by omega))).wider (by omega) (by simp), by simp only [mxF, I64]; omega, by simp only [mxF, I64]; omega⟩, ((gf.setCell (by simp; omega) _).setCell (by simp; omega) _).setCell (by simp; omega) _⟩
end Go.Proofs.YtcmlflppndfdcaaGreat
