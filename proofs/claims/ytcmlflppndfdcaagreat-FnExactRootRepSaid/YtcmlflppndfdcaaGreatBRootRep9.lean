/- FnExactRootRep: the law holds for every argument. Part 9 of 18 of the proof: Hom1, RvA, InOut, Zero3, ZigI, RfP, Mul2, Hom2. No condition. -/
import Derived.Test.YtcmlflppndfdcaaGreatBRootRep8
set_option linter.unusedVariables false
set_option linter.unusedSimpArgs false
namespace Go.Proofs.YtcmlflppndfdcaaGreat
open Go.RowKit
structure Fit2 (x y : Rp) : Prop where
 hx : isRep x = true
 hy : isRep y = true
 hp : x.p = y.p
 hq : x.q = y.q
theorem Fit2.len {x y : Rp} (h : Fit2 x y) : y.d.length = x.d.length ∧ x.d.length ≤ 5 := by
 have h1 := (areDims_t.1 (isRep_t.1 h.hx).2.1)
 have h2 := (areDims_t.1 (isRep_t.1 h.hy).2.1)
 have h3 := isQ_t.1 h1.1
 rw [← h.hq] at h2
 omega
theorem Fit2.dim {x y : Rp} (h : Fit2 x y) {k : Nat} (hk : k < x.d.length) : x.d[k]? = some (dmN x.d k : Int) ∧ y.d[k]? = some (dmN y.d k : Int) ∧ dmN x.d k ≤ 4 ∧ dmN y.d k ≤ 4 := by
 have one : ∀ (d : List Int), (∀ e ∈ d, 0 ≤ e ∧ e ≤ 4) → k < d.length → d[k]? = some (dmN d k : Int) ∧ dmN d k ≤ 4 := by
  intro d hd hl
  have e := List.getElem?_eq_getElem hl
  have := hd _ (List.mem_of_getElem? e)
  rw [dmN, List.getD_eq_getElem?_getD, e, Option.getD_some]
  exact ⟨by congr 1; omega, by omega⟩
 have h1 := one x.d (areDims_t.1 (isRep_t.1 h.hx).2.1).2.2.1 hk
 have h2 := one y.d (areDims_t.1 (isRep_t.1 h.hy).2.1).2.2.1 (by have := h.len; omega)
 exact ⟨h1.1, h2.1, h1.2, h2.2⟩
theorem Fit2.p2 {x y : Rp} (h : Fit2 x y) : 2 ≤ x.p ∧ x.p ≤ 5 := isFld_r (isRep_t.1 h.hx).1
theorem Fit2.arr {x y : Rp} (h : Fit2 x y) {k : Nat} (hk : k < x.q.f.length) : x.q.f[k]? = some (srN x.q k : Int) ∧ x.q.t[k]? = some (tgN x.q k : Int) ∧ srN x.q k < x.d.length ∧ tgN x.q k < x.d.length ∧ k < x.q.t.length ∧
  x.m[k]? = some (mxF (dmN x.d (tgN x.q k)) (dmN x.d (srN x.q k)) (arF x k)) ∧ y.m[k]? = some (mxF (dmN y.d (tgN x.q k)) (dmN y.d (srN x.q k)) (arF y k)) ∧
  InF x.p (dmN x.d (tgN x.q k)) (dmN x.d (srN x.q k)) (arF x k) ∧ InF x.p (dmN y.d (tgN x.q k)) (dmN y.d (srN x.q k)) (arF y k) := by
 obtain ⟨m, nf, nt, yf, yt, em, ef, et, df, dt, hm, hr, _, _, _, _, l1, l2, l3, _⟩ := isRep_at h.hx hk
 obtain ⟨m', nf', nt', yf', yt', em', ef', et', df', dt', hm', hr', _⟩ := isRep_at h.hy (k := k) (by rw [← h.hq]; exact hk)
 have s1 := srN_of ef
 have s2 := tgN_of et
 have s3 := srN_of ef'
 have s4 := tgN_of et'
 have e1 := dmN_of df
 have e2 := dmN_of dt
 have e3 := dmN_of df'
 have e4 := dmN_of dt'
 have q1 := h.hq
 rw [← q1, s1] at s3
 rw [← q1, s2] at s4
 subst s3 s4
 have A1 : arF x k = entry m.a yf := by rw [arF, List.getD_eq_getElem?_getD, em, Option.getD_some, s1, e1]
 have A2 : arF y k = entry m'.a yf' := by rw [arF, List.getD_eq_getElem?_getD, em', Option.getD_some, ← q1, s1, e3]
 rw [s1, s2, e1, e2, e3, e4, A1, A2]
 refine ⟨ef, et, l1, l2, l3, by rw [em, ← hm], by rw [em', ← hm'], fun a b ha hb => hr a b ha hb, fun a b ha hb => ?_⟩
 have := hr' a b ha hb
 rwa [← h.hp] at this
theorem Fit2.arrs {x y : Rp} (h : Fit2 x y) : x.q.f.length ≤ 6 ∧ x.m.length = x.q.f.length ∧ y.m.length = x.q.f.length ∧ x.q.t.length = x.q.f.length := by
 have h1 := isQ_t.1 (areDims_t.1 (isRep_t.1 h.hx).2.1).1
 have h2 := (isRep_t.1 h.hx).2.2.1
 have h3 := (isRep_t.1 h.hy).2.2.1
 rw [← h.hq] at h3
 exact ⟨h1.2.2.1, h2, h3, h1.2.1.symm⟩
theorem hOff_le {x y : Rp} (h : Fit2 x y) : ∀ {v : Nat}, v ≤ x.d.length → hOff x.d y.d v ≤ v * 16
 | 0, _ => Nat.zero_le _
 | v + 1, hv => by
  have := hOff_le h (v := v) (by omega)
  obtain ⟨_, _, h1, h2⟩ := h.dim (k := v) (by omega)
  have : dmN y.d v * dmN x.d v ≤ 4 * 4 := Nat.mul_le_mul h2 h1
  simp only [hOff]
  omega
theorem hmN_le {x y : Rp} (h : Fit2 x y) : hmN x y ≤ 80 := by
 have := hOff_le h (Nat.le_refl _)
 have := h.len.2
 unfold hmN
 omega
theorem Fit2.dims {x y : Rp} (h : Fit2 x y) (k : Nat) : dmN x.d k ≤ 4 ∧ dmN y.d k ≤ 4 := by
 by_cases hk : k < x.d.length
 ·exact (h.dim hk).2.2
 ·have h1 : x.d.length ≤ k := by omega
  have h2 : y.d.length ≤ k := by have := h.len; omega
  simp [dmN, List.getD_eq_getElem?_getD, h1, h2]
theorem eqR_le {x y : Rp} (h : Fit2 x y) : eqR x y ≤ 96 := by
 have one : ∀ K, (eqL x y (hmN x y) K).length ≤ K * 16 := by
  intro K
  induction K with
  | zero => simp [eqL]
  | succ K ih =>
   rw [eqL, List.length_append, eqRw, rowsF_length]
   have : dmN y.d (tgN x.q K) * dmN x.d (srN x.q K) ≤ 4 * 4 := Nat.mul_le_mul (h.dims _).2 (h.dims _).1
   omega
 have := one x.q.f.length
 have := h.arrs.1
 unfold eqR
 omega
set_option maxHeartbeats 3200000 in
set_option maxRecDepth 100000 in
theorem flat_any (u : Value) (ms : List Mx) (w : World) (hu : SlM w w.heap.size u ms) (hn : ms.length ≤ 1000) (ht : totA ms ≤ 100000) :
  Calls Tryz.prog 50 #[u] w fun e w' => ∃ v, e = .returned v ∧ IntsO w' w.heap.size w'.heap.size v (flM ms) ∧ Below w.heap.size w w' := by
 obtain ⟨A, c, rfl, _, _, _, hx⟩ := hu.open_
 clear hu
 have HX := Lib.hid hx
 have HT := Lib.hid ht
 obtain ⟨n, hnl⟩ : ∃ n, ms.length = n := ⟨_, rfl⟩
 have HNL := Lib.hid hnl
 rw [hnl] at hn ⊢
 clear hx ht hnl
 go_enter Tryz.func50, Tryz.ntmps50
 go_wp2
 go_loopw [3, 8] (fun out i wr => ∃ k : Nat, k ≤ n ∧ i = .int .i64 k ∧ OwnI wr w.heap.size out (flM (ms.take k)) ∧ Below w.heap.size w wr) (fun _ i _ => n - (intOf i).toNat)
 case atStart => exact ⟨0, Nat.zero_le _, rfl, by simpa [flM] using OwnI.nil _ _, Below.refl _ _⟩
 case round =>
  obtain ⟨k, hk, rfl, hO, hbel⟩ := hrel
  have hbs := hbel.size
  obtain ⟨OA, oc, eo, _, _⟩ := hO.form
  subst eo
  by_cases hlt : k < n
  ·have hx := HX.out
   obtain ⟨b, o, m, A', c', rfl, hb, HX2, x1, x2, x3, hsl, _, _, _⟩ := SlM.at_ hx (by rw [HNL.out]; exact hlt)
   have d1 := bcell hbel hb x1
   have d2 := bcell hbel hb x2
   have d3 := bcell hbel hb x3
   have e1 : flM (ms.take (k + 1)) = flM (ms.take k) ++ m.a := by rw [take_snoc HX2.out, flM_app, flM_one]
   have hle : (flM (ms.take (k + 1))).length ≤ 100000 := by
    have h1 : ms = ms.take (k + 1) ++ ms.drop (k + 1) := (List.take_append_drop _ _).symm
    have h2 := congrArg totA h1
    rw [totA_app] at h2
    have := HT.out
    rw [flM_length]
    omega
   rw [e1, List.length_append] at hle
   have E1 := Lib.hid e1
   obtain ⟨W1, hW1⟩ : ∃ z, wr.alloc (.cells #[.int .i64 m.r, .int .i64 m.c, .slice A' m.a.length c'] 50) = z := ⟨_, rfl⟩
   have ga : Below wr.heap.size wr W1 := by rw [← hW1]; exact below_alloc _ _
   have kW : Blk W1 wr.heap.size 50 #[.int .i64 m.r, .int .i64 m.c, .slice A' m.a.length c'] := by rw [← hW1]; exact Blk.new _ _ _
   have z2 := kW.cell' (i := 2) rfl
   have GW := Lib.hid (hbel.trans (ga.mono hbs))
   have HS := Lib.hid (SlI.below GW.out hsl)
   have HO := Lib.hid (hO.below ga)
   have HLE := Lib.hid hle
   have sa := ga.size
   obtain ⟨fl, hfl⟩ : ∃ z, (flM (ms.take k)).length = z := ⟨_, rfl⟩
   rw [hfl] at hO ⊢
   have HFL := Lib.hid hfl
   clear e1 hx hsl HX2 x1 x2 x3 hO hle hbel ga kW hfl
   (go_wp2_with (at_builtin; refine Hold.stop ?_)); unfold Hold
   clear hW1
   have hO1 := HO.out
   rw [HFL.out] at hO1
   have hlo2 := hO1.lt
   refine wpList_appI rfl (.tmp 12) (.tmp 14) rfl w.heap.size w.heap.size _ _ rfl hO1 A' m.a.length c' m.a rfl rfl HS.out (by have := HLE.out; omega) (by omega) ?_
   intro v' w' h1 h2 h3
   rw [← E1.out] at h1
   have g2 := (GW.out).trans (below_grown h2 (fun k hk => (hlo2 k hk).1) (by omega))
   have H1 := Lib.hid h1
   have G2 := Lib.hid g2
   clear h1 h2 h3 g2 hlo2 hO1
   go_wp2
   go_roundw
   case rel => exact ⟨k + 1, by omega, by go_num, H1.out, G2.out⟩
   case measure => simp [intOf]; omega
  ·obtain rfl : k = n := by omega
   have e0 : ms.take k = ms := List.take_of_length_le (by have := HNL.out; omega)
   rw [e0] at hO ⊢
   have HO := Lib.hid (IntsO.of_own hO)
   have HB := Lib.hid hbel
   obtain ⟨fl, hfl⟩ : ∃ z, (flM ms).length = z := ⟨_, rfl⟩
   rw [hfl]
   have HFL := Lib.hid hfl
   clear hO hbel e0 hfl
   go_wp2
   go_ret
   exact ⟨_, rfl, by have := HO.out; rw [HFL.out] at this; exact this, HB.out⟩
set_option maxHeartbeats 3200000 in
set_option maxRecDepth 100000 in
theorem zeros_any (ua ub : Value) (X Y : Rp) (w0 : World) (ha : RpR w0 w0.heap.size ua X) (hb : RpR w0 w0.heap.size ub Y) (hf : Fit2 X Y) :
  Calls Tryz.prog 131 #[ua, ub] w0 fun e w' => ∃ v, e = .returned v ∧ MatsO w' w0.heap.size w'.heap.size v (zrL X.d Y.d X.d.length) ∧ Below w0.heap.size w0 w' := by
 have ha' := ha
 have hb' := hb
 obtain ⟨A, a, C, c, Ea, ea, Ha, ha_, rfl, hqa, hda, hma, hpa, lda, lma⟩ := ha.open_
 obtain ⟨A2, a2, C2, c2, Eb, eb, Hb, hb_, rfl, hqb, hdb, hmb, hpb, ldb, lmb⟩ := hb.open_
 clear ha hb
 obtain ⟨W, hW⟩ : ∃ W, W = (w0.alloc (.cells #[.int .i64 X.p, .int .i64 X.q.v, .slice A X.q.f.length a, .slice C X.q.t.length c, .slice Ea X.d.length ea, .slice Ha X.m.length ha_] 32)).alloc (.cells #[.int .i64 Y.p, .int .i64 Y.q.v, .slice A2 Y.q.f.length a2, .slice C2 Y.q.t.length c2, .slice Eb Y.d.length eb, .slice Hb Y.m.length hb_] 32) := ⟨_, rfl⟩
 have g0 : Below w0.heap.size w0 W := by rw [hW]; exact ((Below.refl _ _).alloc (Nat.le_refl _) _).alloc (by simp) _
 have k1 : Blk W w0.heap.size 32 #[.int .i64 X.p, .int .i64 X.q.v, .slice A X.q.f.length a, .slice C X.q.t.length c, .slice Ea X.d.length ea, .slice Ha X.m.length ha_] := by rw [hW]; exact (Blk.new _ _ _).alloc _
 have k2 : Blk W (w0.heap.size + 1) 32 #[.int .i64 Y.p, .int .i64 Y.q.v, .slice A2 Y.q.f.length a2, .slice C2 Y.q.t.length c2, .slice Eb Y.d.length eb, .slice Hb Y.m.length hb_] := by
  rw [hW]
  have := Blk.new (w0.alloc (.cells #[.int .i64 X.p, .int .i64 X.q.v, .slice A X.q.f.length a, .slice C X.q.t.length c, .slice Ea X.d.length ea, .slice Ha X.m.length ha_] 32)) 32 #[.int .i64 Y.p, .int .i64 Y.q.v, .slice A2 Y.q.f.length a2, .slice C2 Y.q.t.length c2, .slice Eb Y.d.length eb, .slice Hb Y.m.length hb_]
  simpa only [World.size_alloc] using this
 have HXA := Lib.hid (RpR.next g0 ha')
 have HXB := Lib.hid (RpR.next g0 hb')
 have HQA := Lib.hid (QvR.next g0 hqa)
 have HDA := Lib.hid (SlI.next g0 hda)
 have HDB := Lib.hid (SlI.next g0 hdb)
 have HMA := Lib.hid (SlM.next g0 hma)
 have HMB := Lib.hid (SlM.next g0 hmb)
 have G0 := Lib.hid g0
 clear ha' hb' hqa hqb hda hdb hma hmb hpa hpb g0
 have HF := Lib.hid hf
 have hl5 := hf.len.2
 have HLY := Lib.hid hf.len.1
 obtain ⟨V, hV⟩ : ∃ n, X.d.length = n := ⟨_, rfl⟩
 obtain ⟨VY, hVY⟩ : ∃ n, Y.d.length = n := ⟨_, rfl⟩
 rw [hV] at hl5 k1 hW ⊢
 rw [hVY] at k2 hW ⊢
 have hVV : VY = V := by have := HLY.out; omega
 subst hVV
 have HV := Lib.hid hV
 have HVY := Lib.hid hVY
 have c4 := k1.cell' (i := 4) rfl
 clear hf hV hVY
 go_enter Tryz.func131, Tryz.ntmps131
 go_wp2
 rw [← hW]; clear hW
 go_loopw [5, 11] (fun out i wr => ∃ k : Nat, k ≤ VY ∧ i = .int .i64 k ∧ MatsO wr W.heap.size wr.heap.size out (zrL X.d Y.d k) ∧ Below W.heap.size W wr) (fun _ i _ => VY - (intOf i).toNat)
 case atStart => exact ⟨0, Nat.zero_le _, rfl, MatsO.nil _ _ _, Below.refl _ _⟩
 case round =>
  obtain ⟨k, hk, rfl, hO, hbel⟩ := hrel
  have hbs := hbel.size
  obtain ⟨OA, oc, eo, _, _⟩ := hO.form2
  rw [zrL_length] at eo
  subst eo
  by_cases hlt : k < VY
  ·obtain ⟨dx, dy, bx, by_⟩ := HF.out.dim (k := k) (by rw [HV.out]; exact hlt)
   obtain ⟨b1, o1, x1, e1, hb1, HX1, z1, _, _⟩ := SlI.at_ HDA.out (k := k) (by rw [HV.out]; exact hlt)
   obtain ⟨b2, o2, x2, e2, hb2, HX2, z2, _, _⟩ := SlI.at_ HDB.out (k := k) (by rw [HVY.out]; exact hlt)
   subst e1 e2
   have q1 := HX1.out
   rw [dx] at q1
   injection q1 with q1
   subst q1
   have q2 := HX2.out
   rw [dy] at q2
   injection q2 with q2
   subst q2
   have HZS := Lib.hid (zrL_succ X.d Y.d k)
   obtain ⟨DX, hDX⟩ : ∃ n, dmN X.d k = n := ⟨_, rfl⟩
   obtain ⟨DY, hDY⟩ : ∃ n, dmN Y.d k = n := ⟨_, rfl⟩
   rw [hDX] at z1 bx HZS
   rw [hDY] at z2 by_ HZS
   clear HX1 HX2 dx dy hDX hDY
   have z1r := bcell hbel hb1 z1
   have z2r := bcell hbel hb2 z2
   have kBr := k2.call hbel
   have z4r := kBr.cell' (i := 4) rfl
   have HO := Lib.hid hO
   have HB := Lib.hid hbel
   clear hO hbel z1 z2 kBr c4
   go_wp2_with fail
   refine (zero_any (DY : Int) (DX : Int) _ (by omega) (by omega) (by omega) (by omega)).mono ?_; rintro e w5 ⟨v5, rfl, ⟨s, rfl, hs, hI⟩, hb5⟩
   rw [zmx_flat] at hs hI ⊢
   obtain ⟨sA, sc, es⟩ := hs.form
   obtain ⟨sn, hsn⟩ : ∃ n, (mxF DY DX fun _ _ => 0).a.length = n := ⟨_, rfl⟩
   rw [hsn] at es
   subst es
   clear hsn
   simp only [mxF] at hs hI ⊢
   obtain ⟨Z, hZ⟩ : ∃ z, w5.alloc (.cells #[.int .i64 DY, .int .i64 DX, .slice sA sn sc] 50) = z := ⟨_, rfl⟩
   obtain ⟨gz, hgz⟩ : ∃ z, w5.heap.size = z := ⟨_, rfl⟩
   have bZ : Below w5.heap.size w5 Z := by rw [← hZ]; exact below_alloc _ _
   have kZ : Blk Z gz 50 #[.int .i64 DY, .int .i64 DX, .slice sA sn sc] := by rw [← hZ, ← hgz]; exact Blk.new _ _ _
   have s5 := hb5.size
   have sZ := bZ.size
   have HOZ := Lib.hid ((HO.out.below hb5).below bZ)
   have HSZ := Lib.hid (hs.below bZ)
   have HKZ := Lib.hid kZ
   have HBZ := Lib.hid ((HB.out.trans (hb5.mono hbs)).trans (bZ.mono (by omega)))
   have HI := Lib.hid hI
   have hgz2 : w5.heap.size ≤ gz := Nat.le_of_eq hgz
   clear hs hI hb5 bZ kZ z1r z2r z4r
   (go_wp2_with (at_builtin; refine Hold.stop ?_)); unfold Hold
   clear hZ hgz
   refine wpList_appMats (by rfl) (.tmp 16) (.tmp 24) (by rfl) W.heap.size wr.heap.size _ (zrL X.d Y.d k) (by rfl) HOZ.out gz 1 wr.heap.size w5.heap.size (mxF DY DX fun _ _ => 0) (.slice sA sn sc) (by rfl) HKZ.out HSZ.out HI.out (Nat.le_refl _) hbs (by omega) (by omega) (by rw [zrL_length]; omega) ?_
   intro v' w' h1 h2
   rw [← HZS.out] at h1
   have H1 := Lib.hid h1
   have H2 := Lib.hid (HBZ.out.trans (h2.below (Nat.le_refl _) (by omega)))
   clear h1 h2
   go_wp2
   go_roundw
   case rel => exact ⟨k + 1, by omega, by go_num, H1.out, H2.out⟩
   case measure => simp [intOf]; omega
  ·obtain rfl : k = VY := by omega
   have HO := Lib.hid hO
   have GF := Lib.hid (G0.out.trans (hbel.mono G0.out.size))
   have hgs := G0.out.size
   clear hO hbel
   go_wp2
   go_ret
   exact ⟨_, rfl, HO.out.wider hgs (Nat.le_refl _), GF.out⟩
def czL (X Y : Rp) (K : Nat) : List Mx := (List.range K).map fun k => mxF (dmN Y.d (tgN X.q k)) (dmN X.d (srN X.q k)) fun _ _ => 0
theorem czL_succ (X Y : Rp) (K : Nat) : czL X Y (K + 1) = czL X Y K ++ [mxF (dmN Y.d (tgN X.q K)) (dmN X.d (srN X.q K)) fun _ _ => 0] := by simp [czL, List.range_succ]
theorem czL_length (X Y : Rp) (K : Nat) : (czL X Y K).length = K := by simp [czL]
theorem czL_tot (X Y : Rp) (n : Nat) : ∀ K, totA (czL X Y K) = (eqL X Y n K).length
 | 0 => rfl
 | K + 1 => by rw [czL_succ, totA_app, czL_tot X Y n K, totA_one, eqL, List.length_append, eqRw, rowsF_length, mxF, flat_length]
set_option maxHeartbeats 6400000 in
set_option maxRecDepth 100000 in
theorem cocycleZeros_any (ua ub : Value) (X Y : Rp) (w0 : World) (ha : RpR w0 w0.heap.size ua X) (hb : RpR w0 w0.heap.size ub Y) (hf : Fit2 X Y) :
  Calls Tryz.prog 133 #[ua, ub] w0 fun e w' => ∃ v, e = .returned v ∧ MatsO w' w0.heap.size w'.heap.size v (czL X Y X.q.f.length) ∧ Below w0.heap.size w0 w' := by
 have ha' := ha
 have hb' := hb
 obtain ⟨A, a, C, c, Ea, ea, Ha, ha_, rfl, hqa, hda, hma, hpa, lda, lma⟩ := ha.open_
 obtain ⟨A2, a2, C2, c2, Eb, eb, Hb, hb_, rfl, hqb, hdb, hmb, hpb, ldb, lmb⟩ := hb.open_
 clear ha hb
 obtain ⟨W, hW⟩ : ∃ W, W = (w0.alloc (.cells #[.int .i64 X.p, .int .i64 X.q.v, .slice A X.q.f.length a, .slice C X.q.t.length c, .slice Ea X.d.length ea, .slice Ha X.m.length ha_] 32)).alloc (.cells #[.int .i64 Y.p, .int .i64 Y.q.v, .slice A2 Y.q.f.length a2, .slice C2 Y.q.t.length c2, .slice Eb Y.d.length eb, .slice Hb Y.m.length hb_] 32) := ⟨_, rfl⟩
 have g0 : Below w0.heap.size w0 W := by rw [hW]; exact ((Below.refl _ _).alloc (Nat.le_refl _) _).alloc (by simp) _
 have k1 : Blk W w0.heap.size 32 #[.int .i64 X.p, .int .i64 X.q.v, .slice A X.q.f.length a, .slice C X.q.t.length c, .slice Ea X.d.length ea, .slice Ha X.m.length ha_] := by rw [hW]; exact (Blk.new _ _ _).alloc _
 have k2 : Blk W (w0.heap.size + 1) 32 #[.int .i64 Y.p, .int .i64 Y.q.v, .slice A2 Y.q.f.length a2, .slice C2 Y.q.t.length c2, .slice Eb Y.d.length eb, .slice Hb Y.m.length hb_] := by
  rw [hW]
  have := Blk.new (w0.alloc (.cells #[.int .i64 X.p, .int .i64 X.q.v, .slice A X.q.f.length a, .slice C X.q.t.length c, .slice Ea X.d.length ea, .slice Ha X.m.length ha_] 32)) 32 #[.int .i64 Y.p, .int .i64 Y.q.v, .slice A2 Y.q.f.length a2, .slice C2 Y.q.t.length c2, .slice Eb Y.d.length eb, .slice Hb Y.m.length hb_]
  simpa only [World.size_alloc] using this
 have HXA := Lib.hid (RpR.next g0 ha')
 have HXB := Lib.hid (RpR.next g0 hb')
 have HQA := Lib.hid (QvR.next g0 hqa)
 have HDA := Lib.hid (SlI.next g0 hda)
 have HDB := Lib.hid (SlI.next g0 hdb)
 have HMA := Lib.hid (SlM.next g0 hma)
 have HMB := Lib.hid (SlM.next g0 hmb)
 have G0 := Lib.hid g0
 clear ha' hb' hqa hqb hda hdb hma hmb hpa hpb g0
 have HF := Lib.hid hf
 have hN6 := hf.arrs.1
 have HLEN := Lib.hid hf.len
 obtain ⟨_, _, _, _, eqq, hfs, hts, _⟩ := HQA.out.open_
 simp only [Value.agg.injEq, Array.mk.injEq, List.cons.injEq, and_true, Value.slice.injEq, true_and] at eqq
 obtain ⟨⟨rfl, rfl⟩, rfl, rfl⟩ := eqq
 have HFS := Lib.hid hfs
 have HTS := Lib.hid hts
 have c2_ := k1.cell' (i := 2) rfl
 clear hf hfs hts
 go_enter Tryz.func133, Tryz.ntmps133
 go_wp2
 rw [← hW]; clear hW
 go_loopw [5, 12] (fun out i wr => ∃ k : Nat, k ≤ X.q.f.length ∧ i = .int .i64 k ∧ MatsO wr W.heap.size wr.heap.size out (czL X Y k) ∧ Below W.heap.size W wr) (fun _ i _ => X.q.f.length - (intOf i).toNat)
 case atStart => exact ⟨0, Nat.zero_le _, rfl, MatsO.nil _ _ _, Below.refl _ _⟩
 case round =>
  obtain ⟨k, hk, rfl, hO, hbel⟩ := hrel
  have hbs := hbel.size
  obtain ⟨OA, oc, eo, _, _⟩ := hO.form2
  rw [czL_length] at eo
  subst eo
  by_cases hlt : k < X.q.f.length
  ·obtain ⟨ef, et, lf, lt, hkt, _⟩ := HF.out.arr hlt
   obtain ⟨dfx, _, bfx, _⟩ := HF.out.dim lf
   obtain ⟨_, dty, _, bty⟩ := HF.out.dim lt
   have HZS := Lib.hid (czL_succ X Y k)
   obtain ⟨nf, hnf⟩ : ∃ n, srN X.q k = n := ⟨_, rfl⟩
   obtain ⟨nt, hnt⟩ : ∃ n, tgN X.q k = n := ⟨_, rfl⟩
   rw [hnf] at ef lf dfx bfx HZS
   rw [hnt] at et lt dty bty HZS
   obtain ⟨YF, hYF⟩ : ∃ n, dmN X.d nf = n := ⟨_, rfl⟩
   obtain ⟨YT, hYT⟩ : ∃ n, dmN Y.d nt = n := ⟨_, rfl⟩
   rw [hYF] at dfx bfx HZS
   rw [hYT] at dty bty HZS
   clear hnf hnt hYF hYT
   obtain ⟨bf, of_, x1, e1, hbf, HX1, z1, _, _⟩ := SlI.at_ HFS.out hlt
   obtain ⟨bt, ot, x2, e2, hbt, HX2, z2, _, _⟩ := SlI.at_ HTS.out hkt
   obtain ⟨bd, od, x3, e3, hbd, HX3, z3, _, _⟩ := SlI.at_ HDA.out lf
   have lty : nt < Y.d.length := by have := HLEN.out; omega
   obtain ⟨be, oe, x4, e4, hbe, HX4, z4, _, _⟩ := SlI.at_ HDB.out lty
   subst e1 e2 e3 e4
   have q1 := HX1.out
   rw [ef] at q1
   injection q1 with q1
   subst q1
   have q2 := HX2.out
   rw [et] at q2
   injection q2 with q2
   subst q2
   have q3 := HX3.out
   rw [dfx] at q3
   injection q3 with q3
   subst q3
   have q4 := HX4.out
   rw [dty] at q4
   injection q4 with q4
   subst q4
   clear HX1 HX2 HX3 HX4 ef et dfx dty
   have K1 := Lib.hid (k1.call hbel)
   have K2 := Lib.hid (k2.call hbel)
   have y1 := bcell hbel hbf z1
   have y2 := bcell hbel hbt z2
   have y3 := bcell hbel hbd z3
   have y4 := bcell hbel hbe z4
   have Y2 := Lib.hid y2
   have Y3 := Lib.hid y3
   have Y4 := Lib.hid y4
   have HO := Lib.hid hO
   have HB := Lib.hid hbel
   clear hO hbel y2 y3 y4 z1 z2 z3 z4 c2_
   have a1' : (0 : Int) ≤ (nt : Int) := by omega
   have a2' : (nt : Int) < Y.d.length := by omega
   have a3' : (0 : Int) ≤ (nf : Int) := by omega
   have a4' : (nf : Int) < X.d.length := by omega
   have a5' : (k : Int) < X.q.t.length := by omega
   go_wp2
   clear y1
   refine wp_region_net (by kernel_rfl) [.eq (.slice OA k oc), .eq (.pointer (some ⟨w0.heap.size + 1, 4, none⟩)), .eq (.slice (some ⟨be, oe, none⟩) Y.d.length eb), .eq (.pointer (some ⟨w0.heap.size, 1, none⟩)), .eq (.pointer (some ⟨w0.heap.size, 3, none⟩)), .eq (.slice (some ⟨bt, ot, none⟩) X.q.t.length c), .eq (.int .i64 k), .eq (.pointer (some ⟨bt, ot + k, none⟩)), .eq (.int .i64 nt), .eq (.pointer (some ⟨be, oe + nt, none⟩)), .eq (.int .i64 YT), .eq (.pointer (some ⟨w0.heap.size, 4, none⟩)), .eq (.slice (some ⟨bd, od, none⟩) X.d.length ea), .eq (.int .i64 nf), .eq (.pointer (some ⟨bd, od + nf, none⟩)), .eq (.int .i64 YF), rel 16 (fun u lo hi w => MxO w lo hi u (mxF YT YF fun _ _ => 0)), .rel (fun x w => ∃ g s, x.v 17 = .slice (some ⟨g, 0, none⟩) 1 1 ∧ x.v 16 = .agg #[.int .i64 YT, .int .i64 YF, s] ∧ Blk w g 50 #[.int .i64 YT, .int .i64 YF, s])] [[], [], [1], [], [3], [3, 4], [], [3, 4, 5, 6], [3, 4, 5, 6, 7], [1, 2, 3, 4, 5, 6, 7, 8], [1, 2, 3, 4, 5, 6, 7, 8, 9], [], [11], [], [11, 12, 13], [11, 12, 13, 14], [1, 2, 3, 4, 5, 6, 7, 8, 9, 10, 11, 12, 13, 14, 15], [1, 2, 3, 4, 5, 6, 7, 8, 9, 10, 11, 12, 13, 14, 15, 16], [0, 1, 2, 3, 4, 5, 6, 7, 8, 9, 10, 11, 12, 13, 14, 15, 16, 17], [0, 1, 2, 3, 4, 5, 6, 7, 8, 9, 10, 11, 12, 13, 14, 15, 16, 17, 18]] 18 (by kernel_rfl) ⟨trivial, trivial, trivial, trivial, trivial, trivial, trivial, trivial, trivial, trivial, trivial, trivial, trivial, trivial, trivial, trivial, rel_stable (fun u lo hi w w' h hb => h.below hb), fun x w w' ⟨g, s, e1, e2, h⟩ hb => ⟨g, s, e1, e2, h.call hb⟩, trivial⟩ ⟨?_, ?_, ?_, ?_, ?_, ?_, ?_, ?_, ?_, ?_, ?_, ?_, ?_, ?_, ?_, ?_, ?_, ?_, trivial⟩ ?_
   ·intro x w hb hk Q' hQ
    clear hk
    simp only [netE] at hQ ⊢
    go_wp2
    exact hQ _ _ (Below.refl _ _) rfl
   ·intro x w hb hk Q' hQ
    clear hk
    simp only [netE] at hQ ⊢
    go_wp2
    exact hQ _ _ (Below.refl _ _) rfl
   ·intro x w hb hk Q' hQ
    have h1 : x.v 1 = .pointer (some ⟨w0.heap.size + 1, 4, none⟩) := (hk 1 (by decide)).1
    clear hk
    simp only [netE] at hQ ⊢
    simp only [h1] at hQ ⊢
    clear h1
    have z := (K2.out.call hb).cell' (i := 4) rfl
    go_wp2
    exact hQ _ _ (Below.refl _ _) rfl
   ·intro x w hb hk Q' hQ
    clear hk
    simp only [netE] at hQ ⊢
    go_wp2
    exact hQ _ _ (Below.refl _ _) rfl
   ·intro x w hb hk Q' hQ
    have h3 : x.v 3 = .pointer (some ⟨w0.heap.size, 1, none⟩) := (hk 3 (by decide)).1
    clear hk
    simp only [netE] at hQ ⊢
    simp only [h3] at hQ ⊢
    clear h3
    go_wp2
    exact hQ _ _ (Below.refl _ _) rfl
   ·intro x w hb hk Q' hQ
    have h4 : x.v 4 = .pointer (some ⟨w0.heap.size, 3, none⟩) := (hk 4 (by decide)).1
    clear hk
    simp only [netE] at hQ ⊢
    simp only [h4] at hQ ⊢
    clear h4
    have z := (K1.out.call hb).cell' (i := 3) rfl
    go_wp2
    exact hQ _ _ (Below.refl _ _) rfl
   ·intro x w hb hk Q' hQ
    clear hk
    simp only [netE] at hQ ⊢
    go_wp2
    exact hQ _ _ (Below.refl _ _) rfl
   ·intro x w hb hk Q' hQ
    have h5 : x.v 5 = .slice (some ⟨bt, ot, none⟩) X.q.t.length c := (hk 5 (by decide)).1
    have h6 : x.v 6 = .int .i64 k := (hk 6 (by decide)).1
    clear hk
    simp only [netE] at hQ ⊢
    simp only [h5, h6] at hQ ⊢
    clear h5 h6
    go_wp2
    exact hQ _ _ (Below.refl _ _) rfl
   ·intro x w hb hk Q' hQ
    have h7 : x.v 7 = .pointer (some ⟨bt, ot + k, none⟩) := (hk 7 (by decide)).1
    clear hk
    simp only [netE] at hQ ⊢
    simp only [h7] at hQ ⊢
    clear h7
    have z := bcell hb (by omega) Y2.out
    go_wp2
    exact hQ _ _ (Below.refl _ _) rfl
   ·intro x w hb hk Q' hQ
    have h2 : x.v 2 = .slice (some ⟨be, oe, none⟩) Y.d.length eb := (hk 2 (by decide)).1
    have h8 : x.v 8 = .int .i64 nt := (hk 8 (by decide)).1
    clear hk
    simp only [netE] at hQ ⊢
    simp only [h2, h8] at hQ ⊢
    clear h2 h8
    go_wp2
    exact hQ _ _ (Below.refl _ _) rfl
   ·intro x w hb hk Q' hQ
    have h9 : x.v 9 = .pointer (some ⟨be, oe + nt, none⟩) := (hk 9 (by decide)).1
    clear hk
    simp only [netE] at hQ ⊢
    simp only [h9] at hQ ⊢
    clear h9
    have z := bcell hb (by omega) Y4.out
    go_wp2
    exact hQ _ _ (Below.refl _ _) rfl
   ·intro x w hb hk Q' hQ
    clear hk
    simp only [netE] at hQ ⊢
    go_wp2
    exact hQ _ _ (Below.refl _ _) rfl
   ·intro x w hb hk Q' hQ
    have h11 : x.v 11 = .pointer (some ⟨w0.heap.size, 4, none⟩) := (hk 11 (by decide)).1
    clear hk
    simp only [netE] at hQ ⊢
    simp only [h11] at hQ ⊢
    clear h11
    have z := (K1.out.call hb).cell' (i := 4) rfl
    go_wp2
    exact hQ _ _ (Below.refl _ _) rfl
   ·intro x w hb hk Q' hQ
    clear hk
    simp only [netE] at hQ ⊢
    go_wp2
    exact hQ _ _ (Below.refl _ _) rfl
   ·intro x w hb hk Q' hQ
    have h12 : x.v 12 = .slice (some ⟨bd, od, none⟩) X.d.length ea := (hk 12 (by decide)).1
    have h13 : x.v 13 = .int .i64 nf := (hk 13 (by decide)).1
    clear hk
    simp only [netE] at hQ ⊢
    simp only [h12, h13] at hQ ⊢
    clear h12 h13
    go_wp2
    exact hQ _ _ (Below.refl _ _) rfl
   ·intro x w hb hk Q' hQ
    have h14 : x.v 14 = .pointer (some ⟨bd, od + nf, none⟩) := (hk 14 (by decide)).1
    clear hk
    simp only [netE] at hQ ⊢
    simp only [h14] at hQ ⊢
    clear h14
    have z := bcell hb (by omega) Y3.out
    go_wp2
    exact hQ _ _ (Below.refl _ _) rfl
   ·intro x w hb hk Q' hQ
    have h1 : x.v 1 = .pointer (some ⟨w0.heap.size + 1, 4, none⟩) := (hk 1 (by decide)).1
    have h2 : x.v 2 = .slice (some ⟨be, oe, none⟩) Y.d.length eb := (hk 2 (by decide)).1
    have h3 : x.v 3 = .pointer (some ⟨w0.heap.size, 1, none⟩) := (hk 3 (by decide)).1
    have h4 : x.v 4 = .pointer (some ⟨w0.heap.size, 3, none⟩) := (hk 4 (by decide)).1
    have h5 : x.v 5 = .slice (some ⟨bt, ot, none⟩) X.q.t.length c := (hk 5 (by decide)).1
    have h6 : x.v 6 = .int .i64 k := (hk 6 (by decide)).1
    have h7 : x.v 7 = .pointer (some ⟨bt, ot + k, none⟩) := (hk 7 (by decide)).1
    have h8 : x.v 8 = .int .i64 nt := (hk 8 (by decide)).1
    have h9 : x.v 9 = .pointer (some ⟨be, oe + nt, none⟩) := (hk 9 (by decide)).1
    have h10 : x.v 10 = .int .i64 YT := (hk 10 (by decide)).1
    have h11 : x.v 11 = .pointer (some ⟨w0.heap.size, 4, none⟩) := (hk 11 (by decide)).1
    have h12 : x.v 12 = .slice (some ⟨bd, od, none⟩) X.d.length ea := (hk 12 (by decide)).1
    have h13 : x.v 13 = .int .i64 nf := (hk 13 (by decide)).1
    have h14 : x.v 14 = .pointer (some ⟨bd, od + nf, none⟩) := (hk 14 (by decide)).1
    have h15 : x.v 15 = .int .i64 YF := (hk 15 (by decide)).1
    clear hk
    simp only [netE] at hQ ⊢
    simp only [h1, h2, h3, h4, h5, h6, h7, h8, h9, h10, h11, h12, h13, h14, h15] at hQ ⊢
    clear h1 h2 h3 h4 h5 h6 h7 h8 h9 h10 h11 h12 h13 h14 h15
    go_wp2_with fail
    refine (zero_any (YT : Int) (YF : Int) _ (by omega) (by omega) (by omega) (by omega)).mono ?_; rintro e w3 ⟨v3, rfl, hZ, hb3⟩
    rw [zmx_flat] at hZ
    go_wp2
    exact hQ _ _ hb3 hZ
   ·intro x w hb hk Q' hQ
    have h1 : x.v 1 = .pointer (some ⟨w0.heap.size + 1, 4, none⟩) := (hk 1 (by decide)).1
    have h2 : x.v 2 = .slice (some ⟨be, oe, none⟩) Y.d.length eb := (hk 2 (by decide)).1
    have h3 : x.v 3 = .pointer (some ⟨w0.heap.size, 1, none⟩) := (hk 3 (by decide)).1
    have h4 : x.v 4 = .pointer (some ⟨w0.heap.size, 3, none⟩) := (hk 4 (by decide)).1
    have h5 : x.v 5 = .slice (some ⟨bt, ot, none⟩) X.q.t.length c := (hk 5 (by decide)).1
    have h6 : x.v 6 = .int .i64 k := (hk 6 (by decide)).1
    have h7 : x.v 7 = .pointer (some ⟨bt, ot + k, none⟩) := (hk 7 (by decide)).1
    have h8 : x.v 8 = .int .i64 nt := (hk 8 (by decide)).1
    have h9 : x.v 9 = .pointer (some ⟨be, oe + nt, none⟩) := (hk 9 (by decide)).1
    have h10 : x.v 10 = .int .i64 YT := (hk 10 (by decide)).1
    have h11 : x.v 11 = .pointer (some ⟨w0.heap.size, 4, none⟩) := (hk 11 (by decide)).1
    have h12 : x.v 12 = .slice (some ⟨bd, od, none⟩) X.d.length ea := (hk 12 (by decide)).1
    have h13 : x.v 13 = .int .i64 nf := (hk 13 (by decide)).1
    have h14 : x.v 14 = .pointer (some ⟨bd, od + nf, none⟩) := (hk 14 (by decide)).1
    have h15 : x.v 15 = .int .i64 YF := (hk 15 (by decide)).1
    have h16 : MxO w (x.lo 16) (x.hi 16) (x.v 16) (mxF YT YF fun _ _ => 0) := (hk 16 (by decide)).1
    have s16 := (hk 16 (by decide)).2
    clear hk
    simp only [netE] at hQ ⊢
    simp only [h1, h2, h3, h4, h5, h6, h7, h8, h9, h10, h11, h12, h13, h14, h15] at hQ ⊢
    clear h1 h2 h3 h4 h5 h6 h7 h8 h9 h10 h11 h12 h13 h14 h15
    obtain ⟨s, e16, hs⟩ := h16
    obtain ⟨sA, sc, es⟩ := hs.1.form
    obtain ⟨sn, hsn⟩ : ∃ n, (mxF YT YF fun _ _ => 0).a.length = n := ⟨_, rfl⟩
    rw [hsn] at es
    clear hsn hs
    subst es
    have hQ' := hQ (.slice (some ⟨w.heap.size, 0, none⟩) 1 1) (w.alloc (.cells #[.int .i64 (mxF YT YF fun _ _ => 0).r, .int .i64 (mxF YT YF fun _ _ => 0).c, .slice sA sn sc] 50)) (below_alloc _ _) ⟨_, _, rfl, e16, Blk.new _ _ _⟩
    simp only [mxF] at e16 hQ'
    rw [e16] at hQ' ⊢
    go_wp2
    exact hQ'
   ·intro x w hb hk hiv hdj
    have h0 : x.v 0 = .slice OA k oc := hk 0 (by decide)
    have h1 : x.v 1 = .pointer (some ⟨w0.heap.size + 1, 4, none⟩) := hk 1 (by decide)
    have h2 : x.v 2 = .slice (some ⟨be, oe, none⟩) Y.d.length eb := hk 2 (by decide)
    have h3 : x.v 3 = .pointer (some ⟨w0.heap.size, 1, none⟩) := hk 3 (by decide)
    have h4 : x.v 4 = .pointer (some ⟨w0.heap.size, 3, none⟩) := hk 4 (by decide)
    have h5 : x.v 5 = .slice (some ⟨bt, ot, none⟩) X.q.t.length c := hk 5 (by decide)
    have h6 : x.v 6 = .int .i64 k := hk 6 (by decide)
    have h7 : x.v 7 = .pointer (some ⟨bt, ot + k, none⟩) := hk 7 (by decide)
    have h8 : x.v 8 = .int .i64 nt := hk 8 (by decide)
    have h9 : x.v 9 = .pointer (some ⟨be, oe + nt, none⟩) := hk 9 (by decide)
    have h10 : x.v 10 = .int .i64 YT := hk 10 (by decide)
    have h11 : x.v 11 = .pointer (some ⟨w0.heap.size, 4, none⟩) := hk 11 (by decide)
    have h12 : x.v 12 = .slice (some ⟨bd, od, none⟩) X.d.length ea := hk 12 (by decide)
    have h13 : x.v 13 = .int .i64 nf := hk 13 (by decide)
    have h14 : x.v 14 = .pointer (some ⟨bd, od + nf, none⟩) := hk 14 (by decide)
    have h15 : x.v 15 = .int .i64 YF := hk 15 (by decide)
    have h16 : MxO w (x.lo 16) (x.hi 16) (x.v 16) (mxF YT YF fun _ _ => 0) := hk 16 (by decide)
    have h17 : ∃ g s, x.v 17 = .slice (some ⟨g, 0, none⟩) 1 1 ∧ x.v 16 = .agg #[.int .i64 YT, .int .i64 YF, s] ∧ Blk w g 50 #[.int .i64 YT, .int .i64 YF, s] := hk 17 (by decide)
    clear hk
    simp only [netE]
    simp only [List.drop_succ_cons, List.drop_zero, h0, h1, h2, h3, h4, h5, h6, h7, h8, h9, h10, h11, h12, h13, h14, h15]
    clear h0 h1 h2 h3 h4 h5 h6 h7 h8 h9 h10 h11 h12 h13 h14 h15
    obtain ⟨g, s, ej, ei, hg⟩ := h17
    have li := (hiv 16 (by decide)).1
    have hi_ := (hiv 16 (by decide)).2.2
    obtain ⟨s', ei', hs, hI⟩ := h16
    rw [ei] at ei'
    simp only [Value.agg.injEq, Array.mk.injEq, List.cons.injEq, and_true, mxF, true_and] at ei'
    subst ei'
    rw [ej]
    have hbs2 := hb.size
    have HOZ := Lib.hid (HO.out.below hb)
    have HKZ := Lib.hid hg
    have HSZ := Lib.hid (hs.wider li hi_)
    have HI := Lib.hid hI
    have HBZ := Lib.hid (HB.out.trans (hb.mono hbs))
    clear hiv hdj hs hI ej ei hg hb
    refine wpList_appMats (by rfl) (.tmp 17) (.tmp 34) (by rfl) W.heap.size wr.heap.size _ (czL X Y k) (by rfl) HOZ.out g 1 wr.heap.size w.heap.size (mxF YT YF fun _ _ => 0) s (by rfl) HKZ.out HSZ.out HI.out (Nat.le_refl _) hbs (Nat.le_refl _) (by omega) (by rw [czL_length]; omega) ?_
    intro v' w' h1 h2
    rw [← HZS.out] at h1
    have H1 := Lib.hid h1
    have H2 := Lib.hid (HBZ.out.trans (h2.below (Nat.le_refl _) (by omega)))
    clear h1 h2
    go_wp2
    go_roundw
    case rel => exact ⟨k + 1, by omega, by go_num, H1.out, H2.out⟩
    case measure => simp [intOf]; omega
  ·obtain rfl : k = X.q.f.length := by omega
   have HO := Lib.hid hO
   have GF := Lib.hid (G0.out.trans (hbel.mono G0.out.size))
   have hgs := G0.out.size
   clear hO hbel
   go_wp2
   go_ret
   exact ⟨_, rfl, HO.out.wider hgs (Nat.le_refl _), GF.out⟩
end Go.Proofs.YtcmlflppndfdcaaGreat
namespace Go.Proofs.YtcmlflppndfdcaaGreat
open Go.RowKit
def tch (q : Qv) (v : Int) (i : Nat) : Bool := decide (q.f.getD i 0 = v) || decide (q.t.getD i 0 = v)
def rvF (q : Qv) (v : Int) (k i : Nat) : Int := if i < k ∧ tch q v i = true then q.t.getD i 0 else q.f.getD i 0
def rvT (q : Qv) (v : Int) (k i : Nat) : Int := if i < k ∧ tch q v i = true then q.f.getD i 0 else q.t.getD i 0
def rvK (q : Qv) (v : Int) (k : Nat) : Qv := ⟨q.v, rowF q.f.length (rvF q v k), rowF q.f.length (rvT q v k)⟩
def rvQ (q : Qv) (v : Int) : Qv := rvK q v q.f.length
theorem QuivO.cellF {w : World} {lo hi g n c k : Nat} {v : Int} {b : Value} {q : Qv} (h : QuivO w lo hi (.agg #[.int .i64 v, .slice (some ⟨g, 0, none⟩) n c, b]) q) (hk : k < q.f.length) :
  w.cell? ⟨g, k, none⟩ = some (.int .i64 (q.f.getD k 0)) ∧ w.frozen? ⟨g, k, none⟩ = false := by
 obtain ⟨a', b', e, hF, hr⟩ := h
 simp only [Value.agg.injEq, Array.mk.injEq, List.cons.injEq, and_true, Value.int.injEq, true_and] at e
 obtain ⟨rfl, rfl, rfl⟩ := e
 have h1 := hF.1 (.slice (some ⟨g, 0, none⟩) n c, q.f) (by simp)
 exact ⟨(h1.1.cellG hk).1, h1.1.frozenG k⟩
theorem QuivO.addr {w : World} {lo hi n m c d : Nat} {v : Int} {A C : Option Addr} {q : Qv} (h : QuivO w lo hi (.agg #[.int .i64 v, .slice A n c, .slice C m d]) q) (hf : 0 < q.f.length) (ht : 0 < q.t.length) :
  ∃ g g', A = some ⟨g, 0, none⟩ ∧ C = some ⟨g', 0, none⟩ ∧ lo ≤ g ∧ g < hi ∧ lo ≤ g' ∧ g' < hi := by
 obtain ⟨a', b', e, hF, hr⟩ := h
 simp only [Value.agg.injEq, Array.mk.injEq, List.cons.injEq, and_true, Value.int.injEq, true_and] at e
 obtain ⟨rfl, rfl, rfl⟩ := e
 have h1 := hF.1 (.slice A n c, q.f) (by simp)
 have h2 := hF.1 (.slice C m d, q.t) (by simp)
 obtain ⟨g, k, e1, l1, l2, _⟩ := h1.at_ hf
 obtain ⟨g', k', e2, l3, l4, _⟩ := h2.at_ ht
 injection e1 with e1
 injection e2 with e2
 exact ⟨g, g', e1, e2, l1, l2, l3, l4⟩
end Go.Proofs.YtcmlflppndfdcaaGreat
namespace Go.Proofs.YtcmlflppndfdcaaGreat
open Go.RowKit
def outS (x : Rp) (v : Int) (C : Nat) : Nat → Nat × (Nat → Nat → Int)
 | 0 => (0, fun _ _ => 0)
 | k + 1 => if x.q.f.getD k 0 = v then ((outS x v C k).1 + (x.m.getD k ⟨0, 0, []⟩).r.toNat, blF (outS x v C k).1 (outS x v C k).2 (entry (x.m.getD k ⟨0, 0, []⟩).a C)) else outS x v C k
def inS (x : Rp) (v : Int) (R : Nat) : Nat → Nat × (Nat → Nat → Int)
 | 0 => (0, fun _ _ => 0)
 | k + 1 => if x.q.t.getD k 0 = v then ((inS x v R k).1 + (x.m.getD k ⟨0, 0, []⟩).c.toNat, bsF (inS x v R k).1 (inS x v R k).2 (entry (x.m.getD k ⟨0, 0, []⟩).a (x.m.getD k ⟨0, 0, []⟩).c.toNat)) else inS x v R k
def outOk (x : Rp) (v : Int) : Bool := isRep x && endV x.q.t x.q v
def inOk (x : Rp) (v : Int) : Bool := isRep x && endV x.q.f x.q v
def outP (x : Rp) (v : Int) : Mx × Bool := if outOk x v then (mxF (outS x v (dAt x.d v).toNat x.q.f.length).1 (dAt x.d v).toNat (outS x v (dAt x.d v).toNat x.q.f.length).2, true) else (mx0, false)
def inP (x : Rp) (v : Int) : Mx × Bool := if inOk x v then (mxF (dAt x.d v).toNat (inS x v (dAt x.d v).toNat x.q.f.length).1 (inS x v (dAt x.d v).toNat x.q.f.length).2, true) else (mx0, false)
def outM (x : Rp) (v : Int) (C k : Nat) : Mx := mxF (outS x v C k).1 C (outS x v C k).2
def inM (x : Rp) (v : Int) (C k : Nat) : Mx := mxF C (inS x v C k).1 (inS x v C k).2
end Go.Proofs.YtcmlflppndfdcaaGreat
namespace Go.Proofs.YtcmlflppndfdcaaGreat
open Go.RowKit
def RepI (w : World) (lo hi : Nat) (val : Value) (x : Rp) : Prop := ∃ f t d m vs mi, val = .agg #[.int .i64 x.p, .int .i64 x.q.v, f, t, d, m] ∧ IntsO w lo mi f x.q.f ∧ IntsO w lo mi t x.q.t ∧ IntsO w lo mi d x.d ∧ OutM w lo hi m vs x.m ∧ vs.length = x.m.length ∧
 Fam w mi hi (vs.zip (x.m.map Mx.a)) ∧ (lo ≤ mi ∧ mi ≤ hi) ∧ (I64 x.p ∧ I64 x.q.v) ∧ ∀ m ∈ x.m, I64 m.r ∧ I64 m.c
theorem RepI.rd {w : World} {lo hi : Nat} {v : Value} {x : Rp} (h : RepI w lo hi v x) : RpR w w.heap.size v x := by
 obtain ⟨f, t, d, m, vs, mi, e, h1, h2, h3, h4, h5, h6, _, h7, h8⟩ := h
 exact ⟨f, t, d, m, e, h1.rd, h2.rd, h3.rd, OutM.rd h4 h5 (fun p hp => (h6.1 p hp).rd) h8, h7⟩
theorem RepI.chg {w w' : World} {lo hi lo' hi' : Nat} {v : Value} {x : Rp} (h : RepI w lo hi v x) (hc : Chg lo' hi' w w') (hd : hi ≤ lo' ∨ hi' ≤ lo) : RepI w' lo hi v x := by
 obtain ⟨f, t, d, m, vs, mi, e, h1, h2, h3, h4, h5, h6, h9, h7, h8⟩ := h
 exact ⟨f, t, d, m, vs, mi, e, h1.chg hc (by omega), h2.chg hc (by omega), h3.chg hc (by omega), h4.chg hc hd, h5, h6.chg hc (by omega), h9, h7, h8⟩
theorem RepI.below {w w' : World} {lo hi : Nat} {v : Value} {x : Rp} (h : RepI w lo hi v x) (hb : Below w.heap.size w w') : RepI w' lo hi v x := by
 obtain ⟨f, t, d, m, vs, mi, e, h1, h2, h3, h4, h5, h6, h9, h7, h8⟩ := h
 exact ⟨f, t, d, m, vs, mi, e, h1.below hb, h2.below hb, h3.below hb, h4.below hb, h5, h6.below hb, h9, h7, h8⟩
theorem RepI.wider {w : World} {lo hi lo' hi' : Nat} {v : Value} {x : Rp} (h : RepI w lo hi v x) (k1 : lo' ≤ lo) (k2 : hi ≤ hi') : RepI w lo' hi' v x := by
 obtain ⟨f, t, d, m, vs, mi, e, h1, h2, h3, h4, h5, h6, h9, h7, h8⟩ := h
 exact ⟨f, t, d, m, vs, mi, e, h1.wider k1 (Nat.le_refl _), h2.wider k1 (Nat.le_refl _), h3.wider k1 (Nat.le_refl _), h4.mono k1 k2, h5, h6.mono (Nat.le_refl _) k2, by omega, h7, h8⟩
theorem RepI.zero (w : World) {lo hi : Nat} (h : lo ≤ hi) : RepI w lo hi (.agg #[.int .i64 0, .int .i64 0, .slice none 0 0, .slice none 0 0, .slice none 0 0, .slice none 0 0]) rp0 :=
 ⟨_, _, _, _, [], lo, rfl, ⟨OwnI.nil _ _, by simp [Value.ownBlock]⟩, ⟨OwnI.nil _ _, by simp [Value.ownBlock]⟩, ⟨OwnI.nil _ _, by simp [Value.ownBlock]⟩, RowO.nil _ w lo hi, rfl, ⟨fun p hp => by simp at hp, by simp⟩, ⟨Nat.le_refl _, h⟩, by simp [rp0, I64], fun m hm => by simp [rp0] at hm⟩
set_option maxHeartbeats 6400000 in
set_option maxRecDepth 100000 in
theorem l8Zero_any (p : Int) (u xv : Value) (q : Qv) (d : List Int) (w0 : World) (hp : I64 p) (hu : QvR w0 w0.heap.size u q) (hx : SlI w0 w0.heap.size xv d) (hq : areDims q d = true) :
  Calls Tryz.prog 29 #[.int .i64 p, u, xv] w0 fun e w' => ∃ v, e = .returned v ∧ RepI w' w0.heap.size w'.heap.size v (zRep p q d) ∧ Below w0.heap.size w0 w' := by
 have hu' := hu
 obtain ⟨A, c, C, c', rfl, hf, ht, hr, lf, lt⟩ := hu.open_
 obtain ⟨XA, xc, rfl, _, _, lx, hx⟩ := hx.open_
 clear hu
 obtain ⟨W, hW⟩ : ∃ W, W = (w0.alloc (.cells #[.int .i64 q.v, .slice A q.f.length c, .slice C q.t.length c'] 29)).alloc (.cells #[.int .i64 0, .int .i64 0, .slice none 0 0, .slice none 0 0, .slice none 0 0, .slice none 0 0] 32) := ⟨_, rfl⟩
 have g0 : Below w0.heap.size w0 W := by rw [hW]; exact ((Below.refl _ _).alloc (Nat.le_refl _) _).alloc (by simp) _
 have k1 : Blk W w0.heap.size 29 #[.int .i64 q.v, .slice A q.f.length c, .slice C q.t.length c'] := by rw [hW]; exact (Blk.new _ _ _).alloc _
 have k2 : Blk W (w0.heap.size + 1) 32 #[.int .i64 0, .int .i64 0, .slice none 0 0, .slice none 0 0, .slice none 0 0, .slice none 0 0] := by
  rw [hW]
  have := Blk.new (w0.alloc (.cells #[.int .i64 q.v, .slice A q.f.length c, .slice C q.t.length c'] 29)) 32 #[.int .i64 0, .int .i64 0, .slice none 0 0, .slice none 0 0, .slice none 0 0, .slice none 0 0]
  simpa only [World.size_alloc] using this
 have sz : W.heap.size = w0.heap.size + 1 + 1 := by rw [hW]; simp
 have SZ := Lib.hid sz
 clear sz
 have HQ := Lib.hid hq
 clear hq
 have hxW := SlI.next g0 hx
 have huW := QvR.next g0 hu'
 go_enter Tryz.func29, Tryz.ntmps29
 have c0 := k1.cell' (i := 0) rfl
 have c1 := k1.cell' (i := 1) rfl
 have c2 := k1.cell' (i := 2) rfl
 go_wp2_with fail
 rw [← hW]; clear hW
 refine (l6Copy_any _ q _ huW).mono ?_; rintro e w1 ⟨v1, rfl, ⟨qa, qb, rfl, ha, hb2, hqv⟩, hb1⟩
 obtain ⟨A1, a1, rfl⟩ := ha.form
 obtain ⟨C1, b1, rfl⟩ := hb2.form
 have s1 := hb1.size
 clear c0 c1 c2
 (go_wp2_with (at_builtin; refine Hold.stop ?_)); unfold Hold
 refine wpList_append_fresh (by rfl) (.tmp 12) (.tmp 13) (by rfl) w1.heap.size w1.heap.size (w1.alloc (.cells #[] 3)).heap.size #[] (by rfl) (Blk.new _ _ _) rfl (Nat.le_refl _) XA xc d (by rfl) (SlI.next (below_alloc _ _) (SlI.next hb1 hxW)) ?_
 intro v2 w2 ho hb2'
 obtain ⟨E1, e1, rfl, _, _⟩ := ho.form
 have hb3 : Below w1.heap.size w1 w2 := bthen (below_alloc _ _) hb2'
 have s2 := hb3.size
 have s2' := hb2'.size
 obtain ⟨W3, hW3⟩ : ∃ W3, W3 = (w2.alloc (.cells #[] 50)).alloc (.cells #[.int .i64 p, .int .i64 q.v, .slice A1 q.f.length a1, .slice C1 q.t.length b1, .slice E1 d.length e1, .slice (some ⟨w2.heap.size, 0, none⟩) 0 0] 32) := ⟨_, rfl⟩
 have gA : Below w2.heap.size w2 W3 := by rw [hW3]; exact ((Below.refl _ _).alloc (Nat.le_refl _) _).alloc (by simp) _
 have z3 : W3.heap.size = w2.heap.size + 1 + 1 := by rw [hW3]; simp
 have hBm3 : Blk W3 w2.heap.size 50 #[] := by rw [hW3]; exact (Blk.new _ _ _).alloc _
 have hB3 : Blk W3 (w2.heap.size + 1) 32 #[.int .i64 p, .int .i64 q.v, .slice A1 q.f.length a1, .slice C1 q.t.length b1, .slice E1 d.length e1, .slice (some ⟨w2.heap.size, 0, none⟩) 0 0] := by
  rw [hW3]
  have := Blk.new (w2.alloc (.cells #[] 50)) 32 #[.int .i64 p, .int .i64 q.v, .slice A1 q.f.length a1, .slice C1 q.t.length b1, .slice E1 d.length e1, .slice (some ⟨w2.heap.size, 0, none⟩) 0 0]
  simpa only [World.size_alloc] using this
 have g1 : Below W.heap.size W w2 := bthen hb1 hb3
 have gW3 : Below W.heap.size W W3 := bthen g1 gA
 have sW := g1.size
 simp only [World.size_alloc] at s2'
 have hO3 : RowO 50 3 W3 W.heap.size W3.heap.size (.slice (some ⟨w2.heap.size, 0, none⟩) 0 0) 0 [] := by
  have := hBm3.own (base := W.heap.size) (n := 0) (cap := 0) (size := 3) sW (Nat.le_refl _) (by simp only [maxLen]; omega) (by simp)
  exact ⟨by simpa using this, fun k hk => by simp [Value.ownBlock] at hk; subst hk; exact hBm3.lt, by omega⟩
 have ha3 : IntsO W3 W.heap.size W3.heap.size (.slice A1 q.f.length a1) q.f := ((ha.below hb3).below gA).wider (Nat.le_refl _) (by omega)
 have hb3' : IntsO W3 W.heap.size W3.heap.size (.slice C1 q.t.length b1) q.t := ((hb2.below hb3).below gA).wider (Nat.le_refl _) (by omega)
 have hd3 : IntsO W3 W.heap.size W3.heap.size (.slice E1 d.length e1) d := ((IntsO.of_own ho).below gA).wider (by omega) (by omega)
 have hgR : W.heap.size ≤ (w2.heap.size + 1) := by omega
 have q1' : W3.cell? ⟨w0.heap.size, 1, none⟩ = some (.slice A q.f.length c) := (k1.below gW3 (by have := SZ.out; omega)).cell' (i := 1) rfl
 have q1'' : w2.cell? ⟨w0.heap.size, 1, none⟩ = some (.slice A q.f.length c) := (k1.below g1 (by have := SZ.out; omega)).cell' (i := 1) rfl
 have hlt0 : w0.heap.size < w2.heap.size := by have := SZ.out; omega
 have K1 := Lib.hid k1
 have K2 := Lib.hid k2
 have G0 := Lib.hid g0
 have HA3 := Lib.hid ha3
 have HB3 := Lib.hid hb3'
 have HD3 := Lib.hid hd3
 have H3 := Lib.hid hB3
 have O3 := Lib.hid hO3
 have GW3 := Lib.hid gW3
 have HGR := Lib.hid (show (w2.heap.size + 1) < W3.heap.size by omega)
 clear ho ha hb2 hBm3 ha3 hb3 hb3' hd3 hB3 hO3 gW3 k1 k2 g0 hb1 hb2' gA g1 s1 s2 s2' sW z3
 go_wp2
 rw [← hW3]
 clear hW3 q1' q1''
 go_loopw [8] (fun i wr => ∃ (k : Nat) (mv : Value) (vs : List Value), k ≤ q.f.length ∧ i = .int .i64 k ∧ Below W.heap.size W wr ∧ W3.heap.size ≤ wr.heap.size ∧ Blk wr (w2.heap.size + 1) 32 #[.int .i64 p, .int .i64 q.v, .slice A1 q.f.length a1, .slice C1 q.t.length b1, .slice E1 d.length e1, mv] ∧
  IntsO wr W.heap.size W3.heap.size (.slice A1 q.f.length a1) q.f ∧ IntsO wr W.heap.size W3.heap.size (.slice C1 q.t.length b1) q.t ∧ IntsO wr W.heap.size W3.heap.size (.slice E1 d.length e1) d ∧
  RowO 50 3 wr W.heap.size wr.heap.size mv k (mxCs vs (zms q d k)) ∧ vs.length = k ∧ Fam wr W3.heap.size wr.heap.size (vs.zip ((zms q d k).map Mx.a))) (fun i _ => q.f.length - (intOf i).toNat)
 case atStart => exact ⟨0, _, [], Nat.zero_le _, rfl, GW3.out, Nat.le_refl _, H3.out, HA3.out, HB3.out, HD3.out, O3.out, rfl, ⟨fun p hp => by simp at hp, by simp⟩⟩
 case round =>
  obtain ⟨k, mv, vs, hk, rfl, hbel, hlt2, hB, hIa, hIb, hId, hO, hvl, hF⟩ := hrel
  have HVL := Lib.hid hvl
  clear hvl
  have kq := (K1.out).below hbel (by have := SZ.out; omega)
  have p1 := kq.cell' (i := 1) rfl
  by_cases hlt : k < q.f.length
  ·obtain ⟨nf, nt, yf, yt, ef, et, df, dt, lnf, lnt, lnf5, lnt5, hkt0⟩ := rep_at (x := ⟨0, q, d, []⟩) HQ.out hlt
   simp only at ef et df dt lnf lnt hkt0
   have hkf := hlt
   have hd := (areDims_t.1 HQ.out).2.2.1
   have hlf6 : q.f.length ≤ 6 := (isQ_t.1 (areDims_t.1 HQ.out).1).2.2.1
   have byf := hd _ (List.mem_of_getElem? df)
   have byt := hd _ (List.mem_of_getElem? dt)
   have HZS := Lib.hid (zms_succ ef et df dt)
   clear hd
   have hkt := hkt0
   obtain ⟨bf, of_, xf, eA, hbf, HXF, f1, _⟩ := SlI.at_ hf hkf
   obtain ⟨bt, ot, xt, eC, hbt, HXT, t1, _⟩ := SlI.at_ ht hkt
   obtain ⟨bd, od, xdf, eX, hbd, HXDF, d1, _⟩ := SlI.at_ hx lnf
   obtain ⟨bd', od', xdt, eX', hbd', HXDT, d2, _⟩ := SlI.at_ hx lnt
   subst eA eC eX
   injection eX' with eX'
   injection eX' with e1 e2
   subst e1 e2
   have q1 := HXF.out
   rw [ef] at q1
   injection q1 with q1
   subst q1
   have q2 := HXT.out
   rw [et] at q2
   injection q2 with q2
   subst q2
   have q3 := HXDF.out
   rw [df] at q3
   injection q3 with q3
   subst q3
   have q4 := HXDT.out
   rw [dt] at q4
   injection q4 with q4
   subst q4
   clear HXF HXT HXDF HXDT ef et df dt
   have gw : Below w0.heap.size w0 wr := G0.out.trans (hbel.mono (G0.out).size)
   have gws := gw.size
   have hbelS := hbel.size
   have sz := SZ.out
   have a1' : (0 : Int) ≤ (k : Int) := by omega
   have a2' : (k : Int) < q.f.length := by omega
   have a3' : (k : Int) < q.t.length := by omega
   have a4' : (0 : Int) ≤ (nf : Int) := by omega
   have a5' : (nf : Int) < d.length := by omega
   have a6' : (0 : Int) ≤ (nt : Int) := by omega
   have a7' : (nt : Int) < d.length := by omega
   have SZ2 := Lib.hid sz
   clear sz
   go_wp2
   refine wp_region_net (by kernel_rfl) [.eq (.pointer (some ⟨w2.heap.size + 1, 5, none⟩)), .eq (mv), .eq (.slice (some ⟨bd, od, none⟩) d.length xc), .eq (.pointer (some ⟨w0.heap.size, 2, none⟩)), .eq (.slice (some ⟨bt, ot, none⟩) q.t.length c'), .eq (.int .i64 k), .eq (.pointer (some ⟨bt, ot + k, none⟩)), .eq (.int .i64 nt), .eq (.pointer (some ⟨bd, od + nt, none⟩)), .eq (.int .i64 yt), .eq (.slice (some ⟨bd, od, none⟩) d.length xc), .eq (.pointer (some ⟨w0.heap.size, 1, none⟩)), .eq (.slice (some ⟨bf, of_, none⟩) q.f.length c), .eq (.int .i64 k), .eq (.pointer (some ⟨bf, of_ + k, none⟩)), .eq (.int .i64 nf), .eq (.pointer (some ⟨bd, od + nf, none⟩)), .eq (.int .i64 yf), rel 18 (fun u lo hi w => MxO w lo hi u (zmx yt yf)), .rel (fun x w => ∃ g s, x.v 19 = .slice (some ⟨g, 0, none⟩) 1 1 ∧ x.v 18 = .agg #[.int .i64 yt, .int .i64 yf, s] ∧ Blk w g 50 #[.int .i64 yt, .int .i64 yf, s])] [[], [0], [], [], [3], [], [3, 4, 5], [3, 4, 5, 6], [2, 3, 4, 5, 6, 7], [2, 3, 4, 5, 6, 7, 8], [], [], [11], [], [11, 12, 13], [11, 12, 13, 14], [10, 11, 12, 13, 14, 15], [10, 11, 12, 13, 14, 15, 16], [2, 3, 4, 5, 6, 7, 8, 9, 10, 11, 12, 13, 14, 15, 16, 17], [2, 3, 4, 5, 6, 7, 8, 9, 10, 11, 12, 13, 14, 15, 16, 17, 18], [0, 1, 2, 3, 4, 5, 6, 7, 8, 9, 10, 11, 12, 13, 14, 15, 16, 17, 18, 19], [0, 1, 2, 3, 4, 5, 6, 7, 8, 9, 10, 11, 12, 13, 14, 15, 16, 17, 18, 19, 20], [0, 1, 2, 3, 4, 5, 6, 7, 8, 9, 10, 11, 12, 13, 14, 15, 16, 17, 18, 19, 20, 21]] 20 (by kernel_rfl) ⟨trivial, trivial, trivial, trivial, trivial, trivial, trivial, trivial, trivial, trivial, trivial, trivial, trivial, trivial, trivial, trivial, trivial, trivial, rel_stable (fun u lo hi w w' h hb => h.below hb), fun x w w' ⟨g, s, e1, e2, h⟩ hb => ⟨g, s, e1, e2, h.call hb⟩, trivial⟩ ⟨?_, ?_, ?_, ?_, ?_, ?_, ?_, ?_, ?_, ?_, ?_, ?_, ?_, ?_, ?_, ?_, ?_, ?_, ?_, ?_, trivial⟩ ?_
   ·intro x w hb hk Q' hQ
    clear hk
    simp only [netE] at hQ ⊢
    go_wp2
    exact hQ _ _ (Below.refl _ _) rfl
   ·intro x w hb hk Q' hQ
    have h0 : x.v 0 = .pointer (some ⟨w2.heap.size + 1, 5, none⟩) := (hk 0 (by decide)).1
    clear hk
    simp only [netE] at hQ ⊢
    simp only [h0] at hQ ⊢
    clear h0
    have z5 := (hB.call hb).cell' (i := 5) rfl
    go_wp2
    exact hQ _ _ (Below.refl _ _) rfl
   ·intro x w hb hk Q' hQ
    clear hk
    simp only [netE] at hQ ⊢
    go_wp2
    exact hQ _ _ (Below.refl _ _) rfl
   ·intro x w hb hk Q' hQ
    clear hk
    simp only [netE] at hQ ⊢
    go_wp2
    exact hQ _ _ (Below.refl _ _) rfl
   ·intro x w hb hk Q' hQ
    have h3 : x.v 3 = .pointer (some ⟨w0.heap.size, 2, none⟩) := (hk 3 (by decide)).1
    clear hk
    simp only [netE] at hQ ⊢
    simp only [h3] at hQ ⊢
    clear h3
    have z2 := (kq.call hb).cell' (i := 2) rfl
    go_wp2
    exact hQ _ _ (Below.refl _ _) rfl
   ·intro x w hb hk Q' hQ
    clear hk
    simp only [netE] at hQ ⊢
    go_wp2
    exact hQ _ _ (Below.refl _ _) rfl
   ·intro x w hb hk Q' hQ
    have h4 : x.v 4 = .slice (some ⟨bt, ot, none⟩) q.t.length c' := (hk 4 (by decide)).1
    have h5 : x.v 5 = .int .i64 k := (hk 5 (by decide)).1
    clear hk
    simp only [netE] at hQ ⊢
    simp only [h4, h5] at hQ ⊢
    clear h4 h5
    go_wp2
    exact hQ _ _ (Below.refl _ _) rfl
   ·intro x w hb hk Q' hQ
    have h6 : x.v 6 = .pointer (some ⟨bt, ot + k, none⟩) := (hk 6 (by decide)).1
    clear hk
    simp only [netE] at hQ ⊢
    simp only [h6] at hQ ⊢
    clear h6
    have z2 := bcell hb (by omega) (bcell gw hbt t1)
    go_wp2
    exact hQ _ _ (Below.refl _ _) rfl
   ·intro x w hb hk Q' hQ
    have h2 : x.v 2 = .slice (some ⟨bd, od, none⟩) d.length xc := (hk 2 (by decide)).1
    have h7 : x.v 7 = .int .i64 nt := (hk 7 (by decide)).1
    clear hk
    simp only [netE] at hQ ⊢
    simp only [h2, h7] at hQ ⊢
    clear h2 h7
    go_wp2
    exact hQ _ _ (Below.refl _ _) rfl
   ·intro x w hb hk Q' hQ
    have h8 : x.v 8 = .pointer (some ⟨bd, od + nt, none⟩) := (hk 8 (by decide)).1
    clear hk
    simp only [netE] at hQ ⊢
    simp only [h8] at hQ ⊢
    clear h8
    have z2 := bcell hb (by omega) (bcell gw hbd' d2)
    go_wp2
    exact hQ _ _ (Below.refl _ _) rfl
   ·intro x w hb hk Q' hQ
    clear hk
    simp only [netE] at hQ ⊢
    go_wp2
    exact hQ _ _ (Below.refl _ _) rfl
   ·intro x w hb hk Q' hQ
    clear hk
    simp only [netE] at hQ ⊢
    go_wp2
    exact hQ _ _ (Below.refl _ _) rfl
   ·intro x w hb hk Q' hQ
    have h11 : x.v 11 = .pointer (some ⟨w0.heap.size, 1, none⟩) := (hk 11 (by decide)).1
    clear hk
    simp only [netE] at hQ ⊢
    simp only [h11] at hQ ⊢
    clear h11
    have z2 := (kq.call hb).cell' (i := 1) rfl
    go_wp2
    exact hQ _ _ (Below.refl _ _) rfl
   ·intro x w hb hk Q' hQ
    clear hk
    simp only [netE] at hQ ⊢
    go_wp2
    exact hQ _ _ (Below.refl _ _) rfl
   ·intro x w hb hk Q' hQ
    have h12 : x.v 12 = .slice (some ⟨bf, of_, none⟩) q.f.length c := (hk 12 (by decide)).1
    have h13 : x.v 13 = .int .i64 k := (hk 13 (by decide)).1
    clear hk
    simp only [netE] at hQ ⊢
    simp only [h12, h13] at hQ ⊢
    clear h12 h13
    go_wp2
    exact hQ _ _ (Below.refl _ _) rfl
   ·intro x w hb hk Q' hQ
    have h14 : x.v 14 = .pointer (some ⟨bf, of_ + k, none⟩) := (hk 14 (by decide)).1
    clear hk
    simp only [netE] at hQ ⊢
    simp only [h14] at hQ ⊢
    clear h14
    have z2 := bcell hb (by omega) (bcell gw hbf f1)
    go_wp2
    exact hQ _ _ (Below.refl _ _) rfl
   ·intro x w hb hk Q' hQ
    have h10 : x.v 10 = .slice (some ⟨bd, od, none⟩) d.length xc := (hk 10 (by decide)).1
    have h15 : x.v 15 = .int .i64 nf := (hk 15 (by decide)).1
    clear hk
    simp only [netE] at hQ ⊢
    simp only [h10, h15] at hQ ⊢
    clear h10 h15
    go_wp2
    exact hQ _ _ (Below.refl _ _) rfl
   ·intro x w hb hk Q' hQ
    have h16 : x.v 16 = .pointer (some ⟨bd, od + nf, none⟩) := (hk 16 (by decide)).1
    clear hk
    simp only [netE] at hQ ⊢
    simp only [h16] at hQ ⊢
    clear h16
    have z2 := bcell hb (by omega) (bcell gw hbd d1)
    go_wp2
    exact hQ _ _ (Below.refl _ _) rfl
   ·intro x w hb hk Q' hQ
    have h2 : x.v 2 = .slice (some ⟨bd, od, none⟩) d.length xc := (hk 2 (by decide)).1
    have h3 : x.v 3 = .pointer (some ⟨w0.heap.size, 2, none⟩) := (hk 3 (by decide)).1
    have h4 : x.v 4 = .slice (some ⟨bt, ot, none⟩) q.t.length c' := (hk 4 (by decide)).1
    have h5 : x.v 5 = .int .i64 k := (hk 5 (by decide)).1
    have h6 : x.v 6 = .pointer (some ⟨bt, ot + k, none⟩) := (hk 6 (by decide)).1
    have h7 : x.v 7 = .int .i64 nt := (hk 7 (by decide)).1
    have h8 : x.v 8 = .pointer (some ⟨bd, od + nt, none⟩) := (hk 8 (by decide)).1
    have h9 : x.v 9 = .int .i64 yt := (hk 9 (by decide)).1
    have h10 : x.v 10 = .slice (some ⟨bd, od, none⟩) d.length xc := (hk 10 (by decide)).1
    have h11 : x.v 11 = .pointer (some ⟨w0.heap.size, 1, none⟩) := (hk 11 (by decide)).1
    have h12 : x.v 12 = .slice (some ⟨bf, of_, none⟩) q.f.length c := (hk 12 (by decide)).1
    have h13 : x.v 13 = .int .i64 k := (hk 13 (by decide)).1
    have h14 : x.v 14 = .pointer (some ⟨bf, of_ + k, none⟩) := (hk 14 (by decide)).1
    have h15 : x.v 15 = .int .i64 nf := (hk 15 (by decide)).1
    have h16 : x.v 16 = .pointer (some ⟨bd, od + nf, none⟩) := (hk 16 (by decide)).1
    have h17 : x.v 17 = .int .i64 yf := (hk 17 (by decide)).1
    clear hk
    simp only [netE] at hQ ⊢
    simp only [h2, h3, h4, h5, h6, h7, h8, h9, h10, h11, h12, h13, h14, h15, h16, h17] at hQ ⊢
    clear h2 h3 h4 h5 h6 h7 h8 h9 h10 h11 h12 h13 h14 h15 h16 h17
    go_wp2_with fail
    refine (l3Zero_any yt yf _ byt.1 byf.1 (by omega) (by omega)).mono ?_; rintro e w3 ⟨v3, rfl, hZ, hb3⟩
    go_wp2
    exact hQ _ _ hb3 hZ
   ·intro x w hb hk Q' hQ
    have h2 : x.v 2 = .slice (some ⟨bd, od, none⟩) d.length xc := (hk 2 (by decide)).1
    have h3 : x.v 3 = .pointer (some ⟨w0.heap.size, 2, none⟩) := (hk 3 (by decide)).1
    have h4 : x.v 4 = .slice (some ⟨bt, ot, none⟩) q.t.length c' := (hk 4 (by decide)).1
    have h5 : x.v 5 = .int .i64 k := (hk 5 (by decide)).1
    have h6 : x.v 6 = .pointer (some ⟨bt, ot + k, none⟩) := (hk 6 (by decide)).1
    have h7 : x.v 7 = .int .i64 nt := (hk 7 (by decide)).1
    have h8 : x.v 8 = .pointer (some ⟨bd, od + nt, none⟩) := (hk 8 (by decide)).1
    have h9 : x.v 9 = .int .i64 yt := (hk 9 (by decide)).1
    have h10 : x.v 10 = .slice (some ⟨bd, od, none⟩) d.length xc := (hk 10 (by decide)).1
    have h11 : x.v 11 = .pointer (some ⟨w0.heap.size, 1, none⟩) := (hk 11 (by decide)).1
    have h12 : x.v 12 = .slice (some ⟨bf, of_, none⟩) q.f.length c := (hk 12 (by decide)).1
    have h13 : x.v 13 = .int .i64 k := (hk 13 (by decide)).1
    have h14 : x.v 14 = .pointer (some ⟨bf, of_ + k, none⟩) := (hk 14 (by decide)).1
    have h15 : x.v 15 = .int .i64 nf := (hk 15 (by decide)).1
    have h16 : x.v 16 = .pointer (some ⟨bd, od + nf, none⟩) := (hk 16 (by decide)).1
    have h17 : x.v 17 = .int .i64 yf := (hk 17 (by decide)).1
    have h18 : MxO w (x.lo 18) (x.hi 18) (x.v 18) (zmx yt yf) := (hk 18 (by decide)).1
    have s18 := (hk 18 (by decide)).2
    clear hk
    simp only [netE] at hQ ⊢
    simp only [h2, h3, h4, h5, h6, h7, h8, h9, h10, h11, h12, h13, h14, h15, h16, h17] at hQ ⊢
    clear h2 h3 h4 h5 h6 h7 h8 h9 h10 h11 h12 h13 h14 h15 h16 h17
    obtain ⟨s, e14, hs⟩ := h18
    obtain ⟨sA, sc, es⟩ := hs.1.form
    obtain ⟨sn, hsn⟩ : ∃ n, (zmx yt yf).a.length = n := ⟨_, rfl⟩
    rw [hsn] at es
    clear hsn hs
    subst es
    have hQ' := hQ (.slice (some ⟨w.heap.size, 0, none⟩) 1 1) (w.alloc (.cells #[.int .i64 yt, .int .i64 yf, .slice sA sn sc] 50)) (below_alloc _ _) ⟨_, _, rfl, e14, Blk.new _ _ _⟩
    simp only [zmx] at e14
    rw [e14] at hQ' ⊢
    go_wp2
    exact hQ'
   ·intro x w hb hk hiv hdj
    have h0 : x.v 0 = .pointer (some ⟨w2.heap.size + 1, 5, none⟩) := hk 0 (by decide)
    have h1 : x.v 1 = mv := hk 1 (by decide)
    have h2 : x.v 2 = .slice (some ⟨bd, od, none⟩) d.length xc := hk 2 (by decide)
    have h3 : x.v 3 = .pointer (some ⟨w0.heap.size, 2, none⟩) := hk 3 (by decide)
    have h4 : x.v 4 = .slice (some ⟨bt, ot, none⟩) q.t.length c' := hk 4 (by decide)
    have h5 : x.v 5 = .int .i64 k := hk 5 (by decide)
    have h6 : x.v 6 = .pointer (some ⟨bt, ot + k, none⟩) := hk 6 (by decide)
    have h7 : x.v 7 = .int .i64 nt := hk 7 (by decide)
    have h8 : x.v 8 = .pointer (some ⟨bd, od + nt, none⟩) := hk 8 (by decide)
    have h9 : x.v 9 = .int .i64 yt := hk 9 (by decide)
    have h10 : x.v 10 = .slice (some ⟨bd, od, none⟩) d.length xc := hk 10 (by decide)
    have h11 : x.v 11 = .pointer (some ⟨w0.heap.size, 1, none⟩) := hk 11 (by decide)
    have h12 : x.v 12 = .slice (some ⟨bf, of_, none⟩) q.f.length c := hk 12 (by decide)
    have h13 : x.v 13 = .int .i64 k := hk 13 (by decide)
    have h14 : x.v 14 = .pointer (some ⟨bf, of_ + k, none⟩) := hk 14 (by decide)
    have h15 : x.v 15 = .int .i64 nf := hk 15 (by decide)
    have h16 : x.v 16 = .pointer (some ⟨bd, od + nf, none⟩) := hk 16 (by decide)
    have h17 : x.v 17 = .int .i64 yf := hk 17 (by decide)
    have h18 : MxO w (x.lo 18) (x.hi 18) (x.v 18) (zmx yt yf) := hk 18 (by decide)
    have h19 : ∃ g s, x.v 19 = .slice (some ⟨g, 0, none⟩) 1 1 ∧ x.v 18 = .agg #[.int .i64 yt, .int .i64 yf, s] ∧ Blk w g 50 #[.int .i64 yt, .int .i64 yf, s] := hk 19 (by decide)
    clear hk
    simp only [netE]
    simp only [List.drop_succ_cons, List.drop_zero, h0, h1, h2, h3, h4, h5, h6, h7, h8, h9, h10, h11, h12, h13, h14, h15, h16, h17]
    clear h0 h1 h2 h3 h4 h5 h6 h7 h8 h9 h10 h11 h12 h13 h14 h15 h16 h17
    obtain ⟨g, s, e15, e14, hg⟩ := h19
    have l14 := (hiv 18 (by decide)).1
    have h14i := (hiv 18 (by decide)).2.2
    obtain ⟨s', e14', hs, _⟩ := h18
    rw [e14] at e14'
    simp only [Value.agg.injEq, Array.mk.injEq, List.cons.injEq, and_true, zmx, true_and] at e14'
    subst e14'
    rw [e15]
    have hO' := hO.below hb
    have hF' := (hF.below hb).snoc (hs.wider l14 h14i) (by omega) hb.size
    have hB' := hB.call hb
    have hIa' := hIa.below hb
    have hIb' := hIb.below hb
    have hId' := hId.below hb
    have gb2 : Below W.heap.size W w := hbel.trans (hb.mono hbelS)
    have hbs2 := hb.size
    have hLen := Lib.hid (zms_length q d k)
    have HF' := Lib.hid hF'
    have hO'' : OutM w W.heap.size wr.heap.size mv vs (zms q d k) := by rw [OutM, hLen.out]; exact hO'
    have HC := Lib.hid hs.cell
    clear hiv hdj hs hF' hO' hO hF e14 e15 hb hB hIa hIb hId
    refine wpList_appM (by rfl) (.tmp 25) (.tmp 43) (by rfl) W.heap.size wr.heap.size mv vs (zms q d k) (by rfl) hO'' (by rw [HVL.out, hLen.out]) g 1 (zmx yt yf) s (by rfl) hg HC.out (by rw [hLen.out]; omega) (by omega) ?_
    intro v' w' hO3 hA
    obtain ⟨n9, hn9⟩ : ∃ n, (zms q d k ++ [zmx yt yf]).length = n := ⟨_, rfl⟩
    rw [OutM, hn9] at hO3
    have HN9 := Lib.hid (show n9 = k + 1 by rw [← hn9]; simp [hLen.out])
    clear hn9
    obtain ⟨A9, c9, ev, _, _⟩ := hO3.form
    subst ev
    have hB3 := hA.other _ _ _ (by decide) hB'
    have z5 := hB3.cell' (i := 5) rfl
    have fr := hB3.frozen
    have gb3 : Below W.heap.size W w' := gb2.trans (hA.below (Nat.le_refl _) (by omega))
    have hs3 := hA.size
    have hF3' := HF'.out.appT (by decide) hA
    have HF3' := Lib.hid hF3'
    have HO3 := Lib.hid hO3
    have HIa := Lib.hid (hIa'.appT (by decide) hA)
    have HIb := Lib.hid (hIb'.appT (by decide) hA)
    have HId := Lib.hid (hId'.appT (by decide) hA)
    clear hF3' hO3 HF' hO'' hA gb2 hg hIa' hIb' hId'
    go_wp2
    go_roundw
    case rel =>
     have ti : AppT 32 W.heap.size w' (w'.setCell ⟨w2.heap.size + 1, 5, none⟩ (.slice A9 n9 c9)) := AppT.set hB3 rfl hgR
     refine ⟨k + 1, .slice A9 n9 c9, vs ++ [s], by omega, by go_num, gb3.setCell (by simpa using hgR) _, by simp; omega, hB3.set_ 5 _, HIa.out.appT (by decide) ti, HIb.out.appT (by decide) ti, HId.out.appT (by decide) ti, ?_, by simp [HVL.out], ?_⟩
     ·have := HO3.out.set hB3 (by decide) 5 (.slice A9 n9 c9)
      rw [HZS.out]
      rw [HN9.out] at this ⊢
      simpa using this
     ·have h1 := HF3'.out.setBlk (i := 5) hB3 (by decide) (.slice A9 n9 c9)
      have e : (vs ++ [s]).zip ((zms q d (k + 1)).map Mx.a) = vs.zip ((zms q d k).map Mx.a) ++ [(s, List.replicate (yt * yf).toNat 0)] := by
       rw [HZS.out, List.map_append, List.zip_append (by simp [HVL.out, hLen.out])]
       rfl
      rw [e]
      exact h1.mono (Nat.le_refl _) (by simp; omega)
    case measure => simp [intOf]; omega
  ·obtain rfl : k = q.f.length := by omega
   have hbs := hbel.size
   obtain ⟨H1, h1, rfl, _, _⟩ := hO.form
   have hI := Lib.hid (zms_I64 HQ.out q.f.length (Nat.le_refl _))
   have hL := zms_length q d q.f.length
   have hO' : OutM wr W.heap.size wr.heap.size (.slice H1 q.f.length h1) vs (zms q d q.f.length) := by rw [OutM, hL]; exact hO
   have hbW3 := (GW3.out).size
   have hR : RepI wr W.heap.size wr.heap.size (.agg #[.int .i64 p, .int .i64 q.v, .slice A1 q.f.length a1, .slice C1 q.t.length b1, .slice E1 d.length e1, .slice H1 q.f.length h1]) (zRep p q d) :=
    ⟨_, _, _, _, vs, W3.heap.size, rfl, hIa, hIb, hId, hO', by rw [HVL.out]; exact hL.symm, hF, ⟨hbW3, hlt2⟩, ⟨hp, hqv⟩, hI.out⟩
   have HR := Lib.hid hR
   have k2' := (K2.out).below hbel (by have := SZ.out; omega)
   have r0 := hB.cell' (i := 0) rfl
   have r1 := hB.cell' (i := 1) rfl
   have r2 := hB.cell' (i := 2) rfl
   have r3 := hB.cell' (i := 3) rfl
   have r4 := hB.cell' (i := 4) rfl
   have r5 := hB.cell' (i := 5) rfl
   have s0 := k2'.cell' (i := 0) rfl
   have s1 := k2'.cell' (i := 1) rfl
   have s2 := k2'.cell' (i := 2) rfl
   have s3 := k2'.cell' (i := 3) rfl
   have s4 := k2'.cell' (i := 4) rfl
   have s5 := k2'.cell' (i := 5) rfl
   have fr := k2'.frozen
   have GF := Lib.hid (G0.out.trans (hbel.mono (G0.out).size))
   have HBS := Lib.hid hbs
   clear hR hO' hL hO hF hB k2' kq hIa hIb hId hbs hbW3
   go_wp2
   have sz := SZ.out
   have hbs := HBS.out
   have gf := GF.out
   refine bodyPost_ret (v := .agg #[.int .i64 p, .int .i64 q.v, .slice A1 q.f.length a1, .slice C1 q.t.length b1, .slice E1 d.length e1, .slice H1 q.f.length h1]) (by simp [results, go_sem, s0, s1, s2, s3, s4, s5]) rfl ⟨_, rfl, RepI.wider (lo := W.heap.size) (hi := wr.heap.size) ?_ (by omega) (by simp), (((((gf.setCell (by simp) _).setCell (by simp) _).setCell (by simp) _).setCell (by simp) _).setCell (by simp) _).setCell (by simp) _⟩
   have hc : Chg (w0.heap.size + 1) (w0.heap.size + 1 + 1) wr _ := (((((chg_set (w := wr) (p := ⟨w0.heap.size + 1, 0, none⟩) (u := .int .i64 p) (by simp) (by simp)).trans (chg_set (p := ⟨w0.heap.size + 1, 1, none⟩) (u := .int .i64 q.v) (by simp) (by simp))).trans (chg_set (p := ⟨w0.heap.size + 1, 2, none⟩) (u := .slice A1 q.f.length a1) (by simp) (by simp))).trans (chg_set (p := ⟨w0.heap.size + 1, 3, none⟩) (u := .slice C1 q.t.length b1) (by simp) (by simp))).trans (chg_set (p := ⟨w0.heap.size + 1, 4, none⟩) (u := .slice E1 d.length e1) (by simp) (by simp))).trans (chg_set (p := ⟨w0.heap.size + 1, 5, none⟩) (u := .slice H1 q.f.length h1) (by simp) (by simp))
   exact HR.out.chg hc (.inr (by omega))
end Go.Proofs.YtcmlflppndfdcaaGreat
namespace Go.Proofs.YtcmlflppndfdcaaGreat
open Go.RowKit
def msF (n : Nat) (F : Nat → Mx) : List Mx := (List.range n).map F
theorem mxCs_rc : ∀ (vs : List Value) (ms ms' : List Mx), ms.map (fun m => (m.r, m.c)) = ms'.map (fun m => (m.r, m.c)) → mxCs vs ms = mxCs vs ms'
 | [], ms, ms', _ => by simp [mxCs]
 | v :: vs, [], ms', h => by
  have : ms' = [] := by simpa using h.symm
  subst this; rfl
 | v :: vs, m :: ms, [], h => by simp at h
 | v :: vs, m :: ms, m' :: ms', h => by
  simp only [List.map_cons, List.cons.injEq, Prod.mk.injEq] at h
  simp only [mxCs, h.1.1, h.1.2, mxCs_rc vs ms ms' h.2]
theorem OutM.rc {w : World} {lo hi : Nat} {v : Value} {vs : List Value} {ms ms' : List Mx} (h : OutM w lo hi v vs ms) (e : ms.map (fun m => (m.r, m.c)) = ms'.map (fun m => (m.r, m.c))) : OutM w lo hi v vs ms' := by
 have h1 := congrArg List.length e
 simp only [List.length_map] at h1
 have h2 := mxCs_rc vs ms ms' e
 unfold OutM at h ⊢
 rw [← h1, ← h2]
 exact h
theorem OutM.at_ {w : World} {lo hi lo' hi' j : Nat} {mv : Value} {vs : List Value} {ms : List Mx} {L0 : List (Value × List Int)} {m : Mx} (h : OutM w lo hi mv vs ms) (hl : vs.length = ms.length) (hF : Fam w lo' hi' (L0 ++ vs.zip (ms.map Mx.a))) (hm : ms[j]? = some m) (hne : 0 < m.a.length) :
  ∃ gm cm g c, mv = .slice (some ⟨gm, 0, none⟩) ms.length cm ∧ gm < w.heap.size ∧ vs[j]? = some (.slice (some ⟨g, 0, none⟩) m.a.length c) ∧ w.cell? ⟨gm, j * 3, none⟩ = some (.int .i64 m.r) ∧ w.cell? ⟨gm, j * 3 + 1, none⟩ = some (.int .i64 m.c) ∧
   w.cell? ⟨gm, j * 3 + 2, none⟩ = some (.slice (some ⟨g, 0, none⟩) m.a.length c) ∧ OwnI w lo' (.slice (some ⟨g, 0, none⟩) m.a.length c) m.a ∧ (lo' ≤ g ∧ g < hi') ∧ m.a.length ≤ c ∧ c ≤ 9223372036854775807 ∧ ms.length ≤ cm ∧ cm ≤ 9223372036854775807 := by
 have hj := lt_of_some hm
 have hv : vs[j]? = some (vs[j]'(by omega)) := List.getElem?_eq_getElem (by omega)
 have hI := hF.getAt hv (show (ms.map Mx.a)[j]? = some m.a by simp [hm])
 obtain ⟨gm, cm, cur, e, h1, h2, h3, h4⟩ := RowO.at_ h (by omega)
 have hml := mxCs_length vs ms hl
 obtain ⟨a, b, c⟩ := mxCs_get hv hm
 rcases hI.1.1.2 with ⟨e', h0⟩ | ⟨g, cap, cur', e', hg, _, hnc, hcm, _⟩
 ·omega
 ·have hf := RowO.form h
  obtain ⟨A, c2, e2, l1, l2⟩ := hf
  rw [e] at e2
  injection e2 with e21 e22 e23
  subst e23
  have h1 := h.1
  subst e
  have c0 := h1.cellAt (j * 3) (by omega)
  have c1 := h1.cellAt (j * 3 + 1) (by omega)
  have c3 := h1.cellAt (j * 3 + 2) (by omega)
  refine ⟨gm, cm, g, cap, rfl, h3, by rw [hv, e'], by rw [c0]; exact a, by rw [c1]; exact b, by rw [c3, ← e']; exact c, by rw [← e']; exact hI.1, ⟨hg, hI.2 g (by simp [e', Value.ownBlock])⟩, hnc, by simp only [maxLen] at hcm; omega, l1, l2⟩
theorem mats_put {w : World} {lo hi lo' hi' j i g c : Nat} {mv : Value} {vs : List Value} {ms : List Mx} {L0 : List (Value × List Int)} {m : Mx} {x : Int} (hO : OutM w lo hi mv vs ms) (hF : Fam w lo' hi' (L0 ++ vs.zip (ms.map Mx.a)))
  (hv : vs[j]? = some (.slice (some ⟨g, 0, none⟩) m.a.length c)) (hm : ms[j]? = some m) (ho : OwnI w lo' (.slice (some ⟨g, 0, none⟩) m.a.length c) m.a) (hx : I64 x) :
  OutM (w.setCell ⟨g, i, none⟩ (.int .i64 x)) lo hi mv vs (ms.set j ⟨m.r, m.c, m.a.set i x⟩) ∧ Fam (w.setCell ⟨g, i, none⟩ (.int .i64 x)) lo' hi' (L0 ++ vs.zip ((ms.set j ⟨m.r, m.c, m.a.set i x⟩).map Mx.a)) := by
 have hp := ho.put (j := i) hx
 refine ⟨OutM.rc (ms := ms) (RowO.grown hO (by decide) ho hp.2) ?_, ?_⟩
 ·apply List.ext_getElem?
  intro k
  rw [List.getElem?_map, List.getElem?_map, List.getElem?_set]
  by_cases e : j = k
  ·subst e
   rw [if_pos rfl, if_pos (lt_of_some hm), hm]
   rfl
  ·rw [if_neg e]
 ·rw [List.map_set]
  exact hF.setAt hv (show (ms.map Mx.a)[j]? = some m.a by simp [hm]) hp.1 hp.2
theorem mats_I64 {ms : List Mx} {j : Nat} {m : Mx} {l : List Int} (h : ∀ m ∈ ms, I64 m.r ∧ I64 m.c) (hm : ms[j]? = some m) : ∀ x ∈ ms.set j ⟨m.r, m.c, l⟩, I64 x.r ∧ I64 x.c := by
 intro x hx
 rcases List.mem_or_eq_of_mem_set hx with hx | rfl
 ·exact h x hx
 ·exact h m (List.mem_of_getElem? hm)
def ivF (a k : Nat) (v : Nat) : Int := if a ≤ v ∧ v < k then 1 else 0
def zmAt (q : Qv) (d : List Int) (i : Nat) : Mx := zmx (dAt d (q.t.getD i 0)) (dAt d (q.f.getD i 0))
def onesM (m : Mx) : Mx := ⟨m.r, m.c, List.replicate m.a.length 1⟩
def ziRep (p : Int) (q : Qv) (a b : Nat) : Rp := ⟨p, q, rowF q.v.toNat (ivF a (b + 1)), msF q.f.length fun i => onesM (zmAt q (rowF q.v.toNat (ivF a (b + 1))) i)⟩
def ziOk (ok : Bool) (p : Int) (q : Qv) (a b : Int) : Bool := isFld p && (ok && (inR a 0 (q.v - 1) && inR b a (q.v - 1)))
def ziP (ok : Bool) (p : Int) (q : Qv) (a b : Int) : Rp × Bool := if ziOk ok p q a b then (ziRep p q a.toNat b.toNat, true) else (rp0, false)
end Go.Proofs.YtcmlflppndfdcaaGreat
namespace Go.Proofs.YtcmlflppndfdcaaGreat
open Go.RowKit
def othN (x : Rp) (v : Int) (i : Nat) : Nat := (dAt x.d (x.q.f.getD i 0 + x.q.t.getD i 0 - v)).toNat
def atN (x : Rp) (v : Int) : Nat → Nat
 | 0 => 0
 | k + 1 => if tch x.q v k = true then atN x v k + othN x v k else atN x v k
def rfM (x : Rp) (v : Int) (G : Nat → Mx) (k i : Nat) : Mx := if i < k ∧ tch x.q v i = true then G i else x.m.getD i mx0
def rfK (x : Rp) (v : Int) (K : Nat) (G : Nat → Mx) (k : Nat) : Rp := ⟨x.p, rvQ x.q v, x.d.set v.toNat K, msF x.q.f.length (rfM x v G k)⟩
def rfP (x : Rp) (v : Int) (K : Nat) (G : Nat → Mx) : Rp × Bool := if areDims (rvQ x.q v) (x.d.set v.toNat K) then (rfK x v K G x.q.f.length, true) else (rp0, false)
def gSink (x : Rp) (v : Int) (K : Nat) (F : Nat → Nat → Int) (i : Nat) : Mx := mxF (othN x v i) K fun a b => F b (atN x v i + a)
def gSrc (x : Rp) (v : Int) (K : Nat) (F : Nat → Nat → Int) (i : Nat) : Mx := mxF K (othN x v i) fun b a => F b (atN x v i + a)
theorem SlG.cut {α : Type} {R : World → Nat → Nat → Nat → α → Prop} {w : World} {B c : Nat} {A : Option Addr} {xs : List α} {i k : Nat} (h : SlG 1 R w B (.slice A xs.length c) xs) (hik : i ≤ k) (hk : k ≤ xs.length) :
  ∃ A', (if c = i then A else A.map (·.add (i * 1))) = A' ∧ SlG 1 R w B (.slice A' (k - i) (c - i)) ((xs.drop i).take (k - i)) := by
 obtain ⟨A2, c2, e, h1, h2, h3, h4⟩ := h
 injection e with e1 e2 e3
 subst e1 e3
 refine ⟨_, rfl, ?_⟩
 have hl : ((xs.drop i).take (k - i)).length = k - i := by simp; omega
 refine ⟨_, c - i, by rw [hl], by rw [hl]; omega, by omega, by rw [hl]; omega, fun hp => ?_⟩
 rw [hl] at hp
 obtain ⟨b, o, rfl, hb, hc⟩ := h4 (by omega)
 rw [if_neg (by omega)]
 refine ⟨b, o + i, ?_, hb, fun j x hx => ?_⟩
 ·have e : (⟨b, o, none⟩ : Addr).add i = ⟨b, o + i, none⟩ := by unfold Addr.add; split <;> simp_all
  simp [e]
 ·rw [List.getElem?_take] at hx
  split at hx
  ·rw [List.getElem?_drop] at hx
   have := hc (i + j) x hx
   rwa [show o + (i + j) * 1 = o + i + j * 1 by omega] at this
  ·cases hx
theorem SlG.takeG {α : Type} {R : World → Nat → Nat → Nat → α → Prop} {w : World} {B c k : Nat} {A : Option Addr} {xs : List α} (h : SlG 1 R w B (.slice A xs.length c) xs) (hk : k ≤ xs.length) : SlG 1 R w B (.slice A k c) (xs.take k) := by
 obtain ⟨A2, c2, e, h1, h2, h3, h4⟩ := h
 injection e with e1 e2 e3
 subst e1 e3
 have hl : (xs.take k).length = k := by simp; omega
 refine ⟨_, c, by rw [hl], by rw [hl]; omega, h2, by rw [hl]; omega, fun hp => ?_⟩
 rw [hl] at hp
 obtain ⟨b, o, rfl, hb, hc⟩ := h4 (by omega)
 refine ⟨b, o, rfl, hb, fun j x hx => ?_⟩
 rw [List.getElem?_take] at hx
 split at hx
 ·exact hc j x hx
 ·cases hx
end Go.Proofs.YtcmlflppndfdcaaGreat
namespace Go.Proofs.YtcmlflppndfdcaaGreat
open Go.RowKit
theorem row_d0 (r : Int) (d L i cap : Nat) (A : Option Addr) (w : World) (hd : d = 0) (hL : L = 0) (hb : cap ≤ 9223372036854775807) (hi : i ≤ 1000) :
  Calls Tryz.prog 77 #[.agg #[.int .i64 r, .int .i64 d, .slice A L cap], .int .i64 i] w fun e w' => ∃ A', e = .returned (.slice A' 0 cap) ∧ Below w.heap.size w w' := by
 subst hd hL
 exact row_zero r i cap A w hb hi
theorem addMultiple_d0 (p k : Int) (va vb : Value) (B : Option Addr) (d c : Nat) (w : World) (hd : d = 0) (hv : ∃ A n m, va = .slice A n m) (hvb : vb = .slice B d c) (hc : c ≤ 9223372036854775807) :
  Calls Tryz.prog 107 #[.int .i64 p, va, .int .i64 k, vb] w fun e w' => e = .returned va ∧ w' = w := by
 subst hd hvb
 exact addMultiple_zero p k va B c w hv hc
theorem le_pred {p : Int} {r c : Nat} {f : Nat → Nat → Int} (hp : 2 ≤ p ∧ p ≤ 5) (h : InF p r c f) {a b : Nat} (ha : a < r) (hb : b < c) : 0 ≤ f a b ∧ f a b ≤ 4 := by
 have := h a b ha hb
 omega
set_option maxHeartbeats 6400000 in
set_option maxRecDepth 100000 in
theorem times_any (p : Int) (u v : Value) (r c d : Nat) (f g : Nat → Nat → Int) (w0 : World) (hp : 2 ≤ p ∧ p ≤ 5) (hr : r ≤ 1000) (hc : c ≤ 1000) (hd : d ≤ 1000) (hu : MxR w0 w0.heap.size u (mxF r c f)) (hv : MxR w0 w0.heap.size v (mxF c d g)) (hf : InF p r c f) (hg : InF p c d g) :
  Calls Tryz.prog 149 #[.int .i64 p, u, v] w0 fun e w' => ∃ m, e = .returned m ∧ MxO w' w0.heap.size w'.heap.size m (mxF r d (muP p c f g)) ∧ Below w0.heap.size w0 w' := by
 have hu' := hu
 have hv' := hv
 obtain ⟨U, uc, rfl⟩ := hu.form
 obtain ⟨V, vc, rfl⟩ := hv.form
 simp only [mxF, flat_length] at hu hu' hv hv' ⊢
 obtain ⟨UL, hUL⟩ : ∃ z, r * c = z := ⟨_, rfl⟩
 obtain ⟨VL, hVL⟩ : ∃ z, c * d = z := ⟨_, rfl⟩
 rw [hUL] at hu hu' ⊢
 rw [hVL] at hv hv' ⊢
 have HUL := Lib.hid hUL
 have HVL := Lib.hid hVL
 clear hu hv hUL hVL
 obtain ⟨W, hW⟩ : ∃ W, W = ((w0.alloc (.cells #[.int .i64 r, .int .i64 c, .slice U UL uc] 50)).alloc (.cells #[.int .i64 c, .int .i64 d, .slice V VL vc] 50)).alloc (.cells #[.int .i64 0, .int .i64 0, .slice none 0 0] 50) := ⟨_, rfl⟩
 have g0 : Below w0.heap.size w0 W := by rw [hW]; exact (((Below.refl _ _).alloc (Nat.le_refl _) _).alloc (by simp) _).alloc (by simp; omega) _
 have k1 : Blk W w0.heap.size 50 #[.int .i64 r, .int .i64 c, .slice U UL uc] := by rw [hW]; exact ((Blk.new _ _ _).alloc _).alloc _
 have k2 : Blk W (w0.heap.size + 1) 50 #[.int .i64 c, .int .i64 d, .slice V VL vc] := by
  rw [hW]
  have := (Blk.new (w0.alloc (.cells #[.int .i64 r, .int .i64 c, .slice U UL uc] 50)) 50 #[.int .i64 c, .int .i64 d, .slice V VL vc]).alloc (.cells #[.int .i64 0, .int .i64 0, .slice none 0 0] 50)
  simpa only [World.size_alloc] using this
 have k3 : Blk W (w0.heap.size + 1 + 1) 50 #[.int .i64 0, .int .i64 0, .slice none 0 0] := by
  rw [hW]
  have := Blk.new ((w0.alloc (.cells #[.int .i64 r, .int .i64 c, .slice U UL uc] 50)).alloc (.cells #[.int .i64 c, .int .i64 d, .slice V VL vc] 50)) 50 #[.int .i64 0, .int .i64 0, .slice none 0 0]
  simpa only [World.size_alloc] using this
 have sz : W.heap.size = w0.heap.size + 1 + 1 + 1 := by rw [hW]; simp
 have SZ := Lib.hid sz
 have HU := Lib.hid hu'
 have HV := Lib.hid hv'
 have HF := Lib.hid hf
 have HG := Lib.hid hg
 have a0 := k1.cell' (i := 0) rfl
 have a1 := k1.cell' (i := 1) rfl
 have a2 := k1.cell' (i := 2) rfl
 have b0 := k2.cell' (i := 0) rfl
 have b1 := k2.cell' (i := 1) rfl
 have b2 := k2.cell' (i := 2) rfl
 clear hu' hv' hf hg sz
 go_enter Tryz.func149, Tryz.ntmps149
 go_wp2_with fail
 rw [← hW]; clear hW
 refine (zero_any r d _ (by omega) (by omega) (by omega) (by omega)).mono ?_; rintro e w1 ⟨v1, rfl, hZ, hb1⟩
 rw [zmx_flat] at hZ
 obtain ⟨A, cap, e1⟩ := hZ.form
 subst e1
 simp only [mxF, flat_length] at hZ ⊢
 obtain ⟨sA, esA, oZ, hr1, hr2⟩ := hZ
 simp only [Value.agg.injEq, Array.mk.injEq, List.cons.injEq, and_true, true_and] at esA
 subst esA
 obtain ⟨L, hL⟩ : ∃ z, r * d = z := ⟨_, rfl⟩
 rw [hL] at oZ ⊢
 have HL := Lib.hid hL
 clear hL
 have s1 := hb1.size
 obtain ⟨w2, hw2⟩ : ∃ u, u = w1.alloc (.cells #[.int .i64 r, .int .i64 d, .slice A L cap] 50) := ⟨_, rfl⟩
 have b2' : Below w1.heap.size w1 w2 := by rw [hw2]; exact below_alloc _ _
 have k4 : Blk w2 w1.heap.size 50 #[.int .i64 r, .int .i64 d, .slice A L cap] := by rw [hw2]; exact Blk.new _ _ _
 have oZ2 := oZ.below b2'
 rw [muS_0 p c r d f g] at oZ2
 have s2 := b2'.size
 have l4 := k4.lt
 have gW2 := bthen hb1 b2'
 have K1 := Lib.hid k1
 have K2 := Lib.hid k2
 have K3 := Lib.hid k3
 have G0 := Lib.hid g0
 have hWs := SZ.out
 clear a0 a1 a2 b0 b1 b2 oZ b2' hb1 k1 k2 k3 g0
 have k1 := (K1.out).below gW2 (by omega)
 have a0 := k1.cell' (i := 0) rfl
 rw [hw2] at a0
 go_wp2
 rw [← hw2]; clear hw2 a0 k1
 go_loopw [18] (fun i wr => ∃ i' : Nat, i' ≤ r ∧ i = .int .i64 i' ∧ Blk wr w1.heap.size 50 #[.int .i64 r, .int .i64 d, .slice A L cap] ∧ IntsO wr W.heap.size w1.heap.size (.slice A L cap) (flat r d (muS p c i' 0 f g)) ∧ Below W.heap.size W wr) (fun i _ => r - (intOf i).toNat)
 case atStart => exact ⟨0, Nat.zero_le _, rfl, k4, oZ2, gW2⟩
 case round =>
  clear k4 oZ2 gW2
  obtain ⟨i, hi, rfl, k4, oA, gW⟩ := hrel
  have sW := gW.size
  by_cases hlr : i < r
  ·have k1 := K1.out.below gW (by omega)
   have k2 := K2.out.below gW (by omega)
   have a0 := k1.cell' (i := 0) rfl
   have a1 := k1.cell' (i := 1) rfl
   have a2 := k1.cell' (i := 2) rfl
   have b0 := k2.cell' (i := 0) rfl
   have b1 := k2.cell' (i := 1) rfl
   have b2 := k2.cell' (i := 2) rfl
   have gw := G0.out.trans (gW.mono (by omega))
   have hUr : MxR wr w0.heap.size (.agg #[.int .i64 r, .int .i64 c, .slice U UL uc]) (mxF r c f) := MxR.below gw HU.out
   have HUR := Lib.hid hUr
   clear hUr
   go_wp2_with fail
   refine (row_rd _ r c i w0.heap.size f _ HUR.out gw.size hr hc hlr).mono ?_; rintro e w3 ⟨vr, rfl, hR, hb3⟩
   obtain ⟨RA, rc, ev, hrc1, hrc2, _, hR⟩ := hR.open_
   subst ev
   rw [rowF_length] at hR ⊢
   have s3 := hb3.size
   have HR3 := Lib.hid hR
   have k43 := k4.call hb3
   have oA3 := oA.below hb3
   have gW3 := gW.trans (hb3.mono sW)
   clear a0 a1 a2 b0 b1 b2 k1 k2 hR k4 oA gW gw hb3
   go_wp2
   go_loopw [25] (fun k wr => ∃ k' : Nat, k' ≤ c ∧ k = .int .i64 k' ∧ Blk wr w1.heap.size 50 #[.int .i64 r, .int .i64 d, .slice A L cap] ∧ IntsO wr W.heap.size w1.heap.size (.slice A L cap) (flat r d (muS p c i k' f g)) ∧ Below W.heap.size W wr ∧ SlI wr w0.heap.size (.slice RA c rc) (rowF c (f i))) (fun k _ => c - (intOf k).toNat)
   case atStart => exact ⟨0, Nat.zero_le _, rfl, k43, oA3, gW3, HR3.out⟩
   case round =>
    clear k43 oA3 gW3
    obtain ⟨k, hk, rfl, k4, oA, gW, hR⟩ := hrel
    have sW' := gW.size
    by_cases hlc : k < c
    ·have hR2 : SlI wr w0.heap.size (.slice RA (rowF c (f i)).length rc) (rowF c (f i)) := by rw [rowF_length]; exact hR
     obtain ⟨b, o, x, rfl, hbl, HXX, x1, _⟩ := SlI.at_ (k := k) hR2 (by rw [rowF_length]; exact hlc)
     have hxx := HXX.out
     rw [rowF_get _ hlc] at hxx
     injection hxx with hxx
     subst hxx
     have hfx := le_pred hp HF.out hlr hlc
     obtain ⟨xk, hx⟩ : ∃ x, f i k = x := ⟨_, rfl⟩
     rw [hx] at x1 hfx
     have HX := Lib.hid hx
     have HRR := Lib.hid hR
     have hOA := Lib.hid oA
     have hK4 := Lib.hid k4
     have hGW := Lib.hid gW
     clear hx hR hR2 HXX oA k4 gW
     go_wp2
     clear x1
     rcases Nat.eq_zero_or_pos d with hd0 | hd0
     ·have hL0 : L = 0 := by have := HL.out; rw [hd0, Nat.mul_zero] at this; exact this.symm
      have e0 : ∀ h, flat r d h = [] := fun h => by simp [flat, hd0]
      have E0 := Lib.hid e0
      have HD0 := Lib.hid hd0
      have HL0 := Lib.hid hL0
      have hcap : cap ≤ 9223372036854775807 := by
       obtain ⟨_, cL, eL, lA1, lA2⟩ := (hOA.out).1.form
       injection eL with eLx eLy eL3
       omega
      clear hd0 hL0 e0
      refine wp_region_net (by kernel_rfl) [.eq (.int .i64 p), .eq (.agg #[.int .i64 r, .int .i64 d, .slice A L cap]), .eq (.int .i64 i), rel 3 (fun u lo hi w => ∃ A n m, u = .slice A n m), .eq (.int .i64 xk), .eq (.agg #[.int .i64 c, .int .i64 d, .slice V VL vc]), .eq (.int .i64 k), rel 7 (fun u lo hi w => ∃ A m, m ≤ 9223372036854775807 ∧ u = .slice A d m)] [[], [], [], [1, 2], [], [], [], [1, 2, 3, 5, 6], [0, 1, 2, 3, 4, 5, 6, 7]] 8 (by kernel_rfl) ⟨trivial, trivial, trivial, rel_stable (fun u lo hi w w' h hb => h), trivial, trivial, trivial, rel_stable (fun u lo hi w w' h hb => h), trivial⟩ ⟨?_, ?_, ?_, ?_, ?_, ?_, ?_, ?_, trivial⟩ ?_
      ·intro x w hb hk Q' hQ
       clear hk
       simp only [netE] at hQ ⊢
       go_wp2
       exact hQ _ _ (Below.refl _ _) rfl
      ·intro x w hb hk Q' hQ
       clear hk
       simp only [netE] at hQ ⊢
       have kq := hK4.out.call hb
       have z0 := kq.cell' (i := 0) rfl
       have z1 := kq.cell' (i := 1) rfl
       have z2 := kq.cell' (i := 2) rfl
       go_wp2
       exact hQ _ _ (Below.refl _ _) rfl
      ·intro x w hb hk Q' hQ
       clear hk
       simp only [netE] at hQ ⊢
       go_wp2
       exact hQ _ _ (Below.refl _ _) rfl
      ·intro x w hb hk Q' hQ
       have h1 : x.v 1 = .agg #[.int .i64 r, .int .i64 d, .slice A L cap] := (hk 1 (by decide)).1
       have h2 : x.v 2 = .int .i64 i := (hk 2 (by decide)).1
       clear hk
       simp only [netE] at hQ ⊢
       simp only [h1, h2] at hQ ⊢
       clear h1 h2
       go_wp2_with fail
       refine (row_d0 (r : Int) d L i cap A _ HD0.out HL0.out hcap (by omega)).mono ?_; rintro e w5 ⟨A5, rfl, hb5⟩
       go_wp2
       exact hQ _ _ hb5 ⟨_, _, _, rfl⟩
      ·intro x w hb hk Q' hQ
       clear hk
       simp only [netE] at hQ ⊢
       go_wp2
       exact hQ _ _ (Below.refl _ _) rfl
      ·intro x w hb hk Q' hQ
       clear hk
       simp only [netE] at hQ ⊢
       have kq := (K2.out.below hGW.out (by omega)).call hb
       have z0 := kq.cell' (i := 0) rfl
       have z1 := kq.cell' (i := 1) rfl
       have z2 := kq.cell' (i := 2) rfl
       go_wp2
       exact hQ _ _ (Below.refl _ _) rfl
      ·intro x w hb hk Q' hQ
       clear hk
       simp only [netE] at hQ ⊢
       go_wp2
       exact hQ _ _ (Below.refl _ _) rfl
      ·intro x w hb hk Q' hQ
       have h1 : x.v 1 = .agg #[.int .i64 r, .int .i64 d, .slice A L cap] := (hk 1 (by decide)).1
       have h2 : x.v 2 = .int .i64 i := (hk 2 (by decide)).1
       have h3 : ∃ A n m, (x.v 3) = .slice A n m := (hk 3 (by decide)).1
       have h5 : x.v 5 = .agg #[.int .i64 c, .int .i64 d, .slice V VL vc] := (hk 5 (by decide)).1
       have h6 : x.v 6 = .int .i64 k := (hk 6 (by decide)).1
       have s3 := (hk 3 (by decide)).2
       clear hk
       simp only [netE] at hQ ⊢
       simp only [h1, h2, h5, h6] at hQ ⊢
       clear h1 h2 h5 h6
       have gz := (G0.out.trans (hGW.out.mono (by omega))).trans (hb.mono (by omega))
       have HVR := Lib.hid (MxR.below gz HV.out)
       have gzs := gz.size
       clear gz
       go_wp2_with fail
       refine (row_rd _ c d k w0.heap.size g _ HVR.out gzs hc hd hlc).mono ?_; rintro e w5 ⟨v5, rfl, hR5, hb5⟩
       obtain ⟨A5, c5, e5, _, hc5, _⟩ := hR5.open_
       subst e5
       rw [rowF_length]
       go_wp2
       exact hQ _ _ hb5 ⟨_, _, hc5, rfl⟩
      ·intro x w hb hk hiv hdj
       have h0 : x.v 0 = .int .i64 p := hk 0 (by decide)
       have h1 : x.v 1 = .agg #[.int .i64 r, .int .i64 d, .slice A L cap] := hk 1 (by decide)
       have h2 : x.v 2 = .int .i64 i := hk 2 (by decide)
       have h3 : ∃ A n m, (x.v 3) = .slice A n m := hk 3 (by decide)
       have h4 : x.v 4 = .int .i64 xk := hk 4 (by decide)
       have h5 : x.v 5 = .agg #[.int .i64 c, .int .i64 d, .slice V VL vc] := hk 5 (by decide)
       have h6 : x.v 6 = .int .i64 k := hk 6 (by decide)
       have h7 : ∃ A m, m ≤ 9223372036854775807 ∧ (x.v 7) = .slice A d m := hk 7 (by decide)
       clear hk
       simp only [netE]
       simp only [List.drop_succ_cons, List.drop_zero, h0, h1, h2, h4, h5, h6]
       clear h0 h1 h2 h4 h5 h6
       obtain ⟨A3, n3, m3, e3⟩ := h3
       obtain ⟨A7, m7, hm7, e7⟩ := h7
       have HB := Lib.hid hb
       have HGW2 := Lib.hid ((hGW.out).trans (hb.mono (by omega)))
       have hR6 := SlI.below (hb.mono (by omega)) HRR.out
       have hA2 := (hOA.out).below hb
       have k46 := (hK4.out).call hb
       rw [E0.out] at hA2
       have HA2 := Lib.hid (show IntsO w W.heap.size w1.heap.size (.slice A L cap) (flat r d (muS p c i (k + 1) f g)) by rw [E0.out]; exact hA2)
       have E3 := Lib.hid e3
       have E7 := Lib.hid e7
       clear hb hiv hdj hA2 e3 e7
       go_wp2_with fail
       refine (addMultiple_d0 p xk _ _ A7 d m7 _ HD0.out ⟨_, _, _, E3.out⟩ E7.out hm7).mono ?_; rintro e w6 ⟨rfl, hww⟩
       replace hww := hww.symm
       subst hww
       go_wp2
       go_roundw
       ·exact ⟨k + 1, by omega, by simp, k46, HA2.out, HGW2.out, hR6⟩
       ·show c - (k + 1) < c - k
        omega
     ·obtain ⟨P, hP⟩ : ∃ P, P = i * d := ⟨_, rfl⟩
      have hrp := rowP hlr hd0 hr hd hP
      rw [HL.out] at hrp
      obtain ⟨gA, cA, eA, q1, q2, q3⟩ := (hOA.out).at_ (by rw [flat_length, HL.out]; omega)
      rw [flat_length, HL.out] at eA
      injection eA with eA1 eA2 eA3
      subst eA1 eA3
      obtain ⟨_, cL, eL, lA1, lA2⟩ := (hOA.out).1.form
      injection eL with eLx eLy eL3
      rw [← eL3, flat_length, HL.out] at lA1
      rw [← eL3] at lA2
      clear eLx eLy eL3
      have q5 : flat r d (muS p c i k f g) = rowF L (fun a => muS p c i k f g (a / d) (a % d)) := by rw [← HL.out]; rfl
      have HP := Lib.hid hP
      clear hP
      refine wp_region_net (by kernel_rfl) [.eq (.int .i64 p), .eq (.agg #[.int .i64 r, .int .i64 d, .slice (some ⟨gA, 0, none⟩) L cap]), .eq (.int .i64 i), .eq (.slice (some ⟨gA, P, none⟩) d (cap - P)), .eq (.int .i64 xk), .eq (.agg #[.int .i64 c, .int .i64 d, .slice V VL vc]), .eq (.int .i64 k), rel 7 (fun u lo hi w => w0.heap.size ≤ w.heap.size ∧ SlI w w0.heap.size u (rowF d (g k)))] [[], [], [], [1, 2], [], [], [], [1, 2, 3, 5, 6], [0, 1, 2, 3, 4, 5, 6, 7]] 8 (by kernel_rfl) ⟨trivial, trivial, trivial, trivial, trivial, trivial, trivial, rel_stable (fun u lo hi w w' ⟨h1, h2⟩ hb => ⟨Nat.le_trans h1 hb.size, SlI.below (hb.mono h1) h2⟩), trivial⟩ ⟨?_, ?_, ?_, ?_, ?_, ?_, ?_, ?_, trivial⟩ ?_
      ·intro x w hb hk Q' hQ
       clear hk
       simp only [netE] at hQ ⊢
       go_wp2
       exact hQ _ _ (Below.refl _ _) rfl
      ·intro x w hb hk Q' hQ
       clear hk
       simp only [netE] at hQ ⊢
       have kq := hK4.out.call hb
       have z0 := kq.cell' (i := 0) rfl
       have z1 := kq.cell' (i := 1) rfl
       have z2 := kq.cell' (i := 2) rfl
       go_wp2
       exact hQ _ _ (Below.refl _ _) rfl
      ·intro x w hb hk Q' hQ
       clear hk
       simp only [netE] at hQ ⊢
       go_wp2
       exact hQ _ _ (Below.refl _ _) rfl
      ·intro x w hb hk Q' hQ
       have h1 : x.v 1 = .agg #[.int .i64 r, .int .i64 d, .slice (some ⟨gA, 0, none⟩) L cap] := (hk 1 (by decide)).1
       have h2 : x.v 2 = .int .i64 i := (hk 2 (by decide)).1
       clear hk
       simp only [netE] at hQ ⊢
       simp only [h1, h2] at hQ ⊢
       clear h1 h2
       go_wp2_with fail
       refine (row_in (g := gA) _ hlr hd0 hr hd HL.out.symm lA1 lA2 HP.out).mono ?_; rintro e w5 ⟨rfl, hb5⟩
       go_wp2
       exact hQ _ _ hb5 rfl
      ·intro x w hb hk Q' hQ
       clear hk
       simp only [netE] at hQ ⊢
       go_wp2
       exact hQ _ _ (Below.refl _ _) rfl
      ·intro x w hb hk Q' hQ
       clear hk
       simp only [netE] at hQ ⊢
       have kq := (K2.out.below hGW.out (by omega)).call hb
       have z0 := kq.cell' (i := 0) rfl
       have z1 := kq.cell' (i := 1) rfl
       have z2 := kq.cell' (i := 2) rfl
       go_wp2
       exact hQ _ _ (Below.refl _ _) rfl
      ·intro x w hb hk Q' hQ
       clear hk
       simp only [netE] at hQ ⊢
       go_wp2
       exact hQ _ _ (Below.refl _ _) rfl
      ·intro x w hb hk Q' hQ
       have h1 : x.v 1 = .agg #[.int .i64 r, .int .i64 d, .slice (some ⟨gA, 0, none⟩) L cap] := (hk 1 (by decide)).1
       have h2 : x.v 2 = .int .i64 i := (hk 2 (by decide)).1
       have h3 : x.v 3 = .slice (some ⟨gA, P, none⟩) d (cap - P) := (hk 3 (by decide)).1
       have h5 : x.v 5 = .agg #[.int .i64 c, .int .i64 d, .slice V VL vc] := (hk 5 (by decide)).1
       have h6 : x.v 6 = .int .i64 k := (hk 6 (by decide)).1
       clear hk
       simp only [netE] at hQ ⊢
       simp only [h1, h2, h3, h5, h6] at hQ ⊢
       clear h1 h2 h3 h5 h6
       have gz := (G0.out.trans (hGW.out.mono (by omega))).trans (hb.mono (by omega))
       have HVR := Lib.hid (MxR.below gz HV.out)
       have gzs := gz.size
       clear gz
       go_wp2_with fail
       refine (row_rd _ c d k w0.heap.size g _ HVR.out gzs hc hd hlc).mono ?_; rintro e w5 ⟨v5, rfl, hR5, hb5⟩
       have h6 := hb5.size
       go_wp2
       exact hQ _ _ hb5 ⟨by omega, hR5⟩
      ·intro x w hb hk hiv hdj
       have h0 : x.v 0 = .int .i64 p := hk 0 (by decide)
       have h1 : x.v 1 = .agg #[.int .i64 r, .int .i64 d, .slice (some ⟨gA, 0, none⟩) L cap] := hk 1 (by decide)
       have h2 : x.v 2 = .int .i64 i := hk 2 (by decide)
       have h3 : x.v 3 = .slice (some ⟨gA, P, none⟩) d (cap - P) := hk 3 (by decide)
       have h4 : x.v 4 = .int .i64 xk := hk 4 (by decide)
       have h5 : x.v 5 = .agg #[.int .i64 c, .int .i64 d, .slice V VL vc] := hk 5 (by decide)
       have h6 : x.v 6 = .int .i64 k := hk 6 (by decide)
       have h7 : w0.heap.size ≤ w.heap.size ∧ SlI w w0.heap.size (x.v 7) (rowF d (g k)) := hk 7 (by decide)
       clear hk
       simp only [netE]
       simp only [List.drop_succ_cons, List.drop_zero, h0, h1, h2, h3, h4, h5, h6]
       clear h0 h1 h2 h3 h4 h5 h6
       obtain ⟨h71, h72⟩ := h7
       have HB := Lib.hid hb
       have HGW2 := Lib.hid ((hGW.out).trans (hb.mono (by omega)))
       have hbs := hb.size
       have hA' := hOA.out
       rw [q5] at hA'
       have hA2 := hA'.below hb
       have hPd : P + d ≤ L := by rw [← HL.out]; exact (rowP hlr hd0 hr hd HP.out).2.1
       have hrng : ∀ a, a < L → 0 ≤ muS p c i k f g (a / d) (a % d) ∧ muS p c i k f g (a / d) (a % d) ≤ 4 := fun a _ => by
        have := muS_rng (p := p) hp.1 c i k f g (a / d) (a % d)
        omega
       have hrg : ∀ b, b < d → 0 ≤ g k b ∧ g k b ≤ 4 := fun b hb => le_pred hp HG.out hlc hb
       have HRNG := Lib.hid hrng
       have HRG := Lib.hid hrg
       have HK6 := Lib.hid ((hK4.out).call hb)
       clear hA' hb hiv hdj hrng hrg
       go_wp2_with fail
       refine (addMultiple_own p xk gA P d L cap (cap - P) W.heap.size w1.heap.size (fun a => muS p c i k f g (a / d) (a % d)) (g k) _ _ hp (by omega) hA2 ⟨q1, q2⟩ hPd (by omega) ⟨by omega, by omega⟩ (by omega) (SlI.up (by omega) h72) HRNG.out HRG.out).mono ?_; rintro e w6 ⟨rfl, hO5, hc5, hs5⟩
       rw [← HX.out, HP.out, ← HL.out, mu_step, HL.out] at hO5
       have hO5' := hO5
       have k46 := (HK6.out).chg hc5 (.inr (Nat.le_refl _))
       have gW6 := (HGW2.out).trans (hc5.below (Nat.le_refl _) (by omega))
       have hR6 := SlI.below (((HB.out).mono (by omega)).trans (hc5.below (by omega) (by omega))) HRR.out
       clear hO5
       go_wp2
       go_roundw
       ·exact ⟨k + 1, by omega, by simp, k46, hO5', gW6, hR6⟩
       ·show c - (k + 1) < c - k
        omega
    ·have hk' : k = c := by omega
     subst hk'
     rw [muS_next] at oA
     go_wp2
     go_roundw
     ·exact ⟨i + 1, by omega, by simp, k4, oA, gW⟩
     ·show r - (i + 1) < r - i
      omega
  ·have hi' : i = r := by omega
   subst hi'
   rw [muS_end] at oA
   have k3' := (K3.out).below gW (by have := SZ.out; omega)
   have hlt := k4.lt
   have z0 := k4.cell' (i := 0) rfl
   have z1 := k4.cell' (i := 1) rfl
   have z2 := k4.cell' (i := 2) rfl
   have p0 := k3'.cell' (i := 0) rfl
   have p1 := k3'.cell' (i := 1) rfl
   have p2 := k3'.cell' (i := 2) rfl
   have f2 := k3'.frozen
   have h2 := chg3 wr (w0.heap.size + 1 + 1) (.int .i64 (i : Int)) (.int .i64 d) (.slice A L cap)
   have gw : Below w0.heap.size w0 wr := (G0.out).trans (gW.mono (G0.out).size)
   have gs := gw.size
   have oA2 := (oA.chg h2 (.inr (by have := SZ.out; omega))).wider (lo' := w0.heap.size) (hi' := wr.heap.size) (by have := SZ.out; omega) (by omega)
   have fg := gw.trans (h2.below (by omega) gs)
   have OA2 := Lib.hid oA2
   have FG := Lib.hid fg
   clear oA oA2 fg gw h2 k3' k4 gW
   go_wp2
   exact bodyPost_ret (v := .agg #[.int .i64 (i : Int), .int .i64 d, .slice A L cap]) (by simp [results, go_sem, p0, p1, p2]) rfl ⟨_, rfl, ⟨_, rfl, (OA2.out).wider (Nat.le_refl _) (by simp), hr1, hr2⟩, FG.out⟩
end Go.Proofs.YtcmlflppndfdcaaGreat
namespace Go.Proofs.YtcmlflppndfdcaaGreat
open Go.RowKit
theorem SlM.atF {w : World} {B c n k R C : Nat} {A : Option Addr} {ms : List Mx} {f : Nat → Nat → Int} (h : SlM w B (.slice A n c) ms) (hn : ms.length = n) (hm : ms[k]? = some (mxF R C f)) :
  ∃ b o A' L c', A = some ⟨b, o, none⟩ ∧ b < B ∧ w.cell? ⟨b, o + k * 3, none⟩ = some (.int .i64 R) ∧ w.cell? ⟨b, o + k * 3 + 1, none⟩ = some (.int .i64 C) ∧ w.cell? ⟨b, o + k * 3 + 2, none⟩ = some (.slice A' L c') ∧ MxR w B (.agg #[.int .i64 R, .int .i64 C, .slice A' L c']) (mxF R C f) := by
 subst hn
 obtain ⟨b, o, m, A', c', h1, h2, HX, h4, h5, h6, h7, h8, h9, _⟩ := SlM.at_ h (lt_of_some hm)
 have := HX.out
 rw [hm] at this
 injection this with this
 subst this
 exact ⟨b, o, A', _, c', h1, h2, h4, h5, h6, _, rfl, h7, h8, h9⟩
def mvL (X Y : Rp) (F : Nat → Nat → Nat → Int) (V : Nat) : List Mx := (List.range V).map fun v => mxF (dmN Y.d v) (dmN X.d v) (F v)
theorem mvL_length (X Y : Rp) (F : Nat → Nat → Nat → Int) (V : Nat) : (mvL X Y F V).length = V := by simp [mvL]
theorem mvL_get (X Y : Rp) (F : Nat → Nat → Nat → Int) {V k : Nat} (h : k < V) : (mvL X Y F V)[k]? = some (mxF (dmN Y.d k) (dmN X.d k) (F k)) := by simp [mvL, h]
set_option maxHeartbeats 6400000 in
set_option maxRecDepth 100000 in
theorem shaped_any (u cv : Value) (ms : List Mx) (cs : List Int) (w0 : World) (hu : SlM w0 w0.heap.size u ms) (hc : SlI w0 w0.heap.size cv cs) (hn : ms.length ≤ 1000) (ht : totA ms ≤ cs.length) :
  Calls Tryz.prog 53 #[u, cv] w0 fun e w' => ∃ v, e = .returned v ∧ MatsO w' w0.heap.size w'.heap.size v (shL ms cs) ∧ Below w0.heap.size w0 w' := by
 obtain ⟨A, c, rfl, _, _, _, hx⟩ := hu.open_
 clear hu
 obtain ⟨CA, cc, rfl, hc1, hc2, hc3, hcx⟩ := hc.open_
 have HX := Lib.hid hx
 have HT := Lib.hid ht
 obtain ⟨n, hnl⟩ : ∃ n, ms.length = n := ⟨_, rfl⟩
 have HNL := Lib.hid hnl
 rw [hnl] at hn ⊢
 have hst : ∃ (L k0 : Nat) (A' : Option Addr) (c' : Nat), (.slice CA cs.length cc : Value) = .slice A' L c' ∧ L + totA (ms.take 0) = cs.length ∧ SlI w0 w0.heap.size (.slice A' L c') (cs.drop (totA (ms.take 0))) ∧ k0 = 0 := ⟨cs.length, 0, CA, cc, rfl, by simp [totA, tot], by simpa [totA, tot] using hcx, rfl⟩
 obtain ⟨L0, _, A0, c0, e0, l0, s0, _⟩ := hst
 have HL0 := Lib.hid l0
 have HS0 := Lib.hid s0
 rw [e0]
 clear hx ht hnl hc hcx hc1 hc2 hc3 e0 l0 s0
 go_enter Tryz.func53, Tryz.ntmps53
 go_wp2
 go_loopw [1, 5, 11] (fun cv out i wr => ∃ (k L c' : Nat) (CB : Option Addr), k ≤ n ∧ i = .int .i64 k ∧ cv = .slice CB L c' ∧ Hid (L + totA (ms.take k) = cs.length) ∧ Hid (∀ w2, Below w0.heap.size w0 w2 → SlI w2 w0.heap.size (.slice CB L c') (cs.drop (totA (ms.take k)))) ∧ MatsO wr w0.heap.size wr.heap.size out (shL (ms.take k) cs) ∧ Below w0.heap.size w0 wr) (fun _ _ i _ => n - (intOf i).toNat)
 case atStart => exact ⟨0, L0, c0, A0, Nat.zero_le _, rfl, rfl, HL0.out, fun w2 hb => SlI.below hb HS0.out, by simpa [shL] using MatsO.nil _ _ _, Below.refl _ _⟩
 case round =>
  obtain ⟨k, L, c', CB, hk, rfl, rfl, HL, HCB, hO, hbel⟩ := hrel
  have hbs := hbel.size
  have hln := shL_length (ms.take k) cs
  rw [List.length_take, show min k ms.length = k by have := HNL.out; omega] at hln
  have HLN := Lib.hid hln
  obtain ⟨OA, oc, eo, _, _⟩ := hO.form2
  rw [hln] at eo
  subst eo
  clear hln
  by_cases hlt : k < n
  ·have hx := HX.out
   obtain ⟨b, o, m, A', c'', rfl, hb, HX2, x1, x2, x3, hsl, i1, i2, _⟩ := SlM.at_ hx (by rw [HNL.out]; exact hlt)
   have d1 := bcell hbel hb x1
   have d2 := bcell hbel hb x2
   have d3 := bcell hbel hb x3
   have e1 : ms.take (k + 1) = ms.take k ++ [m] := by rw [take_snoc HX2.out]
   have hle : totA (ms.take k) + m.a.length ≤ cs.length := by
    have h1 : ms = ms.take (k + 1) ++ ms.drop (k + 1) := (List.take_append_drop _ _).symm
    have h2 := congrArg totA h1
    rw [totA_app, e1, totA_app, totA_one] at h2
    have := HT.out
    omega
   obtain ⟨S, hS⟩ : ∃ z, m.a.length = z := ⟨_, rfl⟩
   obtain ⟨T, hT⟩ : ∃ z, totA (ms.take k) = z := ⟨_, rfl⟩
   have hL := HL.out
   rw [hT] at hL
   rw [hS, hT] at hle
   rw [hS] at d3
   have HSH := Lib.hid (show shL (ms.take (k + 1)) cs = shL (ms.take k) cs ++ [⟨m.r, m.c, (cs.drop T).take S⟩] by rw [e1, shL_snoc, hS, hT])
   have HTS := Lib.hid (show totA (ms.take (k + 1)) = T + S by rw [e1, totA_app, totA_one, hS, hT])
   have HCT := Lib.hid (show ∀ w2, Below w0.heap.size w0 w2 → SlI w2 w0.heap.size (.slice CB L c') (cs.drop T) by have := HCB.out; rw [hT] at this; exact this)
   have hLc : L ≤ c' ∧ c' ≤ 9223372036854775807 := by
    obtain ⟨_, _, e, g1, g2, _⟩ := HCT.out wr hbel
    injection e with _ e2 e3
    rw [e3]
    omega
   have HDL := Lib.hid (show (cs.drop T).length = L by rw [List.length_drop]; omega)
   have hSL : S ≤ L := by omega
   have hL44 : L ≤ 17592186044416 := by
    obtain ⟨_, _, _, _, _, g3, _⟩ := (HCT.out wr hbel).open_
    have := HDL.out
    omega
   obtain ⟨W1, hW1⟩ : ∃ z, wr.alloc (.cells #[.int .i64 m.r, .int .i64 m.c, .slice A' S c''] 50) = z := ⟨_, rfl⟩
   have ga : Below wr.heap.size wr W1 := by rw [← hW1]; exact below_alloc _ _
   have kW : Blk W1 wr.heap.size 50 #[.int .i64 m.r, .int .i64 m.c, .slice A' S c''] := by rw [← hW1]; exact Blk.new _ _ _
   have z2 := kW.cell' (i := 2) rfl
   have KW := Lib.hid kW
   have HO := Lib.hid (hO.below ga)
   have HB := Lib.hid (hbel.trans (ga.mono hbs))
   have hsa := ga.size
   have hbs1 : w0.heap.size ≤ W1.heap.size := by omega
   have HI := Lib.hid (show I64 m.r ∧ I64 m.c from ⟨i1, i2⟩)
   clear hx hsl HX2 x1 x2 x3 hO hle hbel ga kW hS hT e1 i1 i2 HCB HL
   go_wp2
   clear hW1 d1 d2 d3 z2
   refine wp_region_net (by kernel_rfl) [.eq (.slice OA k oc), .eq (.pointer (some ⟨wr.heap.size, 0, none⟩)), .eq (.int .i64 m.r), .eq (.pointer (some ⟨wr.heap.size, 1, none⟩)), .eq (.int .i64 m.c), .eq (.slice CB L c'), .eq (.int .i64 S), .eq (.slice CB S c'), rel 8 (fun u lo hi w => IntsO w lo hi u ((cs.drop T).take S)), .rel (fun x w => x.v 9 = .agg #[.int .i64 m.r, .int .i64 m.c, x.v 8] ∧ IntsO w (x.lo 8) (x.hi 8) (x.v 8) ((cs.drop T).take S)), .rel (fun x w => ∃ g s, x.v 10 = .slice (some ⟨g, 0, none⟩) 1 1 ∧ x.v 9 = .agg #[.int .i64 m.r, .int .i64 m.c, s] ∧ Blk w g 50 #[.int .i64 m.r, .int .i64 m.c, s])] [[], [], [1], [], [3], [], [], [5, 6], [5, 6, 7], [1, 2, 3, 4, 5, 6, 7, 8], [1, 2, 3, 4, 5, 6, 7, 8, 9], [0, 1, 2, 3, 4, 5, 6, 7, 8, 9, 10], [0, 1, 2, 3, 4, 5, 6, 7, 8, 9, 10, 11]] 11 (by kernel_rfl) ⟨trivial, trivial, trivial, trivial, trivial, trivial, trivial, trivial, rel_stable (fun u lo hi w w' h hb => h.below hb), fun x w w' h hb => ⟨h.1, h.2.below hb⟩, fun x w w' ⟨g, s, e1, e2, h⟩ hb => ⟨g, s, e1, e2, h.call hb⟩, trivial⟩ ⟨?_, ?_, ?_, ?_, ?_, ?_, ?_, ?_, ?_, ?_, ?_, trivial⟩ ?_
   ·intro x w hb hk Q' hQ
    clear hk
    simp only [netE] at hQ ⊢
    go_wp2
    exact hQ _ _ (Below.refl _ _) rfl
   ·intro x w hb hk Q' hQ
    clear hk
    simp only [netE] at hQ ⊢
    go_wp2
    exact hQ _ _ (Below.refl _ _) rfl
   ·intro x w hb hk Q' hQ
    have h1 : x.v 1 = .pointer (some ⟨wr.heap.size, 0, none⟩) := (hk 1 (by decide)).1
    clear hk
    simp only [netE] at hQ ⊢
    simp only [h1] at hQ ⊢
    clear h1
    have z := (KW.out.call hb).cell' (i := 0) rfl
    go_wp2
    exact hQ _ _ (Below.refl _ _) rfl
   ·intro x w hb hk Q' hQ
    clear hk
    simp only [netE] at hQ ⊢
    go_wp2
    exact hQ _ _ (Below.refl _ _) rfl
   ·intro x w hb hk Q' hQ
    have h3 : x.v 3 = .pointer (some ⟨wr.heap.size, 1, none⟩) := (hk 3 (by decide)).1
    clear hk
    simp only [netE] at hQ ⊢
    simp only [h3] at hQ ⊢
    clear h3
    have z := (KW.out.call hb).cell' (i := 1) rfl
    go_wp2
    exact hQ _ _ (Below.refl _ _) rfl
   ·intro x w hb hk Q' hQ
    clear hk
    simp only [netE] at hQ ⊢
    go_wp2
    exact hQ _ _ (Below.refl _ _) rfl
   ·intro x w hb hk Q' hQ
    clear hk
    simp only [netE] at hQ ⊢
    go_wp2
    exact hQ _ _ (Below.refl _ _) rfl
   ·intro x w hb hk Q' hQ
    have h5 : x.v 5 = .slice CB L c' := (hk 5 (by decide)).1
    have h6 : x.v 6 = .int .i64 S := (hk 6 (by decide)).1
    clear hk
    simp only [netE] at hQ ⊢
    simp only [h5, h6] at hQ ⊢
    clear h5 h6
    go_wp2
    exact hQ _ _ (Below.refl _ _) rfl
   ·intro x w hb hk Q' hQ
    have h5 : x.v 5 = .slice CB L c' := (hk 5 (by decide)).1
    have h6 : x.v 6 = .int .i64 S := (hk 6 (by decide)).1
    have h7 : x.v 7 = .slice CB S c' := (hk 7 (by decide)).1
    clear hk
    simp only [netE] at hQ ⊢
    simp only [h5, h6, h7] at hQ ⊢
    clear h5 h6 h7
    have hcw := HCT.out w (HB.out.trans (hb.mono hbs1))
    rw [← HDL.out] at hcw
    have HCW := Lib.hid (SlI.more (show w0.heap.size ≤ w.heap.size by have := hb.size; omega) (SlG.takeG (k := S) hcw (by rw [HDL.out]; exact hSL)))
    clear hcw
    go_wp2_with fail
    refine (clone_own _ ((cs.drop T).take S) _ HCW.out).mono ?_; rintro e w6 ⟨v6, rfl, hR, hb6⟩
    go_wp2
    exact hQ _ _ hb6 hR
   ·intro x w hb hk Q' hQ
    have h1 : x.v 1 = .pointer (some ⟨wr.heap.size, 0, none⟩) := (hk 1 (by decide)).1
    have h2 : x.v 2 = .int .i64 m.r := (hk 2 (by decide)).1
    have h3 : x.v 3 = .pointer (some ⟨wr.heap.size, 1, none⟩) := (hk 3 (by decide)).1
    have h4 : x.v 4 = .int .i64 m.c := (hk 4 (by decide)).1
    have h5 : x.v 5 = .slice CB L c' := (hk 5 (by decide)).1
    have h6 : x.v 6 = .int .i64 S := (hk 6 (by decide)).1
    have h7 : x.v 7 = .slice CB S c' := (hk 7 (by decide)).1
    have h8 : IntsO w (x.lo 8) (x.hi 8) (x.v 8) ((cs.drop T).take S) := (hk 8 (by decide)).1
    have s8 := (hk 8 (by decide)).2
    clear hk
    simp only [netE] at hQ ⊢
    simp only [h1, h2, h3, h4, h5, h6, h7] at hQ ⊢
    clear h1 h2 h3 h4 h5 h6 h7
    have hQ' := hQ (.agg #[.int .i64 m.r, .int .i64 m.c, x.v 8]) w (Below.refl _ _) ⟨rfl, h8⟩
    obtain ⟨sA, sc, es⟩ := h8.form
    obtain ⟨sn, hsn⟩ : ∃ n, ((cs.drop T).take S).length = n := ⟨_, rfl⟩
    rw [hsn] at es
    rw [es] at hQ' ⊢
    clear hsn h8 es hQ
    go_wp2
    exact hQ'
   ·intro x w hb hk Q' hQ
    have h1 : x.v 1 = .pointer (some ⟨wr.heap.size, 0, none⟩) := (hk 1 (by decide)).1
    have h2 : x.v 2 = .int .i64 m.r := (hk 2 (by decide)).1
    have h3 : x.v 3 = .pointer (some ⟨wr.heap.size, 1, none⟩) := (hk 3 (by decide)).1
    have h4 : x.v 4 = .int .i64 m.c := (hk 4 (by decide)).1
    have h5 : x.v 5 = .slice CB L c' := (hk 5 (by decide)).1
    have h6 : x.v 6 = .int .i64 S := (hk 6 (by decide)).1
    have h7 : x.v 7 = .slice CB S c' := (hk 7 (by decide)).1
    have h8 : IntsO w (x.lo 8) (x.hi 8) (x.v 8) ((cs.drop T).take S) := (hk 8 (by decide)).1
    have h9 : x.v 9 = .agg #[.int .i64 m.r, .int .i64 m.c, x.v 8] ∧ IntsO w (x.lo 8) (x.hi 8) (x.v 8) ((cs.drop T).take S) := (hk 9 (by decide)).1
    have s8 := (hk 8 (by decide)).2
    have s9 := (hk 9 (by decide)).2
    clear hk
    simp only [netE] at hQ ⊢
    simp only [h1, h2, h3, h4, h5, h6, h7] at hQ ⊢
    clear h1 h2 h3 h4 h5 h6 h7
    obtain ⟨e9, h9s⟩ := h9
    obtain ⟨sA, sc, es⟩ := h9s.form
    obtain ⟨sn, hsn⟩ : ∃ n, ((cs.drop T).take S).length = n := ⟨_, rfl⟩
    rw [hsn] at es
    rw [es] at e9
    clear hsn h9s es
    have hQ' := hQ (.slice (some ⟨w.heap.size, 0, none⟩) 1 1) (w.alloc (.cells #[.int .i64 m.r, .int .i64 m.c, .slice sA sn sc] 50)) (below_alloc _ _) ⟨_, _, rfl, e9, Blk.new _ _ _⟩
    rw [e9] at hQ' ⊢
    go_wp2
    exact hQ'
   ·intro x w hb hk hiv hdj
    have h0 : x.v 0 = .slice OA k oc := hk 0 (by decide)
    have h1 : x.v 1 = .pointer (some ⟨wr.heap.size, 0, none⟩) := hk 1 (by decide)
    have h2 : x.v 2 = .int .i64 m.r := hk 2 (by decide)
    have h3 : x.v 3 = .pointer (some ⟨wr.heap.size, 1, none⟩) := hk 3 (by decide)
    have h4 : x.v 4 = .int .i64 m.c := hk 4 (by decide)
    have h5 : x.v 5 = .slice CB L c' := hk 5 (by decide)
    have h6 : x.v 6 = .int .i64 S := hk 6 (by decide)
    have h7 : x.v 7 = .slice CB S c' := hk 7 (by decide)
    have h8 : IntsO w (x.lo 8) (x.hi 8) (x.v 8) ((cs.drop T).take S) := hk 8 (by decide)
    have h9 : x.v 9 = .agg #[.int .i64 m.r, .int .i64 m.c, x.v 8] ∧ IntsO w (x.lo 8) (x.hi 8) (x.v 8) ((cs.drop T).take S) := hk 9 (by decide)
    have h10 : ∃ g s, x.v 10 = .slice (some ⟨g, 0, none⟩) 1 1 ∧ x.v 9 = .agg #[.int .i64 m.r, .int .i64 m.c, s] ∧ Blk w g 50 #[.int .i64 m.r, .int .i64 m.c, s] := hk 10 (by decide)
    clear hk
    simp only [netE]
    simp only [List.drop_succ_cons, List.drop_zero, h0, h1, h2, h3, h4, h5, h6, h7]
    clear h0 h1 h2 h3 h4 h5 h6 h7
    obtain ⟨g, s, ej, ei, hg⟩ := h10
    have li := (hiv 8 (by decide)).1
    have hi_ := (hiv 8 (by decide)).2.2
    obtain ⟨e9, hs⟩ := h9
    rw [e9] at ei
    simp only [Value.agg.injEq, Array.mk.injEq, List.cons.injEq, and_true, true_and] at ei
    rw [ei] at hs
    rw [ej]
    have hbs2 := hb.size
    have HOZ := Lib.hid (HO.out.below hb)
    have HKZ := Lib.hid hg
    have HSZ := Lib.hid (hs.wider li hi_)
    have HBZ := Lib.hid (HB.out.trans (hb.mono hbs1))
    clear hiv hdj hs ej ei hg hb e9 h8
    refine wpList_appMats (by rfl) (.tmp 18) (.tmp 28) (by rfl) w0.heap.size wr.heap.size _ (shL (ms.take k) cs) (by rfl) HOZ.out g 1 W1.heap.size w.heap.size ⟨m.r, m.c, (cs.drop T).take S⟩ s (by rfl) HKZ.out HSZ.out HI.out hsa hbs (Nat.le_refl _) (by omega) (by rw [HLN.out]; omega) ?_
    intro v' w' h1 h2
    rw [← HSH.out] at h1
    have H1 := Lib.hid h1
    have H2 := Lib.hid (HBZ.out.trans (h2.below (Nat.le_refl _) (by omega)))
    clear h1 h2
    go_wp2
    go_roundw
    case rel =>
     refine ⟨k + 1, L - S, c' - S, _, by omega, by go_num, rfl, by have := HTS.out; show L - S + _ = _; omega, fun w2 hb2 => ?_, H1.out, H2.out⟩
     have h2 := HCT.out w2 hb2
     have hcl := HDL.out
     rw [← hcl] at h2
     obtain ⟨CB', eCB, h3⟩ := SlG.cut (i := S) (k := L) h2 hSL (Nat.le_of_eq hcl.symm)
     rw [List.take_of_length_le (by rw [List.length_drop, hcl]; exact Nat.le_refl _), List.drop_drop, ← HTS.out] at h3
     rw [← eCB, Nat.mul_one] at h3
     exact h3
    case measure => simp [intOf]; omega
  ·obtain rfl : k = n := by omega
   have e0 : ms.take k = ms := List.take_of_length_le (by have := HNL.out; omega)
   rw [e0] at hO
   have HO := Lib.hid hO
   have HB := Lib.hid hbel
   clear hO hbel e0
   go_wp2
   go_ret
   exact ⟨_, rfl, HO.out, HB.out⟩
end Go.Proofs.YtcmlflppndfdcaaGreat
