/- FnExactRootRep: the law holds for every argument. Part 15 of 18 of the proof: RtY, RrP, RrZ, RrI, RrI2. No condition. -/
import Derived.Test.YtcmlflppndfdcaaGreatBRootRep14
import Derived.Sort.AtCallIn
set_option linter.unusedVariables false
set_option linter.unusedSimpArgs false
namespace Go.Proofs.YtcmlflppndfdcaaGreat
open Go.RowKit
set_option maxRecDepth 100000 in
set_option maxHeartbeats 1600000 in
theorem rootIndex_any (u xv : Value) (q : Qv) (x : List Int) (w0 : World) (hu : QvR w0 w0.heap.size u q) (hx : SlI w0 w0.heap.size xv x) :
  Calls Tryz.prog 91 #[u, xv] w0 fun e w' => e = .returned (.int .i64 (gidx (fun l => decide (l = x)) (rtsA q).1)) ∧ Below w0.heap.size w0 w' := by
 obtain ⟨G, hG⟩ : ∃ G, gidx (fun l => decide (l = x)) (rtsA q).1 = G := ⟨_, rfl⟩
 rw [hG]
 have hu' := hu
 have hx' := hx
 obtain ⟨A, c, C, d, rfl, hf, ht, hr, _⟩ := hu.open_
 obtain ⟨XA, xc, rfl, _⟩ := hx.open_
 clear hu hf ht hx
 obtain ⟨W, hW⟩ : ∃ W, W = (w0.alloc (.cells #[.int .i64 q.v, .slice A q.f.length c, .slice C q.t.length d] 29)).alloc (.cells #[.slice XA x.length xc] 22) := ⟨_, rfl⟩
 have kB : Blk W w0.heap.size 29 #[.int .i64 q.v, .slice A q.f.length c, .slice C q.t.length d] := by rw [hW]; exact (Blk.new _ _ _).alloc _
 have kX : Blk W (w0.heap.size + 1) 22 #[.slice XA x.length xc] := by
  rw [hW]
  have := Blk.new (w0.alloc (.cells #[.int .i64 q.v, .slice A q.f.length c, .slice C q.t.length d] 29)) 22 #[.slice XA x.length xc]
  simpa only [World.size_alloc] using this
 have g0 : Below w0.heap.size w0 W := by rw [hW]; exact ((Below.refl _ _).alloc (Nat.le_refl _) _).alloc (by simp) _
 have hq1 := QvR.next g0 hu'
 have hx1 := SlI.next g0 hx'
 have c0 := kB.cell' (i := 0) rfl
 have c1 := kB.cell' (i := 1) rfl
 have c2 := kB.cell' (i := 2) rfl
 clear hu' hx'
 go_enter Tryz.func91, Tryz.ntmps91
 go_wp2_with fail
 rw [← hW]; clear hW
 refine (implPositiveRoots_any _ q _ hq1).mono ?_; rintro e w1 ⟨v, rfl, hL, hb1⟩
 have hLr := hL.rd
 have kX1 := kX.call hb1
 have hx2 := SlI.next hb1 hx1
 have g1 := bthen g0 hb1
 have hI := indexFuncR_any (.pointer (some ⟨w0.heap.size + 1, 0, none⟩)) (fun l => decide (l = x)) v (rtsA q).1 w1 hLr (fun W a l hbW ha => rootEq_any _ a _ l x W ha (bcell hbW kX1.lt (kX1.cell' (i := 0) rfl)) (SlI.next hbW hx2))
 clear c0 c1 c2 kB hq1 g0 hb1 hL kX hx1
 rw [hG] at hI
 clear hG
 go_wp2_with fail
 refine hI.mono ?_; rintro e w2 ⟨rfl, hb2⟩
 clear hI
 go_wp2
 go_ret
 exact ⟨rfl, bthen g1 hb2⟩
set_option maxRecDepth 100000 in
set_option maxHeartbeats 1600000 in
theorem implIsRoot_any (u xv : Value) (q : Qv) (x : List Int) (w0 : World) (hu : QvR w0 w0.heap.size u q) (hx : SlI w0 w0.heap.size xv x) :
  Calls Tryz.prog 47 #[u, xv] w0 fun e w' => e = .returned (.bool (isRtB q x)) ∧ Below w0.heap.size w0 w' := by
 have hx' := hx
 obtain ⟨XA, xc, rfl, _⟩ := hx.open_
 clear hx
 have hga := gidx_any (fun l => decide (l = x)) (rtsA q).1
 have hgr := gidx_range (fun l => decide (l = x)) (rtsA q).1
 obtain ⟨G, hG⟩ : ∃ G, gidx (fun l => decide (l = x)) (rtsA q).1 = G := ⟨_, rfl⟩
 rw [hG] at hga hgr
 have HB : Hid (isRtB q x = decide (0 ≤ G)) := by
  show _ = _
  rw [hga, isRtB, Bool.eq_iff_iff]
  simp
 clear hga
 have hu' := hu
 obtain ⟨A, c, C, d, rfl, hf, ht, hr, _⟩ := hu.open_
 clear hu hf ht
 obtain ⟨W, hW⟩ : ∃ W, W = w0.alloc (.cells #[.int .i64 q.v, .slice A q.f.length c, .slice C q.t.length d] 29) := ⟨_, rfl⟩
 have kB : Blk W w0.heap.size 29 #[.int .i64 q.v, .slice A q.f.length c, .slice C q.t.length d] := by rw [hW]; exact Blk.new _ _ _
 have g0 : Below w0.heap.size w0 W := by rw [hW]; exact below_alloc _ _
 have hq1 := QvR.next g0 hu'
 have c0 := kB.cell' (i := 0) rfl
 have c1 := kB.cell' (i := 1) rfl
 have c2 := kB.cell' (i := 2) rfl
 clear hu'
 have hx1 := SlI.next g0 hx'
 have hri2 := rootIndex_any _ _ q x W hq1 hx1
 rw [hG] at hri2
 clear hG
 by_cases h0 : 0 ≤ G
 ·have hd : decide (0 ≤ G) = true := decide_eq_true h0
  go_enter Tryz.func47, Tryz.ntmps47
  go_wp2_with fail
  rw [← hW]; clear hW
  refine hri2.mono ?_; rintro e w1 ⟨rfl, hb1⟩
  clear hri2
  go_wp2
  go_ret
  exact ⟨by rw [HB.out, hd]; rfl, bthen g0 hb1⟩
 ·have hd : decide (0 ≤ G) = false := decide_eq_false h0
  go_enter Tryz.func47, Tryz.ntmps47
  go_wp2_with fail
  rw [← hW]; clear hW
  refine hri2.mono ?_; rintro e w1 ⟨rfl, hb1⟩
  clear hri2
  go_wp2
  go_ret
  exact ⟨by rw [HB.out, hd]; rfl, bthen g0 hb1⟩
set_option maxRecDepth 100000 in
set_option maxHeartbeats 1600000 in
theorem specIsRoot_any (u xv : Value) (q : Qv) (x : List Int) (w0 : World) (hu : QvR w0 w0.heap.size u q) (hx : SlI w0 w0.heap.size xv x) :
  Calls Tryz.prog 44 #[u, xv] w0 fun e w' => e = .returned (.bool (isRtB q x)) ∧ Below w0.heap.size w0 w' := by
 have hx' := hx
 obtain ⟨XA, xc, rfl, _⟩ := hx.open_
 clear hx
 have hnil := rtsA_nil (q := q)
 have hdf : isRtB q x = decide (x ∈ (rtsA q).1) := rfl
 have hu' := hu
 obtain ⟨A, c, C, d, rfl, hf, ht, hr, _⟩ := hu.open_
 clear hu hf ht
 obtain ⟨W, hW⟩ : ∃ W, W = w0.alloc (.cells #[.int .i64 q.v, .slice A q.f.length c, .slice C q.t.length d] 29) := ⟨_, rfl⟩
 have kB : Blk W w0.heap.size 29 #[.int .i64 q.v, .slice A q.f.length c, .slice C q.t.length d] := by rw [hW]; exact Blk.new _ _ _
 have g0 : Below w0.heap.size w0 W := by rw [hW]; exact below_alloc _ _
 have hq1 := QvR.next g0 hu'
 have c0 := kB.cell' (i := 0) rfl
 have c1 := kB.cell' (i := 1) rfl
 have c2 := kB.cell' (i := 2) rfl
 clear hu'
 have hx1 := SlI.next g0 hx'
 rcases hB : (rtsA q).2 with _ | _
 ·have HF : Hid (isRtB q x = false) := by show _ = _; rw [hdf, hnil hB]; rfl
  have HB := Lib.hid hB
  clear hB hdf hnil
  go_enter Tryz.func44, Tryz.ntmps44
  go_wp2_with fail
  rw [← hW]; clear hW
  refine (specPositiveRoots_any _ q _ hq1).mono ?_; rintro e w1 ⟨v, rfl, hL, hb1⟩
  have hLr : SlII w1 w1.heap.size v (rtsA q).1 := by first | exact hL.rd | exact hL
  obtain ⟨LA, lc, hve, hlc1, hlc2, hlc3, hLr⟩ := hLr.open_
  subst hve
  have kB1 := kB.call hb1
  have hq2 := QvR.next hb1 hq1
  have g1 := bthen g0 hb1
  have gs1 := g0.size
  have gs2 := hb1.size
  clear c0 c1 c2 kB hq1 g0 hb1
  rw [HB.out]
  go_wp2
  go_ret
  exact ⟨by rw [HF.out]; rfl, g1⟩
 ·have HB := Lib.hid hB
  have HDF := Lib.hid hdf
  clear hB hdf hnil
  have hx2 := fun w h => SlI.next (w := W) (w' := w) h hx1
  go_enter Tryz.func44, Tryz.ntmps44
  go_wp2_with fail
  rw [← hW]; clear hW
  refine (specPositiveRoots_any _ q _ hq1).mono ?_; rintro e w1 ⟨v, rfl, hL, hb1⟩
  have hxx := hx2 w1 hb1
  clear hx2
  rw [HB.out]
  have g1 := bthen g0 hb1
  go_wp2_with fail
  refine (l20Has_any _ _ (rtsA q).1 x w1 hL hxx).mono ?_; rintro e w2 ⟨rfl, hb2⟩
  obtain ⟨B, hB⟩ : ∃ B, decide (x ∈ (rtsA q).1) = B := ⟨_, rfl⟩
  have HB2 := Lib.hid hB
  rw [hB]
  clear hB
  go_wp2
  go_ret
  exact ⟨by rw [HDF.out, HB2.out]; rfl, bthen g1 hb2⟩
end Go.Proofs.YtcmlflppndfdcaaGreat
namespace Go.Proofs.YtcmlflppndfdcaaGreat
open Go.RowKit
def rrN (q : Qv) (x : List Int) : Nat := totA (zms q x q.f.length)
def rrR (p : Int) (q : Qv) (x : List Int) (k : Nat) : Rp := ⟨p, q, x, shL (zms q x q.f.length) (bxV 1 (rrN q x) k)⟩
def rrOne (p : Int) (q : Qv) (x : List Int) (k : Nat) : Bool := decide (homN (rrR p q x k) (rrR p q x k) = 1)
def rrK (p : Int) (q : Qv) (x : List Int) : Option Nat := (List.range (2 ^ rrN q x)).find? (rrOne p q x)
def rrOk (p : Int) (q : Qv) (x : List Int) : Bool := isFld p && isRtB q x && areDims q x
def rrA (p : Int) (q : Qv) (x : List Int) : Option Nat → Rp × Bool
 | some k => (rrR p q x k, true)
 | none => (rp0, false)
def rrQ (p : Int) (q : Qv) (x : List Int) : Rp × Bool := if rrOk p q x && decide (rrN q x ≤ 10) then rrA p q x (rrK p q x) else (rp0, false)
theorem rrK_at {p : Int} {q : Qv} {x : List Int} {k : Nat} (hk : k < 2 ^ rrN q x) (h1 : ∀ i, i < k → rrOne p q x i = false) (h2 : rrOne p q x k = true) : rrK p q x = some k := by
 rw [rrK, List.find?_range_eq_some]
 exact ⟨h2, List.mem_range.2 hk, fun j hj => by rw [h1 j hj]; rfl⟩
theorem rrK_no {p : Int} {q : Qv} {x : List Int} (h1 : ∀ i, i < 2 ^ rrN q x → rrOne p q x i = false) : rrK p q x = none := by
 rw [rrK, List.find?_range_eq_none]
 exact fun j hj => by rw [h1 j hj]; rfl
theorem shL_get : ∀ (ms : List Mx) (cs : List Int) (i : Nat) (m : Mx), ms[i]? = some m → (shL ms cs)[i]? = some ⟨m.r, m.c, (cs.drop (totA (ms.take i))).take m.a.length⟩
 | [], _, _, _, h => by simp at h
 | a :: ms, cs, 0, m, h => by
  simp at h
  subst h
  simp [shL, totA, tot]
 | a :: ms, cs, i + 1, m, h => by
  simp only [List.getElem?_cons_succ] at h
  have := shL_get ms (cs.drop a.a.length) i m h
  simp only [shL, List.getElem?_cons_succ, this, List.drop_drop, List.take_succ_cons]
  have e : totA (a :: ms.take i) = a.a.length + totA (ms.take i) := by simp [totA, tot]
  rw [e]
theorem totA_part {ms : List Mx} {i : Nat} {m : Mx} (h : ms[i]? = some m) : totA (ms.take i) + m.a.length ≤ totA ms := by
 have h1 : ms = ms.take (i + 1) ++ ms.drop (i + 1) := (List.take_append_drop _ _).symm
 have h2 := congrArg totA h1
 rw [totA_app, take_snoc h, totA_app, totA_one] at h2
 omega
theorem rrR_rep {p : Int} {q : Qv} {x : List Int} (hp : isFld p = true) (hd : areDims q x = true) (k : Nat) : isRep (rrR p q x k) = true := by
 have hpr := isFld_r hp
 refine isRep_t.2 ⟨hp, hd, by simp [rrR, shL_length, zms_length], ?_⟩
 simp only [okMs, List.all_eq_true, List.mem_range]
 intro i hi
 have hi' : i < q.f.length := by simpa [rrR, shL_length, zms_length] using hi
 obtain ⟨nf, nt, yf, yt, ef, et, df, dt, _⟩ := rep_at (x := ⟨p, q, x, []⟩) hd hi'
 simp only at ef et df dt
 have hx := (areDims_t.1 hd).2.2.1
 have bf := hx _ (List.mem_of_getElem? df)
 have bt := hx _ (List.mem_of_getElem? dt)
 have hz : (zms q x q.f.length)[i]? = some (zmx yt yf) := by
  simp only [zms, List.getElem?_map, List.getElem?_range hi', Option.map_some, List.getD_eq_getElem?_getD, ef, et, Option.getD_some, dAt_of df, dAt_of dt]
 have hg := shL_get _ (bxV 1 (rrN q x) k) _ _ hz
 have hpt := totA_part hz
 have hl : (zmx yt yf).a.length = (yt * yf).toNat := by simp [zmx]
 have hb := mul_bd (a := yt) (b := yf) (by omega) (by omega)
 have hN : totA (zms q x q.f.length) = rrN q x := rfl
 rw [hN] at hpt
 simp only [rrR, List.getD_eq_getElem?_getD, hg, ef, et, Option.getD_some, okM, Bool.and_eq_true, decide_eq_true_eq, dAt_of df, dAt_of dt]
 have hlen : (((bxV 1 (rrN q x) k).drop (totA ((zms q x q.f.length).take i))).take (zmx yt yf).a.length).length = (yt * yf).toNat := by
  rw [List.length_take, List.length_drop, bxV_length, hl]
  omega
 refine ⟨⟨isMat_t.2 ⟨by simp only [zmx]; omega, by simp only [zmx]; omega, ?_, isVec_t.2 ⟨hp, by rw [hlen]; omega, fun y hy => ?_⟩⟩, rfl⟩, rfl⟩
 ·rw [hlen]
  simp only [zmx]
  omega
 ·have := bxV_rng (List.mem_of_mem_drop (List.mem_of_mem_take hy))
  omega
theorem rrR_fit {p : Int} {q : Qv} {x : List Int} (hp : isFld p = true) (hd : areDims q x = true) (k : Nat) : Fit2 (rrR p q x k) (rrR p q x k) := ⟨rrR_rep hp hd k, rrR_rep hp hd k, rfl, rfl⟩
theorem rrQ_no {p : Int} {q : Qv} {x : List Int} (h : rrOk p q x = false) : rrQ p q x = (rp0, false) := by simp [rrQ, h]
theorem rrQ_big {p : Int} {q : Qv} {x : List Int} (h : 10 < rrN q x) : rrQ p q x = (rp0, false) := by
 have : ¬ rrN q x ≤ 10 := by omega
 simp [rrQ, this]
theorem rrQ_yes {p : Int} {q : Qv} {x : List Int} (h : rrOk p q x = true) (h2 : rrN q x ≤ 10) : rrQ p q x = rrA p q x (rrK p q x) := by simp [rrQ, h, h2]
theorem rrN_le {q : Qv} {x : List Int} (hd : areDims q x = true) : rrN q x ≤ 96 := by
 have one : ∀ n, n ≤ q.f.length → totA (zms q x n) ≤ n * 16 := by
  intro n
  induction n with
  | zero => simp [zms, totA, tot]
  | succ n ih =>
   intro hn
   obtain ⟨nf, nt, yf, yt, ef, et, df, dt, _⟩ := rep_at (x := ⟨0, q, x, []⟩) hd (show n < q.f.length by omega)
   have hx := (areDims_t.1 hd).2.2.1
   have bf := hx _ (List.mem_of_getElem? df)
   have bt := hx _ (List.mem_of_getElem? dt)
   rw [zms_succ ef et df dt, totA_app, totA_one]
   have hih := ih (by omega)
   have hl : (zmx yt yf).a.length = (yt * yf).toNat := by simp [zmx]
   obtain ⟨a, rfl⟩ := Int.eq_ofNat_of_zero_le bf.1
   obtain ⟨b, rfl⟩ := Int.eq_ofNat_of_zero_le bt.1
   have hP4 : b * a ≤ 4 * 4 := Nat.mul_le_mul (by omega) (by omega)
   have e : ((b : Int) * (a : Int)).toNat = b * a := by rw [← Int.natCast_mul]; exact Int.toNat_natCast _
   rw [hl, e, Nat.succ_mul]
   obtain ⟨P, hP⟩ : ∃ P, b * a = P := ⟨_, rfl⟩
   rw [hP] at hP4 ⊢
   exact Nat.add_le_add hih hP4
 have h6 := (isQ_t.1 (areDims_t.1 hd).1).2.2.1
 have := one q.f.length (Nat.le_refl _)
 unfold rrN
 omega
end Go.Proofs.YtcmlflppndfdcaaGreat
namespace Go.Proofs.YtcmlflppndfdcaaGreat
open Go.RowKit
theorem rrQ_size (p : Int) (q : Qv) (x : List Int) : (rrQ p q x).1.size ≤ 1000 := by
 unfold rrQ
 split
 ·rename_i h
  simp only [Bool.and_eq_true] at h
  have h0 := h.1
  simp only [rrOk, Bool.and_eq_true] at h0
  cases rrK p q x with
  | none => simp [rrA, rp0_size]
  | some k => exact isRep_size (rrR_rep h0.1.1 h0.2 k)
 ·simp [rp0_size]
end Go.Proofs.YtcmlflppndfdcaaGreat
namespace Go.Proofs.YtcmlflppndfdcaaGreat
open Go.RowKit Go.Shelf
attribute [local go_sem] Oper.semAt_some
theorem RepO.setM {w : World} {lo hi lo' hi' : Nat} {p v : Int} {f t d m mv : Value} {y : Rp} {ms : List Mx} (h : RepO w lo hi (.agg #[.int .i64 p, .int .i64 v, f, t, d, m]) y) (hm : MatsO w lo' hi' mv ms) (h1 : hi ≤ lo') (h2 : lo ≤ hi) (h3 : lo' ≤ hi') :
  RepO w lo hi' (.agg #[.int .i64 p, .int .i64 v, f, t, d, mv]) ⟨y.p, y.q, y.d, ms⟩ := by
 obtain ⟨f1, t1, d1, m1, vs, e, hO, hvl, hF, hi1, hi2⟩ := h
 simp only [Value.agg.injEq, Array.mk.injEq, List.cons.injEq, and_true, Value.int.injEq, true_and] at e
 obtain ⟨e1, e2, rfl, rfl, rfl, rfl⟩ := e
 obtain ⟨us, hO2, hul, hF2, hI2⟩ := hm
 refine ⟨f, t, d, mv, us, by rw [e1, e2], hO2.mono (by omega) (Nat.le_refl _), hul, ?_, hi1, hI2⟩
 have hL : Fam w lo hi [(f, y.q.f), (t, y.q.t), (d, y.d)] := by
  refine ⟨fun z hz => hF.1 z (List.mem_append_left _ hz), ?_⟩
  have := hF.2
  rw [List.pairwise_append] at this
  exact this.1
 exact Fam.join (hL.mono (Nat.le_refl _) h1) hF2 (by omega) h3
theorem RepO.parts {w : World} {lo hi : Nat} {v : Value} {y : Rp} (h : RepO w lo hi v y) : ∃ f t d m, v = .agg #[.int .i64 y.p, .int .i64 y.q.v, f, t, d, m] ∧ SlI w w.heap.size f y.q.f ∧ SlI w w.heap.size t y.q.t ∧ SlI w w.heap.size d y.d ∧ SlM w w.heap.size m y.m ∧ I64 y.p ∧ I64 y.q.v := h.rd
set_option maxHeartbeats 6400000 in
set_option maxRecDepth 100000 in
theorem implRootRep_no (p : Int) (u xv : Value) (q : Qv) (x : List Int) (w0 : World) (hp : I64 p) (hu : QvR w0 w0.heap.size u q) (hx : SlI w0 w0.heap.size xv x) (h : rrOk p q x = false) :
  Calls Tryz.prog 16 #[.int .i64 p, u, xv] w0 fun e w' => ∃ v, e = .returned (.tuple #[v, .bool (rrQ p q x).2]) ∧ RepO w' w0.heap.size w'.heap.size v (rrQ p q x).1 ∧ Below w0.heap.size w0 w' := by
 have hu' := hu
 obtain ⟨A, c, C, d, rfl, hf, ht, hr, lf, lt⟩ := hu.open_
 have hx' := hx
 obtain ⟨XA, xc, rfl, _, _, lx, _⟩ := hx.open_
 clear hu hx hf ht
 obtain ⟨W, hW⟩ : ∃ z, ((w0.alloc (.cells #[.int .i64 q.v, .slice A q.f.length c, .slice C q.t.length d] 29)).alloc (.cells #[.int .i64 0, .int .i64 0, .slice none 0 0, .slice none 0 0, .slice none 0 0, .slice none 0 0] 32)).alloc (.cells #[.bool false] 4) = z := ⟨_, rfl⟩
 have g0 : Below w0.heap.size w0 W := by rw [← hW]; exact (((Below.refl _ _).alloc (Nat.le_refl _) _).alloc (by simp) _).alloc (by simp; omega) _
 have kQ : Blk W w0.heap.size 29 #[.int .i64 q.v, .slice A q.f.length c, .slice C q.t.length d] := by rw [← hW]; exact ((Blk.new _ _ _).alloc _).alloc _
 have kR : Blk W (w0.heap.size + 1) 32 #[.int .i64 0, .int .i64 0, .slice none 0 0, .slice none 0 0, .slice none 0 0, .slice none 0 0] := by
  rw [← hW]
  have := (Blk.new (w0.alloc (.cells #[.int .i64 q.v, .slice A q.f.length c, .slice C q.t.length d] 29)) 32 #[.int .i64 0, .int .i64 0, .slice none 0 0, .slice none 0 0, .slice none 0 0, .slice none 0 0]).alloc (.cells #[.bool false] 4)
  simpa only [World.size_alloc] using this
 have kT : Blk W (w0.heap.size + 1 + 1) 4 #[.bool false] := by
  rw [← hW]
  have := Blk.new ((w0.alloc (.cells #[.int .i64 q.v, .slice A q.f.length c, .slice C q.t.length d] 29)).alloc (.cells #[.int .i64 0, .int .i64 0, .slice none 0 0, .slice none 0 0, .slice none 0 0, .slice none 0 0] 32)) 4 #[.bool false]
  simpa only [World.size_alloc] using this
 have sW : Hid (W.heap.size = w0.heap.size + 1 + 1 + 1) := by show _ = _; rw [← hW]; simp
 have HQ := Lib.hid (QvR.next g0 hu')
 have HX := Lib.hid (SlI.next g0 hx')
 have q0 := kQ.cell' (i := 0) rfl
 have q1 := kQ.cell' (i := 1) rfl
 have q2 := kQ.cell' (i := 2) rfl
 have G0 := Lib.hid g0
 clear hu' hx' g0
 have HE := Lib.hid (rrQ_no h)
 rcases h1 : isFld p with _ | _
 ·have H1 := Lib.hid h1
  clear h h1
  go_enter Tryz.func16, Tryz.ntmps16
  go_wp2_with fail
  clear hW
  refine (implIsField_any _ _).mono ?_; rintro e w1 ⟨rfl, hww⟩; replace hww := hww.symm; subst hww
  rw [H1.out]
  have hb1 := Below.refl W.heap.size W
  have kRz := kR.call hb1
  have kTz := kT.call hb1
  have z0 := kRz.cell' (i := 0) rfl
  have z1 := kRz.cell' (i := 1) rfl
  have z2 := kRz.cell' (i := 2) rfl
  have z3 := kRz.cell' (i := 3) rfl
  have z4 := kRz.cell' (i := 4) rfl
  have z5 := kRz.cell' (i := 5) rfl
  have zb := kTz.cell' (i := 0) rfl
  have fr := kRz.frozen
  have fb := kTz.frozen
  have GF := Lib.hid (G0.out.trans (hb1.mono G0.out.size))
  clear kRz kTz
  go_wp2
  have gf := GF.out
  have sw := sW.out
  refine bodyPost_ret (v := .tuple #[.agg #[.int .i64 0, .int .i64 0, .slice none 0 0, .slice none 0 0, .slice none 0 0, .slice none 0 0], .bool false]) (by simp [results, go_sem, z0, z1, z2, z3, z4, z5, zb]) rfl ⟨_, by rw [HE.out], by rw [HE.out]; exact RepO.zero _ _ _, ((((((gf.setCell (by simp) _).setCell (by simp) _).setCell (by simp) _).setCell (by simp) _).setCell (by simp) _).setCell (by simp) _).setCell (by simp; omega) _⟩
 ·rcases h2 : isRtB q x with _ | _
  ·have H1 := Lib.hid h1
   have H2 := Lib.hid h2
   clear h h1 h2
   go_enter Tryz.func16, Tryz.ntmps16
   go_wp2_with fail
   clear hW
   refine (implIsField_any _ _).mono ?_; rintro e w1 ⟨rfl, hww⟩; replace hww := hww.symm; subst hww
   rw [H1.out]
   go_wp2_with fail
   refine (implIsRoot_any _ _ q x _ HQ.out HX.out).mono ?_; rintro e w2 ⟨rfl, hb2⟩
   rw [H2.out]
   have kRz := kR.call hb2
   have kTz := kT.call hb2
   have z0 := kRz.cell' (i := 0) rfl
   have z1 := kRz.cell' (i := 1) rfl
   have z2 := kRz.cell' (i := 2) rfl
   have z3 := kRz.cell' (i := 3) rfl
   have z4 := kRz.cell' (i := 4) rfl
   have z5 := kRz.cell' (i := 5) rfl
   have zb := kTz.cell' (i := 0) rfl
   have fr := kRz.frozen
   have fb := kTz.frozen
   have GF := Lib.hid (G0.out.trans (hb2.mono G0.out.size))
   clear kRz kTz
   go_wp2
   have gf := GF.out
   have sw := sW.out
   refine bodyPost_ret (v := .tuple #[.agg #[.int .i64 0, .int .i64 0, .slice none 0 0, .slice none 0 0, .slice none 0 0, .slice none 0 0], .bool false]) (by simp [results, go_sem, z0, z1, z2, z3, z4, z5, zb]) rfl ⟨_, by rw [HE.out], by rw [HE.out]; exact RepO.zero _ _ _, ((((((gf.setCell (by simp) _).setCell (by simp) _).setCell (by simp) _).setCell (by simp) _).setCell (by simp) _).setCell (by simp) _).setCell (by simp; omega) _⟩
  ·rcases h3 : areDims q x with _ | _
   ·have H1 := Lib.hid h1
    have H2 := Lib.hid h2
    have H3 := Lib.hid h3
    clear h h1 h2 h3
    go_enter Tryz.func16, Tryz.ntmps16
    go_wp2_with fail
    clear hW
    refine (implIsField_any _ _).mono ?_; rintro e w1 ⟨rfl, hww⟩; replace hww := hww.symm; subst hww
    rw [H1.out]
    go_wp2_with fail
    refine (implIsRoot_any _ _ q x _ HQ.out HX.out).mono ?_; rintro e w2 ⟨rfl, hb2⟩
    rw [H2.out]
    have kQ2 := kQ.call hb2
    have q0' := kQ2.cell' (i := 0) rfl
    have q1' := kQ2.cell' (i := 1) rfl
    have q2' := kQ2.cell' (i := 2) rfl
    go_wp2_with fail
    refine (implAreDims_any _ _ q x _ (QvR.next hb2 HQ.out) (SlI.next hb2 HX.out)).mono ?_; rintro e w3 ⟨rfl, hb3⟩
    rw [H3.out]
    have hb23 := bthen hb2 hb3
    clear q0 q1 q2 q0' q1' q2'
    have kRz := kR.call hb23
    have kTz := kT.call hb23
    have z0 := kRz.cell' (i := 0) rfl
    have z1 := kRz.cell' (i := 1) rfl
    have z2 := kRz.cell' (i := 2) rfl
    have z3 := kRz.cell' (i := 3) rfl
    have z4 := kRz.cell' (i := 4) rfl
    have z5 := kRz.cell' (i := 5) rfl
    have zb := kTz.cell' (i := 0) rfl
    have fr := kRz.frozen
    have fb := kTz.frozen
    have GF := Lib.hid (G0.out.trans (hb23.mono G0.out.size))
    clear kRz kTz
    go_wp2
    have gf := GF.out
    have sw := sW.out
    refine bodyPost_ret (v := .tuple #[.agg #[.int .i64 0, .int .i64 0, .slice none 0 0, .slice none 0 0, .slice none 0 0, .slice none 0 0], .bool false]) (by simp [results, go_sem, z0, z1, z2, z3, z4, z5, zb]) rfl ⟨_, by rw [HE.out], by rw [HE.out]; exact RepO.zero _ _ _, ((((((gf.setCell (by simp) _).setCell (by simp) _).setCell (by simp) _).setCell (by simp) _).setCell (by simp) _).setCell (by simp) _).setCell (by simp; omega) _⟩
   ·simp [rrOk, h1, h2, h3] at h
end Go.Proofs.YtcmlflppndfdcaaGreat
namespace Go.Proofs.YtcmlflppndfdcaaGreat
open Go.RowKit Go.Shelf
attribute [local go_sem] Oper.semAt_some
set_option maxHeartbeats 12800000 in
set_option maxRecDepth 100000 in
theorem implRootRep_any (p : Int) (u xv : Value) (q : Qv) (x : List Int) (w0 : World) (hp : I64 p) (hu : QvR w0 w0.heap.size u q) (hx : SlI w0 w0.heap.size xv x) :
  Calls Tryz.prog 16 #[.int .i64 p, u, xv] w0 fun e w' => ∃ v, e = .returned (.tuple #[v, .bool (rrQ p q x).2]) ∧ RepO w' w0.heap.size w'.heap.size v (rrQ p q x).1 ∧ Below w0.heap.size w0 w' := by
 rcases h : rrOk p q x with _ | _
 ·exact implRootRep_no p u xv q x w0 hp hu hx h
 have h0 := h
 simp only [rrOk, Bool.and_eq_true] at h0
 obtain ⟨⟨h1, h2⟩, h3⟩ := h0
 have hN96 := rrN_le h3
 have hn6 : q.f.length ≤ 6 := (isQ_t.1 (areDims_t.1 h3).1).2.2.1
 have HFIT := Lib.hid (fun k => rrR_fit h1 h3 k)
 have HRE := Lib.hid (fun k => show rrR p q x k = ⟨p, q, x, shL (zms q x q.f.length) (bxV 1 (rrN q x) k)⟩ from rfl)
 have HONE := Lib.hid (fun k => show rrOne p q x k = decide (homN (rrR p q x k) (rrR p q x k) = 1) from rfl)
 have HKA := Lib.hid (fun k => rrK_at (p := p) (q := q) (x := x) (k := k))
 have HKN := Lib.hid (rrK_no (p := p) (q := q) (x := x))
 have HZN := Lib.hid (show totA (zms q x q.f.length) = rrN q x from rfl)
 have HZL := Lib.hid (zms_length q x q.f.length)
 have H1 := Lib.hid h1
 have H2 := Lib.hid h2
 have H3 := Lib.hid h3
 by_cases hbig : 10 < rrN q x
 ·have hu' := hu
  obtain ⟨A, c, C, d, rfl, hf, ht, hr, lf, lt⟩ := hu.open_
  have hx' := hx
  obtain ⟨XA, xc, rfl, _, _, lx, _⟩ := hx.open_
  clear hu hx hf ht
  obtain ⟨W, hW⟩ : ∃ z, ((w0.alloc (.cells #[.int .i64 q.v, .slice A q.f.length c, .slice C q.t.length d] 29)).alloc (.cells #[.int .i64 0, .int .i64 0, .slice none 0 0, .slice none 0 0, .slice none 0 0, .slice none 0 0] 32)).alloc (.cells #[.bool false] 4) = z := ⟨_, rfl⟩
  have g0 : Below w0.heap.size w0 W := by rw [← hW]; exact (((Below.refl _ _).alloc (Nat.le_refl _) _).alloc (by simp) _).alloc (by simp; omega) _
  have kQ : Blk W w0.heap.size 29 #[.int .i64 q.v, .slice A q.f.length c, .slice C q.t.length d] := by rw [← hW]; exact ((Blk.new _ _ _).alloc _).alloc _
  have kR : Blk W (w0.heap.size + 1) 32 #[.int .i64 0, .int .i64 0, .slice none 0 0, .slice none 0 0, .slice none 0 0, .slice none 0 0] := by
   rw [← hW]
   have := (Blk.new (w0.alloc (.cells #[.int .i64 q.v, .slice A q.f.length c, .slice C q.t.length d] 29)) 32 #[.int .i64 0, .int .i64 0, .slice none 0 0, .slice none 0 0, .slice none 0 0, .slice none 0 0]).alloc (.cells #[.bool false] 4)
   simpa only [World.size_alloc] using this
  have kT : Blk W (w0.heap.size + 1 + 1) 4 #[.bool false] := by
   rw [← hW]
   have := Blk.new ((w0.alloc (.cells #[.int .i64 q.v, .slice A q.f.length c, .slice C q.t.length d] 29)).alloc (.cells #[.int .i64 0, .int .i64 0, .slice none 0 0, .slice none 0 0, .slice none 0 0, .slice none 0 0] 32)) 4 #[.bool false]
   simpa only [World.size_alloc] using this
  have sW : Hid (W.heap.size = w0.heap.size + 1 + 1 + 1) := by show _ = _; rw [← hW]; simp
  have HQ := Lib.hid (QvR.next g0 hu')
  have HX := Lib.hid (SlI.next g0 hx')
  have q0 := kQ.cell' (i := 0) rfl
  have q1 := kQ.cell' (i := 1) rfl
  have q2 := kQ.cell' (i := 2) rfl
  have G0 := Lib.hid g0
  clear hu' hx' g0
  have HE := Lib.hid (rrQ_big (p := p) hbig)
  obtain ⟨N, hN⟩ : ∃ z, rrN q x = z := ⟨_, rfl⟩
  rw [hN] at hbig hN96 HZN
  clear h h1 h2 h3 hN
  go_enter Tryz.func16, Tryz.ntmps16
  go_wp2_with fail
  clear hW
  refine (implIsField_any _ _).mono ?_; rintro e w1 ⟨rfl, hww⟩; replace hww := hww.symm; subst hww
  rw [H1.out]
  go_wp2_with fail
  refine (implIsRoot_any _ _ q x _ HQ.out HX.out).mono ?_; rintro e w2 ⟨rfl, hb2⟩
  rw [H2.out]
  have kQ2 := kQ.call hb2
  have q0' := kQ2.cell' (i := 0) rfl
  have q1' := kQ2.cell' (i := 1) rfl
  have q2' := kQ2.cell' (i := 2) rfl
  go_wp2_with fail
  refine (implAreDims_any _ _ q x _ (QvR.next hb2 HQ.out) (SlI.next hb2 HX.out)).mono ?_; rintro e w3 ⟨rfl, hb3⟩
  rw [H3.out]
  have hb23 := bthen hb2 hb3
  have kQ3 := kQ.call hb23
  have q0'' := kQ3.cell' (i := 0) rfl
  have q1'' := kQ3.cell' (i := 1) rfl
  have q2'' := kQ3.cell' (i := 2) rfl
  clear q0 q1 q2 q0' q1' q2' hb3 kQ2
  go_wp2_with fail
  refine (zeroRep_any p _ _ q x _ hp (QvR.next hb23 HQ.out) (SlI.next hb23 HX.out) H3.out).mono ?_; rintro e w4 ⟨v4, rfl, hZ, hb4⟩
  obtain ⟨fA, tA, dA, mA, ev, s1, s2, s3, s4, _⟩ := hZ.parts
  have s4' := s4
  obtain ⟨MA, mc, em, _⟩ := s4'.open_
  simp only [zRep] at ev em s1 s2 s3
  rw [HZL.out] at em
  subst em
  subst ev
  obtain ⟨FA, fc, ef, _⟩ := s1.open_
  obtain ⟨TA, tc, et, _⟩ := s2.open_
  obtain ⟨DA, dc, ed, _⟩ := s3.open_
  subst ef et ed
  have gb4 := bthen hb23 hb4
  obtain ⟨W5, hW5⟩ : ∃ z, w4.alloc (.cells #[.int .i64 p, .int .i64 q.v, .slice FA q.f.length fc, .slice TA q.t.length tc, .slice DA x.length dc, .slice MA q.f.length mc] 32) = z := ⟨_, rfl⟩
  have b5 : Below w4.heap.size w4 W5 := by rw [← hW5]; exact below_alloc _ _
  have k5 : Blk W5 w4.heap.size 32 #[.int .i64 p, .int .i64 q.v, .slice FA q.f.length fc, .slice TA q.t.length tc, .slice DA x.length dc, .slice MA q.f.length mc] := by rw [← hW5]; exact Blk.new _ _ _
  have r5 := k5.cell' (i := 5) rfl
  have HM5 := Lib.hid (SlM.next b5 s4)
  have gb5 := bthen gb4 b5
  clear hZ s1 s2 s3 s4 s4' hb23 hb4 q0'' q1'' q2'' kQ3 b5 hb2 gb4
  go_wp2_with fail
  clear hW5
  refine (flat_any _ (zms q x q.f.length) _ HM5.out (by rw [HZL.out]; omega) (by rw [HZN.out]; omega)).mono ?_; rintro e w6 ⟨v6, rfl, hF6, hb6⟩
  obtain ⟨FA, fc, ef⟩ := hF6.form
  rw [flM_length, HZN.out] at ef
  subst ef
  have gb6 := bthen gb5 hb6
  have hdec : decide ((N : Int) > 10) = true := by simp; omega
  clear hF6 hb6 r5 k5 gb5
  have kRz := kR.call gb6
  have kTz := kT.call gb6
  have z0 := kRz.cell' (i := 0) rfl
  have z1 := kRz.cell' (i := 1) rfl
  have z2 := kRz.cell' (i := 2) rfl
  have z3 := kRz.cell' (i := 3) rfl
  have z4 := kRz.cell' (i := 4) rfl
  have z5 := kRz.cell' (i := 5) rfl
  have zb := kTz.cell' (i := 0) rfl
  have fr := kRz.frozen
  have fb := kTz.frozen
  have GF := Lib.hid (G0.out.trans (gb6.mono G0.out.size))
  clear kRz kTz
  go_wp2
  have gf := GF.out
  have sw := sW.out
  refine bodyPost_ret (v := .tuple #[.agg #[.int .i64 0, .int .i64 0, .slice none 0 0, .slice none 0 0, .slice none 0 0, .slice none 0 0], .bool false]) (by simp [results, go_sem, z0, z1, z2, z3, z4, z5, zb]) rfl ⟨_, by rw [HE.out], by rw [HE.out]; exact RepO.zero _ _ _, ((((((gf.setCell (by simp) _).setCell (by simp) _).setCell (by simp) _).setCell (by simp) _).setCell (by simp) _).setCell (by simp) _).setCell (by simp; omega) _⟩
 ·have hN10 : rrN q x ≤ 10 := by omega
  have HE := Lib.hid (rrQ_yes h hN10)
  have hu' := hu
  obtain ⟨A, c, C, d, rfl, hf, ht, hr, lf, lt⟩ := hu.open_
  have hx' := hx
  obtain ⟨XA, xc, rfl, _, _, lx, _⟩ := hx.open_
  clear hu hx hf ht
  obtain ⟨W, hW⟩ : ∃ z, ((w0.alloc (.cells #[.int .i64 q.v, .slice A q.f.length c, .slice C q.t.length d] 29)).alloc (.cells #[.int .i64 0, .int .i64 0, .slice none 0 0, .slice none 0 0, .slice none 0 0, .slice none 0 0] 32)).alloc (.cells #[.bool false] 4) = z := ⟨_, rfl⟩
  have g0 : Below w0.heap.size w0 W := by rw [← hW]; exact (((Below.refl _ _).alloc (Nat.le_refl _) _).alloc (by simp) _).alloc (by simp; omega) _
  have kQ : Blk W w0.heap.size 29 #[.int .i64 q.v, .slice A q.f.length c, .slice C q.t.length d] := by rw [← hW]; exact ((Blk.new _ _ _).alloc _).alloc _
  have kR : Blk W (w0.heap.size + 1) 32 #[.int .i64 0, .int .i64 0, .slice none 0 0, .slice none 0 0, .slice none 0 0, .slice none 0 0] := by
   rw [← hW]
   have := (Blk.new (w0.alloc (.cells #[.int .i64 q.v, .slice A q.f.length c, .slice C q.t.length d] 29)) 32 #[.int .i64 0, .int .i64 0, .slice none 0 0, .slice none 0 0, .slice none 0 0, .slice none 0 0]).alloc (.cells #[.bool false] 4)
   simpa only [World.size_alloc] using this
  have kT : Blk W (w0.heap.size + 1 + 1) 4 #[.bool false] := by
   rw [← hW]
   have := Blk.new ((w0.alloc (.cells #[.int .i64 q.v, .slice A q.f.length c, .slice C q.t.length d] 29)).alloc (.cells #[.int .i64 0, .int .i64 0, .slice none 0 0, .slice none 0 0, .slice none 0 0, .slice none 0 0] 32)) 4 #[.bool false]
   simpa only [World.size_alloc] using this
  have sW : Hid (W.heap.size = w0.heap.size + 1 + 1 + 1) := by show _ = _; rw [← hW]; simp
  have HQ := Lib.hid (QvR.next g0 hu')
  have HX := Lib.hid (SlI.next g0 hx')
  have q0 := kQ.cell' (i := 0) rfl
  have q1 := kQ.cell' (i := 1) rfl
  have q2 := kQ.cell' (i := 2) rfl
  have G0 := Lib.hid g0
  clear hu' hx' g0
  have hN0 := hN10
  obtain ⟨N, hN⟩ : ∃ z, rrN q x = z := ⟨_, rfl⟩
  rw [hN] at hN10 hN96 HZN HRE HKA HKN
  clear h h1 h2 h3 hN hbig hN0
  refine (callsIn_wide (n := 3)).1 ?_
  refine callsIn_of_wp_marks Tryz.func16 rfl trivial ?_ rfl
  simp only [Tryz.ntmps16, List.size_toArray, List.length_cons, List.length_nil, Nat.reduceAdd, Nat.reduceSub, Array.replicate_succ, Array.replicate_zero, List.push_toArray, List.append_toArray, List.nil_append, List.cons_append]
  gi_wp2_with fail
  clear hW
  refine ⟨trivial, (callsIn_wide.2 (implIsField_any _ _)).mono ?_⟩; rintro e w1 ⟨rfl, hww⟩; replace hww := hww.symm; subst hww
  rw [H1.out]
  gi_wp2_with fail
  refine ⟨trivial, (callsIn_wide.2 (implIsRoot_any _ _ q x _ HQ.out HX.out)).mono ?_⟩; rintro e w2 ⟨rfl, hb2⟩
  rw [H2.out]
  have kQ2 := kQ.call hb2
  have q0' := kQ2.cell' (i := 0) rfl
  have q1' := kQ2.cell' (i := 1) rfl
  have q2' := kQ2.cell' (i := 2) rfl
  gi_wp2_with fail
  refine ⟨trivial, (callsIn_wide.2 (implAreDims_any _ _ q x _ (QvR.next hb2 HQ.out) (SlI.next hb2 HX.out))).mono ?_⟩; rintro e w3 ⟨rfl, hb3⟩
  rw [H3.out]
  have hb23 := bthen hb2 hb3
  have kQ3 := kQ.call hb23
  have q0'' := kQ3.cell' (i := 0) rfl
  have q1'' := kQ3.cell' (i := 1) rfl
  have q2'' := kQ3.cell' (i := 2) rfl
  clear q0 q1 q2 q0' q1' q2' hb3 kQ2 hb2
  gi_wp2_with fail
  refine ⟨trivial, (callsIn_wide.2 (zeroRep_any p _ _ q x _ hp (QvR.next hb23 HQ.out) (SlI.next hb23 HX.out) H3.out)).mono ?_⟩; rintro e w4 ⟨v4, rfl, hZ, hb4⟩
  obtain ⟨fA, tA, dA, mA, ev, s1, s2, s3, s4, _⟩ := hZ.parts
  have s4' := s4
  obtain ⟨MA, mc, em, _⟩ := s4'.open_
  simp only [zRep] at ev em s1 s2 s3 s4
  rw [HZL.out] at em
  subst em
  subst ev
  obtain ⟨FA, fc, ef, _⟩ := s1.open_
  obtain ⟨TA, tc, et, _⟩ := s2.open_
  obtain ⟨DA, dc, ed, _⟩ := s3.open_
  subst ef et ed
  have gb4 := bthen hb23 hb4
  have hs04 := G0.out.size
  have hs4 := gb4.size
  obtain ⟨W5, hW5⟩ : ∃ z, w4.alloc (.cells #[.int .i64 p, .int .i64 q.v, .slice FA q.f.length fc, .slice TA q.t.length tc, .slice DA x.length dc, .slice MA q.f.length mc] 32) = z := ⟨_, rfl⟩
  obtain ⟨Bo, hBoE⟩ : ∃ z, w4.heap.size = z := ⟨_, rfl⟩
  have b5 : Below w4.heap.size w4 W5 := by rw [← hW5]; exact below_alloc _ _
  have z5 : W5.heap.size = Bo + 1 := by rw [← hW5, ← hBoE]; simp
  have k5 : Blk W5 Bo 32 #[.int .i64 p, .int .i64 q.v, .slice FA q.f.length fc, .slice TA q.t.length tc, .slice DA x.length dc, .slice MA q.f.length mc] := by rw [← hW5, ← hBoE]; exact Blk.new _ _ _
  have r5 := k5.cell' (i := 5) rfl
  have HM5 := Lib.hid (SlM.next b5 s4)
  have HZ4 := Lib.hid (hZ.wider (lo' := W.heap.size) (hi' := Bo) hb23.size (Nat.le_of_eq hBoE))
  have HS4 := Lib.hid s4
  have GB4 := Lib.hid gb4
  clear hZ s1 s2 s3 s4 s4' hb23 hb4 q0'' q1'' q2'' kQ3
  gi_wp2_with fail
  clear hW5
  refine ⟨trivial, (callsIn_wide.2 (flat_any _ (zms q x q.f.length) _ HM5.out (by rw [HZL.out]; omega) (by rw [HZN.out]; omega))).mono ?_⟩; rintro e w6 ⟨v6, rfl, hF6, hb6⟩
  obtain ⟨LA, lc, el⟩ := hF6.form
  rw [flM_length, HZN.out] at el
  subst el
  have hB1 : w4.heap.size ≤ Bo := Nat.le_of_eq hBoE
  have hB2 : Bo ≤ w4.heap.size := Nat.le_of_eq hBoE.symm
  clear hBoE
  have hdec : decide ((N : Int) > 10) = false := by simp; omega
  have k6 := k5.call hb6
  have b46 := bthen b5 hb6
  have r6 := k6.cell' (i := 5) rfl
  have hs6 := hb6.size
  clear hF6 r5 k5 b5 hb6
  obtain ⟨W7, hW7⟩ : ∃ z, w6.alloc (.cells #[.slice MA q.f.length mc] 30) = z := ⟨_, rfl⟩
  obtain ⟨g10, hg10⟩ : ∃ z, w6.heap.size = z := ⟨_, rfl⟩
  have k10 : Blk W7 g10 30 #[.slice MA q.f.length mc] := by rw [← hW7, ← hg10]; exact Blk.new _ _ _
  have z7 : W7.heap.size = g10 + 1 := by rw [← hW7, ← hg10]; simp
  obtain ⟨W8, hW8⟩ : ∃ z, W7.alloc (.cells #[.int .i64 1] 3) = z := ⟨_, rfl⟩
  have z8 : W8.heap.size = W7.heap.size + 1 := by rw [← hW8]; simp
  have b68 : Below w6.heap.size w6 W8 := by rw [← hW8, ← hW7]; exact ((Below.refl _ _).alloc (Nat.le_refl _) _).alloc (by simp) _
  have b78 : Below W7.heap.size W7 W8 := by rw [← hW8]; exact below_alloc _ _
  have k10' := k10.call b78
  have k8 := k6.call b68
  have b48 := bthen b46 b68
  have hs1 : SlI W8 W8.heap.size (.slice (some ⟨W7.heap.size, 0, none⟩) 1 1) [1] := by rw [← hW8]; exact SlI.one W7 _ 1 ⟨by omega, by omega⟩
  have Z5 := Lib.hid z5
  have Z7 := Lib.hid z7
  have Z8 := Lib.hid z8
  clear k10 b68 b78 k6 b46 z5 z7 z8
  gi_wp2_with fail
  clear hW7 hW8 r6
  have z5 := Z5.out
  have z7 := Z7.out
  have z8 := Z8.out
  refine ⟨trivial, (callsIn_wide.2 (repeat1_any _ 1 N _ hs1 (by omega))).mono ?_⟩; rintro e w9 ⟨mv, rfl, ho9, hb9⟩
  obtain ⟨NA, nc, hnv, hnc⟩ := ho9.form
  rw [List.length_replicate] at hnv
  subst hnv
  have hf9 := boxes_any (.slice NA N nc) w9 ⟨_, _, _, rfl, by have := hnc.1; rw [List.length_replicate] at this; exact this⟩
  have k9 := k8.call hb9
  have k10'' := k10'.call hb9
  have b49 := bthen b48 hb9
  have hmr := ho9.rd
  have hs9 := hb9.size
  have hrow : ∀ b o, NA = some ⟨b, o, none⟩ → b ≠ Bo := by
   rintro b o rfl
   have := (ho9.lt b rfl).1
   omega
  obtain ⟨w10, hw10⟩ : ∃ z, w9.alloc (.cells #[.slice NA N nc] 22) = z := ⟨_, rfl⟩
  have b910 : Below w9.heap.size w9 w10 := by rw [← hw10]; exact below_alloc _ _
  have kA := k9.call b910
  have kB := k10''.call b910
  have b410 := bthen b49 b910
  have kM10 : Blk w10 w9.heap.size 22 #[.slice NA N nc] := by rw [← hw10]; exact Blk.new _ _ _
  have hm10 := SlI.next b910 hmr
  have z10 : w10.heap.size = w9.heap.size + 1 := by rw [← hw10]; simp
  have hseq := boxes1_seq 2 (by omega) w9.heap.size Bo 1 N w10.heap.size nc NA w10 (by omega) (Nat.le_refl _) (by omega) (by omega) (by omega) (by omega) (kM10.cell' (i := 0) rfl) hm10 hrow
  have hBo : Bo < w10.heap.size := by omega
  have hg10lt : g10 < w10.heap.size := by omega
  have hg10ne : Bo < g10 := by omega
  rw [hw10] at hf9
  have B410 := Lib.hid b410
  have hg11 : w6.heap.size ≤ g10 := Nat.le_of_eq hg10
  have hg12 : g10 ≤ w6.heap.size := Nat.le_of_eq hg10.symm
  clear hg10 z5 z7 z8 z10
  clear hm10 hrow kM10 b910 k9 k10'' b49 hmr hw10 ho9 hnc k8 k10' b48 hs1 hb9
  gi_wp2_with fail
  refine ⟨trivial, (callsIn_wide.2 hf9).mono ?_⟩; rintro e w11 ⟨rfl, rfl⟩
  clear hf9
  gi_wp2_with fail
  refine wpIn_rangeBxE (n := 3) (by omega) rfl (enters_of Tryz.func96 (by kernel_rfl) rfl) hseq rfl hBo
   (fun k W' => Below w4.heap.size w4 W' ∧ Blk W' g10 30 #[.slice MA q.f.length mc] ∧ (∃ mv, Blk W' Bo 32 #[.int .i64 p, .int .i64 q.v, .slice FA q.f.length fc, .slice TA q.t.length tc, .slice DA x.length dc, mv]) ∧ Hid (∀ i, i < k → rrOne p q x i = false))
   (fun c k W' => c = .ret ∧ Below w0.heap.size w0 W' ∧ RepO W' w0.heap.size Bo (.agg #[.int .i64 p, .int .i64 q.v, .slice FA q.f.length fc, .slice TA q.t.length tc, .slice DA x.length dc, .slice MA q.f.length mc]) (zRep p q x) ∧ ∃ (mv : Value) (k' : Nat), Hid (rrK p q x = some k') ∧ MatsO W' (w11.heap.size + 3) W'.heap.size mv (shL (zms q x q.f.length) (bxV 1 N k')) ∧ Blk W' (w0.heap.size + 1) 32 #[.int .i64 p, .int .i64 q.v, .slice FA q.f.length fc, .slice TA q.t.length tc, .slice DA x.length dc, mv] ∧ Blk W' (w0.heap.size + 1 + 1) 4 #[.bool true] ∧ w11.heap.size + 3 ≤ W'.heap.size)
   ?hI ?hIx ?h0 ?a1 ?assign ?body ?done ?hstop
  case assign =>
   intro l W' K' hK
   gi_wp2
   exact hK
  case hI =>
   rintro k A' B' ⟨h1, h2, ⟨mv, h3⟩, h4⟩ hc
   exact ⟨h1.trans (hc.below (by omega) h1.size), h2.chg hc (.inl (by omega)), ⟨mv, h3.chg hc (.inl (by omega))⟩, h4⟩
  case hIx =>
   rintro c k A' B' ⟨h1, h2, h3, mv, k', h4, h5, h6, h7, h8⟩ hc
   have hw := sW.out
   exact ⟨h1, h2.trans (hc.below (by omega) h2.size), h3.chg hc (.inl (by omega)), mv, k', h4, (h5.chg hc (.inr (Nat.le_refl _))).wider (Nat.le_refl _) hc.size, h6.chg hc (.inl (by omega)), h7.chg hc (.inl (by omega)), Nat.le_trans h8 hc.size⟩
  case h0 => exact ⟨B410.out, kB, ⟨_, kA⟩, fun i hi => absurd hi (by omega)⟩
  case body =>
   rintro l k W' hsz ⟨hbel, hk10, ⟨mv, hkB⟩, hno⟩ hbx hkM
   have hkM2 : k < 2 ^ N := hkM
   have HBX := Lib.hid (show SlI W' W'.heap.size (.slice (some ⟨w11.heap.size + 2, 0, none⟩) N N) (bxV 1 N k) from hbx.rd)
   have HSW := Lib.hid (SlM.next hbel HS4.out)
   have t0 := hk10.cell' (i := 0) rfl
   have hRW := HZ4.out.below hbel
   have kRW := ((kR.call GB4.out).call hbel)
   have kTW := ((kT.call GB4.out).call hbel)
   have hsw := sW.out
   have hbW := (G0.out.trans ((GB4.out.mono (Nat.le_refl _)).mono hs04)).trans (hbel.mono (by omega))
   have HBW := Lib.hid hbW
   have hbs := hbel.size
   clear hbx hbW
   gi_wp2_with fail
   refine ⟨trivial, (CallsIn.inRound l (callsIn_wide.2 (shaped_any _ _ (zms q x q.f.length) (bxV 1 N k) _ HSW.out HBX.out (by rw [HZL.out]; omega) (by rw [HZN.out, bxV_length]; exact Nat.le_refl _)))).mono ?_⟩; rintro e w12 ⟨v12, rfl, hM, hb12⟩
   obtain ⟨NB, nb, ev, _, _⟩ := hM.form2
   rw [shL_length, HZL.out] at ev
   subst ev
   have kB12 := hkB.call hb12
   have fr := kB12.frozen
   have z5 := kB12.cell' (i := 5) rfl
   obtain ⟨W13, hW13⟩ : ∃ z, w12.setCell ⟨Bo, 5, none⟩ (.slice NB q.f.length nb) = z := ⟨_, rfl⟩
   have k13 : Blk W13 Bo 32 #[.int .i64 p, .int .i64 q.v, .slice FA q.f.length fc, .slice TA q.t.length tc, .slice DA x.length dc, .slice NB q.f.length nb] := by rw [← hW13]; exact kB12.set_ 5 _
   have hc13 : Chg Bo (Bo + 1) w12 W13 := by rw [← hW13]; exact chg_set (Nat.le_refl _) (Nat.lt_succ_self _)
   have hM13 := hM.chg hc13 (.inr (by omega))
   have hR13 := (hRW.below hb12).chg hc13 (.inl (Nat.le_refl _))
   have s12 := hb12.size
   have s13 := hc13.size
   have hRP : RpR W13 W13.heap.size (.agg #[.int .i64 p, .int .i64 q.v, .slice FA q.f.length fc, .slice TA q.t.length tc, .slice DA x.length dc, .slice NB q.f.length nb]) (rrR p q x k) := by
    rw [HRE.out]
    exact (RepO.setM hR13 hM13 (by omega) (by omega) (by omega)).rd
   have HRP := Lib.hid hRP
   have HR13 := Lib.hid hR13
   have HM13 := Lib.hid hM13
   have HMN := Lib.hid (hM13.wider (lo' := w11.heap.size + 3) (hi' := W13.heap.size) (by omega) (by omega))
   have HB13 := Lib.hid ((HBW.out.trans (hb12.mono (by have := HBW.out.size; omega))).trans (hc13.below (by omega) (by have := HBW.out.size; omega)))
   have y0 := k13.cell' (i := 0) rfl
   have y1 := k13.cell' (i := 1) rfl
   have y2 := k13.cell' (i := 2) rfl
   have y3 := k13.cell' (i := 3) rfl
   have y4 := k13.cell' (i := 4) rfl
   have y5 := k13.cell' (i := 5) rfl
   have kR13 := (kRW.call hb12).chg hc13 (.inl (by omega))
   have kT13 := (kTW.call hb12).chg hc13 (.inl (by omega))
   have k1013 := (hk10.call hb12).chg hc13 (.inr (by omega))
   have hbel13 := (hbel.trans (hb12.mono (by omega))).trans (hc13.below (by omega) (by omega))
   have HBEL := Lib.hid hbel13
   have HW12 := Lib.hid hb12
   have HC13 := Lib.hid hc13
   clear hM hb12 hc13 hM13 hR13 hRP kB12 hRW kRW kTW t0 hbel13
   gi_wp2_with fail
   clear hW13 fr z5
   refine ⟨trivial, (CallsIn.inRound l (callsIn_wide.2 (homDim_any _ _ (rrR p q x k) (rrR p q x k) _ HRP.out HRP.out (HFIT.out k)))).mono ?_⟩; rintro e w14 ⟨rfl, hb14⟩
   have hone := HONE.out k
   have hk14 := k13.call hb14
   have x0 := hk14.cell' (i := 0) rfl
   have x1 := hk14.cell' (i := 1) rfl
   have x2 := hk14.cell' (i := 2) rfl
   have x3 := hk14.cell' (i := 3) rfl
   have x4 := hk14.cell' (i := 4) rfl
   have x5 := hk14.cell' (i := 5) rfl
   have kR14 := kR13.call hb14
   have kT14 := kT13.call hb14
   have k1014 := k1013.call hb14
   have s14 := hb14.size
   have HB14 := Lib.hid (HB13.out.trans (hb14.mono (by have := HB13.out.size; omega)))
   have HBEL14 := Lib.hid (HBEL.out.trans (hb14.mono (by omega)))
   have HR14 := Lib.hid (HR13.out.below hb14)
   have HM14 := Lib.hid ((HMN.out.below hb14).wider (Nat.le_refl _) s14)
   have HW14 := Lib.hid hb14
   clear y0 y1 y2 y3 y4 y5 k13 kR13 kT13 k1013 hb14
   obtain ⟨hd, hhd⟩ : ∃ z, homN (rrR p q x k) (rrR p q x k) = z := ⟨_, rfl⟩
   rw [hhd] at hone ⊢
   clear hhd
   by_cases h1 : hd = 1
   ·subst h1
    have HKK := Lib.hid (HKA.out k hkM2 hno.out (by rw [hone]; rfl))
    have r0 := kR14.cell' (i := 0) rfl
    have r1 := kR14.cell' (i := 1) rfl
    have r2 := kR14.cell' (i := 2) rfl
    have r3 := kR14.cell' (i := 3) rfl
    have r4 := kR14.cell' (i := 4) rfl
    have r5 := kR14.cell' (i := 5) rfl
    have fr := kR14.frozen
    have rb := kT14.cell' (i := 0) rfl
    have fb := kT14.frozen
    have KR14 := Lib.hid kR14
    have KT14 := Lib.hid kT14
    clear hone kR14 kT14 hk14 k1014
    gi_wp2
    have hc1 := chg6 w14 (w0.heap.size + 1) (.int .i64 p) (.int .i64 q.v) (.slice FA q.f.length fc) (.slice TA q.t.length tc) (.slice DA x.length dc) (.slice NB q.f.length nb)
    obtain ⟨W15, hW15⟩ : ∃ z, (((((w14.setCell ⟨w0.heap.size + 1, 0, none⟩ (.int .i64 p)).setCell ⟨w0.heap.size + 1, 1, none⟩ (.int .i64 q.v)).setCell ⟨w0.heap.size + 1, 2, none⟩ (.slice FA q.f.length fc)).setCell ⟨w0.heap.size + 1, 3, none⟩ (.slice TA q.t.length tc)).setCell ⟨w0.heap.size + 1, 4, none⟩ (.slice DA x.length dc)).setCell ⟨w0.heap.size + 1, 5, none⟩ (.slice NB q.f.length nb) = z := ⟨_, rfl⟩
    have k15 : Blk W15 (w0.heap.size + 1) 32 #[.int .i64 p, .int .i64 q.v, .slice FA q.f.length fc, .slice TA q.t.length tc, .slice DA x.length dc, .slice NB q.f.length nb] := by
     rw [← hW15]
     exact (((((KR14.out.set_ 0 _).set_ 1 _).set_ 2 _).set_ 3 _).set_ 4 _).set_ 5 _
    rw [hW15] at hc1 ⊢
    have hsz := HB14.out.size
    have s15 := hc1.size
    have k15T := KT14.out.chg hc1 (.inr (Nat.le_refl _))
    obtain ⟨W16, hW16⟩ : ∃ z, W15.setCell ⟨w0.heap.size + 1 + 1, 0, none⟩ (.bool true) = z := ⟨_, rfl⟩
    have k16T : Blk W16 (w0.heap.size + 1 + 1) 4 #[.bool true] := by rw [← hW16]; exact k15T.set_ 0 _
    have hc2 : Chg (w0.heap.size + 1 + 1) (w0.heap.size + 1 + 1 + 1) W15 W16 := by rw [← hW16]; exact chg_set (Nat.le_refl _) (Nat.lt_succ_self _)
    rw [hW16]
    have s16 := hc2.size
    have hex : ExitK w11.heap.size W' W16 := by
     have e1 : ∀ r, w11.heap.size ≤ r → r < w11.heap.size + 3 → W16.heap[r]? = W'.heap[r]? := fun r h1 h2 => by
      rw [hc2.block r (by omega) (.inr (by omega)), hc1.block r (by omega) (.inr (by omega)), HW14.out.block r (by omega), HC13.out.block r (by omega) (.inr (by omega)), HW12.out.block r (by omega)]
     exact ⟨by omega, e1 _ (by omega) (by omega), e1 _ (by omega) (by omega)⟩
    refine ⟨hex, rfl, (HB14.out.trans (hc1.below (by omega) (by omega))).trans (hc2.below (by omega) (by omega)), ?_, .slice NB q.f.length nb, k, HKK.out, ?_, k15.chg hc2 (.inl (by omega)), k16T, by omega⟩
    ·exact ((HR14.out.chg hc1 (.inr (by omega))).chg hc2 (.inr (by omega))).wider (by omega) (Nat.le_refl _)
    ·exact ((HM14.out.chg hc1 (.inr (by omega))).chg hc2 (.inr (by omega))).wider (Nat.le_refl _) (by omega)
   ·have hd1 : ((hd : Int) == 1) = false := by rw [beq_eq_false_iff_ne]; omega
    have HNO := Lib.hid (show ∀ i, i < k + 1 → rrOne p q x i = false by
     intro i hi
     by_cases e : i = k
     ·subst e; rw [hone]; simpa using h1
     ·exact hno.out i (by omega))
    have HK14 := Lib.hid hk14
    have HK10 := Lib.hid k1014
    clear hone kR14 kT14 hk14 k1014
    gi_wp2
    refine ⟨?_, HBEL14.out, HK10.out, ⟨_, HK14.out⟩, HNO.out⟩
    exact ((RoundK.of_below HW12.out hsz).trans ⟨HC13.out.size, fun r h1 h2 => HC13.out.block r (by omega) (by omega)⟩).trans (RoundK.of_below HW14.out (by omega))
  case done =>
   rintro W' ⟨hbel, hk10, ⟨mv, hkB⟩, hno⟩ hD
   have hrk := HKN.out hno.out
   have HQF := Lib.hid (show rrQ p q x = (rp0, false) by rw [HE.out, hrk]; rfl)
   have kRW := ((kR.call GB4.out).call hbel)
   have kTW := ((kT.call GB4.out).call hbel)
   have hsw := sW.out
   have HBW := Lib.hid ((G0.out.trans ((GB4.out.mono (Nat.le_refl _)).mono hs04)).trans (hbel.mono (by omega)))
   have r0 := kRW.cell' (i := 0) rfl
   have r1 := kRW.cell' (i := 1) rfl
   have r2 := kRW.cell' (i := 2) rfl
   have r3 := kRW.cell' (i := 3) rfl
   have r4 := kRW.cell' (i := 4) rfl
   have r5 := kRW.cell' (i := 5) rfl
   have fr := kRW.frozen
   have rb := kTW.cell' (i := 0) rfl
   have fb := kTW.frozen
   have KRW := Lib.hid kRW
   have KTW := Lib.hid kTW
   have HWS := Lib.hid hbel.size
   clear hno hrk kRW kTW hbel hk10 hkB hsw
   gi_wp2
   have hsw := sW.out
   have hws := HWS.out
   have hc1 := chg6 W' (w0.heap.size + 1) (.int .i64 0) (.int .i64 0) (.slice none 0 0) (.slice none 0 0) (.slice none 0 0) (.slice none 0 0)
   obtain ⟨W15, hW15⟩ : ∃ z, (((((W'.setCell ⟨w0.heap.size + 1, 0, none⟩ (.int .i64 0)).setCell ⟨w0.heap.size + 1, 1, none⟩ (.int .i64 0)).setCell ⟨w0.heap.size + 1, 2, none⟩ (.slice none 0 0)).setCell ⟨w0.heap.size + 1, 3, none⟩ (.slice none 0 0)).setCell ⟨w0.heap.size + 1, 4, none⟩ (.slice none 0 0)).setCell ⟨w0.heap.size + 1, 5, none⟩ (.slice none 0 0) = z := ⟨_, rfl⟩
   have k15 : Blk W15 (w0.heap.size + 1) 32 #[.int .i64 0, .int .i64 0, .slice none 0 0, .slice none 0 0, .slice none 0 0, .slice none 0 0] := by
    rw [← hW15]
    exact (((((KRW.out.set_ 0 _).set_ 1 _).set_ 2 _).set_ 3 _).set_ 4 _).set_ 5 _
   rw [hW15] at hc1 ⊢
   have k15T := KTW.out.chg hc1 (.inr (Nat.le_refl _))
   obtain ⟨W16, hW16⟩ : ∃ z, W15.setCell ⟨w0.heap.size + 1 + 1, 0, none⟩ (.bool false) = z := ⟨_, rfl⟩
   have k16T : Blk W16 (w0.heap.size + 1 + 1) 4 #[.bool false] := by rw [← hW16]; exact k15T.set_ 0 _
   have hc2 : Chg (w0.heap.size + 1 + 1) (w0.heap.size + 1 + 1 + 1) W15 W16 := by rw [← hW16]; exact chg_set (Nat.le_refl _) (Nat.lt_succ_self _)
   rw [hW16]
   have k16 := k15.chg hc2 (.inl (by omega))
   have s15 := hc1.size
   have hD16 : W16.heap[w11.heap.size]? = some (.deferred (some [])) := by
    have hl := (Array.getElem?_eq_some_iff.1 hD).1
    rw [hc2.block _ (by omega) (.inr (by omega)), hc1.block _ (by omega) (.inr (by omega))]
    exact hD
   have B16 := (HBW.out.trans (hc1.below (by omega) (by have := HBW.out.size; omega))).trans (hc2.below (by omega) (by have := HBW.out.size; omega))
   have hch : Chg w11.heap.size (w11.heap.size + 3) W16 (W16.putObj w11.heap.size (.deferred none)) := chg_obj _ _ _ _ (Nat.le_refl _) (by omega)
   have kF := k16.chg hch (.inl (by omega))
   have kFT := k16T.chg hch (.inl (by omega))
   have z0 := kF.cell' (i := 0) rfl
   have z1 := kF.cell' (i := 1) rfl
   have z2 := kF.cell' (i := 2) rfl
   have z3 := kF.cell' (i := 3) rfl
   have z4 := kF.cell' (i := 4) rfl
   have z5 := kF.cell' (i := 5) rfl
   have zb := kFT.cell' (i := 0) rfl
   refine ⟨by simp, .inl ⟨_, _, rfl, run_takeDeferred (w := W16) hD16, ?_⟩⟩
   refine ⟨.tuple #[.agg #[.int .i64 0, .int .i64 0, .slice none 0 0, .slice none 0 0, .slice none 0 0, .slice none 0 0], .bool false], by simp [results, go_sem, z0, z1, z2, z3, z4, z5, zb], _, by rw [HQF.out], ?_, B16.trans (hch.below (by omega) B16.size)⟩
   rw [HQF.out]
   exact RepO.zero _ _ _
  case hstop =>
   rintro c k W16 hkM ⟨rfl, B16, hR, mv, k', hKK, hM, k16, k16T, hsz16⟩ hD16
   have HQF := Lib.hid (show rrQ p q x = (rrR p q x k', true) by rw [HE.out, hKK.out]; rfl)
   have hsw := sW.out
   gi_wp2
   have hch : Chg w11.heap.size (w11.heap.size + 3) W16 (W16.putObj w11.heap.size (.deferred none)) := chg_obj _ _ _ _ (Nat.le_refl _) (by omega)
   have kF := k16.chg hch (.inl (by omega))
   have kFT := k16T.chg hch (.inl (by omega))
   have z0 := kF.cell' (i := 0) rfl
   have z1 := kF.cell' (i := 1) rfl
   have z2 := kF.cell' (i := 2) rfl
   have z3 := kF.cell' (i := 3) rfl
   have z4 := kF.cell' (i := 4) rfl
   have z5 := kF.cell' (i := 5) rfl
   have zb := kFT.cell' (i := 0) rfl
   refine ⟨by simp, .inl ⟨_, _, rfl, run_takeDeferred (w := W16) hD16, ?_⟩⟩
   refine ⟨.tuple #[.agg #[.int .i64 p, .int .i64 q.v, .slice FA q.f.length fc, .slice TA q.t.length tc, .slice DA x.length dc, mv], .bool true], by simp [results, go_sem, z0, z1, z2, z3, z4, z5, zb], _, by rw [HQF.out], ?_, B16.trans (hch.below (by omega) B16.size)⟩
   rw [HQF.out]
   exact (HRE.out k') ▸ (RepO.setM (hR.chg hch (.inl (by omega))) (hM.chg hch (.inr (Nat.le_refl _))) (by omega) (by omega) hsz16).wider (Nat.le_refl _) hch.size
end Go.Proofs.YtcmlflppndfdcaaGreat
