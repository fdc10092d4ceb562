/- FnPencils: the law holds for every argument. Part 15 of 18 of the proof: DrwF, DrwM, DrwM2, DrwQ, DrwP, DrwV, DrwW, DrwY, DrY2. No condition. -/
import Derived.Test.YthhjoamgcfiecaaGreatBPencils14
set_option linter.unusedVariables false
set_option linter.unusedSimpArgs false
namespace Go.Proofs.YthhjoamgcfiecaaGreat
open Go.RowKit
theorem Cur.ltF {w : World} {c : Nat} (h : Cur w c) : c < w.heap.size := by obtain ⟨_, _, _, _, _, hB, _⟩ := h; exact hB.lt
theorem Cur.belowF {w w' : World} {c lo : Nat} (h : Cur w c) (k : Below lo w w') (hc : c < lo) : Cur w' c := by
 obtain ⟨A, cc, i, hh, l, hB, h1, h2, h3⟩ := h
 exact ⟨A, cc, i, hh, l, hB.below k hc, h1, h2, SlY.below (k.mono (Nat.le_of_lt hc)) h3⟩
theorem Ck.lowF {w0 w w' : World} {c lo : Nat} (h : Ck c w0 w) (k : Below lo w w') (h1 : w0.heap.size ≤ lo) (h2 : c < lo) : Ck c w0 w' :=
 ⟨k.os.trans h.os, k.tape.trans h.tape, k.output.trans h.output, Nat.le_trans h.size k.size, fun i hi hn => (k.block i (by omega)).trans (h.block i hi hn), fun h0 => (h.keep h0).belowF k h2⟩
theorem IntsO.ckF {w w' : World} {lo hi c : Nat} {v : Value} {l : List Int} (h : IntsO w lo hi v l) (k : Ck c w w') (hc : c < lo) : IntsO w' lo hi v l := h.chg k.chg (.inr (by omega))
theorem OwnI.ckF {w w' : World} {lo c : Nat} {v : Value} {l : List Int} (h : OwnI w lo v l) (k : Ck c w w') (hc : c < lo) : OwnI w' lo v l := ((IntsO.of_own h).ckF k hc).1
theorem sl_oneF {w : World} {g : Nat} {x : Int} (hk : Blk w g 3 #[.int .i64 x]) (hx : I64 x) : SlI w w.heap.size (.slice (some ⟨g, 0, none⟩) 1 1) [x] := by
 refine ⟨_, 1, rfl, by simp, by omega, by simp, fun _ => ⟨g, 0, rfl, hk.lt, fun j y hj => ?_⟩⟩
 match j, hj with
 | 0, hj =>
  simp at hj; subst hj
  exact ⟨by rw [hk.cell]; rfl, hx⟩
 | j + 1, hj => simp at hj
theorem OwnI.adrF {w : World} {lo n c : Nat} {A : Option Addr} {l : List Int} (h : OwnI w lo (.slice A n c) l) (h0 : 0 < l.length) : ∃ g, A = some ⟨g, 0, none⟩ ∧ lo ≤ g ∧ g < w.heap.size := by
 rcases h.1.2 with ⟨_, h1⟩ | ⟨g, cap, cur, e, hg, _⟩
 ·omega
 ·injection e with e1 _ _
  subst e1
  exact ⟨g, rfl, hg, (h.lt g rfl).2⟩
def FiX (w : World) (lo : Nat) (v : Value) (F : Filt) : Prop := ∃ a b mid, v = .agg #[.int .i64 F.stages, a, b] ∧ IntsO w lo mid a F.birth ∧ IntssO w mid w.heap.size b F.ends ∧ lo ≤ mid ∧ I64 F.stages
theorem FiX.chg {w w' : World} {lo g : Nat} {v : Value} {F : Filt} (h : FiX w lo v F) (hc : Chg g (g + 1) w w') (hg : g < lo) : FiX w' lo v F := by
 obtain ⟨a, b, mid, e, h1, h2, h3, h4⟩ := h
 exact ⟨a, b, mid, e, h1.chg hc (.inr (by omega)), (h2.chg hc (.inr (by omega))).wider (Nat.le_refl _) hc.size, h3, h4⟩
theorem FiX.below {w w' : World} {lo : Nat} {v : Value} {F : Filt} (h : FiX w lo v F) (hb : Below w.heap.size w w') : FiX w' lo v F := by
 obtain ⟨a, b, mid, e, h1, h2, h3, h4⟩ := h
 exact ⟨a, b, mid, e, h1.below hb, (h2.below hb).wider (Nat.le_refl _) hb.size, h3, h4⟩
theorem FiX.rd {w : World} {lo : Nat} {v : Value} {F : Filt} (h : FiX w lo v F) : FiR w w.heap.size v F := by
 obtain ⟨a, b, mid, e, h1, h2, _, h4⟩ := h
 exact ⟨a, b, e, h1.rd, h2.rd, h4⟩
theorem FiX.ck {w w' : World} {lo c : Nat} {v : Value} {F : Filt} (h : FiX w lo v F) (k : Ck c w w') (hc : c < lo) : FiX w' lo v F := h.chg k.chg hc
section
variable {w w' : World} {lo mid gf a d c : Nat} {S : Int} {A C : Option Addr} {B : List Int} {E : List (List Int)}
end
def IntPF (v : Value) : Prop := ∃ x, v = .int .i64 x ∧ I64 x
set_option maxHeartbeats 3200000 in
set_option maxRecDepth 100000 in
theorem l3Random_any (c : Nat) (p : Int) (r k : Nat) (w0 : World) (hc : Cur w0 c) (hp : I64 p) (hr : r ≤ 8) (hk : k ≤ 8) :
  Calls Tryz.prog 82 #[.pointer (some ⟨c, 0, none⟩), .int .i64 p, .int .i64 r, .int .i64 k] w0 fun e w' => ∃ v l, e = .returned v ∧ MxO w' (w0.heap.size + 1) w'.heap.size v ⟨(r : Int), (k : Int), l⟩ ∧ l.length = r * k ∧ (∀ x ∈ l, 0 ≤ x ∧ x ≤ 4) ∧ Ck c w0 w' := by
 obtain ⟨hp1, hp2⟩ := hp
 have hcl := hc.ltF
 obtain ⟨W, hW⟩ : ∃ W, W = w0.alloc (.cells #[.int .i64 0, .int .i64 0, .slice none 0 0] 44) := ⟨_, rfl⟩
 have g0 : Ck c w0 W := by rw [hW]; exact Ck.of_below (below_alloc _ _)
 have kR : Blk W w0.heap.size 44 #[.int .i64 0, .int .i64 0, .slice none 0 0] := by rw [hW]; exact Blk.new _ _ _
 have sW : W.heap.size = w0.heap.size + 1 := by rw [hW]; simp
 have hcw : w0.heap.size ≠ c := by omega
 have KR := Lib.hid kR
 have G0 := Lib.hid g0
 have HC := Lib.hid (g0.keep hc)
 clear kR hc g0
 go_enter Tryz.func82, Tryz.ntmps82
 go_wp2_with fail
 rw [← hW]; clear hW
 refine (l3Zero_any (r : Int) (k : Int) W (by omega) (by omega) (by omega) (by omega)).mono ?_; rintro e w1 ⟨v1, rfl, ⟨s, rfl, hs, _⟩, hb1⟩
 obtain ⟨n, hn⟩ : ∃ n, r * k = n := ⟨_, rfl⟩
 have hn64 : n ≤ 64 := by
  have : r * k ≤ 8 * 8 := Nat.mul_le_mul hr hk
  omega
 have hl : (zmx (r : Int) (k : Int)).a = List.replicate n 0 := by
  simp only [zmx]
  rw [← Int.natCast_mul, Int.toNat_natCast, hn]
 rw [hl] at hs
 obtain ⟨A, cp, rfl, _⟩ := hs.1.form
 rw [List.length_replicate] at hs ⊢
 simp only [zmx]
 have hs1 := hb1.size
 obtain ⟨W2, hW2⟩ : ∃ z, w1.alloc (.cells #[.int .i64 (r : Int), .int .i64 (k : Int), .slice A n cp] 44) = z := ⟨_, rfl⟩
 have gb : Below w1.heap.size w1 W2 := by rw [← hW2]; exact below_alloc _ _
 obtain ⟨gm, hgm⟩ : ∃ z, w1.heap.size = z := ⟨_, rfl⟩
 have kM : Blk W2 gm 44 #[.int .i64 (r : Int), .int .i64 (k : Int), .slice A n cp] := by rw [← hW2, ← hgm]; exact Blk.new _ _ _
 have hs2 : W2.heap.size = gm + 1 := by rw [← hW2, ← hgm]; simp
 have hR2 := hs.below gb
 rw [hgm] at hR2
 have hB2 := (Ck.of_below (c := c) hb1).trans (Ck.of_below gb)
 have hC2 := hB2.keep HC.out
 have hgmc : gm ≠ c := by omega
 have hgW : W.heap.size ≤ gm := by omega
 clear hb1 gb hs hl
 go_wp2_with fail
 try rw [hW2]
 try rw [hgm]
 clear hW2 hgm
 go_loopw [10] (fun iv wr => ∃ (i : Nat) (l : List Int), i ≤ n ∧ iv = .int .i64 i ∧ l.length = n ∧ (∀ x ∈ l, 0 ≤ x ∧ x ≤ 4) ∧ gm < wr.heap.size ∧ Cur wr c ∧ Ck c W wr ∧ Blk wr gm 44 #[.int .i64 (r : Int), .int .i64 (k : Int), .slice A n cp] ∧ IntsO wr W.heap.size gm (.slice A n cp) l) (fun iv _ => n - (intOf iv).toNat)
 case atStart => exact ⟨0, _, Nat.zero_le _, rfl, List.length_replicate, fun x hx => by rw [List.eq_of_mem_replicate hx]; omega, by omega, hC2, hB2, kM, hR2⟩
 case round =>
  clear hC2 hB2 kM hR2
  obtain ⟨i, l, hi, rfl, hll, hlx, hgs, hC, hB, hM, hR⟩ := hrel
  have HCr := Lib.hid hC
  have HB := Lib.hid hB
  have HM := Lib.hid hM
  have HR := Lib.hid hR
  have HL := Lib.hid hll
  have HX := Lib.hid hlx
  have q2 := hM.cell' (i := 2) rfl
  clear hC hB hM hR hll hlx
  by_cases hlt : i < n
  ·obtain ⟨gA, rfl, hgA1, hgA2⟩ := HR.out.1.adrF (by have := HL.out; omega)
   have hgAg : gA < gm := HR.out.2 gA rfl
   have hgAc : gA ≠ c := by omega
   go_wp2
   refine wp_region_netK (c) (by kernel_rfl) [.eq (.pointer (some ⟨gm, 2, none⟩)), .eq (.slice (some ⟨gA, 0, none⟩) n cp), .eq (.int .i64 i), .eq (.pointer (some ⟨c, 0, none⟩)), .eq (.int .i64 p), .eq (.int .i64 (min 5 p)), .eq (.int .i64 (max 1 (min 5 p))), rel 7 (fun u lo hi w => ∃ j : Nat, u = .int .i64 j ∧ j ≤ 4), .eq (.pointer (some ⟨gA, i, none⟩))] [[], [0], [], [], [], [4], [4, 5], [3, 4, 5, 6], [0, 1, 2, 3, 4, 5, 6, 7], [0, 1, 2, 3, 4, 5, 6, 7, 8]] 9 (by kernel_rfl) ⟨trivial, trivial, trivial, trivial, trivial, trivial, trivial, rel_stableK (fun u lo hi w w' h hb => h), trivial, trivial⟩ ⟨?_, ?_, ?_, ?_, ?_, ?_, ?_, ?_, ?_, trivial⟩ ?_
   ·intro x w hb hk Q' hQ
    clear hk
    simp only [netE] at hQ ⊢
    go_wp2
    exact hQ (.pointer (some ⟨gm, 2, none⟩)) _ (Ck.refl _ _) rfl
   ·intro x w hb hk Q' hQ
    have h0 : x.v 0 = _ := (hk 0 (by decide)).1
    clear hk
    simp only [netE] at hQ ⊢
    simp only [h0] at hQ ⊢
    clear h0
    have z := (HM.out.ck hb hgmc).cell' (i := 2) rfl
    go_wp2
    exact hQ (.slice (some ⟨gA, 0, none⟩) n cp) _ (Ck.refl _ _) rfl
   ·intro x w hb hk Q' hQ
    clear hk
    simp only [netE] at hQ ⊢
    go_wp2
    exact hQ (.int .i64 i) _ (Ck.refl _ _) rfl
   ·intro x w hb hk Q' hQ
    clear hk
    simp only [netE] at hQ ⊢
    go_wp2
    exact hQ (.pointer (some ⟨c, 0, none⟩)) _ (Ck.refl _ _) rfl
   ·intro x w hb hk Q' hQ
    clear hk
    simp only [netE] at hQ ⊢
    go_wp2
    exact hQ (.int .i64 p) _ (Ck.refl _ _) rfl
   ·intro x w hb hk Q' hQ
    have h4 : x.v 4 = _ := (hk 4 (by decide)).1
    clear hk
    simp only [netE] at hQ ⊢
    simp only [h4] at hQ ⊢
    clear h4
    go_wp2
    exact hQ (.int .i64 (min 5 p)) _ (Ck.refl _ _) rfl
   ·intro x w hb hk Q' hQ
    have h5 : x.v 5 = _ := (hk 5 (by decide)).1
    clear hk
    simp only [netE] at hQ ⊢
    simp only [h5] at hQ ⊢
    clear h5
    go_wp2
    exact hQ (.int .i64 (max 1 (min 5 p))) _ (Ck.refl _ _) rfl
   ·intro x w hb hk Q' hQ
    have h3 : x.v 3 = _ := (hk 3 (by decide)).1
    have h4 : x.v 4 = _ := (hk 4 (by decide)).1
    have h5 : x.v 5 = _ := (hk 5 (by decide)).1
    have h6 : x.v 6 = _ := (hk 6 (by decide)).1
    clear hk
    simp only [netE] at hQ ⊢
    simp only [h3, h4, h5, h6] at hQ ⊢
    clear h3 h4 h5 h6
    go_wp2_with fail
    refine (l1Below_any c _ _ (hb.keep HCr.out) ⟨by omega, by omega⟩).mono ?_; rintro e w7 ⟨j, hj, _, rfl, hb7⟩
    go_wp2
    exact hQ _ _ hb7 ⟨j, rfl, by omega⟩
   ·intro x w hb hk Q' hQ
    have h1 : x.v 1 = _ := (hk 1 (by decide)).1
    have h2 : x.v 2 = _ := (hk 2 (by decide)).1
    clear hk
    simp only [netE] at hQ ⊢
    simp only [h1, h2] at hQ ⊢
    clear h1 h2
    go_wp2
    exact hQ (.pointer (some ⟨gA, i, none⟩)) _ (Ck.refl _ _) rfl
   ·intro x w hb hk hiv hdj
    have h0 : x.v 0 = .pointer (some ⟨gm, 2, none⟩) := hk 0 (by decide)
    have h1 : x.v 1 = .slice (some ⟨gA, 0, none⟩) n cp := hk 1 (by decide)
    have h2 : x.v 2 = .int .i64 i := hk 2 (by decide)
    have h3 : x.v 3 = .pointer (some ⟨c, 0, none⟩) := hk 3 (by decide)
    have h4 : x.v 4 = .int .i64 p := hk 4 (by decide)
    have h5 : x.v 5 = .int .i64 (min 5 p) := hk 5 (by decide)
    have h6 : x.v 6 = .int .i64 (max 1 (min 5 p)) := hk 6 (by decide)
    have h7 : ∃ j : Nat, (x.v 7) = .int .i64 j ∧ j ≤ 4 := hk 7 (by decide)
    have h8 : x.v 8 = .pointer (some ⟨gA, i, none⟩) := hk 8 (by decide)
    clear hk
    simp only [netE]
    simp only [List.drop_succ_cons, List.drop_zero, h0, h1, h2, h3, h4, h5, h6, h8]
    clear h0 h1 h2 h3 h4 h5 h6 h8
    obtain ⟨j, e7, hj⟩ := h7
    rw [e7]
    have hOw := HR.out.ckF hb (by omega)
    have cX := (hOw.1.cellG (j := i) (by have := HL.out; omega)).1
    have fX := hOw.1.frozenG i
    have hput := hOw.put (j := i) (x := (j : Int)) ⟨by omega, by omega⟩
    obtain ⟨W3, hW3⟩ : ∃ z, w.setCell ⟨gA, i, none⟩ (.int .i64 (j : Int)) = z := ⟨_, rfl⟩
    rw [hW3] at hput
    have hch : Chg gA (gA + 1) w W3 := by rw [← hW3]; exact chg_set (Nat.le_refl _) (Nat.lt_succ_self _)
    have hsb := hb.size
    have hwr := HB.out.size
    have hs3 := hch.size
    have hlow : Below W.heap.size w W3 := hch.below hgA1 (by omega)
    have HB3 := Lib.hid ((HB.out.trans hb).lowF hlow (Nat.le_refl _) (by omega))
    have HC3 := Lib.hid ((hb.keep HCr.out).belowF hlow (by omega))
    have HM3 := Lib.hid ((HM.out.ck hb hgmc).chg hch (.inr (by omega)))
    have HR3 := Lib.hid hput
    have HL3 := Lib.hid (show (l.set i (j : Int)).length = n by rw [List.length_set]; exact HL.out)
    have HX3 := Lib.hid (show ∀ x ∈ l.set i (j : Int), 0 ≤ x ∧ x ≤ 4 from fun x hx => by
     rcases List.mem_or_eq_of_mem_set hx with h | rfl
     ·exact HX.out x h
     ·omega)
    have hgs3 : gm < W3.heap.size := by omega
    clear hput hch hlow hOw hb hiv hdj e7 hsb hwr
    go_wp2
    clear hW3 cX fX
    go_roundw
    case rel => exact ⟨i + 1, _, by omega, by go_num, HL3.out, HX3.out, hgs3, HC3.out, HB3.out, HM3.out, HR3.out⟩
    case measure => simp [intOf]; omega
  ·obtain rfl : i = n := by omega
   have q0 := HM.out.cell' (i := 0) rfl
   have q1 := HM.out.cell' (i := 1) rfl
   have kz := KR.out.ck HB.out hcw
   have fr := kz.frozen
   have r0 := kz.cell' (i := 0) rfl
   have r1 := kz.cell' (i := 1) rfl
   have r2 := kz.cell' (i := 2) rfl
   have hc3 := ((chg_set (lo := w0.heap.size) (hi := w0.heap.size + 1) (w := wr) (p := ⟨w0.heap.size, 0, none⟩) (u := .int .i64 (r : Int)) (Nat.le_refl _) (Nat.lt_succ_self _)).trans (chg_set (p := ⟨w0.heap.size, 1, none⟩) (u := .int .i64 (k : Int)) (Nat.le_refl _) (Nat.lt_succ_self _))).trans (chg_set (p := ⟨w0.heap.size, 2, none⟩) (u := .slice A i cp) (Nat.le_refl _) (Nat.lt_succ_self _))
   have hsz := HB.out.size
   have OF := Lib.hid ((HR.out.chg hc3 (.inr (by omega))).wider (by omega : w0.heap.size + 1 ≤ W.heap.size) (Nat.le_trans (Nat.le_of_lt hgs) hc3.size))
   have GS := Lib.hid ((G0.out.trans HB.out).lowF (lo := w0.heap.size) (hc3.below (Nat.le_refl _) (by omega)) (Nat.le_refl _) hcl)
   clear hc3 kz
   go_wp2
   exact bodyPost_ret (v := .agg #[.int .i64 (r : Int), .int .i64 (k : Int), .slice A i cp]) (by simp [results, go_sem, r0, r1, r2]) rfl ⟨_, l, rfl, ⟨_, rfl, OF.out, ⟨by show (-9223372036854775808 : Int) ≤ (r : Int); omega, by show (r : Int) ≤ 9223372036854775807; omega⟩, ⟨by show (-9223372036854775808 : Int) ≤ (k : Int); omega, by show (k : Int) ≤ 9223372036854775807; omega⟩⟩, by rw [hn]; exact HL.out, HX.out, GS.out⟩
set_option maxHeartbeats 3200000 in
set_option maxRecDepth 100000 in
theorem l3Any_any (c : Nat) (p : Int) (w0 : World) (hc : Cur w0 c) (hp : I64 p) :
  Calls Tryz.prog 81 #[.pointer (some ⟨c, 0, none⟩), .int .i64 p] w0 fun e w' => ∃ v m, e = .returned v ∧ MxO w' (w0.heap.size + 1) w'.heap.size v m ∧ m.a.length ≤ 10 ∧ Ck c w0 w' := by
 have hp' := hp
 obtain ⟨hp1, hp2⟩ := hp'
 have hcl := hc.ltF
 obtain ⟨W, hW⟩ : ∃ W, W = w0.alloc (.cells #[.int .i64 0, .int .i64 0, .slice none 0 0] 44) := ⟨_, rfl⟩
 have g0 : Ck c w0 W := by rw [hW]; exact Ck.of_below (below_alloc _ _)
 have kR : Blk W w0.heap.size 44 #[.int .i64 0, .int .i64 0, .slice none 0 0] := by rw [hW]; exact Blk.new _ _ _
 have sW : W.heap.size = w0.heap.size + 1 := by rw [hW]; simp
 have hcw : w0.heap.size ≠ c := by omega
 have KR := Lib.hid kR
 have G0 := Lib.hid g0
 have HC := Lib.hid (g0.keep hc)
 clear kR hc g0
 go_enter Tryz.func81, Tryz.ntmps81
 go_wp2_with fail
 rw [← hW]; clear hW
 refine (l1Below_any c 4 _ HC.out ⟨by omega, by omega⟩).mono ?_; rintro e w1 ⟨r, hr, _, rfl, hb1⟩
 have hr3 : r ≤ 3 := by omega
 have HC1 := Lib.hid (hb1.keep HC.out)
 go_wp2_with fail
 refine (l1Below_any c 4 _ HC1.out ⟨by omega, by omega⟩).mono ?_; rintro e w2 ⟨k, hk, _, rfl, hb2⟩
 have hk3 : k ≤ 3 := by omega
 have HC2 := Lib.hid (hb2.keep HC1.out)
 have HB2 := Lib.hid (hb1.trans hb2)
 clear hb1 hb2 hr hk HC1
 go_wp2_with fail
 refine (l3Random_any c p r k _ HC2.out hp (by omega) (by omega)).mono ?_; rintro e w3 ⟨v, l, rfl, hM, hl, hx, hb3⟩
 have hs2 := HB2.out.size
 have hB3 := HB2.out.trans hb3
 have hC3 := hb3.keep HC2.out
 have hs3 := hb3.size
 obtain ⟨s, rfl, hs, _⟩ := hM
 obtain ⟨A, cp, rfl, _⟩ := hs.1.form
 simp only at hs ⊢
 have hl9 : l.length ≤ 9 := by
  rw [hl]
  have : r * k ≤ 3 * 3 := Nat.mul_le_mul hr3 hk3
  omega
 obtain ⟨n, hn⟩ : ∃ n, l.length = n := ⟨_, rfl⟩
 rw [hn] at hs hl9 ⊢
 obtain ⟨W4, hW4⟩ : ∃ z, w3.alloc (.cells #[.int .i64 (r : Int), .int .i64 (k : Int), .slice A n cp] 44) = z := ⟨_, rfl⟩
 have gb : Below w3.heap.size w3 W4 := by rw [← hW4]; exact below_alloc _ _
 obtain ⟨gm, hgm⟩ : ∃ z, w3.heap.size = z := ⟨_, rfl⟩
 have kM : Blk W4 gm 44 #[.int .i64 (r : Int), .int .i64 (k : Int), .slice A n cp] := by rw [← hW4, ← hgm]; exact Blk.new _ _ _
 have hs4 : W4.heap.size = gm + 1 := by rw [← hW4, ← hgm]; simp
 have hR4 := (hs.below gb).wider (by omega : W.heap.size ≤ w2.heap.size + 1) (Nat.le_of_eq hgm)
 have hB4 := hB3.trans (Ck.of_below gb)
 have hC4 := (Ck.of_below (c := c) gb).keep hC3
 have hcl3 := hC3.ltF
 have hgmc : gm ≠ c := by omega
 have hgW : W.heap.size ≤ gm := by omega
 have HM4 := Lib.hid kM
 have HR4 := Lib.hid hR4
 have HB4 := Lib.hid hB4
 have HC4 := Lib.hid hC4
 clear kM hR4 hB4 hC4 hB3 hC3 hb3 gb hs HC2 HB2
 go_wp2_with fail
 try rw [hW4]
 try rw [hgm]
 clear hW4 hgm
 refine (l1Below_any c 18 _ HC4.out ⟨by omega, by omega⟩).mono ?_; rintro e w5 ⟨t, ht, _, rfl, hb5⟩
 have HC5 := Lib.hid (hb5.keep HC4.out)
 have HB5 := Lib.hid (HB4.out.trans hb5)
 have HM5 := Lib.hid (HM4.out.ck hb5 hgmc)
 have HR5 := Lib.hid (HR4.out.ckF hb5 (by omega))
 have hs5 := hb5.size
 clear hb5 HC4 HB4 HM4 HR4
 have hgm5 : gm < w5.heap.size := by omega
 have HI := Lib.hid (show I64 (r : Int) ∧ I64 (k : Int) from ⟨⟨by omega, by omega⟩, ⟨by omega, by omega⟩⟩)
 have HLN := Lib.hid (show l.length ≤ 9 by omega)
 by_cases e0 : t = 0
 ·subst e0
  go_wp2_with fail
  obtain ⟨W6, hW6⟩ : ∃ z, w5.alloc (.cells #[.int .i64 (-1), .int .i64 9, .int .i64 2, .int .i64 9223372036854775807] 3) = z := ⟨_, rfl⟩
  have gb : Below w5.heap.size w5 W6 := by rw [← hW6]; exact below_alloc _ _
  have kS : Blk W6 w5.heap.size 3 #[.int .i64 (-1), .int .i64 9, .int .i64 2, .int .i64 9223372036854775807] := by rw [← hW6]; exact Blk.new _ _ _
  have hcl5 := HC5.out.ltF
  rw [hW6]
  refine (l1PickInt_any IntPF c w5.heap.size 4 4 _ _ ((Ck.of_below (c := c) gb).keep HC5.out) kS (by omega) (by omega) (by omega) (fun i hi => ?_) fun v h => ⟨_, h.choose_spec.1⟩).mono ?_
  ·match i, hi with
   | 0, _ => exact ⟨_, rfl, _, rfl, by decide, by decide⟩
   | 1, _ => exact ⟨_, rfl, _, rfl, by decide, by decide⟩
   | 2, _ => exact ⟨_, rfl, _, rfl, by decide, by decide⟩
   | 3, _ => exact ⟨_, rfl, _, rfl, by decide, by decide⟩
   | i + 4, h => omega
  rintro e w7 ⟨v, ⟨x, rfl, hx⟩, rfl, hb7⟩
  have hs6 := gb.size
  have hs7 := hb7.size
  have hM7 := (HM5.out.below gb hgm5).ck hb7 hgmc
  have hR7 := (HR5.out.below gb).ckF hb7 (by omega)
  have hB7 := (HB5.out.trans (Ck.of_below gb)).trans hb7
  have cX := hM7.cell' (i := 0) rfl
  have fX := hM7.frozen
  obtain ⟨W8, hW8⟩ : ∃ z, w7.setCell ⟨gm, 0, none⟩ (.int .i64 x) = z := ⟨_, rfl⟩
  have hch : Chg gm (gm + 1) w7 W8 := by rw [← hW8]; exact chg_set (Nat.le_refl _) (Nat.lt_succ_self _)
  have hM8 : Blk W8 gm 44 #[.int .i64 x, .int .i64 (k : Int), .slice A n cp] := by rw [← hW8]; exact hM7.set_ 0 _
  have hs8 := hch.size
  have hR8 := (hR7.chg hch (.inl (Nat.le_refl _))).wider (Nat.le_refl W.heap.size) (by omega : gm ≤ W8.heap.size)
  have hB8 := hB7.lowF (hch.below (by omega : W.heap.size ≤ gm) (by omega)) (Nat.le_refl _) (by omega)
  have HM8 := Lib.hid hM8
  have HR8 := Lib.hid hR8
  have HB8 := Lib.hid hB8
  have HX := Lib.hid hx
  clear hW6 gb kS hb7 hM7 hR7 hB7 hch hM8 hR8 hB8 hx HC5 HB5 HM5 HR5
  have q0 := (HM8.out).cell' (i := 0) rfl
  have q1 := (HM8.out).cell' (i := 1) rfl
  have q2 := (HM8.out).cell' (i := 2) rfl
  have kz := KR.out.ck HB8.out hcw
  have fr := kz.frozen
  have r0 := kz.cell' (i := 0) rfl
  have r1 := kz.cell' (i := 1) rfl
  have r2 := kz.cell' (i := 2) rfl
  have hc3 := ((chg_set (lo := w0.heap.size) (hi := w0.heap.size + 1) (w := W8) (p := ⟨w0.heap.size, 0, none⟩) (u := .int .i64 x) (Nat.le_refl _) (Nat.lt_succ_self _)).trans (chg_set (p := ⟨w0.heap.size, 1, none⟩) (u := .int .i64 (k : Int)) (Nat.le_refl _) (Nat.lt_succ_self _))).trans (chg_set (p := ⟨w0.heap.size, 2, none⟩) (u := .slice A n cp) (Nat.le_refl _) (Nat.lt_succ_self _))
  have hsz := (HB8.out).size
  have OF := Lib.hid (((HR8.out).chg hc3 (.inr (by omega))).wider (by omega : w0.heap.size + 1 ≤ W.heap.size) hc3.size)
  have GS := Lib.hid ((G0.out.trans HB8.out).lowF (lo := w0.heap.size) (hc3.below (Nat.le_refl _) (by omega)) (Nat.le_refl _) hcl)
  clear hc3 kz
  go_wp2
  exact bodyPost_ret (v := .agg #[.int .i64 x, .int .i64 (k : Int), .slice A n cp]) (by simp [results, go_sem, r0, r1, r2]) rfl ⟨_, ⟨x, k, l⟩, rfl, ⟨_, rfl, OF.out, HX.out, HI.out.2⟩, Nat.le_succ_of_le HLN.out, GS.out⟩
 ·by_cases e1 : t = 1
  ·subst e1
   have q2 := HM5.out.cell' (i := 2) rfl
   obtain ⟨W6, hW6⟩ : ∃ z, w5.alloc (.cells #[.int .i64 0] 3) = z := ⟨_, rfl⟩
   have gb : Below w5.heap.size w5 W6 := by rw [← hW6]; exact below_alloc _ _
   have hko := (HR5.out.below gb).1
   have hka := HM5.out.below gb hgm5
   have hs6 := gb.size
   have hcl5 := HC5.out.ltF
   have hB6 := HB5.out.trans (Ck.of_below gb)
   have hone : SlI W6 W6.heap.size (.slice (some ⟨w5.heap.size, 0, none⟩) 1 1) [(0 : Int)] := by rw [← hW6]; exact SlI.one w5 _ 0 ⟨by omega, by omega⟩
   (go_wp2_with (at_builtin; refine Hold.stop ?_)); unfold Hold
   try rw [hW6]
   refine wpList_appI rfl (.tmp 26) (.tmp 27) rfl W.heap.size _ (.slice A n cp) l rfl hko _ _ _ [(0 : Int)] rfl rfl hone (by simp only [List.length_singleton]; omega) (by omega) ?_
   intro v1 w8 ho1 hg1 hv1
   clear hv1
   have hk8 := hka.grown hg1 (hko.blkne hka (by decide))
   have hs8 := hg1.size
   have hB8 := hB6.lowF (below_grown hg1 (fun j hj => (hko.lt j hj).1) (by omega : W.heap.size ≤ W6.heap.size)) (Nat.le_refl _) (by omega)
   obtain ⟨A1, c1, rfl, _⟩ := ho1.form
   have hln : (l ++ [(0 : Int)]).length ≤ 10 := by simp; omega
   have HLO := Lib.hid hln
   obtain ⟨l1, hl1⟩ : ∃ z, l ++ [(0 : Int)] = z := ⟨_, rfl⟩
   rw [hl1] at ho1 hln HLO ⊢
   obtain ⟨n1, hn1⟩ : ∃ n1, l1.length = n1 := ⟨_, rfl⟩
   rw [hn1] at ho1 ⊢
   have fX := hk8.frozen
   have cX := hk8.cell' (i := 2) rfl
   obtain ⟨W9, hW9⟩ : ∃ z, w8.setCell ⟨gm, 2, none⟩ (.slice A1 n1 c1) = z := ⟨_, rfl⟩
   have hM9 : Blk W9 gm 44 #[.int .i64 (r : Int), .int .i64 (k : Int), .slice A1 n1 c1] := by rw [← hW9]; exact hk8.set_ 2 _
   have hO9 : OwnI W9 W.heap.size (.slice A1 n1 c1) l1 := by rw [← hW9]; exact ho1.setCell (fun e => ho1.blkne hk8 (by decide) e.symm) _
   have hch : Chg gm (gm + 1) w8 W9 := by rw [← hW9]; exact chg_set (Nat.le_refl _) (Nat.lt_succ_self _)
   have hs9 := hch.size
   have hB9 := hB8.lowF (hch.below (by omega : W.heap.size ≤ gm) (by omega)) (Nat.le_refl _) (by omega)
   have HM9 := Lib.hid hM9
   have HR9 := Lib.hid (IntsO.of_own hO9)
   have HB9 := Lib.hid hB9
   clear q2 hW6 gb hko hka hone hB6 ho1 hg1 hk8 hB8 hch hM9 hO9 hB9 HC5 HB5 HM5 HR5 hl1
   have q0 := (HM9.out).cell' (i := 0) rfl
   have q1 := (HM9.out).cell' (i := 1) rfl
   have q2 := (HM9.out).cell' (i := 2) rfl
   have kz := KR.out.ck HB9.out hcw
   have fr := kz.frozen
   have r0 := kz.cell' (i := 0) rfl
   have r1 := kz.cell' (i := 1) rfl
   have r2 := kz.cell' (i := 2) rfl
   have hc3 := ((chg_set (lo := w0.heap.size) (hi := w0.heap.size + 1) (w := W9) (p := ⟨w0.heap.size, 0, none⟩) (u := .int .i64 (r : Int)) (Nat.le_refl _) (Nat.lt_succ_self _)).trans (chg_set (p := ⟨w0.heap.size, 1, none⟩) (u := .int .i64 (k : Int)) (Nat.le_refl _) (Nat.lt_succ_self _))).trans (chg_set (p := ⟨w0.heap.size, 2, none⟩) (u := .slice A1 n1 c1) (Nat.le_refl _) (Nat.lt_succ_self _))
   have hsz := (HB9.out).size
   have OF := Lib.hid (((HR9.out).chg hc3 (.inr (by omega))).wider (by omega : w0.heap.size + 1 ≤ W.heap.size) hc3.size)
   have GS := Lib.hid ((G0.out.trans HB9.out).lowF (lo := w0.heap.size) (hc3.below (Nat.le_refl _) (by omega)) (Nat.le_refl _) hcl)
   clear hc3 kz
   go_wp2
   exact bodyPost_ret (v := .agg #[.int .i64 (r : Int), .int .i64 (k : Int), .slice A1 n1 c1]) (by simp [results, go_sem, r0, r1, r2]) rfl ⟨_, ⟨(r : Int), (k : Int), l1⟩, rfl, ⟨_, rfl, OF.out, HI.out⟩, HLO.out, GS.out⟩
  ·have q2 := HM5.out.cell' (i := 2) rfl
   by_cases e2 : t = 2
   ·subst e2
    by_cases hz : n = 0
    ·subst hz
     have HR9 := Lib.hid (HR5.out.wider (Nat.le_refl _) (Nat.le_of_lt hgm5))
     have q0 := (HM5.out).cell' (i := 0) rfl
     have q1 := (HM5.out).cell' (i := 1) rfl
     have q2 := (HM5.out).cell' (i := 2) rfl
     have kz := KR.out.ck HB5.out hcw
     have fr := kz.frozen
     have r0 := kz.cell' (i := 0) rfl
     have r1 := kz.cell' (i := 1) rfl
     have r2 := kz.cell' (i := 2) rfl
     have hc3 := ((chg_set (lo := w0.heap.size) (hi := w0.heap.size + 1) (w := w5) (p := ⟨w0.heap.size, 0, none⟩) (u := .int .i64 (r : Int)) (Nat.le_refl _) (Nat.lt_succ_self _)).trans (chg_set (p := ⟨w0.heap.size, 1, none⟩) (u := .int .i64 (k : Int)) (Nat.le_refl _) (Nat.lt_succ_self _))).trans (chg_set (p := ⟨w0.heap.size, 2, none⟩) (u := .slice A 0 cp) (Nat.le_refl _) (Nat.lt_succ_self _))
     have hsz := (HB5.out).size
     have OF := Lib.hid (((HR9.out).chg hc3 (.inr (by omega))).wider (by omega : w0.heap.size + 1 ≤ W.heap.size) hc3.size)
     have GS := Lib.hid ((G0.out.trans HB5.out).lowF (lo := w0.heap.size) (hc3.below (Nat.le_refl _) (by omega)) (Nat.le_refl _) hcl)
     clear hc3 kz
     go_wp2
     exact bodyPost_ret (v := .agg #[.int .i64 (r : Int), .int .i64 (k : Int), .slice A 0 cp]) (by simp [results, go_sem, r0, r1, r2]) rfl ⟨_, ⟨(r : Int), (k : Int), l⟩, rfl, ⟨_, rfl, OF.out, HI.out⟩, Nat.le_succ_of_le HLN.out, GS.out⟩
    ·obtain ⟨gA, rfl, hgA1, hgA2⟩ := HR5.out.1.adrF (by omega)
     have hgAg : gA < gm := HR5.out.2 gA rfl
     have hgAc : gA ≠ c := by omega
     have hpos : 0 < n := Nat.pos_of_ne_zero hz
     go_wp2
     refine wp_region_netK (c) (by kernel_rfl) [.eq (.pointer (some ⟨gm, 2, none⟩)), .eq (.slice (some ⟨gA, 0, none⟩) n cp), .eq (.pointer (some ⟨c, 0, none⟩)), rel 3 (fun u lo hi w => ∃ g, u = .slice (some ⟨g, 0, none⟩) 3 3 ∧ Blk w g 3 #[.int .i64 (-1), .int .i64 5, .int .i64 2] ∧ c < g), rel 4 (fun u lo hi w => ∃ y : Int, u = .int .i64 y ∧ I64 y), .eq (.pointer (some ⟨gA, 0, none⟩))] [[], [0], [], [], [2, 3], [0, 1, 2, 3, 4], [0, 1, 2, 3, 4, 5]] 6 (by kernel_rfl) ⟨trivial, trivial, trivial, rel_stableK (fun u lo hi w w' ⟨g, h1, h2, h3⟩ hb => ⟨g, h1, h2.ck hb (by omega), h3⟩), rel_stableK (fun u lo hi w w' h hb => h), trivial, trivial⟩ ⟨?_, ?_, ?_, ?_, ?_, ?_, trivial⟩ ?_
     ·intro x w hb hk Q' hQ
      clear hk
      simp only [netE] at hQ ⊢
      go_wp2
      exact hQ (.pointer (some ⟨gm, 2, none⟩)) _ (Ck.refl _ _) rfl
     ·intro x w hb hk Q' hQ
      have h0 : x.v 0 = _ := (hk 0 (by decide)).1
      clear hk
      simp only [netE] at hQ ⊢
      simp only [h0] at hQ ⊢
      clear h0
      have z := (HM5.out.ck hb hgmc).cell' (i := 2) rfl
      go_wp2
      exact hQ (.slice (some ⟨gA, 0, none⟩) n cp) _ (Ck.refl _ _) rfl
     ·intro x w hb hk Q' hQ
      clear hk
      simp only [netE] at hQ ⊢
      go_wp2
      exact hQ (.pointer (some ⟨c, 0, none⟩)) _ (Ck.refl _ _) rfl
     ·intro x w hb hk Q' hQ
      clear hk
      simp only [netE] at hQ ⊢
      have hcw := (hb.keep HC5.out).ltF
      go_wp2
      exact hQ _ _ (Ck.of_below (below_alloc _ _)) ⟨_, rfl, Blk.new _ _ _, hcw⟩
     ·intro x w hb hk Q' hQ
      have h2 : x.v 2 = _ := (hk 2 (by decide)).1
      have h3 : ∃ g, (x.v 3) = .slice (some ⟨g, 0, none⟩) 3 3 ∧ Blk w g 3 #[.int .i64 (-1), .int .i64 5, .int .i64 2] ∧ c < g := (hk 3 (by decide)).1
      have s3 := (hk 3 (by decide)).2
      clear hk
      simp only [netE] at hQ ⊢
      simp only [h2] at hQ ⊢
      clear h2
      obtain ⟨g, e3, hB3, hcg⟩ := h3
      obtain ⟨z3, hz3⟩ : ∃ z, x.v 3 = z := ⟨_, rfl⟩
      rw [hz3] at e3 hQ ⊢
      clear hz3
      subst e3
      go_wp2_with fail
      refine (l1PickInt_any IntPF c g 3 3 _ _ (hb.keep HC5.out) hB3 (by omega) (by omega) (by omega) (fun i hi => ?_) fun v h => ⟨_, h.choose_spec.1⟩).mono ?_
      ·match i, hi with
       | 0, _ => exact ⟨_, rfl, _, rfl, by decide, by decide⟩
       | 1, _ => exact ⟨_, rfl, _, rfl, by decide, by decide⟩
       | 2, _ => exact ⟨_, rfl, _, rfl, by decide, by decide⟩
       | i + 3, h => omega
      rintro e w7 ⟨v, ⟨k7, rfl, hk7⟩, rfl, hb7⟩
      go_wp2
      exact hQ _ _ hb7 ⟨k7, rfl, hk7⟩
     ·intro x w hb hk Q' hQ
      have h1 : x.v 1 = _ := (hk 1 (by decide)).1
      clear hk
      simp only [netE] at hQ ⊢
      simp only [h1] at hQ ⊢
      clear h1
      go_wp2
      exact hQ (.pointer (some ⟨gA, 0, none⟩)) _ (Ck.refl _ _) rfl
     ·intro x w hb hk hiv hdj
      have h0 : x.v 0 = .pointer (some ⟨gm, 2, none⟩) := hk 0 (by decide)
      have h1 : x.v 1 = .slice (some ⟨gA, 0, none⟩) n cp := hk 1 (by decide)
      have h2 : x.v 2 = .pointer (some ⟨c, 0, none⟩) := hk 2 (by decide)
      have h3 : ∃ g, (x.v 3) = .slice (some ⟨g, 0, none⟩) 3 3 ∧ Blk w g 3 #[.int .i64 (-1), .int .i64 5, .int .i64 2] ∧ c < g := hk 3 (by decide)
      have h4 : ∃ y : Int, (x.v 4) = .int .i64 y ∧ I64 y := hk 4 (by decide)
      have h5 : x.v 5 = .pointer (some ⟨gA, 0, none⟩) := hk 5 (by decide)
      clear hk
      simp only [netE]
      simp only [List.drop_succ_cons, List.drop_zero, h0, h1, h2, h5]
      clear h0 h1 h2 h5
      obtain ⟨j, e4, hj⟩ := h4
      rw [e4]
      have hOw := HR5.out.ckF hb (by omega)
      have cX := (hOw.1.cellG (j := 0) (by omega)).1
      have fX := hOw.1.frozenG 0
      have hput := hOw.put (j := 0) (x := j) hj
      obtain ⟨W3, hW3⟩ : ∃ z, w.setCell ⟨gA, 0, none⟩ (.int .i64 j) = z := ⟨_, rfl⟩
      rw [hW3] at hput
      have hch : Chg gA (gA + 1) w W3 := by rw [← hW3]; exact chg_set (Nat.le_refl _) (Nat.lt_succ_self _)
      have hsb := hb.size
      have hsc := hch.size
      have hlow : Below W.heap.size w W3 := hch.below hgA1 (by omega)
      have HB3 := Lib.hid ((HB5.out.trans hb).lowF hlow (Nat.le_refl _) (by omega))
      have HM3 := Lib.hid ((HM5.out.ck hb hgmc).chg hch (.inr (by omega)))
      have HR3 := Lib.hid (hput.wider (Nat.le_refl _) (by omega : gm ≤ W3.heap.size))
      have HLS := Lib.hid (show (l.set 0 j).length ≤ 9 by rw [List.length_set]; exact HLN.out)
      have hls : (l.set 0 j).length = n := by rw [List.length_set]; exact hn
      have HLT := Lib.hid hls
      clear hput hch hlow hOw hb hiv hdj e4 hsb HC5 HB5 HM5 HR5 hls
      have q0 := (HM3.out).cell' (i := 0) rfl
      have q1 := (HM3.out).cell' (i := 1) rfl
      have q2 := (HM3.out).cell' (i := 2) rfl
      have kz := KR.out.ck HB3.out hcw
      have fr := kz.frozen
      have r0 := kz.cell' (i := 0) rfl
      have r1 := kz.cell' (i := 1) rfl
      have r2 := kz.cell' (i := 2) rfl
      have hc3 := ((chg_set (lo := w0.heap.size) (hi := w0.heap.size + 1) (w := W3) (p := ⟨w0.heap.size, 0, none⟩) (u := .int .i64 (r : Int)) (Nat.le_refl _) (Nat.lt_succ_self _)).trans (chg_set (p := ⟨w0.heap.size, 1, none⟩) (u := .int .i64 (k : Int)) (Nat.le_refl _) (Nat.lt_succ_self _))).trans (chg_set (p := ⟨w0.heap.size, 2, none⟩) (u := .slice (some ⟨gA, 0, none⟩) n cp) (Nat.le_refl _) (Nat.lt_succ_self _))
      have hsz := (HB3.out).size
      have OF := Lib.hid (((HR3.out).chg hc3 (.inr (by omega))).wider (by omega : w0.heap.size + 1 ≤ W.heap.size) hc3.size)
      have GS := Lib.hid ((G0.out.trans HB3.out).lowF (lo := w0.heap.size) (hc3.below (Nat.le_refl _) (by omega)) (Nat.le_refl _) hcl)
      clear hc3 kz
      go_wp2
      exact bodyPost_ret (v := .agg #[.int .i64 (r : Int), .int .i64 (k : Int), .slice (some ⟨gA, 0, none⟩) n cp]) (by simp [results, go_sem, r0, r1, r2]) rfl ⟨_, ⟨(r : Int), (k : Int), l.set 0 j⟩, rfl, ⟨_, rfl, OF.out, HI.out⟩, Nat.le_succ_of_le HLS.out, GS.out⟩
   ·have HR9 := Lib.hid (HR5.out.wider (Nat.le_refl _) (Nat.le_of_lt hgm5))
    have q0 := (HM5.out).cell' (i := 0) rfl
    have q1 := (HM5.out).cell' (i := 1) rfl
    have q2 := (HM5.out).cell' (i := 2) rfl
    have kz := KR.out.ck HB5.out hcw
    have fr := kz.frozen
    have r0 := kz.cell' (i := 0) rfl
    have r1 := kz.cell' (i := 1) rfl
    have r2 := kz.cell' (i := 2) rfl
    have hc3 := ((chg_set (lo := w0.heap.size) (hi := w0.heap.size + 1) (w := w5) (p := ⟨w0.heap.size, 0, none⟩) (u := .int .i64 (r : Int)) (Nat.le_refl _) (Nat.lt_succ_self _)).trans (chg_set (p := ⟨w0.heap.size, 1, none⟩) (u := .int .i64 (k : Int)) (Nat.le_refl _) (Nat.lt_succ_self _))).trans (chg_set (p := ⟨w0.heap.size, 2, none⟩) (u := .slice A n cp) (Nat.le_refl _) (Nat.lt_succ_self _))
    have hsz := (HB5.out).size
    have OF := Lib.hid (((HR9.out).chg hc3 (.inr (by omega))).wider (by omega : w0.heap.size + 1 ≤ W.heap.size) hc3.size)
    have GS := Lib.hid ((G0.out.trans HB5.out).lowF (lo := w0.heap.size) (hc3.below (Nat.le_refl _) (by omega)) (Nat.le_refl _) hcl)
    clear hc3 kz
    go_wp2
    exact bodyPost_ret (v := .agg #[.int .i64 (r : Int), .int .i64 (k : Int), .slice A n cp]) (by simp [results, go_sem, r0, r1, r2]) rfl ⟨_, ⟨(r : Int), (k : Int), l⟩, rfl, ⟨_, rfl, OF.out, HI.out⟩, Nat.le_succ_of_le HLN.out, GS.out⟩
set_option maxHeartbeats 1600000 in
set_option maxRecDepth 100000 in
theorem l2Prime_any (c : Nat) (w0 : World) (hc : Cur w0 c) :
  Calls Tryz.prog 47 #[.pointer (some ⟨c, 0, none⟩)] w0 fun e w' => ∃ p : Int, e = .returned (.int .i64 p) ∧ I64 p ∧ Ck c w0 w' := by
 go_enter Tryz.func47, Tryz.ntmps47
 go_wp2_with fail
 refine (l1Once_any c 16 _ hc ⟨by omega, by omega⟩).mono ?_; rintro e w1 ⟨b, rfl, hb1⟩
 have HC1 := Lib.hid (hb1.keep hc)
 have HB1 := Lib.hid hb1
 clear hb1 hc
 rcases b with _ | _
 ·go_wp2_with fail
  obtain ⟨W8, hW8⟩ : ∃ z, w1.alloc (.cells #[.int .i64 2, .int .i64 3, .int .i64 5, .int .i64 2, .int .i64 3] 3) = z := ⟨_, rfl⟩
  have gb : Below w1.heap.size w1 W8 := by rw [← hW8]; exact below_alloc _ _
  have kS : Blk W8 w1.heap.size 3 #[.int .i64 2, .int .i64 3, .int .i64 5, .int .i64 2, .int .i64 3] := by rw [← hW8]; exact Blk.new _ _ _
  have hcl := HC1.out.ltF
  rw [hW8]
  refine (l1PickInt_any IntPF c w1.heap.size 5 5 _ _ ((Ck.of_below (c := c) gb).keep HC1.out) kS (by omega) (by omega) (by omega) (fun i hi => ?_) fun v h => ⟨_, h.choose_spec.1⟩).mono ?_
  ·match i, hi with
   | 0, _ => exact ⟨_, rfl, _, rfl, by decide, by decide⟩
   | 1, _ => exact ⟨_, rfl, _, rfl, by decide, by decide⟩
   | 2, _ => exact ⟨_, rfl, _, rfl, by decide, by decide⟩
   | 3, _ => exact ⟨_, rfl, _, rfl, by decide, by decide⟩
   | 4, _ => exact ⟨_, rfl, _, rfl, by decide, by decide⟩
   | i + 5, h => omega
  rintro e w9 ⟨v, ⟨x, rfl, hx⟩, rfl, hb9⟩
  have hB9 := (HB1.out.trans (Ck.of_below gb)).trans hb9
  clear hW8
  go_wp2
  go_ret
  exact ⟨x, rfl, hx, hB9⟩
 ·go_wp2_with fail
  obtain ⟨W8, hW8⟩ : ∃ z, w1.alloc (.cells #[.int .i64 (-1), .int .i64 0, .int .i64 1, .int .i64 4, .int .i64 7] 3) = z := ⟨_, rfl⟩
  have gb : Below w1.heap.size w1 W8 := by rw [← hW8]; exact below_alloc _ _
  have kS : Blk W8 w1.heap.size 3 #[.int .i64 (-1), .int .i64 0, .int .i64 1, .int .i64 4, .int .i64 7] := by rw [← hW8]; exact Blk.new _ _ _
  have hcl := HC1.out.ltF
  rw [hW8]
  refine (l1PickInt_any IntPF c w1.heap.size 5 5 _ _ ((Ck.of_below (c := c) gb).keep HC1.out) kS (by omega) (by omega) (by omega) (fun i hi => ?_) fun v h => ⟨_, h.choose_spec.1⟩).mono ?_
  ·match i, hi with
   | 0, _ => exact ⟨_, rfl, _, rfl, by decide, by decide⟩
   | 1, _ => exact ⟨_, rfl, _, rfl, by decide, by decide⟩
   | 2, _ => exact ⟨_, rfl, _, rfl, by decide, by decide⟩
   | 3, _ => exact ⟨_, rfl, _, rfl, by decide, by decide⟩
   | 4, _ => exact ⟨_, rfl, _, rfl, by decide, by decide⟩
   | i + 5, h => omega
  rintro e w9 ⟨v, ⟨x, rfl, hx⟩, rfl, hb9⟩
  have hB9 := (HB1.out.trans (Ck.of_below gb)).trans hb9
  clear hW8
  go_wp2
  go_ret
  exact ⟨x, rfl, hx, hB9⟩
set_option maxHeartbeats 1600000 in
set_option maxRecDepth 100000 in
theorem l8Prime_any (c : Nat) (w0 : World) (hc : Cur w0 c) :
  Calls Tryz.prog 75 #[.pointer (some ⟨c, 0, none⟩)] w0 fun e w' => ∃ p : Int, e = .returned (.int .i64 p) ∧ (p = 2 ∨ p = 3) ∧ Ck c w0 w' := by
 go_enter Tryz.func75, Tryz.ntmps75
 go_wp2_with fail
 obtain ⟨W8, hW8⟩ : ∃ z, w0.alloc (.cells #[.int .i64 2, .int .i64 3, .int .i64 2] 3) = z := ⟨_, rfl⟩
 have gb : Below w0.heap.size w0 W8 := by rw [← hW8]; exact below_alloc _ _
 have kS : Blk W8 w0.heap.size 3 #[.int .i64 2, .int .i64 3, .int .i64 2] := by rw [← hW8]; exact Blk.new _ _ _
 have hcl := hc.ltF
 rw [hW8]
 refine (l1PickInt_any (fun v => ∃ k : Int, v = .int .i64 k ∧ (k = 2 ∨ k = 3)) c w0.heap.size 3 3 _ _ ((Ck.of_below (c := c) gb).keep hc) kS (by omega) (by omega) (by omega) (fun i hi => ?_) fun v h => ⟨_, h.choose_spec.1⟩).mono ?_
 ·match i, hi with
  | 0, _ => exact ⟨_, rfl, _, rfl, by decide⟩
  | 1, _ => exact ⟨_, rfl, _, rfl, by decide⟩
  | 2, _ => exact ⟨_, rfl, _, rfl, by decide⟩
  | i + 3, h => omega
 rintro e w9 ⟨v, ⟨x, rfl, hx⟩, rfl, hb9⟩
 have hB9 := (Ck.of_below gb).trans hb9
 clear hW8
 go_wp2
 go_ret
 exact ⟨x, rfl, hx, hB9⟩
set_option maxHeartbeats 1600000 in
set_option maxRecDepth 100000 in
theorem l2Number_any (c : Nat) (w0 : World) (hc : Cur w0 c) :
  Calls Tryz.prog 55 #[.pointer (some ⟨c, 0, none⟩)] w0 fun e w' => ∃ p : Int, e = .returned (.int .i64 p) ∧ I64 p ∧ Ck c w0 w' := by
 go_enter Tryz.func55, Tryz.ntmps55
 go_wp2_with fail
 obtain ⟨W8, hW8⟩ : ∃ z, w0.alloc (.cells #[.int .i64 0, .int .i64 1, .int .i64 2, .int .i64 3, .int .i64 4, .int .i64 7, .int .i64 (-1), .int .i64 (-8), .int .i64 9223372036854775807, .int .i64 (-9223372036854775808)] 3) = z := ⟨_, rfl⟩
 have gb : Below w0.heap.size w0 W8 := by rw [← hW8]; exact below_alloc _ _
 have kS : Blk W8 w0.heap.size 3 #[.int .i64 0, .int .i64 1, .int .i64 2, .int .i64 3, .int .i64 4, .int .i64 7, .int .i64 (-1), .int .i64 (-8), .int .i64 9223372036854775807, .int .i64 (-9223372036854775808)] := by rw [← hW8]; exact Blk.new _ _ _
 have hcl := hc.ltF
 rw [hW8]
 refine (l1PickInt_any (fun v => ∃ k : Int, v = .int .i64 k ∧ I64 k) c w0.heap.size 10 10 _ _ ((Ck.of_below (c := c) gb).keep hc) kS (by omega) (by omega) (by omega) (fun i hi => ?_) fun v h => ⟨_, h.choose_spec.1⟩).mono ?_
 ·match i, hi with
  | 0, _ => exact ⟨_, rfl, _, rfl, by decide, by decide⟩
  | 1, _ => exact ⟨_, rfl, _, rfl, by decide, by decide⟩
  | 2, _ => exact ⟨_, rfl, _, rfl, by decide, by decide⟩
  | 3, _ => exact ⟨_, rfl, _, rfl, by decide, by decide⟩
  | 4, _ => exact ⟨_, rfl, _, rfl, by decide, by decide⟩
  | 5, _ => exact ⟨_, rfl, _, rfl, by decide, by decide⟩
  | 6, _ => exact ⟨_, rfl, _, rfl, by decide, by decide⟩
  | 7, _ => exact ⟨_, rfl, _, rfl, by decide, by decide⟩
  | 8, _ => exact ⟨_, rfl, _, rfl, by decide, by decide⟩
  | 9, _ => exact ⟨_, rfl, _, rfl, by decide, by decide⟩
  | i + 10, h => omega
 rintro e w9 ⟨v, ⟨x, rfl, hx⟩, rfl, hb9⟩
 have hB9 := (Ck.of_below gb).trans hb9
 clear hW8
 go_wp2
 go_ret
 exact ⟨x, rfl, hx, hB9⟩
set_option maxHeartbeats 1600000 in
set_option maxRecDepth 100000 in
theorem l26Number_any (u : Value) (l : List Int) (w0 : World) (hu : SlY w0 w0.heap.size u l) :
  Calls Tryz.prog 29 #[u] w0 fun e w' => ∃ p n : Int, e = .returned (.tuple #[.int .i64 p, .int .i64 n]) ∧ I64 p ∧ -1 ≤ n ∧ n ≤ 5 ∧ Below w0.heap.size w0 w' := by
 go_enter Tryz.func29, Tryz.ntmps29
 go_wp2_with fail
 refine (l1New_any u l _ hu).mono ?_; rintro e w1 ⟨c, rfl, hcs, hC1, hb1⟩
 go_wp2_with fail
 refine (l2Prime_any c _ hC1).mono ?_; rintro e w2 ⟨p, rfl, hp, hb2⟩
 have hs1 := hb1.size
 have hs2 := hb2.size
 have hC2 := hb2.keep hC1
 go_wp2_with fail
 refine (l1Below_any c 7 _ hC2 ⟨by omega, by omega⟩).mono ?_; rintro e w3 ⟨r, hr, _, rfl, hb3⟩
 have g3 := (hb1.trans (hb2.below hcs hs1)).trans (hb3.below hcs (by omega))
 clear hb1 hb2 hb3
 go_wp2
 exact bodyPost_ret (v := .tuple #[.int .i64 p, .int .i64 ((r : Int) - 1)]) (by simp [results, go_sem]) rfl ⟨_, _, rfl, hp, by omega, by omega, g3⟩
set_option maxHeartbeats 1600000 in
set_option maxRecDepth 100000 in
theorem drawPreprojectivePencil_any (u : Value) (l : List Int) (w0 : World) (hu : SlY w0 w0.heap.size u l) :
  Calls Tryz.prog 5 #[u] w0 fun e w' => ∃ p n : Int, e = .returned (.tuple #[.int .i64 p, .int .i64 n]) ∧ I64 p ∧ -1 ≤ n ∧ n ≤ 5 ∧ Below w0.heap.size w0 w' := by
 go_enter Tryz.func5, Tryz.ntmps5
 go_wp2_with fail
 refine (l26Number_any u l _ hu).mono ?_; rintro e w1 ⟨p, n, rfl, hp, h1, h2, hb⟩
 go_wp2
 exact bodyPost_ret (v := .tuple #[.int .i64 p, .int .i64 n]) (by simp [results, go_sem]) rfl ⟨_, _, rfl, hp, h1, h2, hb⟩
set_option maxHeartbeats 1600000 in
set_option maxRecDepth 100000 in
theorem drawRegularPencil_any (u : Value) (l : List Int) (w0 : World) (hu : SlY w0 w0.heap.size u l) :
  Calls Tryz.prog 14 #[u] w0 fun e w' => ∃ p n k : Int, e = .returned (.tuple #[.int .i64 p, .int .i64 n, .int .i64 k]) ∧ I64 p ∧ 0 ≤ n ∧ n ≤ 5 ∧ -1 ≤ k ∧ k ≤ 4 ∧ Below w0.heap.size w0 w' := by
 go_enter Tryz.func14, Tryz.ntmps14
 go_wp2_with fail
 refine (l1New_any u l _ hu).mono ?_; rintro e w1 ⟨c, rfl, hcs, hC1, hb1⟩
 go_wp2_with fail
 refine (l2Prime_any c _ hC1).mono ?_; rintro e w2 ⟨p, rfl, hp, hb2⟩
 have hs1 := hb1.size
 have hs2 := hb2.size
 have hC2 := hb2.keep hC1
 go_wp2_with fail
 refine (l1Below_any c 6 _ hC2 ⟨by omega, by omega⟩).mono ?_; rintro e w3 ⟨r, hr, _, rfl, hb3⟩
 have hs3 := hb3.size
 have hC3 := hb3.keep hC2
 go_wp2_with fail
 refine (l1Below_any c 6 _ hC3 ⟨by omega, by omega⟩).mono ?_; rintro e w4 ⟨t, ht, _, rfl, hb4⟩
 have g4 := ((hb1.trans (hb2.below hcs hs1)).trans (hb3.below hcs (by omega))).trans (hb4.below hcs (by omega))
 clear hb1 hb2 hb3 hb4
 go_wp2
 exact bodyPost_ret (v := .tuple #[.int .i64 p, .int .i64 r, .int .i64 ((t : Int) - 1)]) (by simp [results, go_sem]) rfl ⟨_, _, _, rfl, hp, by omega, by omega, by omega, by omega, g4⟩
theorem IntsO.widF {w : World} {lo hi lo' hi' : Nat} {v : Value} {l : List Int} (h : IntsO w lo hi v l) (h1 : lo' ≤ lo) (h2 : hi ≤ hi') : IntsO w lo' hi' v l := ⟨h.1.lower h1, fun k hk => Nat.lt_of_lt_of_le (h.2 k hk) h2⟩
structure DmsP (V : Int) (l : List Int) : Prop where
 len : 0 ≤ V → V ≤ 5 → (l.length : Int) = V
 l5 : l.length ≤ 5
 rng : ∀ x ∈ l, 0 ≤ x ∧ x ≤ 4
 sum : l.sum ≤ 8
theorem DmsP.dims {q : Qv} {l : List Int} (h : DmsP q.v l) (hq : isQ q = true) (h1 : 0 ≤ q.v) (h2 : q.v ≤ 5) : areDims q l = true := areDims_t.2 ⟨hq, h.len h1 h2, h.rng, h.sum⟩
set_option maxHeartbeats 3200000 in
set_option maxRecDepth 100000 in
theorem l8Dims_any (c : Nat) (V : Int) (A C : Option Addr) (n1 c1 n2 c2 : Nat) (most : Nat) (w0 : World) (hc : Cur w0 c) (hV : I64 V) (hm : most ≤ 3) :
  Calls Tryz.prog 99 #[.pointer (some ⟨c, 0, none⟩), .agg #[.int .i64 V, .slice A n1 c1, .slice C n2 c2], .int .i64 most] w0 fun e w' => ∃ v l, e = .returned v ∧ IntsO w' w0.heap.size w'.heap.size v l ∧ DmsP V l ∧ Ck c w0 w' := by
 have hcl := hc.ltF
 obtain ⟨hV1, hV2⟩ := hV
 obtain ⟨W, hW⟩ : ∃ W, (w0.alloc (.cells #[.int .i64 V, .slice A n1 c1, .slice C n2 c2] 28)).alloc (.cells #[] 3) = W := ⟨_, rfl⟩
 have gb : Below w0.heap.size w0 W := by rw [← hW]; exact ((Below.refl _ _).alloc (Nat.le_refl _) _).alloc (by simp) _
 have kB : Blk W w0.heap.size 28 #[.int .i64 V, .slice A n1 c1, .slice C n2 c2] := by rw [← hW]; exact (Blk.new _ _ _).alloc _
 have hO : OwnI W (w0.heap.size + 1) (.slice (some ⟨w0.heap.size + 1, 0, none⟩) 0 0) [] := by
  rw [← hW]
  have := OwnI.made (w := w0.alloc (.cells #[.int .i64 V, .slice A n1 c1, .slice C n2 c2] 28)) (base := w0.heap.size + 1) 3 rfl (by simp)
  simpa only [World.size_alloc] using this
 have g0 : Ck c w0 W := Ck.of_below gb
 have sW : W.heap.size = w0.heap.size + 1 + 1 := by rw [← hW]; simp
 have hcw : w0.heap.size ≠ c := by omega
 have KB := Lib.hid kB
 have hC0 := g0.keep hc
 clear kB gb hc
 go_enter Tryz.func99, Tryz.ntmps99
 go_wp2
 clear hW
 go_loopw [7, 8, 9] (fun xv lv i wr => ∃ (k : Nat) (l : List Int) (S : Int) (X : Option Addr) (cx : Nat), k ≤ 5 ∧ ((k : Int) ≤ V ∨ k = 0) ∧ i = .int .i64 k ∧ lv = .int .i64 (8 - S) ∧ l.sum = S ∧ 0 ≤ S ∧ S ≤ 8 ∧ (∀ x ∈ l, 0 ≤ x ∧ x ≤ 4) ∧ xv = .slice X k cx ∧ l.length = k ∧ OwnI wr (w0.heap.size + 1) (.slice X k cx) l ∧ Cur wr c ∧ Ck c w0 wr ∧ Blk wr w0.heap.size 28 #[.int .i64 V, .slice A n1 c1, .slice C n2 c2]) (fun _ _ i _ => 5 - (intOf i).toNat)
 case atStart => exact ⟨0, [], 0, _, 0, Nat.zero_le _, .inr rfl, rfl, rfl, rfl, by omega, by omega, by simp, rfl, rfl, hO, hC0, g0, KB.out⟩
 case round =>
  clear hO hC0 g0
  obtain ⟨k, l, S, X, cx, hk, hkV, rfl, rfl, hS, hS0, hS8, hX, rfl, hl, hO, hC, hB, kr⟩ := hrel
  have c0 := kr.cell' (i := 0) rfl
  have hsz := hB.size
  have HL := Lib.hid hl
  have HS := Lib.hid hS
  have HX := Lib.hid hX
  have HO := Lib.hid hO
  have HC := Lib.hid hC
  have HB := Lib.hid hB
  have HK := Lib.hid kr
  have hszK := kr.lt
  clear hl hO hC hB kr hS hX
  by_cases hlt : (k : Int) < V ∧ k < 5
  ·obtain ⟨h1, h2⟩ := hlt
   go_wp2_with fail
   refine (l1Below_any c _ _ HC.out ⟨by omega, by omega⟩).mono ?_; rintro e w5 ⟨a, ha, ha2, rfl, hb5⟩
   have ha4 : a ≤ 3 := by omega
   have hO5 := HO.out.ckF hb5 (by omega)
   obtain ⟨y, hy⟩ : ∃ y, min (8 - S) (a : Int) = y := ⟨_, rfl⟩
   have hy1 : 0 ≤ y ∧ y ≤ 3 ∧ S + y ≤ 8 := by omega
   have gX := below_alloc w5 (.cells #[.int .i64 y] 3)
   have kX := Blk.new w5 3 #[.int .i64 y]
   have HOX := Lib.hid (hO5.below gX)
   have HKX := Lib.hid kX
   have hs5 := hb5.size
   have HCX := Lib.hid ((Ck.of_below (c := c) gX).keep (hb5.keep HC.out))
   have HBX := Lib.hid ((HB.out.trans hb5).trans (Ck.of_below gX))
   have HKK := Lib.hid ((HK.out.ck hb5 hcw).call gX)
   clear hb5 hO5 gX kX c0
   (go_wp2_with (at_builtin; refine Hold.stop ?_)); unfold Hold
   refine wpList_appI (by rfl) (.tmp 28) (.tmp 30) (by rfl) (w0.heap.size + 1) (w5.alloc (.cells #[.int .i64 y] 3)).heap.size _ l (by rfl) HOX.out (some ⟨w5.heap.size, 0, none⟩) 1 1 [y] (by rfl) rfl (sl_oneF HKX.out ⟨by omega, by omega⟩) (by have := HL.out; simp; omega) (by simp; omega) ?_
   intro v3 w3 ho3 hg3 hv3
   have hlow : Below (w0.heap.size + 1) (w5.alloc (.cells #[.int .i64 y] 3)) w3 := below_grown hg3 (fun j hj => (HOX.out.lt j hj).1) (by simp; omega)
   obtain ⟨A3, c3, rfl, _⟩ := ho3.form
   have hl3 : (l ++ [y]).length = k + 1 := by rw [List.length_append, HL.out]; rfl
   rw [hl3] at ho3 ⊢
   have HL3 := Lib.hid hl3
   have HS3 := Lib.hid (show (l ++ [y]).sum = S + y by rw [List.sum_append, HS.out]; simp)
   have HX3 := Lib.hid (show ∀ x ∈ l ++ [y], 0 ≤ x ∧ x ≤ 4 from fun x hx => by
    rcases List.mem_append.1 hx with h | h
    ·exact HX.out x h
    ·obtain rfl := List.mem_singleton.1 h
     omega)
   have HO3 := Lib.hid ho3
   have HC3 := Lib.hid (HCX.out.belowF hlow (by omega))
   have HB3 := Lib.hid (HBX.out.lowF hlow (by omega) (by omega))
   have HK3 := Lib.hid (HKK.out.below hlow (by omega))
   clear ho3 hg3 hv3 hlow hl3
   go_wp2
   go_roundw
   case rel => exact ⟨k + 1, _, S + y, A3, c3, by omega, .inl (by omega), by go_num, by congr 1; omega, HS3.out, by omega, by omega, HX3.out, rfl, HL3.out, HO3.out, HC3.out, HB3.out, HK3.out⟩
   case measure => simp [intOf]; omega
  ·have hP : DmsP V l := ⟨fun h1 h2 => by have := HL.out; omega, by have := HL.out; omega, HX.out, by rw [HS.out]; exact hS8⟩
   have HP := Lib.hid hP
   clear hP
   by_cases hv : (k : Int) < V
   ·have hk5 : ¬ k < 5 := fun h => hlt ⟨hv, h⟩
    clear hlt
    go_wp2
    go_ret
    have h1 := (IntsO.of_own HO.out).widF (lo' := w0.heap.size) (hi' := wr.heap.size) (by omega) (Nat.le_refl _)
    first | exact ⟨_, l, rfl, h1, HP.out, HB.out⟩ | exact ⟨_, rfl, l, h1, HP.out, HB.out⟩ | exact ⟨_, rfl, ⟨l, h1, HP.out⟩, HB.out⟩
   ·clear hlt
    go_wp2
    go_ret
    have h1 := (IntsO.of_own HO.out).widF (lo' := w0.heap.size) (hi' := wr.heap.size) (by omega) (Nat.le_refl _)
    first | exact ⟨_, l, rfl, h1, HP.out, HB.out⟩ | exact ⟨_, rfl, l, h1, HP.out, HB.out⟩ | exact ⟨_, rfl, ⟨l, h1, HP.out⟩, HB.out⟩
theorem blk_apartW {w : World} {g g' : Nat} {t t' : TypeId} {cs cs' : Array Value} (h : Blk w g t cs) (k : Blk w g' t' cs') (ht : t ≠ t') : g ≠ g' := by
 rintro rfl
 unfold Blk at h k
 rw [h] at k
 injection k with k
 injection k with _ k
 exact ht k
def MsOk (ms : List Mx) : Prop := ∀ y ∈ ms, ∃ R C : Nat, y.r = R ∧ y.c = C ∧ R ≤ 4 ∧ C ≤ 4
theorem zms_ok {q : Qv} {d : List Int} (h : areDims q d = true) : MsOk (zms q d q.f.length) := by
 intro m hm
 simp only [zms, List.mem_map, List.mem_range] at hm
 obtain ⟨i, hi, rfl⟩ := hm
 obtain ⟨nf, nt, yf, yt, ef, et, df, dt, _⟩ := rep_at (x := ⟨0, q, d, []⟩) h hi
 obtain ⟨_, _, hd, _⟩ := areDims_t.1 h
 have b1 := hd _ (List.mem_of_getElem? df)
 have b2 := hd _ (List.mem_of_getElem? dt)
 refine ⟨yt.toNat, yf.toNat, ?_, ?_, by omega, by omega⟩
 ·simp only [zmx, List.getD_eq_getElem?_getD, ef, et, Option.getD_some, dAt_of df, dAt_of dt]; omega
 ·simp only [zmx, List.getD_eq_getElem?_getD, ef, et, Option.getD_some, dAt_of df, dAt_of dt]; omega
theorem MsOk.set {ms : List Mx} (h : MsOk ms) (i : Nat) {R C : Nat} (l : List Int) (hR : R ≤ 4) (hC : C ≤ 4) : MsOk (ms.set i ⟨R, C, l⟩) := fun y hy => by
 rcases List.mem_or_eq_of_mem_set hy with hy | rfl
 ·exact h y hy
 ·exact ⟨R, C, rfl, rfl, hR, hC⟩
def OfP (c lo : Nat) (w0 : World) (e : Ending) (w' : World) : Prop := ∃ (v : Value) (x : Rp) (lo' : Nat), e = .returned v ∧ RepI w' lo' w'.heap.size v x ∧ Sep3 v ∧ x.d.length ≤ 5 ∧ lo ≤ lo' ∧ Ck c w0 w'
set_option maxHeartbeats 6400000 in
set_option maxRecDepth 100000 in
theorem l8Of_any (c : Nat) (p : Int) (v : Value) (q : Qv) (most lo hi : Nat) (w0 : World) (hc : Cur w0 c) (hp : I64 p) (hq : QuivI w0 lo hi v q) (hclo : c < lo) (hhi : hi ≤ w0.heap.size) (hlh : lo ≤ hi) (hm : most ≤ 3) :
  Calls Tryz.prog 77 #[.pointer (some ⟨c, 0, none⟩), .int .i64 p, v, .int .i64 most] w0 fun e w' => OfP c lo w0 e w' := by
 have hcl := hc.ltF
 have hrd := hq.rd
 obtain ⟨a, b, rfl, ha, hb, hV⟩ := hq
 obtain ⟨A, ca, rfl⟩ := ha.form
 obtain ⟨C, cb, rfl⟩ := hb.form
 obtain ⟨W, hW⟩ : ∃ W, W = (w0.alloc (.cells #[.int .i64 q.v, .slice A q.f.length ca, .slice C q.t.length cb] 28)).alloc (.cells #[.int .i64 0, .int .i64 0, .slice none 0 0, .slice none 0 0, .slice none 0 0, .slice none 0 0] 31) := ⟨_, rfl⟩
 have g0 : Below w0.heap.size w0 W := by rw [hW]; exact ((Below.refl _ _).alloc (Nat.le_refl _) _).alloc (by simp) _
 have k1 : Blk W w0.heap.size 28 #[.int .i64 q.v, .slice A q.f.length ca, .slice C q.t.length cb] := by rw [hW]; exact (Blk.new _ _ _).alloc _
 have k2 : Blk W (w0.heap.size + 1) 31 #[.int .i64 0, .int .i64 0, .slice none 0 0, .slice none 0 0, .slice none 0 0, .slice none 0 0] := by
  rw [hW]
  have := Blk.new (w0.alloc (.cells #[.int .i64 q.v, .slice A q.f.length ca, .slice C q.t.length cb] 28)) 31 #[.int .i64 0, .int .i64 0, .slice none 0 0, .slice none 0 0, .slice none 0 0, .slice none 0 0]
  simpa only [World.size_alloc] using this
 have sW : W.heap.size = w0.heap.size + 1 + 1 := by rw [hW]; simp
 have HQW := Lib.hid (QvR.next g0 hrd)
 have HA := Lib.hid (ha.below g0)
 have HB := Lib.hid (hb.below g0)
 have HCW := Lib.hid ((Ck.of_below (c := c) g0).keep hc)
 have G0 := Lib.hid (Ck.of_below (c := c) g0)
 have K1 := Lib.hid k1
 have K2 := Lib.hid k2
 have hcw : w0.heap.size ≠ c := by omega
 have hcw1 : w0.heap.size + 1 ≠ c := by omega
 clear ha hb g0 hc hrd
 go_enter Tryz.func77, Tryz.ntmps77
 have c0 := k1.cell' (i := 0) rfl
 have c1 := k1.cell' (i := 1) rfl
 have c2 := k1.cell' (i := 2) rfl
 clear k1 k2
 go_wp2_with fail
 rw [← hW]; clear hW
 refine (specIsQuiver_any _ q _ HQW.out).mono ?_; rintro e w1 ⟨rfl, hb1⟩
 have hs1 := hb1.size
 have HK1 := Lib.hid (K1.out.call hb1)
 have HK2 := Lib.hid (K2.out.call hb1)
 have HC1 := Lib.hid ((Ck.of_below (c := c) hb1).keep HCW.out)
 have HB1 := Lib.hid (G0.out.trans (Ck.of_below hb1))
 have HA1 := Lib.hid (HA.out.below hb1)
 have HT1 := Lib.hid (HB.out.below hb1)
 have HQ1 := Lib.hid (QvR.next hb1 HQW.out)
 clear hb1 c0 c1 c2
 have c0 := HK1.out.cell' (i := 0) rfl
 have c1 := HK1.out.cell' (i := 1) rfl
 have c2 := HK1.out.cell' (i := 2) rfl
 rcases hiq : isQ q with _ | _
 ·have kz := HK2.out
  have fr := kz.frozen
  have r0 := kz.cell' (i := 0) rfl
  have r1 := kz.cell' (i := 1) rfl
  have r2 := kz.cell' (i := 2) rfl
  have r3 := kz.cell' (i := 3) rfl
  have r4 := kz.cell' (i := 4) rfl
  have r5 := kz.cell' (i := 5) rfl
  have hc6 := chg6 w1 (w0.heap.size + 1) (.int .i64 p) (.int .i64 q.v) (.slice A q.f.length ca) (.slice C q.t.length cb) (.slice none 0 0) (.slice none 0 0)
  have hR : RepI w1 lo hi (.agg #[.int .i64 p, .int .i64 q.v, .slice A q.f.length ca, .slice C q.t.length cb, .slice none 0 0, .slice none 0 0]) ⟨p, q, [], []⟩ :=
   ⟨_, _, _, _, [], hi, rfl, HA1.out, HT1.out, ⟨OwnI.nil _ _, by simp [Value.ownBlock]⟩, RowO.nil _ w1 lo hi, rfl, ⟨fun p hp => by simp at hp, by simp⟩, ⟨hlh, Nat.le_refl _⟩, ⟨hp, hV⟩, fun m hm => by simp at hm⟩
  have OF := Lib.hid ((hR.chg hc6 (.inl (by omega))).wider (Nat.le_refl _) (by simp; omega : hi ≤ ((((((w1.setCell ⟨w0.heap.size + 1, 0, none⟩ (.int .i64 p)).setCell ⟨w0.heap.size + 1, 1, none⟩ (.int .i64 q.v)).setCell ⟨w0.heap.size + 1, 2, none⟩ (.slice A q.f.length ca)).setCell ⟨w0.heap.size + 1, 3, none⟩ (.slice C q.t.length cb)).setCell ⟨w0.heap.size + 1, 4, none⟩ (.slice none 0 0)).setCell ⟨w0.heap.size + 1, 5, none⟩ (.slice none 0 0)).heap.size))
  have HS := Lib.hid (show Sep3 (.agg #[.int .i64 p, .int .i64 q.v, .slice A q.f.length ca, .slice C q.t.length cb, .slice none 0 0, .slice none 0 0]) from ⟨_, _, _, _, _, _, hi, rfl, fun k h => HA1.out.2 k h, fun k h => HT1.out.2 k h, fun k h => by simp [Value.ownBlock] at h⟩)
  have GS := Lib.hid (HB1.out.lowF (lo := w0.heap.size) (hc6.below (by omega) (by omega)) (Nat.le_refl _) (by omega))
  clear hc6 kz hR
  go_wp2
  refine bodyPost_ret (v := .agg #[.int .i64 p, .int .i64 q.v, .slice A q.f.length ca, .slice C q.t.length cb, .slice none 0 0, .slice none 0 0]) (by simp [results, go_sem, r0, r1, r2, r3, r4, r5]) rfl ?_
  unfold OfP
  exact ⟨_, ⟨p, q, [], []⟩, lo, rfl, OF.out, HS.out, Nat.zero_le _, Nat.le_refl _, GS.out⟩
 ·go_wp2_with fail
  clear c0 c1 c2
  have hqt := (isQ_t.1 hiq).1
  have hq6 : q.f.length ≤ 6 := (isQ_t.1 hiq).2.2.1
  have HIQ := Lib.hid hiq
  clear hiq
  obtain ⟨wx, hwx⟩ : ∃ z, z = w1 := ⟨_, rfl⟩
  subst hwx
  refine wp_region_netK (c) (by kernel_rfl) [.eq (.int .i64 p), .eq (.agg #[.int .i64 q.v, .slice A q.f.length ca, .slice C q.t.length cb]), .eq (.pointer (some ⟨c, 0, none⟩)), .eq (.agg #[.int .i64 q.v, .slice A q.f.length ca, .slice C q.t.length cb]), .eq (.int .i64 most), rel 5 (fun u lo hi w => ∃ l, IntsO w lo hi u l ∧ DmsP q.v l ∧ c < lo), rel 6 (fun u lo hi w => ∃ l, RepI w lo hi u (zRep p q l) ∧ Sep3 u ∧ areDims q l = true ∧ c < lo), rel 7 (fun u lo hi w => ∃ g, u = .pointer (some ⟨g, 0, none⟩) ∧ Blk w g 31 #[.int .i64 0, .int .i64 0, .slice none 0 0, .slice none 0 0, .slice none 0 0, .slice none 0 0] ∧ lo ≤ g ∧ g < hi ∧ c < g)] [[], [], [], [], [], [2, 3, 4], [0, 1, 2, 3, 4, 5], [], [0, 1, 2, 3, 4, 5, 6, 7]] 8 (by kernel_rfl) ⟨trivial, trivial, trivial, trivial, trivial, rel_stableK (fun u lo hi w w' ⟨l, h1, h2, h3⟩ hb => ⟨l, h1.ckF hb h3, h2, h3⟩), rel_stableK (fun u lo hi w w' ⟨l, h1, h2, h3, h4⟩ hb => ⟨l, h1.chg hb.chg (.inr (by omega)), h2, h3, h4⟩), rel_stableK (fun u lo hi w w' ⟨g, h1, h2, h3, h4, h5⟩ hb => ⟨g, h1, h2.ck hb (by omega), h3, h4, h5⟩), trivial⟩ ⟨?_, ?_, ?_, ?_, ?_, ?_, ?_, ?_, trivial⟩ ?_
  ·intro x w hb hk Q' hQ
   clear hk
   simp only [netE] at hQ ⊢
   go_wp2
   exact hQ (.int .i64 p) _ (Ck.refl _ _) rfl
  ·intro x w hb hk Q' hQ
   clear hk
   simp only [netE] at hQ ⊢
   have z0 := (HK1.out.ck hb hcw).cell' (i := 0) rfl
   have z1 := (HK1.out.ck hb hcw).cell' (i := 1) rfl
   have z2 := (HK1.out.ck hb hcw).cell' (i := 2) rfl
   go_wp2
   exact hQ (.agg #[.int .i64 q.v, .slice A q.f.length ca, .slice C q.t.length cb]) _ (Ck.refl _ _) rfl
  ·intro x w hb hk Q' hQ
   clear hk
   simp only [netE] at hQ ⊢
   go_wp2
   exact hQ (.pointer (some ⟨c, 0, none⟩)) _ (Ck.refl _ _) rfl
  ·intro x w hb hk Q' hQ
   clear hk
   simp only [netE] at hQ ⊢
   have z0 := (HK1.out.ck hb hcw).cell' (i := 0) rfl
   have z1 := (HK1.out.ck hb hcw).cell' (i := 1) rfl
   have z2 := (HK1.out.ck hb hcw).cell' (i := 2) rfl
   go_wp2
   exact hQ (.agg #[.int .i64 q.v, .slice A q.f.length ca, .slice C q.t.length cb]) _ (Ck.refl _ _) rfl
  ·intro x w hb hk Q' hQ
   clear hk
   simp only [netE] at hQ ⊢
   go_wp2
   exact hQ (.int .i64 most) _ (Ck.refl _ _) rfl
  ·intro x w hb hk Q' hQ
   have h2 : x.v 2 = _ := (hk 2 (by decide)).1
   have h3 : x.v 3 = _ := (hk 3 (by decide)).1
   have h4 : x.v 4 = _ := (hk 4 (by decide)).1
   clear hk
   simp only [netE] at hQ ⊢
   simp only [h2, h3, h4] at hQ ⊢
   clear h2 h3 h4
   have hcw9 := (hb.keep HC1.out).ltF
   go_wp2_with fail
   refine (l8Dims_any c q.v A C _ ca _ cb most _ (hb.keep HC1.out) hV hm).mono ?_; rintro e w7 ⟨v7, l7, rfl, hI7, hP7, hb7⟩
   go_wp2
   exact hQ _ _ hb7 ⟨l7, hI7, hP7, hcw9⟩
  ·intro x w hb hk Q' hQ
   have h0 : x.v 0 = _ := (hk 0 (by decide)).1
   have h1 : x.v 1 = _ := (hk 1 (by decide)).1
   have h2 : x.v 2 = _ := (hk 2 (by decide)).1
   have h3 : x.v 3 = _ := (hk 3 (by decide)).1
   have h4 : x.v 4 = _ := (hk 4 (by decide)).1
   have h5 : ∃ l, IntsO w (x.lo 5) (x.hi 5) (x.v 5) l ∧ DmsP q.v l ∧ c < (x.lo 5) := (hk 5 (by decide)).1
   have s5 := (hk 5 (by decide)).2
   clear hk
   simp only [netE] at hQ ⊢
   simp only [h0, h1, h2, h3, h4] at hQ ⊢
   clear h0 h1 h2 h3 h4
   obtain ⟨l, hl, hP, _⟩ := h5
   obtain ⟨z5, hz5⟩ : ∃ z, x.v 5 = z := ⟨_, rfl⟩
   rw [hz5] at hl hQ ⊢
   clear hz5
   have hcw9 := (hb.keep HC1.out).ltF
   have hd := hP.dims HIQ.out (by omega) hqt.2
   have hqw : QuivI w lo hi (.agg #[.int .i64 q.v, .slice A q.f.length ca, .slice C q.t.length cb]) q := ⟨_, _, rfl, HA1.out.ckF hb hclo, HT1.out.ckF hb hclo, hV⟩
   go_wp2_with fail
   refine (l8Zero_any2 p _ _ q l _ hp hqw.rd hl.rd hd).mono ?_; rintro e w7 ⟨v7, rfl, hR7, hS7, hb7⟩
   go_wp2
   exact hQ _ _ (Ck.of_below hb7) ⟨l, hR7, hS7, hd, hcw9⟩
  ·intro x w hb hk Q' hQ
   clear hk
   simp only [netE] at hQ ⊢
   have hcw9 := (hb.keep HC1.out).ltF
   go_wp2
   exact hQ _ _ (Ck.of_below (below_alloc _ _)) ⟨_, rfl, Blk.new _ _ _, Nat.le_refl _, (show w.heap.size < (w.alloc (.cells #[.int .i64 0, .int .i64 0, .slice none 0 0, .slice none 0 0, .slice none 0 0, .slice none 0 0] 31)).heap.size by simp), hcw9⟩
  ·intro x w hb hk hiv hdj
   have h0 : x.v 0 = .int .i64 p := hk 0 (by decide)
   have h1 : x.v 1 = .agg #[.int .i64 q.v, .slice A q.f.length ca, .slice C q.t.length cb] := hk 1 (by decide)
   have h2 : x.v 2 = .pointer (some ⟨c, 0, none⟩) := hk 2 (by decide)
   have h3 : x.v 3 = .agg #[.int .i64 q.v, .slice A q.f.length ca, .slice C q.t.length cb] := hk 3 (by decide)
   have h4 : x.v 4 = .int .i64 most := hk 4 (by decide)
   have h5 : ∃ l, IntsO w (x.lo 5) (x.hi 5) (x.v 5) l ∧ DmsP q.v l ∧ c < (x.lo 5) := hk 5 (by decide)
   have h6 : ∃ l, RepI w (x.lo 6) (x.hi 6) (x.v 6) (zRep p q l) ∧ Sep3 (x.v 6) ∧ areDims q l = true ∧ c < (x.lo 6) := hk 6 (by decide)
   have h7 : ∃ g, (x.v 7) = .pointer (some ⟨g, 0, none⟩) ∧ Blk w g 31 #[.int .i64 0, .int .i64 0, .slice none 0 0, .slice none 0 0, .slice none 0 0, .slice none 0 0] ∧ (x.lo 7) ≤ g ∧ g < (x.hi 7) ∧ c < g := hk 7 (by decide)
   clear hk
   simp only [netE]
   simp only [List.drop_succ_cons, List.drop_zero, h0, h1, h2, h3, h4]
   clear h0 h1 h2 h3 h4
   obtain ⟨g, e7, hG, hg1, hg2, hgc⟩ := h7
   obtain ⟨l, hR, hS, hd, hcl6⟩ := h6
   obtain ⟨F1, f1, T1, t1, D1, d1, H1, m1, e6⟩ := hR.rd.form
   obtain ⟨z6, hz6⟩ : ∃ z, x.v 6 = z := ⟨_, rfl⟩
   rw [hz6] at hR hS e6 ⊢
   clear hz6
   subst e6
   simp only [zRep, zms_length] at hR hS ⊢
   rw [e7]
   have i6 := hiv 6 (by omega)
   have i7 := hiv 7 (by omega)
   have d67 := hdj 6 7 (by omega) (by omega) (by omega)
   obtain ⟨lo6, hlo6⟩ : ∃ z, x.lo 6 = z := ⟨_, rfl⟩
   obtain ⟨hi6, hhi6⟩ : ∃ z, x.hi 6 = z := ⟨_, rfl⟩
   rw [hlo6] at hR i6 d67 hcl6
   rw [hhi6] at hR i6 d67
   have hsb := hb.size
   have hgx : g < lo6 ∨ hi6 ≤ g := by omega
   have hlo1 : wx.heap.size ≤ lo6 := i6.1
   have hgs : g < w.heap.size := by omega
   have hms := zms_ok hd
   obtain ⟨ms, hmse⟩ : ∃ z, zms q l q.f.length = z := ⟨_, rfl⟩
   have hml : ms.length = q.f.length := by rw [← hmse, zms_length]
   rw [hmse] at hR hms
   obtain ⟨M, hM⟩ : ∃ z, q.f.length = z := ⟨_, rfl⟩
   rw [hM] at hml hq6
   have hch := chg6 w g (.int .i64 p) (.int .i64 q.v) (.slice F1 q.f.length f1) (.slice T1 q.t.length t1) (.slice D1 l.length d1) (.slice H1 q.f.length m1)
   have fr := hG.frozen
   have r0 := hG.cell' (i := 0) rfl
   have r1 := hG.cell' (i := 1) rfl
   have r2 := hG.cell' (i := 2) rfl
   have r3 := hG.cell' (i := 3) rfl
   have r4 := hG.cell' (i := 4) rfl
   have r5 := hG.cell' (i := 5) rfl
   have HDL := Lib.hid (show l.length ≤ 5 by have := (areDims_t.1 hd).2.1; omega)
   rw [hM] at hch ⊢
   obtain ⟨W4, hW4⟩ : ∃ z, (((((w.setCell ⟨g, 0, none⟩ (.int .i64 p)).setCell ⟨g, 1, none⟩ (.int .i64 q.v)).setCell ⟨g, 2, none⟩ (.slice F1 M f1)).setCell ⟨g, 3, none⟩ (.slice T1 q.t.length t1)).setCell ⟨g, 4, none⟩ (.slice D1 l.length d1)).setCell ⟨g, 5, none⟩ (.slice H1 M m1) = z := ⟨_, rfl⟩
   rw [hW4] at hch
   have hG4 : Blk W4 g 31 #[.int .i64 p, .int .i64 q.v, .slice F1 M f1, .slice T1 q.t.length t1, .slice D1 l.length d1, .slice H1 M m1] := by
    rw [← hW4]
    exact ((((((hG.set_ 0 _).set_ 1 _).set_ 2 _).set_ 3 _).set_ 4 _).set_ 5 _)
   have hs4 := hch.size
   rw [hM] at hR
   have hR4 := (hR.chg hch (by omega)).wider (Nat.le_refl _) (by omega : hi6 ≤ W4.heap.size)
   have hB4 := ((HB1.out.trans hb).lowF (lo := w0.heap.size) (hch.below (by omega) (by omega)) (Nat.le_refl _) (by omega))
   have hC4 := (hb.keep HC1.out).belowF (hch.below (Nat.le_refl g) (Nat.le_of_lt hgs)) hgc
   have hK4 := (HK2.out.ck hb hcw1).chg hch (.inl (by omega))
   have HG4 := Lib.hid hG4
   have HR4 := Lib.hid hR4
   have HB4 := Lib.hid hB4
   have HC4 := Lib.hid hC4
   have HK4 := Lib.hid hK4
   have HMS := Lib.hid (And.intro hml hms)
   have HSS := Lib.hid hS
   have hg4 : g < W4.heap.size := by omega
   have hlo60 : w0.heap.size + 1 < lo6 := by omega
   clear hG4 hR4 hB4 hC4 hK4 hch hR hS hd hiv hdj i6 i7 d67 hb hG hmse hml hms hlo6 hhi6 e7
   obtain ⟨tn, htn⟩ : ∃ z, q.t.length = z := ⟨_, rfl⟩
   obtain ⟨dn, hdn⟩ : ∃ z, l.length = z := ⟨_, rfl⟩
   rw [htn, hdn] at hW4 HG4 HR4 HSS ⊢
   rw [hM] at HSS
   clear hM htn hdn
   go_wp2
   clear hW4 r0 r1 r2 r3 r4 r5 fr
   go_loopw [10] (fun iv wr => ∃ (i : Nat) (ms : List Mx), i ≤ M ∧ iv = .int .i64 i ∧ ms.length = M ∧ MsOk ms ∧ g < wr.heap.size ∧ RepI wr lo6 wr.heap.size (.agg #[.int .i64 p, .int .i64 q.v, .slice F1 M f1, .slice T1 tn t1, .slice D1 dn d1, .slice H1 M m1]) ⟨p, q, l, ms⟩ ∧ Blk wr g 31 #[.int .i64 p, .int .i64 q.v, .slice F1 M f1, .slice T1 tn t1, .slice D1 dn d1, .slice H1 M m1] ∧ Blk wr (w0.heap.size + 1) 31 #[.int .i64 0, .int .i64 0, .slice none 0 0, .slice none 0 0, .slice none 0 0, .slice none 0 0] ∧ Cur wr c ∧ Ck c w0 wr) (fun iv _ => M - (intOf iv).toNat)
   case atStart => exact ⟨0, ms, Nat.zero_le _, rfl, HMS.out.1, HMS.out.2, hg4, HR4.out, HG4.out, HK4.out, HC4.out, HB4.out⟩
   case round =>
    clear HR4 HG4 HK4 HC4 HB4 HMS hg4
    obtain ⟨i, ms2, hi2, rfl, hml, hms, hgr, hR, hG, hK, hC, hB⟩ := hrel
    have HR := Lib.hid hR
    have HG := Lib.hid hG
    have HK := Lib.hid hK
    have HC := Lib.hid hC
    have HB := Lib.hid hB
    have HML := Lib.hid hml
    have HMS := Lib.hid hms
    have q5 := hG.cell' (i := 5) rfl
    have hgc2 : g ≠ c := by omega
    clear hR hG hK hC hB
    by_cases hlt : i < M
    ·obtain ⟨y, hy⟩ : ∃ y, ms2[i]? = some y := ⟨_, List.getElem?_eq_getElem (by omega)⟩
     obtain ⟨R, Q, hyr, hyc, hR4, hQ4⟩ := hms y (List.mem_of_getElem? hy)
     obtain ⟨gH, cH, sH, eH, hgH1, hgH2, z0, z1, z2, _, hfz⟩ := HR.out.mxAt hy
     simp only [Value.slice.injEq] at eH
     obtain ⟨rfl, hMM, rfl⟩ := eH
     clear hMM
     rw [hyr] at z0
     rw [hyc] at z1
     have HY := Lib.hid hy
     have Z0 := Lib.hid z0
     have Z1 := Lib.hid z1
     have hgHc : gH ≠ c := by omega
     clear hy hyr hyc z0 z1 z2 hfz hms hml
     go_wp2
     clear q5
     refine wp_region_netK (c) (by kernel_rfl) [.eq (.pointer (some ⟨g, 5, none⟩)), .eq (.slice (some ⟨gH, 0, none⟩) M m1), .eq (.int .i64 i), .eq (.pointer (some ⟨c, 0, none⟩)), .eq (.int .i64 p), .eq (.pointer (some ⟨g, 5, none⟩)), .eq (.slice (some ⟨gH, 0, none⟩) M m1), .eq (.int .i64 i), .eq (.pointer (some ⟨gH, i * 3, none⟩)), .eq (.pointer (some ⟨gH, i * 3, none⟩)), .eq (.int .i64 (R : Int)), .eq (.pointer (some ⟨g, 5, none⟩)), .eq (.slice (some ⟨gH, 0, none⟩) M m1), .eq (.int .i64 i), .eq (.pointer (some ⟨gH, i * 3, none⟩)), .eq (.pointer (some ⟨gH, i * 3 + 1, none⟩)), .eq (.int .i64 (Q : Int)), rel 17 (fun u lo hi w => ∃ l7, MxO w lo hi u ⟨(R : Int), (Q : Int), l7⟩ ∧ c < lo), .eq (.pointer (some ⟨gH, i * 3, none⟩))] [[], [0], [], [], [], [], [5], [], [5, 6, 7], [5, 6, 7, 8], [5, 6, 7, 8, 9], [], [11], [], [11, 12, 13], [11, 12, 13, 14], [11, 12, 13, 14, 15], [3, 4, 5, 6, 7, 8, 9, 10, 11, 12, 13, 14, 15, 16], [0, 1, 2, 3, 4, 5, 6, 7, 8, 9, 10, 11, 12, 13, 14, 15, 16, 17], [0, 1, 2, 3, 4, 5, 6, 7, 8, 9, 10, 11, 12, 13, 14, 15, 16, 17, 18]] 19 (by kernel_rfl) ⟨trivial, trivial, trivial, trivial, trivial, trivial, trivial, trivial, trivial, trivial, trivial, trivial, trivial, trivial, trivial, trivial, trivial, rel_stableK (fun u lo hi w w' ⟨l7, h1, h2⟩ hb => ⟨l7, h1.chg hb.chg (.inr (by omega)), h2⟩), trivial, trivial⟩ ⟨?_, ?_, ?_, ?_, ?_, ?_, ?_, ?_, ?_, ?_, ?_, ?_, ?_, ?_, ?_, ?_, ?_, ?_, ?_, trivial⟩ ?_
     ·intro x w hb hk Q' hQ
      clear hk
      simp only [netE] at hQ ⊢
      go_wp2
      exact hQ (.pointer (some ⟨g, 5, none⟩)) _ (Ck.refl _ _) rfl
     ·intro x w hb hk Q' hQ
      have h0 : x.v 0 = _ := (hk 0 (by decide)).1
      clear hk
      simp only [netE] at hQ ⊢
      simp only [h0] at hQ ⊢
      clear h0
      have z := (HG.out.ck hb hgc2).cell' (i := 5) rfl
      go_wp2
      exact hQ (.slice (some ⟨gH, 0, none⟩) M m1) _ (Ck.refl _ _) rfl
     ·intro x w hb hk Q' hQ
      clear hk
      simp only [netE] at hQ ⊢
      go_wp2
      exact hQ (.int .i64 i) _ (Ck.refl _ _) rfl
     ·intro x w hb hk Q' hQ
      clear hk
      simp only [netE] at hQ ⊢
      go_wp2
      exact hQ (.pointer (some ⟨c, 0, none⟩)) _ (Ck.refl _ _) rfl
     ·intro x w hb hk Q' hQ
      clear hk
      simp only [netE] at hQ ⊢
      go_wp2
      exact hQ (.int .i64 p) _ (Ck.refl _ _) rfl
     ·intro x w hb hk Q' hQ
      clear hk
      simp only [netE] at hQ ⊢
      go_wp2
      exact hQ (.pointer (some ⟨g, 5, none⟩)) _ (Ck.refl _ _) rfl
     ·intro x w hb hk Q' hQ
      have h5 : x.v 5 = _ := (hk 5 (by decide)).1
      clear hk
      simp only [netE] at hQ ⊢
      simp only [h5] at hQ ⊢
      clear h5
      have z := (HG.out.ck hb hgc2).cell' (i := 5) rfl
      go_wp2
      exact hQ (.slice (some ⟨gH, 0, none⟩) M m1) _ (Ck.refl _ _) rfl
     ·intro x w hb hk Q' hQ
      clear hk
      simp only [netE] at hQ ⊢
      go_wp2
      exact hQ (.int .i64 i) _ (Ck.refl _ _) rfl
     ·intro x w hb hk Q' hQ
      have h6 : x.v 6 = _ := (hk 6 (by decide)).1
      have h7 : x.v 7 = _ := (hk 7 (by decide)).1
      clear hk
      simp only [netE] at hQ ⊢
      simp only [h6, h7] at hQ ⊢
      clear h6 h7
      go_wp2
      exact hQ (.pointer (some ⟨gH, i * 3, none⟩)) _ (Ck.refl _ _) rfl
     ·intro x w hb hk Q' hQ
      have h8 : x.v 8 = _ := (hk 8 (by decide)).1
      clear hk
      simp only [netE] at hQ ⊢
      simp only [h8] at hQ ⊢
      clear h8
      go_wp2
      exact hQ (.pointer (some ⟨gH, i * 3, none⟩)) _ (Ck.refl _ _) rfl
     ·intro x w hb hk Q' hQ
      have h9 : x.v 9 = _ := (hk 9 (by decide)).1
      clear hk
      simp only [netE] at hQ ⊢
      simp only [h9] at hQ ⊢
      clear h9
      have z := hb.cell hgH2 hgHc Z0.out
      go_wp2
      exact hQ (.int .i64 (R : Int)) _ (Ck.refl _ _) rfl
     ·intro x w hb hk Q' hQ
      clear hk
      simp only [netE] at hQ ⊢
      go_wp2
      exact hQ (.pointer (some ⟨g, 5, none⟩)) _ (Ck.refl _ _) rfl
     ·intro x w hb hk Q' hQ
      have h11 : x.v 11 = _ := (hk 11 (by decide)).1
      clear hk
      simp only [netE] at hQ ⊢
      simp only [h11] at hQ ⊢
      clear h11
      have z := (HG.out.ck hb hgc2).cell' (i := 5) rfl
      go_wp2
      exact hQ (.slice (some ⟨gH, 0, none⟩) M m1) _ (Ck.refl _ _) rfl
     ·intro x w hb hk Q' hQ
      clear hk
      simp only [netE] at hQ ⊢
      go_wp2
      exact hQ (.int .i64 i) _ (Ck.refl _ _) rfl
     ·intro x w hb hk Q' hQ
      have h12 : x.v 12 = _ := (hk 12 (by decide)).1
      have h13 : x.v 13 = _ := (hk 13 (by decide)).1
      clear hk
      simp only [netE] at hQ ⊢
      simp only [h12, h13] at hQ ⊢
      clear h12 h13
      go_wp2
      exact hQ (.pointer (some ⟨gH, i * 3, none⟩)) _ (Ck.refl _ _) rfl
     ·intro x w hb hk Q' hQ
      have h14 : x.v 14 = _ := (hk 14 (by decide)).1
      clear hk
      simp only [netE] at hQ ⊢
      simp only [h14] at hQ ⊢
      clear h14
      go_wp2
      exact hQ (.pointer (some ⟨gH, i * 3 + 1, none⟩)) _ (Ck.refl _ _) rfl
     ·intro x w hb hk Q' hQ
      have h15 : x.v 15 = _ := (hk 15 (by decide)).1
      clear hk
      simp only [netE] at hQ ⊢
      simp only [h15] at hQ ⊢
      clear h15
      have z := hb.cell hgH2 hgHc Z1.out
      go_wp2
      exact hQ (.int .i64 (Q : Int)) _ (Ck.refl _ _) rfl
     ·intro x w hb hk Q' hQ
      have h3 : x.v 3 = _ := (hk 3 (by decide)).1
      have h4 : x.v 4 = _ := (hk 4 (by decide)).1
      have h5 : x.v 5 = _ := (hk 5 (by decide)).1
      have h6 : x.v 6 = _ := (hk 6 (by decide)).1
      have h7 : x.v 7 = _ := (hk 7 (by decide)).1
      have h8 : x.v 8 = _ := (hk 8 (by decide)).1
      have h9 : x.v 9 = _ := (hk 9 (by decide)).1
      have h10 : x.v 10 = _ := (hk 10 (by decide)).1
      have h11 : x.v 11 = _ := (hk 11 (by decide)).1
      have h12 : x.v 12 = _ := (hk 12 (by decide)).1
      have h13 : x.v 13 = _ := (hk 13 (by decide)).1
      have h14 : x.v 14 = _ := (hk 14 (by decide)).1
      have h15 : x.v 15 = _ := (hk 15 (by decide)).1
      have h16 : x.v 16 = _ := (hk 16 (by decide)).1
      clear hk
      simp only [netE] at hQ ⊢
      simp only [h3, h4, h5, h6, h7, h8, h9, h10, h11, h12, h13, h14, h15, h16] at hQ ⊢
      clear h3 h4 h5 h6 h7 h8 h9 h10 h11 h12 h13 h14 h15 h16
      have hcw9 := (hb.keep HC.out).ltF
      go_wp2_with fail
      refine (l3Random_any c p R Q _ (hb.keep HC.out) hp (by omega) (by omega)).mono ?_; rintro e w7 ⟨v7, l7, rfl, hM7, _, _, hb7⟩
      go_wp2
      exact hQ _ _ hb7 ⟨l7, hM7.wider (Nat.le_succ _) (Nat.le_refl _), hcw9⟩
     ·intro x w hb hk Q' hQ
      have h1 : x.v 1 = _ := (hk 1 (by decide)).1
      have h2 : x.v 2 = _ := (hk 2 (by decide)).1
      clear hk
      simp only [netE] at hQ ⊢
      simp only [h1, h2] at hQ ⊢
      clear h1 h2
      go_wp2
      exact hQ (.pointer (some ⟨gH, i * 3, none⟩)) _ (Ck.refl _ _) rfl
     ·intro x w hb hk hiv hdj
      have h0 : x.v 0 = .pointer (some ⟨g, 5, none⟩) := hk 0 (by decide)
      have h1 : x.v 1 = .slice (some ⟨gH, 0, none⟩) M m1 := hk 1 (by decide)
      have h2 : x.v 2 = .int .i64 i := hk 2 (by decide)
      have h3 : x.v 3 = .pointer (some ⟨c, 0, none⟩) := hk 3 (by decide)
      have h4 : x.v 4 = .int .i64 p := hk 4 (by decide)
      have h5 : x.v 5 = .pointer (some ⟨g, 5, none⟩) := hk 5 (by decide)
      have h6 : x.v 6 = .slice (some ⟨gH, 0, none⟩) M m1 := hk 6 (by decide)
      have h7 : x.v 7 = .int .i64 i := hk 7 (by decide)
      have h8 : x.v 8 = .pointer (some ⟨gH, i * 3, none⟩) := hk 8 (by decide)
      have h9 : x.v 9 = .pointer (some ⟨gH, i * 3, none⟩) := hk 9 (by decide)
      have h10 : x.v 10 = .int .i64 (R : Int) := hk 10 (by decide)
      have h11 : x.v 11 = .pointer (some ⟨g, 5, none⟩) := hk 11 (by decide)
      have h12 : x.v 12 = .slice (some ⟨gH, 0, none⟩) M m1 := hk 12 (by decide)
      have h13 : x.v 13 = .int .i64 i := hk 13 (by decide)
      have h14 : x.v 14 = .pointer (some ⟨gH, i * 3, none⟩) := hk 14 (by decide)
      have h15 : x.v 15 = .pointer (some ⟨gH, i * 3 + 1, none⟩) := hk 15 (by decide)
      have h16 : x.v 16 = .int .i64 (Q : Int) := hk 16 (by decide)
      have h17 : ∃ l7, MxO w (x.lo 17) (x.hi 17) (x.v 17) ⟨(R : Int), (Q : Int), l7⟩ ∧ c < (x.lo 17) := hk 17 (by decide)
      have h18 : x.v 18 = .pointer (some ⟨gH, i * 3, none⟩) := hk 18 (by decide)
      clear hk
      simp only [netE]
      simp only [List.drop_succ_cons, List.drop_zero, h0, h1, h2, h3, h4, h5, h6, h7, h8, h9, h10, h11, h12, h13, h14, h15, h16, h18]
      clear h0 h1 h2 h3 h4 h5 h6 h7 h8 h9 h10 h11 h12 h13 h14 h15 h16 h18
      obtain ⟨l7, hM7, _⟩ := h17
      obtain ⟨AM, am, e17⟩ := hM7.form
      simp only at e17
      obtain ⟨ml, hml7⟩ : ∃ z, l7.length = z := ⟨_, rfl⟩
      rw [hml7] at e17
      rw [e17] at hM7 ⊢
      have i17 := hiv 17 (by omega)
      have hOw := HR.out.chg hb.chg (.inr (by omega))
      have hml2 := HML.out
      have hsb := hb.size
      have hset := RepI.setMx hOw (j := i) (by show i < ms2.length; omega) hM7 i17.1 i17.2.1
      obtain ⟨W14, hW14⟩ : ∃ u, set3 w gH (i * 3) (.int .i64 (R : Int)) (.int .i64 (Q : Int)) (.slice AM ml am) = u := ⟨_, rfl⟩
      rw [hW14] at hset
      have hch3 : Chg gH (gH + 1) w W14 := by rw [← hW14]; exact chg_set3 _ _ _ _ _ _
      have hs14 : W14.heap.size = w.heap.size := by rw [← hW14]; simp
      have hgHg : gH ≠ g := by
       obtain ⟨cs, hbk, _⟩ := HR.out.blk
       exact blk_apartW hbk HG.out (by decide)
      have HREP := Lib.hid (hset.1.wider (Nat.le_refl _) (by omega : x.hi 17 ≤ W14.heap.size))
      have hlow := hch3.below (B := lo6) hgH1 (by omega)
      have HG14 := Lib.hid ((HG.out.ck hb hgc2).chg hch3 (by omega))
      have HK14 := Lib.hid ((HK.out.ck hb hcw1).chg hch3 (.inl (by omega)))
      have HC14 := Lib.hid ((hb.keep HC.out).belowF hlow hcl6)
      have HB14 := Lib.hid ((HB.out.trans hb).lowF hlow (by omega) hcl6)
      have hg14 : g < W14.heap.size := by omega
      have HMS2 := Lib.hid (show (ms2.set i ⟨(R : Int), (Q : Int), l7⟩).length = M by rw [List.length_set]; exact hml2)
      have HMO := Lib.hid (HMS.out.set i l7 hR4 hQ4)
      obtain ⟨g0', c0', s0', e0', _, _, z0, z1, z2, _, zf⟩ := hOw.mxAt HY.out
      simp only [Value.slice.injEq, Option.some.injEq, Addr.mk.injEq, and_true, true_and] at e0'
      obtain ⟨eg1, eg3, eg2⟩ := e0'
      clear eg3
      subst eg1
      subst eg2
      replace z0 : ∃ u, w.cell? ⟨gH, i * 3, none⟩ = some u := ⟨_, z0⟩
      replace z1 : ∃ u, w.cell? ⟨gH, i * 3 + 1, none⟩ = some u := ⟨_, z1⟩
      replace z2 : ∃ u, w.cell? ⟨gH, i * 3 + 2, none⟩ = some u := ⟨_, z2⟩
      obtain ⟨u0, z0⟩ := z0
      obtain ⟨u1, z1⟩ := z1
      obtain ⟨u2, z2⟩ := z2
      clear hset hch3 hs14 hOw hiv hdj e17 i17 hM7 hml7 hml2 hlow
      go_wp2
      clear hW14 z0 z1 z2 zf
      go_roundw
      case rel => exact ⟨i + 1, _, by omega, by go_num, HMS2.out, HMO.out, hg14, HREP.out, HG14.out, HK14.out, HC14.out, HB14.out⟩
      case measure => simp [intOf]; omega
    ·obtain rfl : i = M := by omega
     clear q5
     have kz := HK.out
     have fr := kz.frozen
     have s0 := kz.cell' (i := 0) rfl
     have s1 := kz.cell' (i := 1) rfl
     have s2 := kz.cell' (i := 2) rfl
     have s3 := kz.cell' (i := 3) rfl
     have s4 := kz.cell' (i := 4) rfl
     have s5 := kz.cell' (i := 5) rfl
     have r0 := HG.out.cell' (i := 0) rfl
     have r1 := HG.out.cell' (i := 1) rfl
     have r2 := HG.out.cell' (i := 2) rfl
     have r3 := HG.out.cell' (i := 3) rfl
     have r4 := HG.out.cell' (i := 4) rfl
     have r5 := HG.out.cell' (i := 5) rfl
     have hc6 := chg6 wr (w0.heap.size + 1) (.int .i64 p) (.int .i64 q.v) (.slice F1 i f1) (.slice T1 tn t1) (.slice D1 dn d1) (.slice H1 i m1)
     have OF := Lib.hid (HR.out.chg hc6 (.inr (by omega)))
     have hsr := HB.out.size
     have GS := Lib.hid (HB.out.lowF (lo := w0.heap.size) (hc6.below (by omega) (by omega)) (Nat.le_refl _) (by omega))
     have hll : lo ≤ lo6 := by omega
     clear kz hc6 hms hml
     go_wp2
     refine bodyPost_ret (v := .agg #[.int .i64 p, .int .i64 q.v, .slice F1 i f1, .slice T1 tn t1, .slice D1 dn d1, .slice H1 i m1]) (by simp [results, go_sem, s0, s1, s2, s3, s4, s5]) rfl ?_
     unfold OfP
     try simp only [World.size_setCell]
     have OF' := OF.out
     try simp only [World.size_setCell] at OF'
     exact ⟨_, ⟨p, q, l, ms2⟩, lo6, rfl, OF', HSS.out, HDL.out, hll, GS.out⟩
def RepL (w : World) (lo hi : Nat) (v : Value) (x : Rp) : Prop := ∃ f t d m vs, v = .agg #[.int .i64 x.p, .int .i64 x.q.v, f, t, d, m] ∧ IntsO w lo hi f x.q.f ∧ IntsO w lo hi t x.q.t ∧ IntsO w lo hi d x.d ∧ OutM w lo hi m vs x.m ∧ vs.length = x.m.length ∧ (∀ p ∈ vs.zip (x.m.map Mx.a), IntsO w lo hi p.1 p.2) ∧ (I64 x.p ∧ I64 x.q.v) ∧ ∀ m ∈ x.m, I64 m.r ∧ I64 m.c
theorem RepL.rd {w : World} {lo hi : Nat} {v : Value} {x : Rp} (h : RepL w lo hi v x) : RpR w w.heap.size v x := by
 obtain ⟨f, t, d, m, vs, e, h1, h2, h3, h4, h5, h6, h7, h8⟩ := h
 exact ⟨f, t, d, m, e, h1.rd, h2.rd, h3.rd, OutM.rd h4 h5 (fun p hp => (h6 p hp).rd) h8, h7⟩
theorem RepL.chg {w w' : World} {lo hi lo' hi' : Nat} {v : Value} {x : Rp} (h : RepL w lo hi v x) (hc : Chg lo' hi' w w') (hd : hi ≤ lo' ∨ hi' ≤ lo) : RepL w' lo hi v x := by
 obtain ⟨f, t, d, m, vs, e, h1, h2, h3, h4, h5, h6, h7, h8⟩ := h
 exact ⟨f, t, d, m, vs, e, h1.chg hc hd, h2.chg hc hd, h3.chg hc hd, h4.chg hc hd, h5, fun p hp => (h6 p hp).chg hc hd, h7, h8⟩
theorem RepL.wider {w : World} {lo hi lo' hi' : Nat} {v : Value} {x : Rp} (h : RepL w lo hi v x) (k1 : lo' ≤ lo) (k2 : hi ≤ hi') : RepL w lo' hi' v x := by
 obtain ⟨f, t, d, m, vs, e, h1, h2, h3, h4, h5, h6, h7, h8⟩ := h
 exact ⟨f, t, d, m, vs, e, h1.wider k1 k2, h2.wider k1 k2, h3.wider k1 k2, h4.mono k1 k2, h5, fun p hp => (h6 p hp).wider k1 k2, h7, h8⟩
theorem RepI.toL {w : World} {lo hi : Nat} {v : Value} {x : Rp} (h : RepI w lo hi v x) : RepL w lo hi v x := by
 obtain ⟨f, t, d, m, vs, mi, e, h1, h2, h3, h4, h5, h6, h9, h7, h8⟩ := h
 exact ⟨f, t, d, m, vs, e, h1.wider (Nat.le_refl _) h9.2, h2.wider (Nat.le_refl _) h9.2, h3.wider (Nat.le_refl _) h9.2, h4, h5, fun p hp => (h6.1 p hp).wider h9.1 (Nat.le_refl _), h7, h8⟩
theorem RepI.dim {w : World} {lo hi : Nat} {p v f t d m : Value} {x : Rp} (h : RepI w lo hi (.agg #[p, v, f, t, d, m]) x) : IntsO w lo hi d x.d := by
 obtain ⟨f', t', d', m', vs, mi, e, h1, h2, h3, h4, h5, h6, h9, h7, h8⟩ := h
 simp only [Value.agg.injEq, Array.mk.injEq, List.cons.injEq, and_true] at e
 obtain ⟨_, _, rfl, rfl, rfl, rfl⟩ := e
 exact h3.wider (Nat.le_refl _) h9.2
theorem RepI.newD {w w' : World} {lo hi : Nat} {p v f t d m d' : Value} {x : Rp} {l' : List Int} (h : RepI w lo hi (.agg #[p, v, f, t, d, m]) x) (hs : Sep3 (.agg #[p, v, f, t, d, m])) (hg : w.grownBy w' d.ownBlock) (ho : OwnI w' lo d' l') (hlo : hi ≤ w.heap.size) :
  RepL w' lo w'.heap.size (.agg #[p, v, f, t, d', m]) ⟨x.p, x.q, l', x.m⟩ := by
 obtain ⟨f', t', d0, m', vs, mi, e, h1, h2, h3, h4, h5, h6, h9, h7, h8⟩ := h
 simp only [Value.agg.injEq, Array.mk.injEq, List.cons.injEq, and_true] at e
 obtain ⟨rfl, rfl, rfl, rfl, rfl, rfl⟩ := e
 obtain ⟨_, _, f', t', d0, m', m1, e, s1, s2, s3⟩ := hs
 simp only [Value.agg.injEq, Array.mk.injEq, List.cons.injEq, and_true] at e
 obtain ⟨_, _, rfl, rfl, rfl, rfl⟩ := e
 have hsz := hg.size
 have far : ∀ {u : Value}, (∀ k, u.ownBlock = some k → k < m1) → u.ownBlock = none ∨ u.ownBlock ≠ d.ownBlock := fun {u} hu => by
  rcases hk : u.ownBlock with _ | k
  ·exact .inl rfl
  ·refine .inr fun e => ?_
   have := s3 k e.symm
   have := hu k hk
   omega
 refine ⟨f, t, d', m, vs, rfl, ((IntsO.of_own (h1.1.kept hg (far s1)))).wider (Nat.le_refl _) (Nat.le_refl _), ((IntsO.of_own (h2.1.kept hg (far s2)))).wider (Nat.le_refl _) (Nat.le_refl _), IntsO.of_own ho, ?_, h5, fun p hp => ?_, h7, h8⟩
 ·exact (RowO.grown h4 (by decide) h3.1 hg).mono (Nat.le_refl _) (by omega)
 ·have hI := h6.1 p hp
  refine (IntsO.of_own (hI.1.kept hg ?_)).wider h9.1 (Nat.le_refl _)
  rcases hk : p.1.ownBlock with _ | k
  ·exact .inl rfl
  ·refine .inr fun e => ?_
   have a1 := h3.2 k e.symm
   have a2 := (hI.1.lt k hk).1
   omega
theorem RepL.setR {w : World} {lo hi g : Nat} {t : TypeId} {bs : Array Value} {v : Value} {x : Rp} (h : RepL w lo hi v x) (hb : Blk w g t bs) (h1 : 3 ≠ t) (h2 : 44 ≠ t) (i : Nat) (u : Value) : RepL (w.setCell ⟨g, i, none⟩ u) lo hi v x := by
 obtain ⟨f, t', d, m, vs, e, k1, k2, k3, k4, k5, k6, k7, k8⟩ := h
 have st : ∀ {y : Value} {l : List Int}, IntsO w lo hi y l → IntsO (w.setCell ⟨g, i, none⟩ u) lo hi y l := fun h => ⟨h.1.setCell (fun e => h.1.blkne hb h1 e.symm) _, h.2⟩
 exact ⟨f, t', d, m, vs, e, st k1, st k2, st k3, RowO.set k4 hb h2 i u, k5, fun p hp => st (k6 p hp), k7, k8⟩
def AnyP (c : Nat) (w0 : World) (e : Ending) (w' : World) : Prop := ∃ (v : Value) (x : Rp), e = .returned v ∧ RepL w' (w0.heap.size + 1) w'.heap.size v x ∧ Ck c w0 w'
set_option maxHeartbeats 6400000 in
set_option maxRecDepth 100000 in
theorem l8Any_any (c : Nat) (w0 : World) (hc : Cur w0 c) :
  Calls Tryz.prog 76 #[.pointer (some ⟨c, 0, none⟩)] w0 fun e w' => AnyP c w0 e w' := by
 have hcl := hc.ltF
 obtain ⟨W, hW⟩ : ∃ W, W = w0.alloc (.cells #[.int .i64 0, .int .i64 0, .slice none 0 0, .slice none 0 0, .slice none 0 0, .slice none 0 0] 31) := ⟨_, rfl⟩
 have g0 : Ck c w0 W := by rw [hW]; exact Ck.of_below (below_alloc _ _)
 have kR : Blk W w0.heap.size 31 #[.int .i64 0, .int .i64 0, .slice none 0 0, .slice none 0 0, .slice none 0 0, .slice none 0 0] := by rw [hW]; exact Blk.new _ _ _
 have sW : W.heap.size = w0.heap.size + 1 := by rw [hW]; simp
 have hcw : w0.heap.size ≠ c := by omega
 have KR := Lib.hid kR
 have G0 := Lib.hid g0
 have HC := Lib.hid (g0.keep hc)
 clear kR hc g0
 go_enter Tryz.func76, Tryz.ntmps76
 go_wp2_with fail
 rw [← hW]; clear hW
 refine (l2Prime_any c _ HC.out).mono ?_; rintro e w1 ⟨p, rfl, hp, hb1⟩
 have HC1 := Lib.hid (hb1.keep HC.out)
 have hs1 := hb1.size
 have HB1 := Lib.hid hb1
 clear hb1 HC
 go_wp2_with fail
 refine (l6Any_any c _ HC1.out).mono ?_; rintro e w2 ⟨v2, q, rfl, hq, _, _, hb2⟩
 have hcl1 := HC1.out.ltF
 have hs2 := hb2.size
 have HC2 := Lib.hid (hb2.keep HC1.out)
 have HB2 := Lib.hid (HB1.out.trans hb2)
 obtain ⟨av, bv, rfl, hF, hV⟩ := hq
 have ha := hF.1 (av, q.f) (by simp)
 have hb := hF.1 (bv, q.t) (by simp)
 simp only at ha hb
 obtain ⟨A, ca, rfl⟩ := ha.form
 obtain ⟨C, cb, rfl⟩ := hb.form
 clear hF hb2 HC1 HB1
 obtain ⟨W3, hW3⟩ : ∃ z, w2.alloc (.cells #[.int .i64 q.v, .slice A q.f.length ca, .slice C q.t.length cb] 28) = z := ⟨_, rfl⟩
 have ga : Below w2.heap.size w2 W3 := by rw [← hW3]; exact below_alloc _ _
 obtain ⟨gq, hgq⟩ : ∃ z, w2.heap.size = z := ⟨_, rfl⟩
 have kq : Blk W3 gq 28 #[.int .i64 q.v, .slice A q.f.length ca, .slice C q.t.length cb] := by rw [← hW3, ← hgq]; exact Blk.new _ _ _
 have hs3 : W3.heap.size = gq + 1 := by rw [← hW3, ← hgq]; simp
 have HQI := Lib.hid (show QuivI W3 w1.heap.size w2.heap.size (.agg #[.int .i64 q.v, .slice A q.f.length ca, .slice C q.t.length cb]) q from ⟨_, _, rfl, ha.below ga, hb.below ga, hV⟩)
 have HC3 := Lib.hid ((Ck.of_below (c := c) ga).keep HC2.out)
 have HB3 := Lib.hid (HB2.out.trans (Ck.of_below ga))
 have z0 := kq.cell' (i := 0) rfl
 have z1 := kq.cell' (i := 1) rfl
 have z2 := kq.cell' (i := 2) rfl
 clear ha hb ga kq HC2 HB2
 go_wp2_with fail
 try rw [hW3]
 try rw [hgq]
 clear hW3 z0 z1 z2
 refine (l8Of_any c p _ q 2 w1.heap.size w2.heap.size W3 HC3.out hp HQI.out hcl1 (by omega) hs2 (by omega)).mono ?_
 intro e w4 hOf
 unfold OfP at hOf
 obtain ⟨v4, ⟨P, ⟨V, F, T⟩, D, M⟩, lo1, rfl, hR, hS, hD5, hlo1, hb4⟩ := hOf
 obtain ⟨A, a, C, cc, E, ee, H, h, rfl⟩ := hR.rd.form
 simp only at hR hS hD5 ⊢
 obtain ⟨nf, hnf⟩ : ∃ z, F.length = z := ⟨_, rfl⟩
 obtain ⟨nt, hnt⟩ : ∃ z, T.length = z := ⟨_, rfl⟩
 obtain ⟨nd, hnd⟩ : ∃ z, D.length = z := ⟨_, rfl⟩
 obtain ⟨nm, hnm⟩ : ∃ z, M.length = z := ⟨_, rfl⟩
 rw [hnf, hnt, hnd, hnm] at hR hS ⊢
 rw [hnd] at hD5
 have HLD := Lib.hid hnd
 have HLM := Lib.hid hnm
 clear hnf hnt hnd hnm
 have hs4 := hb4.size
 have hC4 := hb4.keep HC3.out
 obtain ⟨W5, hW5⟩ : ∃ z, w4.alloc (.cells #[.int .i64 P, .int .i64 V, .slice A nf a, .slice C nt cc, .slice E nd ee, .slice H nm h] 31) = z := ⟨_, rfl⟩
 have gb : Below w4.heap.size w4 W5 := by rw [← hW5]; exact below_alloc _ _
 obtain ⟨g5, hg5⟩ : ∃ z, w4.heap.size = z := ⟨_, rfl⟩
 have k5 : Blk W5 g5 31 #[.int .i64 P, .int .i64 V, .slice A nf a, .slice C nt cc, .slice E nd ee, .slice H nm h] := by rw [← hW5, ← hg5]; exact Blk.new _ _ _
 have hs5 : W5.heap.size = g5 + 1 := by rw [← hW5, ← hg5]; simp
 have hR5 := hR.below gb
 rw [hg5] at hR5
 have hcl4 := hC4.ltF
 have HC5 := Lib.hid ((Ck.of_below (c := c) gb).keep hC4)
 have HB5 := Lib.hid ((HB3.out.trans hb4).trans (Ck.of_below gb))
 have HG5 := Lib.hid k5
 have HR5 := Lib.hid hR5
 have HS := Lib.hid hS
 have hg5c : g5 ≠ c := by omega
 have hl15 : lo1 ≤ g5 := by
  obtain ⟨_, _, _, _, _, mi, _, _, _, _, _, _, _, hmi, _⟩ := hR5
  omega
 have hw1 : w0.heap.size + 1 ≤ lo1 := by omega
 have hcl1' : c < lo1 := by omega
 clear hR hS hb4 hC4 gb k5 hR5 HC3 HB3 HQI
 go_wp2_with fail
 try rw [hW5]
 try rw [hg5]
 clear hW5 hg5
 refine (l1Below_any c 14 _ HC5.out ⟨by omega, by omega⟩).mono ?_; rintro e w6 ⟨t, ht, _, rfl, hb6⟩
 have HC6 := Lib.hid (hb6.keep HC5.out)
 have HB6 := Lib.hid (HB5.out.trans hb6)
 have HG6 := Lib.hid (HG5.out.ck hb6 hg5c)
 have HR6 := Lib.hid (HR5.out.chg hb6.chg (.inr (by omega)))
 have hs6 := hb6.size
 have hg6 : g5 < w6.heap.size := by omega
 clear hb6 HC5 HB5 HG5 HR5
 by_cases e0 : t = 0
 ·subst e0
  have q4 := HG6.out.cell' (i := 4) rfl
  obtain ⟨W7, hW7⟩ : ∃ z, w6.alloc (.cells #[.int .i64 1] 3) = z := ⟨_, rfl⟩
  have gb : Below w6.heap.size w6 W7 := by rw [← hW7]; exact below_alloc _ _
  have hRb := HR6.out.below gb
  have hko := hRb.dim.1
  have hka := HG6.out.below gb hg6
  have hs7 := gb.size
  have hcl6 := HC6.out.ltF
  have hB7 := HB6.out.trans (Ck.of_below gb)
  have hone : SlI W7 W7.heap.size (.slice (some ⟨w6.heap.size, 0, none⟩) 1 1) [(1 : Int)] := by rw [← hW7]; exact SlI.one w6 _ 1 ⟨by omega, by omega⟩
  have hnd5 := HLD.out
  (go_wp2_with (at_builtin; refine Hold.stop ?_)); unfold Hold
  try rw [hW7]
  refine wpList_appI rfl (.tmp 19) (.tmp 20) rfl lo1 _ (.slice E nd ee) D rfl hko _ _ _ [(1 : Int)] rfl rfl hone (by simp only [List.length_singleton]; omega) (by omega) ?_
  intro v1 w8 ho1 hg1 hv1
  clear hv1 hnd5
  have hk8 := hka.grown hg1 (hko.blkne hka (by decide))
  have hs8 := hg1.size
  have hB8 := hB7.lowF (below_grown hg1 (fun j hj => (hko.lt j hj).1) (by omega : lo1 ≤ W7.heap.size)) (by omega) hcl1'
  have hL8 := hRb.newD HS.out hg1 ho1 (by omega)
  obtain ⟨E1, e1, rfl, _⟩ := ho1.form
  obtain ⟨l1, hl1⟩ : ∃ z, D ++ [(1 : Int)] = z := ⟨_, rfl⟩
  rw [hl1] at ho1 hL8 ⊢
  obtain ⟨n1, hn1⟩ : ∃ n1, l1.length = n1 := ⟨_, rfl⟩
  rw [hn1] at ho1 hL8 ⊢
  have fX := hk8.frozen
  have cX := hk8.cell' (i := 4) rfl
  obtain ⟨W9, hW9⟩ : ∃ z, w8.setCell ⟨g5, 4, none⟩ (.slice E1 n1 e1) = z := ⟨_, rfl⟩
  have hM9 : Blk W9 g5 31 #[.int .i64 P, .int .i64 V, .slice A nf a, .slice C nt cc, .slice E1 n1 e1, .slice H nm h] := by rw [← hW9]; exact hk8.set_ 4 _
  have hch : Chg g5 (g5 + 1) w8 W9 := by rw [← hW9]; exact chg_set (Nat.le_refl _) (Nat.lt_succ_self _)
  have hL9 := hL8.setR hk8 (by decide) (by decide) 4 (.slice E1 n1 e1)
  rw [hW9] at hL9
  have hs9 := hch.size
  have HBF := Lib.hid (hB8.lowF (hch.below (B := lo1) hl15 (by omega)) (by omega) hcl1')
  have HGF := Lib.hid hM9
  have HRF := Lib.hid (hL9.wider (Nat.le_refl _) hs9)
  clear q4 hW7 gb hRb hko hka hone hB7 ho1 hg1 hk8 hB8 hL8 hL9 hch hM9 HC6 HB6 HG6 HR6 hl1 hn1
  have kz := KR.out.ck HBF.out hcw
  have fr := kz.frozen
  have s0 := kz.cell' (i := 0) rfl
  have s1 := kz.cell' (i := 1) rfl
  have s2 := kz.cell' (i := 2) rfl
  have s3 := kz.cell' (i := 3) rfl
  have s4 := kz.cell' (i := 4) rfl
  have s5 := kz.cell' (i := 5) rfl
  have r0 := HGF.out.cell' (i := 0) rfl
  have r1 := HGF.out.cell' (i := 1) rfl
  have r2 := HGF.out.cell' (i := 2) rfl
  have r3 := HGF.out.cell' (i := 3) rfl
  have r4 := HGF.out.cell' (i := 4) rfl
  have r5 := HGF.out.cell' (i := 5) rfl
  have hc6 := chg6 W9 w0.heap.size (.int .i64 P) (.int .i64 V) (.slice A nf a) (.slice C nt cc) (.slice E1 n1 e1) (.slice H nm h)
  have hsr := HBF.out.size
  have OF := Lib.hid ((HRF.out.chg hc6 (.inr (by omega))).wider (by omega : w0.heap.size + 1 ≤ lo1) hc6.size)
  have GS := Lib.hid ((G0.out.trans HBF.out).lowF (lo := w0.heap.size) (hc6.below (Nat.le_refl _) (by omega)) (Nat.le_refl _) hcl)
  clear kz hc6
  go_wp2
  refine bodyPost_ret (v := .agg #[.int .i64 P, .int .i64 V, .slice A nf a, .slice C nt cc, .slice E1 n1 e1, .slice H nm h]) (by simp [results, go_sem, s0, s1, s2, s3, s4, s5]) rfl ?_
  unfold AnyP
  exact ⟨_, ⟨P, ⟨V, F, T⟩, l1, M⟩, rfl, OF.out, GS.out⟩
 ·by_cases e1 : t = 1
  ·subst e1
   have q5 := HG6.out.cell' (i := 5) rfl
   by_cases hz : nm = 0
   ·subst hz
    have HBF := Lib.hid HB6.out
    have HGF := Lib.hid HG6.out
    have HRF := Lib.hid (HR6.out.toL.wider (Nat.le_refl _) (Nat.le_of_lt hg6))
    clear q5
    have kz := KR.out.ck HBF.out hcw
    have fr := kz.frozen
    have s0 := kz.cell' (i := 0) rfl
    have s1 := kz.cell' (i := 1) rfl
    have s2 := kz.cell' (i := 2) rfl
    have s3 := kz.cell' (i := 3) rfl
    have s4 := kz.cell' (i := 4) rfl
    have s5 := kz.cell' (i := 5) rfl
    have r0 := HGF.out.cell' (i := 0) rfl
    have r1 := HGF.out.cell' (i := 1) rfl
    have r2 := HGF.out.cell' (i := 2) rfl
    have r3 := HGF.out.cell' (i := 3) rfl
    have r4 := HGF.out.cell' (i := 4) rfl
    have r5 := HGF.out.cell' (i := 5) rfl
    have hc6 := chg6 w6 w0.heap.size (.int .i64 P) (.int .i64 V) (.slice A nf a) (.slice C nt cc) (.slice E nd ee) (.slice H 0 h)
    have hsr := HBF.out.size
    have OF := Lib.hid ((HRF.out.chg hc6 (.inr (by omega))).wider (by omega : w0.heap.size + 1 ≤ lo1) hc6.size)
    have GS := Lib.hid ((G0.out.trans HBF.out).lowF (lo := w0.heap.size) (hc6.below (Nat.le_refl _) (by omega)) (Nat.le_refl _) hcl)
    clear kz hc6
    go_wp2
    refine bodyPost_ret (v := .agg #[.int .i64 P, .int .i64 V, .slice A nf a, .slice C nt cc, .slice E nd ee, .slice H 0 h]) (by simp [results, go_sem, s0, s1, s2, s3, s4, s5]) rfl ?_
    unfold AnyP
    exact ⟨_, ⟨P, ⟨V, F, T⟩, D, M⟩, rfl, OF.out, GS.out⟩
   ·have hml := HLM.out
    have hpos : 0 < nm := Nat.pos_of_ne_zero hz
    obtain ⟨y, hy⟩ : ∃ y, M[0]? = some y := ⟨_, List.getElem?_eq_getElem (by omega)⟩
    obtain ⟨gH, cH, sH, eH, hgH1, hgH2, _⟩ := HR6.out.mxAt (j := 0) hy
    simp only [Value.slice.injEq] at eH
    obtain ⟨rfl, hMM, rfl⟩ := eH
    clear hMM hml
    have hgHc : gH ≠ c := by omega
    have HY := Lib.hid hy
    clear hy
    go_wp2
    refine wp_region_netK (c) (by kernel_rfl) [.eq (.pointer (some ⟨g5, 5, none⟩)), .eq (.slice (some ⟨gH, 0, none⟩) nm h), .eq (.pointer (some ⟨c, 0, none⟩)), .eq (.int .i64 p), rel 4 (fun u lo hi w => ∃ m2, MxO w lo hi u m2 ∧ c < lo), .eq (.pointer (some ⟨gH, 0, none⟩))] [[], [0], [], [], [2, 3], [0, 1, 2, 3, 4], [0, 1, 2, 3, 4, 5]] 6 (by kernel_rfl) ⟨trivial, trivial, trivial, trivial, rel_stableK (fun u lo hi w w' ⟨m2, h1, h3⟩ hb => ⟨m2, h1.chg hb.chg (.inr (by omega)), h3⟩), trivial, trivial⟩ ⟨?_, ?_, ?_, ?_, ?_, ?_, trivial⟩ ?_
    ·intro x w hb hk Q' hQ
     clear hk
     simp only [netE] at hQ ⊢
     go_wp2
     exact hQ (.pointer (some ⟨g5, 5, none⟩)) _ (Ck.refl _ _) rfl
    ·intro x w hb hk Q' hQ
     have h0 : x.v 0 = _ := (hk 0 (by decide)).1
     clear hk
     simp only [netE] at hQ ⊢
     simp only [h0] at hQ ⊢
     clear h0
     have z := (HG6.out.ck hb hg5c).cell' (i := 5) rfl
     go_wp2
     exact hQ (.slice (some ⟨gH, 0, none⟩) nm h) _ (Ck.refl _ _) rfl
    ·intro x w hb hk Q' hQ
     clear hk
     simp only [netE] at hQ ⊢
     go_wp2
     exact hQ (.pointer (some ⟨c, 0, none⟩)) _ (Ck.refl _ _) rfl
    ·intro x w hb hk Q' hQ
     clear hk
     simp only [netE] at hQ ⊢
     go_wp2
     exact hQ (.int .i64 p) _ (Ck.refl _ _) rfl
    ·intro x w hb hk Q' hQ
     have h2 : x.v 2 = _ := (hk 2 (by decide)).1
     have h3 : x.v 3 = _ := (hk 3 (by decide)).1
     clear hk
     simp only [netE] at hQ ⊢
     simp only [h2, h3] at hQ ⊢
     clear h2 h3
     have hcw9 := (hb.keep HC6.out).ltF
     go_wp2_with fail
     refine (l3Any_any c p _ (hb.keep HC6.out) hp).mono ?_; rintro e w7 ⟨v7, m7, rfl, hM7, hl7, hb7⟩
     go_wp2
     exact hQ _ _ hb7 ⟨m7, hM7.wider (Nat.le_succ _) (Nat.le_refl _), hcw9⟩
    ·intro x w hb hk Q' hQ
     have h1 : x.v 1 = _ := (hk 1 (by decide)).1
     clear hk
     simp only [netE] at hQ ⊢
     simp only [h1] at hQ ⊢
     clear h1
     go_wp2
     exact hQ (.pointer (some ⟨gH, 0, none⟩)) _ (Ck.refl _ _) rfl
    ·intro x w hb hk hiv hdj
     have h0 : x.v 0 = .pointer (some ⟨g5, 5, none⟩) := hk 0 (by decide)
     have h1 : x.v 1 = .slice (some ⟨gH, 0, none⟩) nm h := hk 1 (by decide)
     have h2 : x.v 2 = .pointer (some ⟨c, 0, none⟩) := hk 2 (by decide)
     have h3 : x.v 3 = .int .i64 p := hk 3 (by decide)
     have h4 : ∃ m2, MxO w (x.lo 4) (x.hi 4) (x.v 4) m2 ∧ c < (x.lo 4) := hk 4 (by decide)
     have h5 : x.v 5 = .pointer (some ⟨gH, 0, none⟩) := hk 5 (by decide)
     clear hk
     simp only [netE]
     simp only [List.drop_succ_cons, List.drop_zero, h0, h1, h2, h3, h5]
     clear h0 h1 h2 h3 h5
     obtain ⟨⟨r9, k9, l9⟩, hM9, _⟩ := h4
     obtain ⟨A9, c9, e9⟩ := hM9.form
     simp only at e9
     obtain ⟨n9, hn9⟩ : ∃ n, l9.length = n := ⟨_, rfl⟩
     rw [hn9] at e9
     rw [e9] at hM9 ⊢
     have i4 := hiv 4 (by omega)
     have hOw := HR6.out.chg hb.chg (.inr (by omega))
     have hml2 := HLM.out
     have hsb := hb.size
     have hset := RepI.setMx (hOw.wider (Nat.le_refl _) (Nat.le_of_lt hg6)) (j := 0) (show 0 < M.length by omega) hM9 i4.1 i4.2.1
     rw [Nat.zero_mul] at hset
     obtain ⟨W14, hW14⟩ : ∃ u, set3 w gH 0 (.int .i64 r9) (.int .i64 k9) (.slice A9 n9 c9) = u := ⟨_, rfl⟩
     rw [hW14] at hset
     have hch3 : Chg gH (gH + 1) w W14 := by rw [← hW14]; exact chg_set3 _ _ _ _ _ _
     have hs14 : W14.heap.size = w.heap.size := by rw [← hW14]; simp
     have hlow := hch3.below (B := lo1) hgH1 (by omega)
     obtain ⟨g0', c0', s0', e0', _, _, z0, z1, z2, _, zf⟩ := hOw.mxAt (j := 0) HY.out
     simp only [Value.slice.injEq, Option.some.injEq, Addr.mk.injEq, and_true, true_and] at e0'
     obtain ⟨eg1, eg3, eg2⟩ := e0'
     clear eg3
     subst eg1
     subst eg2
     rw [Nat.zero_mul] at z0 z1 z2
     replace z0 : ∃ u, w.cell? ⟨gH, 0, none⟩ = some u := ⟨_, z0⟩
     replace z1 : ∃ u, w.cell? ⟨gH, 1, none⟩ = some u := ⟨_, z1⟩
     replace z2 : ∃ u, w.cell? ⟨gH, 2, none⟩ = some u := ⟨_, z2⟩
     obtain ⟨u0, z0⟩ := z0
     obtain ⟨u1, z1⟩ := z1
     obtain ⟨u2, z2⟩ := z2
     have HBF := Lib.hid ((HB6.out.trans hb).lowF hlow (by omega) hcl1')
     have HGF := Lib.hid ((HG6.out.ck hb hg5c).chg hch3 (by omega))
     have HRF := Lib.hid (hset.1.toL.wider (Nat.le_refl _) (by omega : x.hi 4 ≤ W14.heap.size))
     clear hset hch3 hs14 hOw hiv hdj e9 i4 hM9 hn9 hml2 hlow q5 HC6 HB6 HG6 HR6 hb hsb
     have kz := KR.out.ck HBF.out hcw
     have fr := kz.frozen
     have s0 := kz.cell' (i := 0) rfl
     have s1 := kz.cell' (i := 1) rfl
     have s2 := kz.cell' (i := 2) rfl
     have s3 := kz.cell' (i := 3) rfl
     have s4 := kz.cell' (i := 4) rfl
     have s5 := kz.cell' (i := 5) rfl
     have r0 := HGF.out.cell' (i := 0) rfl
     have r1 := HGF.out.cell' (i := 1) rfl
     have r2 := HGF.out.cell' (i := 2) rfl
     have r3 := HGF.out.cell' (i := 3) rfl
     have r4 := HGF.out.cell' (i := 4) rfl
     have r5 := HGF.out.cell' (i := 5) rfl
     have hc6 := chg6 W14 w0.heap.size (.int .i64 P) (.int .i64 V) (.slice A nf a) (.slice C nt cc) (.slice E nd ee) (.slice (some ⟨gH, 0, none⟩) nm h)
     have hsr := HBF.out.size
     have OF := Lib.hid ((HRF.out.chg hc6 (.inr (by omega))).wider (by omega : w0.heap.size + 1 ≤ lo1) hc6.size)
     have GS := Lib.hid ((G0.out.trans HBF.out).lowF (lo := w0.heap.size) (hc6.below (Nat.le_refl _) (by omega)) (Nat.le_refl _) hcl)
     clear kz hc6
     go_wp2
     refine bodyPost_ret (v := .agg #[.int .i64 P, .int .i64 V, .slice A nf a, .slice C nt cc, .slice E nd ee, .slice (some ⟨gH, 0, none⟩) nm h]) (by simp [results, go_sem, s0, s1, s2, s3, s4, s5]) rfl ?_
     unfold AnyP
     exact ⟨_, ⟨P, ⟨V, F, T⟩, D, M.set 0 ⟨r9, k9, l9⟩⟩, rfl, OF.out, GS.out⟩
  ·by_cases e2 : t = 2
   ·subst e2
    have q4 := HG6.out.cell' (i := 4) rfl
    by_cases hz : nd = 0
    ·subst hz
     have HBF := Lib.hid HB6.out
     have HGF := Lib.hid HG6.out
     have HRF := Lib.hid (HR6.out.toL.wider (Nat.le_refl _) (Nat.le_of_lt hg6))
     clear q4
     have kz := KR.out.ck HBF.out hcw
     have fr := kz.frozen
     have s0 := kz.cell' (i := 0) rfl
     have s1 := kz.cell' (i := 1) rfl
     have s2 := kz.cell' (i := 2) rfl
     have s3 := kz.cell' (i := 3) rfl
     have s4 := kz.cell' (i := 4) rfl
     have s5 := kz.cell' (i := 5) rfl
     have r0 := HGF.out.cell' (i := 0) rfl
     have r1 := HGF.out.cell' (i := 1) rfl
     have r2 := HGF.out.cell' (i := 2) rfl
     have r3 := HGF.out.cell' (i := 3) rfl
     have r4 := HGF.out.cell' (i := 4) rfl
     have r5 := HGF.out.cell' (i := 5) rfl
     have hc6 := chg6 w6 w0.heap.size (.int .i64 P) (.int .i64 V) (.slice A nf a) (.slice C nt cc) (.slice E 0 ee) (.slice H nm h)
     have hsr := HBF.out.size
     have OF := Lib.hid ((HRF.out.chg hc6 (.inr (by omega))).wider (by omega : w0.heap.size + 1 ≤ lo1) hc6.size)
     have GS := Lib.hid ((G0.out.trans HBF.out).lowF (lo := w0.heap.size) (hc6.below (Nat.le_refl _) (by omega)) (Nat.le_refl _) hcl)
     clear kz hc6
     go_wp2
     refine bodyPost_ret (v := .agg #[.int .i64 P, .int .i64 V, .slice A nf a, .slice C nt cc, .slice E 0 ee, .slice H nm h]) (by simp [results, go_sem, s0, s1, s2, s3, s4, s5]) rfl ?_
     unfold AnyP
     exact ⟨_, ⟨P, ⟨V, F, T⟩, D, M⟩, rfl, OF.out, GS.out⟩
    ·have hdl := HLD.out
     obtain ⟨gA, rfl, hgA1, hgA2⟩ := HR6.out.dim.1.adrF (show 0 < D.length by omega)
     have hgAg : gA < g5 := HR6.out.dim.2 gA rfl
     have hgAc : gA ≠ c := by omega
     have hpos : 0 < nd := Nat.pos_of_ne_zero hz
     clear hdl
     go_wp2
     refine wp_region_netK (c) (by kernel_rfl) [.eq (.pointer (some ⟨g5, 4, none⟩)), .eq (.slice (some ⟨gA, 0, none⟩) nd ee), .eq (.pointer (some ⟨c, 0, none⟩)), rel 3 (fun u lo hi w => ∃ g, u = .slice (some ⟨g, 0, none⟩) 3 3 ∧ Blk w g 3 #[.int .i64 (-1), .int .i64 5, .int .i64 0] ∧ c < g), rel 4 (fun u lo hi w => ∃ y : Int, u = .int .i64 y ∧ I64 y), .eq (.pointer (some ⟨gA, 0, none⟩))] [[], [0], [], [], [2, 3], [0, 1, 2, 3, 4], [0, 1, 2, 3, 4, 5]] 6 (by kernel_rfl) ⟨trivial, trivial, trivial, rel_stableK (fun u lo hi w w' ⟨g, h1, h2, h3⟩ hb => ⟨g, h1, h2.ck hb (by omega), h3⟩), rel_stableK (fun u lo hi w w' h hb => h), trivial, trivial⟩ ⟨?_, ?_, ?_, ?_, ?_, ?_, trivial⟩ ?_
     ·intro x w hb hk Q' hQ
      clear hk
      simp only [netE] at hQ ⊢
      go_wp2
      exact hQ (.pointer (some ⟨g5, 4, none⟩)) _ (Ck.refl _ _) rfl
     ·intro x w hb hk Q' hQ
      have h0 : x.v 0 = _ := (hk 0 (by decide)).1
      clear hk
      simp only [netE] at hQ ⊢
      simp only [h0] at hQ ⊢
      clear h0
      have z := (HG6.out.ck hb hg5c).cell' (i := 4) rfl
      go_wp2
      exact hQ (.slice (some ⟨gA, 0, none⟩) nd ee) _ (Ck.refl _ _) rfl
     ·intro x w hb hk Q' hQ
      clear hk
      simp only [netE] at hQ ⊢
      go_wp2
      exact hQ (.pointer (some ⟨c, 0, none⟩)) _ (Ck.refl _ _) rfl
     ·intro x w hb hk Q' hQ
      clear hk
      simp only [netE] at hQ ⊢
      have hcw9 := (hb.keep HC6.out).ltF
      go_wp2
      exact hQ _ _ (Ck.of_below (below_alloc _ _)) ⟨_, rfl, Blk.new _ _ _, hcw9⟩
     ·intro x w hb hk Q' hQ
      have h2 : x.v 2 = _ := (hk 2 (by decide)).1
      have h3 : ∃ g, (x.v 3) = .slice (some ⟨g, 0, none⟩) 3 3 ∧ Blk w g 3 #[.int .i64 (-1), .int .i64 5, .int .i64 0] ∧ c < g := (hk 3 (by decide)).1
      have s3 := (hk 3 (by decide)).2
      clear hk
      simp only [netE] at hQ ⊢
      simp only [h2] at hQ ⊢
      clear h2
      obtain ⟨g, e3, hB3, hcg⟩ := h3
      obtain ⟨z3, hz3⟩ : ∃ z, x.v 3 = z := ⟨_, rfl⟩
      rw [hz3] at e3 hQ ⊢
      clear hz3
      subst e3
      go_wp2_with fail
      refine (l1PickInt_any IntPF c g 3 3 _ _ (hb.keep HC6.out) hB3 (by omega) (by omega) (by omega) (fun i hi => ?_) fun v h => ⟨_, h.choose_spec.1⟩).mono ?_
      ·match i, hi with
       | 0, _ => exact ⟨_, rfl, _, rfl, by decide, by decide⟩
       | 1, _ => exact ⟨_, rfl, _, rfl, by decide, by decide⟩
       | 2, _ => exact ⟨_, rfl, _, rfl, by decide, by decide⟩
       | i + 3, h => omega
      rintro e w7 ⟨v, ⟨k7, rfl, hk7⟩, rfl, hb7⟩
      go_wp2
      exact hQ _ _ hb7 ⟨k7, rfl, hk7⟩
     ·intro x w hb hk Q' hQ
      have h1 : x.v 1 = _ := (hk 1 (by decide)).1
      clear hk
      simp only [netE] at hQ ⊢
      simp only [h1] at hQ ⊢
      clear h1
      go_wp2
      exact hQ (.pointer (some ⟨gA, 0, none⟩)) _ (Ck.refl _ _) rfl
     ·intro x w hb hk hiv hdj
      have h0 : x.v 0 = .pointer (some ⟨g5, 4, none⟩) := hk 0 (by decide)
      have h1 : x.v 1 = .slice (some ⟨gA, 0, none⟩) nd ee := hk 1 (by decide)
      have h2 : x.v 2 = .pointer (some ⟨c, 0, none⟩) := hk 2 (by decide)
      have h3 : ∃ g, (x.v 3) = .slice (some ⟨g, 0, none⟩) 3 3 ∧ Blk w g 3 #[.int .i64 (-1), .int .i64 5, .int .i64 0] ∧ c < g := hk 3 (by decide)
      have h4 : ∃ y : Int, (x.v 4) = .int .i64 y ∧ I64 y := hk 4 (by decide)
      have h5 : x.v 5 = .pointer (some ⟨gA, 0, none⟩) := hk 5 (by decide)
      clear hk
      simp only [netE]
      simp only [List.drop_succ_cons, List.drop_zero, h0, h1, h2, h5]
      clear h0 h1 h2 h5
      obtain ⟨j, e4, hj⟩ := h4
      rw [e4]
      have hRw := HR6.out.chg hb.chg (.inr (by omega))
      have hOw := hRw.dim
      have hdl := HLD.out
      have cX := (hOw.1.cellG (j := 0) (show 0 < D.length by omega)).1
      have fX := hOw.1.frozenG 0
      have hput := hOw.1.put (j := 0) (x := j) hj
      have hsb := hb.size
      have hL9 := hRw.newD HS.out hput.2 hput.1 (by omega)
      obtain ⟨W3, hW3⟩ : ∃ z, w.setCell ⟨gA, 0, none⟩ (.int .i64 j) = z := ⟨_, rfl⟩
      rw [hW3] at hL9
      have hch : Chg gA (gA + 1) w W3 := by rw [← hW3]; exact chg_set (Nat.le_refl _) (Nat.lt_succ_self _)
      have hsc := hch.size
      have hlow := hch.below (B := lo1) hgA1 (by omega)
      have HBF := Lib.hid ((HB6.out.trans hb).lowF hlow (by omega) hcl1')
      have HGF := Lib.hid ((HG6.out.ck hb hg5c).chg hch (.inr (by omega)))
      have HRF := Lib.hid hL9
      clear hput hch hlow hOw hRw hb hiv hdj e4 hsb HC6 HB6 HG6 HR6 hdl hL9 hsc
      have kz := KR.out.ck HBF.out hcw
      have fr := kz.frozen
      have s0 := kz.cell' (i := 0) rfl
      have s1 := kz.cell' (i := 1) rfl
      have s2 := kz.cell' (i := 2) rfl
      have s3 := kz.cell' (i := 3) rfl
      have s4 := kz.cell' (i := 4) rfl
      have s5 := kz.cell' (i := 5) rfl
      have r0 := HGF.out.cell' (i := 0) rfl
      have r1 := HGF.out.cell' (i := 1) rfl
      have r2 := HGF.out.cell' (i := 2) rfl
      have r3 := HGF.out.cell' (i := 3) rfl
      have r4 := HGF.out.cell' (i := 4) rfl
      have r5 := HGF.out.cell' (i := 5) rfl
      have hc6 := chg6 W3 w0.heap.size (.int .i64 P) (.int .i64 V) (.slice A nf a) (.slice C nt cc) (.slice (some ⟨gA, 0, none⟩) nd ee) (.slice H nm h)
      have hsr := HBF.out.size
      have OF := Lib.hid ((HRF.out.chg hc6 (.inr (by omega))).wider (by omega : w0.heap.size + 1 ≤ lo1) hc6.size)
      have GS := Lib.hid ((G0.out.trans HBF.out).lowF (lo := w0.heap.size) (hc6.below (Nat.le_refl _) (by omega)) (Nat.le_refl _) hcl)
      clear kz hc6
      go_wp2
      refine bodyPost_ret (v := .agg #[.int .i64 P, .int .i64 V, .slice A nf a, .slice C nt cc, .slice (some ⟨gA, 0, none⟩) nd ee, .slice H nm h]) (by simp [results, go_sem, s0, s1, s2, s3, s4, s5]) rfl ?_
      unfold AnyP
      exact ⟨_, ⟨P, ⟨V, F, T⟩, D.set 0 j, M⟩, rfl, OF.out, GS.out⟩
   ·have HBF := Lib.hid HB6.out
    have HGF := Lib.hid HG6.out
    have HRF := Lib.hid (HR6.out.toL.wider (Nat.le_refl _) (Nat.le_of_lt hg6))
    have kz := KR.out.ck HBF.out hcw
    have fr := kz.frozen
    have s0 := kz.cell' (i := 0) rfl
    have s1 := kz.cell' (i := 1) rfl
    have s2 := kz.cell' (i := 2) rfl
    have s3 := kz.cell' (i := 3) rfl
    have s4 := kz.cell' (i := 4) rfl
    have s5 := kz.cell' (i := 5) rfl
    have r0 := HGF.out.cell' (i := 0) rfl
    have r1 := HGF.out.cell' (i := 1) rfl
    have r2 := HGF.out.cell' (i := 2) rfl
    have r3 := HGF.out.cell' (i := 3) rfl
    have r4 := HGF.out.cell' (i := 4) rfl
    have r5 := HGF.out.cell' (i := 5) rfl
    have hc6 := chg6 w6 w0.heap.size (.int .i64 P) (.int .i64 V) (.slice A nf a) (.slice C nt cc) (.slice E nd ee) (.slice H nm h)
    have hsr := HBF.out.size
    have OF := Lib.hid ((HRF.out.chg hc6 (.inr (by omega))).wider (by omega : w0.heap.size + 1 ≤ lo1) hc6.size)
    have GS := Lib.hid ((G0.out.trans HBF.out).lowF (lo := w0.heap.size) (hc6.below (Nat.le_refl _) (by omega)) (Nat.le_refl _) hcl)
    clear kz hc6
    go_wp2
    refine bodyPost_ret (v := .agg #[.int .i64 P, .int .i64 V, .slice A nf a, .slice C nt cc, .slice E nd ee, .slice H nm h]) (by simp [results, go_sem, s0, s1, s2, s3, s4, s5]) rfl ?_
    unfold AnyP
    exact ⟨_, ⟨P, ⟨V, F, T⟩, D, M⟩, rfl, OF.out, GS.out⟩
end Go.Proofs.YthhjoamgcfiecaaGreat
