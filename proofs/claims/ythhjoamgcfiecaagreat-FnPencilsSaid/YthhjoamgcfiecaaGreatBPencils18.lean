/- FnPencils: the law holds for every argument. Part 18 of 18 of the proof: LwP, LawPencilsRow. No condition. -/
import Derived.Test.YthhjoamgcfiecaaGreatBPencils17
import Derived.Deep.CutRange
import Derived.Deep.LoopGhost
import Derived.Deep.CutBlock
set_option linter.unusedVariables false
set_option linter.unusedSimpArgs false
namespace Go.Proofs.YthhjoamgcfiecaaGreat
open Go.RowKit
theorem specReduceMod_any (p x : Int) (w : World) (hp : isFld p = true) (hx : I64 x) :
  Calls Tryz.prog 17 #[.int .i64 p, .int .i64 x] w fun e w' => e = .returned (.int .i64 (x % p)) ∧ w' = w := by
 have hp' := isFld_r hp
 have H1 := Lib.hid hp
 have H2 := Lib.hid hx
 have H3 := Lib.hid (show 2 ≤ p ∧ p ≤ 5 by omega)
 clear hp hx hp'
 go_enter Tryz.func17, Tryz.ntmps17
 go_wp2_with fail
 refine (specIsField_any _ _).mono ?_; rintro e w1 ⟨rfl, rfl⟩
 rw [H1.out]
 go_wp2_with fail
 refine (l2Mod_any p x _ H3.out H2.out).mono ?_; rintro e w2 ⟨rfl, rfl⟩
 go_wp2
 go_ret
 exact ⟨rfl, rfl⟩
def PreF (X Y : Rp) (n : Int) : Prop := Fit2 X X ∧ Fit2 Y Y ∧ Fit2 Y X ∧ homN X X = 1 ∧ extN X X = 0 ∧ homN Y Y = 1 ∧ (0 < n → homN Y X = 0) ∧ ∀ x ∈ pkL X, x = n
def RegF (p n k : Int) (X : Rp) : Prop := isFld p = true ∧ (1 ≤ n ∧ n ≤ 4) ∧ Fit2 X X ∧ homN X X = n.toNat ∧ extN X X = n.toNat ∧ (pkL X).length = p.toNat + 1 ∧ ∀ i, i < p.toNat → (pkL X).getD i 0 = if (1 + (i : Int) * k) % p = 0 then n - 1 else n
theorem pen_law (p n : Int) : ∃ X B Y C, prepP p n = (X, B) ∧ preiP p n = (Y, C) ∧ (B = true → PreF X Y n) := by
 refine ⟨_, _, _, _, rfl, rfl, fun h => pre_facts h⟩
theorem reg_law (p n k : Int) : ∃ X B, regP p n k = (X, B) ∧ (B = true → RegF p n k X) := by
 refine ⟨_, _, rfl, fun h => ?_⟩
 obtain ⟨h1, h2, _⟩ := reg_t h
 exact ⟨h1, h2, reg_facts h⟩
set_option maxHeartbeats 6400000 in
set_option maxRecDepth 100000 in
theorem fnPencils_any (u : Value) (l : List Int) (w0 : World) (hu : SlY w0 w0.heap.size u l) :
  Calls Tryz.prog 3 #[u] w0 fun e w' => e = .returned (.bool true) ∧ Below w0.heap.size w0 w' := by
 have HU := Lib.hid hu
 clear hu
 go_enter Tryz.func3, Tryz.ntmps3
 go_wp2_with fail
 refine (big_any u l _ HU.out).mono ?_; rintro e w1 ⟨rfl, hb1⟩
 obtain ⟨B0, hB0⟩ : ∃ B, decide ((l.length : Int) > 1048576) = B := ⟨_, rfl⟩
 rw [hB0]
 clear hB0
 have HY1 := Lib.hid (SlY.next hb1 HU.out)
 have G1 := Lib.hid hb1
 have hs1 := hb1.size
 clear HU hb1
 cases B0
 rotate_left
 ·go_wp2
  go_ret
  exact ⟨rfl, G1.out⟩
 go_wp2_with fail
 refine (drawPreprojectivePencil_any u l _ HY1.out).mono ?_; rintro e w2 ⟨p, n, rfl, hp, hn1, hn2, hb2⟩
 have hn : I64 n := ⟨by omega, by omega⟩
 have hY := SlY.next hb2 HY1.out
 have g := G1.out.trans (hb2.mono hs1)
 clear HY1 hb2 G1
 obtain ⟨X, B, Y, C, hX, hYY, hPF⟩ := pen_law p n
 have HX := Lib.hid hX
 have HYY := Lib.hid hYY
 have HPF := Lib.hid hPF
 clear hX hYY hPF
 go_wp2_with fail
 refine (implPreprojectivePencil_any p n _ hp hn).mono ?_; rintro e w3 ⟨ra, rfl, hra, hb⟩
 rw [HX.out] at hra ⊢
 simp only at hra ⊢
 replace g := bthen g hb
 replace hY := SlY.next hb hY
 clear hb
 have hxa := hra.rd
 clear hra
 obtain ⟨Aa, aa, Ca, ca, Ea, ea, Ha, qa, rfl⟩ := hxa.form
 obtain ⟨W4, hW4⟩ : ∃ z, w3.alloc (.cells #[.int .i64 X.p, .int .i64 X.q.v, .slice Aa X.q.f.length aa, .slice Ca X.q.t.length ca, .slice Ea X.d.length ea, .slice Ha X.m.length qa] 31) = z := ⟨_, rfl⟩
 have ga : Below w3.heap.size w3 W4 := by rw [← hW4]; exact below_alloc _ _
 obtain ⟨bka, hbka⟩ : ∃ z, w3.heap.size = z := ⟨_, rfl⟩
 have ka : Blk W4 bka 31 #[.int .i64 X.p, .int .i64 X.q.v, .slice Aa X.q.f.length aa, .slice Ca X.q.t.length ca, .slice Ea X.d.length ea, .slice Ha X.m.length qa] := by rw [← hW4, ← hbka]; exact Blk.new _ _ _
 replace g := bthen g ga
 replace hY := SlY.next ga hY
 replace hxa := RpR.next ga hxa
 clear ga
 have ya0 := ka.cell' (i := 0) rfl
 have ya1 := ka.cell' (i := 1) rfl
 have ya2 := ka.cell' (i := 2) rfl
 have ya3 := ka.cell' (i := 3) rfl
 have ya4 := ka.cell' (i := 4) rfl
 have ya5 := ka.cell' (i := 5) rfl
 go_wp2_with fail
 clear hW4 hbka
 refine (specPreprojectivePencil_any p n _ hp hn).mono ?_; rintro e w5 ⟨rb, rfl, hrb, hb⟩
 rw [HX.out] at hrb ⊢
 simp only at hrb ⊢
 replace g := bthen g hb
 replace hY := SlY.next hb hY
 replace hxa := RpR.next hb hxa
 replace ka := ka.call hb
 replace ya0 := ka.cell' (i := 0) rfl
 replace ya1 := ka.cell' (i := 1) rfl
 replace ya2 := ka.cell' (i := 2) rfl
 replace ya3 := ka.cell' (i := 3) rfl
 replace ya4 := ka.cell' (i := 4) rfl
 replace ya5 := ka.cell' (i := 5) rfl
 clear hb
 have hxb := hrb.rd
 clear hrb
 obtain ⟨Ab, ab, Cb, cb, Eb, eb, Hb, qb, rfl⟩ := hxb.form
 obtain ⟨W6, hW6⟩ : ∃ z, w5.alloc (.cells #[.int .i64 X.p, .int .i64 X.q.v, .slice Ab X.q.f.length ab, .slice Cb X.q.t.length cb, .slice Eb X.d.length eb, .slice Hb X.m.length qb] 31) = z := ⟨_, rfl⟩
 have ga : Below w5.heap.size w5 W6 := by rw [← hW6]; exact below_alloc _ _
 obtain ⟨bkb, hbkb⟩ : ∃ z, w5.heap.size = z := ⟨_, rfl⟩
 have kb : Blk W6 bkb 31 #[.int .i64 X.p, .int .i64 X.q.v, .slice Ab X.q.f.length ab, .slice Cb X.q.t.length cb, .slice Eb X.d.length eb, .slice Hb X.m.length qb] := by rw [← hW6, ← hbkb]; exact Blk.new _ _ _
 replace g := bthen g ga
 replace hY := SlY.next ga hY
 replace hxa := RpR.next ga hxa
 replace ka := ka.call ga
 replace ya0 := ka.cell' (i := 0) rfl
 replace ya1 := ka.cell' (i := 1) rfl
 replace ya2 := ka.cell' (i := 2) rfl
 replace ya3 := ka.cell' (i := 3) rfl
 replace ya4 := ka.cell' (i := 4) rfl
 replace ya5 := ka.cell' (i := 5) rfl
 replace hxb := RpR.next ga hxb
 clear ga
 have yb0 := kb.cell' (i := 0) rfl
 have yb1 := kb.cell' (i := 1) rfl
 have yb2 := kb.cell' (i := 2) rfl
 have yb3 := kb.cell' (i := 3) rfl
 have yb4 := kb.cell' (i := 4) rfl
 have yb5 := kb.cell' (i := 5) rfl
 go_wp2_with fail
 clear hW6 hbkb
 refine (implPreinjectivePencil_any p n _ hp hn).mono ?_; rintro e w7 ⟨rc, rfl, hrc, hb⟩
 rw [HYY.out] at hrc ⊢
 simp only at hrc ⊢
 replace g := bthen g hb
 replace hY := SlY.next hb hY
 replace hxa := RpR.next hb hxa
 replace ka := ka.call hb
 replace ya0 := ka.cell' (i := 0) rfl
 replace ya1 := ka.cell' (i := 1) rfl
 replace ya2 := ka.cell' (i := 2) rfl
 replace ya3 := ka.cell' (i := 3) rfl
 replace ya4 := ka.cell' (i := 4) rfl
 replace ya5 := ka.cell' (i := 5) rfl
 replace hxb := RpR.next hb hxb
 replace kb := kb.call hb
 replace yb0 := kb.cell' (i := 0) rfl
 replace yb1 := kb.cell' (i := 1) rfl
 replace yb2 := kb.cell' (i := 2) rfl
 replace yb3 := kb.cell' (i := 3) rfl
 replace yb4 := kb.cell' (i := 4) rfl
 replace yb5 := kb.cell' (i := 5) rfl
 clear hb
 have hxc := hrc.rd
 clear hrc
 obtain ⟨Ac, ac, Cc, cc, Ec, ec, Hc, qc, rfl⟩ := hxc.form
 obtain ⟨W8, hW8⟩ : ∃ z, w7.alloc (.cells #[.int .i64 Y.p, .int .i64 Y.q.v, .slice Ac Y.q.f.length ac, .slice Cc Y.q.t.length cc, .slice Ec Y.d.length ec, .slice Hc Y.m.length qc] 31) = z := ⟨_, rfl⟩
 have ga : Below w7.heap.size w7 W8 := by rw [← hW8]; exact below_alloc _ _
 obtain ⟨bkc, hbkc⟩ : ∃ z, w7.heap.size = z := ⟨_, rfl⟩
 have kc : Blk W8 bkc 31 #[.int .i64 Y.p, .int .i64 Y.q.v, .slice Ac Y.q.f.length ac, .slice Cc Y.q.t.length cc, .slice Ec Y.d.length ec, .slice Hc Y.m.length qc] := by rw [← hW8, ← hbkc]; exact Blk.new _ _ _
 replace g := bthen g ga
 replace hY := SlY.next ga hY
 replace hxa := RpR.next ga hxa
 replace ka := ka.call ga
 replace ya0 := ka.cell' (i := 0) rfl
 replace ya1 := ka.cell' (i := 1) rfl
 replace ya2 := ka.cell' (i := 2) rfl
 replace ya3 := ka.cell' (i := 3) rfl
 replace ya4 := ka.cell' (i := 4) rfl
 replace ya5 := ka.cell' (i := 5) rfl
 replace hxb := RpR.next ga hxb
 replace kb := kb.call ga
 replace yb0 := kb.cell' (i := 0) rfl
 replace yb1 := kb.cell' (i := 1) rfl
 replace yb2 := kb.cell' (i := 2) rfl
 replace yb3 := kb.cell' (i := 3) rfl
 replace yb4 := kb.cell' (i := 4) rfl
 replace yb5 := kb.cell' (i := 5) rfl
 replace hxc := RpR.next ga hxc
 clear ga
 have yc0 := kc.cell' (i := 0) rfl
 have yc1 := kc.cell' (i := 1) rfl
 have yc2 := kc.cell' (i := 2) rfl
 have yc3 := kc.cell' (i := 3) rfl
 have yc4 := kc.cell' (i := 4) rfl
 have yc5 := kc.cell' (i := 5) rfl
 go_wp2_with fail
 clear hW8 hbkc
 refine (specPreinjectivePencil_any p n _ hp hn).mono ?_; rintro e w9 ⟨rd, rfl, hrd, hb⟩
 rw [HYY.out] at hrd ⊢
 simp only at hrd ⊢
 replace g := bthen g hb
 replace hY := SlY.next hb hY
 replace hxa := RpR.next hb hxa
 replace ka := ka.call hb
 replace ya0 := ka.cell' (i := 0) rfl
 replace ya1 := ka.cell' (i := 1) rfl
 replace ya2 := ka.cell' (i := 2) rfl
 replace ya3 := ka.cell' (i := 3) rfl
 replace ya4 := ka.cell' (i := 4) rfl
 replace ya5 := ka.cell' (i := 5) rfl
 replace hxb := RpR.next hb hxb
 replace kb := kb.call hb
 replace yb0 := kb.cell' (i := 0) rfl
 replace yb1 := kb.cell' (i := 1) rfl
 replace yb2 := kb.cell' (i := 2) rfl
 replace yb3 := kb.cell' (i := 3) rfl
 replace yb4 := kb.cell' (i := 4) rfl
 replace yb5 := kb.cell' (i := 5) rfl
 replace hxc := RpR.next hb hxc
 replace kc := kc.call hb
 replace yc0 := kc.cell' (i := 0) rfl
 replace yc1 := kc.cell' (i := 1) rfl
 replace yc2 := kc.cell' (i := 2) rfl
 replace yc3 := kc.cell' (i := 3) rfl
 replace yc4 := kc.cell' (i := 4) rfl
 replace yc5 := kc.cell' (i := 5) rfl
 clear hb
 have hxd := hrd.rd
 clear hrd
 obtain ⟨Ad, ad, Cd, cd, Ed, ed, Hd, qd, rfl⟩ := hxd.form
 obtain ⟨W10, hW10⟩ : ∃ z, w9.alloc (.cells #[.int .i64 Y.p, .int .i64 Y.q.v, .slice Ad Y.q.f.length ad, .slice Cd Y.q.t.length cd, .slice Ed Y.d.length ed, .slice Hd Y.m.length qd] 31) = z := ⟨_, rfl⟩
 have ga : Below w9.heap.size w9 W10 := by rw [← hW10]; exact below_alloc _ _
 obtain ⟨bkd, hbkd⟩ : ∃ z, w9.heap.size = z := ⟨_, rfl⟩
 have kd : Blk W10 bkd 31 #[.int .i64 Y.p, .int .i64 Y.q.v, .slice Ad Y.q.f.length ad, .slice Cd Y.q.t.length cd, .slice Ed Y.d.length ed, .slice Hd Y.m.length qd] := by rw [← hW10, ← hbkd]; exact Blk.new _ _ _
 replace g := bthen g ga
 replace hY := SlY.next ga hY
 replace hxa := RpR.next ga hxa
 replace ka := ka.call ga
 replace ya0 := ka.cell' (i := 0) rfl
 replace ya1 := ka.cell' (i := 1) rfl
 replace ya2 := ka.cell' (i := 2) rfl
 replace ya3 := ka.cell' (i := 3) rfl
 replace ya4 := ka.cell' (i := 4) rfl
 replace ya5 := ka.cell' (i := 5) rfl
 replace hxb := RpR.next ga hxb
 replace kb := kb.call ga
 replace yb0 := kb.cell' (i := 0) rfl
 replace yb1 := kb.cell' (i := 1) rfl
 replace yb2 := kb.cell' (i := 2) rfl
 replace yb3 := kb.cell' (i := 3) rfl
 replace yb4 := kb.cell' (i := 4) rfl
 replace yb5 := kb.cell' (i := 5) rfl
 replace hxc := RpR.next ga hxc
 replace kc := kc.call ga
 replace yc0 := kc.cell' (i := 0) rfl
 replace yc1 := kc.cell' (i := 1) rfl
 replace yc2 := kc.cell' (i := 2) rfl
 replace yc3 := kc.cell' (i := 3) rfl
 replace yc4 := kc.cell' (i := 4) rfl
 replace yc5 := kc.cell' (i := 5) rfl
 replace hxd := RpR.next ga hxd
 clear ga
 have yd0 := kd.cell' (i := 0) rfl
 have yd1 := kd.cell' (i := 1) rfl
 have yd2 := kd.cell' (i := 2) rfl
 have yd3 := kd.cell' (i := 3) rfl
 have yd4 := kd.cell' (i := 4) rfl
 have yd5 := kd.cell' (i := 5) rfl
 have nb : (B != B) = false := by simp
 have nc : (C != C) = false := by simp
 go_wp2_with fail
 clear hW10 hbkd
 refine (specEqualReps_same _ _ X _ hxa hxb).mono ?_; rintro e w11 ⟨rfl, hb⟩
 replace g := bthen g hb
 replace hY := SlY.next hb hY
 replace hxa := RpR.next hb hxa
 replace ka := ka.call hb
 replace ya0 := ka.cell' (i := 0) rfl
 replace ya1 := ka.cell' (i := 1) rfl
 replace ya2 := ka.cell' (i := 2) rfl
 replace ya3 := ka.cell' (i := 3) rfl
 replace ya4 := ka.cell' (i := 4) rfl
 replace ya5 := ka.cell' (i := 5) rfl
 replace hxb := RpR.next hb hxb
 replace kb := kb.call hb
 replace yb0 := kb.cell' (i := 0) rfl
 replace yb1 := kb.cell' (i := 1) rfl
 replace yb2 := kb.cell' (i := 2) rfl
 replace yb3 := kb.cell' (i := 3) rfl
 replace yb4 := kb.cell' (i := 4) rfl
 replace yb5 := kb.cell' (i := 5) rfl
 replace hxc := RpR.next hb hxc
 replace kc := kc.call hb
 replace yc0 := kc.cell' (i := 0) rfl
 replace yc1 := kc.cell' (i := 1) rfl
 replace yc2 := kc.cell' (i := 2) rfl
 replace yc3 := kc.cell' (i := 3) rfl
 replace yc4 := kc.cell' (i := 4) rfl
 replace yc5 := kc.cell' (i := 5) rfl
 replace hxd := RpR.next hb hxd
 replace kd := kd.call hb
 replace yd0 := kd.cell' (i := 0) rfl
 replace yd1 := kd.cell' (i := 1) rfl
 replace yd2 := kd.cell' (i := 2) rfl
 replace yd3 := kd.cell' (i := 3) rfl
 replace yd4 := kd.cell' (i := 4) rfl
 replace yd5 := kd.cell' (i := 5) rfl
 clear hb hxa ka ya0 ya1 ya2 ya3 ya4 ya5
 go_wp2_with fail
 refine (specEqualReps_same _ _ Y _ hxc hxd).mono ?_; rintro e w12 ⟨rfl, hb⟩
 replace g := bthen g hb
 replace hY := SlY.next hb hY
 replace hxb := RpR.next hb hxb
 replace kb := kb.call hb
 replace yb0 := kb.cell' (i := 0) rfl
 replace yb1 := kb.cell' (i := 1) rfl
 replace yb2 := kb.cell' (i := 2) rfl
 replace yb3 := kb.cell' (i := 3) rfl
 replace yb4 := kb.cell' (i := 4) rfl
 replace yb5 := kb.cell' (i := 5) rfl
 replace hxc := RpR.next hb hxc
 replace kc := kc.call hb
 replace yc0 := kc.cell' (i := 0) rfl
 replace yc1 := kc.cell' (i := 1) rfl
 replace yc2 := kc.cell' (i := 2) rfl
 replace yc3 := kc.cell' (i := 3) rfl
 replace yc4 := kc.cell' (i := 4) rfl
 replace yc5 := kc.cell' (i := 5) rfl
 replace hxd := RpR.next hb hxd
 replace kd := kd.call hb
 replace yd0 := kd.cell' (i := 0) rfl
 replace yd1 := kd.cell' (i := 1) rfl
 replace yd2 := kd.cell' (i := 2) rfl
 replace yd3 := kd.cell' (i := 3) rfl
 replace yd4 := kd.cell' (i := 4) rfl
 replace yd5 := kd.cell' (i := 5) rfl
 clear hb hxc kc yc0 yc1 yc2 yc3 yc4 yc5
 have HY := Lib.hid hY
 have HG := Lib.hid g
 have HXB := Lib.hid hxb
 have HXD := Lib.hid hxd
 have HKB := Lib.hid kb
 have HKD := Lib.hid kd
 clear hY g hxb hxd
 go_upto_if 90 with fail
 go_cut [13, 14] from 91 to 130 (fun _ _ wx => SlY wx wx.heap.size u l ∧ Below w0.heap.size w0 wx)
 case first => as_aux_lemma =>
  cases B
  ·go_wp2
   go_meet
   case rel => exact ⟨HY.out, HG.out⟩
  ·obtain ⟨f1, f2, f3, f4, f5, f6, f7, f8⟩ := HPF.out rfl
   have F1 := Lib.hid f1
   have F2 := Lib.hid f2
   have F3 := Lib.hid f3
   have F4 := Lib.hid (show ((homN X X : Nat) : Int) = 1 from by rw [f4]; rfl)
   have F5 := Lib.hid (show ((extN X X : Nat) : Int) = 0 from by rw [f5]; rfl)
   have F6 := Lib.hid (show ((homN Y Y : Nat) : Int) = 1 from by rw [f6]; rfl)
   have F7 := Lib.hid f7
   have F8 := Lib.hid f8
   clear f1 f2 f3 f4 f5 f6 f7 f8 HX HYY HPF
   go_wp2_with fail
   refine (implPencilRanks_any _ X _ HXB.out).mono ?_; rintro e w13 ⟨o, rfl, ho, hb⟩
   have hl := ho.rd
   clear ho
   have hY := HY.out
   have g := HG.out
   have hxb := HXB.out
   have hxd := HXD.out
   clear HY HG HXB HXD HKB HKD
   replace g := bthen g hb
   replace hY := SlY.next hb hY
   replace hxb := RpR.next hb hxb
   replace hxd := RpR.next hb hxd
   replace kb := kb.call hb
   replace yb0 := kb.cell' (i := 0) rfl
   replace yb1 := kb.cell' (i := 1) rfl
   replace yb2 := kb.cell' (i := 2) rfl
   replace yb3 := kb.cell' (i := 3) rfl
   replace yb4 := kb.cell' (i := 4) rfl
   replace yb5 := kb.cell' (i := 5) rfl
   replace kd := kd.call hb
   replace yd0 := kd.cell' (i := 0) rfl
   replace yd1 := kd.cell' (i := 1) rfl
   replace yd2 := kd.cell' (i := 2) rfl
   replace yd3 := kd.cell' (i := 3) rfl
   replace yd4 := kd.cell' (i := 4) rfl
   replace yd5 := kd.cell' (i := 5) rfl
   clear hb
   obtain ⟨L, hL⟩ : ∃ L, pkL X = L := ⟨_, rfl⟩
   rw [hL] at F8 hl
   clear hL
   obtain ⟨AL, cL, rfl, _, _, hl4, hl⟩ := hl.open_
   have HY := Lib.hid hY
   have HG := Lib.hid g
   have HXB := Lib.hid hxb
   have HXD := Lib.hid hxd
   clear hY g hxb hxd
   go_wp2
   go_loopw [14] (fun iv wr => ∃ k : Nat, k ≤ L.length ∧ iv = .int .i64 k ∧ wr = w13) (fun iv _ => L.length - (intOf iv).toNat)
   case atStart => exact ⟨0, Nat.zero_le _, rfl, rfl⟩
   case round =>
    obtain ⟨k, hk, rfl, hww⟩ := hrel
    replace hww := hww.symm
    subst hww
    by_cases hlt : k < L.length
    ·obtain ⟨b, o, x, rfl, hb, HXx, c1, _⟩ := SlI.at_ hl hlt
     have hxn : x = n := F8.out x (List.mem_of_getElem? HXx.out)
     subst hxn
     clear hl
     go_wp2
     go_roundw
     case rel => exact ⟨k + 1, by omega, by go_num, by trivial⟩
     case measure => simp [intOf]; omega
    ·clear hl
     go_wp2_with fail
     refine (implHomDim_any _ _ X X _ HXB.out HXB.out F1.out).mono ?_; rintro e w14 ⟨rfl, hb⟩
     rw [F4.out]
     have hY := HY.out
     have g := HG.out
     have hxb := HXB.out
     have hxd := HXD.out
     clear HY HG HXB HXD
     replace g := bthen g hb
     replace hY := SlY.next hb hY
     replace hxb := RpR.next hb hxb
     replace hxd := RpR.next hb hxd
     replace kb := kb.call hb
     replace yb0 := kb.cell' (i := 0) rfl
     replace yb1 := kb.cell' (i := 1) rfl
     replace yb2 := kb.cell' (i := 2) rfl
     replace yb3 := kb.cell' (i := 3) rfl
     replace yb4 := kb.cell' (i := 4) rfl
     replace yb5 := kb.cell' (i := 5) rfl
     replace kd := kd.call hb
     replace yd0 := kd.cell' (i := 0) rfl
     replace yd1 := kd.cell' (i := 1) rfl
     replace yd2 := kd.cell' (i := 2) rfl
     replace yd3 := kd.cell' (i := 3) rfl
     replace yd4 := kd.cell' (i := 4) rfl
     replace yd5 := kd.cell' (i := 5) rfl
     clear hb
     go_wp2_with fail
     refine (implExtDim_any _ _ X X _ hxb hxb F1.out).mono ?_; rintro e w15 ⟨rfl, hb⟩
     rw [F5.out]
     replace g := bthen g hb
     replace hY := SlY.next hb hY
     replace hxb := RpR.next hb hxb
     replace hxd := RpR.next hb hxd
     replace kb := kb.call hb
     replace yb0 := kb.cell' (i := 0) rfl
     replace yb1 := kb.cell' (i := 1) rfl
     replace yb2 := kb.cell' (i := 2) rfl
     replace yb3 := kb.cell' (i := 3) rfl
     replace yb4 := kb.cell' (i := 4) rfl
     replace yb5 := kb.cell' (i := 5) rfl
     replace kd := kd.call hb
     replace yd0 := kd.cell' (i := 0) rfl
     replace yd1 := kd.cell' (i := 1) rfl
     replace yd2 := kd.cell' (i := 2) rfl
     replace yd3 := kd.cell' (i := 3) rfl
     replace yd4 := kd.cell' (i := 4) rfl
     replace yd5 := kd.cell' (i := 5) rfl
     clear hb
     go_wp2_with fail
     refine (implHomDim_any _ _ Y Y _ hxd hxd F2.out).mono ?_; rintro e w16 ⟨rfl, hb⟩
     rw [F6.out]
     replace g := bthen g hb
     replace hY := SlY.next hb hY
     replace hxb := RpR.next hb hxb
     replace hxd := RpR.next hb hxd
     replace kb := kb.call hb
     replace yb0 := kb.cell' (i := 0) rfl
     replace yb1 := kb.cell' (i := 1) rfl
     replace yb2 := kb.cell' (i := 2) rfl
     replace yb3 := kb.cell' (i := 3) rfl
     replace yb4 := kb.cell' (i := 4) rfl
     replace yb5 := kb.cell' (i := 5) rfl
     replace kd := kd.call hb
     replace yd0 := kd.cell' (i := 0) rfl
     replace yd1 := kd.cell' (i := 1) rfl
     replace yd2 := kd.cell' (i := 2) rfl
     replace yd3 := kd.cell' (i := 3) rfl
     replace yd4 := kd.cell' (i := 4) rfl
     replace yd5 := kd.cell' (i := 5) rfl
     clear hb
     go_wp2_with fail
     refine (implHomDim_any _ _ Y X _ hxd hxb F3.out).mono ?_; rintro e w17 ⟨rfl, hb⟩
     have HYF := Lib.hid (SlY.next hb hY)
     have HGF := Lib.hid (bthen g hb)
     clear hb hY g hxb hxd kb kd yb0 yb1 yb2 yb3 yb4 yb5 yd0 yd1 yd2 yd3 yd4 yd5
     by_cases hn0 : 0 < n
     ·rw [show ((homN Y X : Nat) : Int) = 0 from by rw [F7.out hn0]; rfl]
      go_wp2
      go_meet
      case rel => exact ⟨HYF.out, HGF.out⟩
     ·have hd0 : decide (n > 0) = false := decide_eq_false hn0
      obtain ⟨D, hD⟩ : ∃ D, ((homN Y X : Nat) : Int) = D := ⟨_, rfl⟩
      rw [hD]
      clear hD
      by_cases hD0 : D = 0
      ·subst hD0
       go_wp2
       go_meet
       case rel => exact ⟨HYF.out, HGF.out⟩
      ·have hb1 : (D != 0) = true := by simpa using hD0
       clear hD0
       go_wp2
       go_meet
       case rel => exact ⟨HYF.out, HGF.out⟩
 case rest => as_aux_lemma =>
  clear HY HG HXB HXD HKB HKD HX HYY HPF kb kd
  obtain ⟨hY, g⟩ := hcut
  obtain ⟨v0, hv0⟩ : ∃ z, z = wc := ⟨_, rfl⟩
  subst hv0
  go_wp2_with fail
  refine (drawRegularPencil_any u l _ hY).mono ?_; rintro e v1 ⟨q, m, kk, rfl, hq, hm1, hm2, hk1, hk2, hb⟩
  have hm : I64 m := ⟨by omega, by omega⟩
  have hkI : I64 kk := ⟨by omega, by omega⟩
  replace g := bthen g hb
  replace hY := SlY.next hb hY
  clear hb
  obtain ⟨Z, D, hZ, hRF⟩ := reg_law q m kk
  have HZ := Lib.hid hZ
  have HRF := Lib.hid hRF
  clear hZ hRF
  go_wp2_with fail
  refine (implRegularPencil_any q m kk _ hq hm hkI).mono ?_; rintro e w20 ⟨re, rfl, hre, hb⟩
  rw [HZ.out] at hre ⊢
  simp only at hre ⊢
  replace g := bthen g hb
  replace hY := SlY.next hb hY
  clear hb
  have hxe := hre.rd
  clear hre
  obtain ⟨Ae, ae, Ce, ce, Ee, ee, He, qe, rfl⟩ := hxe.form
  obtain ⟨W21, hW21⟩ : ∃ z, w20.alloc (.cells #[.int .i64 Z.p, .int .i64 Z.q.v, .slice Ae Z.q.f.length ae, .slice Ce Z.q.t.length ce, .slice Ee Z.d.length ee, .slice He Z.m.length qe] 31) = z := ⟨_, rfl⟩
  have ga : Below w20.heap.size w20 W21 := by rw [← hW21]; exact below_alloc _ _
  obtain ⟨bke, hbke⟩ : ∃ z, w20.heap.size = z := ⟨_, rfl⟩
  have ke : Blk W21 bke 31 #[.int .i64 Z.p, .int .i64 Z.q.v, .slice Ae Z.q.f.length ae, .slice Ce Z.q.t.length ce, .slice Ee Z.d.length ee, .slice He Z.m.length qe] := by rw [← hW21, ← hbke]; exact Blk.new _ _ _
  replace g := bthen g ga
  replace hY := SlY.next ga hY
  replace hxe := RpR.next ga hxe
  clear ga
  have ye0 := ke.cell' (i := 0) rfl
  have ye1 := ke.cell' (i := 1) rfl
  have ye2 := ke.cell' (i := 2) rfl
  have ye3 := ke.cell' (i := 3) rfl
  have ye4 := ke.cell' (i := 4) rfl
  have ye5 := ke.cell' (i := 5) rfl
  go_wp2_with fail
  clear hW21 hbke
  refine (specRegularPencil_any q m kk _ hq hm hkI).mono ?_; rintro e w22 ⟨rf, rfl, hrf, hb⟩
  rw [HZ.out] at hrf ⊢
  simp only at hrf ⊢
  replace g := bthen g hb
  replace hY := SlY.next hb hY
  replace hxe := RpR.next hb hxe
  replace ke := ke.call hb
  replace ye0 := ke.cell' (i := 0) rfl
  replace ye1 := ke.cell' (i := 1) rfl
  replace ye2 := ke.cell' (i := 2) rfl
  replace ye3 := ke.cell' (i := 3) rfl
  replace ye4 := ke.cell' (i := 4) rfl
  replace ye5 := ke.cell' (i := 5) rfl
  clear hb
  have hxf := hrf.rd
  clear hrf
  obtain ⟨Af, af, Cf, cf, Ef, ef, Hf, qf, rfl⟩ := hxf.form
  obtain ⟨W23, hW23⟩ : ∃ z, w22.alloc (.cells #[.int .i64 Z.p, .int .i64 Z.q.v, .slice Af Z.q.f.length af, .slice Cf Z.q.t.length cf, .slice Ef Z.d.length ef, .slice Hf Z.m.length qf] 31) = z := ⟨_, rfl⟩
  have ga : Below w22.heap.size w22 W23 := by rw [← hW23]; exact below_alloc _ _
  obtain ⟨bkf, hbkf⟩ : ∃ z, w22.heap.size = z := ⟨_, rfl⟩
  have kf : Blk W23 bkf 31 #[.int .i64 Z.p, .int .i64 Z.q.v, .slice Af Z.q.f.length af, .slice Cf Z.q.t.length cf, .slice Ef Z.d.length ef, .slice Hf Z.m.length qf] := by rw [← hW23, ← hbkf]; exact Blk.new _ _ _
  replace g := bthen g ga
  replace hY := SlY.next ga hY
  replace hxe := RpR.next ga hxe
  replace ke := ke.call ga
  replace ye0 := ke.cell' (i := 0) rfl
  replace ye1 := ke.cell' (i := 1) rfl
  replace ye2 := ke.cell' (i := 2) rfl
  replace ye3 := ke.cell' (i := 3) rfl
  replace ye4 := ke.cell' (i := 4) rfl
  replace ye5 := ke.cell' (i := 5) rfl
  replace hxf := RpR.next ga hxf
  clear ga
  have yf0 := kf.cell' (i := 0) rfl
  have yf1 := kf.cell' (i := 1) rfl
  have yf2 := kf.cell' (i := 2) rfl
  have yf3 := kf.cell' (i := 3) rfl
  have yf4 := kf.cell' (i := 4) rfl
  have yf5 := kf.cell' (i := 5) rfl
  have nd : (D != D) = false := by simp
  go_wp2_with fail
  clear hW23 hbkf
  refine (specEqualReps_same _ _ Z _ hxe hxf).mono ?_; rintro e w24 ⟨rfl, hb⟩
  replace g := bthen g hb
  replace hY := SlY.next hb hY
  replace hxe := RpR.next hb hxe
  replace ke := ke.call hb
  replace ye0 := ke.cell' (i := 0) rfl
  replace ye1 := ke.cell' (i := 1) rfl
  replace ye2 := ke.cell' (i := 2) rfl
  replace ye3 := ke.cell' (i := 3) rfl
  replace ye4 := ke.cell' (i := 4) rfl
  replace ye5 := ke.cell' (i := 5) rfl
  replace hxf := RpR.next hb hxf
  replace kf := kf.call hb
  replace yf0 := kf.cell' (i := 0) rfl
  replace yf1 := kf.cell' (i := 1) rfl
  replace yf2 := kf.cell' (i := 2) rfl
  replace yf3 := kf.cell' (i := 3) rfl
  replace yf4 := kf.cell' (i := 4) rfl
  replace yf5 := kf.cell' (i := 5) rfl
  clear hb hxe ke ye0 ye1 ye2 ye3 ye4 ye5
  have HY := Lib.hid hY
  have HG := Lib.hid g
  have HXF := Lib.hid hxf
  have HKF := Lib.hid kf
  clear hY g hxf
  go_upto_if 160 with fail
  go_cut [22, 23, 24] from 161 to 208 (fun _ _ _ wx => SlY wx wx.heap.size u l ∧ Below w0.heap.size w0 wx)
  case first => as_aux_lemma =>
   cases D
   ·go_wp2
    go_meet
    case rel => exact ⟨HY.out, HG.out⟩
   ·obtain ⟨f1, f2, f3, f4, f5, f6, f7⟩ := HRF.out rfl
    have hq5 := isFld_r f1
    have F1 := Lib.hid f1
    have F3 := Lib.hid f3
    have F4 := Lib.hid (show ((homN Z Z : Nat) : Int) = m from by rw [f4]; omega)
    have F5 := Lib.hid (show ((extN Z Z : Nat) : Int) = m from by rw [f5]; omega)
    obtain ⟨L, hL⟩ : ∃ L, pkL Z = L := ⟨_, rfl⟩
    rw [hL] at f6 f7
    have hlen : q.toNat < L.length := by omega
    have F7 := Lib.hid f7
    clear f1 f3 f4 f5 f6 f7 HZ HRF
    obtain ⟨hm3, hm4⟩ := f2
    go_wp2_with fail
    refine (implPencilRanks_any _ Z _ HXF.out).mono ?_; rintro e w25 ⟨o, rfl, ho, hb⟩
    have hl := ho.rd
    clear ho
    rw [hL] at hl
    clear hL
    have hY := HY.out
    have g := HG.out
    have hxf := HXF.out
    clear HY HG HXF HKF
    replace g := bthen g hb
    replace hY := SlY.next hb hY
    replace hxf := RpR.next hb hxf
    replace kf := kf.call hb
    replace yf0 := kf.cell' (i := 0) rfl
    replace yf1 := kf.cell' (i := 1) rfl
    replace yf2 := kf.cell' (i := 2) rfl
    replace yf3 := kf.cell' (i := 3) rfl
    replace yf4 := kf.cell' (i := 4) rfl
    replace yf5 := kf.cell' (i := 5) rfl
    clear hb
    obtain ⟨AL, cL, rfl, _, _, hl4, hl⟩ := hl.open_
    have HY := Lib.hid hY
    have HG := Lib.hid g
    have HXF := Lib.hid hxf
    clear hY g hxf
    go_wp2
    go_loopw [23, 24] (fun iv _ wr => ∃ k : Nat, k ≤ q.toNat ∧ iv = .int .i64 k ∧ wr = w25) (fun iv _ _ => q.toNat - (intOf iv).toNat)
    case atStart => exact ⟨0, Nat.zero_le _, rfl, rfl⟩
    case round =>
     obtain ⟨k, hk, rfl, hww⟩ := hrel
     replace hww := hww.symm
     subst hww
     by_cases hlt : (k : Int) < q
     ·obtain ⟨b, o, x, rfl, hb, HXx, c1, _⟩ := SlI.at_ hl (show k < L.length by omega)
      have hx := F7.out k (by omega)
      rw [List.getD_eq_getElem?_getD, HXx.out, Option.getD_some] at hx
      obtain ⟨P, hP⟩ : ∃ P, (k : Int) * kk = P := ⟨_, rfl⟩
      rw [hP] at hx
      have hP1 : -5 ≤ P ∧ P ≤ 20 := by
       rw [← hP]
       have hk5 : (k : Int) ≤ 4 := by omega
       have hkk : kk = -1 ∨ kk = 0 ∨ kk = 1 ∨ kk = 2 ∨ kk = 3 ∨ kk = 4 := by omega
       rcases hkk with rfl | rfl | rfl | rfl | rfl | rfl <;> omega
      have hwP : wrap64 ((k : Int) * kk) = P := by rw [hP]; unfold wrap64; omega
      obtain ⟨hP1, hP2⟩ := hP1
      clear hP hl HXx
      obtain ⟨Rm, hRm⟩ : ∃ R, (1 + P) % q = R := ⟨_, rfl⟩
      rw [hRm] at hx
      have HRm := Lib.hid hRm
      have HX := Lib.hid hx
      clear hRm hx
      go_wp2_with fail
      refine (specReduceMod_any q (1 + P) _ F1.out ⟨by omega, by omega⟩).mono ?_; rintro e wq ⟨rfl, hww⟩
      replace hww := hww.symm
      subst hww
      rw [HRm.out]
      clear HRm hwP
      by_cases hR : Rm = 0
      ·subst hR
       obtain rfl : x = m - 1 := by have := HX.out; simpa using this
       go_wp2
       go_roundw
       case rel => exact ⟨k + 1, by omega, by go_num, by trivial⟩
       case measure => simp [intOf]; omega
      ·have hb1 : (Rm == 0) = false := by simpa using hR
       obtain rfl : x = m := by have := HX.out; rwa [if_neg hR] at this
       clear hR
       go_wp2
       go_roundw
       case rel => exact ⟨k + 1, by omega, by go_num, by trivial⟩
       case measure => simp [intOf]; omega
     ·clear hl
      go_wp2_with fail
      refine (implHomDim_any _ _ Z Z _ HXF.out HXF.out F3.out).mono ?_; rintro e w26 ⟨rfl, hb⟩
      rw [F4.out]
      have hY := HY.out
      have g := HG.out
      have hxf := HXF.out
      clear HY HG HXF
      replace g := bthen g hb
      replace hY := SlY.next hb hY
      replace hxf := RpR.next hb hxf
      replace kf := kf.call hb
      replace yf0 := kf.cell' (i := 0) rfl
      replace yf1 := kf.cell' (i := 1) rfl
      replace yf2 := kf.cell' (i := 2) rfl
      replace yf3 := kf.cell' (i := 3) rfl
      replace yf4 := kf.cell' (i := 4) rfl
      replace yf5 := kf.cell' (i := 5) rfl
      clear hb
      go_wp2_with fail
      refine (implExtDim_any _ _ Z Z _ hxf hxf F3.out).mono ?_; rintro e w27 ⟨rfl, hb⟩
      rw [F5.out]
      have HYF := Lib.hid (SlY.next hb hY)
      have HGF := Lib.hid (bthen g hb)
      clear hb hY g hxf kf yf0 yf1 yf2 yf3 yf4 yf5
      go_wp2
      go_meet
      case rel => exact ⟨HYF.out, HGF.out⟩
  case rest => as_aux_lemma =>
   clear HY HG HXF HKF HZ HRF kf
   obtain ⟨hY, g⟩ := hcut
   obtain ⟨v0, hv0⟩ : ∃ z, z = wc := ⟨_, rfl⟩
   subst hv0
   go_wp2_with fail
   refine (drawPencilAt_any u l _ hY).mono ?_; rintro e v1 h; unfold PatP at h; obtain ⟨vr, R, x1, x2, rfl, hxr, hi1, hi2, hb⟩ := h
   replace g := bthen g hb
   replace hY := SlY.next hb hY
   clear hb
   obtain ⟨Ar, ar, Cr, cr, Er, er, Hr, qr, rfl⟩ := hxr.form
   obtain ⟨V2, hV2⟩ : ∃ z, v1.alloc (.cells #[.int .i64 R.p, .int .i64 R.q.v, .slice Ar R.q.f.length ar, .slice Cr R.q.t.length cr, .slice Er R.d.length er, .slice Hr R.m.length qr] 31) = z := ⟨_, rfl⟩
   have ga : Below v1.heap.size v1 V2 := by rw [← hV2]; exact below_alloc _ _
   obtain ⟨bkr, hbkr⟩ : ∃ z, v1.heap.size = z := ⟨_, rfl⟩
   have kr : Blk V2 bkr 31 #[.int .i64 R.p, .int .i64 R.q.v, .slice Ar R.q.f.length ar, .slice Cr R.q.t.length cr, .slice Er R.d.length er, .slice Hr R.m.length qr] := by rw [← hV2, ← hbkr]; exact Blk.new _ _ _
   replace g := bthen g ga
   replace hY := SlY.next ga hY
   replace hxr := RpR.next ga hxr
   clear ga
   have yr0 := kr.cell' (i := 0) rfl
   have yr1 := kr.cell' (i := 1) rfl
   have yr2 := kr.cell' (i := 2) rfl
   have yr3 := kr.cell' (i := 3) rfl
   have yr4 := kr.cell' (i := 4) rfl
   have yr5 := kr.cell' (i := 5) rfl
   obtain ⟨⟨M, P⟩, hM⟩ : ∃ z, pAtP R x1 x2 = z := ⟨_, rfl⟩
   have HM := Lib.hid hM
   clear hM
   go_wp2_with fail
   clear hV2 hbkr
   refine (implPencilAt_any _ R x1 x2 _ hxr hi1 hi2).mono ?_; rintro e w30 ⟨rg, rfl, hrg, hb⟩
   rw [HM.out] at hrg ⊢
   simp only at hrg ⊢
   replace g := bthen g hb
   replace hY := SlY.next hb hY
   replace hxr := RpR.next hb hxr
   replace kr := kr.call hb
   replace yr0 := kr.cell' (i := 0) rfl
   replace yr1 := kr.cell' (i := 1) rfl
   replace yr2 := kr.cell' (i := 2) rfl
   replace yr3 := kr.cell' (i := 3) rfl
   replace yr4 := kr.cell' (i := 4) rfl
   replace yr5 := kr.cell' (i := 5) rfl
   clear hb
   have hxg := hrg.rd
   clear hrg
   obtain ⟨Ag, ag, rfl⟩ := hxg.form
   obtain ⟨W31, hW31⟩ : ∃ z, w30.alloc (.cells #[.int .i64 M.r, .int .i64 M.c, .slice Ag M.a.length ag] 44) = z := ⟨_, rfl⟩
   have ga : Below w30.heap.size w30 W31 := by rw [← hW31]; exact below_alloc _ _
   obtain ⟨bkg, hbkg⟩ : ∃ z, w30.heap.size = z := ⟨_, rfl⟩
   have kg : Blk W31 bkg 44 #[.int .i64 M.r, .int .i64 M.c, .slice Ag M.a.length ag] := by rw [← hW31, ← hbkg]; exact Blk.new _ _ _
   replace g := bthen g ga
   replace hY := SlY.next ga hY
   replace hxr := RpR.next ga hxr
   replace kr := kr.call ga
   replace yr0 := kr.cell' (i := 0) rfl
   replace yr1 := kr.cell' (i := 1) rfl
   replace yr2 := kr.cell' (i := 2) rfl
   replace yr3 := kr.cell' (i := 3) rfl
   replace yr4 := kr.cell' (i := 4) rfl
   replace yr5 := kr.cell' (i := 5) rfl
   replace hxg := MxR.next ga hxg
   clear ga
   have yg0 := kg.cell' (i := 0) rfl
   have yg1 := kg.cell' (i := 1) rfl
   have yg2 := kg.cell' (i := 2) rfl
   go_wp2_with fail
   clear hW31 hbkg
   refine (specPencilAt_any _ R x1 x2 _ hxr hi1 hi2).mono ?_; rintro e w32 ⟨rh, rfl, hrh, hb⟩
   rw [HM.out] at hrh ⊢
   simp only at hrh ⊢
   replace g := bthen g hb
   replace hY := SlY.next hb hY
   replace hxr := RpR.next hb hxr
   replace kr := kr.call hb
   replace yr0 := kr.cell' (i := 0) rfl
   replace yr1 := kr.cell' (i := 1) rfl
   replace yr2 := kr.cell' (i := 2) rfl
   replace yr3 := kr.cell' (i := 3) rfl
   replace yr4 := kr.cell' (i := 4) rfl
   replace yr5 := kr.cell' (i := 5) rfl
   replace hxg := MxR.next hb hxg
   replace kg := kg.call hb
   replace yg0 := kg.cell' (i := 0) rfl
   replace yg1 := kg.cell' (i := 1) rfl
   replace yg2 := kg.cell' (i := 2) rfl
   clear hb
   have hxh := hrh.rd
   clear hrh
   obtain ⟨Ah, ah, rfl⟩ := hxh.form
   obtain ⟨W33, hW33⟩ : ∃ z, w32.alloc (.cells #[.int .i64 M.r, .int .i64 M.c, .slice Ah M.a.length ah] 44) = z := ⟨_, rfl⟩
   have ga : Below w32.heap.size w32 W33 := by rw [← hW33]; exact below_alloc _ _
   obtain ⟨bkh, hbkh⟩ : ∃ z, w32.heap.size = z := ⟨_, rfl⟩
   have kh : Blk W33 bkh 44 #[.int .i64 M.r, .int .i64 M.c, .slice Ah M.a.length ah] := by rw [← hW33, ← hbkh]; exact Blk.new _ _ _
   replace g := bthen g ga
   replace hY := SlY.next ga hY
   replace hxr := RpR.next ga hxr
   replace kr := kr.call ga
   replace yr0 := kr.cell' (i := 0) rfl
   replace yr1 := kr.cell' (i := 1) rfl
   replace yr2 := kr.cell' (i := 2) rfl
   replace yr3 := kr.cell' (i := 3) rfl
   replace yr4 := kr.cell' (i := 4) rfl
   replace yr5 := kr.cell' (i := 5) rfl
   replace hxg := MxR.next ga hxg
   replace kg := kg.call ga
   replace yg0 := kg.cell' (i := 0) rfl
   replace yg1 := kg.cell' (i := 1) rfl
   replace yg2 := kg.cell' (i := 2) rfl
   replace hxh := MxR.next ga hxh
   clear ga
   have yh0 := kh.cell' (i := 0) rfl
   have yh1 := kh.cell' (i := 1) rfl
   have yh2 := kh.cell' (i := 2) rfl
   go_wp2_with fail
   clear hW33 hbkh
   refine (drawPencilOf_any u l _ hY).mono ?_; rintro e v3 h; unfold TwoM at h; obtain ⟨i, vj, J, vl, K, rfl, hi, hj0, hl0, hj1, hl1, hb⟩ := h
   replace g := bthen g hb
   replace hY := SlY.next hb hY
   replace hxr := RpR.next hb hxr
   replace kr := kr.call hb
   replace yr0 := kr.cell' (i := 0) rfl
   replace yr1 := kr.cell' (i := 1) rfl
   replace yr2 := kr.cell' (i := 2) rfl
   replace yr3 := kr.cell' (i := 3) rfl
   replace yr4 := kr.cell' (i := 4) rfl
   replace yr5 := kr.cell' (i := 5) rfl
   replace hxg := MxR.next hb hxg
   replace kg := kg.call hb
   replace yg0 := kg.cell' (i := 0) rfl
   replace yg1 := kg.cell' (i := 1) rfl
   replace yg2 := kg.cell' (i := 2) rfl
   replace hxh := MxR.next hb hxh
   replace kh := kh.call hb
   replace yh0 := kh.cell' (i := 0) rfl
   replace yh1 := kh.cell' (i := 1) rfl
   replace yh2 := kh.cell' (i := 2) rfl
   clear hb hY
   have hxj := hj0.rd
   have hxl := hl0.rd
   clear hj0 hl0
   obtain ⟨Aj, aj, rfl⟩ := hxj.form
   obtain ⟨Al, al, rfl⟩ := hxl.form
   obtain ⟨gv, hgv⟩ : ∃ z, v3.heap.size = z := ⟨_, rfl⟩
   obtain ⟨V4, hV4⟩ : ∃ z, (v3.alloc (.cells #[.int .i64 0, .int .i64 0, .slice none 0 0] 44)).alloc (.cells #[.int .i64 0, .int .i64 0, .slice none 0 0] 44) = z := ⟨_, rfl⟩
   have ga : Below v3.heap.size v3 V4 := by rw [← hV4]; exact ((Below.refl _ _).alloc (Nat.le_refl _) _).alloc (by simp) _
   have k1j : Blk V4 gv 44 #[.int .i64 0, .int .i64 0, .slice none 0 0] := by rw [← hV4, ← hgv]; exact (Blk.new _ _ _).alloc _
   have k1l : Blk V4 (gv + 1) 44 #[.int .i64 0, .int .i64 0, .slice none 0 0] := by
    rw [← hV4, ← hgv]
    have := Blk.new (v3.alloc (.cells #[.int .i64 0, .int .i64 0, .slice none 0 0] 44)) 44 #[.int .i64 0, .int .i64 0, .slice none 0 0]
    simpa only [World.size_alloc] using this
   have f1j := k1j.frozen
   have f1l := k1l.frozen
   have y1j0 := k1j.cell' (i := 0) rfl
   have y1j1 := k1j.cell' (i := 1) rfl
   have y1j2 := k1j.cell' (i := 2) rfl
   have y1l0 := k1l.cell' (i := 0) rfl
   have y1l1 := k1l.cell' (i := 1) rfl
   have y1l2 := k1l.cell' (i := 2) rfl
   obtain ⟨V5, hV5⟩ : ∃ z, (((((V4.setCell ⟨gv, 0, none⟩ (.int .i64 J.r)).setCell ⟨gv, 1, none⟩ (.int .i64 J.c)).setCell ⟨gv, 2, none⟩ (.slice Aj J.a.length aj)).setCell ⟨gv + 1, 0, none⟩ (.int .i64 K.r)).setCell ⟨gv + 1, 1, none⟩ (.int .i64 K.c)).setCell ⟨gv + 1, 2, none⟩ (.slice Al K.a.length al) = z := ⟨_, rfl⟩
   have hs0 := ga.size
   have gb : Below v3.heap.size v3 V5 := by rw [← hV5, hgv]; rw [hgv] at ga; exact (((((ga.setCell (Nat.le_refl _) _).setCell (Nat.le_refl _) _).setCell (Nat.le_refl _) _).setCell (Nat.le_succ _) _).setCell (Nat.le_succ _) _).setCell (Nat.le_succ _) _
   have KJ := Lib.hid (show Blk V5 gv 44 #[.int .i64 J.r, .int .i64 J.c, .slice Aj J.a.length aj] from by
    rw [← hV5]
    exact (((((k1j.set_ 0 _).set_ 1 _).set_ 2 _).far (by simp) _).far (by simp) _).far (by simp) _)
   have KL := Lib.hid (show Blk V5 (gv + 1) 44 #[.int .i64 K.r, .int .i64 K.c, .slice Al K.a.length al] from by
    rw [← hV5]
    exact (((((k1l.far (by simp) _).far (by simp) _).far (by simp) _).set_ 0 _).set_ 1 _).set_ 2 _)
   replace g := bthen g gb
   replace hxr := RpR.next gb hxr
   replace kr := kr.call gb
   replace yr0 := kr.cell' (i := 0) rfl
   replace yr1 := kr.cell' (i := 1) rfl
   replace yr2 := kr.cell' (i := 2) rfl
   replace yr3 := kr.cell' (i := 3) rfl
   replace yr4 := kr.cell' (i := 4) rfl
   replace yr5 := kr.cell' (i := 5) rfl
   replace hxg := MxR.next gb hxg
   replace kg := kg.call gb
   replace yg0 := kg.cell' (i := 0) rfl
   replace yg1 := kg.cell' (i := 1) rfl
   replace yg2 := kg.cell' (i := 2) rfl
   replace hxh := MxR.next gb hxh
   replace kh := kh.call gb
   replace yh0 := kh.cell' (i := 0) rfl
   replace yh1 := kh.cell' (i := 1) rfl
   replace yh2 := kh.cell' (i := 2) rfl
   replace hxj := MxR.next gb hxj
   replace hxl := MxR.next gb hxl
   clear gb
   have kj := KJ.out
   have kl := KL.out
   clear KJ KL
   have fj := kj.frozen
   have fl := kl.frozen
   have zj0 := kj.cell' (i := 0) rfl
   have zj1 := kj.cell' (i := 1) rfl
   have zj2 := kj.cell' (i := 2) rfl
   have zl0 := kl.cell' (i := 0) rfl
   have zl1 := kl.cell' (i := 1) rfl
   have zl2 := kl.cell' (i := 2) rfl
   obtain ⟨⟨O, Q⟩, hO⟩ : ∃ z, penOf i J K = z := ⟨_, rfl⟩
   have HO := Lib.hid hO
   clear hO
   go_wp2_with fail
   clear hV4 hV5 hgv k1j k1l f1j f1l y1j0 y1j1 y1j2 y1l0 y1l1 y1l2 fj fl
   refine (implPencilOf_any i _ J _ K _ hi hxj hxl).mono ?_; rintro e w40 ⟨ro, rfl, hro, hb⟩
   rw [HO.out] at hro ⊢
   simp only at hro ⊢
   replace g := bthen g hb
   replace hxr := RpR.next hb hxr
   replace kr := kr.call hb
   replace yr0 := kr.cell' (i := 0) rfl
   replace yr1 := kr.cell' (i := 1) rfl
   replace yr2 := kr.cell' (i := 2) rfl
   replace yr3 := kr.cell' (i := 3) rfl
   replace yr4 := kr.cell' (i := 4) rfl
   replace yr5 := kr.cell' (i := 5) rfl
   replace hxg := MxR.next hb hxg
   replace kg := kg.call hb
   replace yg0 := kg.cell' (i := 0) rfl
   replace yg1 := kg.cell' (i := 1) rfl
   replace yg2 := kg.cell' (i := 2) rfl
   replace hxh := MxR.next hb hxh
   replace kh := kh.call hb
   replace yh0 := kh.cell' (i := 0) rfl
   replace yh1 := kh.cell' (i := 1) rfl
   replace yh2 := kh.cell' (i := 2) rfl
   replace hxj := MxR.next hb hxj
   replace hxl := MxR.next hb hxl
   replace kj := kj.call hb
   replace zj0 := kj.cell' (i := 0) rfl
   replace zj1 := kj.cell' (i := 1) rfl
   replace zj2 := kj.cell' (i := 2) rfl
   replace kl := kl.call hb
   replace zl0 := kl.cell' (i := 0) rfl
   replace zl1 := kl.cell' (i := 1) rfl
   replace zl2 := kl.cell' (i := 2) rfl
   clear hb
   have hxo := hro.rd
   clear hro
   obtain ⟨Ao, ao, Co, co, Eo, eo, Ho, qo, rfl⟩ := hxo.form
   obtain ⟨W41, hW41⟩ : ∃ z, w40.alloc (.cells #[.int .i64 O.p, .int .i64 O.q.v, .slice Ao O.q.f.length ao, .slice Co O.q.t.length co, .slice Eo O.d.length eo, .slice Ho O.m.length qo] 31) = z := ⟨_, rfl⟩
   have ga : Below w40.heap.size w40 W41 := by rw [← hW41]; exact below_alloc _ _
   obtain ⟨bko, hbko⟩ : ∃ z, w40.heap.size = z := ⟨_, rfl⟩
   have ko : Blk W41 bko 31 #[.int .i64 O.p, .int .i64 O.q.v, .slice Ao O.q.f.length ao, .slice Co O.q.t.length co, .slice Eo O.d.length eo, .slice Ho O.m.length qo] := by rw [← hW41, ← hbko]; exact Blk.new _ _ _
   replace g := bthen g ga
   replace hxr := RpR.next ga hxr
   replace kr := kr.call ga
   replace yr0 := kr.cell' (i := 0) rfl
   replace yr1 := kr.cell' (i := 1) rfl
   replace yr2 := kr.cell' (i := 2) rfl
   replace yr3 := kr.cell' (i := 3) rfl
   replace yr4 := kr.cell' (i := 4) rfl
   replace yr5 := kr.cell' (i := 5) rfl
   replace hxg := MxR.next ga hxg
   replace kg := kg.call ga
   replace yg0 := kg.cell' (i := 0) rfl
   replace yg1 := kg.cell' (i := 1) rfl
   replace yg2 := kg.cell' (i := 2) rfl
   replace hxh := MxR.next ga hxh
   replace kh := kh.call ga
   replace yh0 := kh.cell' (i := 0) rfl
   replace yh1 := kh.cell' (i := 1) rfl
   replace yh2 := kh.cell' (i := 2) rfl
   replace hxj := MxR.next ga hxj
   replace hxl := MxR.next ga hxl
   replace kj := kj.call ga
   replace zj0 := kj.cell' (i := 0) rfl
   replace zj1 := kj.cell' (i := 1) rfl
   replace zj2 := kj.cell' (i := 2) rfl
   replace kl := kl.call ga
   replace zl0 := kl.cell' (i := 0) rfl
   replace zl1 := kl.cell' (i := 1) rfl
   replace zl2 := kl.cell' (i := 2) rfl
   replace hxo := RpR.next ga hxo
   clear ga
   have yo0 := ko.cell' (i := 0) rfl
   have yo1 := ko.cell' (i := 1) rfl
   have yo2 := ko.cell' (i := 2) rfl
   have yo3 := ko.cell' (i := 3) rfl
   have yo4 := ko.cell' (i := 4) rfl
   have yo5 := ko.cell' (i := 5) rfl
   go_wp2_with fail
   clear hW41 hbko
   refine (specPencilOf_any i _ J _ K _ hi hxj hxl).mono ?_; rintro e w42 ⟨rz, rfl, hrz, hb⟩
   rw [HO.out] at hrz ⊢
   simp only at hrz ⊢
   replace g := bthen g hb
   replace hxr := RpR.next hb hxr
   replace kr := kr.call hb
   replace yr0 := kr.cell' (i := 0) rfl
   replace yr1 := kr.cell' (i := 1) rfl
   replace yr2 := kr.cell' (i := 2) rfl
   replace yr3 := kr.cell' (i := 3) rfl
   replace yr4 := kr.cell' (i := 4) rfl
   replace yr5 := kr.cell' (i := 5) rfl
   replace hxg := MxR.next hb hxg
   replace kg := kg.call hb
   replace yg0 := kg.cell' (i := 0) rfl
   replace yg1 := kg.cell' (i := 1) rfl
   replace yg2 := kg.cell' (i := 2) rfl
   replace hxh := MxR.next hb hxh
   replace kh := kh.call hb
   replace yh0 := kh.cell' (i := 0) rfl
   replace yh1 := kh.cell' (i := 1) rfl
   replace yh2 := kh.cell' (i := 2) rfl
   replace hxj := MxR.next hb hxj
   replace hxl := MxR.next hb hxl
   replace kj := kj.call hb
   replace zj0 := kj.cell' (i := 0) rfl
   replace zj1 := kj.cell' (i := 1) rfl
   replace zj2 := kj.cell' (i := 2) rfl
   replace kl := kl.call hb
   replace zl0 := kl.cell' (i := 0) rfl
   replace zl1 := kl.cell' (i := 1) rfl
   replace zl2 := kl.cell' (i := 2) rfl
   replace hxo := RpR.next hb hxo
   replace ko := ko.call hb
   replace yo0 := ko.cell' (i := 0) rfl
   replace yo1 := ko.cell' (i := 1) rfl
   replace yo2 := ko.cell' (i := 2) rfl
   replace yo3 := ko.cell' (i := 3) rfl
   replace yo4 := ko.cell' (i := 4) rfl
   replace yo5 := ko.cell' (i := 5) rfl
   clear hb
   have hxz := hrz.rd
   clear hrz
   obtain ⟨Az, az, Cz, cz, Ez, ez, Hz, qz, rfl⟩ := hxz.form
   obtain ⟨W43, hW43⟩ : ∃ z, w42.alloc (.cells #[.int .i64 O.p, .int .i64 O.q.v, .slice Az O.q.f.length az, .slice Cz O.q.t.length cz, .slice Ez O.d.length ez, .slice Hz O.m.length qz] 31) = z := ⟨_, rfl⟩
   have ga : Below w42.heap.size w42 W43 := by rw [← hW43]; exact below_alloc _ _
   obtain ⟨bkz, hbkz⟩ : ∃ z, w42.heap.size = z := ⟨_, rfl⟩
   have kz : Blk W43 bkz 31 #[.int .i64 O.p, .int .i64 O.q.v, .slice Az O.q.f.length az, .slice Cz O.q.t.length cz, .slice Ez O.d.length ez, .slice Hz O.m.length qz] := by rw [← hW43, ← hbkz]; exact Blk.new _ _ _
   replace g := bthen g ga
   replace hxr := RpR.next ga hxr
   replace kr := kr.call ga
   replace yr0 := kr.cell' (i := 0) rfl
   replace yr1 := kr.cell' (i := 1) rfl
   replace yr2 := kr.cell' (i := 2) rfl
   replace yr3 := kr.cell' (i := 3) rfl
   replace yr4 := kr.cell' (i := 4) rfl
   replace yr5 := kr.cell' (i := 5) rfl
   replace hxg := MxR.next ga hxg
   replace kg := kg.call ga
   replace yg0 := kg.cell' (i := 0) rfl
   replace yg1 := kg.cell' (i := 1) rfl
   replace yg2 := kg.cell' (i := 2) rfl
   replace hxh := MxR.next ga hxh
   replace kh := kh.call ga
   replace yh0 := kh.cell' (i := 0) rfl
   replace yh1 := kh.cell' (i := 1) rfl
   replace yh2 := kh.cell' (i := 2) rfl
   replace hxj := MxR.next ga hxj
   replace hxl := MxR.next ga hxl
   replace kj := kj.call ga
   replace zj0 := kj.cell' (i := 0) rfl
   replace zj1 := kj.cell' (i := 1) rfl
   replace zj2 := kj.cell' (i := 2) rfl
   replace kl := kl.call ga
   replace zl0 := kl.cell' (i := 0) rfl
   replace zl1 := kl.cell' (i := 1) rfl
   replace zl2 := kl.cell' (i := 2) rfl
   replace hxo := RpR.next ga hxo
   replace ko := ko.call ga
   replace yo0 := ko.cell' (i := 0) rfl
   replace yo1 := ko.cell' (i := 1) rfl
   replace yo2 := ko.cell' (i := 2) rfl
   replace yo3 := ko.cell' (i := 3) rfl
   replace yo4 := ko.cell' (i := 4) rfl
   replace yo5 := ko.cell' (i := 5) rfl
   replace hxz := RpR.next ga hxz
   clear ga
   have yz0 := kz.cell' (i := 0) rfl
   have yz1 := kz.cell' (i := 1) rfl
   have yz2 := kz.cell' (i := 2) rfl
   have yz3 := kz.cell' (i := 3) rfl
   have yz4 := kz.cell' (i := 4) rfl
   have yz5 := kz.cell' (i := 5) rfl
   have HG := Lib.hid g
   have HMG := Lib.hid hxg
   have HMH := Lib.hid hxh
   have HXO := Lib.hid hxo
   have HXS := Lib.hid hxz
   have HXR := Lib.hid hxr
   have KG := Lib.hid kg
   have KH := Lib.hid kh
   have KO := Lib.hid ko
   have KS := Lib.hid kz
   have KR := Lib.hid kr
   clear g hxg hxh hxo hxz hxr kg kh ko kz kr hxj hxl kj kl hi hi1 hi2 HO HM
   clear yg0 yg1 yg2 yh0 yh1 yh2 yo0 yo1 yo2 yo3 yo4 yo5 yz0 yz1 yz2 yz3 yz4 yz5 yr0 yr1 yr2 yr3 yr4 yr5 zj0 zj1 zj2 zl0 zl1 zl2
   go_upto_region 40 with fail
   clear hW43 hbkz
   refine wp_region_netU (by kernel_rfl) (.eq (.bool P) :: .eq (.bool P) :: .eq (.bool true) :: .eq (.bool true) :: .eq (.agg #[.int .i64 M.r, .int .i64 M.c, .slice Ag M.a.length ag]) :: .eq (.agg #[.int .i64 M.r, .int .i64 M.c, .slice Ah M.a.length ah]) :: .eq (.bool true) :: .eq (.bool true) :: .eq (.bool true) :: .eq (.bool Q) :: .eq (.bool Q) :: .eq (.bool true) :: .eq (.bool true) :: .eq (.bool true) :: .eq (.agg #[.int .i64 O.p, .int .i64 O.q.v, .slice Ao O.q.f.length ao, .slice Co O.q.t.length co, .slice Eo O.d.length eo, .slice Ho O.m.length qo]) :: .eq (.agg #[.int .i64 O.p, .int .i64 O.q.v, .slice Az O.q.f.length az, .slice Cz O.q.t.length cz, .slice Ez O.d.length ez, .slice Hz O.m.length qz]) :: .eq (.bool true) :: .eq (.bool true) :: .eq (.bool true) :: .eq (.agg #[.int .i64 R.p, .int .i64 R.q.v, .slice Ar R.q.f.length ar, .slice Cr R.q.t.length cr, .slice Er R.d.length er, .slice Hr R.m.length qr]) :: .eq (.bool (isPen R)) :: .eq (.agg #[.int .i64 R.p, .int .i64 R.q.v, .slice Ar R.q.f.length ar, .slice Cr R.q.t.length cr, .slice Er R.d.length er, .slice Hr R.m.length qr]) :: .eq (.bool (isPen R)) :: .eq (.bool true) :: .eq (.bool true) :: .eq (.bool true) :: .eq (.agg #[.int .i64 R.p, .int .i64 R.q.v, .slice Ar R.q.f.length ar, .slice Cr R.q.t.length cr, .slice Er R.d.length er, .slice Hr R.m.length qr]) :: rel 27 (fun u lo hi w => SlI w w.heap.size u (pkL R)) :: .eq (.agg #[.int .i64 R.p, .int .i64 R.q.v, .slice Ar R.q.f.length ar, .slice Cr R.q.t.length cr, .slice Er R.d.length er, .slice Hr R.m.length qr]) :: rel 29 (fun u lo hi w => SlI w w.heap.size u (pkL R)) :: .eq (.bool true) :: .eq (.bool true) :: .eq (.bool true) :: []) [[], [], [0, 1], [0, 1, 2], [0, 1, 2, 3], [0, 1, 2, 3], [0, 1, 2, 3, 4, 5], [0, 1, 2, 3, 4, 5, 6], [0, 1, 2, 3, 4, 5, 6, 7], [0, 1, 2, 3, 4, 5, 6, 7, 8], [0, 1, 2, 3, 4, 5, 6, 7, 8], [0, 1, 2, 3, 4, 5, 6, 7, 8, 9, 10], [0, 1, 2, 3, 4, 5, 6, 7, 8, 9, 10, 11], [0, 1, 2, 3, 4, 5, 6, 7, 8, 9, 10, 11, 12], [0, 1, 2, 3, 4, 5, 6, 7, 8, 9, 10, 11, 12, 13], [0, 1, 2, 3, 4, 5, 6, 7, 8, 9, 10, 11, 12, 13], [0, 1, 2, 3, 4, 5, 6, 7, 8, 9, 10, 11, 12, 13, 14, 15], [0, 1, 2, 3, 4, 5, 6, 7, 8, 9, 10, 11, 12, 13, 14, 15, 16], [0, 1, 2, 3, 4, 5, 6, 7, 8, 9, 10, 11, 12, 13, 14, 15, 16, 17], [0, 1, 2, 3, 4, 5, 6, 7, 8, 9, 10, 11, 12, 13, 14, 15, 16, 17, 18], [0, 1, 2, 3, 4, 5, 6, 7, 8, 9, 10, 11, 12, 13, 14, 15, 16, 17, 18, 19], [0, 1, 2, 3, 4, 5, 6, 7, 8, 9, 10, 11, 12, 13, 14, 15, 16, 17, 18], [0, 1, 2, 3, 4, 5, 6, 7, 8, 9, 10, 11, 12, 13, 14, 15, 16, 17, 18, 19, 20, 21], [0, 1, 2, 3, 4, 5, 6, 7, 8, 9, 10, 11, 12, 13, 14, 15, 16, 17, 18, 19, 20, 21, 22], [0, 1, 2, 3, 4, 5, 6, 7, 8, 9, 10, 11, 12, 13, 14, 15, 16, 17, 18, 19, 20, 21, 22, 23], [0, 1, 2, 3, 4, 5, 6, 7, 8, 9, 10, 11, 12, 13, 14, 15, 16, 17, 18, 19, 20, 21, 22, 23, 24], [0, 1, 2, 3, 4, 5, 6, 7, 8, 9, 10, 11, 12, 13, 14, 15, 16, 17, 18, 19, 20, 21, 22, 23, 24, 25], [0, 1, 2, 3, 4, 5, 6, 7, 8, 9, 10, 11, 12, 13, 14, 15, 16, 17, 18, 19, 20, 21, 22, 23, 24, 25, 26], [0, 1, 2, 3, 4, 5, 6, 7, 8, 9, 10, 11, 12, 13, 14, 15, 16, 17, 18, 19, 20, 21, 22, 23, 24, 25], [0, 1, 2, 3, 4, 5, 6, 7, 8, 9, 10, 11, 12, 13, 14, 15, 16, 17, 18, 19, 20, 21, 22, 23, 24, 25, 26, 27, 28], [0, 1, 2, 3, 4, 5, 6, 7, 8, 9, 10, 11, 12, 13, 14, 15, 16, 17, 18, 19, 20, 21, 22, 23, 24, 25, 26, 27, 28, 29], [0, 1, 2, 3, 4, 5, 6, 7, 8, 9, 10, 11, 12, 13, 14, 15, 16, 17, 18, 19, 20, 21, 22, 23, 24, 25, 26, 27, 28, 29, 30], [0, 1, 2, 3, 4, 5, 6, 7, 8, 9, 10, 11, 12, 13, 14, 15, 16, 17, 18, 19, 20, 21, 22, 23, 24, 25, 26, 27, 28, 29, 30, 31]] 33 (by kernel_rfl) ⟨trivial, trivial, trivial, trivial, trivial, trivial, trivial, trivial, trivial, trivial, trivial, trivial, trivial, trivial, trivial, trivial, trivial, trivial, trivial, trivial, trivial, trivial, trivial, trivial, trivial, trivial, trivial, rel_stable (fun u lo hi w w' h hb => SlI.next hb h), trivial, rel_stable (fun u lo hi w w' h hb => SlI.next hb h), trivial, trivial, trivial, trivial⟩ ⟨?_, ?_, ?_, ?_, ?_, ?_, ?_, ?_, ?_, ?_, ?_, ?_, ?_, ?_, ?_, ?_, ?_, ?_, ?_, ?_, ?_, ?_, ?_, ?_, ?_, ?_, ?_, ?_, ?_, ?_, ?_, ?_, ?_, trivial⟩ ?_
   ·intro x w hb hk Q' hQ
    clear hk
    simp only [netE] at hQ ⊢
    go_wp2
    exact hQ _ _ (Below.refl _ _) rfl
   ·intro x w hb hk Q' hQ
    clear hk
    simp only [netE] at hQ ⊢
    go_wp2
    exact hQ _ _ (Below.refl _ _) rfl
   ·intro x w hb hk Q' hQ
    have h0 : x.v 0 = _ := (hk 0 (by decide)).1
    have h1 : x.v 1 = _ := (hk 1 (by decide)).1
    clear hk
    simp only [netE] at hQ ⊢
    simp only [h0, h1] at hQ ⊢
    clear h0 h1
    have e1 : (P == P) = true := by simp
    go_wp2
    exact hQ _ _ (Below.refl _ _) rfl
   ·intro x w hb hk Q' hQ
    have h2 : x.v 2 = _ := (hk 2 (by decide)).1
    clear hk
    simp only [netE] at hQ ⊢
    simp only [h2] at hQ ⊢
    clear h2
    go_wp2
    exact hQ _ _ (Below.refl _ _) rfl
   ·intro x w hb hk Q' hQ
    have h3 : x.v 3 = _ := (hk 3 (by decide)).1
    clear hk
    simp only [netE] at hQ ⊢
    simp only [h3] at hQ ⊢
    clear h3
    have e0 := (KG.out.call hb)
    have z0 := e0.cell' (i := 0) rfl
    have z1 := e0.cell' (i := 1) rfl
    have z2 := e0.cell' (i := 2) rfl
    clear e0
    go_wp2
    exact hQ _ _ (Below.refl _ _) rfl
   ·intro x w hb hk Q' hQ
    have h3 : x.v 3 = _ := (hk 3 (by decide)).1
    clear hk
    simp only [netE] at hQ ⊢
    simp only [h3] at hQ ⊢
    clear h3
    have e0 := (KH.out.call hb)
    have z0 := e0.cell' (i := 0) rfl
    have z1 := e0.cell' (i := 1) rfl
    have z2 := e0.cell' (i := 2) rfl
    clear e0
    go_wp2
    exact hQ _ _ (Below.refl _ _) rfl
   ·intro x w hb hk Q' hQ
    have h3 : x.v 3 = _ := (hk 3 (by decide)).1
    have h4 : x.v 4 = _ := (hk 4 (by decide)).1
    have h5 : x.v 5 = _ := (hk 5 (by decide)).1
    clear hk
    simp only [netE] at hQ ⊢
    simp only [h3, h4, h5] at hQ ⊢
    clear h3 h4 h5
    go_wp2_with fail
    refine (specEqualMatrices_same _ _ M _ (MxR.next hb HMG.out) (MxR.next hb HMH.out)).mono ?_; rintro e w8 ⟨rfl, hb8⟩
    go_wp2
    exact hQ _ _ hb8 rfl
   ·intro x w hb hk Q' hQ
    have h3 : x.v 3 = _ := (hk 3 (by decide)).1
    have h6 : x.v 6 = _ := (hk 6 (by decide)).1
    clear hk
    simp only [netE] at hQ ⊢
    simp only [h3, h6] at hQ ⊢
    clear h3 h6
    go_wp2
    exact hQ _ _ (Below.refl _ _) rfl
   ·intro x w hb hk Q' hQ
    have h7 : x.v 7 = _ := (hk 7 (by decide)).1
    clear hk
    simp only [netE] at hQ ⊢
    simp only [h7] at hQ ⊢
    clear h7
    go_wp2
    exact hQ _ _ (Below.refl _ _) rfl
   ·intro x w hb hk Q' hQ
    have h8 : x.v 8 = _ := (hk 8 (by decide)).1
    clear hk
    simp only [netE] at hQ ⊢
    simp only [h8] at hQ ⊢
    clear h8
    go_wp2
    exact hQ _ _ (Below.refl _ _) rfl
   ·intro x w hb hk Q' hQ
    have h8 : x.v 8 = _ := (hk 8 (by decide)).1
    clear hk
    simp only [netE] at hQ ⊢
    simp only [h8] at hQ ⊢
    clear h8
    go_wp2
    exact hQ _ _ (Below.refl _ _) rfl
   ·intro x w hb hk Q' hQ
    have h8 : x.v 8 = _ := (hk 8 (by decide)).1
    have h9 : x.v 9 = _ := (hk 9 (by decide)).1
    have h10 : x.v 10 = _ := (hk 10 (by decide)).1
    clear hk
    simp only [netE] at hQ ⊢
    simp only [h8, h9, h10] at hQ ⊢
    clear h8 h9 h10
    have e1 : (Q == Q) = true := by simp
    go_wp2
    exact hQ _ _ (Below.refl _ _) rfl
   ·intro x w hb hk Q' hQ
    have h8 : x.v 8 = _ := (hk 8 (by decide)).1
    have h11 : x.v 11 = _ := (hk 11 (by decide)).1
    clear hk
    simp only [netE] at hQ ⊢
    simp only [h8, h11] at hQ ⊢
    clear h8 h11
    go_wp2
    exact hQ _ _ (Below.refl _ _) rfl
   ·intro x w hb hk Q' hQ
    have h12 : x.v 12 = _ := (hk 12 (by decide)).1
    clear hk
    simp only [netE] at hQ ⊢
    simp only [h12] at hQ ⊢
    clear h12
    go_wp2
    exact hQ _ _ (Below.refl _ _) rfl
   ·intro x w hb hk Q' hQ
    have h13 : x.v 13 = _ := (hk 13 (by decide)).1
    clear hk
    simp only [netE] at hQ ⊢
    simp only [h13] at hQ ⊢
    clear h13
    have e0 := (KO.out.call hb)
    have z0 := e0.cell' (i := 0) rfl
    have z1 := e0.cell' (i := 1) rfl
    have z2 := e0.cell' (i := 2) rfl
    have z3 := e0.cell' (i := 3) rfl
    have z4 := e0.cell' (i := 4) rfl
    have z5 := e0.cell' (i := 5) rfl
    clear e0
    go_wp2
    exact hQ _ _ (Below.refl _ _) rfl
   ·intro x w hb hk Q' hQ
    have h13 : x.v 13 = _ := (hk 13 (by decide)).1
    clear hk
    simp only [netE] at hQ ⊢
    simp only [h13] at hQ ⊢
    clear h13
    have e0 := (KS.out.call hb)
    have z0 := e0.cell' (i := 0) rfl
    have z1 := e0.cell' (i := 1) rfl
    have z2 := e0.cell' (i := 2) rfl
    have z3 := e0.cell' (i := 3) rfl
    have z4 := e0.cell' (i := 4) rfl
    have z5 := e0.cell' (i := 5) rfl
    clear e0
    go_wp2
    exact hQ _ _ (Below.refl _ _) rfl
   ·intro x w hb hk Q' hQ
    have h13 : x.v 13 = _ := (hk 13 (by decide)).1
    have h14 : x.v 14 = _ := (hk 14 (by decide)).1
    have h15 : x.v 15 = _ := (hk 15 (by decide)).1
    clear hk
    simp only [netE] at hQ ⊢
    simp only [h13, h14, h15] at hQ ⊢
    clear h13 h14 h15
    go_wp2_with fail
    refine (specEqualReps_same _ _ O _ (RpR.next hb HXO.out) (RpR.next hb HXS.out)).mono ?_; rintro e w8 ⟨rfl, hb8⟩
    go_wp2
    exact hQ _ _ hb8 rfl
   ·intro x w hb hk Q' hQ
    have h13 : x.v 13 = _ := (hk 13 (by decide)).1
    have h16 : x.v 16 = _ := (hk 16 (by decide)).1
    clear hk
    simp only [netE] at hQ ⊢
    simp only [h13, h16] at hQ ⊢
    clear h13 h16
    go_wp2
    exact hQ _ _ (Below.refl _ _) rfl
   ·intro x w hb hk Q' hQ
    have h17 : x.v 17 = _ := (hk 17 (by decide)).1
    clear hk
    simp only [netE] at hQ ⊢
    simp only [h17] at hQ ⊢
    clear h17
    go_wp2
    exact hQ _ _ (Below.refl _ _) rfl
   ·intro x w hb hk Q' hQ
    have h18 : x.v 18 = _ := (hk 18 (by decide)).1
    clear hk
    simp only [netE] at hQ ⊢
    simp only [h18] at hQ ⊢
    clear h18
    have e0 := (KR.out.call hb)
    have z0 := e0.cell' (i := 0) rfl
    have z1 := e0.cell' (i := 1) rfl
    have z2 := e0.cell' (i := 2) rfl
    have z3 := e0.cell' (i := 3) rfl
    have z4 := e0.cell' (i := 4) rfl
    have z5 := e0.cell' (i := 5) rfl
    clear e0
    go_wp2
    exact hQ _ _ (Below.refl _ _) rfl
   ·intro x w hb hk Q' hQ
    have h18 : x.v 18 = _ := (hk 18 (by decide)).1
    have h19 : x.v 19 = _ := (hk 19 (by decide)).1
    clear hk
    simp only [netE] at hQ ⊢
    simp only [h18, h19] at hQ ⊢
    clear h18 h19
    go_wp2_with fail
    refine (implIsPencil_any _ R _ (RpR.next hb HXR.out)).mono ?_; rintro e w8 ⟨rfl, hb8⟩
    go_wp2
    exact hQ _ _ hb8 rfl
   ·intro x w hb hk Q' hQ
    have h18 : x.v 18 = _ := (hk 18 (by decide)).1
    clear hk
    simp only [netE] at hQ ⊢
    simp only [h18] at hQ ⊢
    clear h18
    have e0 := (KR.out.call hb)
    have z0 := e0.cell' (i := 0) rfl
    have z1 := e0.cell' (i := 1) rfl
    have z2 := e0.cell' (i := 2) rfl
    have z3 := e0.cell' (i := 3) rfl
    have z4 := e0.cell' (i := 4) rfl
    have z5 := e0.cell' (i := 5) rfl
    clear e0
    go_wp2
    exact hQ _ _ (Below.refl _ _) rfl
   ·intro x w hb hk Q' hQ
    have h18 : x.v 18 = _ := (hk 18 (by decide)).1
    have h21 : x.v 21 = _ := (hk 21 (by decide)).1
    clear hk
    simp only [netE] at hQ ⊢
    simp only [h18, h21] at hQ ⊢
    clear h18 h21
    go_wp2_with fail
    refine (specIsPencil_any _ R _ (RpR.next hb HXR.out)).mono ?_; rintro e w8 ⟨rfl, hb8⟩
    go_wp2
    exact hQ _ _ hb8 rfl
   ·intro x w hb hk Q' hQ
    have h18 : x.v 18 = _ := (hk 18 (by decide)).1
    have h20 : x.v 20 = _ := (hk 20 (by decide)).1
    have h22 : x.v 22 = _ := (hk 22 (by decide)).1
    clear hk
    simp only [netE] at hQ ⊢
    simp only [h18, h20, h22] at hQ ⊢
    clear h18 h20 h22
    have e1 : (isPen R == isPen R) = true := by simp
    go_wp2
    exact hQ _ _ (Below.refl _ _) rfl
   ·intro x w hb hk Q' hQ
    have h18 : x.v 18 = _ := (hk 18 (by decide)).1
    have h23 : x.v 23 = _ := (hk 23 (by decide)).1
    clear hk
    simp only [netE] at hQ ⊢
    simp only [h18, h23] at hQ ⊢
    clear h18 h23
    go_wp2
    exact hQ _ _ (Below.refl _ _) rfl
   ·intro x w hb hk Q' hQ
    have h24 : x.v 24 = _ := (hk 24 (by decide)).1
    clear hk
    simp only [netE] at hQ ⊢
    simp only [h24] at hQ ⊢
    clear h24
    go_wp2
    exact hQ _ _ (Below.refl _ _) rfl
   ·intro x w hb hk Q' hQ
    have h25 : x.v 25 = _ := (hk 25 (by decide)).1
    clear hk
    simp only [netE] at hQ ⊢
    simp only [h25] at hQ ⊢
    clear h25
    have e0 := (KR.out.call hb)
    have z0 := e0.cell' (i := 0) rfl
    have z1 := e0.cell' (i := 1) rfl
    have z2 := e0.cell' (i := 2) rfl
    have z3 := e0.cell' (i := 3) rfl
    have z4 := e0.cell' (i := 4) rfl
    have z5 := e0.cell' (i := 5) rfl
    clear e0
    go_wp2
    exact hQ _ _ (Below.refl _ _) rfl
   ·intro x w hb hk Q' hQ
    have h0 : x.v 0 = _ := (hk 0 (by decide)).1
    have h1 : x.v 1 = _ := (hk 1 (by decide)).1
    have h2 : x.v 2 = _ := (hk 2 (by decide)).1
    have h3 : x.v 3 = _ := (hk 3 (by decide)).1
    have h4 : x.v 4 = _ := (hk 4 (by decide)).1
    have h5 : x.v 5 = _ := (hk 5 (by decide)).1
    have h6 : x.v 6 = _ := (hk 6 (by decide)).1
    have h7 : x.v 7 = _ := (hk 7 (by decide)).1
    have h8 : x.v 8 = _ := (hk 8 (by decide)).1
    have h9 : x.v 9 = _ := (hk 9 (by decide)).1
    have h10 : x.v 10 = _ := (hk 10 (by decide)).1
    have h11 : x.v 11 = _ := (hk 11 (by decide)).1
    have h12 : x.v 12 = _ := (hk 12 (by decide)).1
    have h13 : x.v 13 = _ := (hk 13 (by decide)).1
    have h14 : x.v 14 = _ := (hk 14 (by decide)).1
    have h15 : x.v 15 = _ := (hk 15 (by decide)).1
    have h16 : x.v 16 = _ := (hk 16 (by decide)).1
    have h17 : x.v 17 = _ := (hk 17 (by decide)).1
    have h18 : x.v 18 = _ := (hk 18 (by decide)).1
    have h19 : x.v 19 = _ := (hk 19 (by decide)).1
    have h20 : x.v 20 = _ := (hk 20 (by decide)).1
    have h21 : x.v 21 = _ := (hk 21 (by decide)).1
    have h22 : x.v 22 = _ := (hk 22 (by decide)).1
    have h23 : x.v 23 = _ := (hk 23 (by decide)).1
    have h24 : x.v 24 = _ := (hk 24 (by decide)).1
    have h25 : x.v 25 = _ := (hk 25 (by decide)).1
    have h26 : x.v 26 = _ := (hk 26 (by decide)).1
    clear hk
    simp only [netE] at hQ ⊢
    simp only [h0, h1, h2, h3, h4, h5, h6, h7, h8, h9, h10, h11, h12, h13, h14, h15, h16, h17, h18, h19, h20, h21, h22, h23, h24, h25, h26] at hQ ⊢
    clear h0 h1 h2 h3 h4 h5 h6 h7 h8 h9 h10 h11 h12 h13 h14 h15 h16 h17 h18 h19 h20 h21 h22 h23 h24 h25 h26
    go_wp2_with fail
    refine (implPencilRanks_any _ R _ (RpR.next hb HXR.out)).mono ?_; rintro e w8 ⟨o, rfl, ho, hb8⟩
    go_wp2
    exact hQ _ _ hb8 ho.rd
   ·intro x w hb hk Q' hQ
    have h25 : x.v 25 = _ := (hk 25 (by decide)).1
    clear hk
    simp only [netE] at hQ ⊢
    simp only [h25] at hQ ⊢
    clear h25
    have e0 := (KR.out.call hb)
    have z0 := e0.cell' (i := 0) rfl
    have z1 := e0.cell' (i := 1) rfl
    have z2 := e0.cell' (i := 2) rfl
    have z3 := e0.cell' (i := 3) rfl
    have z4 := e0.cell' (i := 4) rfl
    have z5 := e0.cell' (i := 5) rfl
    clear e0
    go_wp2
    exact hQ _ _ (Below.refl _ _) rfl
   ·intro x w hb hk Q' hQ
    have h0 : x.v 0 = _ := (hk 0 (by decide)).1
    have h1 : x.v 1 = _ := (hk 1 (by decide)).1
    have h2 : x.v 2 = _ := (hk 2 (by decide)).1
    have h3 : x.v 3 = _ := (hk 3 (by decide)).1
    have h4 : x.v 4 = _ := (hk 4 (by decide)).1
    have h5 : x.v 5 = _ := (hk 5 (by decide)).1
    have h6 : x.v 6 = _ := (hk 6 (by decide)).1
    have h7 : x.v 7 = _ := (hk 7 (by decide)).1
    have h8 : x.v 8 = _ := (hk 8 (by decide)).1
    have h9 : x.v 9 = _ := (hk 9 (by decide)).1
    have h10 : x.v 10 = _ := (hk 10 (by decide)).1
    have h11 : x.v 11 = _ := (hk 11 (by decide)).1
    have h12 : x.v 12 = _ := (hk 12 (by decide)).1
    have h13 : x.v 13 = _ := (hk 13 (by decide)).1
    have h14 : x.v 14 = _ := (hk 14 (by decide)).1
    have h15 : x.v 15 = _ := (hk 15 (by decide)).1
    have h16 : x.v 16 = _ := (hk 16 (by decide)).1
    have h17 : x.v 17 = _ := (hk 17 (by decide)).1
    have h18 : x.v 18 = _ := (hk 18 (by decide)).1
    have h19 : x.v 19 = _ := (hk 19 (by decide)).1
    have h20 : x.v 20 = _ := (hk 20 (by decide)).1
    have h21 : x.v 21 = _ := (hk 21 (by decide)).1
    have h22 : x.v 22 = _ := (hk 22 (by decide)).1
    have h23 : x.v 23 = _ := (hk 23 (by decide)).1
    have h24 : x.v 24 = _ := (hk 24 (by decide)).1
    have h25 : x.v 25 = _ := (hk 25 (by decide)).1
    have h26 : x.v 26 = _ := (hk 26 (by decide)).1
    have h27 : SlI w w.heap.size (x.v 27) (pkL R) := (hk 27 (by decide)).1
    have h28 : x.v 28 = _ := (hk 28 (by decide)).1
    have s27 := (hk 27 (by decide)).2
    clear hk
    simp only [netE] at hQ ⊢
    simp only [h0, h1, h2, h3, h4, h5, h6, h7, h8, h9, h10, h11, h12, h13, h14, h15, h16, h17, h18, h19, h20, h21, h22, h23, h24, h25, h26, h28] at hQ ⊢
    clear h0 h1 h2 h3 h4 h5 h6 h7 h8 h9 h10 h11 h12 h13 h14 h15 h16 h17 h18 h19 h20 h21 h22 h23 h24 h25 h26 h28
    go_wp2_with fail
    refine (specPencilRanks_any _ R _ (RpR.next hb HXR.out)).mono ?_; rintro e w8 ⟨o, rfl, ho, hb8⟩
    go_wp2
    exact hQ _ _ hb8 ho.rd
   ·intro x w hb hk Q' hQ
    have h25 : x.v 25 = _ := (hk 25 (by decide)).1
    have h27 : SlI w w.heap.size (x.v 27) (pkL R) := (hk 27 (by decide)).1
    have h29 : SlI w w.heap.size (x.v 29) (pkL R) := (hk 29 (by decide)).1
    clear hk
    simp only [netE] at hQ ⊢
    simp only [h25] at hQ ⊢
    clear h25
    go_wp2_with fail
    refine (sameI_any _ _ (pkL R) _ h27 h29).mono ?_; rintro e w8 ⟨rfl, hb8⟩
    go_wp2
    exact hQ _ _ hb8 rfl
   ·intro x w hb hk Q' hQ
    have h25 : x.v 25 = _ := (hk 25 (by decide)).1
    have h30 : x.v 30 = _ := (hk 30 (by decide)).1
    clear hk
    simp only [netE] at hQ ⊢
    simp only [h25, h30] at hQ ⊢
    clear h25 h30
    go_wp2
    exact hQ _ _ (Below.refl _ _) rfl
   ·intro x w hb hk Q' hQ
    have h31 : x.v 31 = _ := (hk 31 (by decide)).1
    clear hk
    simp only [netE] at hQ ⊢
    simp only [h31] at hQ ⊢
    clear h31
    go_wp2
    exact hQ _ _ (Below.refl _ _) rfl
   ·intro x w hb hk hiv hdj
    have h0 : x.v 0 = .bool P := hk 0 (by decide)
    have h1 : x.v 1 = .bool P := hk 1 (by decide)
    have h2 : x.v 2 = .bool true := hk 2 (by decide)
    have h3 : x.v 3 = .bool true := hk 3 (by decide)
    have h4 : x.v 4 = .agg #[.int .i64 M.r, .int .i64 M.c, .slice Ag M.a.length ag] := hk 4 (by decide)
    have h5 : x.v 5 = .agg #[.int .i64 M.r, .int .i64 M.c, .slice Ah M.a.length ah] := hk 5 (by decide)
    have h6 : x.v 6 = .bool true := hk 6 (by decide)
    have h7 : x.v 7 = .bool true := hk 7 (by decide)
    have h8 : x.v 8 = .bool true := hk 8 (by decide)
    have h9 : x.v 9 = .bool Q := hk 9 (by decide)
    have h10 : x.v 10 = .bool Q := hk 10 (by decide)
    have h11 : x.v 11 = .bool true := hk 11 (by decide)
    have h12 : x.v 12 = .bool true := hk 12 (by decide)
    have h13 : x.v 13 = .bool true := hk 13 (by decide)
    have h14 : x.v 14 = .agg #[.int .i64 O.p, .int .i64 O.q.v, .slice Ao O.q.f.length ao, .slice Co O.q.t.length co, .slice Eo O.d.length eo, .slice Ho O.m.length qo] := hk 14 (by decide)
    have h15 : x.v 15 = .agg #[.int .i64 O.p, .int .i64 O.q.v, .slice Az O.q.f.length az, .slice Cz O.q.t.length cz, .slice Ez O.d.length ez, .slice Hz O.m.length qz] := hk 15 (by decide)
    have h16 : x.v 16 = .bool true := hk 16 (by decide)
    have h17 : x.v 17 = .bool true := hk 17 (by decide)
    have h18 : x.v 18 = .bool true := hk 18 (by decide)
    have h19 : x.v 19 = .agg #[.int .i64 R.p, .int .i64 R.q.v, .slice Ar R.q.f.length ar, .slice Cr R.q.t.length cr, .slice Er R.d.length er, .slice Hr R.m.length qr] := hk 19 (by decide)
    have h20 : x.v 20 = .bool (isPen R) := hk 20 (by decide)
    have h21 : x.v 21 = .agg #[.int .i64 R.p, .int .i64 R.q.v, .slice Ar R.q.f.length ar, .slice Cr R.q.t.length cr, .slice Er R.d.length er, .slice Hr R.m.length qr] := hk 21 (by decide)
    have h22 : x.v 22 = .bool (isPen R) := hk 22 (by decide)
    have h23 : x.v 23 = .bool true := hk 23 (by decide)
    have h24 : x.v 24 = .bool true := hk 24 (by decide)
    have h25 : x.v 25 = .bool true := hk 25 (by decide)
    have h26 : x.v 26 = .agg #[.int .i64 R.p, .int .i64 R.q.v, .slice Ar R.q.f.length ar, .slice Cr R.q.t.length cr, .slice Er R.d.length er, .slice Hr R.m.length qr] := hk 26 (by decide)
    have h27 : SlI w w.heap.size (x.v 27) (pkL R) := hk 27 (by decide)
    have h28 : x.v 28 = .agg #[.int .i64 R.p, .int .i64 R.q.v, .slice Ar R.q.f.length ar, .slice Cr R.q.t.length cr, .slice Er R.d.length er, .slice Hr R.m.length qr] := hk 28 (by decide)
    have h29 : SlI w w.heap.size (x.v 29) (pkL R) := hk 29 (by decide)
    have h30 : x.v 30 = .bool true := hk 30 (by decide)
    have h31 : x.v 31 = .bool true := hk 31 (by decide)
    have h32 : x.v 32 = .bool true := hk 32 (by decide)
    clear hk
    simp only [netE]
    simp only [List.drop_succ_cons, List.drop_zero, h0, h1, h2, h3, h4, h5, h6, h7, h8, h9, h10, h11, h12, h13, h14, h15, h16, h17, h18, h19, h20, h21, h22, h23, h24, h25, h26, h28, h30, h31, h32]
    clear h0 h1 h2 h3 h4 h5 h6 h7 h8 h9 h10 h11 h12 h13 h14 h15 h16 h17 h18 h19 h20 h21 h22 h23 h24 h25 h26 h28 h30 h31 h32
    have GF := Lib.hid (HG.out.trans (hb.mono HG.out.size))
    clear hiv hdj hb h27 h29
    go_wp2
    go_ret
    exact ⟨rfl, GF.out⟩
end Go.Proofs.YthhjoamgcfiecaaGreat
namespace Go.Proofs.YthhjoamgcfiecaaGreat
open Go.RowKit Go.ChangeShapes Go.WideShapes Go.ChangeAt Go.Deep
set_option maxRecDepth 100000 in
set_option maxHeartbeats 800000 in
theorem fnPencils_big (A : Option Addr) (n c : Nat) (w : World) (hn : 1048576 < n) (hn2 : n ≤ 9223372036854775807) :
  Calls Tryz.prog 3 #[.slice A n c] w fun e w' => e = .returned (.bool true) ∧ Below w.heap.size w w' := by
 have hB : Calls Tryz.prog 4 #[.slice A n c] w fun e w' => e = .returned (.bool true) ∧ Below w.heap.size w w' := by
  have hd : decide ((n : Int) > 1048576) = true := decide_eq_true (by omega)
  go_enter Tryz.func4, Tryz.ntmps4
  go_wp2
  go_ret
  exact ⟨by first | rfl | (rw [show (true : Bool) = decide ((n : Int) > 1048576) from hd.symm]; rfl), Below.refl _ _⟩
 go_enter Tryz.func3, Tryz.ntmps3
 go_wp2_with fail
 refine hB.mono ?_; rintro e w1 ⟨rfl, hb1⟩
 go_wp2
 go_ret
 exact ⟨rfl, hb1⟩
set_option maxRecDepth 100000 in
theorem fnPencils_lifted (os : Os) (started : os.Started) (H : Type) (enc : TypeId × Value → H) :
  ReturnsInHanded {} Tryz.checked os 3 .any (Rows.fnPencilsSpec.pre6 enc Tryz.prog Tryz.f3 Rows.fnPencilsRow.domain false) (Rows.fnPencilsSpec.post enc Tryz.prog Tryz.f3 false true false false) := by
 refine lift_law started (by kernel_rfl) Tryz.func3 (ChangeSpec.witness6 (enc := enc) (C := Tryz.checked) false ⟨#[], #[.slice none 0 0], []⟩ 8 (by kernel_rfl) (by kernel_rfl) (by kernel_rfl) (by kernel_rfl))
  rfl rfl (by rw [Tryz.params3]; intro t ht; simp only [List.mem_cons, List.not_mem_nil, or_false] at ht; rcases ht with rfl <;> exact ⟨by kernel_rfl, of_decide_eq_true (by kernel_rfl)⟩) (fun ds hl => by rw [Tryz.params3] at hl; match ds, hl with | [_], _ => rfl) ?_
 intro W args ds ps base hval hA hwt
 rw [Tryz.params3] at hA hval hwt
 obtain ⟨v0, d0, hargs, rfl, h0⟩ := trodAll_one hA
 obtain rfl : args = #[v0] := by cases args; simp_all
 obtain ⟨f, h0'⟩ := argSl Tryz.underlying22 (hval 0 _ _ rfl rfl) h0
 obtain ⟨v, e, hx⟩ := openY h0'
 injection e with e
 subst e
 rcases hx with ⟨A, n, c, rfl, h1, h2⟩ | ⟨xs, hx⟩
 ·exact fnPencils_big A n c W h1 h2
 ·exact fnPencils_any _ xs W hx
theorem fnPencils_closed : joinedFacts Tryz.prog 3 Tryz.f3 Rows.fnPencilsSpec Rows.fnPencilsRow = true := by
 unfold joinedFacts
 refine band (band (band (band (band (band (band ?_ seatEnter) seatLifts) seatMake) ?_) ?_) ?_) ?_ <;> kernel_rfl
theorem fnPencils_holds : Rows.FnPencilsSaid :=
 OpenClaim.holds_of_wide 3 Tryz.f3 rfl rfl rfl rfl rfl rfl rfl ⟨rfl, rfl, rfl, rfl, rfl⟩ rfl rfl rfl rfl rfl (by kernel_rfl) Tryz.func3 fnPencils_closed
  (of_decide_eq_true (by kernel_rfl)) (by unfold Func.isWrapper; first | (rw [if_pos (by decide +kernel)]; kernel_rfl) | (rw [if_neg (by decide +kernel)]; exact ⟨rfl, rfl⟩))
  (fun os started H enc _ => fnPencils_lifted os started H enc)
#print axioms fnPencils_holds
end Go.Proofs.YthhjoamgcfiecaaGreat
