/- FnExactRootRep: the law holds for every argument. Part 7 of 18 of the proof: Cln, Copy, Copy2, Zero, Flat, RepAt, Ident, RowAt, RowZ, AddM, Plus, Elim, Mul, ColZ, FromC, Tran, Besd, Conc, ElimS. No condition. -/
import Derived.Test.YtcmlflppndfdcaaGreatBRootRep6
import Derived.Shelf.Slices.Clone
import Derived.ArgAppend
import Derived.Shelf.Spec.SlicesGrow
set_option linter.unusedVariables false
set_option linter.unusedSimpArgs false
namespace Go.Proofs
open Go.Shelf
def Tryz.laysClone_ren : Go.Shelf.Ren := ⟨fun | 15 => 76 | n => n, fun | 22 => 22 | 3 => 3 | 4 => 4 | n => n, fun | n => n⟩
theorem Tryz.laysClone : Go.Proofs.Lays2.n15 Tryz.prog Tryz.laysClone_ren := {
 mixed := by kernel_rfl
 f15 := Tryz.func76.trans (congrArg some (by kernel_rfl))
 t3 := Tryz.underlying3
 a3 := Tryz.isAgg3
 z3 := Tryz.sizeOf3
 v3 := Tryz.zeroValue3
 t4 := Tryz.underlying4
 a4 := Tryz.isAgg4
 z4 := Tryz.sizeOf4
 v4 := Tryz.zeroValue4
 t22 := Tryz.underlying22
 a22 := Tryz.isAgg22
 z22 := Tryz.sizeOf22
 v22 := Tryz.zeroValue22
 i3 := by kernel_rfl }
end Go.Proofs
namespace Go.Proofs.YtcmlflppndfdcaaGreat
open Go.RowKit
theorem clone_own (u : Value) (xs : List Int) (w : World) (hu : SlI w w.heap.size u xs) :
  Calls Tryz.prog 76 #[u] w fun e w' => ∃ v, e = .returned v ∧ IntsO w' w.heap.size w'.heap.size v xs ∧ Below w.heap.size w w' := by
 have hr := SlI.i64 hu
 have hrd := hu
 obtain ⟨A, c, rfl, _, _, hn, hx⟩ := hu
 rcases A with _ | a
 ·have h0 : xs = [] := by
   apply List.eq_nil_of_length_eq_zero
   rcases Nat.eq_zero_or_pos xs.length with h | h
   ·exact h
   ·obtain ⟨b, o, e, _⟩ := hx h
    cases e
  subst h0
  exact (Any.slices_Clone_int_nil Tryz.laysClone 0 c w).mono fun e w' ⟨h1, h2⟩ => ⟨_, h1, ⟨OwnI.nil _ _, by simp [Value.ownBlock]⟩, by rw [h2]; exact Below.refl _ _⟩
 rcases Nat.eq_zero_or_pos xs.length with h0 | hp
 ·have h0 : xs = [] := List.eq_nil_of_length_eq_zero h0
  subst h0
  exact (Any.slices_Clone_int_zero Tryz.laysClone a c w).mono fun e w' ⟨v, h1, h2, _, hb⟩ => ⟨v, h1, IntsO.of_own ⟨h2, by simp, by simp⟩, hb⟩
 ·obtain ⟨b, o, e, hb, hc⟩ := hx hp
  injection e with e
  subst e
  refine (Any.slices_Clone_int Tryz.laysClone b o xs.length c xs w (Nat.le_refl _) (by omega) (fun j hj => ?_)).mono ?_
  ·have h := (hc j (xs.getD j 0) (by rw [List.getD_eq_getElem?_getD, List.getElem?_eq_getElem hj]; rfl)).1
   simpa using h
  ·rintro e w' ⟨v', rfl, ho, hnn, hb⟩
   rw [List.take_of_length_le (Nat.le_refl _)] at ho
   exact ⟨v', rfl, IntsO.of_own ⟨ho, hn, hr⟩, hb⟩
end Go.Proofs.YtcmlflppndfdcaaGreat
namespace Go.Proofs.YtcmlflppndfdcaaGreat
open Go.RowKit
theorem wpList_append_fresh {w : World} {ops : Array Oper} {rest : List Oper} {o : Oper} {a : Act} {Q : Exit → Act → World → Prop} (hgd : o.guard = none) (s x : Operand)
  (ho : o.op = .call { callee := .builtin .append, args := #[s, x], argTypes := #[22, 22] })
  (g lo B : Nat) (cs : Array Value) (hs : a.eval s = .slice (some ⟨g, 0, none⟩) 0 0) (hg : Blk w g 3 cs) (hcs : cs.size = 0) (hlo : lo ≤ g) (A : Option Addr) (c : Nat) (news : List Int) (hx : a.eval x = .slice A news.length c) (hr : SlI w B (.slice A news.length c) news)
  (h : ∀ v' w', OwnI w' lo v' news → Below w.heap.size w w' → wpList Tryz.prog ops Q rest (a.put o.dst v') w') : wpList Tryz.prog ops Q (o :: rest) a w := by
 obtain ⟨i0, hi, hz0, hz1, hz2⟩ := info_parts infoInt
 have hn := hr
 obtain ⟨_, _, _, _, _, hn, hcell⟩ := hn
 have hI := SlI.i64 hr
 refine wpList_plain hgd fun K hK => ?_
 by_cases hp : 0 < news.length
 ·obtain ⟨b, of, eA, hb, hc⟩ := hcell hp
  have hA := NewsAt.of_sl hr
  obtain ⟨hl, hnews⟩ := hA
  obtain ⟨b', of', eA', hc'⟩ := hnews.resolve_left (by omega)
  subst eA'
  have hadd : ∀ j, (⟨b', of', none⟩ : Addr).add j = ⟨b', of' + j, none⟩ := by intro j; unfold Addr.add; split <;> simp_all
  obtain ⟨v', w', hrun, hown, hgr⟩ := run_append_arg_grows (P := Tryz.prog) w 22 o.type 3 i0 _ 1 8 Tryz.underlying22 hi hz0 hz1 hz2 rfl (by decide) ⟨g, 0, none⟩ 0 0 [] (by simp) (by intro j u hj; simp at hj) ⟨b', of', none⟩ news.length c (news.map (Value.int .i64)) hl (fun j u hj => by rw [hadd]; exact hc' j u hj) (by omega) (by simp only [maxLen]; omega) (by omega)
  unfold Oper.wp execOp
  simp only [ho, resolve, invoke, builtin, Sem.run_bind, Sem.run_pure, Result.andThen_ok, List.map_toArray, List.map_cons, List.map_nil, hs, hx, hrun]
  refine hK _ _ (h v' w' ?_ ⟨hgr.os, hgr.tape, hgr.output, hgr.size, fun k hk => hgr.block k hk (by simp)⟩)
  have hgl := hg.lt
  exact OwnI.lower (base := w.heap.size) ⟨by simpa using hown, hn, hI⟩ (by omega)
 ·have h0 : news = [] := List.eq_nil_of_length_eq_zero (by omega)
  subst h0
  have hrun : (Builtin.append_ #[22, 22] o.type #[.slice (some ⟨g, 0, none⟩) 0 0, .slice A 0 c]).run Tryz.prog w = .ok (.slice (some ⟨g, 0, none⟩) 0 0) w := by
   cases A <;> simp [Builtin.append_, run_underlying (P := Tryz.prog) Tryz.underlying22, sizeOf, typeInfo, hi, Builtin.lenOf, Builtin.firstCells, storeCells, loadCells, loadCellsFrom]
  simp only [List.length_nil] at hx
  unfold Oper.wp execOp
  simp only [ho, resolve, invoke, builtin, Sem.run_bind, Sem.run_pure, Result.andThen_ok, List.map_toArray, List.map_cons, List.map_nil, hs, hx, hrun]
  refine hK _ _ (h _ w ?_ (Below.refl _ _))
  have := hg.own (base := lo) (n := 0) (cap := 0) (size := 1) hlo (Nat.le_refl _) (by simp only [maxLen]; omega) (by omega)
  exact ⟨by simpa using this, by simp, by simp⟩
def Fresh (w : World) (lo : Nat) (u : Value) : Prop := ∃ g, u = .slice (some ⟨g, 0, none⟩) 0 0 ∧ lo ≤ g ∧ Blk w g 3 #[]
theorem Fresh.below {w w' : World} {lo : Nat} {u : Value} (h : Fresh w lo u) (hb : Below w.heap.size w w') : Fresh w' lo u := by
 obtain ⟨g, e, h1, h2⟩ := h
 exact ⟨g, e, h1, h2.call hb⟩
theorem Fresh.new (w : World) {lo : Nat} (h : lo ≤ w.heap.size) : Fresh (w.alloc (.cells #[] 3)) lo (.slice (some ⟨w.heap.size, 0, none⟩) 0 0) := ⟨_, rfl, h, Blk.new _ _ _⟩
set_option maxHeartbeats 3200000 in
theorem l3Copy_any (u : Value) (m : Mx) (w0 : World) (hu : MxR w0 w0.heap.size u m) :
  Calls Tryz.prog 30 #[u] w0 fun e w' => ∃ v, e = .returned v ∧ MxO w' w0.heap.size w'.heap.size v m ∧ Below w0.heap.size w0 w' := by
 obtain ⟨A, c, rfl, hf, hr, hc, lf⟩ := hu.open_
 clear hu
 obtain ⟨W, hW⟩ : ∃ W, W = (w0.alloc (.cells #[.int .i64 m.r, .int .i64 m.c, .slice A m.a.length c] 50)).alloc (.cells #[.int .i64 0, .int .i64 0, .slice none 0 0] 50) := ⟨_, rfl⟩
 have g0 : Below w0.heap.size w0 W := by rw [hW]; exact ((Below.refl _ _).alloc (Nat.le_refl _) _).alloc (by simp) _
 have k1 : Blk W w0.heap.size 50 #[.int .i64 m.r, .int .i64 m.c, .slice A m.a.length c] := by rw [hW]; exact (Blk.new _ _ _).alloc _
 have k2 : Blk W (w0.heap.size + 1) 50 #[.int .i64 0, .int .i64 0, .slice none 0 0] := by
  rw [hW]
  have := Blk.new (w0.alloc (.cells #[.int .i64 m.r, .int .i64 m.c, .slice A m.a.length c] 50)) 50 #[.int .i64 0, .int .i64 0, .slice none 0 0]
  simpa only [World.size_alloc] using this
 have sz : W.heap.size = w0.heap.size + 1 + 1 := by rw [hW]; simp
 have SZ := Lib.hid sz
 clear sz
 replace hf := SlI.next g0 hf
 go_enter Tryz.func30, Tryz.ntmps30
 go_wp2
 rw [← hW]; clear hW
 refine wp_region_net (by kernel_rfl) [.eq (.pointer (some ⟨w0.heap.size, 0, none⟩)), .eq (.int .i64 m.r), .eq (.pointer (some ⟨w0.heap.size, 1, none⟩)), .eq (.int .i64 m.c), rel 4 (fun u lo hi w => Fresh w W.heap.size u), .eq (.pointer (some ⟨w0.heap.size, 2, none⟩)), .eq (.slice A m.a.length c), rel 7 (fun u lo hi w => OwnI w W.heap.size u m.a), rel 8 (fun u lo hi w => ∃ s, u = .agg #[.int .i64 m.r, .int .i64 m.c, s] ∧ OwnI w W.heap.size s m.a)] [[], [0], [], [2], [], [], [5], [4, 5, 6], [0, 1, 2, 3, 4, 5, 6, 7], [0, 1, 2, 3, 4, 5, 6, 7, 8]] 9 (by kernel_rfl) ⟨trivial, trivial, trivial, trivial, rel_stable (fun u lo hi w w' h hb => h.below hb), trivial, trivial, rel_stable (fun u lo hi w w' h hb => h.below hb), rel_stable (fun u lo hi w w' ⟨s, e, h⟩ hb => ⟨s, e, h.below hb⟩), trivial⟩ ⟨?_, ?_, ?_, ?_, ?_, ?_, ?_, ?_, ?_, trivial⟩ ?_
 ·intro x w hb hk Q' hQ
  clear hk
  simp only [netE] at hQ ⊢
  go_wp2
  exact hQ _ _ (Below.refl _ _) rfl
 ·intro x w hb hk Q' hQ
  have h0 : x.v 0 = .pointer (some ⟨w0.heap.size, 0, none⟩) := (hk 0 (by decide)).1
  clear hk
  simp only [netE] at hQ ⊢
  simp only [h0] at hQ ⊢
  clear h0
  have c0 := (k1.call hb).cell' (i := 0) rfl
  go_wp2
  exact hQ _ _ (Below.refl _ _) rfl
 ·intro x w hb hk Q' hQ
  clear hk
  simp only [netE] at hQ ⊢
  go_wp2
  exact hQ _ _ (Below.refl _ _) rfl
 ·intro x w hb hk Q' hQ
  have h2 : x.v 2 = .pointer (some ⟨w0.heap.size, 1, none⟩) := (hk 2 (by decide)).1
  clear hk
  simp only [netE] at hQ ⊢
  simp only [h2] at hQ ⊢
  clear h2
  have c1 := (k1.call hb).cell' (i := 1) rfl
  go_wp2
  exact hQ _ _ (Below.refl _ _) rfl
 ·intro x w hb hk Q' hQ
  clear hk
  simp only [netE] at hQ ⊢
  go_wp2
  exact hQ _ _ (below_alloc _ _) (Fresh.new _ hb.size)
 ·intro x w hb hk Q' hQ
  clear hk
  simp only [netE] at hQ ⊢
  go_wp2
  exact hQ _ _ (Below.refl _ _) rfl
 ·intro x w hb hk Q' hQ
  have h5 : x.v 5 = .pointer (some ⟨w0.heap.size, 2, none⟩) := (hk 5 (by decide)).1
  clear hk
  simp only [netE] at hQ ⊢
  simp only [h5] at hQ ⊢
  clear h5
  have c2 := (k1.call hb).cell' (i := 2) rfl
  go_wp2
  exact hQ _ _ (Below.refl _ _) rfl
 ·intro x w hb hk Q' hQ
  have h4 : Fresh w W.heap.size (x.v 4) := (hk 4 (by decide)).1
  have h5 : x.v 5 = .pointer (some ⟨w0.heap.size, 2, none⟩) := (hk 5 (by decide)).1
  have h6 : x.v 6 = .slice A m.a.length c := (hk 6 (by decide)).1
  have s4 := (hk 4 (by decide)).2
  clear hk
  simp only [netE] at hQ ⊢
  simp only [h5, h6] at hQ ⊢
  clear h5 h6
  obtain ⟨g, e4, hg, hB⟩ := h4
  rw [e4] at hQ ⊢
  refine wpList_append_fresh (by rfl) (.tmp 7) (.tmp 9) (by rfl) g W.heap.size w.heap.size #[] (by rfl) hB rfl hg A c m.a (by rfl) (SlI.next hb hf) ?_
  intro v' w' ho hb'
  exact hQ _ _ hb' ho
 ·intro x w hb hk Q' hQ
  have h0 : x.v 0 = .pointer (some ⟨w0.heap.size, 0, none⟩) := (hk 0 (by decide)).1
  have h1 : x.v 1 = .int .i64 m.r := (hk 1 (by decide)).1
  have h2 : x.v 2 = .pointer (some ⟨w0.heap.size, 1, none⟩) := (hk 2 (by decide)).1
  have h3 : x.v 3 = .int .i64 m.c := (hk 3 (by decide)).1
  have h4 : Fresh w W.heap.size (x.v 4) := (hk 4 (by decide)).1
  have h5 : x.v 5 = .pointer (some ⟨w0.heap.size, 2, none⟩) := (hk 5 (by decide)).1
  have h6 : x.v 6 = .slice A m.a.length c := (hk 6 (by decide)).1
  have h7 : OwnI w W.heap.size (x.v 7) m.a := (hk 7 (by decide)).1
  have s4 := (hk 4 (by decide)).2
  have s7 := (hk 7 (by decide)).2
  clear hk
  simp only [netE] at hQ ⊢
  simp only [h0, h1, h2, h3, h5, h6] at hQ ⊢
  clear h0 h1 h2 h3 h5 h6
  obtain ⟨A', c', e7, _, _⟩ := h7.form
  rw [e7] at h7
  rw [e7] at hQ ⊢
  go_wp2
  exact hQ (.agg #[.int .i64 m.r, .int .i64 m.c, .slice A' m.a.length c']) w (Below.refl _ _) ⟨_, rfl, h7⟩
 ·intro x w hb hk hiv hdj
  have h0 : x.v 0 = .pointer (some ⟨w0.heap.size, 0, none⟩) := hk 0 (by decide)
  have h1 : x.v 1 = .int .i64 m.r := hk 1 (by decide)
  have h2 : x.v 2 = .pointer (some ⟨w0.heap.size, 1, none⟩) := hk 2 (by decide)
  have h3 : x.v 3 = .int .i64 m.c := hk 3 (by decide)
  have h4 : Fresh w W.heap.size (x.v 4) := hk 4 (by decide)
  have h5 : x.v 5 = .pointer (some ⟨w0.heap.size, 2, none⟩) := hk 5 (by decide)
  have h6 : x.v 6 = .slice A m.a.length c := hk 6 (by decide)
  have h7 : OwnI w W.heap.size (x.v 7) m.a := hk 7 (by decide)
  have h8 : ∃ s, (x.v 8) = .agg #[.int .i64 m.r, .int .i64 m.c, s] ∧ OwnI w W.heap.size s m.a := hk 8 (by decide)
  clear hk
  simp only [netE]
  simp only [List.drop_succ_cons, List.drop_zero, h0, h1, h2, h3, h5, h6]
  clear h0 h1 h2 h3 h5 h6
  obtain ⟨s, e8, ho⟩ := h8
  obtain ⟨A', c', es, _, _⟩ := ho.form
  subst es
  rw [e8]
  have k2' := k2.call hb
  have f2 := k2'.frozen
  have r0 := k2'.cell' (i := 0) rfl
  have r1 := k2'.cell' (i := 1) rfl
  have r2 := k2'.cell' (i := 2) rfl
  have hbs := hb.size
  have sz := SZ.out
  have gf := g0.trans (hb.mono g0.size)
  clear h4 h7 k1 k2 sz
  go_wp2
  have sz := SZ.out
  refine bodyPost_ret (v := .agg #[.int .i64 m.r, .int .i64 m.c, .slice A' m.a.length c']) (by simp [results, go_sem, r0, r1, r2]) rfl ⟨_, rfl, ⟨_, rfl, ?_, hr, hc⟩, ((gf.setCell (by simp) _).setCell (by simp) _).setCell (by simp) _⟩
  exact ((((IntsO.of_own ho).set (by simp; omega) _).set (by simp; omega) _).set (by simp; omega) _).wider (by omega) (by simp)
end Go.Proofs.YtcmlflppndfdcaaGreat
namespace Go.Proofs.YtcmlflppndfdcaaGreat
open Go.RowKit
theorem IntsO.form {w : World} {lo hi : Nat} {v : Value} {l : List Int} (h : IntsO w lo hi v l) : ∃ A c, v = .slice A l.length c := by
 obtain ⟨A, c, e, _⟩ := h.1.form
 exact ⟨A, c, e⟩
theorem QuivO.setLow {w : World} {lo hi : Nat} {v : Value} {q : Qv} (h : QuivO w lo hi v q) {p : Addr} (hp : p.block < lo) (u : Value) : QuivO (w.setCell p u) lo hi v q :=
 h.chg (chg_set (lo := p.block) (hi := p.block + 1) (Nat.le_refl _) (by omega)) (.inr (by omega))
theorem QuivO.wider {w : World} {lo hi lo' hi' : Nat} {v : Value} {q : Qv} (h : QuivO w lo hi v q) (h1 : lo' ≤ lo) (h2 : hi ≤ hi') : QuivO w lo' hi' v q := by
 obtain ⟨a, b, e, hF, hr⟩ := h
 exact ⟨a, b, e, hF.mono h1 h2, hr⟩
set_option maxHeartbeats 800000 in
theorem mxClone_any (u : Value) (m : Mx) (w0 : World) (hu : MxR w0 w0.heap.size u m) :
  Calls Tryz.prog 105 #[u] w0 fun e w' => ∃ v, e = .returned v ∧ MxO w' w0.heap.size w'.heap.size v m ∧ Below w0.heap.size w0 w' := by
 obtain ⟨A, c, rfl, hf, hr, hc, lf⟩ := hu.open_
 clear hu
 obtain ⟨W, hW⟩ : ∃ W, W = (w0.alloc (.cells #[.int .i64 m.r, .int .i64 m.c, .slice A m.a.length c] 50)).alloc (.cells #[.int .i64 0, .int .i64 0, .slice none 0 0] 50) := ⟨_, rfl⟩
 have g0 : Below w0.heap.size w0 W := by rw [hW]; exact ((Below.refl _ _).alloc (Nat.le_refl _) _).alloc (by simp) _
 have k1 : Blk W w0.heap.size 50 #[.int .i64 m.r, .int .i64 m.c, .slice A m.a.length c] := by rw [hW]; exact (Blk.new _ _ _).alloc _
 have k2 : Blk W (w0.heap.size + 1) 50 #[.int .i64 0, .int .i64 0, .slice none 0 0] := by
  rw [hW]
  have := Blk.new (w0.alloc (.cells #[.int .i64 m.r, .int .i64 m.c, .slice A m.a.length c] 50)) 50 #[.int .i64 0, .int .i64 0, .slice none 0 0]
  simpa only [World.size_alloc] using this
 have sz : W.heap.size = w0.heap.size + 1 + 1 := by rw [hW]; simp
 have SZ := Lib.hid sz
 clear sz
 replace hf := SlI.next g0 hf
 go_enter Tryz.func105, Tryz.ntmps105
 go_wp2_with fail
 rw [← hW]; clear hW
 refine (clone_own _ m.a _ hf).mono ?_; rintro e w1 ⟨v, rfl, ho, hb1⟩
 obtain ⟨A', c', rfl⟩ := ho.form
 have k1' := k1.call hb1
 have k2' := k2.call hb1
 have f1 := k1'.frozen
 have f2 := k2'.frozen
 have q0 := k1'.cell' (i := 0) rfl
 have q1 := k1'.cell' (i := 1) rfl
 have q2 := k1'.cell' (i := 2) rfl
 have r0 := k2'.cell' (i := 0) rfl
 have r1 := k2'.cell' (i := 1) rfl
 have r2 := k2'.cell' (i := 2) rfl
 have gf := g0.trans (hb1.mono g0.size)
 have hbs := hb1.size
 have HBS := Lib.hid hbs
 clear k1 k2 hbs hb1 hf
 go_wp2
 have sz := SZ.out
 have hbs := HBS.out
 refine bodyPost_ret (v := .agg #[.int .i64 m.r, .int .i64 m.c, .slice A' m.a.length c']) (by simp [results, go_sem, r0, r1, r2]) rfl ⟨_, rfl, ⟨_, rfl, ?_, hr, hc⟩, (((gf.setCell (by simp) _).setCell (by simp) _).setCell (by simp) _).setCell (by simp) _⟩
 exact ((((ho.set (by simp; omega) _).set (by simp; omega) _).set (by simp; omega) _).set (by simp; omega) _).wider (by omega) (by simp)
theorem fam_apart {w : World} {lo hi l1 h1 l2 h2 : Nat} {a b : Value} {l m : List Int} (ha : IntsO w l1 h1 a l) (hb : IntsO w l2 h2 b m) (hd : h1 ≤ l2 ∨ h2 ≤ l1) (k1 : lo ≤ l1) (k2 : lo ≤ l2) (k3 : h1 ≤ hi) (k4 : h2 ≤ hi) : Fam w lo hi [(a, l), (b, m)] := by
 refine ⟨fun p hp => ?_, ?_⟩
 ·simp only [List.mem_cons, List.not_mem_nil, or_false] at hp
  rcases hp with rfl | rfl
  ·exact ha.wider k1 k3
  ·exact hb.wider k2 k4
 ·simp only [List.pairwise_cons, List.mem_cons, List.not_mem_nil, or_false, forall_eq, false_implies, implies_true, List.Pairwise.nil, and_true]
  rcases hA : a.ownBlock with _ | x
  ·exact .inl rfl
  ·right
   intro e
   have h3 := ha.2 x hA
   have h4 := (ha.1.lt x hA).1
   have h5 := hb.2 x e.symm
   have h6 := (hb.1.lt x e.symm).1
   omega
set_option maxHeartbeats 3200000 in
theorem qvClone_any (u : Value) (q : Qv) (w0 : World) (hu : QvR w0 w0.heap.size u q) :
  Calls Tryz.prog 95 #[u] w0 fun e w' => ∃ v, e = .returned v ∧ QuivO w' w0.heap.size w'.heap.size v q ∧ Below w0.heap.size w0 w' := by
 obtain ⟨A, c, C, d, rfl, hf, ht, hr, lf, lt⟩ := hu.open_
 clear hu
 obtain ⟨W, hW⟩ : ∃ W, W = (w0.alloc (.cells #[.int .i64 q.v, .slice A q.f.length c, .slice C q.t.length d] 29)).alloc (.cells #[.int .i64 0, .slice none 0 0, .slice none 0 0] 29) := ⟨_, rfl⟩
 have g0 : Below w0.heap.size w0 W := by rw [hW]; exact ((Below.refl _ _).alloc (Nat.le_refl _) _).alloc (by simp) _
 have k1 : Blk W w0.heap.size 29 #[.int .i64 q.v, .slice A q.f.length c, .slice C q.t.length d] := by rw [hW]; exact (Blk.new _ _ _).alloc _
 have k2 : Blk W (w0.heap.size + 1) 29 #[.int .i64 0, .slice none 0 0, .slice none 0 0] := by
  rw [hW]
  have := Blk.new (w0.alloc (.cells #[.int .i64 q.v, .slice A q.f.length c, .slice C q.t.length d] 29)) 29 #[.int .i64 0, .slice none 0 0, .slice none 0 0]
  simpa only [World.size_alloc] using this
 have sz : W.heap.size = w0.heap.size + 1 + 1 := by rw [hW]; simp
 have SZ := Lib.hid sz
 clear sz
 replace hf := SlI.next g0 hf
 replace ht := SlI.next g0 ht
 go_enter Tryz.func95, Tryz.ntmps95
 go_wp2
 rw [← hW]; clear hW
 refine wp_region_net (by kernel_rfl) [.eq (.pointer (some ⟨w0.heap.size, 0, none⟩)), .eq (.int .i64 q.v), .eq (.pointer (some ⟨w0.heap.size, 1, none⟩)), .eq (.slice A q.f.length c), rel 4 (fun u lo hi w => IntsO w lo hi u q.f), .eq (.pointer (some ⟨w0.heap.size, 2, none⟩)), .eq (.slice C q.t.length d), rel 7 (fun u lo hi w => IntsO w lo hi u q.t), .rel (fun x w => x.v 8 = .agg #[.int .i64 q.v, x.v 4, x.v 7])] [[], [0], [], [2], [2, 3], [], [5], [2, 3, 4, 5, 6], [0, 1, 2, 3, 4, 5, 6, 7], [0, 1, 2, 3, 4, 5, 6, 7, 8]] 9 (by kernel_rfl) ⟨trivial, trivial, trivial, trivial, rel_stable (fun u lo hi w w' h hb => h.below hb), trivial, trivial, rel_stable (fun u lo hi w w' h hb => h.below hb), fun x w w' h hb => h, trivial⟩ ⟨?_, ?_, ?_, ?_, ?_, ?_, ?_, ?_, ?_, trivial⟩ ?_
 ·intro x w hb hk Q' hQ
  clear hk
  simp only [netE] at hQ ⊢
  go_wp2
  exact hQ _ _ (Below.refl _ _) rfl
 ·intro x w hb hk Q' hQ
  have h0 : x.v 0 = .pointer (some ⟨w0.heap.size, 0, none⟩) := (hk 0 (by decide)).1
  clear hk
  simp only [netE] at hQ ⊢
  simp only [h0] at hQ ⊢
  clear h0
  have c0 := (k1.call hb).cell' (i := 0) rfl
  go_wp2
  exact hQ _ _ (Below.refl _ _) rfl
 ·intro x w hb hk Q' hQ
  clear hk
  simp only [netE] at hQ ⊢
  go_wp2
  exact hQ _ _ (Below.refl _ _) rfl
 ·intro x w hb hk Q' hQ
  have h2 : x.v 2 = .pointer (some ⟨w0.heap.size, 1, none⟩) := (hk 2 (by decide)).1
  clear hk
  simp only [netE] at hQ ⊢
  simp only [h2] at hQ ⊢
  clear h2
  have c1 := (k1.call hb).cell' (i := 1) rfl
  go_wp2
  exact hQ _ _ (Below.refl _ _) rfl
 ·intro x w hb hk Q' hQ
  have h2 : x.v 2 = .pointer (some ⟨w0.heap.size, 1, none⟩) := (hk 2 (by decide)).1
  have h3 : x.v 3 = .slice A q.f.length c := (hk 3 (by decide)).1
  clear hk
  simp only [netE] at hQ ⊢
  simp only [h2, h3] at hQ ⊢
  clear h2 h3
  go_wp2_with fail
  refine (clone_own _ q.f _ (SlI.next hb hf)).mono ?_; rintro e w1 ⟨v1, rfl, ho, hb1⟩
  go_wp2
  exact hQ _ _ hb1 ho
 ·intro x w hb hk Q' hQ
  clear hk
  simp only [netE] at hQ ⊢
  go_wp2
  exact hQ _ _ (Below.refl _ _) rfl
 ·intro x w hb hk Q' hQ
  have h5 : x.v 5 = .pointer (some ⟨w0.heap.size, 2, none⟩) := (hk 5 (by decide)).1
  clear hk
  simp only [netE] at hQ ⊢
  simp only [h5] at hQ ⊢
  clear h5
  have c2 := (k1.call hb).cell' (i := 2) rfl
  go_wp2
  exact hQ _ _ (Below.refl _ _) rfl
 ·intro x w hb hk Q' hQ
  have h2 : x.v 2 = .pointer (some ⟨w0.heap.size, 1, none⟩) := (hk 2 (by decide)).1
  have h3 : x.v 3 = .slice A q.f.length c := (hk 3 (by decide)).1
  have h4 : IntsO w (x.lo 4) (x.hi 4) (x.v 4) q.f := (hk 4 (by decide)).1
  have h5 : x.v 5 = .pointer (some ⟨w0.heap.size, 2, none⟩) := (hk 5 (by decide)).1
  have h6 : x.v 6 = .slice C q.t.length d := (hk 6 (by decide)).1
  have s4 := (hk 4 (by decide)).2
  clear hk
  simp only [netE] at hQ ⊢
  simp only [h2, h3, h5, h6] at hQ ⊢
  clear h2 h3 h5 h6
  go_wp2_with fail
  refine (clone_own _ q.t _ (SlI.next hb ht)).mono ?_; rintro e w1 ⟨v1, rfl, ho, hb1⟩
  go_wp2
  exact hQ _ _ hb1 ho
 ·intro x w hb hk Q' hQ
  have h0 : x.v 0 = .pointer (some ⟨w0.heap.size, 0, none⟩) := (hk 0 (by decide)).1
  have h1 : x.v 1 = .int .i64 q.v := (hk 1 (by decide)).1
  have h2 : x.v 2 = .pointer (some ⟨w0.heap.size, 1, none⟩) := (hk 2 (by decide)).1
  have h3 : x.v 3 = .slice A q.f.length c := (hk 3 (by decide)).1
  have h4 : IntsO w (x.lo 4) (x.hi 4) (x.v 4) q.f := (hk 4 (by decide)).1
  have h5 : x.v 5 = .pointer (some ⟨w0.heap.size, 2, none⟩) := (hk 5 (by decide)).1
  have h6 : x.v 6 = .slice C q.t.length d := (hk 6 (by decide)).1
  have h7 : IntsO w (x.lo 7) (x.hi 7) (x.v 7) q.t := (hk 7 (by decide)).1
  have s4 := (hk 4 (by decide)).2
  have s7 := (hk 7 (by decide)).2
  clear hk
  simp only [netE] at hQ ⊢
  simp only [h0, h1, h2, h3, h5, h6] at hQ ⊢
  clear h0 h1 h2 h3 h5 h6
  obtain ⟨s4A, s4c, e4⟩ := h4.form
  obtain ⟨s7A, s7c, e7⟩ := h7.form
  have hQ' := hQ (.agg #[.int .i64 q.v, x.v 4, x.v 7]) w (Below.refl _ _) rfl
  rw [e4, e7] at hQ' ⊢
  go_wp2
  exact hQ'
 ·intro x w hb hk hiv hdj
  have h0 : x.v 0 = .pointer (some ⟨w0.heap.size, 0, none⟩) := hk 0 (by decide)
  have h1 : x.v 1 = .int .i64 q.v := hk 1 (by decide)
  have h2 : x.v 2 = .pointer (some ⟨w0.heap.size, 1, none⟩) := hk 2 (by decide)
  have h3 : x.v 3 = .slice A q.f.length c := hk 3 (by decide)
  have h4 : IntsO w (x.lo 4) (x.hi 4) (x.v 4) q.f := hk 4 (by decide)
  have h5 : x.v 5 = .pointer (some ⟨w0.heap.size, 2, none⟩) := hk 5 (by decide)
  have h6 : x.v 6 = .slice C q.t.length d := hk 6 (by decide)
  have h7 : IntsO w (x.lo 7) (x.hi 7) (x.v 7) q.t := hk 7 (by decide)
  have h8 : x.v 8 = .agg #[.int .i64 q.v, x.v 4, x.v 7] := hk 8 (by decide)
  clear hk
  simp only [netE]
  simp only [List.drop_succ_cons, List.drop_zero, h0, h1, h2, h3, h5, h6]
  clear h0 h1 h2 h3 h5 h6
  have hF := fam_apart h4 h7 (hdj 4 7 (by decide) (by decide) (by decide)) (hiv 4 (by decide)).1 (hiv 7 (by decide)).1 (hiv 4 (by decide)).2.2 (hiv 7 (by decide)).2.2
  have hQ : QuivO w W.heap.size w.heap.size (.agg #[.int .i64 q.v, x.v 4, x.v 7]) q := ⟨_, _, rfl, hF, hr⟩
  obtain ⟨s4A, s4c, e4⟩ := h4.form
  obtain ⟨s7A, s7c, e7⟩ := h7.form
  rw [e4, e7] at hQ h8
  rw [h8]
  have k2' := k2.call hb
  have f2 := k2'.frozen
  have r0 := k2'.cell' (i := 0) rfl
  have r1 := k2'.cell' (i := 1) rfl
  have r2 := k2'.cell' (i := 2) rfl
  have gf := g0.trans (hb.mono g0.size)
  have HBS := Lib.hid hb.size
  have HQ := Lib.hid hQ
  clear h4 h7 h8 e4 e7 k1 k2 hb hf ht hF hQ hdj hiv
  go_wp2
  have sz := SZ.out
  have hbs := HBS.out
  refine bodyPost_ret (v := .agg #[.int .i64 q.v, .slice s4A q.f.length s4c, .slice s7A q.t.length s7c]) (by simp [results, go_sem, r0, r1, r2]) rfl ⟨_, rfl, QuivO.wider (lo := W.heap.size) (hi := w.heap.size) ?_ (by omega) (by simp), ((gf.setCell (by simp) _).setCell (by simp) _).setCell (by simp) _⟩
  exact ((HQ.out.setLow (by simp; omega) _).setLow (by simp; omega) _).setLow (by simp; omega) _
def QuivI (w : World) (lo hi : Nat) (val : Value) (q : Qv) : Prop := ∃ a b, val = .agg #[.int .i64 q.v, a, b] ∧ IntsO w lo hi a q.f ∧ IntsO w lo hi b q.t ∧ I64 q.v
theorem QuivI.below {w w' : World} {lo hi : Nat} {v : Value} {q : Qv} (h : QuivI w lo hi v q) (hb : Below w.heap.size w w') : QuivI w' lo hi v q := by
 obtain ⟨a, b, e, h1, h2, h3⟩ := h
 exact ⟨a, b, e, h1.below hb, h2.below hb, h3⟩
theorem QuivI.rd {w : World} {lo hi : Nat} {v : Value} {q : Qv} (h : QuivI w lo hi v q) : QvR w w.heap.size v q := by
 obtain ⟨a, b, e, h1, h2, h3⟩ := h
 exact ⟨a, b, e, h1.rd, h2.rd, h3⟩
theorem QuivI.set {w : World} {lo hi : Nat} {v : Value} {q : Qv} (h : QuivI w lo hi v q) {p : Addr} (hp : p.block < lo) (u : Value) : QuivI (w.setCell p u) lo hi v q := by
 obtain ⟨a, b, e, h1, h2, h3⟩ := h
 exact ⟨a, b, e, h1.set hp u, h2.set hp u, h3⟩
theorem QuivI.wider {w : World} {lo hi lo' hi' : Nat} {v : Value} {q : Qv} (h : QuivI w lo hi v q) (k1 : lo' ≤ lo) (k2 : hi ≤ hi') : QuivI w lo' hi' v q := by
 obtain ⟨a, b, e, h1, h2, h3⟩ := h
 exact ⟨a, b, e, h1.wider k1 k2, h2.wider k1 k2, h3⟩
set_option maxHeartbeats 3200000 in
theorem l6Copy_any (u : Value) (q : Qv) (w0 : World) (hu : QvR w0 w0.heap.size u q) :
  Calls Tryz.prog 61 #[u] w0 fun e w' => ∃ v, e = .returned v ∧ QuivI w' w0.heap.size w'.heap.size v q ∧ Below w0.heap.size w0 w' := by
 obtain ⟨A, c, C, d, rfl, hf, ht, hr, lf, lt⟩ := hu.open_
 clear hu
 obtain ⟨W, hW⟩ : ∃ W, W = (w0.alloc (.cells #[.int .i64 q.v, .slice A q.f.length c, .slice C q.t.length d] 29)).alloc (.cells #[.int .i64 0, .slice none 0 0, .slice none 0 0] 29) := ⟨_, rfl⟩
 have g0 : Below w0.heap.size w0 W := by rw [hW]; exact ((Below.refl _ _).alloc (Nat.le_refl _) _).alloc (by simp) _
 have k1 : Blk W w0.heap.size 29 #[.int .i64 q.v, .slice A q.f.length c, .slice C q.t.length d] := by rw [hW]; exact (Blk.new _ _ _).alloc _
 have k2 : Blk W (w0.heap.size + 1) 29 #[.int .i64 0, .slice none 0 0, .slice none 0 0] := by
  rw [hW]
  have := Blk.new (w0.alloc (.cells #[.int .i64 q.v, .slice A q.f.length c, .slice C q.t.length d] 29)) 29 #[.int .i64 0, .slice none 0 0, .slice none 0 0]
  simpa only [World.size_alloc] using this
 have sz : W.heap.size = w0.heap.size + 1 + 1 := by rw [hW]; simp
 have SZ := Lib.hid sz
 clear sz
 replace hf := SlI.next g0 hf
 replace ht := SlI.next g0 ht
 go_enter Tryz.func61, Tryz.ntmps61
 go_wp2
 rw [← hW]; clear hW
 refine wp_region_net (by kernel_rfl) [.eq (.pointer (some ⟨w0.heap.size, 0, none⟩)), .eq (.int .i64 q.v), rel 2 (fun u lo hi w => Fresh w W.heap.size u), .eq (.pointer (some ⟨w0.heap.size, 1, none⟩)), .eq (.slice A q.f.length c), rel 5 (fun u lo hi w => OwnI w W.heap.size u q.f), rel 6 (fun u lo hi w => Fresh w W.heap.size u), .eq (.pointer (some ⟨w0.heap.size, 2, none⟩)), .eq (.slice C q.t.length d), rel 9 (fun u lo hi w => OwnI w W.heap.size u q.t), .rel (fun x w => x.v 10 = .agg #[.int .i64 q.v, x.v 5, x.v 9])] [[], [0], [], [], [3], [2, 3, 4], [], [], [7], [2, 3, 4, 5, 6, 7, 8], [0, 1, 2, 3, 4, 5, 6, 7, 8, 9], [0, 1, 2, 3, 4, 5, 6, 7, 8, 9, 10]] 11 (by kernel_rfl) ⟨trivial, trivial, rel_stable (fun u lo hi w w' h hb => h.below hb), trivial, trivial, rel_stable (fun u lo hi w w' h hb => h.below hb), rel_stable (fun u lo hi w w' h hb => h.below hb), trivial, trivial, rel_stable (fun u lo hi w w' h hb => h.below hb), fun x w w' h hb => h, trivial⟩ ⟨?_, ?_, ?_, ?_, ?_, ?_, ?_, ?_, ?_, ?_, ?_, trivial⟩ ?_
 ·intro x w hb hk Q' hQ
  clear hk
  simp only [netE] at hQ ⊢
  go_wp2
  exact hQ _ _ (Below.refl _ _) rfl
 ·intro x w hb hk Q' hQ
  have h0 : x.v 0 = .pointer (some ⟨w0.heap.size, 0, none⟩) := (hk 0 (by decide)).1
  clear hk
  simp only [netE] at hQ ⊢
  simp only [h0] at hQ ⊢
  clear h0
  have c0 := (k1.call hb).cell' (i := 0) rfl
  go_wp2
  exact hQ _ _ (Below.refl _ _) rfl
 ·intro x w hb hk Q' hQ
  clear hk
  simp only [netE] at hQ ⊢
  go_wp2
  exact hQ _ _ (below_alloc _ _) (Fresh.new _ hb.size)
 ·intro x w hb hk Q' hQ
  clear hk
  simp only [netE] at hQ ⊢
  go_wp2
  exact hQ _ _ (Below.refl _ _) rfl
 ·intro x w hb hk Q' hQ
  have h3 : x.v 3 = .pointer (some ⟨w0.heap.size, 1, none⟩) := (hk 3 (by decide)).1
  clear hk
  simp only [netE] at hQ ⊢
  simp only [h3] at hQ ⊢
  clear h3
  have c1 := (k1.call hb).cell' (i := 1) rfl
  go_wp2
  exact hQ _ _ (Below.refl _ _) rfl
 ·intro x w hb hk Q' hQ
  have h2 : Fresh w W.heap.size (x.v 2) := (hk 2 (by decide)).1
  have h3 : x.v 3 = .pointer (some ⟨w0.heap.size, 1, none⟩) := (hk 3 (by decide)).1
  have h4 : x.v 4 = .slice A q.f.length c := (hk 4 (by decide)).1
  have s2 := (hk 2 (by decide)).2
  clear hk
  simp only [netE] at hQ ⊢
  simp only [h3, h4] at hQ ⊢
  clear h3 h4
  obtain ⟨g, e2, hg, hB⟩ := h2
  rw [e2] at hQ ⊢
  refine wpList_append_fresh (by rfl) (.tmp 5) (.tmp 7) (by rfl) g W.heap.size w.heap.size #[] (by rfl) hB rfl hg A c q.f (by rfl) (SlI.next hb hf) ?_
  intro v' w' ho hb'
  exact hQ _ _ hb' ho
 ·intro x w hb hk Q' hQ
  clear hk
  simp only [netE] at hQ ⊢
  go_wp2
  exact hQ _ _ (below_alloc _ _) (Fresh.new _ hb.size)
 ·intro x w hb hk Q' hQ
  clear hk
  simp only [netE] at hQ ⊢
  go_wp2
  exact hQ _ _ (Below.refl _ _) rfl
 ·intro x w hb hk Q' hQ
  have h7 : x.v 7 = .pointer (some ⟨w0.heap.size, 2, none⟩) := (hk 7 (by decide)).1
  clear hk
  simp only [netE] at hQ ⊢
  simp only [h7] at hQ ⊢
  clear h7
  have c2 := (k1.call hb).cell' (i := 2) rfl
  go_wp2
  exact hQ _ _ (Below.refl _ _) rfl
 ·intro x w hb hk Q' hQ
  have h2 : Fresh w W.heap.size (x.v 2) := (hk 2 (by decide)).1
  have h3 : x.v 3 = .pointer (some ⟨w0.heap.size, 1, none⟩) := (hk 3 (by decide)).1
  have h4 : x.v 4 = .slice A q.f.length c := (hk 4 (by decide)).1
  have h5 : OwnI w W.heap.size (x.v 5) q.f := (hk 5 (by decide)).1
  have h6 : Fresh w W.heap.size (x.v 6) := (hk 6 (by decide)).1
  have h7 : x.v 7 = .pointer (some ⟨w0.heap.size, 2, none⟩) := (hk 7 (by decide)).1
  have h8 : x.v 8 = .slice C q.t.length d := (hk 8 (by decide)).1
  have s2 := (hk 2 (by decide)).2
  have s5 := (hk 5 (by decide)).2
  have s6 := (hk 6 (by decide)).2
  clear hk
  simp only [netE] at hQ ⊢
  simp only [h3, h4, h7, h8] at hQ ⊢
  clear h3 h4 h7 h8
  obtain ⟨g, e6, hg, hB⟩ := h6
  rw [e6] at hQ ⊢
  refine wpList_append_fresh (by rfl) (.tmp 9) (.tmp 11) (by rfl) g W.heap.size w.heap.size #[] (by rfl) hB rfl hg C d q.t (by rfl) (SlI.next hb ht) ?_
  intro v' w' ho hb'
  exact hQ _ _ hb' ho
 ·intro x w hb hk Q' hQ
  have h0 : x.v 0 = .pointer (some ⟨w0.heap.size, 0, none⟩) := (hk 0 (by decide)).1
  have h1 : x.v 1 = .int .i64 q.v := (hk 1 (by decide)).1
  have h2 : Fresh w W.heap.size (x.v 2) := (hk 2 (by decide)).1
  have h3 : x.v 3 = .pointer (some ⟨w0.heap.size, 1, none⟩) := (hk 3 (by decide)).1
  have h4 : x.v 4 = .slice A q.f.length c := (hk 4 (by decide)).1
  have h5 : OwnI w W.heap.size (x.v 5) q.f := (hk 5 (by decide)).1
  have h6 : Fresh w W.heap.size (x.v 6) := (hk 6 (by decide)).1
  have h7 : x.v 7 = .pointer (some ⟨w0.heap.size, 2, none⟩) := (hk 7 (by decide)).1
  have h8 : x.v 8 = .slice C q.t.length d := (hk 8 (by decide)).1
  have h9 : OwnI w W.heap.size (x.v 9) q.t := (hk 9 (by decide)).1
  have s2 := (hk 2 (by decide)).2
  have s5 := (hk 5 (by decide)).2
  have s6 := (hk 6 (by decide)).2
  have s9 := (hk 9 (by decide)).2
  clear hk
  simp only [netE] at hQ ⊢
  simp only [h0, h1, h3, h4, h7, h8] at hQ ⊢
  clear h0 h1 h3 h4 h7 h8
  obtain ⟨s4A, s4c, e4, _, _⟩ := h5.form
  obtain ⟨s7A, s7c, e7, _, _⟩ := h9.form
  have hQ' := hQ (.agg #[.int .i64 q.v, x.v 5, x.v 9]) w (Below.refl _ _) rfl
  rw [e4, e7] at hQ' ⊢
  go_wp2
  exact hQ'
 ·intro x w hb hk hiv hdj
  have h0 : x.v 0 = .pointer (some ⟨w0.heap.size, 0, none⟩) := hk 0 (by decide)
  have h1 : x.v 1 = .int .i64 q.v := hk 1 (by decide)
  have h2 : Fresh w W.heap.size (x.v 2) := hk 2 (by decide)
  have h3 : x.v 3 = .pointer (some ⟨w0.heap.size, 1, none⟩) := hk 3 (by decide)
  have h4 : x.v 4 = .slice A q.f.length c := hk 4 (by decide)
  have h5 : OwnI w W.heap.size (x.v 5) q.f := hk 5 (by decide)
  have h6 : Fresh w W.heap.size (x.v 6) := hk 6 (by decide)
  have h7 : x.v 7 = .pointer (some ⟨w0.heap.size, 2, none⟩) := hk 7 (by decide)
  have h8 : x.v 8 = .slice C q.t.length d := hk 8 (by decide)
  have h9 : OwnI w W.heap.size (x.v 9) q.t := hk 9 (by decide)
  have h10 : x.v 10 = .agg #[.int .i64 q.v, x.v 5, x.v 9] := hk 10 (by decide)
  clear hk
  simp only [netE]
  simp only [List.drop_succ_cons, List.drop_zero, h0, h1, h3, h4, h7, h8]
  clear h0 h1 h3 h4 h7 h8
  have hQ : QuivI w W.heap.size w.heap.size (.agg #[.int .i64 q.v, x.v 5, x.v 9]) q := ⟨_, _, rfl, IntsO.of_own h5, IntsO.of_own h9, hr⟩
  obtain ⟨s4A, s4c, e4, _, _⟩ := h5.form
  obtain ⟨s7A, s7c, e7, _, _⟩ := h9.form
  rw [e4, e7] at hQ h10
  rw [h10]
  have k2' := k2.call hb
  have f2 := k2'.frozen
  have r0 := k2'.cell' (i := 0) rfl
  have r1 := k2'.cell' (i := 1) rfl
  have r2 := k2'.cell' (i := 2) rfl
  have gf := g0.trans (hb.mono g0.size)
  have HBS := Lib.hid hb.size
  have HQ := Lib.hid hQ
  clear h2 h5 h6 h9 h10 e4 e7 k1 k2 hb hf ht hQ hdj hiv
  go_wp2
  have sz := SZ.out
  have hbs := HBS.out
  refine bodyPost_ret (v := .agg #[.int .i64 q.v, .slice s4A q.f.length s4c, .slice s7A q.t.length s7c]) (by simp [results, go_sem, r0, r1, r2]) rfl ⟨_, rfl, QuivI.wider (lo := W.heap.size) (hi := w.heap.size) ?_ (by omega) (by simp), ((gf.setCell (by simp) _).setCell (by simp) _).setCell (by simp) _⟩
  exact ((HQ.out.set (by simp; omega) _).set (by simp; omega) _).set (by simp; omega) _
end Go.Proofs.YtcmlflppndfdcaaGreat
namespace Go.Proofs.YtcmlflppndfdcaaGreat
open Go.RowKit
def zmx (r c : Int) : Mx := ⟨r, c, List.replicate (r * c).toNat 0⟩
set_option maxHeartbeats 800000 in
theorem zero_any (r c : Int) (w : World) (hr : 0 ≤ r) (hc : 0 ≤ c) (hr2 : r ≤ 1000) (hc2 : c ≤ 1000) :
  Calls Tryz.prog 72 #[.int .i64 r, .int .i64 c] w fun e w' => ∃ v, e = .returned v ∧ MxO w' w.heap.size w'.heap.size v (zmx r c) ∧ Below w.heap.size w w' := by
 obtain ⟨n, rfl⟩ := Int.eq_ofNat_of_zero_le hr
 obtain ⟨m, rfl⟩ := Int.eq_ofNat_of_zero_le hc
 obtain ⟨N, hN⟩ : ∃ N, n * m = N := ⟨_, rfl⟩
 have hNb : N ≤ 1000000 := by
  have : n * m ≤ 1000 * 1000 := Nat.mul_le_mul (by omega) (by omega)
  omega
 have hmul : (n : Int) * m = (N : Int) := by rw [← hN]; simp
 have hw : wrap64 ((n : Int) * m) = (N : Int) := by rw [hmul]; exact IntWalk.wrap64_in _ ⟨by omega, by omega⟩
 have hZ : zmx n m = ⟨n, m, List.replicate N 0⟩ := by rw [zmx, hmul]; rfl
 rw [hZ]
 obtain ⟨i0, hi, hz0, hz1, hz2⟩ := info_parts infoInt
 have hmk := run_mk (P := Tryz.prog) Tryz.underlying22 hi hz0 (n := N) (by rw [hz2]; omega) (by omega)
 rw [hz1] at hmk
 have hN1 : (0 : Int) ≤ (n : Int) * m := by omega
 have hN2 : (n : Int) * m ≤ 1000000 := by omega
 clear hi hz0 hz1 hz2 hN hZ
 obtain ⟨W, hW⟩ : ∃ W, W = (w.alloc (.cells #[.int .i64 n, .int .i64 m, .slice (some ⟨w.heap.size + 1, 0, none⟩) N N] 50)).alloc (.cells (mkCells (.int .i64 0) N) 3) := ⟨_, rfl⟩
 have g0 : Below w.heap.size w W := by rw [hW]; exact ((Below.refl _ _).alloc (Nat.le_refl _) _).alloc (by simp) _
 have k1 : Blk W w.heap.size 50 #[.int .i64 n, .int .i64 m, .slice (some ⟨w.heap.size + 1, 0, none⟩) N N] := by rw [hW]; exact (Blk.new _ _ _).alloc _
 have ho : OwnI W (w.heap.size + 1) (.slice (some ⟨w.heap.size + 1, 0, none⟩) N N) (List.replicate N 0) := by
  rw [hW]
  have := OwnI.made0 (w := w.alloc (.cells #[.int .i64 n, .int .i64 m, .slice (some ⟨w.heap.size + 1, 0, none⟩) N N] 50)) (base := w.heap.size + 1) (N := N) (by simp) (by omega)
  simpa only [World.size_alloc] using this
 have r0 := k1.cell' (i := 0) rfl
 have r1 := k1.cell' (i := 1) rfl
 have r2 := k1.cell' (i := 2) rfl
 have HO := Lib.hid ho
 clear ho k1
 rw [Nat.mul_one] at hmk
 go_enter Tryz.func72, Tryz.ntmps72
 go_wp2
 rw [← hW]
 exact bodyPost_ret (v := .agg #[.int .i64 n, .int .i64 m, .slice (some ⟨w.heap.size + 1, 0, none⟩) N N]) (by simp [results, go_sem, r0, r1, r2]) rfl ⟨_, rfl, ⟨_, by simp, (IntsO.of_own HO.out).wider (by omega) (Nat.le_refl _), by simp only [I64]; omega, by simp only [I64]; omega⟩, g0⟩
set_option maxHeartbeats 800000 in
theorem l3Zero_any (r c : Int) (w : World) (hr : 0 ≤ r) (hc : 0 ≤ c) (hr2 : r ≤ 1000) (hc2 : c ≤ 1000) :
  Calls Tryz.prog 59 #[.int .i64 r, .int .i64 c] w fun e w' => ∃ v, e = .returned v ∧ MxO w' w.heap.size w'.heap.size v (zmx r c) ∧ Below w.heap.size w w' := by
 obtain ⟨n, rfl⟩ := Int.eq_ofNat_of_zero_le hr
 obtain ⟨m, rfl⟩ := Int.eq_ofNat_of_zero_le hc
 obtain ⟨N, hN⟩ : ∃ N, n * m = N := ⟨_, rfl⟩
 have hNb : N ≤ 1000000 := by
  have : n * m ≤ 1000 * 1000 := Nat.mul_le_mul (by omega) (by omega)
  omega
 have hmul : (n : Int) * m = (N : Int) := by rw [← hN]; simp
 have hw : wrap64 ((n : Int) * m) = (N : Int) := by rw [hmul]; exact IntWalk.wrap64_in _ ⟨by omega, by omega⟩
 have hZ : zmx n m = ⟨n, m, List.replicate N 0⟩ := by rw [zmx, hmul]; rfl
 rw [hZ]
 obtain ⟨i0, hi, hz0, hz1, hz2⟩ := info_parts infoInt
 have hmk := run_mk (P := Tryz.prog) Tryz.underlying22 hi hz0 (n := N) (by rw [hz2]; omega) (by omega)
 rw [hz1] at hmk
 have hN1 : (0 : Int) ≤ (n : Int) * m := by omega
 have hN2 : (n : Int) * m ≤ 1000000 := by omega
 clear hi hz0 hz1 hz2 hN hZ
 obtain ⟨W, hW⟩ : ∃ W, W = (w.alloc (.cells #[.int .i64 n, .int .i64 m, .slice (some ⟨w.heap.size + 1, 0, none⟩) N N] 50)).alloc (.cells (mkCells (.int .i64 0) N) 3) := ⟨_, rfl⟩
 have g0 : Below w.heap.size w W := by rw [hW]; exact ((Below.refl _ _).alloc (Nat.le_refl _) _).alloc (by simp) _
 have k1 : Blk W w.heap.size 50 #[.int .i64 n, .int .i64 m, .slice (some ⟨w.heap.size + 1, 0, none⟩) N N] := by rw [hW]; exact (Blk.new _ _ _).alloc _
 have ho : OwnI W (w.heap.size + 1) (.slice (some ⟨w.heap.size + 1, 0, none⟩) N N) (List.replicate N 0) := by
  rw [hW]
  have := OwnI.made0 (w := w.alloc (.cells #[.int .i64 n, .int .i64 m, .slice (some ⟨w.heap.size + 1, 0, none⟩) N N] 50)) (base := w.heap.size + 1) (N := N) (by simp) (by omega)
  simpa only [World.size_alloc] using this
 have r0 := k1.cell' (i := 0) rfl
 have r1 := k1.cell' (i := 1) rfl
 have r2 := k1.cell' (i := 2) rfl
 have HO := Lib.hid ho
 clear ho k1
 rw [Nat.mul_one] at hmk
 go_enter Tryz.func59, Tryz.ntmps59
 go_wp2
 rw [← hW]
 exact bodyPost_ret (v := .agg #[.int .i64 n, .int .i64 m, .slice (some ⟨w.heap.size + 1, 0, none⟩) N N]) (by simp [results, go_sem, r0, r1, r2]) rfl ⟨_, rfl, ⟨_, by simp, (IntsO.of_own HO.out).wider (by omega) (Nat.le_refl _), by simp only [I64]; omega, by simp only [I64]; omega⟩, g0⟩
structure AppT (T : TypeId) (lo : Nat) (w w' : World) : Prop where
 os : w'.os = w.os
 tape : w'.tape = w.tape
 output : w'.output = w.output
 size : w.heap.size ≤ w'.heap.size
 low : ∀ k, k < lo → k < w.heap.size → w'.heap[k]? = w.heap[k]?
 other : ∀ g t cs, t ≠ T → Blk w g t cs → Blk w' g t cs
theorem AppT.of_below {T : TypeId} {lo : Nat} {w w' : World} (h : Below w.heap.size w w') : AppT T lo w w' := ⟨h.os, h.tape, h.output, h.size, fun k _ hk => h.block k hk, fun _ _ _ _ hb => hb.call h⟩
theorem AppT.trans {T : TypeId} {lo : Nat} {a b c : World} (h : AppT T lo a b) (k : AppT T lo b c) : AppT T lo a c :=
 ⟨k.os.trans h.os, k.tape.trans h.tape, k.output.trans h.output, Nat.le_trans h.size k.size, fun i hi hs => (k.low i hi (Nat.lt_of_lt_of_le hs h.size)).trans (h.low i hi hs), fun g t cs ht hb => k.other g t cs ht (h.other g t cs ht hb)⟩
theorem AppT.below {T : TypeId} {lo B : Nat} {w w' : World} (h : AppT T lo w w') (hB : B ≤ lo) (hs : B ≤ w.heap.size) : Below B w w' := ⟨h.os, h.tape, h.output, h.size, fun k hk => h.low k (by omega) (by omega)⟩
theorem OwnI.appT {T : TypeId} {lo base : Nat} {w w' : World} {v : Value} {l : List Int} (h : OwnI w base v l) (hT : 3 ≠ T) (ha : AppT T lo w w') : OwnI w' base v l := by
 refine ⟨⟨h.1.1, ?_⟩, h.2⟩
 rcases h.1.2 with h1 | ⟨g, cap, cur, e, hg, hh, rest⟩
 ·exact .inl h1
 ·exact .inr ⟨g, cap, cur, e, hg, ha.other g _ cur hT hh, rest⟩
theorem IntsO.appT {T : TypeId} {lo l1 h1 : Nat} {w w' : World} {v : Value} {l : List Int} (h : IntsO w l1 h1 v l) (hT : 3 ≠ T) (ha : AppT T lo w w') : IntsO w' l1 h1 v l := ⟨h.1.appT hT ha, h.2⟩
theorem Fam.appT {T : TypeId} {lo l1 h1 : Nat} {w w' : World} {L : List (Value × List Int)} (h : Fam w l1 h1 L) (hT : 3 ≠ T) (ha : AppT T lo w w') : Fam w' l1 h1 L := ⟨fun p hp => (h.1 p hp).appT hT ha, h.2⟩
theorem AppT.set {T T' : TypeId} {lo g i : Nat} {w : World} {cs : Array Value} {u : Value} (hb : Blk w g T' cs) (hT : T' = T) (hg : lo ≤ g) : AppT T lo w (w.setCell ⟨g, i, none⟩ u) := by
 subst hT
 refine ⟨rfl, rfl, rfl, by simp [World.setCell], fun k hk _ => Below.heap_setCell _ _ _ _ (by simp; omega), fun g' t cs' ht hb' => ?_⟩
 refine hb'.far ?_ u
 rintro rfl
 unfold Blk at hb hb'
 rw [hb] at hb'
 injection hb' with hb'
 injection hb' with _ hb'
 exact ht hb'.symm
theorem wpList_appM {w : World} {ops : Array Oper} {rest : List Oper} {o : Oper} {a : Act} {Q : Exit → Act → World → Prop} (hgd : o.guard = none) (s x : Operand)
  (ho : o.op = .call { callee := .builtin .append, args := #[s, x], argTypes := #[30, 30] })
  (lo hi : Nat) (v : Value) (vs : List Value) (ms : List Mx) (hs : a.eval s = v) (hown : OutM w lo hi v vs ms) (hl : vs.length = ms.length) (g c : Nat) (m : Mx) (u : Value) (hx : a.eval x = .slice (some ⟨g, 0, none⟩) 1 c) (hg : Blk w g 50 #[.int .i64 m.r, .int .i64 m.c, u]) (hu : u.oneCell' = true)
  (hn : ms.length ≤ 1000000) (hlo : lo ≤ w.heap.size)
  (h : ∀ v' w', OutM w' lo w'.heap.size v' (vs ++ [u]) (ms ++ [m]) → AppT 50 lo w w' → wpList Tryz.prog ops Q rest (a.put o.dst v') w') : wpList Tryz.prog ops Q (o :: rest) a w := by
 obtain ⟨i0, hi', hz0, hz1, hz2⟩ := info_parts infoMx
 have hcs := mxCs_snoc vs ms u m hl
 refine wpList_append_G w hgd s x _ ho lo 50 i0 _ 3 40 Tryz.underlying30 hi' hz0 hz1 hz2 rfl (by decide) v ms.length _ hs hown.1 _ 1 c [.int .i64 m.r, .int .i64 m.c, u] hx ⟨rfl, .inr ⟨g, 0, rfl, fun j y hj => ?_⟩⟩ ?_ (by simp only [maxLen]; omega) (by omega) hlo fun v' w' h1 h2 h3 => ?_
 ·have hj3 := lt_of_some hj
  simp only [List.length_cons, List.length_nil] at hj3
  rw [Nat.zero_add]
  match j, hj with
  | 0, hj => rw [hg.cell]; exact hj
  | 1, hj => rw [hg.cell]; exact hj
  | 2, hj => rw [hg.cell]; exact hj
  | j + 3, hj => omega
 ·intro y hy
  simp only [List.mem_cons, List.not_mem_nil, or_false] at hy
  rcases hy with rfl | rfl | rfl
  ·rfl
  ·rfl
  ·exact hu
 ·refine h v' w' ⟨?_, fun k hk => ?_, by simp; omega⟩ ⟨h2.os, h2.tape, h2.output, h2.size, fun k hk hks => h2.block k hks (fun e => ?_), fun g' t cs ht hb => hb.grown h2 (fun e => ?_)⟩
  ·rw [hcs, List.length_append]
   exact h1
  ·exact (h1.lt k hk).2
  ·have := (hown.1.lt k e.symm).1
   omega
  ·rcases hown.1.2 with ⟨rfl, _⟩ | ⟨g2, cap, cur, rfl, _, hh, _⟩
   ·simp [Value.ownBlock] at e
   ·have : g' = g2 := by simpa [Value.ownBlock] using e
    subst this
    unfold Blk at hb
    rw [hh] at hb
    injection hb with hb
    injection hb with _ hb
    exact ht hb.symm
end Go.Proofs.YtcmlflppndfdcaaGreat
namespace Go.Proofs.YtcmlflppndfdcaaGreat
open Go.RowKit
theorem ix_div {i k c : Nat} (hk : k < c) : (i * c + k) / c = i := by
 rw [Nat.mul_comm, Nat.mul_add_div (by omega), Nat.div_eq_of_lt hk, Nat.add_zero]
theorem ix_mod {i k c : Nat} (hk : k < c) : (i * c + k) % c = k := by
 rw [Nat.mul_comm, Nat.mul_add_mod, Nat.mod_eq_of_lt hk]
theorem ix_lt {i k r c : Nat} (hi : i < r) (hk : k < c) : i * c + k < r * c := by
 have : (i + 1) * c ≤ r * c := Nat.mul_le_mul_right _ hi
 rw [Nat.add_mul] at this
 omega
theorem ix_of {j r c : Nat} (hj : j < r * c) : ∃ i k, i < r ∧ k < c ∧ j = i * c + k := by
 have hc : 0 < c := Nat.pos_of_ne_zero (by rintro rfl; simp at hj)
 refine ⟨j / c, j % c, (Nat.div_lt_iff_lt_mul hc).2 hj, Nat.mod_lt _ hc, ?_⟩
 rw [Nat.mul_comm]; exact (Nat.div_add_mod j c).symm
theorem ix_inj {i k i' k' c : Nat} (hk : k < c) (hk' : k' < c) (h : i * c + k = i' * c + k') : i = i' ∧ k = k' := by
 have h1 := ix_div (i := i) hk
 have h2 := ix_mod (i := i) hk
 rw [h, ix_div hk'] at h1
 rw [h, ix_mod hk'] at h2
 exact ⟨h1.symm, h2.symm⟩
def flat (r c : Nat) (f : Nat → Nat → Int) : List Int := (List.range (r * c)).map fun j => f (j / c) (j % c)
theorem flat_length (r c : Nat) (f : Nat → Nat → Int) : (flat r c f).length = r * c := by simp [flat]
theorem flat_get {r c i k : Nat} (f : Nat → Nat → Int) (hi : i < r) (hk : k < c) : (flat r c f)[i * c + k]? = some (f i k) := by
 simp [flat, ix_lt hi hk, ix_div hk, ix_mod hk]
theorem flat_getD {r c i k : Nat} (f : Nat → Nat → Int) (hi : i < r) (hk : k < c) : (flat r c f).getD (i * c + k) 0 = f i k := by
 rw [List.getD_eq_getElem?_getD, flat_get f hi hk]; rfl
theorem flat_ext {r c : Nat} {l : List Int} {f : Nat → Nat → Int} (hl : l.length = r * c) (h : ∀ i k, i < r → k < c → l[i * c + k]? = some (f i k)) : l = flat r c f := by
 apply List.ext_getElem?
 intro j
 by_cases hj : j < r * c
 ·obtain ⟨i, k, hi, hk, rfl⟩ := ix_of hj
  rw [h i k hi hk, flat_get f hi hk]
 ·rw [List.getElem?_eq_none (by omega), List.getElem?_eq_none (by rw [flat_length]; omega)]
theorem flat_congr {r c : Nat} {f g : Nat → Nat → Int} (h : ∀ a b, a < r → b < c → f a b = g a b) : flat r c f = flat r c g :=
 flat_ext (flat_length _ _ _) fun i k hi hk => by rw [flat_get f hi hk, h i k hi hk]
theorem flat_set {r c i k : Nat} (f : Nat → Nat → Int) (x : Int) (hi : i < r) (hk : k < c) : (flat r c f).set (i * c + k) x = flat r c fun a b => if a = i ∧ b = k then x else f a b := by
 refine flat_ext (by simp [flat_length]) fun a b ha hb => ?_
 rw [List.getElem?_set]
 by_cases e : i * c + k = a * c + b
 ·obtain ⟨rfl, rfl⟩ := ix_inj hk hb e
  rw [if_pos rfl, if_pos (by rw [flat_length]; exact ix_lt hi hk), if_pos ⟨rfl, rfl⟩]
 ·rw [if_neg e, flat_get f ha hb, if_neg]
  rintro ⟨rfl, rfl⟩
  exact e rfl
theorem flat_zero (r c : Nat) : flat r c (fun _ _ => 0) = List.replicate (r * c) 0 := by
 refine (flat_ext (by simp) fun i k hi hk => ?_).symm
 have := ix_lt hi hk
 simp [this]
def entry (l : List Int) (c i k : Nat) : Int := l.getD (i * c + k) 0
theorem flat_of {l : List Int} {r c : Nat} (hl : l.length = r * c) : l = flat r c (entry l c) :=
 flat_ext hl fun i k hi hk => by
  have := ix_lt hi hk
  rw [entry, List.getD_eq_getElem?_getD, List.getElem?_eq_getElem (by omega)]; rfl
def mxF (r c : Nat) (f : Nat → Nat → Int) : Mx := ⟨r, c, flat r c f⟩
theorem zmx_flat (r c : Nat) : zmx r c = mxF r c fun _ _ => 0 := by
 rw [mxF, flat_zero, zmx]
 congr
theorem ix_walk {i k r c : Nat} (hi : i < r) (hk : k < c) (hr : r ≤ 1000) (hc : c ≤ 1000) :
  ∃ P J : Nat, wrap64 ((i : Int) * (c : Int)) = (P : Int) ∧ P + k = J ∧ J = i * c + k ∧ J < r * c ∧ J ≤ 1000000 := by
 have h1 := ix_lt hi hk
 have h2 : r * c ≤ 1000 * 1000 := Nat.mul_le_mul hr hc
 refine ⟨i * c, i * c + k, ?_, rfl, rfl, h1, by omega⟩
 rw [show ((i : Int) * (c : Int)) = ((i * c : Nat) : Int) by simp]
 exact IntWalk.wrap64_in _ ⟨by omega, by omega⟩
end Go.Proofs.YtcmlflppndfdcaaGreat
namespace Go.Proofs.YtcmlflppndfdcaaGreat
open Go.RowKit
theorem isRep_at {x : Rp} (hx : isRep x = true) {k : Nat} (hk : k < x.q.f.length) : ∃ (m : Mx) (nf nt yf yt : Nat), x.m[k]? = some m ∧ x.q.f[k]? = some (nf : Int) ∧ x.q.t[k]? = some (nt : Int) ∧ x.d[nf]? = some (yf : Int) ∧ x.d[nt]? = some (yt : Int) ∧
  m = mxF yt yf (entry m.a yf) ∧ (∀ i j, i < yt → j < yf → 0 ≤ entry m.a yf i j ∧ entry m.a yf i j ≤ x.p - 1) ∧ yf ≤ 4 ∧ yt ≤ 4 ∧ nf ≤ 5 ∧ nt ≤ 5 ∧ nf < x.d.length ∧ nt < x.d.length ∧ k < x.q.t.length ∧ k < x.m.length := by
 obtain ⟨h1, h2, h3, h4⟩ := isRep_t.1 hx
 obtain ⟨nf, nt, yf, yt, ef, et, df, dt, lf, lt, l5, l6, l7⟩ := rep_at h2 hk
 have hd := (areDims_t.1 h2).2.2.1
 have bf := hd _ (List.mem_of_getElem? df)
 have bt := hd _ (List.mem_of_getElem? dt)
 have hkm : k < x.m.length := by omega
 have em := List.getElem?_eq_getElem hkm
 obtain ⟨m, hm⟩ : ∃ m, x.m[k] = m := ⟨_, rfl⟩
 rw [hm] at em
 have h5 := h4
 simp only [okMs, List.all_eq_true, List.mem_range] at h5
 have h6 := h5 k hkm
 simp only [List.getD_eq_getElem?_getD, em, ef, et, Option.getD_some] at h6
 simp only [okM, Bool.and_eq_true, decide_eq_true_eq] at h6
 obtain ⟨⟨hM, hc⟩, hr⟩ := h6
 rw [dAt_of df] at hc
 rw [dAt_of dt] at hr
 obtain ⟨_, _, hl, hv⟩ := isMat_t.1 hM
 obtain ⟨YF, rfl⟩ := Int.eq_ofNat_of_zero_le bf.1
 obtain ⟨YT, rfl⟩ := Int.eq_ofNat_of_zero_le bt.1
 have hl' : m.a.length = YT * YF := by
  rw [hr, hc] at hl
  exact_mod_cast hl
 have hrange := (isVec_t.1 hv).2.2
 refine ⟨m, nf, nt, YF, YT, em, ef, et, df, dt, ?_, fun i j hi hj => ?_, by omega, by omega, l5, l6, lf, lt, l7, hkm⟩
 ·rw [mx_ext]
  exact ⟨hr, hc, flat_of hl'⟩
 ·refine hrange _ ?_
  have := ix_lt hi hj
  rw [entry, List.getD_eq_getElem?_getD, List.getElem?_eq_getElem (by omega)]
  exact List.getElem_mem _
def mx0 : Mx := ⟨0, 0, []⟩
theorem MxO.zero (w : World) (lo hi : Nat) : MxO w lo hi (.agg #[.int .i64 0, .int .i64 0, .slice none 0 0]) mx0 := ⟨_, rfl, ⟨OwnI.nil _ _, by simp [Value.ownBlock]⟩, by simp [mx0, I64], by simp [mx0, I64]⟩
theorem MxO.setBlk {w : World} {lo hi g i : Nat} {v : Value} {m : Mx} {t : TypeId} {cs : Array Value} (h : MxO w lo hi v m) (hb : Blk w g t cs) (ht : 3 ≠ t) (u : Value) : MxO (w.setCell ⟨g, i, none⟩ u) lo hi v m := by
 obtain ⟨s, e, h1, h2⟩ := h
 exact ⟨s, e, ⟨h1.1.setCell (p := ⟨g, i, none⟩) (fun e => h1.1.blkne hb ht e.symm) u, h1.2⟩, h2⟩
end Go.Proofs.YtcmlflppndfdcaaGreat
namespace Go.Proofs.YtcmlflppndfdcaaGreat
open Go.RowKit
theorem IntsO.at_ {w : World} {lo hi : Nat} {v : Value} {l : List Int} (h : IntsO w lo hi v l) (h0 : 0 < l.length) : ∃ g c, v = .slice (some ⟨g, 0, none⟩) l.length c ∧ lo ≤ g ∧ g < hi ∧ g < w.heap.size := by
 rcases h.1.1.2 with ⟨rfl, h1⟩ | ⟨g, cap, cur, rfl, hg, hh, _⟩
 ·omega
 ·exact ⟨g, cap, rfl, hg, h.2 g rfl, (Array.getElem?_eq_some_iff.1 hh).1⟩
theorem IntsO.put {w : World} {lo hi g n cap j : Nat} {l : List Int} {x : Int} (h : IntsO w lo hi (.slice (some ⟨g, 0, none⟩) n cap) l) (hx : I64 x) : IntsO (w.setCell ⟨g, j, none⟩ (.int .i64 x)) lo hi (.slice (some ⟨g, 0, none⟩) n cap) (l.set j x) := ⟨(h.1.put hx).1, h.2⟩
def idF (a b : Nat) : Int := if a = b then 1 else 0
def idK (k a b : Nat) : Int := if a = b ∧ a < k then 1 else 0
end Go.Proofs.YtcmlflppndfdcaaGreat
namespace Go.Proofs.YtcmlflppndfdcaaGreat
open Go.RowKit
theorem ix_next {i r c P : Nat} (hi : i < r) (hr : r ≤ 1000) (hc : c ≤ 1000) (hP : wrap64 ((i : Int) * (c : Int)) = (P : Int)) :
  P = i * c ∧ wrap64 (((i : Int) + 1) * (c : Int)) = ((P + c : Nat) : Int) ∧ P + c ≤ r * c ∧ P + c ≤ 1000000 := by
 have h1 : (i + 1) * c ≤ r * c := Nat.mul_le_mul_right _ hi
 have h2 : r * c ≤ 1000 * 1000 := Nat.mul_le_mul hr hc
 have h3 : (i + 1) * c = i * c + c := by rw [Nat.add_mul, Nat.one_mul]
 have e1 : P = i * c := by
  rw [show ((i : Int) * (c : Int)) = ((i * c : Nat) : Int) by simp, IntWalk.wrap64_in _ ⟨by omega, by omega⟩] at hP
  omega
 refine ⟨e1, ?_, by omega, by omega⟩
 rw [show (((i : Int) + 1) * (c : Int)) = (((i + 1) * c : Nat) : Int) by simp, h3, ← e1]
 exact IntWalk.wrap64_in _ ⟨by omega, by omega⟩
set_option maxHeartbeats 800000 in
theorem row_at (r : Int) (c i P N cap g : Nat) (w : World) (h1 : wrap64 ((i : Int) * (c : Int)) = (P : Int)) (h2 : wrap64 (((i : Int) + 1) * (c : Int)) = ((P + c : Nat) : Int))
  (hN : P + c ≤ N) (hcap : N ≤ cap) (hb : cap ≤ 9223372036854775807) (h0 : 0 < c) (hi : i ≤ 1000) :
  Calls Tryz.prog 77 #[.agg #[.int .i64 r, .int .i64 c, .slice (some ⟨g, 0, none⟩) N cap], .int .i64 i] w fun e w' => e = .returned (.slice (some ⟨g, P, none⟩) c (cap - P)) ∧ Below w.heap.size w w' := by
 go_enter Tryz.func77, Tryz.ntmps77
 go_wp2
 exact bodyPost_ret (v := .slice (some ⟨g, P, none⟩) c (cap - P)) (by simp [results, go_sem]) rfl ⟨rfl, below_alloc _ _⟩
end Go.Proofs.YtcmlflppndfdcaaGreat
namespace Go.Proofs.YtcmlflppndfdcaaGreat
open Go.RowKit
set_option maxHeartbeats 800000 in
theorem row_zero (r : Int) (i cap : Nat) (A : Option Addr) (w : World) (hb : cap ≤ 9223372036854775807) (hi : i ≤ 1000) :
  Calls Tryz.prog 77 #[.agg #[.int .i64 r, .int .i64 0, .slice A 0 cap], .int .i64 i] w fun e w' => ∃ A, e = .returned (.slice A 0 cap) ∧ Below w.heap.size w w' := by
 go_enter Tryz.func77, Tryz.ntmps77
 go_wp2
 exact bodyPost_ret (by simp [results, go_sem]; rfl) rfl ⟨_, rfl, below_alloc _ _⟩
def rowsF (r c : Nat) (f : Nat → Nat → Int) : List (List Int) := (List.range r).map fun i => rowF c (f i)
theorem rowsF_length (r c : Nat) (f : Nat → Nat → Int) : (rowsF r c f).length = r := by simp [rowsF]
theorem rowsF_get {r c j : Nat} (f : Nat → Nat → Int) (h : j < r) : (rowsF r c f)[j]? = some (rowF c (f j)) := by simp [rowsF, h]
theorem rowsF_succ (r c : Nat) (f : Nat → Nat → Int) : rowsF (r + 1) c f = rowsF r c f ++ [rowF c (f r)] := by simp [rowsF, List.range_succ]
theorem SlI.part {w : World} {B g o n cap P c : Nat} {l l' : List Int} (h : SlI w B (.slice (some ⟨g, o, none⟩) n cap) l) (hn : n = l.length) (hc : P + l'.length ≤ l.length) (hl : ∀ j x, l'[j]? = some x → l[P + j]? = some x) (hcn : c = cap - P) :
  SlI w B (.slice (some ⟨g, o + P, none⟩) l'.length c) l' := by
 subst hn hcn
 obtain ⟨A', c', e, h1, h2, h3, h4⟩ := h
 injection e with e1 e2 e3
 subst e1 e3
 refine ⟨_, _, rfl, by omega, by omega, by omega, fun hp => ?_⟩
 obtain ⟨b, o', e, hb, hx⟩ := h4 (by omega)
 injection e with e
 injection e with e1 e2
 subst e1 e2
 refine ⟨g, o + P, rfl, hb, fun j x hj => ?_⟩
 have := hx (P + j) x (hl j x hj)
 rw [show o + P + j * 1 = o + (P + j) * 1 by omega]
 exact this
set_option maxHeartbeats 800000 in
theorem row_atO (r : Int) (c i P N cap g o : Nat) (w : World) (h1 : wrap64 ((i : Int) * (c : Int)) = (P : Int)) (h2 : wrap64 (((i : Int) + 1) * (c : Int)) = ((P + c : Nat) : Int))
  (hN : P + c ≤ N) (hcap : N ≤ cap) (hb : cap ≤ 9223372036854775807) (h0 : 0 < c) (hi : i ≤ 1000) :
  Calls Tryz.prog 77 #[.agg #[.int .i64 r, .int .i64 c, .slice (some ⟨g, o, none⟩) N cap], .int .i64 i] w fun e w' => e = .returned (.slice (some ⟨g, o + P, none⟩) c (cap - P)) ∧ Below w.heap.size w w' := by
 go_enter Tryz.func77, Tryz.ntmps77
 go_wp2
 exact bodyPost_ret (v := .slice (some ⟨g, o + P, none⟩) c (cap - P)) (by simp [results, go_sem]) rfl ⟨rfl, below_alloc _ _⟩
end Go.Proofs.YtcmlflppndfdcaaGreat
namespace Go.Proofs.YtcmlflppndfdcaaGreat
open Go.RowKit
theorem tmod_fix {p x : Int} (hp : 2 ≤ p) : (if x.tmod p < 0 then x.tmod p + p else x.tmod p) = x % p ∧ -p < x.tmod p ∧ x.tmod p < p := by
 have h1 := Int.tmod_lt_of_pos x (show 0 < p by omega)
 have h2 : -p < x.tmod p := by
  have := Int.tmod_lt_of_pos (-x) (show 0 < p by omega)
  rw [Int.neg_tmod] at this
  omega
 refine ⟨?_, h2, h1⟩
 rw [Int.tmod_eq_emod]
 have h3 := Int.emod_nonneg x (show p ≠ 0 by omega)
 have h4 := Int.emod_lt_of_pos x (show 0 < p by omega)
 have h5 : p.natAbs = p := by omega
 split
 ·split <;> omega
 ·rename_i h
  split <;> omega
theorem tmod_twice {p x : Int} (hp : 2 ≤ p) : (x.tmod p + p) % p = x % p := by
 rw [Int.add_emod_right, Int.emod_def, Int.emod_def x p]
 have h := (tmod_fix (x := x) hp).1
 have h4 := Int.emod_lt_of_pos x (show 0 < p by omega)
 have h3 := Int.emod_nonneg x (show p ≠ 0 by omega)
 rw [← Int.emod_def, ← Int.emod_def]
 rw [← h]
 split
 ·rename_i hn
  rw [← Int.add_emod_right, Int.emod_eq_of_lt]
  ·have := (tmod_fix (x := x) hp).2.1; omega
  ·omega
 ·rename_i hn
  exact Int.emod_eq_of_lt (by omega) (tmod_fix (x := x) hp).2.2
def amF (p k : Int) (off n : Nat) (f y : Nat → Int) (i : Nat) : Int := if off ≤ i ∧ i < off + n then (f i + k * y (i - off)) % p else f i
theorem amF_0 (p k : Int) (off N : Nat) (f y : Nat → Int) : rowF N f = rowF N (amF p k off 0 f y) := rowF_congr fun i _ => by rw [amF, if_neg (by omega)]
theorem amF_succ {p k : Int} {off j N : Nat} (f y : Nat → Int) : (rowF N (amF p k off j f y)).set (off + j) ((f (off + j) + k * y j) % p) = rowF N (amF p k off (j + 1) f y) := by
 rw [rowF_set]
 refine rowF_congr fun i _ => ?_
 simp only [amF]
 by_cases h : i = off + j
 ·subst h
  rw [if_pos rfl, if_pos (by omega), show off + j - off = j by omega]
 ·rw [if_neg h]
  (repeat' split) <;> first | rfl | omega
theorem amF_rest {p k : Int} {off j : Nat} (f y : Nat → Int) : amF p k off j f y (off + j) = f (off + j) := by rw [amF, if_neg (by omega)]
set_option maxHeartbeats 1600000 in
theorem addMultiple_own (p k : Int) (g off n N cap ca : Nat) (lo hi : Nat) (f y : Nat → Int) (vb : Value) (w : World) (hp : 2 ≤ p ∧ p ≤ 5) (hk : 0 ≤ k ∧ k ≤ 5)
  (hown : IntsO w lo hi (.slice (some ⟨g, 0, none⟩) N cap) (rowF N f)) (hg : lo ≤ g ∧ g < hi) (hoff : off + n ≤ N) (hN : N ≤ 1000000) (hca : n ≤ ca ∧ ca ≤ 9223372036854775807)
  (hlo : lo ≤ w.heap.size) (hb : SlI w lo vb (rowF n y)) (hf : ∀ i, i < N → 0 ≤ f i ∧ f i ≤ 4) (hy : ∀ i, i < n → 0 ≤ y i ∧ y i ≤ 4) :
  Calls Tryz.prog 107 #[.int .i64 p, .slice (some ⟨g, off, none⟩) n ca, .int .i64 k, vb] w fun e w' => e = .returned (.slice (some ⟨g, off, none⟩) n ca) ∧ IntsO w' lo hi (.slice (some ⟨g, 0, none⟩) N cap) (rowF N (amF p k off n f y)) ∧ Chg lo hi w w' ∧ w.heap.size = w'.heap.size := by
 obtain ⟨A, c, rfl, _, _, hln, hx⟩ := hb.open_
 clear hb
 have HX := Lib.hid hx
 have HF := Lib.hid hf
 have HY := Lib.hid hy
 rw [rowF_length] at hln ⊢
 rw [amF_0 p k off N f y] at hown
 clear hx hf hy
 go_enter Tryz.func107, Tryz.ntmps107
 go_wp2
 go_loopw [13] (fun i wr => ∃ j : Nat, j ≤ n ∧ i = .int .i64 j ∧ IntsO wr lo hi (.slice (some ⟨g, 0, none⟩) N cap) (rowF N (amF p k off j f y)) ∧ Chg lo hi w wr ∧ Hid (w.heap.size = wr.heap.size)) (fun i _ => n - (intOf i).toNat)
 case atStart => exact ⟨0, Nat.zero_le _, rfl, hown, Chg.refl _ _ _, rfl⟩
 case round =>
  clear hown
  obtain ⟨j, hj, rfl, ho, hc, hsz⟩ := hrel
  by_cases hlt : j < n
  ·have hx := HX.out
   rw [← rowF_length n y] at hlt
   obtain ⟨b, o, x, rfl, hbl, HXX, x1, _⟩ := SlI.at_ hx hlt
   rw [rowF_length] at hlt
   have hxx := HXX.out
   rw [rowF_get _ hlt] at hxx
   injection hxx with hxx
   subst hxx
   have x2 := bcell (hc.below (Nat.le_refl _) hlo) hbl x1
   have cA := (ho.1.cellG (j := off + j) (by rw [rowF_length]; omega)).1
   rw [rowF_getD _ (by omega), amF_rest] at cA
   have fA := ho.1.frozenG (off + j)
   have hf1 := HF.out (off + j) (by omega)
   have hy1 := HY.out j hlt
   have hst := amF_succ (p := p) (k := k) (off := off) (j := j) (N := N) f y
   obtain ⟨a, ha⟩ : ∃ a, f (off + j) = a := ⟨_, rfl⟩
   obtain ⟨z, hz⟩ : ∃ z, y j = z := ⟨_, rfl⟩
   rw [ha] at cA hf1 hst
   rw [hz] at x2 hy1 hst
   have hkz0 : 0 ≤ k * z := Int.mul_nonneg hk.1 hy1.1
   have hkz1 : k * z ≤ 5 * 4 := Int.mul_le_mul hk.2 hy1.2 hy1.1 (by omega)
   obtain ⟨K, hK⟩ : ∃ K, k * z = K := ⟨_, rfl⟩
   rw [hK] at hkz0 hkz1 hst
   have hKw : wrap64 (k * z) = K := by rw [hK]; exact IntWalk.wrap64_in _ ⟨by omega, by omega⟩
   have hr0 := Int.emod_nonneg (a + K) (show p ≠ 0 by omega)
   have hr1 := Int.emod_lt_of_pos (a + K) (show 0 < p by omega)
   have hc1 : Chg lo hi wr (wr.setCell ⟨g, off + j, none⟩ (.int .i64 ((a + K) % p))) := chg_set hg.1 hg.2
   have ho2 := ho.put (j := off + j) (x := (a + K) % p) (by simp only [I64]; omega)
   rw [hst] at ho2
   have HO2 := Lib.hid ho2
   have HC2 := Lib.hid (hc.trans hc1)
   have HS2 : Hid (w.heap.size = (wr.setCell ⟨g, off + j, none⟩ (.int .i64 ((a + K) % p))).heap.size) := by show _ = _; rw [hsz.out]; simp
   have htm : (wrap64 (a + K)).tmod p = (a + K) % p := by
    rw [IntWalk.wrap64_in _ ⟨by omega, by omega⟩]
    exact Int.tmod_eq_emod_of_nonneg (by omega)
   have htm2 : (a + K).tmod p = (a + K) % p := Int.tmod_eq_emod_of_nonneg (by omega)
   clear hst ho2 hc1 ho hc hr0 hr1 hx HXX x1 ha hz hK hkz0 hkz1
   go_wp2
   go_roundw
   case rel => exact ⟨j + 1, by omega, by go_num, HO2.out, HC2.out, HS2⟩
   case measure => simp [intOf]; omega
  ·go_wp2
   go_ret
   obtain rfl : j = n := by omega
   exact ⟨rfl, ho, hc, hsz⟩
end Go.Proofs.YtcmlflppndfdcaaGreat
namespace Go.Proofs.YtcmlflppndfdcaaGreat
open Go.RowKit
theorem reduceMod_any (p x : Int) (w : World) (hp : isFld p = true) (hx : I64 x) :
  Calls Tryz.prog 151 #[.int .i64 p, .int .i64 x] w fun e w' => e = .returned (.int .i64 (x % p)) ∧ w' = w := by
 have hp' := isFld_r hp
 obtain ⟨h1, h2, h3⟩ := tmod_fix (x := x) hp'.1
 have htm : (x.tmod p + p).tmod p = x % p := by rw [Int.tmod_eq_emod_of_nonneg (by omega)]; exact tmod_twice hp'.1
 have H1 := Lib.hid hp
 clear hp h1
 go_enter Tryz.func151, Tryz.ntmps151
 go_wp2_with fail
 refine (implIsField_any _ _).mono ?_; rintro e w1 ⟨rfl, rfl⟩
 rw [H1.out]
 go_wp2
 go_ret
 exact ⟨rfl, rfl⟩
theorem l2Mod_any (p x : Int) (w : World) (hp : 2 ≤ p ∧ p ≤ 5) (hx : I64 x) :
  Calls Tryz.prog 63 #[.int .i64 p, .int .i64 x] w fun e w' => e = .returned (.int .i64 (x % p)) ∧ w' = w := by
 obtain ⟨h1, h2, h3⟩ := tmod_fix (x := x) hp.1
 by_cases hn : x.tmod p < 0
 ·rw [if_pos hn] at h1
  have HE := Lib.hid h1
  clear h1
  go_enter Tryz.func63, Tryz.ntmps63
  go_wp2
  go_ret
  exact ⟨by rw [← HE.out]; rfl, rfl⟩
 ·rw [if_neg hn] at h1
  have HE := Lib.hid h1
  clear h1
  go_enter Tryz.func63, Tryz.ntmps63
  go_wp2
  go_ret
  exact ⟨by rw [← HE.out]; rfl, rfl⟩
theorem addMultiple_zero (p k : Int) (va : Value) (B : Option Addr) (c : Nat) (w : World) (hv : ∃ A n m, va = .slice A n m) (hc : c ≤ 9223372036854775807) :
  Calls Tryz.prog 107 #[.int .i64 p, va, .int .i64 k, .slice B 0 c] w fun e w' => e = .returned va ∧ w' = w := by
 obtain ⟨A, n, m, rfl⟩ := hv
 go_enter Tryz.func107, Tryz.ntmps107
 go_wp2
 refine wp_loop_rounds 1 ?_
 rw [rounds_succ]
 go_wp2
 go_ret
 exact ⟨rfl, rfl⟩
def plF (p k : Int) (f g : Nat → Nat → Int) (a b : Nat) : Int := (f a b + k * g a b) % p
theorem plF_flat (p k : Int) (r c : Nat) (f g : Nat → Nat → Int) : rowF (r * c) (amF p k 0 (r * c) (fun j => f (j / c) (j % c)) (fun j => g (j / c) (j % c))) = flat r c (plF p k f g) := by
 refine rowF_congr fun i hi => ?_
 rw [amF, if_pos (by omega)]
 rfl
set_option maxHeartbeats 3200000 in
theorem plus_any (p k : Int) (u v : Value) (r c : Nat) (f g : Nat → Nat → Int) (w0 : World) (hp : 2 ≤ p ∧ p ≤ 5) (hk : 0 ≤ k ∧ k ≤ 5) (hu : MxR w0 w0.heap.size u (mxF r c f)) (hv : MxR w0 w0.heap.size v (mxF r c g)) (hr : r ≤ 1000) (hc : c ≤ 1000)
  (hf : ∀ i j, i < r → j < c → 0 ≤ f i j ∧ f i j ≤ 4) (hg : ∀ i j, i < r → j < c → 0 ≤ g i j ∧ g i j ≤ 4) :
  Calls Tryz.prog 150 #[.int .i64 p, u, .int .i64 k, v] w0 fun e w' => ∃ v, e = .returned v ∧ MxO w' w0.heap.size w'.heap.size v (mxF r c (plF p k f g)) ∧ Below w0.heap.size w0 w' := by
 have hu' := hu
 obtain ⟨U, uc, rfl⟩ := hu.form
 obtain ⟨V, vc, rfl, hsv, j1, j2, _⟩ := hv.open_
 have z1 : (mxF r c f).r = (r : Int) := rfl
 have z2 : (mxF r c f).c = (c : Int) := rfl
 have z3 : (mxF r c g).r = (r : Int) := rfl
 have z4 : (mxF r c g).c = (c : Int) := rfl
 have z5 : (mxF r c f).a.length = r * c := flat_length _ _ _
 have z6 : (mxF r c g).a.length = r * c := flat_length _ _ _
 obtain ⟨N, hN⟩ : ∃ N, r * c = N := ⟨_, rfl⟩
 have hN6 : N ≤ 1000000 := by rw [← hN]; exact Nat.mul_le_mul hr hc
 rw [z5, z1, z2, hN] at hu' ⊢
 rw [z6, z3, z4, hN]
 rw [z6, hN] at hsv
 clear hu hv z1 z2 z3 z4 z5 z6
 obtain ⟨W, hW⟩ : ∃ W, W = ((w0.alloc (.cells #[.int .i64 r, .int .i64 c, .slice U N uc] 50)).alloc (.cells #[.int .i64 r, .int .i64 c, .slice V N vc] 50)).alloc (.cells #[.int .i64 0, .int .i64 0, .slice none 0 0] 50) := ⟨_, rfl⟩
 have g0 : Below w0.heap.size w0 W := by rw [hW]; exact (((Below.refl _ _).alloc (Nat.le_refl _) _).alloc (by simp) _).alloc (by simp; omega) _
 have k2 : Blk W (w0.heap.size + 1) 50 #[.int .i64 r, .int .i64 c, .slice V N vc] := by
  rw [hW]
  have := (Blk.new (w0.alloc (.cells #[.int .i64 r, .int .i64 c, .slice U N uc] 50)) 50 #[.int .i64 r, .int .i64 c, .slice V N vc]).alloc (.cells #[.int .i64 0, .int .i64 0, .slice none 0 0] 50)
  simpa only [World.size_alloc] using this
 have k3 : Blk W (w0.heap.size + 1 + 1) 50 #[.int .i64 0, .int .i64 0, .slice none 0 0] := by
  rw [hW]
  have := Blk.new ((w0.alloc (.cells #[.int .i64 r, .int .i64 c, .slice U N uc] 50)).alloc (.cells #[.int .i64 r, .int .i64 c, .slice V N vc] 50)) 50 #[.int .i64 0, .int .i64 0, .slice none 0 0]
  simpa only [World.size_alloc] using this
 have sz : W.heap.size = w0.heap.size + 1 + 1 + 1 := by rw [hW]; simp
 have HU := Lib.hid (MxR.next g0 hu')
 have HV := Lib.hid (SlI.next g0 hsv)
 have SZ := Lib.hid sz
 have HN := Lib.hid hN
 have G0 := Lib.hid g0
 have HFF := Lib.hid hf
 have HGG := Lib.hid hg
 clear sz hu' hsv hN g0 hf hg
 go_enter Tryz.func150, Tryz.ntmps150
 go_wp2_with fail
 rw [← hW]; clear hW
 refine (mxClone_any _ (mxF r c f) W HU.out).mono ?_; rintro e w1 ⟨v1, rfl, ⟨s1, rfl, hO, i1, i2⟩, hb1⟩
 obtain ⟨A1, c1, rfl⟩ := hO.form
 have z5 : (mxF r c f).a.length = N := by rw [← HN.out]; exact flat_length _ _ _
 have z1 : (mxF r c f).r = (r : Int) := rfl
 have z2 : (mxF r c f).c = (c : Int) := rfl
 rw [z5] at hO ⊢
 rw [z1, z2]
 rw [z1] at i1
 rw [z2] at i2
 clear z5 z1 z2
 obtain ⟨W4, hW4⟩ : ∃ W4, W4 = w1.alloc (.cells #[.int .i64 r, .int .i64 c, .slice A1 N c1] 50) := ⟨_, rfl⟩
 have b4 : Below w1.heap.size w1 W4 := by rw [hW4]; exact below_alloc _ _
 have k4 : Blk W4 w1.heap.size 50 #[.int .i64 r, .int .i64 c, .slice A1 N c1] := by rw [hW4]; exact Blk.new _ _ _
 have s1 := hb1.size
 have gW := bthen hb1 b4
 have k2' := (k2.call hb1).call b4
 have k3' := (k3.call hb1).call b4
 have hO4 := hO.below b4
 have l4 := k4.lt
 have HV4 := Lib.hid (SlI.below gW HV.out)
 have y2 := k2'.cell' (i := 2) rfl
 rw [hW4] at y2
 have HO4 := Lib.hid hO4
 clear hO hb1 b4 k2 k3 k2' hO4
 have hvc : vc ≤ 9223372036854775807 := by
  obtain ⟨VA, vca, ev, _, hvc, _⟩ := HV4.out
  injection ev with _ _ ev3
  omega
 rcases Nat.eq_zero_or_pos N with h0 | h0
 ·subst h0
  go_wp2_with fail
  rw [← hW4]
  rw [← hW4] at y2
  clear hW4
  refine (addMultiple_zero p k _ V vc _ ⟨_, _, _, rfl⟩ hvc).mono ?_; rintro e w5 ⟨rfl, rfl⟩
  have hE : (mxF r c f).a = flat r c (plF p k f g) := by
   have h1 : (mxF r c f).a.length = 0 := by rw [← HN.out]; exact flat_length _ _ _
   have h2 : (flat r c (plF p k f g)).length = 0 := by rw [← HN.out]; exact flat_length _ _ _
   rw [List.eq_nil_of_length_eq_zero h1, List.eq_nil_of_length_eq_zero h2]
  have oA := HO4.out
  rw [hE] at oA
  clear hE
  have z0 := k4.cell' (i := 0) rfl
  have z1 := k4.cell' (i := 1) rfl
  have z2 := k4.cell' (i := 2) rfl
  have p0 := k3'.cell' (i := 0) rfl
  have p1 := k3'.cell' (i := 1) rfl
  have p2 := k3'.cell' (i := 2) rfl
  have f2 := k3'.frozen
  have h2 := chg3 w5 (w0.heap.size + 1 + 1) (.int .i64 (r : Int)) (.int .i64 c) (.slice A1 0 c1)
  have gw : Below w0.heap.size w0 w5 := (G0.out).trans (gW.mono (G0.out).size)
  have gs := gw.size
  have oA2 := (oA.chg h2 (.inr (by have := SZ.out; omega))).wider (lo' := w0.heap.size) (hi' := w5.heap.size) (by have := SZ.out; omega) (by omega)
  have fg := gw.trans (h2.below (by omega) gs)
  have OA2 := Lib.hid oA2
  have FG := Lib.hid fg
  clear oA oA2 fg gw h2 k3' k4 gW
  go_wp2
  exact bodyPost_ret (v := .agg #[.int .i64 (r : Int), .int .i64 c, .slice A1 0 c1]) (by simp [results, go_sem, p0, p1, p2]) rfl ⟨_, rfl, ⟨_, rfl, (OA2.out).wider (Nat.le_refl _) (by simp), i1, i2⟩, FG.out⟩
 ·obtain ⟨gA, cA, eA, a1, a2, a3⟩ := (HO4.out).at_ (by rw [show (mxF r c f).a.length = N by rw [← HN.out]; exact flat_length _ _ _]; exact h0)
  rw [show (mxF r c f).a.length = N by rw [← HN.out]; exact flat_length _ _ _] at eA
  injection eA with eA1 eA2 eA3
  subst eA1 eA3
  obtain ⟨_, c2, e2, q1, q2⟩ := (HO4.out).1.form
  injection e2 with e21 e22 e23
  subst e23
  clear e21 e22
  have q1' : N ≤ c1 := by rw [show (mxF r c f).a.length = N by rw [← HN.out]; exact flat_length _ _ _] at q1; exact q1
  have hrow : rowF N (fun j => f (j / c) (j % c)) = (mxF r c f).a := by rw [← HN.out]; rfl
  have hrow2 : rowF N (fun j => g (j / c) (j % c)) = (mxF r c g).a := by rw [← HN.out]; rfl
  have hx : ∀ (h : Nat → Nat → Int), (∀ i j, i < r → j < c → 0 ≤ h i j ∧ h i j ≤ 4) → ∀ i, i < N → 0 ≤ h (i / c) (i % c) ∧ h (i / c) (i % c) ≤ 4 := fun h hh i hi => by
   rw [← HN.out] at hi
   obtain ⟨i1, j1, h1, h2, rfl⟩ := ix_of hi
   rw [ix_div h2, ix_mod h2]
   exact hh i1 j1 h1 h2
  have HX1 := Lib.hid (hx f HFF.out)
  have HX2 := Lib.hid (hx g HGG.out)
  have HR1 := Lib.hid hrow
  have HR2 := Lib.hid hrow2
  clear q1 hrow hrow2 hx
  go_wp2_with fail
  rw [← hW4]
  rw [← hW4] at y2
  clear hW4
  refine (addMultiple_own p k gA 0 N N c1 c1 W.heap.size w1.heap.size (fun j => f (j / c) (j % c)) (fun j => g (j / c) (j % c)) _ W4 hp hk (by rw [HR1.out]; exact HO4.out) ⟨a1, a2⟩ (by omega) hN6 ⟨q1', q2⟩ (by omega) (by rw [HR2.out]; exact HV4.out) HX1.out HX2.out).mono ?_; rintro e w5 ⟨rfl, hO5, hc5, hs5⟩
  have hE : rowF N (amF p k 0 N (fun j => f (j / c) (j % c)) (fun j => g (j / c) (j % c))) = flat r c (plF p k f g) := by rw [← HN.out]; exact plF_flat p k r c f g
  rw [hE] at hO5
  have oA := hO5
  replace k4 := k4.chg hc5 (.inr (Nat.le_refl _))
  replace k3' := k3'.chg hc5 (.inl (by have := SZ.out; omega))
  replace gW := gW.trans (hc5.below (Nat.le_refl _) (by omega))
  have l4' := k4.lt
  clear hE hO5 hc5 hs5 y2
  obtain ⟨A1, hA1⟩ : ∃ A1, A1 = some (⟨gA, 0, none⟩ : Addr) := ⟨_, rfl⟩
  rw [← hA1] at oA k4
  clear hA1
  have z0 := k4.cell' (i := 0) rfl
  have z1 := k4.cell' (i := 1) rfl
  have z2 := k4.cell' (i := 2) rfl
  have p0 := k3'.cell' (i := 0) rfl
  have p1 := k3'.cell' (i := 1) rfl
  have p2 := k3'.cell' (i := 2) rfl
  have f2 := k3'.frozen
  have h2 := chg3 w5 (w0.heap.size + 1 + 1) (.int .i64 (r : Int)) (.int .i64 c) (.slice A1 N c1)
  have gw : Below w0.heap.size w0 w5 := (G0.out).trans (gW.mono (G0.out).size)
  have gs := gw.size
  have oA2 := (oA.chg h2 (.inr (by have := SZ.out; omega))).wider (lo' := w0.heap.size) (hi' := w5.heap.size) (by have := SZ.out; omega) (by omega)
  have fg := gw.trans (h2.below (by omega) gs)
  have OA2 := Lib.hid oA2
  have FG := Lib.hid fg
  clear oA oA2 fg gw h2 k3' k4 gW
  go_wp2
  exact bodyPost_ret (v := .agg #[.int .i64 (r : Int), .int .i64 c, .slice A1 N c1]) (by simp [results, go_sem, p0, p1, p2]) rfl ⟨_, rfl, ⟨_, rfl, (OA2.out).wider (Nat.le_refl _) (by simp), i1, i2⟩, FG.out⟩
end Go.Proofs.YtcmlflppndfdcaaGreat
namespace Go.Proofs.YtcmlflppndfdcaaGreat
open Go.RowKit
def nzGo (f : Nat → Nat → Int) (k : Nat) : Nat → Nat → Nat
 | a, 0 => a
 | a, m + 1 => if f a k = 0 then nzGo f k (a + 1) m else a
def nzF (f : Nat → Nat → Int) (k n r : Nat) : Nat := nzGo f k n (r - n)
theorem nzGo_le (f : Nat → Nat → Int) (k : Nat) : ∀ m a, a ≤ nzGo f k a m ∧ nzGo f k a m ≤ a + m
 | 0, a => by simp [nzGo]
 | m + 1, a => by
  have h := nzGo_le f k m (a + 1)
  simp only [nzGo]
  split <;> omega
theorem nzF_le {f : Nat → Nat → Int} {k n r : Nat} (h : n ≤ r) : n ≤ nzF f k n r ∧ nzF f k n r ≤ r := by
 have := nzGo_le f k (r - n) n
 unfold nzF; omega
theorem nzGo_eq {f : Nat → Nat → Int} {k : Nat} : ∀ {m a b}, a ≤ b → b ≤ a + m → (∀ i, a ≤ i → i < b → f i k = 0) → (b < a + m → f b k ≠ 0) → nzGo f k a m = b
 | 0, a, b, h1, h2, _, _ => by simp only [nzGo]; omega
 | m + 1, a, b, h1, h2, h3, h4 => by
  simp only [nzGo]
  by_cases e : a = b
  ·subst e
   rw [if_neg (h4 (by omega))]
  ·rw [if_pos (h3 a (Nat.le_refl _) (by omega))]
   exact nzGo_eq (by omega) (by omega) (fun i hi hb => h3 i (by omega) hb) (fun h => h4 (by omega))
theorem nzF_eq {f : Nat → Nat → Int} {k n r b : Nat} (h1 : n ≤ b) (h2 : b ≤ r) (h3 : ∀ i, n ≤ i → i < b → f i k = 0) (h4 : b < r → f b k ≠ 0) : nzF f k n r = b :=
 nzGo_eq h1 (by omega) h3 (fun h => h4 (by omega))
theorem nzGo_ne {f : Nat → Nat → Int} {k : Nat} : ∀ {m a}, nzGo f k a m < a + m → f (nzGo f k a m) k ≠ 0
 | 0, a, h => by simp only [nzGo] at h; omega
 | m + 1, a, h => by
  simp only [nzGo] at h ⊢
  split
  ·rename_i h0
   rw [if_pos h0] at h
   exact nzGo_ne (by omega)
  ·rename_i h0; exact h0
theorem nzF_ne {f : Nat → Nat → Int} {k n r : Nat} (hn : n ≤ r) (h : nzF f k n r < r) : f (nzF f k n r) k ≠ 0 := nzGo_ne (by unfold nzF at h; omega)
def invP (p x : Int) : Int := if p = 5 then (x % p * (x % p) % p) * (x % p) % p else x % p
def swJ (n t j : Nat) (f : Nat → Nat → Int) (a b : Nat) : Int := if b < j then (if a = n then f t b else if a = t then f n b else f a b) else f a b
def swA (n t : Nat) (f : Nat → Nat → Int) (a b : Nat) : Int := if a = n then f t b else if a = t then f n b else f a b
def scJ (p : Int) (n : Nat) (s : Int) (j : Nat) (f : Nat → Nat → Int) (a b : Nat) : Int := if a = n ∧ b < j then f a b * s % p else f a b
def scA (p : Int) (n : Nat) (s : Int) (f : Nat → Nat → Int) (a b : Nat) : Int := if a = n then f a b * s % p else f a b
def elI (p : Int) (n k i : Nat) (f : Nat → Nat → Int) (a b : Nat) : Int := if a < i ∧ a ≠ n then (f a b + (p - f a k) * f n b) % p else f a b
def elA (p : Int) (n k : Nat) (f : Nat → Nat → Int) (a b : Nat) : Int := if a ≠ n then (f a b + (p - f a k) * f n b) % p else f a b
def rdF (p : Int) (r : Nat) (f : Nat → Nat → Int) (n k : Nat) : Nat → Nat → Int :=
 elA p n k (scA p n (invP p (swA n (nzF f k n r) f n k)) (swA n (nzF f k n r) f))
def rdTo (p : Int) (r : Nat) (f : Nat → Nat → Int) : Nat → (Nat → Nat → Int) × List Int
 | 0 => (f, [])
 | k + 1 => if nzF (rdTo p r f k).1 k (rdTo p r f k).2.length r < r then (rdF p r (rdTo p r f k).1 (rdTo p r f k).2.length k, (rdTo p r f k).2 ++ [(k : Int)]) else rdTo p r f k
theorem rdTo_succ (p : Int) (r : Nat) (f : Nat → Nat → Int) (k : Nat) : rdTo p r f (k + 1) =
  if nzF (rdTo p r f k).1 k (rdTo p r f k).2.length r < r then (rdF p r (rdTo p r f k).1 (rdTo p r f k).2.length k, (rdTo p r f k).2 ++ [(k : Int)]) else ((rdTo p r f k).1, (rdTo p r f k).2) := rfl
theorem rdTo_len (p : Int) (r : Nat) (f : Nat → Nat → Int) : ∀ k, (rdTo p r f k).2.length ≤ r ∧ (rdTo p r f k).2.length ≤ k
 | 0 => by simp [rdTo]
 | k + 1 => by
  have h := rdTo_len p r f k
  simp only [rdTo]
  split
  ·rename_i h1
   have := (nzF_le (f := (rdTo p r f k).1) (k := k) h.1).1
   simp
   omega
  ·omega
theorem rdTo_mem (p : Int) (r : Nat) (f : Nat → Nat → Int) : ∀ k, ∀ x ∈ (rdTo p r f k).2, 0 ≤ x ∧ x < k
 | 0, x, h => by simp [rdTo] at h
 | k + 1, x, h => by
  have ih := rdTo_mem p r f k
  simp only [rdTo] at h
  split at h
  ·simp only [List.mem_append, List.mem_singleton] at h
   rcases h with h | rfl
   ·have := ih x h; omega
   ·omega
  ·have := ih x h; omega
def InF (p : Int) (r c : Nat) (f : Nat → Nat → Int) : Prop := ∀ a b, a < r → b < c → 0 ≤ f a b ∧ f a b ≤ p - 1
theorem inF_sw {p : Int} {r c n t : Nat} {f : Nat → Nat → Int} (h : InF p r c f) (hn : n < r) (ht : t < r) : InF p r c (swA n t f) := fun a b ha hb => by
 unfold swA
 split
 ·exact h _ _ ht hb
 ·split
  ·exact h _ _ hn hb
  ·exact h _ _ ha hb
theorem emod_rng {p x : Int} (hp : 2 ≤ p) : 0 ≤ x % p ∧ x % p ≤ p - 1 := by
 have h1 := Int.emod_nonneg x (show p ≠ 0 by omega)
 have h2 := Int.emod_lt_of_pos x (show 0 < p by omega)
 omega
theorem inF_sc {p s : Int} {r c n : Nat} {f : Nat → Nat → Int} (hp : 2 ≤ p) (h : InF p r c f) : InF p r c (scA p n s f) := fun a b ha hb => by
 unfold scA
 split
 ·exact emod_rng hp
 ·exact h _ _ ha hb
theorem inF_el {p : Int} {r c n k : Nat} {f : Nat → Nat → Int} (hp : 2 ≤ p) (h : InF p r c f) : InF p r c (elA p n k f) := fun a b ha hb => by
 unfold elA
 split
 ·exact emod_rng hp
 ·exact h _ _ ha hb
theorem inF_rd {p : Int} {r c n k : Nat} {f : Nat → Nat → Int} (hp : 2 ≤ p) (h : InF p r c f) (hn : n < r) (ht : nzF f k n r < r) : InF p r c (rdF p r f n k) := inF_el hp (inF_sc hp (inF_sw h hn ht))
theorem inF_to {p : Int} {r c : Nat} {f : Nat → Nat → Int} (hp : 2 ≤ p) (h : InF p r c f) : ∀ k, InF p r c (rdTo p r f k).1
 | 0 => h
 | k + 1 => by
  have ih := inF_to hp h k
  simp only [rdTo]
  split
  ·rename_i h1
   have hl := (rdTo_len p r f k).1
   exact inF_rd hp ih (by have := (nzF_le (f := (rdTo p r f k).1) (k := k) hl).1; omega) h1
  ·exact ih
theorem rdTo_full {p : Int} {r : Nat} {f : Nat → Nat → Int} {k : Nat} (h : (rdTo p r f k).2.length = r) : rdTo p r f (k + 1) = rdTo p r f k := by
 simp only [rdTo]
 rw [if_neg]
 rw [h]
 have := (nzF_le (f := (rdTo p r f k).1) (k := k) (Nat.le_refl r)).1
 omega
theorem rdTo_rest {p : Int} {r : Nat} {f : Nat → Nat → Int} {k : Nat} (h : (rdTo p r f k).2.length = r) : ∀ m, rdTo p r f (k + m) = rdTo p r f k
 | 0 => rfl
 | m + 1 => by
  have ih := rdTo_rest h m
  rw [show k + (m + 1) = (k + m) + 1 by omega, rdTo_full (by rw [ih]; exact h), ih]
theorem sw_0 (n t : Nat) (f : Nat → Nat → Int) : swJ n t 0 f = f := by funext a b; simp [swJ]
theorem sw_end (n t r c : Nat) (f : Nat → Nat → Int) : flat r c (swJ n t c f) = flat r c (swA n t f) := flat_congr fun a b _ hb => by rw [swJ, if_pos hb]; rfl
theorem sw_step {n t r c j : Nat} (f : Nat → Nat → Int) (hn : n < r) (ht : t < r) (hj : j < c) :
  ((flat r c (swJ n t j f)).set (n * c + j) (f t j)).set (t * c + j) (f n j) = flat r c (swJ n t (j + 1) f) := by
 rw [flat_set _ _ hn hj, flat_set _ _ ht hj]
 refine flat_congr fun a b _ _ => ?_
 simp only [swJ]
 by_cases e1 : a = t ∧ b = j
 ·obtain ⟨rfl, rfl⟩ := e1
  rw [if_pos ⟨rfl, rfl⟩, if_pos (by omega)]
  by_cases e2 : a = n
  ·subst e2; rw [if_pos rfl]
  ·rw [if_neg e2, if_pos rfl]
 ·rw [if_neg e1]
  by_cases e2 : a = n ∧ b = j
  ·obtain ⟨rfl, rfl⟩ := e2
   rw [if_pos ⟨rfl, rfl⟩, if_pos (by omega), if_pos rfl]
  ·rw [if_neg e2]
   by_cases e3 : b < j
   ·rw [if_pos e3, if_pos (show b < j + 1 by omega)]
   ·rw [if_neg e3]
    by_cases e4 : b < j + 1
    ·rw [if_pos e4, if_neg (by omega), if_neg (by omega)]
    ·rw [if_neg e4]
theorem sw_rest {n t j a : Nat} (f : Nat → Nat → Int) : swJ n t j f a j = f a j := by rw [swJ, if_neg (by omega)]
theorem sc_0 (p : Int) (n : Nat) (s : Int) (f : Nat → Nat → Int) : scJ p n s 0 f = f := by funext a b; simp [scJ]
theorem sc_end (p : Int) (n r c : Nat) (s : Int) (f : Nat → Nat → Int) : flat r c (scJ p n s c f) = flat r c (scA p n s f) := flat_congr fun a b _ hb => by simp only [scJ, scA, hb, and_true]
theorem sc_step {p s : Int} {n r c j : Nat} (f : Nat → Nat → Int) (hn : n < r) (hj : j < c) :
  (flat r c (scJ p n s j f)).set (n * c + j) (f n j * s % p) = flat r c (scJ p n s (j + 1) f) := by
 rw [flat_set _ _ hn hj]
 refine flat_congr fun a b _ _ => ?_
 simp only [scJ]
 by_cases e1 : a = n ∧ b = j
 ·obtain ⟨rfl, rfl⟩ := e1
  rw [if_pos ⟨rfl, rfl⟩, if_pos (by omega)]
 ·rw [if_neg e1]
  by_cases e2 : a = n ∧ b < j
  ·rw [if_pos e2, if_pos (by omega)]
  ·rw [if_neg e2, if_neg (by omega)]
theorem sc_rest {p s : Int} {n j a : Nat} (f : Nat → Nat → Int) : scJ p n s j f a j = f a j := by rw [scJ, if_neg (by omega)]
theorem el_0 (p : Int) (n k : Nat) (f : Nat → Nat → Int) : elI p n k 0 f = f := by funext a b; simp [elI]
theorem el_end (p : Int) (n k r c : Nat) (f : Nat → Nat → Int) : flat r c (elI p n k r f) = flat r c (elA p n k f) := flat_congr fun a b ha _ => by simp only [elI, elA, ha, true_and]
theorem el_skip (p : Int) (n k : Nat) (f : Nat → Nat → Int) : elI p n k n f = elI p n k (n + 1) f := by
 funext a b
 simp only [elI]
 by_cases e : a < n ∧ a ≠ n
 ·rw [if_pos e, if_pos (by omega)]
 ·rw [if_neg e, if_neg (by omega)]
theorem el_rest {p : Int} {n k i b : Nat} (f : Nat → Nat → Int) : elI p n k i f i b = f i b := by rw [elI, if_neg (by omega)]
theorem el_n {p : Int} {n k i b : Nat} (f : Nat → Nat → Int) : elI p n k i f n b = f n b := by rw [elI, if_neg (by omega)]
def elJ (p : Int) (n k i j : Nat) (f : Nat → Nat → Int) (a b : Nat) : Int := if a = i ∧ b < j then (f a b + (p - f a k) * f n b) % p else elI p n k i f a b
theorem elJ_0 (p : Int) (n k i : Nat) (f : Nat → Nat → Int) : elJ p n k i 0 f = elI p n k i f := by funext a b; simp [elJ]
theorem elJ_end {p : Int} {n k i r c : Nat} (f : Nat → Nat → Int) (hi : i ≠ n) : flat r c (elJ p n k i c f) = flat r c (elI p n k (i + 1) f) := flat_congr fun a b _ hb => by
 simp only [elJ, elI]
 by_cases e : a = i
 ·subst e
  rw [if_pos ⟨rfl, hb⟩, if_pos (by omega)]
 ·rw [if_neg (by omega)]
  by_cases e2 : a < i ∧ a ≠ n
  ·rw [if_pos e2, if_pos (by omega)]
  ·rw [if_neg e2, if_neg (by omega)]
theorem elJ_step {p : Int} {n k i j r c : Nat} (f : Nat → Nat → Int) (hi : i < r) (hj : j < c) :
  (flat r c (elJ p n k i j f)).set (i * c + j) ((f i j + (p - f i k) * f n j) % p) = flat r c (elJ p n k i (j + 1) f) := by
 rw [flat_set _ _ hi hj]
 refine flat_congr fun a b _ _ => ?_
 simp only [elJ]
 by_cases e1 : a = i ∧ b = j
 ·obtain ⟨rfl, rfl⟩ := e1
  rw [if_pos ⟨rfl, rfl⟩, if_pos (by omega)]
 ·rw [if_neg e1]
  by_cases e2 : a = i ∧ b < j
  ·rw [if_pos e2, if_pos (by omega)]
  ·rw [if_neg e2, if_neg (by omega)]
theorem elJ_rest {p : Int} {n k i j : Nat} (f : Nat → Nat → Int) : elJ p n k i j f i j = f i j := by rw [elJ, if_neg (by omega), el_rest]
theorem elJ_n {p : Int} {n k i j b : Nat} (f : Nat → Nat → Int) (hi : i ≠ n) : elJ p n k i j f n b = f n b := by rw [elJ, if_neg (by omega), el_n]
theorem el_sub {p a x y : Int} : (a - x * y) % p = (a + (p - x) * y) % p := by
 rw [show a + (p - x) * y = (a - x * y) + p * y by rw [Int.sub_mul]; omega]
 rw [Int.add_mul_emod_self_left]
end Go.Proofs.YtcmlflppndfdcaaGreat
namespace Go.Proofs.YtcmlflppndfdcaaGreat
open Go.RowKit
def sgF (h : Nat → Int) : Nat → Int
 | 0 => 0
 | n + 1 => sgF h n + h n
def muP (p : Int) (k : Nat) (f g : Nat → Nat → Int) (a b : Nat) : Int := sgF (fun t => f a t * g t b) k % p
def muS (p : Int) (c i k : Nat) (f g : Nat → Nat → Int) (a b : Nat) : Int := if a < i then muP p c f g a b else if a = i then muP p k f g a b else 0
theorem muP_0 (p : Int) (f g : Nat → Nat → Int) (a b : Nat) : muP p 0 f g a b = 0 := by simp [muP, sgF]
theorem muS_0 (p : Int) (c r d : Nat) (f g : Nat → Nat → Int) : flat r d (fun _ _ => 0) = flat r d (muS p c 0 0 f g) := flat_congr fun a b _ _ => by
 simp only [muS, muP_0]
 rw [if_neg (by omega)]
 split <;> rfl
theorem muS_next (p : Int) (c i : Nat) (f g : Nat → Nat → Int) : muS p c i c f g = muS p c (i + 1) 0 f g := by
 funext a b
 simp only [muS, muP_0]
 by_cases h1 : a < i
 ·rw [if_pos h1, if_pos (by omega)]
 ·rw [if_neg h1]
  by_cases h2 : a = i
  ·rw [if_pos h2, if_pos (by omega)]
  ·rw [if_neg h2, if_neg (by omega)]
   split <;> rfl
theorem muS_end (p : Int) (c r d : Nat) (f g : Nat → Nat → Int) : flat r d (muS p c r 0 f g) = flat r d (muP p c f g) := flat_congr fun a b ha _ => by
 simp only [muS]
 rw [if_pos ha]
theorem muP_succ {p : Int} (k : Nat) (f g : Nat → Nat → Int) (a b : Nat) : (muP p k f g a b + f a k * g k b) % p = muP p (k + 1) f g a b := by
 simp only [muP, sgF]
 rw [Int.emod_add_emod]
theorem muP_rng {p : Int} (hp : 2 ≤ p) (k : Nat) (f g : Nat → Nat → Int) (a b : Nat) : 0 ≤ muP p k f g a b ∧ muP p k f g a b ≤ p - 1 := emod_rng hp
theorem muS_rng {p : Int} (hp : 2 ≤ p) (c i k : Nat) (f g : Nat → Nat → Int) (a b : Nat) : 0 ≤ muS p c i k f g a b ∧ muS p c i k f g a b ≤ p - 1 := by
 unfold muS
 split
 ·exact muP_rng hp _ _ _ _ _
 ·split
  ·exact muP_rng hp _ _ _ _ _
  ·omega
theorem mu_step {p : Int} {c i k r d : Nat} (f g : Nat → Nat → Int) :
  rowF (r * d) (amF p (f i k) (i * d) d (fun j => muS p c i k f g (j / d) (j % d)) (g k)) = flat r d (muS p c i (k + 1) f g) := by
 refine rowF_congr fun x hx => ?_
 obtain ⟨a, b, ha, hb, rfl⟩ := ix_of hx
 simp only [amF, ix_div hb, ix_mod hb]
 by_cases e : a = i
 ·subst e
  rw [if_pos (by omega), show a * d + b - a * d = b by omega]
  simp only [muS]
  rw [if_neg (by omega), if_pos trivial, if_neg (by omega), if_pos trivial]
  exact muP_succ k f g a b
 ·have h1 : ¬ (i * d ≤ a * d + b ∧ a * d + b < i * d + d) := by
   rintro ⟨h1, h2⟩
   rcases Nat.lt_or_gt_of_ne e with h | h
   ·have : (a + 1) * d ≤ i * d := Nat.mul_le_mul_right _ h
    rw [Nat.add_mul, Nat.one_mul] at this
    omega
   ·have : (i + 1) * d ≤ a * d := Nat.mul_le_mul_right _ h
    rw [Nat.add_mul, Nat.one_mul] at this
    omega
  rw [if_neg h1]
  simp only [muS]
  by_cases e2 : a < i
  ·rw [if_pos e2, if_pos e2]
  ·rw [if_neg e2, if_neg e2, if_neg e, if_neg e]
theorem SlI.up {w : World} {B B' : Nat} {v : Value} {xs : List Int} (hB : B ≤ B') (h : SlI w B v xs) : SlI w B' v xs := by
 obtain ⟨A, c, e, h1, h2, h3, h4⟩ := h
 exact ⟨A, c, e, h1, h2, h3, fun hl => by obtain ⟨b, o, e2, hb, hx⟩ := h4 hl; exact ⟨b, o, e2, Nat.lt_of_lt_of_le hb hB, hx⟩⟩
theorem row_rd (u : Value) (r c i B : Nat) (f : Nat → Nat → Int) (w : World) (hu : MxR w B u (mxF r c f)) (hB : B ≤ w.heap.size) (hr : r ≤ 1000) (hc : c ≤ 1000) (hi : i < r) :
  Calls Tryz.prog 77 #[u, .int .i64 i] w fun e w' => ∃ v, e = .returned v ∧ SlI w' B v (rowF c (f i)) ∧ Below w.heap.size w w' := by
 have hi1 : i ≤ 1000 := by omega
 obtain ⟨A, cap, rfl, hs, _, _, hl⟩ := hu.open_
 simp only [mxF] at hs hl ⊢
 rcases Nat.eq_zero_or_pos c with rfl | h0
 ·obtain ⟨_, _, e, h1, h2, _⟩ := hs
  injection e with e1 e2 e3
  subst e1 e3
  have e : (flat r 0 f).length = 0 := by rw [flat_length]; rfl
  rw [e]
  refine (row_zero r i cap A w h2 hi1).mono fun e w' ⟨A', h3, h4⟩ => ⟨_, h3, ?_, h4⟩
  exact ⟨A', cap, by simp [rowF], by simp [rowF], h2, by simp [rowF], fun h => by simp [rowF] at h⟩
 ·obtain ⟨P, J, hP, _, _, _, _⟩ := ix_walk hi h0 hr hc
  obtain ⟨hPi, hP2, hPL, _⟩ := ix_next hi hr hc hP
  have hlt := ix_lt hi h0
  have hs' := hs
  obtain ⟨_, _, e, h1, h2, h3, h4⟩ := hs
  injection e with e1 e2 e3
  subst e1 e3
  obtain ⟨b, o, rfl, hb, hx⟩ := h4 (by rw [flat_length]; exact Nat.lt_of_le_of_lt (Nat.zero_le _) hlt)
  refine (row_atO r c i P _ cap b o w hP hP2 (by rw [flat_length]; exact hPL) h1 h2 h0 hi1).mono fun e w' ⟨h5, h6⟩ => ⟨_, h5, ?_, h6⟩
  have := SlI.part (P := P) (l' := rowF c (f i)) (SlI.below (h6.mono hB) hs') rfl (by rw [rowF_length, flat_length]; exact hPL) (fun j x hj => ?_) rfl
  ·rwa [rowF_length] at this
  ·have hjc := lt_of_some hj
   rw [rowF_length] at hjc
   rw [rowF_get _ hjc] at hj
   rw [hPi, flat_get f hi hjc]
   exact hj
end Go.Proofs.YtcmlflppndfdcaaGreat
namespace Go.Proofs.YtcmlflppndfdcaaGreat
open Go.RowKit
def colK (k : Nat) (f : Nat → Nat → Int) (j i : Nat) : Int := if i < j then f i k else 0
end Go.Proofs.YtcmlflppndfdcaaGreat
namespace Go.Proofs.YtcmlflppndfdcaaGreat
open Go.RowKit
def fcK (f : Nat → Nat → Int) (k i a b : Nat) : Int := if b < k ∨ (b = k ∧ a < i) then f a b else 0
theorem fcK_0 (R K : Nat) (f : Nat → Nat → Int) : flat R K (fun _ _ => 0) = flat R K (fcK f 0 0) := flat_congr fun a b _ _ => by simp [fcK]
theorem fcK_put {R K k i : Nat} (f : Nat → Nat → Int) (hi : i < R) (hk : k < K) : (flat R K (fcK f k i)).set (i * K + k) (f i k) = flat R K (fcK f k (i + 1)) := by
 rw [flat_set _ _ hi hk]
 refine flat_congr fun a b _ _ => ?_
 simp only [fcK]
 (repeat' split) <;> first | rfl | omega | (rename_i h _; rw [h.1, h.2])
theorem fcK_next (R K k : Nat) (f : Nat → Nat → Int) : flat R K (fcK f k R) = flat R K (fcK f (k + 1) 0) := by
 refine flat_congr fun a b ha _ => ?_
 simp only [fcK]
 (repeat' split) <;> first | rfl | omega
theorem fcK_K (R K : Nat) (f : Nat → Nat → Int) : flat R K (fcK f K 0) = flat R K f := flat_congr fun a b _ hb => by simp [fcK, hb]
set_option maxHeartbeats 1600000 in
theorem fromColumns_any (u : Value) (R K : Nat) (f : Nat → Nat → Int) (w : World) (hu : SlII w w.heap.size u (rowsF K R (fun a b => f b a))) (hR : R ≤ 1000) (hK : K ≤ 1000) :
  Calls Tryz.prog 81 #[.int .i64 R, u] w fun e w' => ∃ v, e = .returned v ∧ MxO w' w.heap.size w'.heap.size v (mxF R K f) ∧ Below w.heap.size w w' := by
 obtain ⟨U, uc, rfl, _, _, hul, hx⟩ := hu.open_
 clear hu
 have HX := Lib.hid hx
 rw [rowsF_length] at hul ⊢
 obtain ⟨W, hW⟩ : ∃ W, W = w.alloc (.cells #[.int .i64 0, .int .i64 0, .slice none 0 0] 50) := ⟨_, rfl⟩
 have g0 : Below w.heap.size w W := by rw [hW]; exact below_alloc _ _
 have k2 : Blk W w.heap.size 50 #[.int .i64 0, .int .i64 0, .slice none 0 0] := by rw [hW]; exact Blk.new _ _ _
 have sz : W.heap.size = w.heap.size + 1 := by rw [hW]; simp
 have K2 := Lib.hid k2
 have SZ := Lib.hid sz
 clear k2 sz hx
 go_enter Tryz.func81, Tryz.ntmps81
 go_wp2_with fail
 rw [← hW]; clear hW
 refine (zero_any (R : Int) K W (by omega) (by omega) (by omega) (by omega)).mono ?_; rintro e w1 ⟨v1, rfl, ⟨sA, rfl, oA, hr, hc⟩, hb1⟩
 rw [zmx_flat] at oA hr hc ⊢
 simp only [mxF] at oA hr hc ⊢
 rw [fcK_0 R K f] at oA
 obtain ⟨A1, c1, e1⟩ := oA.form
 obtain ⟨N, hN⟩ : ∃ N, R * K = N := ⟨_, rfl⟩
 rw [flat_length, hN] at e1
 subst e1
 have HN := Lib.hid hN
 clear hN
 have s1 := hb1.size
 obtain ⟨W4, hW4⟩ : ∃ W4, W4 = w1.alloc (.cells #[.int .i64 R, .int .i64 K, .slice A1 N c1] 50) := ⟨_, rfl⟩
 have b4 : Below w1.heap.size w1 W4 := by rw [hW4]; exact below_alloc _ _
 have k4 : Blk W4 w1.heap.size 50 #[.int .i64 R, .int .i64 K, .slice A1 N c1] := by rw [hW4]; exact Blk.new _ _ _
 have oA := oA.below b4
 have gW := bthen hb1 b4
 clear b4 hb1
 go_wp2
 rw [← hW4]; clear hW4
 go_loopw [16] (fun i wr => ∃ k : Nat, k ≤ K ∧ i = .int .i64 k ∧ Blk wr w1.heap.size 50 #[.int .i64 R, .int .i64 K, .slice A1 N c1] ∧ IntsO wr W.heap.size w1.heap.size (.slice A1 N c1) (flat R K (fcK f k 0)) ∧ Below W.heap.size W wr) (fun i _ => K - (intOf i).toNat)
 case atStart => exact ⟨0, Nat.zero_le _, rfl, k4, oA, gW⟩
 case round =>
  clear k4 oA gW
  obtain ⟨k, hk, rfl, k4, oA, gW⟩ := hrel
  have s6 := gW.size
  by_cases hlt : k < K
  ·have hx := HX.out
   rw [← rowsF_length K R (fun a b => f b a)] at hlt
   obtain ⟨b, o, l, LA, lc, rfl, hb, HL, x1, hl⟩ := SlII.at_ hx hlt
   rw [rowsF_length] at hlt
   have hl' := HL.out
   rw [rowsF_get _ hlt] at hl'
   injection hl' with hl'
   subst hl'
   rw [rowF_length] at x1
   have gww : Below w.heap.size w wr := g0.trans (gW.mono g0.size)
   have x2 := bcell gww hb x1
   have HLC := Lib.hid hl
   clear hx HL x1 hl
   go_wp2
   go_loopw [23] (fun i wr => ∃ j : Nat, j ≤ R ∧ i = .int .i64 j ∧ Blk wr w1.heap.size 50 #[.int .i64 R, .int .i64 K, .slice A1 N c1] ∧ IntsO wr W.heap.size w1.heap.size (.slice A1 N c1) (flat R K (fcK f k j)) ∧ Below W.heap.size W wr) (fun i _ => R - (intOf i).toNat)
   case atStart => exact ⟨0, Nat.zero_le _, rfl, k4, oA, gW⟩
   case round =>
    clear k4 oA gW s6 x2 gww
    obtain ⟨j, hj, rfl, k4, oA, gW⟩ := hrel
    have s6 := gW.size
    by_cases hlj : j < R
    ·obtain ⟨P, J, hP, hPJ, hJ, hJN, hJb⟩ := ix_walk hlj hlt hR hK
     rw [HN.out] at hJN
     have hst := fcK_put f hlj hlt
     rw [← hJ] at hst
     subst hPJ
     have hl := HLC.out
     rw [← rowF_length R (fun b => f b k)] at hlj
     obtain ⟨b2, o2, x, rfl, hb2, HX2, x1, xr⟩ := SlI.at_ hl hlj
     rw [rowF_length] at hlj
     have hx2 := HX2.out
     rw [rowF_get _ hlj] at hx2
     injection hx2 with hx2
     subst hx2
     have gww : Below w.heap.size w wr := g0.trans (gW.mono g0.size)
     have x2 := bcell gww hb2 x1
     obtain ⟨gA, cA, eA, a1, a2, a3⟩ := oA.at_ (by rw [flat_length, HN.out]; omega)
     rw [flat_length, HN.out] at eA
     injection eA with eA1 eA2 eA3
     subst eA1 eA3
     have r1 := k4.cell' (i := 1) rfl
     have r2 := k4.cell' (i := 2) rfl
     have fA := oA.1.frozenG (P + k)
     have cA := (oA.1.cellG (j := P + k) (by rw [flat_length, HN.out]; omega)).1
     have hc1 : Chg W.heap.size w1.heap.size wr (wr.setCell ⟨gA, P + k, none⟩ (.int .i64 (f j k))) := chg_set a1 a2
     have oA2 := oA.put (j := P + k) (x := f j k) xr
     rw [hst] at oA2
     have OA2 := Lib.hid oA2
     have K4 := Lib.hid (k4.chg hc1 (by omega))
     have GW := Lib.hid (gW.trans (hc1.below (Nat.le_refl _) s6))
     clear oA2 k4 oA gW hc1 hst hJ hl HX2 x1 gww hb2
     go_wp2
     go_roundw
     case rel => exact ⟨j + 1, by omega, by go_num, K4.out, OA2.out, GW.out⟩
     case measure => simp [intOf]; omega
    ·obtain rfl : j = R := by omega
     rw [fcK_next] at oA
     have OA := Lib.hid oA
     have K4 := Lib.hid k4
     have GW := Lib.hid gW
     clear oA k4 gW
     go_wp2
     go_roundw
     case rel => exact ⟨k + 1, by omega, by go_num, K4.out, OA.out, GW.out⟩
     case measure => simp [intOf]; omega
  ·obtain rfl : k = K := by omega
   rw [fcK_K] at oA
   have k2 := K2.out.below gW (by have := SZ.out; omega)
   have z0 := k4.cell' (i := 0) rfl
   have z1 := k4.cell' (i := 1) rfl
   have z2 := k4.cell' (i := 2) rfl
   have p0 := k2.cell' (i := 0) rfl
   have p1 := k2.cell' (i := 1) rfl
   have p2 := k2.cell' (i := 2) rfl
   have f2 := k2.frozen
   have h2 := chg3 wr w.heap.size (.int .i64 (R : Int)) (.int .i64 k) (.slice A1 N c1)
   have gw : Below w.heap.size w wr := g0.trans (gW.mono g0.size)
   have gs := gw.size
   have oA2 := (oA.chg h2 (.inr (by have := SZ.out; omega))).wider (lo' := w.heap.size) (hi' := wr.heap.size) (by have := SZ.out; omega) (by have := k4.lt; omega)
   have fg := gw.trans (h2.below (Nat.le_refl _) gs)
   have OA2 := Lib.hid oA2
   have FG := Lib.hid fg
   clear oA oA2 fg gw h2 k2 k4 gW
   go_wp2
   exact bodyPost_ret (v := .agg #[.int .i64 (R : Int), .int .i64 k, .slice A1 N c1]) (by simp [results, go_sem, p0, p1, p2]) rfl ⟨_, rfl, ⟨_, rfl, by simpa [mxF] using OA2.out, by simp only [mxF, I64]; omega, by simp only [mxF, I64]; omega⟩, FG.out⟩
end Go.Proofs.YtcmlflppndfdcaaGreat
namespace Go.Proofs.YtcmlflppndfdcaaGreat
open Go.RowKit
def trK (f : Nat → Nat → Int) (i k a b : Nat) : Int := if b < i ∨ (b = i ∧ a < k) then f b a else 0
end Go.Proofs.YtcmlflppndfdcaaGreat
namespace Go.Proofs.YtcmlflppndfdcaaGreat
open Go.RowKit
def bsF (c : Nat) (f g : Nat → Nat → Int) (a b : Nat) : Int := if b < c then f a b else g a (b - c)
def blF (r : Nat) (f g : Nat → Nat → Int) (a b : Nat) : Int := if a < r then f a b else g (a - r) b
end Go.Proofs.YtcmlflppndfdcaaGreat
namespace Go.Proofs
open Go.Shelf
def Tryz.laysGrow_ren : Go.Shelf.Ren := ⟨fun | 4 => 138 | n => n, fun | 22 => 22 | 25 => 3 | 3 => 3 | 4 => 4 | 9 => 9 | 20 => 20 | 0 => 0 | n => n, fun | n => n⟩
theorem Tryz.laysGrow : Go.Proofs.Lays8.n4 Tryz.prog Tryz.laysGrow_ren := {
 mixed := by kernel_rfl
 f4 := ⟨Tryz.f138.name, by decide, Tryz.func138.trans (congrArg some (by kernel_rfl))⟩
 t0 := Tryz.underlying0
 a0 := Tryz.isAgg0
 z0 := Tryz.sizeOf0
 v0 := Tryz.zeroValue0
 t3 := Tryz.underlying3
 a3 := Tryz.isAgg3
 z3 := Tryz.sizeOf3
 v3 := Tryz.zeroValue3
 t4 := Tryz.underlying4
 a4 := Tryz.isAgg4
 z4 := Tryz.sizeOf4
 v4 := Tryz.zeroValue4
 t9 := Tryz.underlying9
 a9 := Tryz.isAgg9
 z9 := Tryz.sizeOf9
 v9 := Tryz.zeroValue9
 t20 := Tryz.underlying20
 a20 := Tryz.isAgg20
 z20 := Tryz.sizeOf20
 v20 := Tryz.zeroValue20
 t22 := Tryz.underlying22
 a22 := Tryz.isAgg22
 z22 := Tryz.sizeOf22
 v22 := Tryz.zeroValue22 }
end Go.Proofs
namespace Go.Proofs.YtcmlflppndfdcaaGreat
open Go.RowKit
theorem grow_any (n : Nat) (w : World) (hn : n ≤ 1000000) :
  Calls Tryz.prog 138 #[.slice none 0 0, .int .i64 n] w fun e w' => ∃ v, e = .returned v ∧ OwnI w' w.heap.size v [] ∧ Below w.heap.size w w' := by
 rcases Nat.eq_zero_or_pos n with rfl | h0
 ·exact (Any8.slices_Grow_room Tryz.laysGrow none 0 0 0 w (by omega) (by omega) (by omega) (by omega)).mono fun e w' ⟨h1, h2⟩ => ⟨_, h1, OwnI.nil _ _, by rw [h2]; exact Below.refl _ _⟩
 ·obtain ⟨i0, hi, hz0, hz1, hz2⟩ := info_parts infoInt
  have hG : Calls Tryz.prog 138 #[.slice none 0 0, .int .i64 n] w fun e w' => e = .returned (.slice (some ⟨w.heap.size, 0, none⟩) 0 (grownCap w (0 + n) 0 3)) ∧
    w' = w.drew.alloc (.cells (([] : List Value).toArray ++ Builtin.zeroCells (Value.int .i64 0).cells (0 + n - 0) ++ Builtin.zeroCells (Value.int .i64 0).cells (grownCap w (0 + n) 0 3 - (0 + n))) 3) :=
   Any8.slices_Grow_grow Tryz.laysGrow i0 _ hi hz0 (by omega) none 0 0 n [] w (by omega) (by omega) (by rw [hz2]; omega) (by omega) (by simp) (fun _ => rfl) (fun a h => by cases h)
  rw [Nat.zero_add, Nat.sub_zero] at hG
  refine hG.mono fun e w' ⟨h1, h2⟩ => ⟨_, h1, ?_, ?_⟩
  ·rw [h2]
   have hg := grownCap_ge w n 0 3
   have hm := grownCap_le_maxLen w n 0 3 (by simp only [maxLen]; omega)
   refine ⟨⟨by simp, .inr ⟨w.heap.size, grownCap w n 0 3, _, rfl, Nat.le_refl _, Blk.new _ _ _, Nat.zero_le _, hm, ?_, by simp⟩⟩, by simp, by simp⟩
   have hz : (Value.int .i64 0).cells.size = 1 := rfl
   simp only [Array.size_append, size_zeroCells, List.size_toArray, List.length_nil, hz, Nat.mul_one]
   omega
  ·rw [h2]
   exact bthen (drew_below w) (below_alloc _ _)
theorem flatten_len_take (ll : List (List Int)) (k : Nat) : (ll.take k).flatten.length ≤ ll.flatten.length := by
 have : ll = ll.take k ++ ll.drop k := (List.take_append_drop k ll).symm
 have h2 := congrArg (fun x => (List.flatten x).length) this
 simp only [List.flatten_append, List.length_append] at h2
 omega
set_option maxHeartbeats 1600000 in
theorem concat_any (u : Value) (ll : List (List Int)) (w : World) (hu : SlII w w.heap.size u ll) (hn : ll.length ≤ 1000000) (ht : ll.flatten.length ≤ 1000000) :
  Calls Tryz.prog 108 #[u] w fun e w' => ∃ v, e = .returned v ∧ IntsO w' w.heap.size w'.heap.size v ll.flatten ∧ Below w.heap.size w w' := by
 obtain ⟨A, c, rfl, _, _, _, hx⟩ := hu.open_
 clear hu
 have HX := Lib.hid hx
 have HT := Lib.hid ht
 obtain ⟨n, hnl⟩ : ∃ n, ll.length = n := ⟨_, rfl⟩
 have HNL := Lib.hid hnl
 rw [hnl] at hn ⊢
 clear hx ht hnl
 go_enter Tryz.func108, Tryz.ntmps108
 go_wp2
 go_loopw [3, 11] (fun s i wr => ∃ k : Nat, k ≤ n ∧ i = .int .i64 k ∧ s = .int .i64 ((ll.take k).flatten.length : Nat) ∧ w = wr) (fun _ i _ => n - (intOf i).toNat)
 case atStart => exact ⟨0, Nat.zero_le _, rfl, by simp, rfl⟩
 case round =>
  obtain ⟨k, hk, rfl, rfl, rfl⟩ := hrel
  have hle := flatten_len_take ll k
  have hle2 := flatten_len_take ll (k + 1)
  have ht := HT.out
  obtain ⟨s, hs⟩ : ∃ s, (ll.take k).flatten.length = s := ⟨_, rfl⟩
  by_cases hlt : k < n
  ·rw [hs] at hle ⊢
   have hx := HX.out
   rw [← HNL.out] at hlt
   obtain ⟨b, o, l, LA, lc, rfl, hb, HL, x1, hl⟩ := SlII.at_ hx hlt
   rw [HNL.out] at hlt
   have e1 : (ll.take (k + 1)).flatten.length = s + l.length := by rw [take_snoc HL.out, List.flatten_append, List.length_append, hs]; simp
   rw [e1] at hle2
   have hsl : s + l.length ≤ 1000000 := by omega
   have E1 := Lib.hid e1
   clear hs e1 ht hle hle2 hx HL hl hb
   go_wp2
   go_roundw
   case rel => exact ⟨k + 1, by omega, by go_num, by rw [E1.out]; go_num, by first | rfl | trivial⟩
   case measure => simp [intOf]; omega
  ·obtain rfl : k = n := by omega
   have e0 : ll.take k = ll := List.take_of_length_le (by have := HNL.out; omega)
   rw [e0] at hs ⊢
   rw [hs] at ht ⊢
   clear hle hle2 e0
   have HS := Lib.hid hs
   clear hs
   go_wp2_with fail
   refine (grow_any s _ (by omega)).mono ?_; rintro e w1 ⟨v, rfl, ho, hb1⟩
   obtain ⟨OA, oc, rfl, _, _⟩ := ho.form
   have gw := hb1
   go_wp2
   go_loopw [6, 27] (fun out i wr => ∃ j : Nat, j ≤ k ∧ i = .int .i64 j ∧ OwnI wr w.heap.size out (ll.take j).flatten ∧ Below w.heap.size w wr) (fun _ i _ => k - (intOf i).toNat)
   case atStart => exact ⟨0, Nat.zero_le _, rfl, by simpa using ho, hb1⟩
   case round =>
    clear ho hb1 gw
    obtain ⟨j, hj, rfl, ho, hb1⟩ := hrel
    have gs := hb1.size
    by_cases hlj : j < k
    ·have hx := HX.out
     rw [← HNL.out] at hlj
     obtain ⟨b, o, l, LA, lc, rfl, hb, HL, x1, hl⟩ := SlII.at_ hx hlj
     rw [HNL.out] at hlj
     have x2 := bcell hb1 hb x1
     have hl2 : SlI wr w.heap.size (.slice LA l.length lc) l := SlI.below hb1 hl
     have e1 : (ll.take (j + 1)).flatten = (ll.take j).flatten ++ l := by rw [take_snoc HL.out, List.flatten_append]; simp
     have hle2 := flatten_len_take ll (j + 1)
     rw [e1, List.length_append, HS.out] at hle2
     have E1 := Lib.hid e1
     obtain ⟨OB, ob, rfl, _, _⟩ := ho.form
     have HO := Lib.hid ho
     have HL2 := Lib.hid hl2
     have HLE := Lib.hid hle2
     have GW := Lib.hid hb1
     have hlo2 := HO.out.lt
     clear e1 hx hl hl2 HL x1 ho hle2 hb1
     (go_wp2_with (at_builtin; refine Hold.stop ?_)); unfold Hold
     refine wpList_appI rfl (.tmp 31) (.tmp 32) rfl w.heap.size w.heap.size _ _ rfl HO.out LA l.length lc l rfl rfl HL2.out (by have := HLE.out; omega) gs ?_
     intro v' w' h1 h2 h3
     rw [← E1.out] at h1
     have g2 := (GW.out).trans (below_grown h2 (fun k hk => (hlo2 k hk).1) gs)
     have H1 := Lib.hid h1
     have G2 := Lib.hid g2
     clear h1 h2 h3 g2 hlo2
     go_wp2
     go_roundw
     case rel => exact ⟨j + 1, by omega, by go_num, H1.out, G2.out⟩
     case measure => simp [intOf]; omega
    ·obtain rfl : j = k := by omega
     have e0 : ll.take j = ll := List.take_of_length_le (by have := HNL.out; omega)
     rw [e0] at ho
     have HO := Lib.hid ho
     clear ho e0
     go_wp2
     go_ret
     exact ⟨_, rfl, IntsO.of_own HO.out, hb1⟩
theorem rowsF_flatten (r c : Nat) (f : Nat → Nat → Int) : (rowsF r c f).flatten = flat r c f := by
 induction r with
 | zero => simp [rowsF, flat]
 | succ r ih =>
  rw [rowsF_succ, List.flatten_append, ih]
  refine flat_ext (by simp [flat_length, rowF_length, Nat.add_mul]) fun i k hi hk => ?_
  rw [List.getElem?_append]
  by_cases h : i < r
  ·rw [if_pos (by rw [flat_length]; exact ix_lt h hk), flat_get f h hk]
  ·obtain rfl : i = r := by omega
   rw [if_neg (by rw [flat_length]; omega), flat_length, show i * c + k - i * c = k by omega]
   simp [rowF_get _ hk]
end Go.Proofs.YtcmlflppndfdcaaGreat
namespace Go.Proofs.YtcmlflppndfdcaaGreat
open Go.RowKit
theorem grown_then {a b c : World} {row : Option Nat} (h : a.grownBy b row) (k : b.grownBy c row) : a.grownBy c row :=
 ⟨k.os.trans h.os, k.tape.trans h.tape, k.output.trans h.output, Nat.le_trans h.size k.size, fun i hi hne => (k.block i (Nat.lt_of_lt_of_le hi h.size) hne).trans (h.block i hi hne)⟩
structure RS (B : Nat) (w1 : World) (A : Option Addr) (r c L cap : Nat) (w : World) (f : Nat → Nat → Int) (pv : Value) (ps : List Int) : Prop where
 bel : Below B w1 w
 fam : Fam w B w.heap.size [(.slice A L cap, flat r c f), (pv, ps)]
section
variable {B : Nat} {w1 w w' : World} {A : Option Addr} {r c L cap : Nat} {f : Nat → Nat → Int} {pv : Value} {ps : List Int}
theorem RS.own (h : RS B w1 A r c L cap w f pv ps) : OwnI w B (.slice A L cap) (flat r c f) := (h.fam.1 (_, flat r c f) (by simp)).1
theorem RS.ownP (h : RS B w1 A r c L cap w f pv ps) : IntsO w B w.heap.size pv ps := h.fam.1 (pv, ps) (by simp)
theorem RS.size (h : RS B w1 A r c L cap w f pv ps) (hB : B ≤ w1.heap.size) : B ≤ w.heap.size := Nat.le_trans hB h.bel.size
theorem RS.call (h : RS B w1 A r c L cap w f pv ps) (hB : B ≤ w1.heap.size) (hb : Below w.heap.size w w') : RS B w1 A r c L cap w' f pv ps :=
 ⟨h.bel.trans (hb.mono (h.size hB)), (h.fam.below hb).mono (Nat.le_refl _) hb.size⟩
theorem RS.addr (h : RS B w1 A r c L cap w f pv ps) (hL : 0 < r * c) : ∃ g, A = some ⟨g, 0, none⟩ ∧ L = r * c ∧ L ≤ cap ∧ cap ≤ 9223372036854775807 ∧ B ≤ g ∧ g < w.heap.size := by
 have ho := h.own
 rcases ho.1.2 with ⟨e, h0⟩ | ⟨g, cap', cur, e, hg, hh, hnc, hcm, _⟩
 ·rw [flat_length] at h0; omega
 ·injection e with e1 e2 e3
  subst e1 e3
  rw [flat_length] at e2 hnc
  subst e2
  exact ⟨g, rfl, rfl, hnc, by simp only [maxLen] at hcm; omega, hg, (Array.getElem?_eq_some_iff.1 hh).1⟩
theorem RS.len (h : RS B w1 A r c L cap w f pv ps) : L = r * c := by
 rcases h.own.form with ⟨A', c', e, _⟩
 injection e with _ e _
 rw [flat_length] at e
 exact e
theorem RS.cell {g i k : Nat} (h : RS B w1 (some ⟨g, 0, none⟩) r c L cap w f pv ps) (hi : i < r) (hk : k < c) : w.cell? ⟨g, i * c + k, none⟩ = some (.int .i64 (f i k)) ∧ I64 (f i k) ∧ w.frozen? ⟨g, i * c + k, none⟩ = false := by
 have h1 := h.own.cellG (j := i * c + k) (by rw [flat_length]; exact ix_lt hi hk)
 rw [flat_getD f hi hk] at h1
 exact ⟨h1.1, h1.2, h.own.frozenG _⟩
theorem RS.put {g J : Nat} {x : Int} {f2 : Nat → Nat → Int} (h : RS B w1 (some ⟨g, 0, none⟩) r c L cap w f pv ps) (hg : B ≤ g) (hs : B ≤ w.heap.size) (hx : I64 x) (e : (flat r c f).set J x = flat r c f2) :
  RS B w1 (some ⟨g, 0, none⟩) r c L cap (w.setCell ⟨g, J, none⟩ (.int .i64 x)) f2 pv ps := by
 have hp := h.own.put (j := J) hx
 rw [e] at hp
 refine ⟨h.bel.setCell hg _, ?_⟩
 have := h.fam.turn (L1 := []) hp.1 hp.2
 simpa using this
theorem RS.turn {g : Nat} {f2 : Nat → Nat → Int} (h : RS B w1 (some ⟨g, 0, none⟩) r c L cap w f pv ps) (hg : B ≤ g) (hs : B ≤ w.heap.size) (ho : OwnI w' B (.slice (some ⟨g, 0, none⟩) L cap) (flat r c f2)) (hgr : w.grownBy w' (some g)) :
  RS B w1 (some ⟨g, 0, none⟩) r c L cap w' f2 pv ps := by
 refine ⟨h.bel.trans (below_grown hgr (fun k hk => by injection hk with hk; omega) hs), ?_⟩
 have := h.fam.turn (L1 := []) ho hgr
 exact this.mono (Nat.le_refl _) hgr.size
theorem RS.app {pv' : Value} {ps' : List Int} (h : RS B w1 A r c L cap w f pv ps) (hs : B ≤ w.heap.size) (ho : OwnI w' B pv' ps') (hg : w.grownBy w' pv.ownBlock) (hv : pv'.ownBlock = pv.ownBlock ∨ pv'.ownBlock = some w.heap.size) :
  RS B w1 A r c L cap w' f pv' ps' := by
 refine ⟨h.bel.trans (below_grown hg (fun k hk => (h.ownP.1.lt k hk).1) hs), ?_⟩
 have h1 : Fam w B w.heap.size ([(.slice A L cap, flat r c f)] ++ (pv, ps) :: []) := h.fam
 have hw := hg.size
 exact h1.app hw ho hg hv
end
section
variable {B : Nat} {w1 w w' : World} {A : Option Addr} {r c L cap : Nat} {f : Nat → Nat → Int} {pv : Value} {ps : List Int}
theorem RS.cellP {g i k P : Nat} (h : RS B w1 (some ⟨g, 0, none⟩) r c L cap w f pv ps) (hi : i < r) (hk : k < c) (hP : P = i * c) : w.cell? ⟨g, P + k, none⟩ = some (.int .i64 (f i k)) ∧ I64 (f i k) ∧ w.frozen? ⟨g, P + k, none⟩ = false := by
 subst hP; exact h.cell hi hk
theorem RS.put2 {g J J' : Nat} {x y : Int} {f2 : Nat → Nat → Int} (h : RS B w1 (some ⟨g, 0, none⟩) r c L cap w f pv ps) (hg : B ≤ g) (hs : B ≤ w.heap.size) (hx : I64 x) (hy : I64 y) (e : ((flat r c f).set J x).set J' y = flat r c f2) :
  RS B w1 (some ⟨g, 0, none⟩) r c L cap ((w.setCell ⟨g, J, none⟩ (.int .i64 x)).setCell ⟨g, J', none⟩ (.int .i64 y)) f2 pv ps := by
 have hp := h.own.put (j := J) hx
 have hp2 := hp.1.put (j := J') hy
 rw [e] at hp2
 exact h.turn hg hs hp2.1 (grown_then hp.2 hp2.2)
end
theorem RS.congr {B : Nat} {w1 w : World} {A : Option Addr} {r c L cap : Nat} {f f2 : Nat → Nat → Int} {pv : Value} {ps : List Int} (h : RS B w1 A r c L cap w f pv ps) (e : flat r c f = flat r c f2) : RS B w1 A r c L cap w f2 pv ps :=
 ⟨h.bel, by rw [← e]; exact h.fam⟩
theorem invP_r {p x : Int} (hp : 2 ≤ p ∧ p ≤ 5) : 0 ≤ invP p x ∧ invP p x ≤ 4 := by
 unfold invP
 split
 ·have := emod_rng (x := x % p * (x % p) % p * (x % p)) hp.1
  omega
 ·have := emod_rng (x := x) hp.1
  omega
theorem inF_elI {p : Int} {r c n k i : Nat} {f : Nat → Nat → Int} (hp : 2 ≤ p) (h : InF p r c f) : InF p r c (elI p n k i f) := fun a b ha hb => by
 unfold elI
 split
 ·exact emod_rng hp
 ·exact h _ _ ha hb
theorem rows_apart {i n c P Q : Nat} (h : i ≠ n) (hQ : Q = i * c) (hP : P = n * c) : Q + c ≤ P ∨ P + c ≤ Q := by
 rcases Nat.lt_or_gt_of_ne h with h | h
 ·have : (i + 1) * c ≤ n * c := Nat.mul_le_mul_right _ h
  rw [Nat.add_mul, Nat.one_mul] at this
  omega
 ·have : (n + 1) * c ≤ i * c := Nat.mul_le_mul_right _ h
  rw [Nat.add_mul, Nat.one_mul] at this
  omega
theorem row_in {r c i P L cap g : Nat} (w : World) (hi : i < r) (h0 : 0 < c) (hr : r ≤ 1000) (hc : c ≤ 1000) (hL : L = r * c) (hcap : L ≤ cap) (hb : cap ≤ 9223372036854775807) (hP : P = i * c) :
  Calls Tryz.prog 77 #[.agg #[.int .i64 (r : Int), .int .i64 (c : Int), .slice (some ⟨g, 0, none⟩) L cap], .int .i64 (i : Int)] w fun e w' => e = .returned (.slice (some ⟨g, P, none⟩) c (cap - P)) ∧ Below w.heap.size w w' := by
 obtain ⟨P', J, h1, h2, h3, h4, h5⟩ := ix_walk (k := 0) hi h0 hr hc
 obtain ⟨h5', h6, h7, h8⟩ := ix_next hi hr hc h1
 have e : P' = P := h5'.trans hP.symm
 have h9 : P' + c ≤ L := by rw [hL]; exact h7
 have h10 : i ≤ 1000 := Nat.le_trans (Nat.le_of_lt hi) hr
 have := row_at (r : Int) c i P' L cap g w h1 h6 h9 hcap hb h0 h10
 rw [e] at this
 exact this
theorem rowP {r c i k P : Nat} (hi : i < r) (hk : k < c) (hr : r ≤ 1000) (hc : c ≤ 1000) (hP : P = i * c) : P + k < r * c ∧ P + c ≤ r * c ∧ r * c ≤ 1000000 := by
 have h1 : (i + 1) * c ≤ r * c := Nat.mul_le_mul_right _ hi
 have h2 : r * c ≤ 1000 * 1000 := Nat.mul_le_mul hr hc
 rw [Nat.add_mul, Nat.one_mul] at h1
 omega
theorem am_el {p : Int} {n k i r c : Nat} (F : Nat → Nat → Int) (hn : n < r) (hi : i ≠ n) :
  rowF (r * c) (amF p (p - F i k) (i * c) c (fun j => elI p n k i F (j / c) (j % c)) fun j => (fun x => elI p n k i F (x / c) (x % c)) (n * c + j)) = flat r c (elI p n k (i + 1) F) := by
 refine rowF_congr fun x hx => ?_
 obtain ⟨a, b, ha, hb, rfl⟩ := ix_of hx
 simp only [amF, ix_div hb, ix_mod hb]
 by_cases e : a = i
 ·subst e
  rw [if_pos (by omega), show a * c + b - a * c = b by omega, ix_div hb, ix_mod hb, el_rest, el_n]
  simp only [elI]
  rw [if_pos (by omega)]
 ·have h1 : ¬ (i * c ≤ a * c + b ∧ a * c + b < i * c + c) := by
   rintro ⟨h1, h2⟩
   rcases Nat.lt_or_gt_of_ne e with h | h
   ·have : (a + 1) * c ≤ i * c := Nat.mul_le_mul_right _ h
    rw [Nat.add_mul, Nat.one_mul] at this
    omega
   ·have : (i + 1) * c ≤ a * c := Nat.mul_le_mul_right _ h
    rw [Nat.add_mul, Nat.one_mul] at this
    omega
  rw [if_neg h1]
  simp only [elI]
  by_cases e2 : a < i ∧ a ≠ n
  ·rw [if_pos e2, if_pos (by omega)]
  ·rw [if_neg e2, if_neg (by omega)]
theorem rowF_flat (r c : Nat) (f : Nat → Nat → Int) : flat r c f = rowF (r * c) fun j => f (j / c) (j % c) := rfl
theorem invP_ok {p x : Int} (hp : isFld p = true) (h1 : 1 ≤ x) (h2 : x ≤ p - 1) : 1 ≤ invP p x ∧ invP p x ≤ p - 1 ∧ x * invP p x % p = 1 ∧ ∀ y, 1 ≤ y → y < invP p x → x * y % p ≠ 1 := by
 rcases isFld_t.1 hp with rfl | rfl | rfl
 ·obtain rfl : x = 1 := by omega
  refine ⟨by decide, by decide, by decide, fun y hy hy2 => ?_⟩
  have : invP 2 1 = 1 := by decide
  omega
 ·have : x = 1 ∨ x = 2 := by omega
  rcases this with rfl | rfl
  ·refine ⟨by decide, by decide, by decide, fun y hy hy2 => ?_⟩
   have : invP 3 1 = 1 := by decide
   omega
  ·refine ⟨by decide, by decide, by decide, fun y hy hy2 => ?_⟩
   have : invP 3 2 = 2 := by decide
   obtain rfl : y = 1 := by omega
   decide
 ·have : x = 1 ∨ x = 2 ∨ x = 3 ∨ x = 4 := by omega
  rcases this with rfl | rfl | rfl | rfl
  ·refine ⟨by decide, by decide, by decide, fun y hy hy2 => ?_⟩
   have : invP 5 1 = 1 := by decide
   omega
  ·refine ⟨by decide, by decide, by decide, fun y hy hy2 => ?_⟩
   have : invP 5 2 = 3 := by decide
   have : y = 1 ∨ y = 2 := by omega
   rcases this with rfl | rfl <;> decide
  ·refine ⟨by decide, by decide, by decide, fun y hy hy2 => ?_⟩
   have : invP 5 3 = 2 := by decide
   obtain rfl : y = 1 := by omega
   decide
  ·refine ⟨by decide, by decide, by decide, fun y hy hy2 => ?_⟩
   have : invP 5 4 = 4 := by decide
   have : y = 1 ∨ y = 2 ∨ y = 3 := by omega
   rcases this with rfl | rfl | rfl <;> decide
def pwF (p x : Int) : Nat → Int
 | 0 => 1
 | n + 1 => pwF p x n * (x % p) % p
theorem pwF_r {p x : Int} (hp : 2 ≤ p ∧ p ≤ 5) : ∀ n, 0 ≤ pwF p x n ∧ pwF p x n ≤ 4
 | 0 => by simp [pwF]
 | n + 1 => by
  have := emod_rng (x := pwF p x n * (x % p)) hp.1
  simp only [pwF]
  omega
theorem pwF_inv {p x : Int} (hp : isFld p = true) : pwF p x (max (p - 2) 1).toNat = invP p x := by
 have e := Int.emod_emod_of_dvd x (Int.dvd_refl p)
 rcases isFld_t.1 hp with rfl | rfl | rfl
 ·show 1 * (x % 2) % 2 = _
  rw [Int.one_mul, e]; rfl
 ·show 1 * (x % 3) % 3 = _
  rw [Int.one_mul, e]; rfl
 ·show 1 * (x % 5) % 5 * (x % 5) % 5 * (x % 5) % 5 = _
  rw [Int.one_mul, e]; rfl
set_option maxHeartbeats 800000 in
theorem powerMod_any (p x : Int) (n : Nat) (w : World) (hp : isFld p = true) (hx : I64 x) (hn : n ≤ 1000) :
  Calls Tryz.prog 137 #[.int .i64 p, .int .i64 x, .int .i64 n] w fun e w' => e = .returned (.int .i64 (pwF p x n)) ∧ w' = w := by
 have hpr := isFld_r hp
 have h2 : inR (n : Int) 0 1000 = true := inR_t.2 (by omega)
 have H1 := Lib.hid hp
 have H2 := Lib.hid h2
 have HX := Lib.hid hx
 clear hp h2
 go_enter Tryz.func137, Tryz.ntmps137
 go_wp2_with fail
 refine (implIsField_any _ _).mono ?_; rintro e w1 ⟨rfl, hww⟩; replace hww := hww.symm; subst hww
 rw [H1.out]
 go_wp2_with fail
 refine (within_any _ _ _ _).mono ?_; rintro e w1 ⟨rfl, hww⟩; replace hww := hww.symm; subst hww
 rw [H2.out]
 go_wp2
 go_loop [7, 17] (fun o i => ∃ k : Nat, k ≤ n ∧ i = .int .i64 k ∧ o = .int .i64 (pwF p x k)) (fun _ i => n - (intOf i).toNat)
 case atStart => exact ⟨0, Nat.zero_le _, rfl, rfl⟩
 case round =>
  obtain ⟨k, hk, rfl, rfl⟩ := hrel
  by_cases hlt : k < n
  ·have hr := pwF_r (x := x) hpr k
   have hm := emod_rng (x := x) hpr.1
   have hs : Hid (pwF p x (k + 1) = pwF p x k * (x % p) % p) := rfl
   obtain ⟨a, ha⟩ : ∃ a, pwF p x k = a := ⟨_, rfl⟩
   obtain ⟨m, hmm⟩ : ∃ m, x % p = m := ⟨_, rfl⟩
   rw [ha, hmm] at hs
   rw [ha] at hr ⊢
   rw [hmm] at hm
   have k0 : 0 ≤ a * m := Int.mul_nonneg hr.1 hm.1
   have k1 : a * m ≤ 4 * 4 := Int.mul_le_mul hr.2 (by omega) hm.1 (by omega)
   obtain ⟨K, hK⟩ : ∃ K, a * m = K := ⟨_, rfl⟩
   rw [hK] at k0 k1 hs
   have hKw : wrap64 (a * m) = K := by rw [hK]; exact IntWalk.wrap64_in _ ⟨by omega, by omega⟩
   have ht : K.tmod p = K % p := Int.tmod_eq_emod_of_nonneg k0
   have HMM := Lib.hid hmm
   clear ha hmm hK
   go_wp2_with fail
   refine (reduceMod_any p x _ H1.out HX.out).mono ?_; rintro e w1 ⟨rfl, hww⟩; replace hww := hww.symm; subst hww
   rw [HMM.out]
   go_wp2
   go_round
   case rel => exact ⟨k + 1, by omega, by go_num, by rw [hs.out]⟩
   case measure => simp [intOf]; omega
  ·obtain rfl : k = n := by omega
   go_wp2
   go_ret
   exact ⟨rfl, rfl⟩
theorem inverseMod_any (p x : Int) (w : World) (hp : isFld p = true) (hx : I64 x) :
  Calls Tryz.prog 106 #[.int .i64 p, .int .i64 x] w fun e w' => e = .returned (.int .i64 (invP p x)) ∧ w' = w := by
 have hpr := isFld_r hp
 obtain ⟨n, hn⟩ : ∃ n : Nat, max (p - 2) 1 = n := ⟨(max (p - 2) 1).toNat, by omega⟩
 have hi := pwF_inv (x := x) hp
 rw [hn, Int.toNat_natCast] at hi
 rw [← hi]
 have hnb : n ≤ 1000 := by omega
 have H1 := Lib.hid hp
 have HX := Lib.hid hx
 clear hp hi
 go_enter Tryz.func106, Tryz.ntmps106
 go_wp2_with fail
 refine (implIsField_any _ _).mono ?_; rintro e w1 ⟨rfl, hww⟩; replace hww := hww.symm; subst hww
 rw [H1.out]
 go_wp2_with fail
 refine (powerMod_any p x n _ H1.out HX.out hnb).mono ?_; rintro e w1 ⟨rfl, hww⟩; replace hww := hww.symm; subst hww
 go_wp2
 go_ret
 exact ⟨rfl, rfl⟩
set_option maxHeartbeats 800000 in
theorem specInverseMod_any (p x : Int) (w : World) (hp : isFld p = true) (h1 : 1 ≤ x) (h2 : x ≤ p - 1) :
  Calls Tryz.prog 101 #[.int .i64 p, .int .i64 x] w fun e w' => e = .returned (.int .i64 (invP p x)) ∧ w' = w := by
 have hpr := isFld_r hp
 obtain ⟨i1, i2, i3, i4⟩ := invP_ok hp h1 h2
 obtain ⟨v, hv⟩ : ∃ v, invP p x = v := ⟨_, rfl⟩
 rw [hv] at i1 i2 i3 i4 ⊢
 have H1 := Lib.hid hp
 have I3 := Lib.hid i3
 have I4 := Lib.hid i4
 have hxm : x % p = x := Int.emod_eq_of_lt (by omega) (by omega)
 have HXM := Lib.hid hxm
 clear hp hv i3 i4 hxm
 go_enter Tryz.func101, Tryz.ntmps101
 go_wp2
 go_loop [5] (fun i => ∃ y : Int, 1 ≤ y ∧ y ≤ v ∧ i = .int .i64 y) (fun i => (p - intOf i).toNat)
 case atStart => exact ⟨1, by omega, by omega, rfl⟩
 case round =>
  obtain ⟨y, hy1, hy2, rfl⟩ := hrel
  have hyp : y < p := by omega
  have k0 : 0 ≤ x * y := Int.mul_nonneg (by omega) (by omega)
  have k1 : x * y ≤ 4 * 4 := Int.mul_le_mul (by omega) (by omega) (by omega) (by omega)
  obtain ⟨K, hK⟩ : ∃ K, x * y = K := ⟨_, rfl⟩
  have hKw : wrap64 (x * y) = K := by rw [hK]; exact IntWalk.wrap64_in _ ⟨by omega, by omega⟩
  rw [hK] at k0 k1
  have hKI : Hid (I64 K) := by show _ ∧ _; omega
  have hxI : Hid (I64 x) := by show _ ∧ _; omega
  by_cases hlt : y < v
  ·have hne := I4.out y hy1 hlt
   rw [hK] at hne
   have hb : (K % p == 1) = false := by simpa using hne
   clear hK hne
   go_wp2_with fail
   refine (specIsField_any _ _).mono ?_; rintro e w1 ⟨rfl, hww⟩; replace hww := hww.symm; subst hww
   rw [H1.out]
   go_wp2_with fail
   refine (l2Mod_any p x _ hpr hxI.out).mono ?_; rintro e w1 ⟨rfl, hww⟩; replace hww := hww.symm; subst hww
   rw [HXM.out]
   go_wp2_with fail
   refine (l2Mod_any p K _ hpr hKI.out).mono ?_; rintro e w1 ⟨rfl, hww⟩; replace hww := hww.symm; subst hww
   go_wp2
   go_round
   case rel => exact ⟨y + 1, by omega, by omega, rfl⟩
   case measure => simp [intOf]; omega
  ·obtain rfl : y = v := by omega
   have he := I3.out
   rw [hK] at he
   have HE := Lib.hid he
   clear hK he
   go_wp2_with fail
   refine (specIsField_any _ _).mono ?_; rintro e w1 ⟨rfl, hww⟩; replace hww := hww.symm; subst hww
   rw [H1.out]
   go_wp2_with fail
   refine (l2Mod_any p x _ hpr hxI.out).mono ?_; rintro e w1 ⟨rfl, hww⟩; replace hww := hww.symm; subst hww
   rw [HXM.out]
   go_wp2_with fail
   refine (l2Mod_any p K _ hpr hKI.out).mono ?_; rintro e w1 ⟨rfl, hww⟩; replace hww := hww.symm; subst hww
   rw [HE.out]
   go_wp2
   go_ret
   exact ⟨rfl, rfl⟩
set_option maxHeartbeats 1600000 in
theorem addMultiple_in (p k : Int) (g off top n N cap ca cb : Nat) (lo : Nat) (f : Nat → Int) (w : World) (hp : 2 ≤ p ∧ p ≤ 5) (hk : 0 ≤ k ∧ k ≤ 5)
  (hown : OwnI w lo (.slice (some ⟨g, 0, none⟩) N cap) (rowF N f)) (hoff : off + n ≤ N) (htop : top + n ≤ N) (hd : off + n ≤ top ∨ top + n ≤ off) (hN : N ≤ 1000000) (hca : n ≤ ca ∧ ca ≤ 9223372036854775807) (hcb : n ≤ cb ∧ cb ≤ 9223372036854775807)
  (hf : ∀ i, i < N → 0 ≤ f i ∧ f i ≤ 4) :
  Calls Tryz.prog 107 #[.int .i64 p, .slice (some ⟨g, off, none⟩) n ca, .int .i64 k, .slice (some ⟨g, top, none⟩) n cb] w fun e w' => e = .returned (.slice (some ⟨g, off, none⟩) n ca) ∧ OwnI w' lo (.slice (some ⟨g, 0, none⟩) N cap) (rowF N (amF p k off n f fun j => f (top + j))) ∧ w.grownBy w' (some g) := by
 have HF := Lib.hid hf
 obtain ⟨y, hy⟩ : ∃ y : Nat → Int, y = fun j => f (top + j) := ⟨_, rfl⟩
 rw [← hy]
 have HY : Hid (∀ j, y j = f (top + j)) := by subst hy; exact fun _ => rfl
 rw [amF_0 p k off N f y] at hown
 clear hf hy
 go_enter Tryz.func107, Tryz.ntmps107
 go_wp2
 go_loopw [13] (fun i wr => ∃ j : Nat, j ≤ n ∧ i = .int .i64 j ∧ OwnI wr lo (.slice (some ⟨g, 0, none⟩) N cap) (rowF N (amF p k off j f y)) ∧ w.grownBy wr (some g)) (fun i _ => n - (intOf i).toNat)
 case atStart => exact ⟨0, Nat.zero_le _, rfl, hown, World.grownBy.refl _ _⟩
 case round =>
  clear hown
  obtain ⟨j, hj, rfl, ho, hgr⟩ := hrel
  by_cases hlt : j < n
  ·have cA := (ho.cellG (j := off + j) (by rw [rowF_length]; omega)).1
   rw [rowF_getD _ (by omega), amF_rest] at cA
   have cS := (ho.cellG (j := top + j) (by rw [rowF_length]; omega)).1
   rw [rowF_getD _ (by omega), amF, if_neg (by omega), ← HY.out] at cS
   have fA := ho.frozenG (off + j)
   have hf1 := HF.out (off + j) (by omega)
   have hy1 := HF.out (top + j) (by omega)
   rw [← HY.out] at hy1
   have hst := amF_succ (p := p) (k := k) (off := off) (j := j) (N := N) f y
   obtain ⟨a, ha⟩ : ∃ a, f (off + j) = a := ⟨_, rfl⟩
   obtain ⟨z, hz⟩ : ∃ z, y j = z := ⟨_, rfl⟩
   rw [ha] at cA hf1 hst
   rw [hz] at cS hy1 hst
   have hkz0 : 0 ≤ k * z := Int.mul_nonneg hk.1 hy1.1
   have hkz1 : k * z ≤ 5 * 4 := Int.mul_le_mul hk.2 hy1.2 hy1.1 (by omega)
   obtain ⟨K, hK⟩ : ∃ K, k * z = K := ⟨_, rfl⟩
   rw [hK] at hkz0 hkz1 hst
   have hKw : wrap64 (k * z) = K := by rw [hK]; exact IntWalk.wrap64_in _ ⟨by omega, by omega⟩
   have hr0 := Int.emod_nonneg (a + K) (show p ≠ 0 by omega)
   have hr1 := Int.emod_lt_of_pos (a + K) (show 0 < p by omega)
   have ho2 := ho.put (j := off + j) (x := (a + K) % p) (by simp only [I64]; omega)
   rw [hst] at ho2
   have HO2 := Lib.hid ho2
   have HG2 := Lib.hid (grown_then hgr ho2.2)
   have htm : (wrap64 (a + K)).tmod p = (a + K) % p := by
    rw [IntWalk.wrap64_in _ ⟨by omega, by omega⟩]
    exact Int.tmod_eq_emod_of_nonneg (by omega)
   have htm2 : (a + K).tmod p = (a + K) % p := Int.tmod_eq_emod_of_nonneg (by omega)
   clear hst ho2 ho hgr hr0 hr1 ha hz hK hkz0 hkz1
   go_wp2
   go_roundw
   case rel => exact ⟨j + 1, by omega, by go_num, HO2.out.1, HG2.out⟩
   case measure => simp [intOf]; omega
  ·go_wp2
   go_ret
   obtain rfl : j = n := by omega
   exact ⟨rfl, ho, hgr⟩
end Go.Proofs.YtcmlflppndfdcaaGreat
