/- FnPencils: the law holds for every argument. Part 7 of 18 of the proof: Cln, Copy, Copy2, Zero, Flat, Ident, SSO, Zero2, Zero3, Zero4, ZigI, PenOf. No condition. -/
import Derived.Test.YthhjoamgcfiecaaGreatBPencils6
import Derived.Shelf.Slices.Clone
import Derived.ArgAppend
set_option linter.unusedVariables false
set_option linter.unusedSimpArgs false
namespace Go.Proofs
open Go.Shelf
def Tryz.laysClone_ren : Go.Shelf.Ren := ⟨fun | 15 => 68 | n => n, fun | 22 => 26 | 3 => 3 | 4 => 4 | n => n, fun | n => n⟩
theorem Tryz.laysClone : Go.Proofs.Lays2.n15 Tryz.prog Tryz.laysClone_ren := {
 mixed := by kernel_rfl
 f15 := Tryz.func68.trans (congrArg some (by kernel_rfl))
 t3 := Tryz.underlying3
 a3 := Tryz.isAgg3
 z3 := Tryz.sizeOf3
 v3 := Tryz.zeroValue3
 t4 := Tryz.underlying4
 a4 := Tryz.isAgg4
 z4 := Tryz.sizeOf4
 v4 := Tryz.zeroValue4
 t22 := Tryz.underlying26
 a22 := Tryz.isAgg26
 z22 := Tryz.sizeOf26
 v22 := Tryz.zeroValue26
 i3 := by kernel_rfl }
end Go.Proofs
namespace Go.Proofs.YthhjoamgcfiecaaGreat
open Go.RowKit
theorem clone_own (u : Value) (xs : List Int) (w : World) (hu : SlI w w.heap.size u xs) :
  Calls Tryz.prog 68 #[u] w fun e w' => ∃ v, e = .returned v ∧ IntsO w' w.heap.size w'.heap.size v xs ∧ Below w.heap.size w w' := by
 have hr := SlI.i64 hu
 have hrd := hu
 obtain ⟨A, c, rfl, _, _, hn, hx⟩ := hu
 rcases A with _ | a
 ·have h0 : xs = [] := by
   apply List.eq_nil_of_length_eq_zero
   rcases Nat.eq_zero_or_pos xs.length with h | h
   ·exact h
   ·obtain ⟨b, o, e, _⟩ := hx h
    cases e
  subst h0
  exact (Any.slices_Clone_int_nil Tryz.laysClone 0 c w).mono fun e w' ⟨h1, h2⟩ => ⟨_, h1, ⟨OwnI.nil _ _, by simp [Value.ownBlock]⟩, by rw [h2]; exact Below.refl _ _⟩
 rcases Nat.eq_zero_or_pos xs.length with h0 | hp
 ·have h0 : xs = [] := List.eq_nil_of_length_eq_zero h0
  subst h0
  exact (Any.slices_Clone_int_zero Tryz.laysClone a c w).mono fun e w' ⟨v, h1, h2, _, hb⟩ => ⟨v, h1, IntsO.of_own ⟨h2, by simp, by simp⟩, hb⟩
 ·obtain ⟨b, o, e, hb, hc⟩ := hx hp
  injection e with e
  subst e
  refine (Any.slices_Clone_int Tryz.laysClone b o xs.length c xs w (Nat.le_refl _) (by omega) (fun j hj => ?_)).mono ?_
  ·have h := (hc j (xs.getD j 0) (by rw [List.getD_eq_getElem?_getD, List.getElem?_eq_getElem hj]; rfl)).1
   simpa using h
  ·rintro e w' ⟨v', rfl, ho, hnn, hb⟩
   rw [List.take_of_length_le (Nat.le_refl _)] at ho
   exact ⟨v', rfl, IntsO.of_own ⟨ho, hn, hr⟩, hb⟩
end Go.Proofs.YthhjoamgcfiecaaGreat
namespace Go.Proofs.YthhjoamgcfiecaaGreat
open Go.RowKit
theorem wpList_append_fresh {w : World} {ops : Array Oper} {rest : List Oper} {o : Oper} {a : Act} {Q : Exit → Act → World → Prop} (hgd : o.guard = none) (s x : Operand)
  (ho : o.op = .call { callee := .builtin .append, args := #[s, x], argTypes := #[26, 26] })
  (g lo B : Nat) (cs : Array Value) (hs : a.eval s = .slice (some ⟨g, 0, none⟩) 0 0) (hg : Blk w g 3 cs) (hcs : cs.size = 0) (hlo : lo ≤ g) (A : Option Addr) (c : Nat) (news : List Int) (hx : a.eval x = .slice A news.length c) (hr : SlI w B (.slice A news.length c) news)
  (h : ∀ v' w', OwnI w' lo v' news → Below w.heap.size w w' → wpList Tryz.prog ops Q rest (a.put o.dst v') w') : wpList Tryz.prog ops Q (o :: rest) a w := by
 obtain ⟨i0, hi, hz0, hz1, hz2⟩ := info_parts infoInt
 have hn := hr
 obtain ⟨_, _, _, _, _, hn, hcell⟩ := hn
 have hI := SlI.i64 hr
 refine wpList_plain hgd fun K hK => ?_
 by_cases hp : 0 < news.length
 ·obtain ⟨b, of, eA, hb, hc⟩ := hcell hp
  have hA := NewsAt.of_sl hr
  obtain ⟨hl, hnews⟩ := hA
  obtain ⟨b', of', eA', hc'⟩ := hnews.resolve_left (by omega)
  subst eA'
  have hadd : ∀ j, (⟨b', of', none⟩ : Addr).add j = ⟨b', of' + j, none⟩ := by intro j; unfold Addr.add; split <;> simp_all
  obtain ⟨v', w', hrun, hown, hgr⟩ := run_append_arg_grows (P := Tryz.prog) w 26 o.type 3 i0 _ 1 8 Tryz.underlying26 hi hz0 hz1 hz2 rfl (by decide) ⟨g, 0, none⟩ 0 0 [] (by simp) (by intro j u hj; simp at hj) ⟨b', of', none⟩ news.length c (news.map (Value.int .i64)) hl (fun j u hj => by rw [hadd]; exact hc' j u hj) (by omega) (by simp only [maxLen]; omega) (by omega)
  unfold Oper.wp execOp
  simp only [ho, resolve, invoke, builtin, Sem.run_bind, Sem.run_pure, Result.andThen_ok, List.map_toArray, List.map_cons, List.map_nil, hs, hx, hrun]
  refine hK _ _ (h v' w' ?_ ⟨hgr.os, hgr.tape, hgr.output, hgr.size, fun k hk => hgr.block k hk (by simp)⟩)
  have hgl := hg.lt
  exact OwnI.lower (base := w.heap.size) ⟨by simpa using hown, hn, hI⟩ (by omega)
 ·have h0 : news = [] := List.eq_nil_of_length_eq_zero (by omega)
  subst h0
  have hrun : (Builtin.append_ #[26, 26] o.type #[.slice (some ⟨g, 0, none⟩) 0 0, .slice A 0 c]).run Tryz.prog w = .ok (.slice (some ⟨g, 0, none⟩) 0 0) w := by
   cases A <;> simp [Builtin.append_, run_underlying (P := Tryz.prog) Tryz.underlying26, sizeOf, typeInfo, hi, Builtin.lenOf, Builtin.firstCells, storeCells, loadCells, loadCellsFrom]
  simp only [List.length_nil] at hx
  unfold Oper.wp execOp
  simp only [ho, resolve, invoke, builtin, Sem.run_bind, Sem.run_pure, Result.andThen_ok, List.map_toArray, List.map_cons, List.map_nil, hs, hx, hrun]
  refine hK _ _ (h _ w ?_ (Below.refl _ _))
  have := hg.own (base := lo) (n := 0) (cap := 0) (size := 1) hlo (Nat.le_refl _) (by simp only [maxLen]; omega) (by omega)
  exact ⟨by simpa using this, by simp, by simp⟩
def Fresh (w : World) (lo : Nat) (u : Value) : Prop := ∃ g, u = .slice (some ⟨g, 0, none⟩) 0 0 ∧ lo ≤ g ∧ Blk w g 3 #[]
theorem Fresh.below {w w' : World} {lo : Nat} {u : Value} (h : Fresh w lo u) (hb : Below w.heap.size w w') : Fresh w' lo u := by
 obtain ⟨g, e, h1, h2⟩ := h
 exact ⟨g, e, h1, h2.call hb⟩
theorem Fresh.new (w : World) {lo : Nat} (h : lo ≤ w.heap.size) : Fresh (w.alloc (.cells #[] 3)) lo (.slice (some ⟨w.heap.size, 0, none⟩) 0 0) := ⟨_, rfl, h, Blk.new _ _ _⟩
set_option maxHeartbeats 3200000 in
theorem l3Copy_any (u : Value) (m : Mx) (w0 : World) (hu : MxR w0 w0.heap.size u m) :
  Calls Tryz.prog 64 #[u] w0 fun e w' => ∃ v, e = .returned v ∧ MxO w' w0.heap.size w'.heap.size v m ∧ Below w0.heap.size w0 w' := by
 obtain ⟨A, c, rfl, hf, hr, hc, lf⟩ := hu.open_
 clear hu
 obtain ⟨W, hW⟩ : ∃ W, W = (w0.alloc (.cells #[.int .i64 m.r, .int .i64 m.c, .slice A m.a.length c] 44)).alloc (.cells #[.int .i64 0, .int .i64 0, .slice none 0 0] 44) := ⟨_, rfl⟩
 have g0 : Below w0.heap.size w0 W := by rw [hW]; exact ((Below.refl _ _).alloc (Nat.le_refl _) _).alloc (by simp) _
 have k1 : Blk W w0.heap.size 44 #[.int .i64 m.r, .int .i64 m.c, .slice A m.a.length c] := by rw [hW]; exact (Blk.new _ _ _).alloc _
 have k2 : Blk W (w0.heap.size + 1) 44 #[.int .i64 0, .int .i64 0, .slice none 0 0] := by
  rw [hW]
  have := Blk.new (w0.alloc (.cells #[.int .i64 m.r, .int .i64 m.c, .slice A m.a.length c] 44)) 44 #[.int .i64 0, .int .i64 0, .slice none 0 0]
  simpa only [World.size_alloc] using this
 have sz : W.heap.size = w0.heap.size + 1 + 1 := by rw [hW]; simp
 have SZ := Lib.hid sz
 clear sz
 replace hf := SlI.next g0 hf
 go_enter Tryz.func64, Tryz.ntmps64
 go_wp2
 rw [← hW]; clear hW
 refine wp_region_net (by kernel_rfl) [.eq (.pointer (some ⟨w0.heap.size, 0, none⟩)), .eq (.int .i64 m.r), .eq (.pointer (some ⟨w0.heap.size, 1, none⟩)), .eq (.int .i64 m.c), rel 4 (fun u lo hi w => Fresh w W.heap.size u), .eq (.pointer (some ⟨w0.heap.size, 2, none⟩)), .eq (.slice A m.a.length c), rel 7 (fun u lo hi w => OwnI w W.heap.size u m.a), rel 8 (fun u lo hi w => ∃ s, u = .agg #[.int .i64 m.r, .int .i64 m.c, s] ∧ OwnI w W.heap.size s m.a)] [[], [0], [], [2], [], [], [5], [4, 5, 6], [0, 1, 2, 3, 4, 5, 6, 7], [0, 1, 2, 3, 4, 5, 6, 7, 8]] 9 (by kernel_rfl) ⟨trivial, trivial, trivial, trivial, rel_stable (fun u lo hi w w' h hb => h.below hb), trivial, trivial, rel_stable (fun u lo hi w w' h hb => h.below hb), rel_stable (fun u lo hi w w' ⟨s, e, h⟩ hb => ⟨s, e, h.below hb⟩), trivial⟩ ⟨?_, ?_, ?_, ?_, ?_, ?_, ?_, ?_, ?_, trivial⟩ ?_
 ·intro x w hb hk Q' hQ
  clear hk
  simp only [netE] at hQ ⊢
  go_wp2
  exact hQ _ _ (Below.refl _ _) rfl
 ·intro x w hb hk Q' hQ
  have h0 : x.v 0 = _ := (hk 0 (by decide)).1
  clear hk
  simp only [netE] at hQ ⊢
  simp only [h0] at hQ ⊢
  clear h0
  have c0 := (k1.call hb).cell' (i := 0) rfl
  go_wp2
  exact hQ _ _ (Below.refl _ _) rfl
 ·intro x w hb hk Q' hQ
  clear hk
  simp only [netE] at hQ ⊢
  go_wp2
  exact hQ _ _ (Below.refl _ _) rfl
 ·intro x w hb hk Q' hQ
  have h2 : x.v 2 = _ := (hk 2 (by decide)).1
  clear hk
  simp only [netE] at hQ ⊢
  simp only [h2] at hQ ⊢
  clear h2
  have c1 := (k1.call hb).cell' (i := 1) rfl
  go_wp2
  exact hQ _ _ (Below.refl _ _) rfl
 ·intro x w hb hk Q' hQ
  clear hk
  simp only [netE] at hQ ⊢
  go_wp2
  exact hQ _ _ (below_alloc _ _) (Fresh.new _ hb.size)
 ·intro x w hb hk Q' hQ
  clear hk
  simp only [netE] at hQ ⊢
  go_wp2
  exact hQ _ _ (Below.refl _ _) rfl
 ·intro x w hb hk Q' hQ
  have h5 : x.v 5 = _ := (hk 5 (by decide)).1
  clear hk
  simp only [netE] at hQ ⊢
  simp only [h5] at hQ ⊢
  clear h5
  have c2 := (k1.call hb).cell' (i := 2) rfl
  go_wp2
  exact hQ _ _ (Below.refl _ _) rfl
 ·intro x w hb hk Q' hQ
  have h4 : Fresh w W.heap.size (x.v 4) := (hk 4 (by decide)).1
  have h5 : x.v 5 = _ := (hk 5 (by decide)).1
  have h6 : x.v 6 = _ := (hk 6 (by decide)).1
  have s4 := (hk 4 (by decide)).2
  clear hk
  simp only [netE] at hQ ⊢
  simp only [h5, h6] at hQ ⊢
  clear h5 h6
  obtain ⟨g, e4, hg, hB⟩ := h4
  rw [e4] at hQ ⊢
  refine wpList_append_fresh (by rfl) (.tmp 7) (.tmp 9) (by rfl) g W.heap.size w.heap.size #[] (by rfl) hB rfl hg A c m.a (by rfl) (SlI.next hb hf) ?_
  intro v' w' ho hb'
  exact hQ _ _ hb' ho
 ·intro x w hb hk Q' hQ
  have h0 : x.v 0 = _ := (hk 0 (by decide)).1
  have h1 : x.v 1 = _ := (hk 1 (by decide)).1
  have h2 : x.v 2 = _ := (hk 2 (by decide)).1
  have h3 : x.v 3 = _ := (hk 3 (by decide)).1
  have h4 : Fresh w W.heap.size (x.v 4) := (hk 4 (by decide)).1
  have h5 : x.v 5 = _ := (hk 5 (by decide)).1
  have h6 : x.v 6 = _ := (hk 6 (by decide)).1
  have h7 : OwnI w W.heap.size (x.v 7) m.a := (hk 7 (by decide)).1
  have s4 := (hk 4 (by decide)).2
  have s7 := (hk 7 (by decide)).2
  clear hk
  simp only [netE] at hQ ⊢
  simp only [h0, h1, h2, h3, h5, h6] at hQ ⊢
  clear h0 h1 h2 h3 h5 h6
  obtain ⟨A', c', e7, _, _⟩ := h7.form
  rw [e7] at h7
  rw [e7] at hQ ⊢
  go_wp2
  exact hQ (.agg #[.int .i64 m.r, .int .i64 m.c, .slice A' m.a.length c']) w (Below.refl _ _) ⟨_, rfl, h7⟩
 ·intro x w hb hk hiv hdj
  have h0 : x.v 0 = .pointer (some ⟨w0.heap.size, 0, none⟩) := hk 0 (by decide)
  have h1 : x.v 1 = .int .i64 m.r := hk 1 (by decide)
  have h2 : x.v 2 = .pointer (some ⟨w0.heap.size, 1, none⟩) := hk 2 (by decide)
  have h3 : x.v 3 = .int .i64 m.c := hk 3 (by decide)
  have h4 : Fresh w W.heap.size (x.v 4) := hk 4 (by decide)
  have h5 : x.v 5 = .pointer (some ⟨w0.heap.size, 2, none⟩) := hk 5 (by decide)
  have h6 : x.v 6 = .slice A m.a.length c := hk 6 (by decide)
  have h7 : OwnI w W.heap.size (x.v 7) m.a := hk 7 (by decide)
  have h8 : ∃ s, (x.v 8) = .agg #[.int .i64 m.r, .int .i64 m.c, s] ∧ OwnI w W.heap.size s m.a := hk 8 (by decide)
  clear hk
  simp only [netE]
  simp only [List.drop_succ_cons, List.drop_zero, h0, h1, h2, h3, h5, h6]
  clear h0 h1 h2 h3 h5 h6
  obtain ⟨s, e8, ho⟩ := h8
  obtain ⟨A', c', es, _, _⟩ := ho.form
  subst es
  rw [e8]
  have k2' := k2.call hb
  have f2 := k2'.frozen
  have r0 := k2'.cell' (i := 0) rfl
  have r1 := k2'.cell' (i := 1) rfl
  have r2 := k2'.cell' (i := 2) rfl
  have hbs := hb.size
  have sz := SZ.out
  have gf := g0.trans (hb.mono g0.size)
  clear h4 h7 k1 k2 sz
  go_wp2
  have sz := SZ.out
  refine bodyPost_ret (v := .agg #[.int .i64 m.r, .int .i64 m.c, .slice A' m.a.length c']) (by simp [results, go_sem, r0, r1, r2]) rfl ⟨_, rfl, ⟨_, rfl, ?_, hr, hc⟩, ((gf.setCell (by simp) _).setCell (by simp) _).setCell (by simp) _⟩
  exact ((((IntsO.of_own ho).set (by simp; omega) _).set (by simp; omega) _).set (by simp; omega) _).wider (by omega) (by simp)
theorem IntsO.form {w : World} {lo hi : Nat} {v : Value} {l : List Int} (h : IntsO w lo hi v l) : ∃ A c, v = .slice A l.length c := by
 obtain ⟨A, c, e, _⟩ := h.1.form
 exact ⟨A, c, e⟩
theorem QuivO.wider {w : World} {lo hi lo' hi' : Nat} {v : Value} {q : Qv} (h : QuivO w lo hi v q) (h1 : lo' ≤ lo) (h2 : hi ≤ hi') : QuivO w lo' hi' v q := by
 obtain ⟨a, b, e, hF, hr⟩ := h
 exact ⟨a, b, e, hF.mono h1 h2, hr⟩
set_option maxHeartbeats 800000 in
theorem mxClone_any (u : Value) (m : Mx) (w0 : World) (hu : MxR w0 w0.heap.size u m) :
  Calls Tryz.prog 83 #[u] w0 fun e w' => ∃ v, e = .returned v ∧ MxO w' w0.heap.size w'.heap.size v m ∧ Below w0.heap.size w0 w' := by
 obtain ⟨A, c, rfl, hf, hr, hc, lf⟩ := hu.open_
 clear hu
 obtain ⟨W, hW⟩ : ∃ W, W = (w0.alloc (.cells #[.int .i64 m.r, .int .i64 m.c, .slice A m.a.length c] 44)).alloc (.cells #[.int .i64 0, .int .i64 0, .slice none 0 0] 44) := ⟨_, rfl⟩
 have g0 : Below w0.heap.size w0 W := by rw [hW]; exact ((Below.refl _ _).alloc (Nat.le_refl _) _).alloc (by simp) _
 have k1 : Blk W w0.heap.size 44 #[.int .i64 m.r, .int .i64 m.c, .slice A m.a.length c] := by rw [hW]; exact (Blk.new _ _ _).alloc _
 have k2 : Blk W (w0.heap.size + 1) 44 #[.int .i64 0, .int .i64 0, .slice none 0 0] := by
  rw [hW]
  have := Blk.new (w0.alloc (.cells #[.int .i64 m.r, .int .i64 m.c, .slice A m.a.length c] 44)) 44 #[.int .i64 0, .int .i64 0, .slice none 0 0]
  simpa only [World.size_alloc] using this
 have sz : W.heap.size = w0.heap.size + 1 + 1 := by rw [hW]; simp
 have SZ := Lib.hid sz
 clear sz
 replace hf := SlI.next g0 hf
 go_enter Tryz.func83, Tryz.ntmps83
 go_wp2_with fail
 rw [← hW]; clear hW
 refine (clone_own _ m.a _ hf).mono ?_; rintro e w1 ⟨v, rfl, ho, hb1⟩
 obtain ⟨A', c', rfl⟩ := ho.form
 have k1' := k1.call hb1
 have k2' := k2.call hb1
 have f1 := k1'.frozen
 have f2 := k2'.frozen
 have q0 := k1'.cell' (i := 0) rfl
 have q1 := k1'.cell' (i := 1) rfl
 have q2 := k1'.cell' (i := 2) rfl
 have r0 := k2'.cell' (i := 0) rfl
 have r1 := k2'.cell' (i := 1) rfl
 have r2 := k2'.cell' (i := 2) rfl
 have gf := g0.trans (hb1.mono g0.size)
 have hbs := hb1.size
 have HBS := Lib.hid hbs
 clear k1 k2 hbs hb1 hf
 go_wp2
 have sz := SZ.out
 have hbs := HBS.out
 refine bodyPost_ret (v := .agg #[.int .i64 m.r, .int .i64 m.c, .slice A' m.a.length c']) (by simp [results, go_sem, r0, r1, r2]) rfl ⟨_, rfl, ⟨_, rfl, ?_, hr, hc⟩, (((gf.setCell (by simp) _).setCell (by simp) _).setCell (by simp) _).setCell (by simp) _⟩
 exact ((((ho.set (by simp; omega) _).set (by simp; omega) _).set (by simp; omega) _).set (by simp; omega) _).wider (by omega) (by simp)
def QuivI (w : World) (lo hi : Nat) (val : Value) (q : Qv) : Prop := ∃ a b, val = .agg #[.int .i64 q.v, a, b] ∧ IntsO w lo hi a q.f ∧ IntsO w lo hi b q.t ∧ I64 q.v
theorem QuivI.below {w w' : World} {lo hi : Nat} {v : Value} {q : Qv} (h : QuivI w lo hi v q) (hb : Below w.heap.size w w') : QuivI w' lo hi v q := by
 obtain ⟨a, b, e, h1, h2, h3⟩ := h
 exact ⟨a, b, e, h1.below hb, h2.below hb, h3⟩
theorem QuivI.rd {w : World} {lo hi : Nat} {v : Value} {q : Qv} (h : QuivI w lo hi v q) : QvR w w.heap.size v q := by
 obtain ⟨a, b, e, h1, h2, h3⟩ := h
 exact ⟨a, b, e, h1.rd, h2.rd, h3⟩
theorem QuivI.set {w : World} {lo hi : Nat} {v : Value} {q : Qv} (h : QuivI w lo hi v q) {p : Addr} (hp : p.block < lo) (u : Value) : QuivI (w.setCell p u) lo hi v q := by
 obtain ⟨a, b, e, h1, h2, h3⟩ := h
 exact ⟨a, b, e, h1.set hp u, h2.set hp u, h3⟩
theorem QuivI.wider {w : World} {lo hi lo' hi' : Nat} {v : Value} {q : Qv} (h : QuivI w lo hi v q) (k1 : lo' ≤ lo) (k2 : hi ≤ hi') : QuivI w lo' hi' v q := by
 obtain ⟨a, b, e, h1, h2, h3⟩ := h
 exact ⟨a, b, e, h1.wider k1 k2, h2.wider k1 k2, h3⟩
set_option maxHeartbeats 3200000 in
theorem l6Copy_any (u : Value) (q : Qv) (w0 : World) (hu : QvR w0 w0.heap.size u q) :
  Calls Tryz.prog 111 #[u] w0 fun e w' => ∃ v, e = .returned v ∧ QuivI w' w0.heap.size w'.heap.size v q ∧ Below w0.heap.size w0 w' := by
 obtain ⟨A, c, C, d, rfl, hf, ht, hr, lf, lt⟩ := hu.open_
 clear hu
 obtain ⟨W, hW⟩ : ∃ W, W = (w0.alloc (.cells #[.int .i64 q.v, .slice A q.f.length c, .slice C q.t.length d] 28)).alloc (.cells #[.int .i64 0, .slice none 0 0, .slice none 0 0] 28) := ⟨_, rfl⟩
 have g0 : Below w0.heap.size w0 W := by rw [hW]; exact ((Below.refl _ _).alloc (Nat.le_refl _) _).alloc (by simp) _
 have k1 : Blk W w0.heap.size 28 #[.int .i64 q.v, .slice A q.f.length c, .slice C q.t.length d] := by rw [hW]; exact (Blk.new _ _ _).alloc _
 have k2 : Blk W (w0.heap.size + 1) 28 #[.int .i64 0, .slice none 0 0, .slice none 0 0] := by
  rw [hW]
  have := Blk.new (w0.alloc (.cells #[.int .i64 q.v, .slice A q.f.length c, .slice C q.t.length d] 28)) 28 #[.int .i64 0, .slice none 0 0, .slice none 0 0]
  simpa only [World.size_alloc] using this
 have sz : W.heap.size = w0.heap.size + 1 + 1 := by rw [hW]; simp
 have SZ := Lib.hid sz
 clear sz
 replace hf := SlI.next g0 hf
 replace ht := SlI.next g0 ht
 go_enter Tryz.func111, Tryz.ntmps111
 go_wp2
 rw [← hW]; clear hW
 refine wp_region_net (by kernel_rfl) [.eq (.pointer (some ⟨w0.heap.size, 0, none⟩)), .eq (.int .i64 q.v), rel 2 (fun u lo hi w => Fresh w W.heap.size u), .eq (.pointer (some ⟨w0.heap.size, 1, none⟩)), .eq (.slice A q.f.length c), rel 5 (fun u lo hi w => OwnI w W.heap.size u q.f), rel 6 (fun u lo hi w => Fresh w W.heap.size u), .eq (.pointer (some ⟨w0.heap.size, 2, none⟩)), .eq (.slice C q.t.length d), rel 9 (fun u lo hi w => OwnI w W.heap.size u q.t), .rel (fun x w => x.v 10 = .agg #[.int .i64 q.v, x.v 5, x.v 9])] [[], [0], [], [], [3], [2, 3, 4], [], [], [7], [2, 3, 4, 5, 6, 7, 8], [0, 1, 2, 3, 4, 5, 6, 7, 8, 9], [0, 1, 2, 3, 4, 5, 6, 7, 8, 9, 10]] 11 (by kernel_rfl) ⟨trivial, trivial, rel_stable (fun u lo hi w w' h hb => h.below hb), trivial, trivial, rel_stable (fun u lo hi w w' h hb => h.below hb), rel_stable (fun u lo hi w w' h hb => h.below hb), trivial, trivial, rel_stable (fun u lo hi w w' h hb => h.below hb), fun x w w' h hb => h, trivial⟩ ⟨?_, ?_, ?_, ?_, ?_, ?_, ?_, ?_, ?_, ?_, ?_, trivial⟩ ?_
 ·intro x w hb hk Q' hQ
  clear hk
  simp only [netE] at hQ ⊢
  go_wp2
  exact hQ _ _ (Below.refl _ _) rfl
 ·intro x w hb hk Q' hQ
  have h0 : x.v 0 = _ := (hk 0 (by decide)).1
  clear hk
  simp only [netE] at hQ ⊢
  simp only [h0] at hQ ⊢
  clear h0
  have c0 := (k1.call hb).cell' (i := 0) rfl
  go_wp2
  exact hQ _ _ (Below.refl _ _) rfl
 ·intro x w hb hk Q' hQ
  clear hk
  simp only [netE] at hQ ⊢
  go_wp2
  exact hQ _ _ (below_alloc _ _) (Fresh.new _ hb.size)
 ·intro x w hb hk Q' hQ
  clear hk
  simp only [netE] at hQ ⊢
  go_wp2
  exact hQ _ _ (Below.refl _ _) rfl
 ·intro x w hb hk Q' hQ
  have h3 : x.v 3 = _ := (hk 3 (by decide)).1
  clear hk
  simp only [netE] at hQ ⊢
  simp only [h3] at hQ ⊢
  clear h3
  have c1 := (k1.call hb).cell' (i := 1) rfl
  go_wp2
  exact hQ _ _ (Below.refl _ _) rfl
 ·intro x w hb hk Q' hQ
  have h2 : Fresh w W.heap.size (x.v 2) := (hk 2 (by decide)).1
  have h3 : x.v 3 = _ := (hk 3 (by decide)).1
  have h4 : x.v 4 = _ := (hk 4 (by decide)).1
  have s2 := (hk 2 (by decide)).2
  clear hk
  simp only [netE] at hQ ⊢
  simp only [h3, h4] at hQ ⊢
  clear h3 h4
  obtain ⟨g, e2, hg, hB⟩ := h2
  rw [e2] at hQ ⊢
  refine wpList_append_fresh (by rfl) (.tmp 5) (.tmp 7) (by rfl) g W.heap.size w.heap.size #[] (by rfl) hB rfl hg A c q.f (by rfl) (SlI.next hb hf) ?_
  intro v' w' ho hb'
  exact hQ _ _ hb' ho
 ·intro x w hb hk Q' hQ
  clear hk
  simp only [netE] at hQ ⊢
  go_wp2
  exact hQ _ _ (below_alloc _ _) (Fresh.new _ hb.size)
 ·intro x w hb hk Q' hQ
  clear hk
  simp only [netE] at hQ ⊢
  go_wp2
  exact hQ _ _ (Below.refl _ _) rfl
 ·intro x w hb hk Q' hQ
  have h7 : x.v 7 = _ := (hk 7 (by decide)).1
  clear hk
  simp only [netE] at hQ ⊢
  simp only [h7] at hQ ⊢
  clear h7
  have c2 := (k1.call hb).cell' (i := 2) rfl
  go_wp2
  exact hQ _ _ (Below.refl _ _) rfl
 ·intro x w hb hk Q' hQ
  have h2 : Fresh w W.heap.size (x.v 2) := (hk 2 (by decide)).1
  have h3 : x.v 3 = _ := (hk 3 (by decide)).1
  have h4 : x.v 4 = _ := (hk 4 (by decide)).1
  have h5 : OwnI w W.heap.size (x.v 5) q.f := (hk 5 (by decide)).1
  have h6 : Fresh w W.heap.size (x.v 6) := (hk 6 (by decide)).1
  have h7 : x.v 7 = _ := (hk 7 (by decide)).1
  have h8 : x.v 8 = _ := (hk 8 (by decide)).1
  have s2 := (hk 2 (by decide)).2
  have s5 := (hk 5 (by decide)).2
  have s6 := (hk 6 (by decide)).2
  clear hk
  simp only [netE] at hQ ⊢
  simp only [h3, h4, h7, h8] at hQ ⊢
  clear h3 h4 h7 h8
  obtain ⟨g, e6, hg, hB⟩ := h6
  rw [e6] at hQ ⊢
  refine wpList_append_fresh (by rfl) (.tmp 9) (.tmp 11) (by rfl) g W.heap.size w.heap.size #[] (by rfl) hB rfl hg C d q.t (by rfl) (SlI.next hb ht) ?_
  intro v' w' ho hb'
  exact hQ _ _ hb' ho
 ·intro x w hb hk Q' hQ
  have h0 : x.v 0 = _ := (hk 0 (by decide)).1
  have h1 : x.v 1 = _ := (hk 1 (by decide)).1
  have h2 : Fresh w W.heap.size (x.v 2) := (hk 2 (by decide)).1
  have h3 : x.v 3 = _ := (hk 3 (by decide)).1
  have h4 : x.v 4 = _ := (hk 4 (by decide)).1
  have h5 : OwnI w W.heap.size (x.v 5) q.f := (hk 5 (by decide)).1
  have h6 : Fresh w W.heap.size (x.v 6) := (hk 6 (by decide)).1
  have h7 : x.v 7 = _ := (hk 7 (by decide)).1
  have h8 : x.v 8 = _ := (hk 8 (by decide)).1
  have h9 : OwnI w W.heap.size (x.v 9) q.t := (hk 9 (by decide)).1
  have s2 := (hk 2 (by decide)).2
  have s5 := (hk 5 (by decide)).2
  have s6 := (hk 6 (by decide)).2
  have s9 := (hk 9 (by decide)).2
  clear hk
  simp only [netE] at hQ ⊢
  simp only [h0, h1, h3, h4, h7, h8] at hQ ⊢
  clear h0 h1 h3 h4 h7 h8
  obtain ⟨s4A, s4c, e4, _, _⟩ := h5.form
  obtain ⟨s7A, s7c, e7, _, _⟩ := h9.form
  have hQ' := hQ (.agg #[.int .i64 q.v, x.v 5, x.v 9]) w (Below.refl _ _) rfl
  rw [e4, e7] at hQ' ⊢
  go_wp2
  exact hQ'
 ·intro x w hb hk hiv hdj
  have h0 : x.v 0 = .pointer (some ⟨w0.heap.size, 0, none⟩) := hk 0 (by decide)
  have h1 : x.v 1 = .int .i64 q.v := hk 1 (by decide)
  have h2 : Fresh w W.heap.size (x.v 2) := hk 2 (by decide)
  have h3 : x.v 3 = .pointer (some ⟨w0.heap.size, 1, none⟩) := hk 3 (by decide)
  have h4 : x.v 4 = .slice A q.f.length c := hk 4 (by decide)
  have h5 : OwnI w W.heap.size (x.v 5) q.f := hk 5 (by decide)
  have h6 : Fresh w W.heap.size (x.v 6) := hk 6 (by decide)
  have h7 : x.v 7 = .pointer (some ⟨w0.heap.size, 2, none⟩) := hk 7 (by decide)
  have h8 : x.v 8 = .slice C q.t.length d := hk 8 (by decide)
  have h9 : OwnI w W.heap.size (x.v 9) q.t := hk 9 (by decide)
  have h10 : x.v 10 = .agg #[.int .i64 q.v, x.v 5, x.v 9] := hk 10 (by decide)
  clear hk
  simp only [netE]
  simp only [List.drop_succ_cons, List.drop_zero, h0, h1, h3, h4, h7, h8]
  clear h0 h1 h3 h4 h7 h8
  have hQ : QuivI w W.heap.size w.heap.size (.agg #[.int .i64 q.v, x.v 5, x.v 9]) q := ⟨_, _, rfl, IntsO.of_own h5, IntsO.of_own h9, hr⟩
  obtain ⟨s4A, s4c, e4, _, _⟩ := h5.form
  obtain ⟨s7A, s7c, e7, _, _⟩ := h9.form
  rw [e4, e7] at hQ h10
  rw [h10]
  have k2' := k2.call hb
  have f2 := k2'.frozen
  have r0 := k2'.cell' (i := 0) rfl
  have r1 := k2'.cell' (i := 1) rfl
  have r2 := k2'.cell' (i := 2) rfl
  have gf := g0.trans (hb.mono g0.size)
  have HBS := Lib.hid hb.size
  have HQ := Lib.hid hQ
  clear h2 h5 h6 h9 h10 e4 e7 k1 k2 hb hf ht hQ hdj hiv
  go_wp2
  have sz := SZ.out
  have hbs := HBS.out
  refine bodyPost_ret (v := .agg #[.int .i64 q.v, .slice s4A q.f.length s4c, .slice s7A q.t.length s7c]) (by simp [results, go_sem, r0, r1, r2]) rfl ⟨_, rfl, QuivI.wider (lo := W.heap.size) (hi := w.heap.size) ?_ (by omega) (by simp), ((gf.setCell (by simp) _).setCell (by simp) _).setCell (by simp) _⟩
  exact ((HQ.out.set (by simp; omega) _).set (by simp; omega) _).set (by simp; omega) _
def zmx (r c : Int) : Mx := ⟨r, c, List.replicate (r * c).toNat 0⟩
set_option maxHeartbeats 800000 in
theorem zero_any (r c : Int) (w : World) (hr : 0 ≤ r) (hc : 0 ≤ c) (hr2 : r ≤ 1000) (hc2 : c ≤ 1000) :
  Calls Tryz.prog 32 #[.int .i64 r, .int .i64 c] w fun e w' => ∃ v, e = .returned v ∧ MxO w' w.heap.size w'.heap.size v (zmx r c) ∧ Below w.heap.size w w' := by
 obtain ⟨n, rfl⟩ := Int.eq_ofNat_of_zero_le hr
 obtain ⟨m, rfl⟩ := Int.eq_ofNat_of_zero_le hc
 obtain ⟨N, hN⟩ : ∃ N, n * m = N := ⟨_, rfl⟩
 have hNb : N ≤ 1000000 := by
  have : n * m ≤ 1000 * 1000 := Nat.mul_le_mul (by omega) (by omega)
  omega
 have hmul : (n : Int) * m = (N : Int) := by rw [← hN]; simp
 have hw : wrap64 ((n : Int) * m) = (N : Int) := by rw [hmul]; exact IntWalk.wrap64_in _ ⟨by omega, by omega⟩
 have hZ : zmx n m = ⟨n, m, List.replicate N 0⟩ := by rw [zmx, hmul]; rfl
 rw [hZ]
 obtain ⟨i0, hi, hz0, hz1, hz2⟩ := info_parts infoInt
 have hmk := run_mk (P := Tryz.prog) Tryz.underlying26 hi hz0 (n := N) (by rw [hz2]; omega) (by omega)
 rw [hz1] at hmk
 have hN1 : (0 : Int) ≤ (n : Int) * m := by omega
 have hN2 : (n : Int) * m ≤ 1000000 := by omega
 clear hi hz0 hz1 hz2 hN hZ
 obtain ⟨W, hW⟩ : ∃ W, W = (w.alloc (.cells #[.int .i64 n, .int .i64 m, .slice (some ⟨w.heap.size + 1, 0, none⟩) N N] 44)).alloc (.cells (mkCells (.int .i64 0) N) 3) := ⟨_, rfl⟩
 have g0 : Below w.heap.size w W := by rw [hW]; exact ((Below.refl _ _).alloc (Nat.le_refl _) _).alloc (by simp) _
 have k1 : Blk W w.heap.size 44 #[.int .i64 n, .int .i64 m, .slice (some ⟨w.heap.size + 1, 0, none⟩) N N] := by rw [hW]; exact (Blk.new _ _ _).alloc _
 have ho : OwnI W (w.heap.size + 1) (.slice (some ⟨w.heap.size + 1, 0, none⟩) N N) (List.replicate N 0) := by
  rw [hW]
  have := OwnI.made0 (w := w.alloc (.cells #[.int .i64 n, .int .i64 m, .slice (some ⟨w.heap.size + 1, 0, none⟩) N N] 44)) (base := w.heap.size + 1) (N := N) (by simp) (by omega)
  simpa only [World.size_alloc] using this
 have r0 := k1.cell' (i := 0) rfl
 have r1 := k1.cell' (i := 1) rfl
 have r2 := k1.cell' (i := 2) rfl
 have HO := Lib.hid ho
 clear ho k1
 rw [Nat.mul_one] at hmk
 go_enter Tryz.func32, Tryz.ntmps32
 go_wp2
 rw [← hW]
 exact bodyPost_ret (v := .agg #[.int .i64 n, .int .i64 m, .slice (some ⟨w.heap.size + 1, 0, none⟩) N N]) (by simp [results, go_sem, r0, r1, r2]) rfl ⟨_, rfl, ⟨_, by simp, (IntsO.of_own HO.out).wider (by omega) (Nat.le_refl _), by simp only [I64]; omega, by simp only [I64]; omega⟩, g0⟩
set_option maxHeartbeats 800000 in
theorem l3Zero_any (r c : Int) (w : World) (hr : 0 ≤ r) (hc : 0 ≤ c) (hr2 : r ≤ 1000) (hc2 : c ≤ 1000) :
  Calls Tryz.prog 51 #[.int .i64 r, .int .i64 c] w fun e w' => ∃ v, e = .returned v ∧ MxO w' w.heap.size w'.heap.size v (zmx r c) ∧ Below w.heap.size w w' := by
 obtain ⟨n, rfl⟩ := Int.eq_ofNat_of_zero_le hr
 obtain ⟨m, rfl⟩ := Int.eq_ofNat_of_zero_le hc
 obtain ⟨N, hN⟩ : ∃ N, n * m = N := ⟨_, rfl⟩
 have hNb : N ≤ 1000000 := by
  have : n * m ≤ 1000 * 1000 := Nat.mul_le_mul (by omega) (by omega)
  omega
 have hmul : (n : Int) * m = (N : Int) := by rw [← hN]; simp
 have hw : wrap64 ((n : Int) * m) = (N : Int) := by rw [hmul]; exact IntWalk.wrap64_in _ ⟨by omega, by omega⟩
 have hZ : zmx n m = ⟨n, m, List.replicate N 0⟩ := by rw [zmx, hmul]; rfl
 rw [hZ]
 obtain ⟨i0, hi, hz0, hz1, hz2⟩ := info_parts infoInt
 have hmk := run_mk (P := Tryz.prog) Tryz.underlying26 hi hz0 (n := N) (by rw [hz2]; omega) (by omega)
 rw [hz1] at hmk
 have hN1 : (0 : Int) ≤ (n : Int) * m := by omega
 have hN2 : (n : Int) * m ≤ 1000000 := by omega
 clear hi hz0 hz1 hz2 hN hZ
 obtain ⟨W, hW⟩ : ∃ W, W = (w.alloc (.cells #[.int .i64 n, .int .i64 m, .slice (some ⟨w.heap.size + 1, 0, none⟩) N N] 44)).alloc (.cells (mkCells (.int .i64 0) N) 3) := ⟨_, rfl⟩
 have g0 : Below w.heap.size w W := by rw [hW]; exact ((Below.refl _ _).alloc (Nat.le_refl _) _).alloc (by simp) _
 have k1 : Blk W w.heap.size 44 #[.int .i64 n, .int .i64 m, .slice (some ⟨w.heap.size + 1, 0, none⟩) N N] := by rw [hW]; exact (Blk.new _ _ _).alloc _
 have ho : OwnI W (w.heap.size + 1) (.slice (some ⟨w.heap.size + 1, 0, none⟩) N N) (List.replicate N 0) := by
  rw [hW]
  have := OwnI.made0 (w := w.alloc (.cells #[.int .i64 n, .int .i64 m, .slice (some ⟨w.heap.size + 1, 0, none⟩) N N] 44)) (base := w.heap.size + 1) (N := N) (by simp) (by omega)
  simpa only [World.size_alloc] using this
 have r0 := k1.cell' (i := 0) rfl
 have r1 := k1.cell' (i := 1) rfl
 have r2 := k1.cell' (i := 2) rfl
 have HO := Lib.hid ho
 clear ho k1
 rw [Nat.mul_one] at hmk
 go_enter Tryz.func51, Tryz.ntmps51
 go_wp2
 rw [← hW]
 exact bodyPost_ret (v := .agg #[.int .i64 n, .int .i64 m, .slice (some ⟨w.heap.size + 1, 0, none⟩) N N]) (by simp [results, go_sem, r0, r1, r2]) rfl ⟨_, rfl, ⟨_, by simp, (IntsO.of_own HO.out).wider (by omega) (Nat.le_refl _), by simp only [I64]; omega, by simp only [I64]; omega⟩, g0⟩
structure AppT (T : TypeId) (lo : Nat) (w w' : World) : Prop where
 os : w'.os = w.os
 tape : w'.tape = w.tape
 output : w'.output = w.output
 size : w.heap.size ≤ w'.heap.size
 low : ∀ k, k < lo → k < w.heap.size → w'.heap[k]? = w.heap[k]?
 other : ∀ g t cs, t ≠ T → Blk w g t cs → Blk w' g t cs
theorem AppT.of_below {T : TypeId} {lo : Nat} {w w' : World} (h : Below w.heap.size w w') : AppT T lo w w' := ⟨h.os, h.tape, h.output, h.size, fun k _ hk => h.block k hk, fun _ _ _ _ hb => hb.call h⟩
theorem AppT.trans {T : TypeId} {lo : Nat} {a b c : World} (h : AppT T lo a b) (k : AppT T lo b c) : AppT T lo a c :=
 ⟨k.os.trans h.os, k.tape.trans h.tape, k.output.trans h.output, Nat.le_trans h.size k.size, fun i hi hs => (k.low i hi (Nat.lt_of_lt_of_le hs h.size)).trans (h.low i hi hs), fun g t cs ht hb => k.other g t cs ht (h.other g t cs ht hb)⟩
theorem AppT.below {T : TypeId} {lo B : Nat} {w w' : World} (h : AppT T lo w w') (hB : B ≤ lo) (hs : B ≤ w.heap.size) : Below B w w' := ⟨h.os, h.tape, h.output, h.size, fun k hk => h.low k (by omega) (by omega)⟩
theorem OwnI.appT {T : TypeId} {lo base : Nat} {w w' : World} {v : Value} {l : List Int} (h : OwnI w base v l) (hT : 3 ≠ T) (ha : AppT T lo w w') : OwnI w' base v l := by
 refine ⟨⟨h.1.1, ?_⟩, h.2⟩
 rcases h.1.2 with h1 | ⟨g, cap, cur, e, hg, hh, rest⟩
 ·exact .inl h1
 ·exact .inr ⟨g, cap, cur, e, hg, ha.other g _ cur hT hh, rest⟩
theorem IntsO.appT {T : TypeId} {lo l1 h1 : Nat} {w w' : World} {v : Value} {l : List Int} (h : IntsO w l1 h1 v l) (hT : 3 ≠ T) (ha : AppT T lo w w') : IntsO w' l1 h1 v l := ⟨h.1.appT hT ha, h.2⟩
theorem Fam.appT {T : TypeId} {lo l1 h1 : Nat} {w w' : World} {L : List (Value × List Int)} (h : Fam w l1 h1 L) (hT : 3 ≠ T) (ha : AppT T lo w w') : Fam w' l1 h1 L := ⟨fun p hp => (h.1 p hp).appT hT ha, h.2⟩
theorem AppT.set {T T' : TypeId} {lo g i : Nat} {w : World} {cs : Array Value} {u : Value} (hb : Blk w g T' cs) (hT : T' = T) (hg : lo ≤ g) : AppT T lo w (w.setCell ⟨g, i, none⟩ u) := by
 subst hT
 refine ⟨rfl, rfl, rfl, by simp [World.setCell], fun k hk _ => Below.heap_setCell _ _ _ _ (by simp; omega), fun g' t cs' ht hb' => ?_⟩
 refine hb'.far ?_ u
 rintro rfl
 unfold Blk at hb hb'
 rw [hb] at hb'
 injection hb' with hb'
 injection hb' with _ hb'
 exact ht hb'.symm
theorem wpList_appM {w : World} {ops : Array Oper} {rest : List Oper} {o : Oper} {a : Act} {Q : Exit → Act → World → Prop} (hgd : o.guard = none) (s x : Operand)
  (ho : o.op = .call { callee := .builtin .append, args := #[s, x], argTypes := #[29, 29] })
  (lo hi : Nat) (v : Value) (vs : List Value) (ms : List Mx) (hs : a.eval s = v) (hown : OutM w lo hi v vs ms) (hl : vs.length = ms.length) (g c : Nat) (m : Mx) (u : Value) (hx : a.eval x = .slice (some ⟨g, 0, none⟩) 1 c) (hg : Blk w g 44 #[.int .i64 m.r, .int .i64 m.c, u]) (hu : u.oneCell' = true)
  (hn : ms.length ≤ 1000000) (hlo : lo ≤ w.heap.size)
  (h : ∀ v' w', OutM w' lo w'.heap.size v' (vs ++ [u]) (ms ++ [m]) → AppT 44 lo w w' → wpList Tryz.prog ops Q rest (a.put o.dst v') w') : wpList Tryz.prog ops Q (o :: rest) a w := by
 obtain ⟨i0, hi', hz0, hz1, hz2⟩ := info_parts infoMx
 have hcs := mxCs_snoc vs ms u m hl
 refine wpList_append_G w hgd s x _ ho lo 44 i0 _ 3 40 Tryz.underlying29 hi' hz0 hz1 hz2 rfl (by decide) v ms.length _ hs hown.1 _ 1 c [.int .i64 m.r, .int .i64 m.c, u] hx ⟨rfl, .inr ⟨g, 0, rfl, fun j y hj => ?_⟩⟩ ?_ (by simp only [maxLen]; omega) (by omega) hlo fun v' w' h1 h2 h3 => ?_
 ·have hj3 := lt_of_some hj
  simp only [List.length_cons, List.length_nil] at hj3
  rw [Nat.zero_add]
  match j, hj with
  | 0, hj => rw [hg.cell]; exact hj
  | 1, hj => rw [hg.cell]; exact hj
  | 2, hj => rw [hg.cell]; exact hj
  | j + 3, hj => omega
 ·intro y hy
  simp only [List.mem_cons, List.not_mem_nil, or_false] at hy
  rcases hy with rfl | rfl | rfl
  ·rfl
  ·rfl
  ·exact hu
 ·refine h v' w' ⟨?_, fun k hk => ?_, by simp; omega⟩ ⟨h2.os, h2.tape, h2.output, h2.size, fun k hk hks => h2.block k hks (fun e => ?_), fun g' t cs ht hb => hb.grown h2 (fun e => ?_)⟩
  ·rw [hcs, List.length_append]
   exact h1
  ·exact (h1.lt k hk).2
  ·have := (hown.1.lt k e.symm).1
   omega
  ·rcases hown.1.2 with ⟨rfl, _⟩ | ⟨g2, cap, cur, rfl, _, hh, _⟩
   ·simp [Value.ownBlock] at e
   ·have : g' = g2 := by simpa [Value.ownBlock] using e
    subst this
    unfold Blk at hb
    rw [hh] at hb
    injection hb with hb
    injection hb with _ hb
    exact ht hb.symm
theorem ix_div {i k c : Nat} (hk : k < c) : (i * c + k) / c = i := by
 rw [Nat.mul_comm, Nat.mul_add_div (by omega), Nat.div_eq_of_lt hk, Nat.add_zero]
theorem ix_mod {i k c : Nat} (hk : k < c) : (i * c + k) % c = k := by
 rw [Nat.mul_comm, Nat.mul_add_mod, Nat.mod_eq_of_lt hk]
theorem ix_lt {i k r c : Nat} (hi : i < r) (hk : k < c) : i * c + k < r * c := by
 have : (i + 1) * c ≤ r * c := Nat.mul_le_mul_right _ hi
 rw [Nat.add_mul] at this
 omega
theorem ix_of {j r c : Nat} (hj : j < r * c) : ∃ i k, i < r ∧ k < c ∧ j = i * c + k := by
 have hc : 0 < c := Nat.pos_of_ne_zero (by rintro rfl; simp at hj)
 refine ⟨j / c, j % c, (Nat.div_lt_iff_lt_mul hc).2 hj, Nat.mod_lt _ hc, ?_⟩
 rw [Nat.mul_comm]; exact (Nat.div_add_mod j c).symm
theorem ix_inj {i k i' k' c : Nat} (hk : k < c) (hk' : k' < c) (h : i * c + k = i' * c + k') : i = i' ∧ k = k' := by
 have h1 := ix_div (i := i) hk
 have h2 := ix_mod (i := i) hk
 rw [h, ix_div hk'] at h1
 rw [h, ix_mod hk'] at h2
 exact ⟨h1.symm, h2.symm⟩
def flat (r c : Nat) (f : Nat → Nat → Int) : List Int := (List.range (r * c)).map fun j => f (j / c) (j % c)
theorem flat_length (r c : Nat) (f : Nat → Nat → Int) : (flat r c f).length = r * c := by simp [flat]
theorem flat_get {r c i k : Nat} (f : Nat → Nat → Int) (hi : i < r) (hk : k < c) : (flat r c f)[i * c + k]? = some (f i k) := by
 simp [flat, ix_lt hi hk, ix_div hk, ix_mod hk]
theorem flat_getD {r c i k : Nat} (f : Nat → Nat → Int) (hi : i < r) (hk : k < c) : (flat r c f).getD (i * c + k) 0 = f i k := by
 rw [List.getD_eq_getElem?_getD, flat_get f hi hk]; rfl
theorem flat_ext {r c : Nat} {l : List Int} {f : Nat → Nat → Int} (hl : l.length = r * c) (h : ∀ i k, i < r → k < c → l[i * c + k]? = some (f i k)) : l = flat r c f := by
 apply List.ext_getElem?
 intro j
 by_cases hj : j < r * c
 ·obtain ⟨i, k, hi, hk, rfl⟩ := ix_of hj
  rw [h i k hi hk, flat_get f hi hk]
 ·rw [List.getElem?_eq_none (by omega), List.getElem?_eq_none (by rw [flat_length]; omega)]
theorem flat_congr {r c : Nat} {f g : Nat → Nat → Int} (h : ∀ a b, a < r → b < c → f a b = g a b) : flat r c f = flat r c g :=
 flat_ext (flat_length _ _ _) fun i k hi hk => by rw [flat_get f hi hk, h i k hi hk]
theorem flat_set {r c i k : Nat} (f : Nat → Nat → Int) (x : Int) (hi : i < r) (hk : k < c) : (flat r c f).set (i * c + k) x = flat r c fun a b => if a = i ∧ b = k then x else f a b := by
 refine flat_ext (by simp [flat_length]) fun a b ha hb => ?_
 rw [List.getElem?_set]
 by_cases e : i * c + k = a * c + b
 ·obtain ⟨rfl, rfl⟩ := ix_inj hk hb e
  rw [if_pos rfl, if_pos (by rw [flat_length]; exact ix_lt hi hk), if_pos ⟨rfl, rfl⟩]
 ·rw [if_neg e, flat_get f ha hb, if_neg]
  rintro ⟨rfl, rfl⟩
  exact e rfl
theorem flat_zero (r c : Nat) : flat r c (fun _ _ => 0) = List.replicate (r * c) 0 := by
 refine (flat_ext (by simp) fun i k hi hk => ?_).symm
 have := ix_lt hi hk
 simp [this]
theorem flat_mem {r c : Nat} {f : Nat → Nat → Int} {x : Int} (h : x ∈ flat r c f) : ∃ i k, i < r ∧ k < c ∧ x = f i k := by
 simp only [flat, List.mem_map, List.mem_range] at h
 obtain ⟨j, hj, rfl⟩ := h
 obtain ⟨i, k, hi, hk, rfl⟩ := ix_of hj
 exact ⟨i, k, hi, hk, by rw [ix_div hk, ix_mod hk]⟩
def entry (l : List Int) (c i k : Nat) : Int := l.getD (i * c + k) 0
theorem flat_of {l : List Int} {r c : Nat} (hl : l.length = r * c) : l = flat r c (entry l c) :=
 flat_ext hl fun i k hi hk => by
  have := ix_lt hi hk
  rw [entry, List.getD_eq_getElem?_getD, List.getElem?_eq_getElem (by omega)]; rfl
def mxF (r c : Nat) (f : Nat → Nat → Int) : Mx := ⟨r, c, flat r c f⟩
theorem zmx_flat (r c : Nat) : zmx r c = mxF r c fun _ _ => 0 := by
 rw [mxF, flat_zero, zmx]
 congr
theorem mxF_congr {r c : Nat} {f g : Nat → Nat → Int} (h : ∀ a b, a < r → b < c → f a b = g a b) : mxF r c f = mxF r c g := by rw [mxF, mxF, flat_congr h]
theorem ix_walk {i k r c : Nat} (hi : i < r) (hk : k < c) (hr : r ≤ 1000) (hc : c ≤ 1000) :
  ∃ P J : Nat, wrap64 ((i : Int) * (c : Int)) = (P : Int) ∧ P + k = J ∧ J = i * c + k ∧ J < r * c ∧ J ≤ 1000000 := by
 have h1 := ix_lt hi hk
 have h2 : r * c ≤ 1000 * 1000 := Nat.mul_le_mul hr hc
 refine ⟨i * c, i * c + k, ?_, rfl, rfl, h1, by omega⟩
 rw [show ((i : Int) * (c : Int)) = ((i * c : Nat) : Int) by simp]
 exact IntWalk.wrap64_in _ ⟨by omega, by omega⟩
theorem IntsO.at_ {w : World} {lo hi : Nat} {v : Value} {l : List Int} (h : IntsO w lo hi v l) (h0 : 0 < l.length) : ∃ g c, v = .slice (some ⟨g, 0, none⟩) l.length c ∧ lo ≤ g ∧ g < hi ∧ g < w.heap.size := by
 rcases h.1.1.2 with ⟨rfl, h1⟩ | ⟨g, cap, cur, rfl, hg, hh, _⟩
 ·omega
 ·exact ⟨g, cap, rfl, hg, h.2 g rfl, (Array.getElem?_eq_some_iff.1 hh).1⟩
theorem IntsO.put {w : World} {lo hi g n cap j : Nat} {l : List Int} {x : Int} (h : IntsO w lo hi (.slice (some ⟨g, 0, none⟩) n cap) l) (hx : I64 x) : IntsO (w.setCell ⟨g, j, none⟩ (.int .i64 x)) lo hi (.slice (some ⟨g, 0, none⟩) n cap) (l.set j x) := ⟨(h.1.put hx).1, h.2⟩
def idF (a b : Nat) : Int := if a = b then 1 else 0
def idK (k a b : Nat) : Int := if a = b ∧ a < k then 1 else 0
theorem idK_0 (n : Nat) : flat n n (fun _ _ => 0) = flat n n (idK 0) := flat_congr fun a b _ _ => by simp [idK]
theorem idK_succ {n k : Nat} (h : k < n) : (flat n n (idK k)).set (k * n + k) 1 = flat n n (idK (k + 1)) := by
 rw [flat_set _ _ h h]
 refine flat_congr fun a b _ _ => ?_
 simp only [idK]
 by_cases e : a = b
 ·subst e
  by_cases e2 : a = k
  ·simp [e2]
  ·simp only [e2, true_and, if_false, false_and]
   congr 1
   simp; omega
 ·rw [if_neg (by omega), if_neg (by omega), if_neg (by omega)]
theorem idK_n (n : Nat) : flat n n (idK n) = flat n n idF := flat_congr fun a b ha _ => by simp [idK, idF, ha]
set_option maxHeartbeats 800000 in
theorem identity_any (n : Nat) (w : World) (hn : n ≤ 100) :
  Calls Tryz.prog 49 #[.int .i64 n] w fun e w' => ∃ v, e = .returned v ∧ MxO w' w.heap.size w'.heap.size v (mxF n n idF) ∧ Below w.heap.size w w' := by
 obtain ⟨W, hW⟩ : ∃ W, W = w.alloc (.cells #[.int .i64 0, .int .i64 0, .slice none 0 0] 44) := ⟨_, rfl⟩
 have g0 : Below w.heap.size w W := by rw [hW]; exact below_alloc _ _
 have k2 : Blk W w.heap.size 44 #[.int .i64 0, .int .i64 0, .slice none 0 0] := by rw [hW]; exact Blk.new _ _ _
 have sz : W.heap.size = w.heap.size + 1 := by rw [hW]; simp
 have K2 := Lib.hid k2
 have SZ := Lib.hid sz
 clear k2 sz
 go_enter Tryz.func49, Tryz.ntmps49
 go_wp2_with fail
 rw [← hW]; clear hW
 refine (zero_any (n : Int) n W (by omega) (by omega) (by omega) (by omega)).mono ?_; rintro e w1 ⟨v1, rfl, ⟨sA, rfl, oA, hr, hc⟩, hb1⟩
 rw [zmx_flat] at oA hr hc ⊢
 simp only [mxF] at oA hr hc ⊢
 rw [idK_0] at oA
 obtain ⟨A1, c1, e1⟩ := oA.form
 obtain ⟨N, hN⟩ : ∃ N, n * n = N := ⟨_, rfl⟩
 rw [flat_length, hN] at e1
 subst e1
 have HN := Lib.hid hN
 clear hN
 have s1 := hb1.size
 obtain ⟨W4, hW4⟩ : ∃ W4, W4 = w1.alloc (.cells #[.int .i64 n, .int .i64 n, .slice A1 N c1] 44) := ⟨_, rfl⟩
 have b4 : Below w1.heap.size w1 W4 := by rw [hW4]; exact below_alloc _ _
 have k4 : Blk W4 w1.heap.size 44 #[.int .i64 n, .int .i64 n, .slice A1 N c1] := by rw [hW4]; exact Blk.new _ _ _
 have oA := oA.below b4
 have gW := bthen hb1 b4
 clear b4 hb1
 go_wp2
 rw [← hW4]; clear hW4
 go_loopw [9] (fun i wr => ∃ k : Nat, k ≤ n ∧ i = .int .i64 k ∧ Blk wr w1.heap.size 44 #[.int .i64 n, .int .i64 n, .slice A1 N c1] ∧ IntsO wr W.heap.size w1.heap.size (.slice A1 N c1) (flat n n (idK k)) ∧ Below W.heap.size W wr) (fun i _ => n - (intOf i).toNat)
 case atStart => exact ⟨0, Nat.zero_le _, rfl, k4, oA, gW⟩
 case round =>
  clear k4 oA gW
  obtain ⟨k, hk, rfl, k4, oA, gW⟩ := hrel
  have s6 := gW.size
  by_cases hlt : k < n
  ·obtain ⟨P, J, hP, hPJ, hJ, hJN, hJb⟩ := ix_walk hlt hlt (show n ≤ 1000 by omega) (by omega)
   rw [HN.out] at hJN
   have hst := idK_succ hlt
   rw [← hJ] at hst
   subst hPJ
   obtain ⟨gA, cA, eA, a1, a2, a3⟩ := oA.at_ (by rw [flat_length, HN.out]; omega)
   rw [flat_length, HN.out] at eA
   injection eA with eA1 eA2 eA3
   subst eA1 eA3
   have r2 := k4.cell' (i := 2) rfl
   have fA := oA.1.frozenG (P + k)
   have cA := (oA.1.cellG (j := P + k) (by rw [flat_length, HN.out]; omega)).1
   have hc1 : Chg W.heap.size w1.heap.size wr (wr.setCell ⟨gA, P + k, none⟩ (.int .i64 1)) := chg_set a1 a2
   have oA2 := oA.put (j := P + k) (x := 1) (by simp [I64])
   rw [hst] at oA2
   have OA2 := Lib.hid oA2
   have K4 := Lib.hid (k4.chg hc1 (by omega))
   have GW := Lib.hid (gW.trans (hc1.below (Nat.le_refl _) s6))
   clear oA2 k4 oA gW hc1 hst hJ
   go_wp2
   go_roundw
   case rel => exact ⟨k + 1, by omega, by go_num, K4.out, OA2.out, GW.out⟩
   case measure => simp [intOf]; omega
  ·obtain rfl : k = n := by omega
   have k2 := K2.out.below gW (by have := SZ.out; omega)
   have z0 := k4.cell' (i := 0) rfl
   have z1 := k4.cell' (i := 1) rfl
   have z2 := k4.cell' (i := 2) rfl
   have p0 := k2.cell' (i := 0) rfl
   have p1 := k2.cell' (i := 1) rfl
   have p2 := k2.cell' (i := 2) rfl
   have f2 := k2.frozen
   have h2 := chg3 wr w.heap.size (.int .i64 (k : Int)) (.int .i64 k) (.slice A1 N c1)
   rw [idK_n] at oA
   have gw : Below w.heap.size w wr := g0.trans (gW.mono g0.size)
   have gs := gw.size
   have oA2 := (oA.chg h2 (.inr (by have := SZ.out; omega))).wider (lo' := w.heap.size) (hi' := wr.heap.size) (by have := SZ.out; omega) (by have := k4.lt; omega)
   have fg := gw.trans (h2.below (Nat.le_refl _) gs)
   have OA2 := Lib.hid oA2
   have FG := Lib.hid fg
   clear oA oA2 fg gw h2 k2 k4 gW
   go_wp2
   exact bodyPost_ret (v := .agg #[.int .i64 (k : Int), .int .i64 k, .slice A1 N c1]) (by simp [results, go_sem, p0, p1, p2]) rfl ⟨_, rfl, ⟨_, rfl, by simpa [mxF] using OA2.out, by simp only [mxF, I64]; omega, by simp only [mxF, I64]; omega⟩, FG.out⟩
set_option maxHeartbeats 800000 in
theorem l3Identity_any (n : Nat) (w : World) (hn : n ≤ 100) :
  Calls Tryz.prog 52 #[.int .i64 n] w fun e w' => ∃ v, e = .returned v ∧ MxO w' w.heap.size w'.heap.size v (mxF n n idF) ∧ Below w.heap.size w w' := by
 obtain ⟨W, hW⟩ : ∃ W, W = w.alloc (.cells #[.int .i64 0, .int .i64 0, .slice none 0 0] 44) := ⟨_, rfl⟩
 have g0 : Below w.heap.size w W := by rw [hW]; exact below_alloc _ _
 have k2 : Blk W w.heap.size 44 #[.int .i64 0, .int .i64 0, .slice none 0 0] := by rw [hW]; exact Blk.new _ _ _
 have sz : W.heap.size = w.heap.size + 1 := by rw [hW]; simp
 have K2 := Lib.hid k2
 have SZ := Lib.hid sz
 clear k2 sz
 go_enter Tryz.func52, Tryz.ntmps52
 go_wp2_with fail
 rw [← hW]; clear hW
 refine (l3Zero_any (n : Int) n W (by omega) (by omega) (by omega) (by omega)).mono ?_; rintro e w1 ⟨v1, rfl, ⟨sA, rfl, oA, hr, hc⟩, hb1⟩
 rw [zmx_flat] at oA hr hc ⊢
 simp only [mxF] at oA hr hc ⊢
 rw [idK_0] at oA
 obtain ⟨A1, c1, e1⟩ := oA.form
 obtain ⟨N, hN⟩ : ∃ N, n * n = N := ⟨_, rfl⟩
 rw [flat_length, hN] at e1
 subst e1
 have HN := Lib.hid hN
 clear hN
 have s1 := hb1.size
 obtain ⟨W4, hW4⟩ : ∃ W4, W4 = w1.alloc (.cells #[.int .i64 n, .int .i64 n, .slice A1 N c1] 44) := ⟨_, rfl⟩
 have b4 : Below w1.heap.size w1 W4 := by rw [hW4]; exact below_alloc _ _
 have k4 : Blk W4 w1.heap.size 44 #[.int .i64 n, .int .i64 n, .slice A1 N c1] := by rw [hW4]; exact Blk.new _ _ _
 have oA := oA.below b4
 have gW := bthen hb1 b4
 clear b4 hb1
 go_wp2
 rw [← hW4]; clear hW4
 go_loopw [4] (fun i wr => ∃ k : Nat, k ≤ n ∧ i = .int .i64 k ∧ Blk wr w1.heap.size 44 #[.int .i64 n, .int .i64 n, .slice A1 N c1] ∧ IntsO wr W.heap.size w1.heap.size (.slice A1 N c1) (flat n n (idK k)) ∧ Below W.heap.size W wr) (fun i _ => n - (intOf i).toNat)
 case atStart => exact ⟨0, Nat.zero_le _, rfl, k4, oA, gW⟩
 case round =>
  clear k4 oA gW
  obtain ⟨k, hk, rfl, k4, oA, gW⟩ := hrel
  have s6 := gW.size
  by_cases hlt : k < n
  ·obtain ⟨P, J, hP, hPJ, hJ, hJN, hJb⟩ := ix_walk hlt hlt (show n ≤ 1000 by omega) (by omega)
   rw [HN.out] at hJN
   have hst := idK_succ hlt
   rw [← hJ] at hst
   subst hPJ
   obtain ⟨gA, cA, eA, a1, a2, a3⟩ := oA.at_ (by rw [flat_length, HN.out]; omega)
   rw [flat_length, HN.out] at eA
   injection eA with eA1 eA2 eA3
   subst eA1 eA3
   have r2 := k4.cell' (i := 2) rfl
   have fA := oA.1.frozenG (P + k)
   have cA := (oA.1.cellG (j := P + k) (by rw [flat_length, HN.out]; omega)).1
   have hc1 : Chg W.heap.size w1.heap.size wr (wr.setCell ⟨gA, P + k, none⟩ (.int .i64 1)) := chg_set a1 a2
   have oA2 := oA.put (j := P + k) (x := 1) (by simp [I64])
   rw [hst] at oA2
   have OA2 := Lib.hid oA2
   have K4 := Lib.hid (k4.chg hc1 (by omega))
   have GW := Lib.hid (gW.trans (hc1.below (Nat.le_refl _) s6))
   clear oA2 k4 oA gW hc1 hst hJ
   go_wp2
   go_roundw
   case rel => exact ⟨k + 1, by omega, by go_num, K4.out, OA2.out, GW.out⟩
   case measure => simp [intOf]; omega
  ·obtain rfl : k = n := by omega
   have k2 := K2.out.below gW (by have := SZ.out; omega)
   have z0 := k4.cell' (i := 0) rfl
   have z1 := k4.cell' (i := 1) rfl
   have z2 := k4.cell' (i := 2) rfl
   have p0 := k2.cell' (i := 0) rfl
   have p1 := k2.cell' (i := 1) rfl
   have p2 := k2.cell' (i := 2) rfl
   have f2 := k2.frozen
   have h2 := chg3 wr w.heap.size (.int .i64 (k : Int)) (.int .i64 k) (.slice A1 N c1)
   rw [idK_n] at oA
   have gw : Below w.heap.size w wr := g0.trans (gW.mono g0.size)
   have gs := gw.size
   have oA2 := (oA.chg h2 (.inr (by have := SZ.out; omega))).wider (lo' := w.heap.size) (hi' := wr.heap.size) (by have := SZ.out; omega) (by have := k4.lt; omega)
   have fg := gw.trans (h2.below (Nat.le_refl _) gs)
   have OA2 := Lib.hid oA2
   have FG := Lib.hid fg
   clear oA oA2 fg gw h2 k2 k4 gW
   go_wp2
   exact bodyPost_ret (v := .agg #[.int .i64 (k : Int), .int .i64 k, .slice A1 N c1]) (by simp [results, go_sem, p0, p1, p2]) rfl ⟨_, rfl, ⟨_, rfl, by simpa [mxF] using OA2.out, by simp only [mxF, I64]; omega, by simp only [mxF, I64]; omega⟩, FG.out⟩
theorem IntssO.wider {w : World} {lo hi lo' hi' : Nat} {v : Value} {ll : List (List Int)} (h : IntssO w lo hi v ll) (h1 : lo' ≤ lo) (h2 : hi ≤ hi') : IntssO w lo' hi' v ll := by
 obtain ⟨vs, a, b, c⟩ := h
 exact ⟨vs, a.mono h1 h2, b, c.mono h1 h2⟩
theorem IntssO.form2 {w : World} {lo hi : Nat} {v : Value} {ll : List (List Int)} (h : IntssO w lo hi v ll) : ∃ A c, v = .slice A ll.length c ∧ ll.length ≤ c ∧ c ≤ 9223372036854775807 ∧ ll.length ≤ 17592186044416 := by
 obtain ⟨vs, a, b, c⟩ := h
 obtain ⟨A, d, h1, h2, h3⟩ := a.form
 exact ⟨A, d, by rw [h1, b], by omega, h3, by have := a.2.2; omega⟩
theorem IntssO.nil (w : World) (lo hi : Nat) : IntssO w lo hi (.slice none 0 0) [] := ⟨[], ⟨World.ownsRow_nil _ _ _ _, by simp [Value.ownBlock], by simp⟩, rfl, ⟨fun p hp => by simp at hp, by simp⟩⟩
theorem IntssO.made0 (w : World) {lo : Nat} (h : lo ≤ w.heap.size) : IntssO (w.alloc (.cells #[] 26)) lo (w.alloc (.cells #[] 26)).heap.size (.slice (some ⟨w.heap.size, 0, none⟩) 0 0) [] :=
 ⟨[], ⟨World.ownsRow_made w #[] 0 h (by simp [maxLen]) (by simp), by simp [Value.ownBlock], by simp⟩, rfl, ⟨fun p hp => by simp at hp, by simp⟩⟩
theorem IntssO.made (w : World) {lo n : Nat} (h : lo ≤ w.heap.size) (hn : n ≤ 17592186044416) : IntssO (w.alloc (.cells (mkCells (.slice none 0 0) n) 26)) lo (w.alloc (.cells (mkCells (.slice none 0 0) n) 26)).heap.size (.slice (some ⟨w.heap.size, 0, none⟩) n n) (List.replicate n []) := by
 refine ⟨List.replicate n (.slice none 0 0), ?_, by simp, ⟨fun p hp => ?_, ?_⟩⟩
 ·have h1 := (Blk.new w 26 (mkCells (.slice none 0 0) n)).own (base := lo) (n := n) (cap := n) (size := 1) h (Nat.le_refl _) (by simp only [maxLen]; omega) (by rw [mkCells_size]; omega)
  rw [show (mkCells (.slice none 0 0) n).toList = List.replicate n (.slice none 0 0) from toList_madeCells_one _ _, List.take_of_length_le (by simp)] at h1
  exact ⟨by simpa using h1, fun k hk => by simp [Value.ownBlock] at hk; simp; omega, by simpa using hn⟩
 ·obtain ⟨a, b⟩ := p
  have h1 := List.of_mem_zip hp
  obtain ⟨_, rfl⟩ := List.mem_replicate.1 h1.1
  obtain ⟨_, rfl⟩ := List.mem_replicate.1 h1.2
  exact ⟨OwnI.nil _ _, by simp [Value.ownBlock]⟩
 ·rw [List.pairwise_iff_getElem]
  intro i j hi hj hij
  left
  simp [Value.ownBlock]
theorem IntssO.at_ {w : World} {lo hi : Nat} {v : Value} {ll : List (List Int)} (h : IntssO w lo hi v ll) (h0 : 0 < ll.length) : ∃ g c, v = .slice (some ⟨g, 0, none⟩) ll.length c ∧ lo ≤ g ∧ g < hi ∧ g < w.heap.size ∧ ll.length ≤ c ∧ c ≤ 9223372036854775807 := by
 obtain ⟨vs, a, b, c⟩ := h
 rcases a.1.2 with ⟨_, h1⟩ | ⟨g, cap, cur, rfl, hg, hh, hnc, hcm, _⟩
 ·omega
 ·exact ⟨g, cap, by rw [b], hg, a.2.1 g (by simp [Value.ownBlock]), (Array.getElem?_eq_some_iff.1 hh).1, by omega, by simp only [maxLen] at hcm; omega⟩
theorem IntssO.row {w : World} {lo hi g n c j : Nat} {ll : List (List Int)} {l : List Int} (h : IntssO w lo hi (.slice (some ⟨g, 0, none⟩) n c) ll) (hj : ll[j]? = some l) : ∃ u, w.cell? ⟨g, j, none⟩ = some u ∧ IntsO w lo hi u l ∧ w.frozen? ⟨g, j, none⟩ = false := by
 obtain ⟨vs, a, b, F⟩ := h
 have hl := lt_of_some hj
 have hv : vs[j]? = some (vs[j]'(by omega)) := List.getElem?_eq_getElem (by omega)
 exact ⟨_, a.cellS hv, F.1 (vs[j]'(by omega), l) (by rw [zip_split hv hj]; simp), a.frozenS j⟩
theorem OutO.blk {w : World} {lo hi g n c : Nat} {vs : List Value} (h : OutO w lo hi (.slice (some ⟨g, 0, none⟩) n c) vs) : ∃ cs, Blk w g 26 cs ∧ n = vs.length := by
 rcases h.1.2 with ⟨e, _⟩ | ⟨g', cap', cur, e, _, hh, _⟩
 ·cases e
 ·injection e with e1 e2 _
  injection e1 with e1
  injection e1 with e1
  subst e1
  exact ⟨cur, hh, e2⟩
theorem IntssO.putAt {w : World} {lo hi gr n c j i : Nat} {v : Value} {ll : List (List Int)} {l : List Int} {x : Int} (h : IntssO w lo hi v ll) (hj : ll[j]? = some l) (hx : I64 x)
  (hrow : ∀ vs, vs.length = ll.length → OutO w lo hi v vs → Fam w lo hi (vs.zip ll) → vs[j]? = some (.slice (some ⟨gr, 0, none⟩) n c)) :
  IntssO (w.setCell ⟨gr, i, none⟩ (.int .i64 x)) lo hi v (ll.set j (l.set i x)) ∧ w.grownBy (w.setCell ⟨gr, i, none⟩ (.int .i64 x)) (some gr) := by
 obtain ⟨vs, a, b, F⟩ := h
 have hv := hrow vs b a F
 have ho := F.1 (.slice (some ⟨gr, 0, none⟩) n c, l) (by rw [zip_split hv hj]; simp)
 obtain ⟨_, _, e⟩ := ho.form
 injection e with _ e _
 replace e : n = l.length := e
 subst e
 have hp := ho.1.put (j := i) hx
 exact ⟨⟨vs, a.grown ho.1 hp.2, by simp [b], F.putAt hv hj ho.1 hx⟩, hp.2⟩
theorem IntssO.cellRow {w : World} {lo hi g n' c' gr n c j : Nat} {ll : List (List Int)} (hc : w.cell? ⟨g, j, none⟩ = some (.slice (some ⟨gr, 0, none⟩) n c)) :
  ∀ vs, j < vs.length → OutO w lo hi (.slice (some ⟨g, 0, none⟩) n' c') vs → Fam w lo hi (vs.zip ll) → vs[j]? = some (.slice (some ⟨gr, 0, none⟩) n c) := fun vs hl ho _ => by
 have hv : vs[j]? = some (vs[j]'hl) := List.getElem?_eq_getElem hl
 have := ho.cellS hv
 rw [hc] at this
 rw [hv, this]
theorem IntssO.put {w : World} {lo hi g n' c' gr n c j i : Nat} {ll : List (List Int)} {l : List Int} {x : Int} (h : IntssO w lo hi (.slice (some ⟨g, 0, none⟩) n' c') ll) (hj : ll[j]? = some l) (hc : w.cell? ⟨g, j, none⟩ = some (.slice (some ⟨gr, 0, none⟩) n c)) (hx : I64 x) :
  IntssO (w.setCell ⟨gr, i, none⟩ (.int .i64 x)) lo hi (.slice (some ⟨g, 0, none⟩) n' c') (ll.set j (l.set i x)) ∧ w.grownBy (w.setCell ⟨gr, i, none⟩ (.int .i64 x)) (some gr) :=
 h.putAt hj hx fun vs hl ho F => IntssO.cellRow hc vs (by have := lt_of_some hj; omega) ho F
theorem wpList_appR {w : World} {ops : Array Oper} {rest : List Oper} {o : Oper} {a : Act} {Q : Exit → Act → World → Prop} (hgd : o.guard = none) (s x : Operand)
  (ho : o.op = .call { callee := .builtin .append, args := #[s, x], argTypes := #[60, 60] })
  (lo hi mi hi' : Nat) (v : Value) (ll : List (List Int)) (l : List Int) (hs : a.eval s = v) (hown : IntssO w lo hi v ll) (A : Option Addr) (c : Nat) (u : Value) (hx : a.eval x = .slice A 1 c) (hA : ∃ b o, A = some ⟨b, o, none⟩ ∧ w.cell? ⟨b, o, none⟩ = some u) (hu : IntsO w mi hi' u l)
  (h1 : hi ≤ mi) (h2 : mi ≤ hi') (h3 : lo ≤ mi) (hn : ll.length + 1 ≤ 1048576) (hlo : lo ≤ w.heap.size) (hhi : hi' ≤ w.heap.size)
  (h : ∀ v' w', IntssO w' lo w'.heap.size v' (ll ++ [l]) → Below lo w w' → w.grownBy w' v.ownBlock → wpList Tryz.prog ops Q rest (a.put o.dst v') w') : wpList Tryz.prog ops Q (o :: rest) a w := by
 obtain ⟨vs, h4, h5, h6⟩ := hown
 refine wpList_appS hgd s x ho lo v vs hs h4.1 A c u hx hA (by obtain ⟨A', c', rfl, _⟩ := hu.1.form; rfl) (by omega) hlo fun v' w' k1 k2 k3 => ?_
 have hbg : Below lo w w' := below_grown k2 (fun k hk => (h4.1.lt k hk).1) hlo
 have F2 := ((h6.mono (Nat.le_refl _) h1).snoc hu h3 h2).mono (Nat.le_refl _) (Nat.le_trans hhi hbg.size)
 have F3 := Fam.grownO (by simpa using F2) h4.1 k2
 refine h v' w' ⟨vs ++ [u], ⟨k1, fun k hk => (k1.lt k hk).2, by simp; omega⟩, by simp [h5], ?_⟩ hbg k2
 rw [List.zip_append h5]
 exact F3
def zms (q : Qv) (d : List Int) (k : Nat) : List Mx := (List.range k).map fun i => zmx (dAt d (q.t.getD i 0)) (dAt d (q.f.getD i 0))
theorem zms_length (q : Qv) (d : List Int) (k : Nat) : (zms q d k).length = k := by simp [zms]
theorem zms_succ {q : Qv} {d : List Int} {k nf nt : Nat} {yf yt : Int} (hf : q.f[k]? = some (nf : Int)) (ht : q.t[k]? = some (nt : Int)) (hyf : d[nf]? = some yf) (hyt : d[nt]? = some yt) : zms q d (k + 1) = zms q d k ++ [zmx yt yf] := by
 simp [zms, List.range_succ, List.getD_eq_getElem?_getD, hf, ht, dAt, hyf, hyt]
def zRep (p : Int) (q : Qv) (d : List Int) : Rp := ⟨p, q, d, zms q d q.f.length⟩
theorem zms_I64 {q : Qv} {d : List Int} (h : areDims q d = true) (k : Nat) (hk : k ≤ q.f.length) : ∀ m ∈ zms q d k, I64 m.r ∧ I64 m.c := by
 intro m hm
 simp only [zms, List.mem_map, List.mem_range] at hm
 obtain ⟨i, hi, rfl⟩ := hm
 obtain ⟨nf, nt, yf, yt, ef, et, df, dt, _⟩ := rep_at (x := ⟨0, q, d, []⟩) h (show i < q.f.length by omega)
 obtain ⟨_, _, hd, _⟩ := areDims_t.1 h
 have b1 := hd _ (List.mem_of_getElem? df)
 have b2 := hd _ (List.mem_of_getElem? dt)
 simp only [zmx, List.getD_eq_getElem?_getD, ef, et, Option.getD_some, dAt_of df, dAt_of dt, I64]
 omega
theorem IntsO.cell {w : World} {lo hi : Nat} {v : Value} {l : List Int} (h : IntsO w lo hi v l) : v.oneCell' = true := by
 obtain ⟨A, c, rfl⟩ := h.form
 rfl
def RepI (w : World) (lo hi : Nat) (val : Value) (x : Rp) : Prop := ∃ f t d m vs mi, val = .agg #[.int .i64 x.p, .int .i64 x.q.v, f, t, d, m] ∧ IntsO w lo mi f x.q.f ∧ IntsO w lo mi t x.q.t ∧ IntsO w lo mi d x.d ∧ OutM w lo hi m vs x.m ∧ vs.length = x.m.length ∧
 Fam w mi hi (vs.zip (x.m.map Mx.a)) ∧ (lo ≤ mi ∧ mi ≤ hi) ∧ (I64 x.p ∧ I64 x.q.v) ∧ ∀ m ∈ x.m, I64 m.r ∧ I64 m.c
theorem RepI.rd {w : World} {lo hi : Nat} {v : Value} {x : Rp} (h : RepI w lo hi v x) : RpR w w.heap.size v x := by
 obtain ⟨f, t, d, m, vs, mi, e, h1, h2, h3, h4, h5, h6, _, h7, h8⟩ := h
 exact ⟨f, t, d, m, e, h1.rd, h2.rd, h3.rd, OutM.rd h4 h5 (fun p hp => (h6.1 p hp).rd) h8, h7⟩
theorem RepI.chg {w w' : World} {lo hi lo' hi' : Nat} {v : Value} {x : Rp} (h : RepI w lo hi v x) (hc : Chg lo' hi' w w') (hd : hi ≤ lo' ∨ hi' ≤ lo) : RepI w' lo hi v x := by
 obtain ⟨f, t, d, m, vs, mi, e, h1, h2, h3, h4, h5, h6, h9, h7, h8⟩ := h
 exact ⟨f, t, d, m, vs, mi, e, h1.chg hc (by omega), h2.chg hc (by omega), h3.chg hc (by omega), h4.chg hc hd, h5, h6.chg hc (by omega), h9, h7, h8⟩
theorem RepI.below {w w' : World} {lo hi : Nat} {v : Value} {x : Rp} (h : RepI w lo hi v x) (hb : Below w.heap.size w w') : RepI w' lo hi v x := by
 obtain ⟨f, t, d, m, vs, mi, e, h1, h2, h3, h4, h5, h6, h9, h7, h8⟩ := h
 exact ⟨f, t, d, m, vs, mi, e, h1.below hb, h2.below hb, h3.below hb, h4.below hb, h5, h6.below hb, h9, h7, h8⟩
theorem RepI.wider {w : World} {lo hi lo' hi' : Nat} {v : Value} {x : Rp} (h : RepI w lo hi v x) (k1 : lo' ≤ lo) (k2 : hi ≤ hi') : RepI w lo' hi' v x := by
 obtain ⟨f, t, d, m, vs, mi, e, h1, h2, h3, h4, h5, h6, h9, h7, h8⟩ := h
 exact ⟨f, t, d, m, vs, mi, e, h1.wider k1 (Nat.le_refl _), h2.wider k1 (Nat.le_refl _), h3.wider k1 (Nat.le_refl _), h4.mono k1 k2, h5, h6.mono (Nat.le_refl _) k2, by omega, h7, h8⟩
theorem RepI.zero (w : World) {lo hi : Nat} (h : lo ≤ hi) : RepI w lo hi (.agg #[.int .i64 0, .int .i64 0, .slice none 0 0, .slice none 0 0, .slice none 0 0, .slice none 0 0]) rp0 :=
 ⟨_, _, _, _, [], lo, rfl, ⟨OwnI.nil _ _, by simp [Value.ownBlock]⟩, ⟨OwnI.nil _ _, by simp [Value.ownBlock]⟩, ⟨OwnI.nil _ _, by simp [Value.ownBlock]⟩, RowO.nil _ w lo hi, rfl, ⟨fun p hp => by simp at hp, by simp⟩, ⟨Nat.le_refl _, h⟩, by simp [rp0, I64], fun m hm => by simp [rp0] at hm⟩
def Sep3 (v : Value) : Prop := ∃ P V f t d m m1, v = .agg #[P, V, f, t, d, m] ∧ (∀ k, f.ownBlock = some k → k < m1) ∧ (∀ k, t.ownBlock = some k → k < m1) ∧ ∀ k, d.ownBlock = some k → m1 ≤ k
set_option maxHeartbeats 6400000 in
set_option maxRecDepth 100000 in
theorem l8Zero_any2 (p : Int) (u xv : Value) (q : Qv) (d : List Int) (w0 : World) (hp : I64 p) (hu : QvR w0 w0.heap.size u q) (hx : SlI w0 w0.heap.size xv d) (hq : areDims q d = true) :
  Calls Tryz.prog 98 #[.int .i64 p, u, xv] w0 fun e w' => ∃ v, e = .returned v ∧ RepI w' w0.heap.size w'.heap.size v (zRep p q d) ∧ Sep3 v ∧ Below w0.heap.size w0 w' := by
 have hu' := hu
 obtain ⟨A, c, C, c', rfl, hf, ht, hr, lf, lt⟩ := hu.open_
 obtain ⟨XA, xc, rfl, _, _, lx, hx⟩ := hx.open_
 clear hu
 obtain ⟨W, hW⟩ : ∃ W, W = (w0.alloc (.cells #[.int .i64 q.v, .slice A q.f.length c, .slice C q.t.length c'] 28)).alloc (.cells #[.int .i64 0, .int .i64 0, .slice none 0 0, .slice none 0 0, .slice none 0 0, .slice none 0 0] 31) := ⟨_, rfl⟩
 have g0 : Below w0.heap.size w0 W := by rw [hW]; exact ((Below.refl _ _).alloc (Nat.le_refl _) _).alloc (by simp) _
 have k1 : Blk W w0.heap.size 28 #[.int .i64 q.v, .slice A q.f.length c, .slice C q.t.length c'] := by rw [hW]; exact (Blk.new _ _ _).alloc _
 have k2 : Blk W (w0.heap.size + 1) 31 #[.int .i64 0, .int .i64 0, .slice none 0 0, .slice none 0 0, .slice none 0 0, .slice none 0 0] := by
  rw [hW]
  have := Blk.new (w0.alloc (.cells #[.int .i64 q.v, .slice A q.f.length c, .slice C q.t.length c'] 28)) 31 #[.int .i64 0, .int .i64 0, .slice none 0 0, .slice none 0 0, .slice none 0 0, .slice none 0 0]
  simpa only [World.size_alloc] using this
 have sz : W.heap.size = w0.heap.size + 1 + 1 := by rw [hW]; simp
 have SZ := Lib.hid sz
 clear sz
 have HQ := Lib.hid hq
 clear hq
 have hxW := SlI.next g0 hx
 have huW := QvR.next g0 hu'
 go_enter Tryz.func98, Tryz.ntmps98
 have c0 := k1.cell' (i := 0) rfl
 have c1 := k1.cell' (i := 1) rfl
 have c2 := k1.cell' (i := 2) rfl
 go_wp2_with fail
 rw [← hW]; clear hW
 refine (l6Copy_any _ q _ huW).mono ?_; rintro e w1 ⟨v1, rfl, ⟨qa, qb, rfl, ha, hb2, hqv⟩, hb1⟩
 obtain ⟨A1, a1, rfl⟩ := ha.form
 obtain ⟨C1, b1, rfl⟩ := hb2.form
 have s1 := hb1.size
 clear c0 c1 c2
 (go_wp2_with (at_builtin; refine Hold.stop ?_)); unfold Hold
 refine wpList_append_fresh (by rfl) (.tmp 12) (.tmp 13) (by rfl) w1.heap.size w1.heap.size (w1.alloc (.cells #[] 3)).heap.size #[] (by rfl) (Blk.new _ _ _) rfl (Nat.le_refl _) XA xc d (by rfl) (SlI.next (below_alloc _ _) (SlI.next hb1 hxW)) ?_
 intro v2 w2 ho hb2'
 obtain ⟨E1, e1, rfl, _, _⟩ := ho.form
 have hb3 : Below w1.heap.size w1 w2 := bthen (below_alloc _ _) hb2'
 have s2 := hb3.size
 have s2' := hb2'.size
 obtain ⟨W3, hW3⟩ : ∃ W3, W3 = (w2.alloc (.cells #[] 44)).alloc (.cells #[.int .i64 p, .int .i64 q.v, .slice A1 q.f.length a1, .slice C1 q.t.length b1, .slice E1 d.length e1, .slice (some ⟨w2.heap.size, 0, none⟩) 0 0] 31) := ⟨_, rfl⟩
 have gA : Below w2.heap.size w2 W3 := by rw [hW3]; exact ((Below.refl _ _).alloc (Nat.le_refl _) _).alloc (by simp) _
 have z3 : W3.heap.size = w2.heap.size + 1 + 1 := by rw [hW3]; simp
 have hBm3 : Blk W3 w2.heap.size 44 #[] := by rw [hW3]; exact (Blk.new _ _ _).alloc _
 have hB3 : Blk W3 (w2.heap.size + 1) 31 #[.int .i64 p, .int .i64 q.v, .slice A1 q.f.length a1, .slice C1 q.t.length b1, .slice E1 d.length e1, .slice (some ⟨w2.heap.size, 0, none⟩) 0 0] := by
  rw [hW3]
  have := Blk.new (w2.alloc (.cells #[] 44)) 31 #[.int .i64 p, .int .i64 q.v, .slice A1 q.f.length a1, .slice C1 q.t.length b1, .slice E1 d.length e1, .slice (some ⟨w2.heap.size, 0, none⟩) 0 0]
  simpa only [World.size_alloc] using this
 have g1 : Below W.heap.size W w2 := bthen hb1 hb3
 have gW3 : Below W.heap.size W W3 := bthen g1 gA
 have sW := g1.size
 simp only [World.size_alloc] at s2'
 have hO3 : RowO 44 3 W3 W.heap.size W3.heap.size (.slice (some ⟨w2.heap.size, 0, none⟩) 0 0) 0 [] := by
  have := hBm3.own (base := W.heap.size) (n := 0) (cap := 0) (size := 3) sW (Nat.le_refl _) (by simp only [maxLen]; omega) (by simp)
  exact ⟨by simpa using this, fun k hk => by simp [Value.ownBlock] at hk; subst hk; exact hBm3.lt, by omega⟩
 have SA := Lib.hid ha.2
 have SB := Lib.hid hb2.2
 have SE := Lib.hid fun k hk => (ho.lt k hk).1
 have ha3 : IntsO W3 W.heap.size W3.heap.size (.slice A1 q.f.length a1) q.f := ((ha.below hb3).below gA).wider (Nat.le_refl _) (by omega)
 have hb3' : IntsO W3 W.heap.size W3.heap.size (.slice C1 q.t.length b1) q.t := ((hb2.below hb3).below gA).wider (Nat.le_refl _) (by omega)
 have hd3 : IntsO W3 W.heap.size W3.heap.size (.slice E1 d.length e1) d := ((IntsO.of_own ho).below gA).wider (by omega) (by omega)
 have hgR : W.heap.size ≤ (w2.heap.size + 1) := by omega
 have q1' : W3.cell? ⟨w0.heap.size, 1, none⟩ = some (.slice A q.f.length c) := (k1.below gW3 (by have := SZ.out; omega)).cell' (i := 1) rfl
 have q1'' : w2.cell? ⟨w0.heap.size, 1, none⟩ = some (.slice A q.f.length c) := (k1.below g1 (by have := SZ.out; omega)).cell' (i := 1) rfl
 have hlt0 : w0.heap.size < w2.heap.size := by have := SZ.out; omega
 have K1 := Lib.hid k1
 have K2 := Lib.hid k2
 have G0 := Lib.hid g0
 have HA3 := Lib.hid ha3
 have HB3 := Lib.hid hb3'
 have HD3 := Lib.hid hd3
 have H3 := Lib.hid hB3
 have O3 := Lib.hid hO3
 have GW3 := Lib.hid gW3
 have HGR := Lib.hid (show (w2.heap.size + 1) < W3.heap.size by omega)
 clear ho ha hb2 hBm3 ha3 hb3 hb3' hd3 hB3 hO3 gW3 k1 k2 g0 hb1 hb2' gA g1 s1 s2 s2' sW z3
 go_wp2
 rw [← hW3]
 clear hW3 q1' q1''
 go_loopw [8] (fun i wr => ∃ (k : Nat) (mv : Value) (vs : List Value), k ≤ q.f.length ∧ i = .int .i64 k ∧ Below W.heap.size W wr ∧ W3.heap.size ≤ wr.heap.size ∧ Blk wr (w2.heap.size + 1) 31 #[.int .i64 p, .int .i64 q.v, .slice A1 q.f.length a1, .slice C1 q.t.length b1, .slice E1 d.length e1, mv] ∧
  IntsO wr W.heap.size W3.heap.size (.slice A1 q.f.length a1) q.f ∧ IntsO wr W.heap.size W3.heap.size (.slice C1 q.t.length b1) q.t ∧ IntsO wr W.heap.size W3.heap.size (.slice E1 d.length e1) d ∧
  RowO 44 3 wr W.heap.size wr.heap.size mv k (mxCs vs (zms q d k)) ∧ vs.length = k ∧ Fam wr W3.heap.size wr.heap.size (vs.zip ((zms q d k).map Mx.a))) (fun i _ => q.f.length - (intOf i).toNat)
 case atStart => exact ⟨0, _, [], Nat.zero_le _, rfl, GW3.out, Nat.le_refl _, H3.out, HA3.out, HB3.out, HD3.out, O3.out, rfl, ⟨fun p hp => by simp at hp, by simp⟩⟩
 case round =>
  obtain ⟨k, mv, vs, hk, rfl, hbel, hlt2, hB, hIa, hIb, hId, hO, hvl, hF⟩ := hrel
  have HVL := Lib.hid hvl
  clear hvl
  have kq := (K1.out).below hbel (by have := SZ.out; omega)
  have p1 := kq.cell' (i := 1) rfl
  by_cases hlt : k < q.f.length
  ·obtain ⟨nf, nt, yf, yt, ef, et, df, dt, lnf, lnt, lnf5, lnt5, hkt0⟩ := rep_at (x := ⟨0, q, d, []⟩) HQ.out hlt
   simp only at ef et df dt lnf lnt hkt0
   have hkf := hlt
   have hd := (areDims_t.1 HQ.out).2.2.1
   have hlf6 : q.f.length ≤ 6 := (isQ_t.1 (areDims_t.1 HQ.out).1).2.2.1
   have byf := hd _ (List.mem_of_getElem? df)
   have byt := hd _ (List.mem_of_getElem? dt)
   have HZS := Lib.hid (zms_succ ef et df dt)
   clear hd
   have hkt := hkt0
   obtain ⟨bf, of_, xf, eA, hbf, HXF, f1, _⟩ := SlI.at_ hf hkf
   obtain ⟨bt, ot, xt, eC, hbt, HXT, t1, _⟩ := SlI.at_ ht hkt
   obtain ⟨bd, od, xdf, eX, hbd, HXDF, d1, _⟩ := SlI.at_ hx lnf
   obtain ⟨bd', od', xdt, eX', hbd', HXDT, d2, _⟩ := SlI.at_ hx lnt
   subst eA eC eX
   injection eX' with eX'
   injection eX' with e1 e2
   subst e1 e2
   have q1 := HXF.out
   rw [ef] at q1
   injection q1 with q1
   subst q1
   have q2 := HXT.out
   rw [et] at q2
   injection q2 with q2
   subst q2
   have q3 := HXDF.out
   rw [df] at q3
   injection q3 with q3
   subst q3
   have q4 := HXDT.out
   rw [dt] at q4
   injection q4 with q4
   subst q4
   clear HXF HXT HXDF HXDT ef et df dt
   have gw : Below w0.heap.size w0 wr := G0.out.trans (hbel.mono (G0.out).size)
   have gws := gw.size
   have hbelS := hbel.size
   have sz := SZ.out
   have a1' : (0 : Int) ≤ (k : Int) := by omega
   have a2' : (k : Int) < q.f.length := by omega
   have a3' : (k : Int) < q.t.length := by omega
   have a4' : (0 : Int) ≤ (nf : Int) := by omega
   have a5' : (nf : Int) < d.length := by omega
   have a6' : (0 : Int) ≤ (nt : Int) := by omega
   have a7' : (nt : Int) < d.length := by omega
   have SZ2 := Lib.hid sz
   clear sz
   go_wp2
   refine wp_region_net (by kernel_rfl) [.eq (.pointer (some ⟨w2.heap.size + 1, 5, none⟩)), .eq (mv), .eq (.slice (some ⟨bd, od, none⟩) d.length xc), .eq (.pointer (some ⟨w0.heap.size, 2, none⟩)), .eq (.slice (some ⟨bt, ot, none⟩) q.t.length c'), .eq (.int .i64 k), .eq (.pointer (some ⟨bt, ot + k, none⟩)), .eq (.int .i64 nt), .eq (.pointer (some ⟨bd, od + nt, none⟩)), .eq (.int .i64 yt), .eq (.slice (some ⟨bd, od, none⟩) d.length xc), .eq (.pointer (some ⟨w0.heap.size, 1, none⟩)), .eq (.slice (some ⟨bf, of_, none⟩) q.f.length c), .eq (.int .i64 k), .eq (.pointer (some ⟨bf, of_ + k, none⟩)), .eq (.int .i64 nf), .eq (.pointer (some ⟨bd, od + nf, none⟩)), .eq (.int .i64 yf), rel 18 (fun u lo hi w => MxO w lo hi u (zmx yt yf)), .rel (fun x w => ∃ g s, x.v 19 = .slice (some ⟨g, 0, none⟩) 1 1 ∧ x.v 18 = .agg #[.int .i64 yt, .int .i64 yf, s] ∧ Blk w g 44 #[.int .i64 yt, .int .i64 yf, s])] [[], [0], [], [], [3], [], [3, 4, 5], [3, 4, 5, 6], [2, 3, 4, 5, 6, 7], [2, 3, 4, 5, 6, 7, 8], [], [], [11], [], [11, 12, 13], [11, 12, 13, 14], [10, 11, 12, 13, 14, 15], [10, 11, 12, 13, 14, 15, 16], [2, 3, 4, 5, 6, 7, 8, 9, 10, 11, 12, 13, 14, 15, 16, 17], [2, 3, 4, 5, 6, 7, 8, 9, 10, 11, 12, 13, 14, 15, 16, 17, 18], [0, 1, 2, 3, 4, 5, 6, 7, 8, 9, 10, 11, 12, 13, 14, 15, 16, 17, 18, 19], [0, 1, 2, 3, 4, 5, 6, 7, 8, 9, 10, 11, 12, 13, 14, 15, 16, 17, 18, 19, 20], [0, 1, 2, 3, 4, 5, 6, 7, 8, 9, 10, 11, 12, 13, 14, 15, 16, 17, 18, 19, 20, 21]] 20 (by kernel_rfl) ⟨trivial, trivial, trivial, trivial, trivial, trivial, trivial, trivial, trivial, trivial, trivial, trivial, trivial, trivial, trivial, trivial, trivial, trivial, rel_stable (fun u lo hi w w' h hb => h.below hb), fun x w w' ⟨g, s, e1, e2, h⟩ hb => ⟨g, s, e1, e2, h.call hb⟩, trivial⟩ ⟨?_, ?_, ?_, ?_, ?_, ?_, ?_, ?_, ?_, ?_, ?_, ?_, ?_, ?_, ?_, ?_, ?_, ?_, ?_, ?_, trivial⟩ ?_
   ·intro x w hb hk Q' hQ
    clear hk
    simp only [netE] at hQ ⊢
    go_wp2
    exact hQ _ _ (Below.refl _ _) rfl
   ·intro x w hb hk Q' hQ
    have h0 : x.v 0 = _ := (hk 0 (by decide)).1
    clear hk
    simp only [netE] at hQ ⊢
    simp only [h0] at hQ ⊢
    clear h0
    have z5 := (hB.call hb).cell' (i := 5) rfl
    go_wp2
    exact hQ _ _ (Below.refl _ _) rfl
   ·intro x w hb hk Q' hQ
    clear hk
    simp only [netE] at hQ ⊢
    go_wp2
    exact hQ _ _ (Below.refl _ _) rfl
   ·intro x w hb hk Q' hQ
    clear hk
    simp only [netE] at hQ ⊢
    go_wp2
    exact hQ _ _ (Below.refl _ _) rfl
   ·intro x w hb hk Q' hQ
    have h3 : x.v 3 = _ := (hk 3 (by decide)).1
    clear hk
    simp only [netE] at hQ ⊢
    simp only [h3] at hQ ⊢
    clear h3
    have z2 := (kq.call hb).cell' (i := 2) rfl
    go_wp2
    exact hQ _ _ (Below.refl _ _) rfl
   ·intro x w hb hk Q' hQ
    clear hk
    simp only [netE] at hQ ⊢
    go_wp2
    exact hQ _ _ (Below.refl _ _) rfl
   ·intro x w hb hk Q' hQ
    have h4 : x.v 4 = _ := (hk 4 (by decide)).1
    have h5 : x.v 5 = _ := (hk 5 (by decide)).1
    clear hk
    simp only [netE] at hQ ⊢
    simp only [h4, h5] at hQ ⊢
    clear h4 h5
    go_wp2
    exact hQ _ _ (Below.refl _ _) rfl
   ·intro x w hb hk Q' hQ
    have h6 : x.v 6 = _ := (hk 6 (by decide)).1
    clear hk
    simp only [netE] at hQ ⊢
    simp only [h6] at hQ ⊢
    clear h6
    have z2 := bcell hb (by omega) (bcell gw hbt t1)
    go_wp2
    exact hQ _ _ (Below.refl _ _) rfl
   ·intro x w hb hk Q' hQ
    have h2 : x.v 2 = _ := (hk 2 (by decide)).1
    have h7 : x.v 7 = _ := (hk 7 (by decide)).1
    clear hk
    simp only [netE] at hQ ⊢
    simp only [h2, h7] at hQ ⊢
    clear h2 h7
    go_wp2
    exact hQ _ _ (Below.refl _ _) rfl
   ·intro x w hb hk Q' hQ
    have h8 : x.v 8 = _ := (hk 8 (by decide)).1
    clear hk
    simp only [netE] at hQ ⊢
    simp only [h8] at hQ ⊢
    clear h8
    have z2 := bcell hb (by omega) (bcell gw hbd' d2)
    go_wp2
    exact hQ _ _ (Below.refl _ _) rfl
   ·intro x w hb hk Q' hQ
    clear hk
    simp only [netE] at hQ ⊢
    go_wp2
    exact hQ _ _ (Below.refl _ _) rfl
   ·intro x w hb hk Q' hQ
    clear hk
    simp only [netE] at hQ ⊢
    go_wp2
    exact hQ _ _ (Below.refl _ _) rfl
   ·intro x w hb hk Q' hQ
    have h11 : x.v 11 = _ := (hk 11 (by decide)).1
    clear hk
    simp only [netE] at hQ ⊢
    simp only [h11] at hQ ⊢
    clear h11
    have z2 := (kq.call hb).cell' (i := 1) rfl
    go_wp2
    exact hQ _ _ (Below.refl _ _) rfl
   ·intro x w hb hk Q' hQ
    clear hk
    simp only [netE] at hQ ⊢
    go_wp2
    exact hQ _ _ (Below.refl _ _) rfl
   ·intro x w hb hk Q' hQ
    have h12 : x.v 12 = _ := (hk 12 (by decide)).1
    have h13 : x.v 13 = _ := (hk 13 (by decide)).1
    clear hk
    simp only [netE] at hQ ⊢
    simp only [h12, h13] at hQ ⊢
    clear h12 h13
    go_wp2
    exact hQ _ _ (Below.refl _ _) rfl
   ·intro x w hb hk Q' hQ
    have h14 : x.v 14 = _ := (hk 14 (by decide)).1
    clear hk
    simp only [netE] at hQ ⊢
    simp only [h14] at hQ ⊢
    clear h14
    have z2 := bcell hb (by omega) (bcell gw hbf f1)
    go_wp2
    exact hQ _ _ (Below.refl _ _) rfl
   ·intro x w hb hk Q' hQ
    have h10 : x.v 10 = _ := (hk 10 (by decide)).1
    have h15 : x.v 15 = _ := (hk 15 (by decide)).1
    clear hk
    simp only [netE] at hQ ⊢
    simp only [h10, h15] at hQ ⊢
    clear h10 h15
    go_wp2
    exact hQ _ _ (Below.refl _ _) rfl
   ·intro x w hb hk Q' hQ
    have h16 : x.v 16 = _ := (hk 16 (by decide)).1
    clear hk
    simp only [netE] at hQ ⊢
    simp only [h16] at hQ ⊢
    clear h16
    have z2 := bcell hb (by omega) (bcell gw hbd d1)
    go_wp2
    exact hQ _ _ (Below.refl _ _) rfl
   ·intro x w hb hk Q' hQ
    have h2 : x.v 2 = _ := (hk 2 (by decide)).1
    have h3 : x.v 3 = _ := (hk 3 (by decide)).1
    have h4 : x.v 4 = _ := (hk 4 (by decide)).1
    have h5 : x.v 5 = _ := (hk 5 (by decide)).1
    have h6 : x.v 6 = _ := (hk 6 (by decide)).1
    have h7 : x.v 7 = _ := (hk 7 (by decide)).1
    have h8 : x.v 8 = _ := (hk 8 (by decide)).1
    have h9 : x.v 9 = _ := (hk 9 (by decide)).1
    have h10 : x.v 10 = _ := (hk 10 (by decide)).1
    have h11 : x.v 11 = _ := (hk 11 (by decide)).1
    have h12 : x.v 12 = _ := (hk 12 (by decide)).1
    have h13 : x.v 13 = _ := (hk 13 (by decide)).1
    have h14 : x.v 14 = _ := (hk 14 (by decide)).1
    have h15 : x.v 15 = _ := (hk 15 (by decide)).1
    have h16 : x.v 16 = _ := (hk 16 (by decide)).1
    have h17 : x.v 17 = _ := (hk 17 (by decide)).1
    clear hk
    simp only [netE] at hQ ⊢
    simp only [h2, h3, h4, h5, h6, h7, h8, h9, h10, h11, h12, h13, h14, h15, h16, h17] at hQ ⊢
    clear h2 h3 h4 h5 h6 h7 h8 h9 h10 h11 h12 h13 h14 h15 h16 h17
    go_wp2_with fail
    refine (l3Zero_any yt yf _ byt.1 byf.1 (by omega) (by omega)).mono ?_; rintro e w3 ⟨v3, rfl, hZ, hb3⟩
    go_wp2
    exact hQ _ _ hb3 hZ
   ·intro x w hb hk Q' hQ
    have h2 : x.v 2 = _ := (hk 2 (by decide)).1
    have h3 : x.v 3 = _ := (hk 3 (by decide)).1
    have h4 : x.v 4 = _ := (hk 4 (by decide)).1
    have h5 : x.v 5 = _ := (hk 5 (by decide)).1
    have h6 : x.v 6 = _ := (hk 6 (by decide)).1
    have h7 : x.v 7 = _ := (hk 7 (by decide)).1
    have h8 : x.v 8 = _ := (hk 8 (by decide)).1
    have h9 : x.v 9 = _ := (hk 9 (by decide)).1
    have h10 : x.v 10 = _ := (hk 10 (by decide)).1
    have h11 : x.v 11 = _ := (hk 11 (by decide)).1
    have h12 : x.v 12 = _ := (hk 12 (by decide)).1
    have h13 : x.v 13 = _ := (hk 13 (by decide)).1
    have h14 : x.v 14 = _ := (hk 14 (by decide)).1
    have h15 : x.v 15 = _ := (hk 15 (by decide)).1
    have h16 : x.v 16 = _ := (hk 16 (by decide)).1
    have h17 : x.v 17 = _ := (hk 17 (by decide)).1
    have h18 : MxO w (x.lo 18) (x.hi 18) (x.v 18) (zmx yt yf) := (hk 18 (by decide)).1
    have s18 := (hk 18 (by decide)).2
    clear hk
    simp only [netE] at hQ ⊢
    simp only [h2, h3, h4, h5, h6, h7, h8, h9, h10, h11, h12, h13, h14, h15, h16, h17] at hQ ⊢
    clear h2 h3 h4 h5 h6 h7 h8 h9 h10 h11 h12 h13 h14 h15 h16 h17
    obtain ⟨s, e14, hs⟩ := h18
    obtain ⟨sA, sc, es⟩ := hs.1.form
    obtain ⟨sn, hsn⟩ : ∃ n, (zmx yt yf).a.length = n := ⟨_, rfl⟩
    rw [hsn] at es
    clear hsn hs
    subst es
    have hQ' := hQ (.slice (some ⟨w.heap.size, 0, none⟩) 1 1) (w.alloc (.cells #[.int .i64 yt, .int .i64 yf, .slice sA sn sc] 44)) (below_alloc _ _) ⟨_, _, rfl, e14, Blk.new _ _ _⟩
    simp only [zmx] at e14
    rw [e14] at hQ' ⊢
    go_wp2
    exact hQ'
   ·intro x w hb hk hiv hdj
    have h0 : x.v 0 = .pointer (some ⟨w2.heap.size + 1, 5, none⟩) := hk 0 (by decide)
    have h1 : x.v 1 = mv := hk 1 (by decide)
    have h2 : x.v 2 = .slice (some ⟨bd, od, none⟩) d.length xc := hk 2 (by decide)
    have h3 : x.v 3 = .pointer (some ⟨w0.heap.size, 2, none⟩) := hk 3 (by decide)
    have h4 : x.v 4 = .slice (some ⟨bt, ot, none⟩) q.t.length c' := hk 4 (by decide)
    have h5 : x.v 5 = .int .i64 k := hk 5 (by decide)
    have h6 : x.v 6 = .pointer (some ⟨bt, ot + k, none⟩) := hk 6 (by decide)
    have h7 : x.v 7 = .int .i64 nt := hk 7 (by decide)
    have h8 : x.v 8 = .pointer (some ⟨bd, od + nt, none⟩) := hk 8 (by decide)
    have h9 : x.v 9 = .int .i64 yt := hk 9 (by decide)
    have h10 : x.v 10 = .slice (some ⟨bd, od, none⟩) d.length xc := hk 10 (by decide)
    have h11 : x.v 11 = .pointer (some ⟨w0.heap.size, 1, none⟩) := hk 11 (by decide)
    have h12 : x.v 12 = .slice (some ⟨bf, of_, none⟩) q.f.length c := hk 12 (by decide)
    have h13 : x.v 13 = .int .i64 k := hk 13 (by decide)
    have h14 : x.v 14 = .pointer (some ⟨bf, of_ + k, none⟩) := hk 14 (by decide)
    have h15 : x.v 15 = .int .i64 nf := hk 15 (by decide)
    have h16 : x.v 16 = .pointer (some ⟨bd, od + nf, none⟩) := hk 16 (by decide)
    have h17 : x.v 17 = .int .i64 yf := hk 17 (by decide)
    have h18 : MxO w (x.lo 18) (x.hi 18) (x.v 18) (zmx yt yf) := hk 18 (by decide)
    have h19 : ∃ g s, x.v 19 = .slice (some ⟨g, 0, none⟩) 1 1 ∧ x.v 18 = .agg #[.int .i64 yt, .int .i64 yf, s] ∧ Blk w g 44 #[.int .i64 yt, .int .i64 yf, s] := hk 19 (by decide)
    clear hk
    simp only [netE]
    simp only [List.drop_succ_cons, List.drop_zero, h0, h1, h2, h3, h4, h5, h6, h7, h8, h9, h10, h11, h12, h13, h14, h15, h16, h17]
    clear h0 h1 h2 h3 h4 h5 h6 h7 h8 h9 h10 h11 h12 h13 h14 h15 h16 h17
    obtain ⟨g, s, e15, e14, hg⟩ := h19
    have l14 := (hiv 18 (by decide)).1
    have h14i := (hiv 18 (by decide)).2.2
    obtain ⟨s', e14', hs, _⟩ := h18
    rw [e14] at e14'
    simp only [Value.agg.injEq, Array.mk.injEq, List.cons.injEq, and_true, zmx, true_and] at e14'
    subst e14'
    rw [e15]
    have hO' := hO.below hb
    have hF' := (hF.below hb).snoc (hs.wider l14 h14i) (by omega) hb.size
    have hB' := hB.call hb
    have hIa' := hIa.below hb
    have hIb' := hIb.below hb
    have hId' := hId.below hb
    have gb2 : Below W.heap.size W w := hbel.trans (hb.mono hbelS)
    have hbs2 := hb.size
    have hLen := Lib.hid (zms_length q d k)
    have HF' := Lib.hid hF'
    have hO'' : OutM w W.heap.size wr.heap.size mv vs (zms q d k) := by rw [OutM, hLen.out]; exact hO'
    have HC := Lib.hid hs.cell
    clear hiv hdj hs hF' hO' hO hF e14 e15 hb hB hIa hIb hId
    refine wpList_appM (by rfl) (.tmp 25) (.tmp 43) (by rfl) W.heap.size wr.heap.size mv vs (zms q d k) (by rfl) hO'' (by rw [HVL.out, hLen.out]) g 1 (zmx yt yf) s (by rfl) hg HC.out (by rw [hLen.out]; omega) (by omega) ?_
    intro v' w' hO3 hA
    obtain ⟨n9, hn9⟩ : ∃ n, (zms q d k ++ [zmx yt yf]).length = n := ⟨_, rfl⟩
    rw [OutM, hn9] at hO3
    have HN9 := Lib.hid (show n9 = k + 1 by rw [← hn9]; simp [hLen.out])
    clear hn9
    obtain ⟨A9, c9, ev, _, _⟩ := hO3.form
    subst ev
    have hB3 := hA.other _ _ _ (by decide) hB'
    have z5 := hB3.cell' (i := 5) rfl
    have fr := hB3.frozen
    have gb3 : Below W.heap.size W w' := gb2.trans (hA.below (Nat.le_refl _) (by omega))
    have hs3 := hA.size
    have hF3' := HF'.out.appT (by decide) hA
    have HF3' := Lib.hid hF3'
    have HO3 := Lib.hid hO3
    have HIa := Lib.hid (hIa'.appT (by decide) hA)
    have HIb := Lib.hid (hIb'.appT (by decide) hA)
    have HId := Lib.hid (hId'.appT (by decide) hA)
    clear hF3' hO3 HF' hO'' hA gb2 hg hIa' hIb' hId'
    go_wp2
    go_roundw
    case rel =>
     have ti : AppT 31 W.heap.size w' (w'.setCell ⟨w2.heap.size + 1, 5, none⟩ (.slice A9 n9 c9)) := AppT.set hB3 rfl hgR
     refine ⟨k + 1, .slice A9 n9 c9, vs ++ [s], by omega, by go_num, gb3.setCell (by simpa using hgR) _, by simp; omega, hB3.set_ 5 _, HIa.out.appT (by decide) ti, HIb.out.appT (by decide) ti, HId.out.appT (by decide) ti, ?_, by simp [HVL.out], ?_⟩
     ·have := HO3.out.set hB3 (by decide) 5 (.slice A9 n9 c9)
      rw [HZS.out]
      rw [HN9.out] at this ⊢
      simpa using this
     ·have h1 := HF3'.out.setBlk (i := 5) hB3 (by decide) (.slice A9 n9 c9)
      have e : (vs ++ [s]).zip ((zms q d (k + 1)).map Mx.a) = vs.zip ((zms q d k).map Mx.a) ++ [(s, List.replicate (yt * yf).toNat 0)] := by
       rw [HZS.out, List.map_append, List.zip_append (by simp [HVL.out, hLen.out])]
       rfl
      rw [e]
      exact h1.mono (Nat.le_refl _) (by simp; omega)
    case measure => simp [intOf]; omega
  ·obtain rfl : k = q.f.length := by omega
   have hbs := hbel.size
   obtain ⟨H1, h1, rfl, _, _⟩ := hO.form
   have hI := Lib.hid (zms_I64 HQ.out q.f.length (Nat.le_refl _))
   have hL := zms_length q d q.f.length
   have hO' : OutM wr W.heap.size wr.heap.size (.slice H1 q.f.length h1) vs (zms q d q.f.length) := by rw [OutM, hL]; exact hO
   have hbW3 := (GW3.out).size
   have hR : RepI wr W.heap.size wr.heap.size (.agg #[.int .i64 p, .int .i64 q.v, .slice A1 q.f.length a1, .slice C1 q.t.length b1, .slice E1 d.length e1, .slice H1 q.f.length h1]) (zRep p q d) :=
    ⟨_, _, _, _, vs, W3.heap.size, rfl, hIa, hIb, hId, hO', by rw [HVL.out]; exact hL.symm, hF, ⟨hbW3, hlt2⟩, ⟨hp, hqv⟩, hI.out⟩
   have HR := Lib.hid hR
   have k2' := (K2.out).below hbel (by have := SZ.out; omega)
   have r0 := hB.cell' (i := 0) rfl
   have r1 := hB.cell' (i := 1) rfl
   have r2 := hB.cell' (i := 2) rfl
   have r3 := hB.cell' (i := 3) rfl
   have r4 := hB.cell' (i := 4) rfl
   have r5 := hB.cell' (i := 5) rfl
   have s0 := k2'.cell' (i := 0) rfl
   have s1 := k2'.cell' (i := 1) rfl
   have s2 := k2'.cell' (i := 2) rfl
   have s3 := k2'.cell' (i := 3) rfl
   have s4 := k2'.cell' (i := 4) rfl
   have s5 := k2'.cell' (i := 5) rfl
   have fr := k2'.frozen
   have GF := Lib.hid (G0.out.trans (hbel.mono (G0.out).size))
   have HBS := Lib.hid hbs
   clear hR hO' hL hO hF hB k2' kq hIa hIb hId hbs hbW3
   go_wp2
   have sz := SZ.out
   have hbs := HBS.out
   have gf := GF.out
   refine bodyPost_ret (v := .agg #[.int .i64 p, .int .i64 q.v, .slice A1 q.f.length a1, .slice C1 q.t.length b1, .slice E1 d.length e1, .slice H1 q.f.length h1]) (by simp [results, go_sem, s0, s1, s2, s3, s4, s5]) rfl ⟨_, rfl, RepI.wider (lo := W.heap.size) (hi := wr.heap.size) ?_ (by omega) (by simp), ⟨_, _, _, _, _, _, _, rfl, SA.out, SB.out, SE.out⟩, (((((gf.setCell (by simp) _).setCell (by simp) _).setCell (by simp) _).setCell (by simp) _).setCell (by simp) _).setCell (by simp) _⟩
   have hc : Chg (w0.heap.size + 1) (w0.heap.size + 1 + 1) wr _ := (((((chg_set (w := wr) (p := ⟨w0.heap.size + 1, 0, none⟩) (u := .int .i64 p) (by simp) (by simp)).trans (chg_set (p := ⟨w0.heap.size + 1, 1, none⟩) (u := .int .i64 q.v) (by simp) (by simp))).trans (chg_set (p := ⟨w0.heap.size + 1, 2, none⟩) (u := .slice A1 q.f.length a1) (by simp) (by simp))).trans (chg_set (p := ⟨w0.heap.size + 1, 3, none⟩) (u := .slice C1 q.t.length b1) (by simp) (by simp))).trans (chg_set (p := ⟨w0.heap.size + 1, 4, none⟩) (u := .slice E1 d.length e1) (by simp) (by simp))).trans (chg_set (p := ⟨w0.heap.size + 1, 5, none⟩) (u := .slice H1 q.f.length h1) (by simp) (by simp))
   exact HR.out.chg hc (.inr (by omega))
theorem mxCs_rc : ∀ (vs : List Value) (ms ms' : List Mx), ms.map (fun m => (m.r, m.c)) = ms'.map (fun m => (m.r, m.c)) → mxCs vs ms = mxCs vs ms'
 | [], ms, ms', _ => by simp [mxCs]
 | v :: vs, [], ms', h => by
  have : ms' = [] := by simpa using h.symm
  subst this; rfl
 | v :: vs, m :: ms, [], h => by simp at h
 | v :: vs, m :: ms, m' :: ms', h => by
  simp only [List.map_cons, List.cons.injEq, Prod.mk.injEq] at h
  simp only [mxCs, h.1.1, h.1.2, mxCs_rc vs ms ms' h.2]
theorem OutM.rc {w : World} {lo hi : Nat} {v : Value} {vs : List Value} {ms ms' : List Mx} (h : OutM w lo hi v vs ms) (e : ms.map (fun m => (m.r, m.c)) = ms'.map (fun m => (m.r, m.c))) : OutM w lo hi v vs ms' := by
 have h1 := congrArg List.length e
 simp only [List.length_map] at h1
 have h2 := mxCs_rc vs ms ms' e
 unfold OutM at h ⊢
 rw [← h1, ← h2]
 exact h
theorem OutM.at_ {w : World} {lo hi lo' hi' j : Nat} {mv : Value} {vs : List Value} {ms : List Mx} {L0 : List (Value × List Int)} {m : Mx} (h : OutM w lo hi mv vs ms) (hl : vs.length = ms.length) (hF : Fam w lo' hi' (L0 ++ vs.zip (ms.map Mx.a))) (hm : ms[j]? = some m) (hne : 0 < m.a.length) :
  ∃ gm cm g c, mv = .slice (some ⟨gm, 0, none⟩) ms.length cm ∧ gm < w.heap.size ∧ vs[j]? = some (.slice (some ⟨g, 0, none⟩) m.a.length c) ∧ w.cell? ⟨gm, j * 3, none⟩ = some (.int .i64 m.r) ∧ w.cell? ⟨gm, j * 3 + 1, none⟩ = some (.int .i64 m.c) ∧
   w.cell? ⟨gm, j * 3 + 2, none⟩ = some (.slice (some ⟨g, 0, none⟩) m.a.length c) ∧ OwnI w lo' (.slice (some ⟨g, 0, none⟩) m.a.length c) m.a ∧ (lo' ≤ g ∧ g < hi') ∧ m.a.length ≤ c ∧ c ≤ 9223372036854775807 ∧ ms.length ≤ cm ∧ cm ≤ 9223372036854775807 := by
 have hj := lt_of_some hm
 have hv : vs[j]? = some (vs[j]'(by omega)) := List.getElem?_eq_getElem (by omega)
 have hI := hF.getAt hv (show (ms.map Mx.a)[j]? = some m.a by simp [hm])
 obtain ⟨gm, cm, cur, e, h1, h2, h3, h4⟩ := RowO.at_ h (by omega)
 have hml := mxCs_length vs ms hl
 obtain ⟨a, b, c⟩ := mxCs_get hv hm
 rcases hI.1.1.2 with ⟨e', h0⟩ | ⟨g, cap, cur', e', hg, _, hnc, hcm, _⟩
 ·omega
 ·have hf := RowO.form h
  obtain ⟨A, c2, e2, l1, l2⟩ := hf
  rw [e] at e2
  injection e2 with e21 e22 e23
  subst e23
  have h1 := h.1
  subst e
  have c0 := h1.cellAt (j * 3) (by omega)
  have c1 := h1.cellAt (j * 3 + 1) (by omega)
  have c3 := h1.cellAt (j * 3 + 2) (by omega)
  refine ⟨gm, cm, g, cap, rfl, h3, by rw [hv, e'], by rw [c0]; exact a, by rw [c1]; exact b, by rw [c3, ← e']; exact c, by rw [← e']; exact hI.1, ⟨hg, hI.2 g (by simp [e', Value.ownBlock])⟩, hnc, by simp only [maxLen] at hcm; omega, l1, l2⟩
theorem SlM.I64s {w : World} {B : Nat} {v : Value} {l : List Mx} (h : SlM w B v l) : ∀ m ∈ l, I64 m.r ∧ I64 m.c := by
 obtain ⟨A, c, rfl, _, _, _, h⟩ := h.open_
 intro m hm
 obtain ⟨j, hj⟩ := List.getElem?_of_mem hm
 obtain ⟨_, _, m', _, _, _, _, HX, _, _, _, _, h1, h2, _⟩ := SlM.at_ h (lt_of_some hj)
 have := HX.out
 rw [hj] at this
 injection this with this
 subst this
 exact ⟨h1, h2⟩
set_option maxHeartbeats 3200000 in
set_option maxRecDepth 100000 in
theorem copyMatrices_any (u : Value) (ms : List Mx) (w : World) (hu : SlM w w.heap.size u ms) (hn : ms.length ≤ 1000000) :
  Calls Tryz.prog 61 #[u] w fun e w' => ∃ v, e = .returned v ∧ MatsO w' w.heap.size w'.heap.size v ms ∧ Below w.heap.size w w' := by
 have hI := Lib.hid (SlM.I64s hu)
 obtain ⟨A, c, rfl, _, _, _, hx⟩ := hu.open_
 clear hu
 go_enter Tryz.func61, Tryz.ntmps61
 go_wp2
 go_loopw [3, 8] (fun mv i wr => ∃ (k : Nat) (vs : List Value), k ≤ ms.length ∧ i = .int .i64 k ∧ Below w.heap.size w wr ∧ RowO 44 3 wr w.heap.size wr.heap.size mv k (mxCs vs (ms.take k)) ∧ vs.length = k ∧ Fam wr w.heap.size wr.heap.size (vs.zip ((ms.take k).map Mx.a))) (fun _ i _ => ms.length - (intOf i).toNat)
 case atStart => exact ⟨0, [], Nat.zero_le _, rfl, Below.refl _ _, RowO.nil _ _ _ _, rfl, ⟨fun p hp => by simp at hp, by simp⟩⟩
 case round =>
  obtain ⟨k, vs, hk, rfl, hbel, hO, hvl, hF⟩ := hrel
  have HVL := Lib.hid hvl
  clear hvl
  by_cases hlt : k < ms.length
  ·obtain ⟨b, o, m, A', c', rfl, hb, HX, x1, x2, x3, hsl, i1, i2, _⟩ := SlM.at_ hx hlt
   have d1 := bcell hbel hb x1
   have d2 := bcell hbel hb x2
   have d3 := bcell hbel hb x3
   have hbs := hbel.size
   obtain ⟨W1, hW1⟩ : ∃ W, W = wr.alloc (.cells #[.int .i64 m.r, .int .i64 m.c, .slice A' m.a.length c'] 44) := ⟨_, rfl⟩
   have ga : Below wr.heap.size wr W1 := by rw [hW1]; exact below_alloc _ _
   have hmx : MxR W1 W1.heap.size (.agg #[.int .i64 m.r, .int .i64 m.c, .slice A' m.a.length c']) m := ⟨_, rfl, SlI.next ga (SlI.more hbs (SlI.below hbel hsl)), i1, i2⟩
   have HTK := Lib.hid (show ms.take (k + 1) = ms.take k ++ [m] by rw [take_snoc HX.out])
   have hTL := Lib.hid (show (ms.take k).length = k by simp; omega)
   replace hO := hO.below ga
   replace hF := hF.below ga
   have sa := ga.size
   obtain ⟨mA, mc, emv, _, _⟩ := hO.form
   subst emv
   clear x1 x2 x3 hx hsl i1 i2
   go_wp2_with fail
   rw [← hW1]; clear hW1
   refine (mxClone_any _ m _ hmx).mono ?_; rintro e w1 ⟨v1, rfl, ⟨s, rfl, hs, _⟩, hb1⟩
   have s1 := hb1.size
   obtain ⟨sA, sc, es⟩ := hs.form
   obtain ⟨sn, hsn⟩ : ∃ n, m.a.length = n := ⟨_, rfl⟩
   rw [hsn] at es
   clear hsn
   subst es
   have gb1 : Below w.heap.size w w1 := hbel.trans ((bthen ga hb1).mono hbs)
   replace hO := (hO.below hb1).below (below_alloc w1 (.cells #[.int .i64 m.r, .int .i64 m.c, .slice sA sn sc] 44))
   have hF1 := (hF.below hb1).snoc (hs.wider sa (Nat.le_refl _)) (by omega) (by omega)
   have hF2 := hF1.below (below_alloc w1 (.cells #[.int .i64 m.r, .int .i64 m.c, .slice sA sn sc] 44))
   have HF2 := Lib.hid hF2
   clear hF hF1 hF2 hs hmx hb1 ga d1 d2 d3
   (go_wp2_with (at_builtin; refine Hold.stop ?_)); unfold Hold
   have hO'' : OutM (w1.alloc (.cells #[.int .i64 m.r, .int .i64 m.c, .slice sA sn sc] 44)) w.heap.size wr.heap.size (.slice mA k mc) vs (ms.take k) := by rw [OutM, hTL.out]; exact hO
   refine wpList_appM (by rfl) (.tmp 12) (.tmp 15) (by rfl) w.heap.size wr.heap.size (.slice mA k mc) vs (ms.take k) (by rfl) hO'' (by rw [HVL.out, hTL.out]) w1.heap.size 1 m (.slice sA sn sc) (by rfl) (Blk.new _ _ _) (by rfl) (by rw [hTL.out]; omega) (by simp; omega) ?_
   intro v' w' hO3 hA
   have gb3 : Below w.heap.size w w' := (gb1.alloc (by omega) _).trans (hA.below (Nat.le_refl _) (by simp; omega))
   have hF3 := HF2.out.appT (by decide) hA
   have hs3 := hA.size
   simp only [World.size_alloc] at hs3
   have HF3 := Lib.hid hF3
   have HO3 := Lib.hid hO3
   clear hF3 hO3 HF2 hO'' hO hA gb1
   go_wp2
   go_roundw
   case rel =>
    refine ⟨k + 1, vs ++ [.slice sA sn sc], by omega, by go_num, gb3, ?_, by simp [HVL.out], ?_⟩
    ·have := HO3.out
     rw [OutM, List.length_append, hTL.out] at this
     rw [HTK.out]
     exact this
    ·have e : (vs ++ [Value.slice sA sn sc]).zip ((ms.take (k + 1)).map Mx.a) = vs.zip ((ms.take k).map Mx.a) ++ [(.slice sA sn sc, m.a)] := by
      rw [HTK.out, List.map_append, List.zip_append (by rw [List.length_map, HVL.out, hTL.out])]
      rfl
     rw [e]
     exact HF3.out.mono (Nat.le_refl _) (by omega)
   case measure => simp [intOf]; omega
  ·obtain rfl : k = ms.length := by omega
   obtain ⟨mA, mc, emv, _, _⟩ := hO.form
   subst emv
   rw [List.take_length] at hO hF
   have hM : MatsO wr w.heap.size wr.heap.size (.slice mA ms.length mc) ms := ⟨vs, hO, HVL.out, hF, hI.out⟩
   have HM := Lib.hid hM
   clear hM hO hF
   go_wp2
   go_ret
   exact ⟨_, rfl, HM.out, hbel⟩
theorem SlM.two {w : World} {B g : Nat} {a b : Mx} {u v : Value} (hB : B = w.heap.size) (hg : Blk w g 44 #[.int .i64 a.r, .int .i64 a.c, u, .int .i64 b.r, .int .i64 b.c, v]) (ha : SlI w B u a.a) (hb : SlI w B v b.a) (i1 : I64 a.r ∧ I64 a.c) (i2 : I64 b.r ∧ I64 b.c) : SlM w B (.slice (some ⟨g, 0, none⟩) 2 2) [a, b] := by
 refine ⟨_, 2, rfl, by simp, by omega, by simp, fun _ => ⟨g, 0, rfl, by rw [hB]; exact hg.lt, fun j x hj => ?_⟩⟩
 match j, hj with
 | 0, hj =>
  simp at hj
  subst hj
  exact ⟨u, hg.cell' (i := 0) rfl, hg.cell' (i := 1) rfl, hg.cell' (i := 2) rfl, ha, i1⟩
 | 1, hj =>
  simp at hj
  subst hj
  exact ⟨v, hg.cell' (i := 3) rfl, hg.cell' (i := 4) rfl, hg.cell' (i := 5) rfl, hb, i2⟩
 | j + 2, hj => simp at hj
theorem IntsO.two (w : World) {lo : Nat} (x y : Int) (hx : I64 x) (hy : I64 y) (hlo : lo ≤ w.heap.size) : IntsO (w.alloc (.cells #[.int .i64 x, .int .i64 y] 3)) lo (w.alloc (.cells #[.int .i64 x, .int .i64 y] 3)).heap.size (.slice (some ⟨w.heap.size, 0, none⟩) 2 2) [x, y] :=
 IntsO.of_own (OwnI.of_blk (xs := [x, y]) (Blk.new _ _ _) hlo ⟨rfl, fun j z hj hz => by
  match j, hz with
  | 0, hz => simp at hz; subst hz; rfl
  | 1, hz => simp at hz; subst hz; rfl
  | j + 2, hz => simp at hz⟩ (by simp) (by simp [hx, hy]))
theorem Fam.three {w : World} {lo hi l1 h1 l2 h2 l3 h3 : Nat} {L1 L2 L3 : List (Value × List Int)} (f1 : Fam w l1 h1 L1) (f2 : Fam w l2 h2 L2) (f3 : Fam w l3 h3 L3) (d12 : h1 ≤ l2 ∨ h2 ≤ l1) (d13 : h1 ≤ l3 ∨ h3 ≤ l1) (d23 : h2 ≤ l3 ∨ h3 ≤ l2)
  (b1 : lo ≤ l1 ∧ h1 ≤ hi) (b2 : lo ≤ l2 ∧ h2 ≤ hi) (b3 : lo ≤ l3 ∧ h3 ≤ hi) : Fam w lo hi (L1 ++ (L2 ++ L3)) := by
 have ap : ∀ {l1 h1 l2 h2 : Nat} {L1 L2 : List (Value × List Int)}, Fam w l1 h1 L1 → Fam w l2 h2 L2 → (h1 ≤ l2 ∨ h2 ≤ l1) → ∀ a ∈ L1, ∀ b ∈ L2, a.1.ownBlock = none ∨ a.1.ownBlock ≠ b.1.ownBlock := by
  intro l1 h1 l2 h2 L1 L2 f g hd a ha b hb
  rcases hA : a.1.ownBlock with _ | x
  ·exact .inl rfl
  ·right
   intro e
   have q1 := (f.1 a ha).2 x hA
   have q2 := ((f.1 a ha).1.lt x hA).1
   have q3 := (g.1 b hb).2 x e.symm
   have q4 := ((g.1 b hb).1.lt x e.symm).1
   omega
 refine ⟨fun p hp => ?_, ?_⟩
 ·rcases List.mem_append.1 hp with hp | hp
  ·exact (f1.1 p hp).wider b1.1 b1.2
  ·rcases List.mem_append.1 hp with hp | hp
   ·exact (f2.1 p hp).wider b2.1 b2.2
   ·exact (f3.1 p hp).wider b3.1 b3.2
 ·rw [List.pairwise_append, List.pairwise_append]
  refine ⟨f1.2, ⟨f2.2, f3.2, ap f2 f3 d23⟩, fun a ha b hb => ?_⟩
  rcases List.mem_append.1 hb with hb | hb
  ·exact ap f1 f2 d12 a ha b hb
  ·exact ap f1 f3 d13 a ha b hb
def penRep (p : Int) (a b : Mx) : Rp := ⟨p, pQ, [a.c, a.r], [a, b]⟩
def penOf (p : Int) (a b : Mx) : Rp × Bool := if isRep (penRep p a b) then (penRep p a b, true) else (rp0, false)
set_option maxHeartbeats 6400000 in
set_option maxRecDepth 100000 in
theorem implPencilOf_any (p : Int) (u : Value) (a : Mx) (v : Value) (b : Mx) (w0 : World) (hp : I64 p) (ha : MxR w0 w0.heap.size u a) (hbm : MxR w0 w0.heap.size v b) :
  Calls Tryz.prog 22 #[.int .i64 p, u, v] w0 fun e w' => ∃ r, e = .returned (.tuple #[r, .bool (penOf p a b).2]) ∧ RepO w' w0.heap.size w'.heap.size r (penOf p a b).1 ∧ Below w0.heap.size w0 w' := by
 obtain ⟨A, ac, rfl, hfa, har, hac, la⟩ := ha.open_
 obtain ⟨C, cc, rfl, hfb, hbr, hbc, lb⟩ := hbm.open_
 clear ha hbm
 obtain ⟨W, hW⟩ : ∃ W, W = ((w0.alloc (.cells #[.int .i64 a.r, .int .i64 a.c, .slice A a.a.length ac] 44)).alloc (.cells #[.int .i64 b.r, .int .i64 b.c, .slice C b.a.length cc] 44)).alloc (.cells #[.int .i64 0, .int .i64 0, .slice none 0 0, .slice none 0 0, .slice none 0 0, .slice none 0 0] 31) := ⟨_, rfl⟩
 have g0 : Below w0.heap.size w0 W := by rw [hW]; exact (((Below.refl _ _).alloc (Nat.le_refl _) _).alloc (by simp) _).alloc (by simp; omega) _
 have k1 : Blk W w0.heap.size 44 #[.int .i64 a.r, .int .i64 a.c, .slice A a.a.length ac] := by rw [hW]; exact ((Blk.new _ _ _).alloc _).alloc _
 have k2 : Blk W (w0.heap.size + 1) 44 #[.int .i64 b.r, .int .i64 b.c, .slice C b.a.length cc] := by
  rw [hW]
  have := (Blk.new (w0.alloc (.cells #[.int .i64 a.r, .int .i64 a.c, .slice A a.a.length ac] 44)) 44 #[.int .i64 b.r, .int .i64 b.c, .slice C b.a.length cc]).alloc (.cells #[.int .i64 0, .int .i64 0, .slice none 0 0, .slice none 0 0, .slice none 0 0, .slice none 0 0] 31)
  simpa only [World.size_alloc] using this
 have k3 : Blk W (w0.heap.size + 1 + 1) 31 #[.int .i64 0, .int .i64 0, .slice none 0 0, .slice none 0 0, .slice none 0 0, .slice none 0 0] := by
  rw [hW]
  have := Blk.new ((w0.alloc (.cells #[.int .i64 a.r, .int .i64 a.c, .slice A a.a.length ac] 44)).alloc (.cells #[.int .i64 b.r, .int .i64 b.c, .slice C b.a.length cc] 44)) 31 #[.int .i64 0, .int .i64 0, .slice none 0 0, .slice none 0 0, .slice none 0 0, .slice none 0 0]
  simpa only [World.size_alloc] using this
 have sz : W.heap.size = w0.heap.size + 1 + 1 + 1 := by rw [hW]; simp
 have SZ := Lib.hid sz
 clear sz
 have hfaW := SlI.next g0 hfa
 have hfbW := SlI.next g0 hfb
 go_enter Tryz.func22, Tryz.ntmps22
 go_wp2
 rw [← hW]; clear hW
 refine wp_region_net (by kernel_rfl) [.eq (.int .i64 p), rel 1 (fun u lo hi w => QuivO w lo hi u pQ), .eq (.pointer (some ⟨w0.heap.size, 1, none⟩)), .eq (.int .i64 a.c), .eq (.pointer (some ⟨w0.heap.size, 0, none⟩)), .eq (.int .i64 a.r), rel 6 (fun u lo hi w => IntsO w lo hi u [a.c, a.r]), .eq (.agg #[.int .i64 a.r, .int .i64 a.c, .slice A a.a.length ac]), .eq (.agg #[.int .i64 b.r, .int .i64 b.c, .slice C b.a.length cc]), rel 9 (fun u lo hi w => SlM w w.heap.size u [a, b]), rel 10 (fun u lo hi w => MatsO w lo hi u [a, b]), .rel (fun x w => ∃ qa qb, x.v 1 = .agg #[.int .i64 2, qa, qb] ∧ x.v 11 = .agg #[.int .i64 p, .int .i64 2, qa, qb, x.v 6, x.v 10]), rel 12 (fun u lo hi w => ∃ g, u = .pointer (some ⟨g, 0, none⟩) ∧ (lo ≤ g ∧ g < hi) ∧ Blk w g 31 #[.int .i64 0, .int .i64 0, .slice none 0 0, .slice none 0 0, .slice none 0 0, .slice none 0 0])] [[], [], [], [2], [], [4], [2, 3, 4, 5], [], [], [7, 8], [1, 7, 8, 9], [0, 1, 2, 3, 4, 5, 6, 7, 8, 9, 10], [], [0, 1, 2, 3, 4, 5, 6, 7, 8, 9, 10, 11, 12]] 13 (by kernel_rfl) ⟨trivial, rel_stable (fun u lo hi w w' h hb => h.below hb), trivial, trivial, trivial, trivial, rel_stable (fun u lo hi w w' h hb => h.below hb), trivial, trivial, rel_stable (fun u lo hi w w' h hb => SlM.next hb h), rel_stable (fun u lo hi w w' h hb => h.below hb), fun x w w' h hb => h, rel_stable (fun u lo hi w w' ⟨g, e, h1, h⟩ hb => ⟨g, e, h1, h.call hb⟩), trivial⟩ ⟨?_, ?_, ?_, ?_, ?_, ?_, ?_, ?_, ?_, ?_, ?_, ?_, ?_, trivial⟩ ?_
 ·intro x w hb hk Q' hQ
  clear hk
  simp only [netE] at hQ ⊢
  go_wp2
  exact hQ _ _ (Below.refl _ _) rfl
 ·intro x w hb hk Q' hQ
  clear hk
  simp only [netE] at hQ ⊢
  go_wp2_with fail
  refine (pencilQuiver_any _).mono ?_; rintro e w1 ⟨v1, rfl, ho, hb1⟩
  go_wp2
  exact hQ _ _ hb1 ho
 ·intro x w hb hk Q' hQ
  clear hk
  simp only [netE] at hQ ⊢
  go_wp2
  exact hQ _ _ (Below.refl _ _) rfl
 ·intro x w hb hk Q' hQ
  have h2 : x.v 2 = _ := (hk 2 (by decide)).1
  clear hk
  simp only [netE] at hQ ⊢
  simp only [h2] at hQ ⊢
  clear h2
  have z := (k1.call hb).cell' (i := 1) rfl
  go_wp2
  exact hQ _ _ (Below.refl _ _) rfl
 ·intro x w hb hk Q' hQ
  clear hk
  simp only [netE] at hQ ⊢
  go_wp2
  exact hQ _ _ (Below.refl _ _) rfl
 ·intro x w hb hk Q' hQ
  have h4 : x.v 4 = _ := (hk 4 (by decide)).1
  clear hk
  simp only [netE] at hQ ⊢
  simp only [h4] at hQ ⊢
  clear h4
  have z := (k1.call hb).cell' (i := 0) rfl
  go_wp2
  exact hQ _ _ (Below.refl _ _) rfl
 ·intro x w hb hk Q' hQ
  have h2 : x.v 2 = _ := (hk 2 (by decide)).1
  have h3 : x.v 3 = _ := (hk 3 (by decide)).1
  have h4 : x.v 4 = _ := (hk 4 (by decide)).1
  have h5 : x.v 5 = _ := (hk 5 (by decide)).1
  clear hk
  simp only [netE] at hQ ⊢
  simp only [h2, h3, h4, h5] at hQ ⊢
  clear h2 h3 h4 h5
  go_wp2
  exact hQ _ _ (below_alloc _ _) (IntsO.two w a.c a.r hac har (Nat.le_refl _))
 ·intro x w hb hk Q' hQ
  clear hk
  simp only [netE] at hQ ⊢
  have z0 := (k1.call hb).cell' (i := 0) rfl
  have z1 := (k1.call hb).cell' (i := 1) rfl
  have z2 := (k1.call hb).cell' (i := 2) rfl
  go_wp2
  exact hQ _ _ (Below.refl _ _) rfl
 ·intro x w hb hk Q' hQ
  clear hk
  simp only [netE] at hQ ⊢
  have z0 := (k2.call hb).cell' (i := 0) rfl
  have z1 := (k2.call hb).cell' (i := 1) rfl
  have z2 := (k2.call hb).cell' (i := 2) rfl
  go_wp2
  exact hQ _ _ (Below.refl _ _) rfl
 ·intro x w hb hk Q' hQ
  have h7 : x.v 7 = _ := (hk 7 (by decide)).1
  have h8 : x.v 8 = _ := (hk 8 (by decide)).1
  clear hk
  simp only [netE] at hQ ⊢
  simp only [h7, h8] at hQ ⊢
  clear h7 h8
  go_wp2
  exact hQ _ _ (below_alloc _ _) (SlM.two rfl (Blk.new _ _ _) (SlI.next (below_alloc _ _) (SlI.next hb hfaW)) (SlI.next (below_alloc _ _) (SlI.next hb hfbW)) ⟨har, hac⟩ ⟨hbr, hbc⟩)
 ·intro x w hb hk Q' hQ
  have h1 : QuivO w (x.lo 1) (x.hi 1) (x.v 1) pQ := (hk 1 (by decide)).1
  have h7 : x.v 7 = _ := (hk 7 (by decide)).1
  have h8 : x.v 8 = _ := (hk 8 (by decide)).1
  have h9 : SlM w w.heap.size (x.v 9) [a, b] := (hk 9 (by decide)).1
  have s1 := (hk 1 (by decide)).2
  have s9 := (hk 9 (by decide)).2
  clear hk
  simp only [netE] at hQ ⊢
  simp only [h7, h8] at hQ ⊢
  clear h7 h8
  obtain ⟨A9, c9, e9, _, _, _, h9⟩ := h9.open_
  simp only [List.length_cons, List.length_nil] at e9 h9
  rw [e9] at hQ ⊢
  go_wp2_with fail
  refine (copyMatrices_any _ [a, b] _ h9 (by simp)).mono ?_; rintro e w1 ⟨v1, rfl, ho, hb1⟩
  go_wp2
  exact hQ _ _ hb1 ho
 ·intro x w hb hk Q' hQ
  have h0 : x.v 0 = _ := (hk 0 (by decide)).1
  have h1 : QuivO w (x.lo 1) (x.hi 1) (x.v 1) pQ := (hk 1 (by decide)).1
  have h2 : x.v 2 = _ := (hk 2 (by decide)).1
  have h3 : x.v 3 = _ := (hk 3 (by decide)).1
  have h4 : x.v 4 = _ := (hk 4 (by decide)).1
  have h5 : x.v 5 = _ := (hk 5 (by decide)).1
  have h6 : IntsO w (x.lo 6) (x.hi 6) (x.v 6) [a.c, a.r] := (hk 6 (by decide)).1
  have h7 : x.v 7 = _ := (hk 7 (by decide)).1
  have h8 : x.v 8 = _ := (hk 8 (by decide)).1
  have h9 : SlM w w.heap.size (x.v 9) [a, b] := (hk 9 (by decide)).1
  have h10 : MatsO w (x.lo 10) (x.hi 10) (x.v 10) [a, b] := (hk 10 (by decide)).1
  have s1 := (hk 1 (by decide)).2
  have s6 := (hk 6 (by decide)).2
  have s9 := (hk 9 (by decide)).2
  have s10 := (hk 10 (by decide)).2
  clear hk
  simp only [netE] at hQ ⊢
  simp only [h0, h2, h3, h4, h5, h7, h8] at hQ ⊢
  clear h0 h2 h3 h4 h5 h7 h8
  obtain ⟨qa, qb, e1, hqF, _⟩ := h1
  have f1 : IntsO w (x.lo 1) (x.hi 1) qa [0, 0] := hqF.1 (qa, [0, 0]) (by simp [pQ])
  have f2 : IntsO w (x.lo 1) (x.hi 1) qb [1, 1] := hqF.1 (qb, [1, 1]) (by simp [pQ])
  obtain ⟨qA, qc, rfl⟩ := f1.form
  obtain ⟨qB, qd, rfl⟩ := f2.form
  obtain ⟨dA, dc, e6⟩ := h6.form
  obtain ⟨vs, ho, _⟩ := h10
  obtain ⟨mA, mc, e10, _, _⟩ := ho.form
  have e1 : x.v 1 = .agg #[.int .i64 2, .slice qA 2 qc, .slice qB 2 qd] := e1
  have e6 : x.v 6 = .slice dA 2 dc := e6
  have e10 : x.v 10 = .slice mA 2 mc := e10
  have hQ' := hQ (.agg #[.int .i64 p, .int .i64 2, .slice qA 2 qc, .slice qB 2 qd, x.v 6, x.v 10]) w (Below.refl _ _) ⟨_, _, e1, rfl⟩
  rw [e1, e6, e10] at hQ' ⊢
  go_wp2
  exact hQ'
 ·intro x w hb hk Q' hQ
  clear hk
  simp only [netE] at hQ ⊢
  go_wp2
  exact hQ _ _ (below_alloc _ _) ⟨_, rfl, ⟨Nat.le_refl _, by show w.heap.size < (w.alloc _).heap.size; simp⟩, Blk.new _ _ _⟩
 ·intro x w hb hk hiv hdj
  have h0 : x.v 0 = .int .i64 p := hk 0 (by decide)
  have h1 : QuivO w (x.lo 1) (x.hi 1) (x.v 1) pQ := hk 1 (by decide)
  have h2 : x.v 2 = .pointer (some ⟨w0.heap.size, 1, none⟩) := hk 2 (by decide)
  have h3 : x.v 3 = .int .i64 a.c := hk 3 (by decide)
  have h4 : x.v 4 = .pointer (some ⟨w0.heap.size, 0, none⟩) := hk 4 (by decide)
  have h5 : x.v 5 = .int .i64 a.r := hk 5 (by decide)
  have h6 : IntsO w (x.lo 6) (x.hi 6) (x.v 6) [a.c, a.r] := hk 6 (by decide)
  have h7 : x.v 7 = .agg #[.int .i64 a.r, .int .i64 a.c, .slice A a.a.length ac] := hk 7 (by decide)
  have h8 : x.v 8 = .agg #[.int .i64 b.r, .int .i64 b.c, .slice C b.a.length cc] := hk 8 (by decide)
  have h9 : SlM w w.heap.size (x.v 9) [a, b] := hk 9 (by decide)
  have h10 : MatsO w (x.lo 10) (x.hi 10) (x.v 10) [a, b] := hk 10 (by decide)
  have h11 : ∃ qa qb, x.v 1 = .agg #[.int .i64 2, qa, qb] ∧ x.v 11 = .agg #[.int .i64 p, .int .i64 2, qa, qb, x.v 6, x.v 10] := hk 11 (by decide)
  have h12 : ∃ g, (x.v 12) = .pointer (some ⟨g, 0, none⟩) ∧ ((x.lo 12) ≤ g ∧ g < (x.hi 12)) ∧ Blk w g 31 #[.int .i64 0, .int .i64 0, .slice none 0 0, .slice none 0 0, .slice none 0 0, .slice none 0 0] := hk 12 (by decide)
  clear hk
  simp only [netE]
  simp only [List.drop_succ_cons, List.drop_zero, h0, h2, h3, h4, h5, h7, h8]
  clear h0 h2 h3 h4 h5 h7 h8
  obtain ⟨qa, qb, e1, hqF, _⟩ := h1
  have f1 : IntsO w (x.lo 1) (x.hi 1) qa [0, 0] := hqF.1 (qa, [0, 0]) (by simp [pQ])
  have f2 : IntsO w (x.lo 1) (x.hi 1) qb [1, 1] := hqF.1 (qb, [1, 1]) (by simp [pQ])
  obtain ⟨qA, qc, rfl⟩ := f1.form
  obtain ⟨qB, qd, rfl⟩ := f2.form
  obtain ⟨dA, dc, e6⟩ := h6.form
  obtain ⟨vs, ho, hvl, hFm, hIm⟩ := h10
  obtain ⟨mA, mc, e10, _, _⟩ := ho.form
  obtain ⟨qa', qb', e1', e11⟩ := h11
  obtain ⟨gR, e12, hgR, hBR⟩ := h12
  have e1 : x.v 1 = .agg #[.int .i64 2, .slice qA 2 qc, .slice qB 2 qd] := e1
  have e6 : x.v 6 = .slice dA 2 dc := e6
  have e10 : x.v 10 = .slice mA 2 mc := e10
  rw [e1] at e1'
  simp only [Value.agg.injEq, Array.mk.injEq, List.cons.injEq, and_true, true_and] at e1'
  obtain ⟨rfl, rfl⟩ := e1'
  rw [e6] at h6
  rw [e10] at ho
  rw [e6, e10] at e11
  have I := fun i (h : i < 13) => hiv i h
  have DJ := fun i j (h1 : i < 13) (h2 : j < 13) (h3 : i ≠ j) => hdj i j h1 h2 h3
  have i1 := I 1 (by decide)
  have i6 := I 6 (by decide)
  have i10 := I 10 (by decide)
  have i12 := I 12 (by decide)
  have d1 := DJ 1 12 (by decide) (by decide) (by decide)
  have d6 := DJ 6 12 (by decide) (by decide) (by decide)
  have d10 := DJ 10 12 (by decide) (by decide) (by decide)
  have hF3 : Fam w W.heap.size w.heap.size ([(.slice qA 2 qc, [0, 0]), (.slice qB 2 qd, [1, 1])] ++ ([(.slice dA 2 dc, [a.c, a.r])] ++ vs.zip ([a, b].map Mx.a))) :=
   Fam.three hqF (Fam.one h6) hFm (DJ 1 6 (by decide) (by decide) (by decide)) (DJ 1 10 (by decide) (by decide) (by decide)) (DJ 6 10 (by decide) (by decide) (by decide)) ⟨i1.1, i1.2.2⟩ ⟨i6.1, i6.2.2⟩ ⟨i10.1, i10.2.2⟩
  have hR : RepO w W.heap.size w.heap.size (.agg #[.int .i64 p, .int .i64 2, .slice qA 2 qc, .slice qB 2 qd, .slice dA 2 dc, .slice mA 2 mc]) (penRep p a b) :=
   ⟨_, _, _, _, vs, rfl, ho.mono i10.1 i10.2.2, hvl, hF3, ⟨hp, by simp [penRep, pQ, I64]⟩, hIm⟩
  rw [e11, e12]
  have fr := hBR.frozen
  have r0 := hBR.cell' (i := 0) rfl
  have r1 := hBR.cell' (i := 1) rfl
  have r2 := hBR.cell' (i := 2) rfl
  have r3 := hBR.cell' (i := 3) rfl
  have r4 := hBR.cell' (i := 4) rfl
  have r5 := hBR.cell' (i := 5) rfl
  obtain ⟨W3, hW3⟩ : ∃ W3, W3 = (((((w.setCell ⟨gR, 0, none⟩ (.int .i64 p)).setCell ⟨gR, 1, none⟩ (.int .i64 2)).setCell ⟨gR, 2, none⟩ (.slice qA 2 qc)).setCell ⟨gR, 3, none⟩ (.slice qB 2 qd)).setCell ⟨gR, 4, none⟩ (.slice dA 2 dc)).setCell ⟨gR, 5, none⟩ (.slice mA 2 mc) := ⟨_, rfl⟩
  have hB3 : Blk W3 gR 31 #[.int .i64 p, .int .i64 2, .slice qA 2 qc, .slice qB 2 qd, .slice dA 2 dc, .slice mA 2 mc] := by
   rw [hW3]
   exact (((((hBR.set_ 0 _).set_ 1 _).set_ 2 _).set_ 3 _).set_ 4 _).set_ 5 _
  have hCh : Chg gR (gR + 1) w W3 := by
   rw [hW3]
   exact chg6 _ _ _ _ _ _ _ _
  have hs3 : W3.heap.size = w.heap.size := by rw [hW3]; simp
  have hbs := hb.size
  have sz := SZ.out
  have k3w := k3.call hb
  have k33 : Blk W3 (w0.heap.size + 1 + 1) 31 _ := k3w.chg hCh (by omega)
  have gW3 : Below W.heap.size W W3 := hb.trans (hCh.below (by omega) (by omega))
  have g3 : Below w0.heap.size w0 W3 := g0.trans (gW3.mono g0.size)
  have hF3' : Fam W3 W.heap.size w.heap.size ([(.slice qA 2 qc, [0, 0]), (.slice qB 2 qd, [1, 1])] ++ ([(.slice dA 2 dc, [a.c, a.r])] ++ vs.zip ([a, b].map Mx.a))) :=
   Fam.three (hqF.chg hCh (by omega)) (Fam.one (h6.chg hCh (by omega))) (hFm.chg hCh (by omega)) (DJ 1 6 (by decide) (by decide) (by decide)) (DJ 1 10 (by decide) (by decide) (by decide)) (DJ 6 10 (by decide) (by decide) (by decide)) ⟨i1.1, i1.2.2⟩ ⟨i6.1, i6.2.2⟩ ⟨i10.1, i10.2.2⟩
  have hR3 : RepO W3 W.heap.size W3.heap.size (.agg #[.int .i64 p, .int .i64 2, .slice qA 2 qc, .slice qB 2 qd, .slice dA 2 dc, .slice mA 2 mc]) (penRep p a b) := by
   rw [hs3]
   exact ⟨_, _, _, _, vs, rfl, (ho.chg hCh (by omega)).mono i10.1 i10.2.2, hvl, hF3', ⟨hp, by simp [penRep, pQ, I64]⟩, hIm⟩
  have hS : W.heap.size ≤ W3.heap.size := gW3.size
  have HS := Lib.hid hS
  have HR3 := Lib.hid hR3
  have H3 := Lib.hid hB3
  have K3 := Lib.hid k33
  have G3 := Lib.hid g3
  clear h9 hqF hF3 hR hF3' hR3 hB3 k33 k3w gW3 g3 hCh hs3 hS ho hFm hIm h6 f1 f2 hiv hdj I DJ i1 i6 i10 i12 d1 d6 d10 e1 e6 e10 e11 e12 hBR hb hbs sz k1 k2 k3 hvl
  rcases hRep : isRep (penRep p a b) with _ | _
  ·have hE := Lib.hid (show penOf p a b = (rp0, false) by rw [penOf, hRep]; rfl)
   have HREP := Lib.hid hRep
   clear hRep
   have z0 := H3.out.cell' (i := 0) rfl
   have z1 := H3.out.cell' (i := 1) rfl
   have z2 := H3.out.cell' (i := 2) rfl
   have z3 := H3.out.cell' (i := 3) rfl
   have z4 := H3.out.cell' (i := 4) rfl
   have z5 := H3.out.cell' (i := 5) rfl
   go_wp2_with fail
   rw [← hW3]
   clear hW3 r0 r1 r2 r3 r4 r5 fr
   refine (implIsRep_any _ (penRep p a b) _ HR3.out.rd).mono ?_; rintro e w4 ⟨rfl, hb4⟩
   rw [HREP.out]
   have k4 := K3.out.call hb4
   have fr := k4.frozen
   have s0 := k4.cell' (i := 0) rfl
   have s1 := k4.cell' (i := 1) rfl
   have s2 := k4.cell' (i := 2) rfl
   have s3 := k4.cell' (i := 3) rfl
   have s4 := k4.cell' (i := 4) rfl
   have s5 := k4.cell' (i := 5) rfl
   have HB4 := Lib.hid hb4
   clear z0 z1 z2 z3 z4 z5 hb4 k4
   go_wp2
   have gf := G3.out.trans (HB4.out.mono (G3.out).size)
   refine bodyPost_ret (v := .tuple #[.agg #[.int .i64 0, .int .i64 0, .slice none 0 0, .slice none 0 0, .slice none 0 0, .slice none 0 0], .bool false]) (by simp [results, go_sem, s0, s1, s2, s3, s4, s5]) rfl ⟨_, by rw [hE.out], by rw [hE.out]; exact RepO.zero _ _ _, (((((gf.setCell (by simp; omega) _).setCell (by simp; omega) _).setCell (by simp; omega) _).setCell (by simp; omega) _).setCell (by simp; omega) _).setCell (by simp; omega) _⟩
  ·have hE := Lib.hid (show penOf p a b = (penRep p a b, true) by rw [penOf, hRep]; rfl)
   have HREP := Lib.hid hRep
   clear hRep
   have z0 := H3.out.cell' (i := 0) rfl
   have z1 := H3.out.cell' (i := 1) rfl
   have z2 := H3.out.cell' (i := 2) rfl
   have z3 := H3.out.cell' (i := 3) rfl
   have z4 := H3.out.cell' (i := 4) rfl
   have z5 := H3.out.cell' (i := 5) rfl
   go_wp2_with fail
   rw [← hW3]
   clear hW3 r0 r1 r2 r3 r4 r5 fr
   refine (implIsRep_any _ (penRep p a b) _ HR3.out.rd).mono ?_; rintro e w4 ⟨rfl, hb4⟩
   rw [HREP.out]
   have k4 := K3.out.call hb4
   have h4 := H3.out.call hb4
   have fr := k4.frozen
   have s0 := k4.cell' (i := 0) rfl
   have s1 := k4.cell' (i := 1) rfl
   have s2 := k4.cell' (i := 2) rfl
   have s3 := k4.cell' (i := 3) rfl
   have s4 := k4.cell' (i := 4) rfl
   have s5 := k4.cell' (i := 5) rfl
   clear z0 z1 z2 z3 z4 z5
   have z0 := h4.cell' (i := 0) rfl
   have z1 := h4.cell' (i := 1) rfl
   have z2 := h4.cell' (i := 2) rfl
   have z3 := h4.cell' (i := 3) rfl
   have z4 := h4.cell' (i := 4) rfl
   have z5 := h4.cell' (i := 5) rfl
   have hs4 := hb4.size
   have HS4 := Lib.hid hs4
   have HR4 := Lib.hid (HR3.out.below hb4)
   have HB4 := Lib.hid hb4
   clear hb4 k4 h4 hs4
   go_wp2
   have gf := G3.out.trans (HB4.out.mono (G3.out).size)
   have sz := SZ.out
   have hs4 := HS4.out
   have hS := HS.out
   refine bodyPost_ret (v := .tuple #[.agg #[.int .i64 p, .int .i64 2, .slice qA 2 qc, .slice qB 2 qd, .slice dA 2 dc, .slice mA 2 mc], .bool true]) (by simp [results, go_sem, s0, s1, s2, s3, s4, s5]) rfl ⟨_, by rw [hE.out], ?_, (((((gf.setCell (by simp; omega) _).setCell (by simp; omega) _).setCell (by simp; omega) _).setCell (by simp; omega) _).setCell (by simp; omega) _).setCell (by simp; omega) _⟩
   rw [hE.out]
   have hc : Chg (w0.heap.size + 1 + 1) (w0.heap.size + 1 + 1 + 1) w4 _ := (((((chg_set (w := w4) (p := ⟨w0.heap.size + 1 + 1, 0, none⟩) (u := .int .i64 p) (by simp) (by simp)).trans (chg_set (p := ⟨w0.heap.size + 1 + 1, 1, none⟩) (u := .int .i64 2) (by simp) (by simp))).trans (chg_set (p := ⟨w0.heap.size + 1 + 1, 2, none⟩) (u := .slice qA 2 qc) (by simp) (by simp))).trans (chg_set (p := ⟨w0.heap.size + 1 + 1, 3, none⟩) (u := .slice qB 2 qd) (by simp) (by simp))).trans (chg_set (p := ⟨w0.heap.size + 1 + 1, 4, none⟩) (u := .slice dA 2 dc) (by simp) (by simp))).trans (chg_set (p := ⟨w0.heap.size + 1 + 1, 5, none⟩) (u := .slice mA 2 mc) (by simp) (by simp))
   exact RepO.wider (HR4.out.chg hc (.inr (by omega))) (by omega) (by simp; omega)
end Go.Proofs.YthhjoamgcfiecaaGreat
