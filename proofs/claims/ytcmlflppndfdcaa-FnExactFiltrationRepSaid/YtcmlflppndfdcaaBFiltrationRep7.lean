/- FnExactFiltrationRep: for every argument the program's function returns what the reference's returns. Part 7 of 11 of the proof: Cln, Copy, Copy2, Zero, Zero2, Zero3, ZigI, Flat, PenOf. No condition. -/
import Derived.Test.YtcmlflppndfdcaaBFiltrationRep6
import Derived.Shelf.Slices.Clone
import Derived.ArgAppend
/- slices.Clone at []int: the shelf's contract. -/
namespace Go.Proofs
open Go.Shelf
def Try.laysClone_ren : Go.Shelf.Ren := ⟨fun | 15 => 121 | n => n, fun | 22 => 22 | 3 => 3 | 4 => 4 | n => n, fun | n => n⟩
theorem Try.laysClone : Go.Proofs.Lays2.n15 Try.prog Try.laysClone_ren := {
  mixed := by kernel_rfl
  f15 := Try.func121.trans (congrArg some (by kernel_rfl))
  t3 := Try.underlying3
  a3 := Try.isAgg3
  z3 := Try.sizeOf3
  v3 := Try.zeroValue3
  t4 := Try.underlying4
  a4 := Try.isAgg4
  z4 := Try.sizeOf4
  v4 := Try.zeroValue4
  t22 := Try.underlying22
  a22 := Try.isAgg22
  z22 := Try.sizeOf22
  v22 := Try.zeroValue22
  i3 := by kernel_rfl }
end Go.Proofs
namespace Go.Proofs.Ytcmlflppndfdcaa
set_option linter.unusedVariables false
set_option linter.unusedSimpArgs false
open Go.RowKit

theorem clone_own (u : Value) (xs : List Int) (w : World) (hu : SlI w w.heap.size u xs) :
    Calls Try.prog 121 #[u] w fun e w' => ∃ v, e = .returned v ∧ IntsO w' w.heap.size w'.heap.size v xs ∧ Below w.heap.size w w' := by
  have hr := SlI.i64 hu
  have hrd := hu
  obtain ⟨A, c, rfl, _, _, hn, hx⟩ := hu
  rcases A with _ | a
  · have h0 : xs = [] := by
      apply List.eq_nil_of_length_eq_zero
      rcases Nat.eq_zero_or_pos xs.length with h | h
      · exact h
      · obtain ⟨b, o, e, _⟩ := hx h
        cases e
    subst h0
    exact (Any.slices_Clone_int_nil Try.laysClone 0 c w).mono fun e w' ⟨h1, h2⟩ => ⟨_, h1, ⟨OwnI.nil _ _, by simp [Value.ownBlock]⟩, by rw [h2]; exact Below.refl _ _⟩
  rcases Nat.eq_zero_or_pos xs.length with h0 | hp
  · have h0 : xs = [] := List.eq_nil_of_length_eq_zero h0
    subst h0
    exact (Any.slices_Clone_int_zero Try.laysClone a c w).mono fun e w' ⟨v, h1, h2, _, hb⟩ => ⟨v, h1, IntsO.of_own ⟨h2, by simp, by simp⟩, hb⟩
  · obtain ⟨b, o, e, hb, hc⟩ := hx hp
    injection e with e
    subst e
    refine (Any.slices_Clone_int Try.laysClone b o xs.length c xs w (Nat.le_refl _) (by omega) (fun j hj => ?_)).mono ?_
    · have h := (hc j (xs.getD j 0) (by rw [List.getD_eq_getElem?_getD, List.getElem?_eq_getElem hj]; rfl)).1
      simpa using h
    · rintro e w' ⟨v', rfl, ho, hnn, hb⟩
      rw [List.take_of_length_le (Nat.le_refl _)] at ho
      exact ⟨v', rfl, IntsO.of_own ⟨ho, hn, hr⟩, hb⟩

end Go.Proofs.Ytcmlflppndfdcaa

/- Copies: slices.Clone at []int, append onto a fresh empty slice, copies of matrices and quivers on both sides. -/
namespace Go.Proofs.Ytcmlflppndfdcaa
set_option linter.unusedVariables false
set_option linter.unusedSimpArgs false
open Go.RowKit

/-- append of ints onto a slice that has just been made and holds nothing: what was there stands. -/
theorem wpList_append_fresh {w : World} {ops : Array Oper} {rest : List Oper} {o : Oper} {a : Act} {Q : Exit → Act → World → Prop} (hgd : o.guard = none) (s x : Operand)
    (ho : o.op = .call { callee := .builtin .append, args := #[s, x], argTypes := #[22, 22] })
    (g lo B : Nat) (cs : Array Value) (hs : a.eval s = .slice (some ⟨g, 0, none⟩) 0 0) (hg : Blk w g 3 cs) (hcs : cs.size = 0) (hlo : lo ≤ g) (A : Option Addr) (c : Nat) (news : List Int) (hx : a.eval x = .slice A news.length c) (hr : SlI w B (.slice A news.length c) news)
    (h : ∀ v' w', OwnI w' lo v' news → Below w.heap.size w w' → wpList Try.prog ops Q rest (a.put o.dst v') w') : wpList Try.prog ops Q (o :: rest) a w := by
  obtain ⟨i0, hi, hz0, hz1, hz2⟩ := info_parts infoInt
  have hn := hr
  obtain ⟨_, _, _, _, _, hn, hcell⟩ := hn
  have hI := SlI.i64 hr
  refine wpList_plain hgd fun K hK => ?_
  by_cases hp : 0 < news.length
  · obtain ⟨b, of, eA, hb, hc⟩ := hcell hp
    have hA := NewsAt.of_sl hr
    obtain ⟨hl, hnews⟩ := hA
    obtain ⟨b', of', eA', hc'⟩ := hnews.resolve_left (by omega)
    subst eA'
    have hadd : ∀ j, (⟨b', of', none⟩ : Addr).add j = ⟨b', of' + j, none⟩ := by intro j; unfold Addr.add; split <;> simp_all
    obtain ⟨v', w', hrun, hown, hgr⟩ := run_append_arg_grows (P := Try.prog) w 22 o.type 3 i0 _ 1 8 Try.underlying22 hi hz0 hz1 hz2 rfl (by decide) ⟨g, 0, none⟩ 0 0 [] (by simp) (by intro j u hj; simp at hj) ⟨b', of', none⟩ news.length c (news.map (Value.int .i64)) hl (fun j u hj => by rw [hadd]; exact hc' j u hj) (by omega) (by simp only [maxLen]; omega) (by omega)
    unfold Oper.wp execOp
    simp only [ho, resolve, invoke, builtin, Sem.run_bind, Sem.run_pure, Result.andThen_ok, List.map_toArray, List.map_cons, List.map_nil, hs, hx, hrun]
    refine hK _ _ (h v' w' ?_ ⟨hgr.os, hgr.tape, hgr.output, hgr.size, fun k hk => hgr.block k hk (by simp)⟩)
    have hgl := hg.lt
    exact OwnI.lower (base := w.heap.size) ⟨by simpa using hown, hn, hI⟩ (by omega)
  · have h0 : news = [] := List.eq_nil_of_length_eq_zero (by omega)
    subst h0
    have hrun : (Builtin.append_ #[22, 22] o.type #[.slice (some ⟨g, 0, none⟩) 0 0, .slice A 0 c]).run Try.prog w = .ok (.slice (some ⟨g, 0, none⟩) 0 0) w := by
      cases A <;> simp [Builtin.append_, run_underlying (P := Try.prog) Try.underlying22, sizeOf, typeInfo, hi, Builtin.lenOf, Builtin.firstCells, storeCells, loadCells, loadCellsFrom]
    simp only [List.length_nil] at hx
    unfold Oper.wp execOp
    simp only [ho, resolve, invoke, builtin, Sem.run_bind, Sem.run_pure, Result.andThen_ok, List.map_toArray, List.map_cons, List.map_nil, hs, hx, hrun]
    refine hK _ _ (h _ w ?_ (Below.refl _ _))
    have := hg.own (base := lo) (n := 0) (cap := 0) (size := 1) hlo (Nat.le_refl _) (by simp only [maxLen]; omega) (by omega)
    exact ⟨by simpa using this, by simp, by simp⟩

/-- a slice that has just been made and holds nothing -/
def Fresh (w : World) (lo : Nat) (u : Value) : Prop := ∃ g, u = .slice (some ⟨g, 0, none⟩) 0 0 ∧ lo ≤ g ∧ Blk w g 3 #[]
theorem Fresh.below {w w' : World} {lo : Nat} {u : Value} (h : Fresh w lo u) (hb : Below w.heap.size w w') : Fresh w' lo u := by
  obtain ⟨g, e, h1, h2⟩ := h
  exact ⟨g, e, h1, h2.call hb⟩
theorem Fresh.new (w : World) {lo : Nat} (h : lo ≤ w.heap.size) : Fresh (w.alloc (.cells #[] 3)) lo (.slice (some ⟨w.heap.size, 0, none⟩) 0 0) := ⟨_, rfl, h, Blk.new _ _ _⟩

set_option maxHeartbeats 3200000 in
theorem l3Copy_any (u : Value) (m : Mx) (w0 : World) (hu : MxR w0 w0.heap.size u m) :
    Calls Try.prog 64 #[u] w0 fun e w' => ∃ v, e = .returned v ∧ MxO w' w0.heap.size w'.heap.size v m ∧ Below w0.heap.size w0 w' := by
  obtain ⟨A, c, rfl, hf, hr, hc, lf⟩ := hu.open_
  clear hu
  obtain ⟨W, hW⟩ : ∃ W, W = (w0.alloc (.cells #[.int .i64 m.r, .int .i64 m.c, .slice A m.a.length c] 84)).alloc (.cells #[.int .i64 0, .int .i64 0, .slice none 0 0] 84) := ⟨_, rfl⟩
  have g0 : Below w0.heap.size w0 W := by rw [hW]; exact ((Below.refl _ _).alloc (Nat.le_refl _) _).alloc (by simp) _
  have k1 : Blk W w0.heap.size 84 #[.int .i64 m.r, .int .i64 m.c, .slice A m.a.length c] := by rw [hW]; exact (Blk.new _ _ _).alloc _
  have k2 : Blk W (w0.heap.size + 1) 84 #[.int .i64 0, .int .i64 0, .slice none 0 0] := by
    rw [hW]
    have := Blk.new (w0.alloc (.cells #[.int .i64 m.r, .int .i64 m.c, .slice A m.a.length c] 84)) 84 #[.int .i64 0, .int .i64 0, .slice none 0 0]
    simpa only [World.size_alloc] using this
  have sz : W.heap.size = w0.heap.size + 1 + 1 := by rw [hW]; simp
  have SZ := Lib.hid sz
  clear sz
  replace hf := SlI.next g0 hf
  go_enter Try.func64, Try.ntmps64
  go_wp2
  rw [← hW]; clear hW
  refine wp_region_net (by kernel_rfl) [.eq (.pointer (some ⟨w0.heap.size, 0, none⟩)), .eq (.int .i64 m.r), .eq (.pointer (some ⟨w0.heap.size, 1, none⟩)), .eq (.int .i64 m.c), rel 4 (fun u lo hi w => Fresh w W.heap.size u), .eq (.pointer (some ⟨w0.heap.size, 2, none⟩)), .eq (.slice A m.a.length c), rel 7 (fun u lo hi w => OwnI w W.heap.size u m.a), rel 8 (fun u lo hi w => ∃ s, u = .agg #[.int .i64 m.r, .int .i64 m.c, s] ∧ OwnI w W.heap.size s m.a)] [[], [0], [], [2], [], [], [5], [4, 5, 6], [0, 1, 2, 3, 4, 5, 6, 7], [0, 1, 2, 3, 4, 5, 6, 7, 8]] 9 (by kernel_rfl) ⟨trivial, trivial, trivial, trivial, rel_stable (fun u lo hi w w' h hb => h.below hb), trivial, trivial, rel_stable (fun u lo hi w w' h hb => h.below hb), rel_stable (fun u lo hi w w' ⟨s, e, h⟩ hb => ⟨s, e, h.below hb⟩), trivial⟩ ⟨?_, ?_, ?_, ?_, ?_, ?_, ?_, ?_, ?_, trivial⟩ ?_
  · intro x w hb hk Q' hQ
    clear hk
    simp only [netAct, dstAt, List.getElem?_toArray, List.getElem?_cons_zero, List.getElem?_cons_succ, Option.bind_some, Act.put, List.setIfInBounds_toArray, List.set_cons_zero, List.set_cons_succ] at hQ ⊢
    go_wp2
    exact hQ (.pointer (some ⟨w0.heap.size, 0, none⟩)) _ (Below.refl _ _) rfl
  · intro x w hb hk Q' hQ
    have h0 : x.v 0 = .pointer (some ⟨w0.heap.size, 0, none⟩) := (hk 0 (by decide)).1
    clear hk
    simp only [netAct, dstAt, List.getElem?_toArray, List.getElem?_cons_zero, List.getElem?_cons_succ, Option.bind_some, Act.put, List.setIfInBounds_toArray, List.set_cons_zero, List.set_cons_succ] at hQ ⊢
    simp only [h0] at hQ ⊢
    clear h0
    have c0 := (k1.call hb).cell' (i := 0) rfl
    go_wp2
    exact hQ (.int .i64 m.r) _ (Below.refl _ _) rfl
  · intro x w hb hk Q' hQ
    clear hk
    simp only [netAct, dstAt, List.getElem?_toArray, List.getElem?_cons_zero, List.getElem?_cons_succ, Option.bind_some, Act.put, List.setIfInBounds_toArray, List.set_cons_zero, List.set_cons_succ] at hQ ⊢
    go_wp2
    exact hQ (.pointer (some ⟨w0.heap.size, 1, none⟩)) _ (Below.refl _ _) rfl
  · intro x w hb hk Q' hQ
    have h2 : x.v 2 = .pointer (some ⟨w0.heap.size, 1, none⟩) := (hk 2 (by decide)).1
    clear hk
    simp only [netAct, dstAt, List.getElem?_toArray, List.getElem?_cons_zero, List.getElem?_cons_succ, Option.bind_some, Act.put, List.setIfInBounds_toArray, List.set_cons_zero, List.set_cons_succ] at hQ ⊢
    simp only [h2] at hQ ⊢
    clear h2
    have c1 := (k1.call hb).cell' (i := 1) rfl
    go_wp2
    exact hQ (.int .i64 m.c) _ (Below.refl _ _) rfl
  · intro x w hb hk Q' hQ
    clear hk
    simp only [netAct, dstAt, List.getElem?_toArray, List.getElem?_cons_zero, List.getElem?_cons_succ, Option.bind_some, Act.put, List.setIfInBounds_toArray, List.set_cons_zero, List.set_cons_succ] at hQ ⊢
    go_wp2
    exact hQ _ _ (below_alloc _ _) (Fresh.new _ hb.size)
  · intro x w hb hk Q' hQ
    clear hk
    simp only [netAct, dstAt, List.getElem?_toArray, List.getElem?_cons_zero, List.getElem?_cons_succ, Option.bind_some, Act.put, List.setIfInBounds_toArray, List.set_cons_zero, List.set_cons_succ] at hQ ⊢
    go_wp2
    exact hQ (.pointer (some ⟨w0.heap.size, 2, none⟩)) _ (Below.refl _ _) rfl
  · intro x w hb hk Q' hQ
    have h5 : x.v 5 = .pointer (some ⟨w0.heap.size, 2, none⟩) := (hk 5 (by decide)).1
    clear hk
    simp only [netAct, dstAt, List.getElem?_toArray, List.getElem?_cons_zero, List.getElem?_cons_succ, Option.bind_some, Act.put, List.setIfInBounds_toArray, List.set_cons_zero, List.set_cons_succ] at hQ ⊢
    simp only [h5] at hQ ⊢
    clear h5
    have c2 := (k1.call hb).cell' (i := 2) rfl
    go_wp2
    exact hQ (.slice A m.a.length c) _ (Below.refl _ _) rfl
  · intro x w hb hk Q' hQ
    have h4 : Fresh w W.heap.size (x.v 4) := (hk 4 (by decide)).1
    have h5 : x.v 5 = .pointer (some ⟨w0.heap.size, 2, none⟩) := (hk 5 (by decide)).1
    have h6 : x.v 6 = .slice A m.a.length c := (hk 6 (by decide)).1
    have s4 := (hk 4 (by decide)).2
    clear hk
    simp only [netAct, dstAt, List.getElem?_toArray, List.getElem?_cons_zero, List.getElem?_cons_succ, Option.bind_some, Act.put, List.setIfInBounds_toArray, List.set_cons_zero, List.set_cons_succ] at hQ ⊢
    simp only [h5, h6] at hQ ⊢
    clear h5 h6
    obtain ⟨g, e4, hg, hB⟩ := h4
    rw [e4] at hQ ⊢
    refine wpList_append_fresh (by rfl) (.tmp 7) (.tmp 9) (by rfl) g W.heap.size w.heap.size #[] (by rfl) hB rfl hg A c m.a (by rfl) (SlI.next hb hf) ?_
    intro v' w' ho hb'
    exact hQ _ _ hb' ho
  · intro x w hb hk Q' hQ
    have h0 : x.v 0 = .pointer (some ⟨w0.heap.size, 0, none⟩) := (hk 0 (by decide)).1
    have h1 : x.v 1 = .int .i64 m.r := (hk 1 (by decide)).1
    have h2 : x.v 2 = .pointer (some ⟨w0.heap.size, 1, none⟩) := (hk 2 (by decide)).1
    have h3 : x.v 3 = .int .i64 m.c := (hk 3 (by decide)).1
    have h4 : Fresh w W.heap.size (x.v 4) := (hk 4 (by decide)).1
    have h5 : x.v 5 = .pointer (some ⟨w0.heap.size, 2, none⟩) := (hk 5 (by decide)).1
    have h6 : x.v 6 = .slice A m.a.length c := (hk 6 (by decide)).1
    have h7 : OwnI w W.heap.size (x.v 7) m.a := (hk 7 (by decide)).1
    have s4 := (hk 4 (by decide)).2
    have s7 := (hk 7 (by decide)).2
    clear hk
    simp only [netAct, dstAt, List.getElem?_toArray, List.getElem?_cons_zero, List.getElem?_cons_succ, Option.bind_some, Act.put, List.setIfInBounds_toArray, List.set_cons_zero, List.set_cons_succ] at hQ ⊢
    simp only [h0, h1, h2, h3, h5, h6] at hQ ⊢
    clear h0 h1 h2 h3 h5 h6
    obtain ⟨A', c', e7, _, _⟩ := h7.form
    rw [e7] at h7
    rw [e7] at hQ ⊢
    go_wp2
    exact hQ (.agg #[.int .i64 m.r, .int .i64 m.c, .slice A' m.a.length c']) w (Below.refl _ _) ⟨_, rfl, h7⟩
  · intro x w hb hk hiv hdj
    have h0 : x.v 0 = .pointer (some ⟨w0.heap.size, 0, none⟩) := hk 0 (by decide)
    have h1 : x.v 1 = .int .i64 m.r := hk 1 (by decide)
    have h2 : x.v 2 = .pointer (some ⟨w0.heap.size, 1, none⟩) := hk 2 (by decide)
    have h3 : x.v 3 = .int .i64 m.c := hk 3 (by decide)
    have h4 : Fresh w W.heap.size (x.v 4) := hk 4 (by decide)
    have h5 : x.v 5 = .pointer (some ⟨w0.heap.size, 2, none⟩) := hk 5 (by decide)
    have h6 : x.v 6 = .slice A m.a.length c := hk 6 (by decide)
    have h7 : OwnI w W.heap.size (x.v 7) m.a := hk 7 (by decide)
    have h8 : ∃ s, (x.v 8) = .agg #[.int .i64 m.r, .int .i64 m.c, s] ∧ OwnI w W.heap.size s m.a := hk 8 (by decide)
    clear hk
    simp only [netAct, dstAt, List.getElem?_toArray, List.getElem?_cons_zero, List.getElem?_cons_succ, Option.bind_some, Act.put, List.setIfInBounds_toArray, List.set_cons_zero, List.set_cons_succ]
    simp only [List.drop_succ_cons, List.drop_zero, h0, h1, h2, h3, h5, h6]
    clear h0 h1 h2 h3 h5 h6
    obtain ⟨s, e8, ho⟩ := h8
    obtain ⟨A', c', es, _, _⟩ := ho.form
    subst es
    rw [e8]
    have k2' := k2.call hb
    have f2 := k2'.frozen
    have r0 := k2'.cell' (i := 0) rfl
    have r1 := k2'.cell' (i := 1) rfl
    have r2 := k2'.cell' (i := 2) rfl
    have hbs := hb.size
    have sz := SZ.out
    have gf := g0.trans (hb.mono g0.size)
    clear h4 h7 k1 k2 sz
    go_wp2
    have sz := SZ.out
    refine bodyPost_ret (v := .agg #[.int .i64 m.r, .int .i64 m.c, .slice A' m.a.length c']) (by simp [results, go_sem, r0, r1, r2]) rfl ⟨_, rfl, ⟨_, rfl, ?_, hr, hc⟩, ((gf.setCell (by simp) _).setCell (by simp) _).setCell (by simp) _⟩
    exact ((((IntsO.of_own ho).set (by simp; omega) _).set (by simp; omega) _).set (by simp; omega) _).wider (by omega) (by simp)
end Go.Proofs.Ytcmlflppndfdcaa

/- Copies of quivers on both sides, of matrices on the program's. -/
namespace Go.Proofs.Ytcmlflppndfdcaa
set_option linter.unusedVariables false
set_option linter.unusedSimpArgs false
open Go.RowKit

theorem IntsO.form {w : World} {lo hi : Nat} {v : Value} {l : List Int} (h : IntsO w lo hi v l) : ∃ A c, v = .slice A l.length c := by
  obtain ⟨A, c, e, _⟩ := h.1.form
  exact ⟨A, c, e⟩
theorem QuivO.setLow {w : World} {lo hi : Nat} {v : Value} {q : Qv} (h : QuivO w lo hi v q) {p : Addr} (hp : p.block < lo) (u : Value) : QuivO (w.setCell p u) lo hi v q :=
  h.chg (chg_set (lo := p.block) (hi := p.block + 1) (Nat.le_refl _) (by omega)) (.inr (by omega))
theorem QuivO.wider {w : World} {lo hi lo' hi' : Nat} {v : Value} {q : Qv} (h : QuivO w lo hi v q) (h1 : lo' ≤ lo) (h2 : hi ≤ hi') : QuivO w lo' hi' v q := by
  obtain ⟨a, b, e, hF, hr⟩ := h
  exact ⟨a, b, e, hF.mono h1 h2, hr⟩

set_option maxHeartbeats 800000 in
theorem mxClone_any (u : Value) (m : Mx) (w0 : World) (hu : MxR w0 w0.heap.size u m) :
    Calls Try.prog 142 #[u] w0 fun e w' => ∃ v, e = .returned v ∧ MxO w' w0.heap.size w'.heap.size v m ∧ Below w0.heap.size w0 w' := by
  obtain ⟨A, c, rfl, hf, hr, hc, lf⟩ := hu.open_
  clear hu
  obtain ⟨W, hW⟩ : ∃ W, W = (w0.alloc (.cells #[.int .i64 m.r, .int .i64 m.c, .slice A m.a.length c] 84)).alloc (.cells #[.int .i64 0, .int .i64 0, .slice none 0 0] 84) := ⟨_, rfl⟩
  have g0 : Below w0.heap.size w0 W := by rw [hW]; exact ((Below.refl _ _).alloc (Nat.le_refl _) _).alloc (by simp) _
  have k1 : Blk W w0.heap.size 84 #[.int .i64 m.r, .int .i64 m.c, .slice A m.a.length c] := by rw [hW]; exact (Blk.new _ _ _).alloc _
  have k2 : Blk W (w0.heap.size + 1) 84 #[.int .i64 0, .int .i64 0, .slice none 0 0] := by
    rw [hW]
    have := Blk.new (w0.alloc (.cells #[.int .i64 m.r, .int .i64 m.c, .slice A m.a.length c] 84)) 84 #[.int .i64 0, .int .i64 0, .slice none 0 0]
    simpa only [World.size_alloc] using this
  have sz : W.heap.size = w0.heap.size + 1 + 1 := by rw [hW]; simp
  have SZ := Lib.hid sz
  clear sz
  replace hf := SlI.next g0 hf
  go_enter Try.func142, Try.ntmps142
  go_wp2_with fail
  rw [← hW]; clear hW
  refine (clone_own _ m.a _ hf).mono ?_; rintro e w1 ⟨v, rfl, ho, hb1⟩
  obtain ⟨A', c', rfl⟩ := ho.form
  have k1' := k1.call hb1
  have k2' := k2.call hb1
  have f1 := k1'.frozen
  have f2 := k2'.frozen
  have q0 := k1'.cell' (i := 0) rfl
  have q1 := k1'.cell' (i := 1) rfl
  have q2 := k1'.cell' (i := 2) rfl
  have r0 := k2'.cell' (i := 0) rfl
  have r1 := k2'.cell' (i := 1) rfl
  have r2 := k2'.cell' (i := 2) rfl
  have gf := g0.trans (hb1.mono g0.size)
  have hbs := hb1.size
  have HBS := Lib.hid hbs
  clear k1 k2 hbs hb1 hf
  go_wp2
  have sz := SZ.out
  have hbs := HBS.out
  refine bodyPost_ret (v := .agg #[.int .i64 m.r, .int .i64 m.c, .slice A' m.a.length c']) (by simp [results, go_sem, r0, r1, r2]) rfl ⟨_, rfl, ⟨_, rfl, ?_, hr, hc⟩, (((gf.setCell (by simp) _).setCell (by simp) _).setCell (by simp) _).setCell (by simp) _⟩
  exact ((((ho.set (by simp; omega) _).set (by simp; omega) _).set (by simp; omega) _).set (by simp; omega) _).wider (by omega) (by simp)

/-- two rows of two stretches that are apart -/
theorem fam_apart {w : World} {lo hi l1 h1 l2 h2 : Nat} {a b : Value} {l m : List Int} (ha : IntsO w l1 h1 a l) (hb : IntsO w l2 h2 b m) (hd : h1 ≤ l2 ∨ h2 ≤ l1) (k1 : lo ≤ l1) (k2 : lo ≤ l2) (k3 : h1 ≤ hi) (k4 : h2 ≤ hi) : Fam w lo hi [(a, l), (b, m)] := by
  refine ⟨fun p hp => ?_, ?_⟩
  · simp only [List.mem_cons, List.not_mem_nil, or_false] at hp
    rcases hp with rfl | rfl
    · exact ha.wider k1 k3
    · exact hb.wider k2 k4
  · simp only [List.pairwise_cons, List.mem_cons, List.not_mem_nil, or_false, forall_eq, false_implies, implies_true, List.Pairwise.nil, and_true]
    rcases hA : a.ownBlock with _ | x
    · exact .inl rfl
    · right
      intro e
      have h3 := ha.2 x hA
      have h4 := (ha.1.lt x hA).1
      have h5 := hb.2 x e.symm
      have h6 := (hb.1.lt x e.symm).1
      omega

set_option maxHeartbeats 3200000 in
theorem qvClone_any (u : Value) (q : Qv) (w0 : World) (hu : QvR w0 w0.heap.size u q) :
    Calls Try.prog 125 #[u] w0 fun e w' => ∃ v, e = .returned v ∧ QuivO w' w0.heap.size w'.heap.size v q ∧ Below w0.heap.size w0 w' := by
  obtain ⟨A, c, C, d, rfl, hf, ht, hr, lf, lt⟩ := hu.open_
  clear hu
  obtain ⟨W, hW⟩ : ∃ W, W = (w0.alloc (.cells #[.int .i64 q.v, .slice A q.f.length c, .slice C q.t.length d] 28)).alloc (.cells #[.int .i64 0, .slice none 0 0, .slice none 0 0] 28) := ⟨_, rfl⟩
  have g0 : Below w0.heap.size w0 W := by rw [hW]; exact ((Below.refl _ _).alloc (Nat.le_refl _) _).alloc (by simp) _
  have k1 : Blk W w0.heap.size 28 #[.int .i64 q.v, .slice A q.f.length c, .slice C q.t.length d] := by rw [hW]; exact (Blk.new _ _ _).alloc _
  have k2 : Blk W (w0.heap.size + 1) 28 #[.int .i64 0, .slice none 0 0, .slice none 0 0] := by
    rw [hW]
    have := Blk.new (w0.alloc (.cells #[.int .i64 q.v, .slice A q.f.length c, .slice C q.t.length d] 28)) 28 #[.int .i64 0, .slice none 0 0, .slice none 0 0]
    simpa only [World.size_alloc] using this
  have sz : W.heap.size = w0.heap.size + 1 + 1 := by rw [hW]; simp
  have SZ := Lib.hid sz
  clear sz
  replace hf := SlI.next g0 hf
  replace ht := SlI.next g0 ht
  go_enter Try.func125, Try.ntmps125
  go_wp2
  rw [← hW]; clear hW
  refine wp_region_net (by kernel_rfl) [.eq (.pointer (some ⟨w0.heap.size, 0, none⟩)), .eq (.int .i64 q.v), .eq (.pointer (some ⟨w0.heap.size, 1, none⟩)), .eq (.slice A q.f.length c), rel 4 (fun u lo hi w => IntsO w lo hi u q.f), .eq (.pointer (some ⟨w0.heap.size, 2, none⟩)), .eq (.slice C q.t.length d), rel 7 (fun u lo hi w => IntsO w lo hi u q.t), .rel (fun x w => x.v 8 = .agg #[.int .i64 q.v, x.v 4, x.v 7])] [[], [0], [], [2], [2, 3], [], [5], [2, 3, 4, 5, 6], [0, 1, 2, 3, 4, 5, 6, 7], [0, 1, 2, 3, 4, 5, 6, 7, 8]] 9 (by kernel_rfl) ⟨trivial, trivial, trivial, trivial, rel_stable (fun u lo hi w w' h hb => h.below hb), trivial, trivial, rel_stable (fun u lo hi w w' h hb => h.below hb), fun x w w' h hb => h, trivial⟩ ⟨?_, ?_, ?_, ?_, ?_, ?_, ?_, ?_, ?_, trivial⟩ ?_
  · intro x w hb hk Q' hQ
    clear hk
    simp only [netAct, dstAt, List.getElem?_toArray, List.getElem?_cons_zero, List.getElem?_cons_succ, Option.bind_some, Act.put, List.setIfInBounds_toArray, List.set_cons_zero, List.set_cons_succ] at hQ ⊢
    go_wp2
    exact hQ (.pointer (some ⟨w0.heap.size, 0, none⟩)) _ (Below.refl _ _) rfl
  · intro x w hb hk Q' hQ
    have h0 : x.v 0 = .pointer (some ⟨w0.heap.size, 0, none⟩) := (hk 0 (by decide)).1
    clear hk
    simp only [netAct, dstAt, List.getElem?_toArray, List.getElem?_cons_zero, List.getElem?_cons_succ, Option.bind_some, Act.put, List.setIfInBounds_toArray, List.set_cons_zero, List.set_cons_succ] at hQ ⊢
    simp only [h0] at hQ ⊢
    clear h0
    have c0 := (k1.call hb).cell' (i := 0) rfl
    go_wp2
    exact hQ (.int .i64 q.v) _ (Below.refl _ _) rfl
  · intro x w hb hk Q' hQ
    clear hk
    simp only [netAct, dstAt, List.getElem?_toArray, List.getElem?_cons_zero, List.getElem?_cons_succ, Option.bind_some, Act.put, List.setIfInBounds_toArray, List.set_cons_zero, List.set_cons_succ] at hQ ⊢
    go_wp2
    exact hQ (.pointer (some ⟨w0.heap.size, 1, none⟩)) _ (Below.refl _ _) rfl
  · intro x w hb hk Q' hQ
    have h2 : x.v 2 = .pointer (some ⟨w0.heap.size, 1, none⟩) := (hk 2 (by decide)).1
    clear hk
    simp only [netAct, dstAt, List.getElem?_toArray, List.getElem?_cons_zero, List.getElem?_cons_succ, Option.bind_some, Act.put, List.setIfInBounds_toArray, List.set_cons_zero, List.set_cons_succ] at hQ ⊢
    simp only [h2] at hQ ⊢
    clear h2
    have c1 := (k1.call hb).cell' (i := 1) rfl
    go_wp2
    exact hQ (.slice A q.f.length c) _ (Below.refl _ _) rfl
  · intro x w hb hk Q' hQ
    have h2 : x.v 2 = .pointer (some ⟨w0.heap.size, 1, none⟩) := (hk 2 (by decide)).1
    have h3 : x.v 3 = .slice A q.f.length c := (hk 3 (by decide)).1
    clear hk
    simp only [netAct, dstAt, List.getElem?_toArray, List.getElem?_cons_zero, List.getElem?_cons_succ, Option.bind_some, Act.put, List.setIfInBounds_toArray, List.set_cons_zero, List.set_cons_succ] at hQ ⊢
    simp only [h2, h3] at hQ ⊢
    clear h2 h3
    go_wp2_with fail
    refine (clone_own _ q.f _ (SlI.next hb hf)).mono ?_; rintro e w1 ⟨v1, rfl, ho, hb1⟩
    go_wp2
    exact hQ _ _ hb1 ho
  · intro x w hb hk Q' hQ
    clear hk
    simp only [netAct, dstAt, List.getElem?_toArray, List.getElem?_cons_zero, List.getElem?_cons_succ, Option.bind_some, Act.put, List.setIfInBounds_toArray, List.set_cons_zero, List.set_cons_succ] at hQ ⊢
    go_wp2
    exact hQ (.pointer (some ⟨w0.heap.size, 2, none⟩)) _ (Below.refl _ _) rfl
  · intro x w hb hk Q' hQ
    have h5 : x.v 5 = .pointer (some ⟨w0.heap.size, 2, none⟩) := (hk 5 (by decide)).1
    clear hk
    simp only [netAct, dstAt, List.getElem?_toArray, List.getElem?_cons_zero, List.getElem?_cons_succ, Option.bind_some, Act.put, List.setIfInBounds_toArray, List.set_cons_zero, List.set_cons_succ] at hQ ⊢
    simp only [h5] at hQ ⊢
    clear h5
    have c2 := (k1.call hb).cell' (i := 2) rfl
    go_wp2
    exact hQ (.slice C q.t.length d) _ (Below.refl _ _) rfl
  · intro x w hb hk Q' hQ
    have h2 : x.v 2 = .pointer (some ⟨w0.heap.size, 1, none⟩) := (hk 2 (by decide)).1
    have h3 : x.v 3 = .slice A q.f.length c := (hk 3 (by decide)).1
    have h4 : IntsO w (x.lo 4) (x.hi 4) (x.v 4) q.f := (hk 4 (by decide)).1
    have h5 : x.v 5 = .pointer (some ⟨w0.heap.size, 2, none⟩) := (hk 5 (by decide)).1
    have h6 : x.v 6 = .slice C q.t.length d := (hk 6 (by decide)).1
    have s4 := (hk 4 (by decide)).2
    clear hk
    simp only [netAct, dstAt, List.getElem?_toArray, List.getElem?_cons_zero, List.getElem?_cons_succ, Option.bind_some, Act.put, List.setIfInBounds_toArray, List.set_cons_zero, List.set_cons_succ] at hQ ⊢
    simp only [h2, h3, h5, h6] at hQ ⊢
    clear h2 h3 h5 h6
    go_wp2_with fail
    refine (clone_own _ q.t _ (SlI.next hb ht)).mono ?_; rintro e w1 ⟨v1, rfl, ho, hb1⟩
    go_wp2
    exact hQ _ _ hb1 ho
  · intro x w hb hk Q' hQ
    have h0 : x.v 0 = .pointer (some ⟨w0.heap.size, 0, none⟩) := (hk 0 (by decide)).1
    have h1 : x.v 1 = .int .i64 q.v := (hk 1 (by decide)).1
    have h2 : x.v 2 = .pointer (some ⟨w0.heap.size, 1, none⟩) := (hk 2 (by decide)).1
    have h3 : x.v 3 = .slice A q.f.length c := (hk 3 (by decide)).1
    have h4 : IntsO w (x.lo 4) (x.hi 4) (x.v 4) q.f := (hk 4 (by decide)).1
    have h5 : x.v 5 = .pointer (some ⟨w0.heap.size, 2, none⟩) := (hk 5 (by decide)).1
    have h6 : x.v 6 = .slice C q.t.length d := (hk 6 (by decide)).1
    have h7 : IntsO w (x.lo 7) (x.hi 7) (x.v 7) q.t := (hk 7 (by decide)).1
    have s4 := (hk 4 (by decide)).2
    have s7 := (hk 7 (by decide)).2
    clear hk
    simp only [netAct, dstAt, List.getElem?_toArray, List.getElem?_cons_zero, List.getElem?_cons_succ, Option.bind_some, Act.put, List.setIfInBounds_toArray, List.set_cons_zero, List.set_cons_succ] at hQ ⊢
    simp only [h0, h1, h2, h3, h5, h6] at hQ ⊢
    clear h0 h1 h2 h3 h5 h6
    obtain ⟨s4A, s4c, e4⟩ := h4.form
    obtain ⟨s7A, s7c, e7⟩ := h7.form
    have hQ' := hQ (.agg #[.int .i64 q.v, x.v 4, x.v 7]) w (Below.refl _ _) rfl
    rw [e4, e7] at hQ' ⊢
    go_wp2
    exact hQ'
  · intro x w hb hk hiv hdj
    have h0 : x.v 0 = .pointer (some ⟨w0.heap.size, 0, none⟩) := hk 0 (by decide)
    have h1 : x.v 1 = .int .i64 q.v := hk 1 (by decide)
    have h2 : x.v 2 = .pointer (some ⟨w0.heap.size, 1, none⟩) := hk 2 (by decide)
    have h3 : x.v 3 = .slice A q.f.length c := hk 3 (by decide)
    have h4 : IntsO w (x.lo 4) (x.hi 4) (x.v 4) q.f := hk 4 (by decide)
    have h5 : x.v 5 = .pointer (some ⟨w0.heap.size, 2, none⟩) := hk 5 (by decide)
    have h6 : x.v 6 = .slice C q.t.length d := hk 6 (by decide)
    have h7 : IntsO w (x.lo 7) (x.hi 7) (x.v 7) q.t := hk 7 (by decide)
    have h8 : x.v 8 = .agg #[.int .i64 q.v, x.v 4, x.v 7] := hk 8 (by decide)
    clear hk
    simp only [netAct, dstAt, List.getElem?_toArray, List.getElem?_cons_zero, List.getElem?_cons_succ, Option.bind_some, Act.put, List.setIfInBounds_toArray, List.set_cons_zero, List.set_cons_succ]
    simp only [List.drop_succ_cons, List.drop_zero, h0, h1, h2, h3, h5, h6]
    clear h0 h1 h2 h3 h5 h6
    have hF := fam_apart h4 h7 (hdj 4 7 (by decide) (by decide) (by decide)) (hiv 4 (by decide)).1 (hiv 7 (by decide)).1 (hiv 4 (by decide)).2.2 (hiv 7 (by decide)).2.2
    have hQ : QuivO w W.heap.size w.heap.size (.agg #[.int .i64 q.v, x.v 4, x.v 7]) q := ⟨_, _, rfl, hF, hr⟩
    obtain ⟨s4A, s4c, e4⟩ := h4.form
    obtain ⟨s7A, s7c, e7⟩ := h7.form
    rw [e4, e7] at hQ h8
    rw [h8]
    have k2' := k2.call hb
    have f2 := k2'.frozen
    have r0 := k2'.cell' (i := 0) rfl
    have r1 := k2'.cell' (i := 1) rfl
    have r2 := k2'.cell' (i := 2) rfl
    have gf := g0.trans (hb.mono g0.size)
    have HBS := Lib.hid hb.size
    have HQ := Lib.hid hQ
    clear h4 h7 h8 e4 e7 k1 k2 hb hf ht hF hQ hdj hiv
    go_wp2
    have sz := SZ.out
    have hbs := HBS.out
    refine bodyPost_ret (v := .agg #[.int .i64 q.v, .slice s4A q.f.length s4c, .slice s7A q.t.length s7c]) (by simp [results, go_sem, r0, r1, r2]) rfl ⟨_, rfl, QuivO.wider (lo := W.heap.size) (hi := w.heap.size) ?_ (by omega) (by simp), ((gf.setCell (by simp) _).setCell (by simp) _).setCell (by simp) _⟩
    exact ((HQ.out.setLow (by simp; omega) _).setLow (by simp; omega) _).setLow (by simp; omega) _

/-- a quiver whose rows the call made; whether they are apart from one another is not said -/
def QuivI (w : World) (lo hi : Nat) (val : Value) (q : Qv) : Prop := ∃ a b, val = .agg #[.int .i64 q.v, a, b] ∧ IntsO w lo hi a q.f ∧ IntsO w lo hi b q.t ∧ I64 q.v
theorem QuivI.below {w w' : World} {lo hi : Nat} {v : Value} {q : Qv} (h : QuivI w lo hi v q) (hb : Below w.heap.size w w') : QuivI w' lo hi v q := by
  obtain ⟨a, b, e, h1, h2, h3⟩ := h
  exact ⟨a, b, e, h1.below hb, h2.below hb, h3⟩
theorem QuivI.rd {w : World} {lo hi : Nat} {v : Value} {q : Qv} (h : QuivI w lo hi v q) : QvR w w.heap.size v q := by
  obtain ⟨a, b, e, h1, h2, h3⟩ := h
  exact ⟨a, b, e, h1.rd, h2.rd, h3⟩
theorem QuivI.set {w : World} {lo hi : Nat} {v : Value} {q : Qv} (h : QuivI w lo hi v q) {p : Addr} (hp : p.block < lo) (u : Value) : QuivI (w.setCell p u) lo hi v q := by
  obtain ⟨a, b, e, h1, h2, h3⟩ := h
  exact ⟨a, b, e, h1.set hp u, h2.set hp u, h3⟩
theorem QuivI.wider {w : World} {lo hi lo' hi' : Nat} {v : Value} {q : Qv} (h : QuivI w lo hi v q) (k1 : lo' ≤ lo) (k2 : hi ≤ hi') : QuivI w lo' hi' v q := by
  obtain ⟨a, b, e, h1, h2, h3⟩ := h
  exact ⟨a, b, e, h1.wider k1 k2, h2.wider k1 k2, h3⟩

set_option maxHeartbeats 3200000 in
theorem l6Copy_any (u : Value) (q : Qv) (w0 : World) (hu : QvR w0 w0.heap.size u q) :
    Calls Try.prog 91 #[u] w0 fun e w' => ∃ v, e = .returned v ∧ QuivI w' w0.heap.size w'.heap.size v q ∧ Below w0.heap.size w0 w' := by
  obtain ⟨A, c, C, d, rfl, hf, ht, hr, lf, lt⟩ := hu.open_
  clear hu
  obtain ⟨W, hW⟩ : ∃ W, W = (w0.alloc (.cells #[.int .i64 q.v, .slice A q.f.length c, .slice C q.t.length d] 28)).alloc (.cells #[.int .i64 0, .slice none 0 0, .slice none 0 0] 28) := ⟨_, rfl⟩
  have g0 : Below w0.heap.size w0 W := by rw [hW]; exact ((Below.refl _ _).alloc (Nat.le_refl _) _).alloc (by simp) _
  have k1 : Blk W w0.heap.size 28 #[.int .i64 q.v, .slice A q.f.length c, .slice C q.t.length d] := by rw [hW]; exact (Blk.new _ _ _).alloc _
  have k2 : Blk W (w0.heap.size + 1) 28 #[.int .i64 0, .slice none 0 0, .slice none 0 0] := by
    rw [hW]
    have := Blk.new (w0.alloc (.cells #[.int .i64 q.v, .slice A q.f.length c, .slice C q.t.length d] 28)) 28 #[.int .i64 0, .slice none 0 0, .slice none 0 0]
    simpa only [World.size_alloc] using this
  have sz : W.heap.size = w0.heap.size + 1 + 1 := by rw [hW]; simp
  have SZ := Lib.hid sz
  clear sz
  replace hf := SlI.next g0 hf
  replace ht := SlI.next g0 ht
  go_enter Try.func91, Try.ntmps91
  go_wp2
  rw [← hW]; clear hW
  refine wp_region_net (by kernel_rfl) [.eq (.pointer (some ⟨w0.heap.size, 0, none⟩)), .eq (.int .i64 q.v), rel 2 (fun u lo hi w => Fresh w W.heap.size u), .eq (.pointer (some ⟨w0.heap.size, 1, none⟩)), .eq (.slice A q.f.length c), rel 5 (fun u lo hi w => OwnI w W.heap.size u q.f), rel 6 (fun u lo hi w => Fresh w W.heap.size u), .eq (.pointer (some ⟨w0.heap.size, 2, none⟩)), .eq (.slice C q.t.length d), rel 9 (fun u lo hi w => OwnI w W.heap.size u q.t), .rel (fun x w => x.v 10 = .agg #[.int .i64 q.v, x.v 5, x.v 9])] [[], [0], [], [], [3], [2, 3, 4], [], [], [7], [2, 3, 4, 5, 6, 7, 8], [0, 1, 2, 3, 4, 5, 6, 7, 8, 9], [0, 1, 2, 3, 4, 5, 6, 7, 8, 9, 10]] 11 (by kernel_rfl) ⟨trivial, trivial, rel_stable (fun u lo hi w w' h hb => h.below hb), trivial, trivial, rel_stable (fun u lo hi w w' h hb => h.below hb), rel_stable (fun u lo hi w w' h hb => h.below hb), trivial, trivial, rel_stable (fun u lo hi w w' h hb => h.below hb), fun x w w' h hb => h, trivial⟩ ⟨?_, ?_, ?_, ?_, ?_, ?_, ?_, ?_, ?_, ?_, ?_, trivial⟩ ?_
  · intro x w hb hk Q' hQ
    clear hk
    simp only [netAct, dstAt, List.getElem?_toArray, List.getElem?_cons_zero, List.getElem?_cons_succ, Option.bind_some, Act.put, List.setIfInBounds_toArray, List.set_cons_zero, List.set_cons_succ] at hQ ⊢
    go_wp2
    exact hQ (.pointer (some ⟨w0.heap.size, 0, none⟩)) _ (Below.refl _ _) rfl
  · intro x w hb hk Q' hQ
    have h0 : x.v 0 = .pointer (some ⟨w0.heap.size, 0, none⟩) := (hk 0 (by decide)).1
    clear hk
    simp only [netAct, dstAt, List.getElem?_toArray, List.getElem?_cons_zero, List.getElem?_cons_succ, Option.bind_some, Act.put, List.setIfInBounds_toArray, List.set_cons_zero, List.set_cons_succ] at hQ ⊢
    simp only [h0] at hQ ⊢
    clear h0
    have c0 := (k1.call hb).cell' (i := 0) rfl
    go_wp2
    exact hQ (.int .i64 q.v) _ (Below.refl _ _) rfl
  · intro x w hb hk Q' hQ
    clear hk
    simp only [netAct, dstAt, List.getElem?_toArray, List.getElem?_cons_zero, List.getElem?_cons_succ, Option.bind_some, Act.put, List.setIfInBounds_toArray, List.set_cons_zero, List.set_cons_succ] at hQ ⊢
    go_wp2
    exact hQ _ _ (below_alloc _ _) (Fresh.new _ hb.size)
  · intro x w hb hk Q' hQ
    clear hk
    simp only [netAct, dstAt, List.getElem?_toArray, List.getElem?_cons_zero, List.getElem?_cons_succ, Option.bind_some, Act.put, List.setIfInBounds_toArray, List.set_cons_zero, List.set_cons_succ] at hQ ⊢
    go_wp2
    exact hQ (.pointer (some ⟨w0.heap.size, 1, none⟩)) _ (Below.refl _ _) rfl
  · intro x w hb hk Q' hQ
    have h3 : x.v 3 = .pointer (some ⟨w0.heap.size, 1, none⟩) := (hk 3 (by decide)).1
    clear hk
    simp only [netAct, dstAt, List.getElem?_toArray, List.getElem?_cons_zero, List.getElem?_cons_succ, Option.bind_some, Act.put, List.setIfInBounds_toArray, List.set_cons_zero, List.set_cons_succ] at hQ ⊢
    simp only [h3] at hQ ⊢
    clear h3
    have c1 := (k1.call hb).cell' (i := 1) rfl
    go_wp2
    exact hQ (.slice A q.f.length c) _ (Below.refl _ _) rfl
  · intro x w hb hk Q' hQ
    have h2 : Fresh w W.heap.size (x.v 2) := (hk 2 (by decide)).1
    have h3 : x.v 3 = .pointer (some ⟨w0.heap.size, 1, none⟩) := (hk 3 (by decide)).1
    have h4 : x.v 4 = .slice A q.f.length c := (hk 4 (by decide)).1
    have s2 := (hk 2 (by decide)).2
    clear hk
    simp only [netAct, dstAt, List.getElem?_toArray, List.getElem?_cons_zero, List.getElem?_cons_succ, Option.bind_some, Act.put, List.setIfInBounds_toArray, List.set_cons_zero, List.set_cons_succ] at hQ ⊢
    simp only [h3, h4] at hQ ⊢
    clear h3 h4
    obtain ⟨g, e2, hg, hB⟩ := h2
    rw [e2] at hQ ⊢
    refine wpList_append_fresh (by rfl) (.tmp 5) (.tmp 7) (by rfl) g W.heap.size w.heap.size #[] (by rfl) hB rfl hg A c q.f (by rfl) (SlI.next hb hf) ?_
    intro v' w' ho hb'
    exact hQ _ _ hb' ho
  · intro x w hb hk Q' hQ
    clear hk
    simp only [netAct, dstAt, List.getElem?_toArray, List.getElem?_cons_zero, List.getElem?_cons_succ, Option.bind_some, Act.put, List.setIfInBounds_toArray, List.set_cons_zero, List.set_cons_succ] at hQ ⊢
    go_wp2
    exact hQ _ _ (below_alloc _ _) (Fresh.new _ hb.size)
  · intro x w hb hk Q' hQ
    clear hk
    simp only [netAct, dstAt, List.getElem?_toArray, List.getElem?_cons_zero, List.getElem?_cons_succ, Option.bind_some, Act.put, List.setIfInBounds_toArray, List.set_cons_zero, List.set_cons_succ] at hQ ⊢
    go_wp2
    exact hQ (.pointer (some ⟨w0.heap.size, 2, none⟩)) _ (Below.refl _ _) rfl
  · intro x w hb hk Q' hQ
    have h7 : x.v 7 = .pointer (some ⟨w0.heap.size, 2, none⟩) := (hk 7 (by decide)).1
    clear hk
    simp only [netAct, dstAt, List.getElem?_toArray, List.getElem?_cons_zero, List.getElem?_cons_succ, Option.bind_some, Act.put, List.setIfInBounds_toArray, List.set_cons_zero, List.set_cons_succ] at hQ ⊢
    simp only [h7] at hQ ⊢
    clear h7
    have c2 := (k1.call hb).cell' (i := 2) rfl
    go_wp2
    exact hQ (.slice C q.t.length d) _ (Below.refl _ _) rfl
  · intro x w hb hk Q' hQ
    have h2 : Fresh w W.heap.size (x.v 2) := (hk 2 (by decide)).1
    have h3 : x.v 3 = .pointer (some ⟨w0.heap.size, 1, none⟩) := (hk 3 (by decide)).1
    have h4 : x.v 4 = .slice A q.f.length c := (hk 4 (by decide)).1
    have h5 : OwnI w W.heap.size (x.v 5) q.f := (hk 5 (by decide)).1
    have h6 : Fresh w W.heap.size (x.v 6) := (hk 6 (by decide)).1
    have h7 : x.v 7 = .pointer (some ⟨w0.heap.size, 2, none⟩) := (hk 7 (by decide)).1
    have h8 : x.v 8 = .slice C q.t.length d := (hk 8 (by decide)).1
    have s2 := (hk 2 (by decide)).2
    have s5 := (hk 5 (by decide)).2
    have s6 := (hk 6 (by decide)).2
    clear hk
    simp only [netAct, dstAt, List.getElem?_toArray, List.getElem?_cons_zero, List.getElem?_cons_succ, Option.bind_some, Act.put, List.setIfInBounds_toArray, List.set_cons_zero, List.set_cons_succ] at hQ ⊢
    simp only [h3, h4, h7, h8] at hQ ⊢
    clear h3 h4 h7 h8
    obtain ⟨g, e6, hg, hB⟩ := h6
    rw [e6] at hQ ⊢
    refine wpList_append_fresh (by rfl) (.tmp 9) (.tmp 11) (by rfl) g W.heap.size w.heap.size #[] (by rfl) hB rfl hg C d q.t (by rfl) (SlI.next hb ht) ?_
    intro v' w' ho hb'
    exact hQ _ _ hb' ho
  · intro x w hb hk Q' hQ
    have h0 : x.v 0 = .pointer (some ⟨w0.heap.size, 0, none⟩) := (hk 0 (by decide)).1
    have h1 : x.v 1 = .int .i64 q.v := (hk 1 (by decide)).1
    have h2 : Fresh w W.heap.size (x.v 2) := (hk 2 (by decide)).1
    have h3 : x.v 3 = .pointer (some ⟨w0.heap.size, 1, none⟩) := (hk 3 (by decide)).1
    have h4 : x.v 4 = .slice A q.f.length c := (hk 4 (by decide)).1
    have h5 : OwnI w W.heap.size (x.v 5) q.f := (hk 5 (by decide)).1
    have h6 : Fresh w W.heap.size (x.v 6) := (hk 6 (by decide)).1
    have h7 : x.v 7 = .pointer (some ⟨w0.heap.size, 2, none⟩) := (hk 7 (by decide)).1
    have h8 : x.v 8 = .slice C q.t.length d := (hk 8 (by decide)).1
    have h9 : OwnI w W.heap.size (x.v 9) q.t := (hk 9 (by decide)).1
    have s2 := (hk 2 (by decide)).2
    have s5 := (hk 5 (by decide)).2
    have s6 := (hk 6 (by decide)).2
    have s9 := (hk 9 (by decide)).2
    clear hk
    simp only [netAct, dstAt, List.getElem?_toArray, List.getElem?_cons_zero, List.getElem?_cons_succ, Option.bind_some, Act.put, List.setIfInBounds_toArray, List.set_cons_zero, List.set_cons_succ] at hQ ⊢
    simp only [h0, h1, h3, h4, h7, h8] at hQ ⊢
    clear h0 h1 h3 h4 h7 h8
    obtain ⟨s4A, s4c, e4, _, _⟩ := h5.form
    obtain ⟨s7A, s7c, e7, _, _⟩ := h9.form
    have hQ' := hQ (.agg #[.int .i64 q.v, x.v 5, x.v 9]) w (Below.refl _ _) rfl
    rw [e4, e7] at hQ' ⊢
    go_wp2
    exact hQ'
  · intro x w hb hk hiv hdj
    have h0 : x.v 0 = .pointer (some ⟨w0.heap.size, 0, none⟩) := hk 0 (by decide)
    have h1 : x.v 1 = .int .i64 q.v := hk 1 (by decide)
    have h2 : Fresh w W.heap.size (x.v 2) := hk 2 (by decide)
    have h3 : x.v 3 = .pointer (some ⟨w0.heap.size, 1, none⟩) := hk 3 (by decide)
    have h4 : x.v 4 = .slice A q.f.length c := hk 4 (by decide)
    have h5 : OwnI w W.heap.size (x.v 5) q.f := hk 5 (by decide)
    have h6 : Fresh w W.heap.size (x.v 6) := hk 6 (by decide)
    have h7 : x.v 7 = .pointer (some ⟨w0.heap.size, 2, none⟩) := hk 7 (by decide)
    have h8 : x.v 8 = .slice C q.t.length d := hk 8 (by decide)
    have h9 : OwnI w W.heap.size (x.v 9) q.t := hk 9 (by decide)
    have h10 : x.v 10 = .agg #[.int .i64 q.v, x.v 5, x.v 9] := hk 10 (by decide)
    clear hk
    simp only [netAct, dstAt, List.getElem?_toArray, List.getElem?_cons_zero, List.getElem?_cons_succ, Option.bind_some, Act.put, List.setIfInBounds_toArray, List.set_cons_zero, List.set_cons_succ]
    simp only [List.drop_succ_cons, List.drop_zero, h0, h1, h3, h4, h7, h8]
    clear h0 h1 h3 h4 h7 h8
    have hQ : QuivI w W.heap.size w.heap.size (.agg #[.int .i64 q.v, x.v 5, x.v 9]) q := ⟨_, _, rfl, IntsO.of_own h5, IntsO.of_own h9, hr⟩
    obtain ⟨s4A, s4c, e4, _, _⟩ := h5.form
    obtain ⟨s7A, s7c, e7, _, _⟩ := h9.form
    rw [e4, e7] at hQ h10
    rw [h10]
    have k2' := k2.call hb
    have f2 := k2'.frozen
    have r0 := k2'.cell' (i := 0) rfl
    have r1 := k2'.cell' (i := 1) rfl
    have r2 := k2'.cell' (i := 2) rfl
    have gf := g0.trans (hb.mono g0.size)
    have HBS := Lib.hid hb.size
    have HQ := Lib.hid hQ
    clear h2 h5 h6 h9 h10 e4 e7 k1 k2 hb hf ht hQ hdj hiv
    go_wp2
    have sz := SZ.out
    have hbs := HBS.out
    refine bodyPost_ret (v := .agg #[.int .i64 q.v, .slice s4A q.f.length s4c, .slice s7A q.t.length s7c]) (by simp [results, go_sem, r0, r1, r2]) rfl ⟨_, rfl, QuivI.wider (lo := W.heap.size) (hi := w.heap.size) ?_ (by omega) (by simp), ((gf.setCell (by simp) _).setCell (by simp) _).setCell (by simp) _⟩
    exact ((HQ.out.set (by simp; omega) _).set (by simp; omega) _).set (by simp; omega) _
end Go.Proofs.Ytcmlflppndfdcaa

/- Matrices of zeros; append of a matrix onto a row of the call's own. -/
namespace Go.Proofs.Ytcmlflppndfdcaa
set_option linter.unusedVariables false
set_option linter.unusedSimpArgs false
open Go.RowKit

def zmx (r c : Int) : Mx := ⟨r, c, List.replicate (r * c).toNat 0⟩

set_option maxHeartbeats 800000 in
theorem zero_any (r c : Int) (w : World) (hr : 0 ≤ r) (hc : 0 ≤ c) (hr2 : r ≤ 1000) (hc2 : c ≤ 1000) :
    Calls Try.prog 113 #[.int .i64 r, .int .i64 c] w fun e w' => ∃ v, e = .returned v ∧ MxO w' w.heap.size w'.heap.size v (zmx r c) ∧ Below w.heap.size w w' := by
  obtain ⟨n, rfl⟩ := Int.eq_ofNat_of_zero_le hr
  obtain ⟨m, rfl⟩ := Int.eq_ofNat_of_zero_le hc
  obtain ⟨N, hN⟩ : ∃ N, n * m = N := ⟨_, rfl⟩
  have hNb : N ≤ 1000000 := by
    have : n * m ≤ 1000 * 1000 := Nat.mul_le_mul (by omega) (by omega)
    omega
  have hmul : (n : Int) * m = (N : Int) := by rw [← hN]; simp
  have hw : wrap64 ((n : Int) * m) = (N : Int) := by rw [hmul]; exact IntWalk.wrap64_in _ ⟨by omega, by omega⟩
  have hZ : zmx n m = ⟨n, m, List.replicate N 0⟩ := by rw [zmx, hmul]; rfl
  rw [hZ]
  obtain ⟨i0, hi, hz0, hz1, hz2⟩ := info_parts infoInt
  have hmk := run_mk (P := Try.prog) Try.underlying22 hi hz0 (n := N) (by rw [hz2]; omega) (by omega)
  rw [hz1] at hmk
  have hN1 : (0 : Int) ≤ (n : Int) * m := by omega
  have hN2 : (n : Int) * m ≤ 1000000 := by omega
  clear hi hz0 hz1 hz2 hN hZ
  obtain ⟨W, hW⟩ : ∃ W, W = (w.alloc (.cells #[.int .i64 n, .int .i64 m, .slice (some ⟨w.heap.size + 1, 0, none⟩) N N] 84)).alloc (.cells (mkCells (.int .i64 0) N) 3) := ⟨_, rfl⟩
  have g0 : Below w.heap.size w W := by rw [hW]; exact ((Below.refl _ _).alloc (Nat.le_refl _) _).alloc (by simp) _
  have k1 : Blk W w.heap.size 84 #[.int .i64 n, .int .i64 m, .slice (some ⟨w.heap.size + 1, 0, none⟩) N N] := by rw [hW]; exact (Blk.new _ _ _).alloc _
  have ho : OwnI W (w.heap.size + 1) (.slice (some ⟨w.heap.size + 1, 0, none⟩) N N) (List.replicate N 0) := by
    rw [hW]
    have := OwnI.made0 (w := w.alloc (.cells #[.int .i64 n, .int .i64 m, .slice (some ⟨w.heap.size + 1, 0, none⟩) N N] 84)) (base := w.heap.size + 1) (N := N) (by simp) (by omega)
    simpa only [World.size_alloc] using this
  have r0 := k1.cell' (i := 0) rfl
  have r1 := k1.cell' (i := 1) rfl
  have r2 := k1.cell' (i := 2) rfl
  have HO := Lib.hid ho
  clear ho k1
  rw [Nat.mul_one] at hmk
  go_enter Try.func113, Try.ntmps113
  go_wp2
  rw [← hW]
  exact bodyPost_ret (v := .agg #[.int .i64 n, .int .i64 m, .slice (some ⟨w.heap.size + 1, 0, none⟩) N N]) (by simp [results, go_sem, r0, r1, r2]) rfl ⟨_, rfl, ⟨_, by simp, (IntsO.of_own HO.out).wider (by omega) (Nat.le_refl _), by simp only [I64]; omega, by simp only [I64]; omega⟩, g0⟩
set_option maxHeartbeats 800000 in
theorem l3Zero_any (r c : Int) (w : World) (hr : 0 ≤ r) (hc : 0 ≤ c) (hr2 : r ≤ 1000) (hc2 : c ≤ 1000) :
    Calls Try.prog 92 #[.int .i64 r, .int .i64 c] w fun e w' => ∃ v, e = .returned v ∧ MxO w' w.heap.size w'.heap.size v (zmx r c) ∧ Below w.heap.size w w' := by
  obtain ⟨n, rfl⟩ := Int.eq_ofNat_of_zero_le hr
  obtain ⟨m, rfl⟩ := Int.eq_ofNat_of_zero_le hc
  obtain ⟨N, hN⟩ : ∃ N, n * m = N := ⟨_, rfl⟩
  have hNb : N ≤ 1000000 := by
    have : n * m ≤ 1000 * 1000 := Nat.mul_le_mul (by omega) (by omega)
    omega
  have hmul : (n : Int) * m = (N : Int) := by rw [← hN]; simp
  have hw : wrap64 ((n : Int) * m) = (N : Int) := by rw [hmul]; exact IntWalk.wrap64_in _ ⟨by omega, by omega⟩
  have hZ : zmx n m = ⟨n, m, List.replicate N 0⟩ := by rw [zmx, hmul]; rfl
  rw [hZ]
  obtain ⟨i0, hi, hz0, hz1, hz2⟩ := info_parts infoInt
  have hmk := run_mk (P := Try.prog) Try.underlying22 hi hz0 (n := N) (by rw [hz2]; omega) (by omega)
  rw [hz1] at hmk
  have hN1 : (0 : Int) ≤ (n : Int) * m := by omega
  have hN2 : (n : Int) * m ≤ 1000000 := by omega
  clear hi hz0 hz1 hz2 hN hZ
  obtain ⟨W, hW⟩ : ∃ W, W = (w.alloc (.cells #[.int .i64 n, .int .i64 m, .slice (some ⟨w.heap.size + 1, 0, none⟩) N N] 84)).alloc (.cells (mkCells (.int .i64 0) N) 3) := ⟨_, rfl⟩
  have g0 : Below w.heap.size w W := by rw [hW]; exact ((Below.refl _ _).alloc (Nat.le_refl _) _).alloc (by simp) _
  have k1 : Blk W w.heap.size 84 #[.int .i64 n, .int .i64 m, .slice (some ⟨w.heap.size + 1, 0, none⟩) N N] := by rw [hW]; exact (Blk.new _ _ _).alloc _
  have ho : OwnI W (w.heap.size + 1) (.slice (some ⟨w.heap.size + 1, 0, none⟩) N N) (List.replicate N 0) := by
    rw [hW]
    have := OwnI.made0 (w := w.alloc (.cells #[.int .i64 n, .int .i64 m, .slice (some ⟨w.heap.size + 1, 0, none⟩) N N] 84)) (base := w.heap.size + 1) (N := N) (by simp) (by omega)
    simpa only [World.size_alloc] using this
  have r0 := k1.cell' (i := 0) rfl
  have r1 := k1.cell' (i := 1) rfl
  have r2 := k1.cell' (i := 2) rfl
  have HO := Lib.hid ho
  clear ho k1
  rw [Nat.mul_one] at hmk
  go_enter Try.func92, Try.ntmps92
  go_wp2
  rw [← hW]
  exact bodyPost_ret (v := .agg #[.int .i64 n, .int .i64 m, .slice (some ⟨w.heap.size + 1, 0, none⟩) N N]) (by simp [results, go_sem, r0, r1, r2]) rfl ⟨_, rfl, ⟨_, by simp, (IntsO.of_own HO.out).wider (by omega) (Nat.le_refl _), by simp only [I64]; omega, by simp only [I64]; omega⟩, g0⟩

/-! ### an append onto a row of elements T: what it leaves alone -/
structure AppT (T : TypeId) (lo : Nat) (w w' : World) : Prop where
  os : w'.os = w.os
  tape : w'.tape = w.tape
  output : w'.output = w.output
  size : w.heap.size ≤ w'.heap.size
  low : ∀ k, k < lo → k < w.heap.size → w'.heap[k]? = w.heap[k]?
  other : ∀ g t cs, t ≠ T → Blk w g t cs → Blk w' g t cs
theorem AppT.of_below {T : TypeId} {lo : Nat} {w w' : World} (h : Below w.heap.size w w') : AppT T lo w w' := ⟨h.os, h.tape, h.output, h.size, fun k _ hk => h.block k hk, fun _ _ _ _ hb => hb.call h⟩
theorem AppT.trans {T : TypeId} {lo : Nat} {a b c : World} (h : AppT T lo a b) (k : AppT T lo b c) : AppT T lo a c :=
  ⟨k.os.trans h.os, k.tape.trans h.tape, k.output.trans h.output, Nat.le_trans h.size k.size, fun i hi hs => (k.low i hi (Nat.lt_of_lt_of_le hs h.size)).trans (h.low i hi hs), fun g t cs ht hb => k.other g t cs ht (h.other g t cs ht hb)⟩
theorem AppT.below {T : TypeId} {lo B : Nat} {w w' : World} (h : AppT T lo w w') (hB : B ≤ lo) (hs : B ≤ w.heap.size) : Below B w w' := ⟨h.os, h.tape, h.output, h.size, fun k hk => h.low k (by omega) (by omega)⟩
theorem OwnI.appT {T : TypeId} {lo base : Nat} {w w' : World} {v : Value} {l : List Int} (h : OwnI w base v l) (hT : 3 ≠ T) (ha : AppT T lo w w') : OwnI w' base v l := by
  refine ⟨⟨h.1.1, ?_⟩, h.2⟩
  rcases h.1.2 with h1 | ⟨g, cap, cur, e, hg, hh, rest⟩
  · exact .inl h1
  · exact .inr ⟨g, cap, cur, e, hg, ha.other g _ cur hT hh, rest⟩
theorem IntsO.appT {T : TypeId} {lo l1 h1 : Nat} {w w' : World} {v : Value} {l : List Int} (h : IntsO w l1 h1 v l) (hT : 3 ≠ T) (ha : AppT T lo w w') : IntsO w' l1 h1 v l := ⟨h.1.appT hT ha, h.2⟩
theorem Fam.appT {T : TypeId} {lo l1 h1 : Nat} {w w' : World} {L : List (Value × List Int)} (h : Fam w l1 h1 L) (hT : 3 ≠ T) (ha : AppT T lo w w') : Fam w' l1 h1 L := ⟨fun p hp => (h.1 p hp).appT hT ha, h.2⟩
theorem AppT.set {T T' : TypeId} {lo g i : Nat} {w : World} {cs : Array Value} {u : Value} (hb : Blk w g T' cs) (hT : T' = T) (hg : lo ≤ g) : AppT T lo w (w.setCell ⟨g, i, none⟩ u) := by
  subst hT
  refine ⟨rfl, rfl, rfl, by simp [World.setCell], fun k hk _ => Below.heap_setCell _ _ _ _ (by simp; omega), fun g' t cs' ht hb' => ?_⟩
  refine hb'.far ?_ u
  rintro rfl
  unfold Blk at hb hb'
  rw [hb] at hb'
  injection hb' with hb'
  injection hb' with _ hb'
  exact ht hb'.symm

/-- append of one matrix, out of the row of one element that Go lays first -/
theorem wpList_appM {w : World} {ops : Array Oper} {rest : List Oper} {o : Oper} {a : Act} {Q : Exit → Act → World → Prop} (hgd : o.guard = none) (s x : Operand)
    (ho : o.op = .call { callee := .builtin .append, args := #[s, x], argTypes := #[29, 29] })
    (lo hi : Nat) (v : Value) (vs : List Value) (ms : List Mx) (hs : a.eval s = v) (hown : OutM w lo hi v vs ms) (hl : vs.length = ms.length) (g c : Nat) (m : Mx) (u : Value) (hx : a.eval x = .slice (some ⟨g, 0, none⟩) 1 c) (hg : Blk w g 84 #[.int .i64 m.r, .int .i64 m.c, u]) (hu : u.oneCell' = true)
    (hn : ms.length ≤ 1000000) (hlo : lo ≤ w.heap.size)
    (h : ∀ v' w', OutM w' lo w'.heap.size v' (vs ++ [u]) (ms ++ [m]) → AppT 84 lo w w' → wpList Try.prog ops Q rest (a.put o.dst v') w') : wpList Try.prog ops Q (o :: rest) a w := by
  obtain ⟨i0, hi', hz0, hz1, hz2⟩ := info_parts infoMx
  have hcs := mxCs_snoc vs ms u m hl
  refine wpList_append_G w hgd s x _ ho lo 84 i0 _ 3 40 Try.underlying29 hi' hz0 hz1 hz2 rfl (by decide) v ms.length _ hs hown.1 _ 1 c [.int .i64 m.r, .int .i64 m.c, u] hx ⟨rfl, .inr ⟨g, 0, rfl, fun j y hj => ?_⟩⟩ ?_ (by simp only [maxLen]; omega) (by omega) hlo fun v' w' h1 h2 h3 => ?_
  · have hj3 := lt_of_some hj
    simp only [List.length_cons, List.length_nil] at hj3
    rw [Nat.zero_add]
    match j, hj with
    | 0, hj => rw [hg.cell]; exact hj
    | 1, hj => rw [hg.cell]; exact hj
    | 2, hj => rw [hg.cell]; exact hj
    | j + 3, hj => omega
  · intro y hy
    simp only [List.mem_cons, List.not_mem_nil, or_false] at hy
    rcases hy with rfl | rfl | rfl
    · rfl
    · rfl
    · exact hu
  · refine h v' w' ⟨?_, fun k hk => ?_, by simp; omega⟩ ⟨h2.os, h2.tape, h2.output, h2.size, fun k hk hks => h2.block k hks (fun e => ?_), fun g' t cs ht hb => hb.grown h2 (fun e => ?_)⟩
    · rw [hcs, List.length_append]
      exact h1
    · exact (h1.lt k hk).2
    · have := (hown.1.lt k e.symm).1
      omega
    · rcases hown.1.2 with ⟨rfl, _⟩ | ⟨g2, cap, cur, rfl, _, hh, _⟩
      · simp [Value.ownBlock] at e
      · have : g' = g2 := by simpa [Value.ownBlock] using e
        subst this
        unfold Blk at hb
        rw [hh] at hb
        injection hb with hb
        injection hb with _ hb
        exact ht hb.symm
end Go.Proofs.Ytcmlflppndfdcaa

/- The program's zeroRep. -/
namespace Go.Proofs.Ytcmlflppndfdcaa
set_option linter.unusedVariables false
set_option linter.unusedSimpArgs false
open Go.RowKit

def zms (q : Qv) (d : List Int) (k : Nat) : List Mx := (List.range k).map fun i => zmx (dAt d (q.t.getD i 0)) (dAt d (q.f.getD i 0))
theorem zms_length (q : Qv) (d : List Int) (k : Nat) : (zms q d k).length = k := by simp [zms]
theorem zms_succ {q : Qv} {d : List Int} {k nf nt : Nat} {yf yt : Int} (hf : q.f[k]? = some (nf : Int)) (ht : q.t[k]? = some (nt : Int)) (hyf : d[nf]? = some yf) (hyt : d[nt]? = some yt) : zms q d (k + 1) = zms q d k ++ [zmx yt yf] := by
  simp [zms, List.range_succ, List.getD_eq_getElem?_getD, hf, ht, dAt, hyf, hyt]
def zRep (p : Int) (q : Qv) (d : List Int) : Rp := ⟨p, q, d, zms q d q.f.length⟩
theorem zms_I64 {q : Qv} {d : List Int} (h : areDims q d = true) (k : Nat) (hk : k ≤ q.f.length) : ∀ m ∈ zms q d k, I64 m.r ∧ I64 m.c := by
  intro m hm
  simp only [zms, List.mem_map, List.mem_range] at hm
  obtain ⟨i, hi, rfl⟩ := hm
  obtain ⟨nf, nt, yf, yt, ef, et, df, dt, _⟩ := rep_at (x := ⟨0, q, d, []⟩) h (show i < q.f.length by omega)
  obtain ⟨_, _, hd, _⟩ := areDims_t.1 h
  have b1 := hd _ (List.mem_of_getElem? df)
  have b2 := hd _ (List.mem_of_getElem? dt)
  simp only [zmx, List.getD_eq_getElem?_getD, ef, et, Option.getD_some, dAt_of df, dAt_of dt, I64]
  omega

theorem IntsO.cell {w : World} {lo hi : Nat} {v : Value} {l : List Int} (h : IntsO w lo hi v l) : v.oneCell' = true := by
  obtain ⟨A, c, rfl⟩ := h.form
  rfl

set_option maxHeartbeats 6400000 in
set_option maxRecDepth 100000 in
theorem zeroRep_any (p : Int) (u xv : Value) (q : Qv) (d : List Int) (w0 : World) (hp : I64 p) (hu : QvR w0 w0.heap.size u q) (hx : SlI w0 w0.heap.size xv d) (hq : areDims q d = true) :
    Calls Try.prog 82 #[.int .i64 p, u, xv] w0 fun e w' => ∃ v, e = .returned v ∧ RepO w' w0.heap.size w'.heap.size v (zRep p q d) ∧ Below w0.heap.size w0 w' := by
  have hu' := hu
  obtain ⟨A, c, C, c', rfl, hf, ht, hr, lf, lt⟩ := hu.open_
  obtain ⟨XA, xc, rfl, _, _, lx, hx⟩ := hx.open_
  clear hu
  obtain ⟨W, hW⟩ : ∃ W, W = (w0.alloc (.cells #[.int .i64 q.v, .slice A q.f.length c, .slice C q.t.length c'] 28)).alloc (.cells #[.int .i64 0, .int .i64 0, .slice none 0 0, .slice none 0 0, .slice none 0 0, .slice none 0 0] 31) := ⟨_, rfl⟩
  have g0 : Below w0.heap.size w0 W := by rw [hW]; exact ((Below.refl _ _).alloc (Nat.le_refl _) _).alloc (by simp) _
  have k1 : Blk W w0.heap.size 28 #[.int .i64 q.v, .slice A q.f.length c, .slice C q.t.length c'] := by rw [hW]; exact (Blk.new _ _ _).alloc _
  have k2 : Blk W (w0.heap.size + 1) 31 #[.int .i64 0, .int .i64 0, .slice none 0 0, .slice none 0 0, .slice none 0 0, .slice none 0 0] := by
    rw [hW]
    have := Blk.new (w0.alloc (.cells #[.int .i64 q.v, .slice A q.f.length c, .slice C q.t.length c'] 28)) 31 #[.int .i64 0, .int .i64 0, .slice none 0 0, .slice none 0 0, .slice none 0 0, .slice none 0 0]
    simpa only [World.size_alloc] using this
  have sz : W.heap.size = w0.heap.size + 1 + 1 := by rw [hW]; simp
  have SZ := Lib.hid sz
  clear sz
  have c0 := k1.cell' (i := 0) rfl
  have c1 := k1.cell' (i := 1) rfl
  have c2 := k1.cell' (i := 2) rfl
  have HQ := Lib.hid hq
  clear hq
  go_enter Try.func82, Try.ntmps82
  go_wp2_with fail
  rw [← hW]; clear hW
  refine (qvClone_any _ q _ (QvR.next g0 hu')).mono ?_; rintro e w1 ⟨v1, rfl, hQ, hb1⟩
  have s1 := hb1.size
  replace k2 := k2.call hb1
  replace g0 := bthen g0 hb1
  replace k1 := k1.call hb1
  replace c0 := k1.cell' (i := 0) rfl
  replace c1 := k1.cell' (i := 1) rfl
  replace c2 := k1.cell' (i := 2) rfl
  clear hb1
  obtain ⟨qa, qb, rfl, hQF, hqv⟩ := hQ
  have fa : IntsO w1 W.heap.size w1.heap.size qa q.f := hQF.1 (qa, q.f) (by simp)
  have fb : IntsO w1 W.heap.size w1.heap.size qb q.t := hQF.1 (qb, q.t) (by simp)
  obtain ⟨A1, a1, rfl⟩ := fa.form
  obtain ⟨C1, b1, rfl⟩ := fb.form
  clear fa fb
  go_wp2_with fail
  refine (clone_own _ d _ (SlI.next g0 hx)).mono ?_; rintro e w2 ⟨v2, rfl, hD, hb2⟩
  have s2 := hb2.size
  replace k2 := k2.call hb2
  replace hQF := hQF.below hb2
  replace g0 := bthen g0 hb2
  replace k1 := k1.call hb2
  replace c0 := k1.cell' (i := 0) rfl
  replace c1 := k1.cell' (i := 1) rfl
  replace c2 := k1.cell' (i := 2) rfl
  clear hb2
  obtain ⟨E1, e1, rfl⟩ := hD.form
  have hF3 : Fam w2 W.heap.size w2.heap.size ([(.slice A1 q.f.length a1, q.f), (.slice C1 q.t.length b1, q.t)] ++ [(.slice E1 d.length e1, d)]) := Fam.join (mi := w1.heap.size) hQF (Fam.one hD) (by omega) (by omega)
  have HF3 := Lib.hid hF3
  clear hF3 hQF hD
  have gR := Blk.new w2 31 #[.int .i64 p, .int .i64 q.v, .slice A1 q.f.length a1, .slice C1 q.t.length b1, .slice E1 d.length e1, .slice none 0 0]
  have ga := below_alloc w2 (.cells #[.int .i64 p, .int .i64 q.v, .slice A1 q.f.length a1, .slice C1 q.t.length b1, .slice E1 d.length e1, .slice none 0 0] 31)
  have k1a := k1.call ga
  have c1a := k1a.cell' (i := 1) rfl
  have K1 := Lib.hid k1
  have K2 := Lib.hid k2
  have G0 := Lib.hid g0
  clear k1 k2 c0 c1 c2 k1a g0
  go_wp2
  clear c1a
  go_loopw [19] (fun i wr => ∃ (k : Nat) (mv : Value) (vs : List Value), k ≤ q.f.length ∧ i = .int .i64 k ∧ Below w2.heap.size w2 wr ∧ w2.heap.size < wr.heap.size ∧ Blk wr w2.heap.size 31 #[.int .i64 p, .int .i64 q.v, .slice A1 q.f.length a1, .slice C1 q.t.length b1, .slice E1 d.length e1, mv] ∧
    RowO 84 3 wr w2.heap.size wr.heap.size mv k (mxCs vs (zms q d k)) ∧ vs.length = k ∧ Fam wr w2.heap.size wr.heap.size (vs.zip ((zms q d k).map Mx.a))) (fun i _ => q.f.length - (intOf i).toNat)
  case atStart => exact ⟨0, _, [], Nat.zero_le _, rfl, ga, by simp, gR, RowO.nil _ _ _ _, rfl, ⟨fun p hp => by simp at hp, by simp⟩⟩
  case round =>
    clear gR ga
    obtain ⟨k, mv, vs, hk, rfl, hbel, hlt2, hB, hO, hvl, hF⟩ := hrel
    have HVL := Lib.hid hvl
    clear hvl
    have kq := K1.out.call hbel
    by_cases hlt : k < q.f.length
    · obtain ⟨nf, nt, yf, yt, ef, et, df, dt, lnf, lnt, lnf5, lnt5, hkt0⟩ := rep_at (x := ⟨0, q, d, []⟩) HQ.out hlt
      simp only at ef et df dt lnf lnt hkt0
      have hkf := hlt
      have hd := (areDims_t.1 HQ.out).2.2.1
      have hlf6 : q.f.length ≤ 6 := (isQ_t.1 (areDims_t.1 HQ.out).1).2.2.1
      have byf := hd _ (List.mem_of_getElem? df)
      have byt := hd _ (List.mem_of_getElem? dt)
      have HZS := Lib.hid (zms_succ ef et df dt)
      clear hd
      have hkt := hkt0
      obtain ⟨bf, of_, xf, eA, hbf, HXF, f1, _⟩ := SlI.at_ hf hkf
      obtain ⟨bt, ot, xt, eC, hbt, HXT, t1, _⟩ := SlI.at_ ht hkt
      obtain ⟨bd, od, xdf, eX, hbd, HXDF, d1, _⟩ := SlI.at_ hx lnf
      obtain ⟨bd', od', xdt, eX', hbd', HXDT, d2, _⟩ := SlI.at_ hx lnt
      subst eA eC eX
      injection eX' with eX'
      injection eX' with e1 e2
      subst e1 e2
      have q1 := HXF.out
      rw [ef] at q1
      injection q1 with q1
      subst q1
      have q2 := HXT.out
      rw [et] at q2
      injection q2 with q2
      subst q2
      have q3 := HXDF.out
      rw [df] at q3
      injection q3 with q3
      subst q3
      have q4 := HXDT.out
      rw [dt] at q4
      injection q4 with q4
      subst q4
      clear HXF HXT HXDF HXDT ef et df dt
      have gw : Below w0.heap.size w0 wr := G0.out.trans (hbel.mono (G0.out).size)
      have hbs := hbel.size
      have gws := (G0.out).size
      have f2 := bcell gw hbf f1
      have a1' : (0 : Int) ≤ (k : Int) := by omega
      have a2' : (k : Int) < q.f.length := by omega
      have a3' : (k : Int) < q.t.length := by omega
      have a4' : (0 : Int) ≤ (nf : Int) := by omega
      have a5' : (nf : Int) < d.length := by omega
      have a6' : (0 : Int) ≤ (nt : Int) := by omega
      have a7' : (nt : Int) < d.length := by omega
      go_wp2
      refine wp_region_net (by kernel_rfl) [.eq (.pointer (some ⟨w2.heap.size, 5, none⟩)), .eq (mv), .eq (.slice (some ⟨bd, od, none⟩) d.length xc), .eq (.pointer (some ⟨w0.heap.size, 2, none⟩)), .eq (.slice (some ⟨bt, ot, none⟩) q.t.length c'), .eq (.int .i64 k), .eq (.pointer (some ⟨bt, ot + k, none⟩)), .eq (.int .i64 nt), .eq (.pointer (some ⟨bd, od + nt, none⟩)), .eq (.int .i64 yt), .eq (.slice (some ⟨bd, od, none⟩) d.length xc), .eq (.int .i64 nf), .eq (.pointer (some ⟨bd, od + nf, none⟩)), .eq (.int .i64 yf), rel 14 (fun u lo hi w => MxO w lo hi u (zmx yt yf)), .rel (fun x w => ∃ g s, x.v 15 = .slice (some ⟨g, 0, none⟩) 1 1 ∧ x.v 14 = .agg #[.int .i64 yt, .int .i64 yf, s] ∧ Blk w g 84 #[.int .i64 yt, .int .i64 yf, s])] [[], [0], [], [], [3], [], [3, 4, 5], [3, 4, 5, 6], [2, 3, 4, 5, 6, 7], [2, 3, 4, 5, 6, 7, 8], [], [], [10, 11], [10, 11, 12], [2, 3, 4, 5, 6, 7, 8, 9, 10, 11, 12, 13], [2, 3, 4, 5, 6, 7, 8, 9, 10, 11, 12, 13, 14], [0, 1, 2, 3, 4, 5, 6, 7, 8, 9, 10, 11, 12, 13, 14, 15], [0, 1, 2, 3, 4, 5, 6, 7, 8, 9, 10, 11, 12, 13, 14, 15, 16], [0, 1, 2, 3, 4, 5, 6, 7, 8, 9, 10, 11, 12, 13, 14, 15, 16, 17]] 16 (by kernel_rfl) ⟨trivial, trivial, trivial, trivial, trivial, trivial, trivial, trivial, trivial, trivial, trivial, trivial, trivial, trivial, rel_stable (fun u lo hi w w' h hb => h.below hb), fun x w w' ⟨g, s, e1, e2, h⟩ hb => ⟨g, s, e1, e2, h.call hb⟩, trivial⟩ ⟨?_, ?_, ?_, ?_, ?_, ?_, ?_, ?_, ?_, ?_, ?_, ?_, ?_, ?_, ?_, ?_, trivial⟩ ?_
      · intro x w hb hk Q' hQ
        clear hk
        simp only [netAct, dstAt, List.getElem?_toArray, List.getElem?_cons_zero, List.getElem?_cons_succ, Option.bind_some, Act.put, List.setIfInBounds_toArray, List.set_cons_zero, List.set_cons_succ] at hQ ⊢
        go_wp2
        exact hQ (.pointer (some ⟨w2.heap.size, 5, none⟩)) _ (Below.refl _ _) rfl
      · intro x w hb hk Q' hQ
        have h0 : x.v 0 = .pointer (some ⟨w2.heap.size, 5, none⟩) := (hk 0 (by decide)).1
        clear hk
        simp only [netAct, dstAt, List.getElem?_toArray, List.getElem?_cons_zero, List.getElem?_cons_succ, Option.bind_some, Act.put, List.setIfInBounds_toArray, List.set_cons_zero, List.set_cons_succ] at hQ ⊢
        simp only [h0] at hQ ⊢
        clear h0
        have z5 := (hB.call hb).cell' (i := 5) rfl
        go_wp2
        exact hQ (mv) _ (Below.refl _ _) rfl
      · intro x w hb hk Q' hQ
        clear hk
        simp only [netAct, dstAt, List.getElem?_toArray, List.getElem?_cons_zero, List.getElem?_cons_succ, Option.bind_some, Act.put, List.setIfInBounds_toArray, List.set_cons_zero, List.set_cons_succ] at hQ ⊢
        go_wp2
        exact hQ (.slice (some ⟨bd, od, none⟩) d.length xc) _ (Below.refl _ _) rfl
      · intro x w hb hk Q' hQ
        clear hk
        simp only [netAct, dstAt, List.getElem?_toArray, List.getElem?_cons_zero, List.getElem?_cons_succ, Option.bind_some, Act.put, List.setIfInBounds_toArray, List.set_cons_zero, List.set_cons_succ] at hQ ⊢
        go_wp2
        exact hQ (.pointer (some ⟨w0.heap.size, 2, none⟩)) _ (Below.refl _ _) rfl
      · intro x w hb hk Q' hQ
        have h3 : x.v 3 = .pointer (some ⟨w0.heap.size, 2, none⟩) := (hk 3 (by decide)).1
        clear hk
        simp only [netAct, dstAt, List.getElem?_toArray, List.getElem?_cons_zero, List.getElem?_cons_succ, Option.bind_some, Act.put, List.setIfInBounds_toArray, List.set_cons_zero, List.set_cons_succ] at hQ ⊢
        simp only [h3] at hQ ⊢
        clear h3
        have z2 := (kq.call hb).cell' (i := 2) rfl
        go_wp2
        exact hQ (.slice (some ⟨bt, ot, none⟩) q.t.length c') _ (Below.refl _ _) rfl
      · intro x w hb hk Q' hQ
        clear hk
        simp only [netAct, dstAt, List.getElem?_toArray, List.getElem?_cons_zero, List.getElem?_cons_succ, Option.bind_some, Act.put, List.setIfInBounds_toArray, List.set_cons_zero, List.set_cons_succ] at hQ ⊢
        go_wp2
        exact hQ (.int .i64 k) _ (Below.refl _ _) rfl
      · intro x w hb hk Q' hQ
        have h4 : x.v 4 = .slice (some ⟨bt, ot, none⟩) q.t.length c' := (hk 4 (by decide)).1
        have h5 : x.v 5 = .int .i64 k := (hk 5 (by decide)).1
        clear hk
        simp only [netAct, dstAt, List.getElem?_toArray, List.getElem?_cons_zero, List.getElem?_cons_succ, Option.bind_some, Act.put, List.setIfInBounds_toArray, List.set_cons_zero, List.set_cons_succ] at hQ ⊢
        simp only [h4, h5] at hQ ⊢
        clear h4 h5
        go_wp2
        exact hQ (.pointer (some ⟨bt, ot + k, none⟩)) _ (Below.refl _ _) rfl
      · intro x w hb hk Q' hQ
        have h6 : x.v 6 = .pointer (some ⟨bt, ot + k, none⟩) := (hk 6 (by decide)).1
        clear hk
        simp only [netAct, dstAt, List.getElem?_toArray, List.getElem?_cons_zero, List.getElem?_cons_succ, Option.bind_some, Act.put, List.setIfInBounds_toArray, List.set_cons_zero, List.set_cons_succ] at hQ ⊢
        simp only [h6] at hQ ⊢
        clear h6
        have z2 := bcell hb (by omega) (bcell gw hbt t1)
        go_wp2
        exact hQ (.int .i64 nt) _ (Below.refl _ _) rfl
      · intro x w hb hk Q' hQ
        have h2 : x.v 2 = .slice (some ⟨bd, od, none⟩) d.length xc := (hk 2 (by decide)).1
        have h7 : x.v 7 = .int .i64 nt := (hk 7 (by decide)).1
        clear hk
        simp only [netAct, dstAt, List.getElem?_toArray, List.getElem?_cons_zero, List.getElem?_cons_succ, Option.bind_some, Act.put, List.setIfInBounds_toArray, List.set_cons_zero, List.set_cons_succ] at hQ ⊢
        simp only [h2, h7] at hQ ⊢
        clear h2 h7
        go_wp2
        exact hQ (.pointer (some ⟨bd, od + nt, none⟩)) _ (Below.refl _ _) rfl
      · intro x w hb hk Q' hQ
        have h8 : x.v 8 = .pointer (some ⟨bd, od + nt, none⟩) := (hk 8 (by decide)).1
        clear hk
        simp only [netAct, dstAt, List.getElem?_toArray, List.getElem?_cons_zero, List.getElem?_cons_succ, Option.bind_some, Act.put, List.setIfInBounds_toArray, List.set_cons_zero, List.set_cons_succ] at hQ ⊢
        simp only [h8] at hQ ⊢
        clear h8
        have z2 := bcell hb (by omega) (bcell gw hbd' d2)
        go_wp2
        exact hQ (.int .i64 yt) _ (Below.refl _ _) rfl
      · intro x w hb hk Q' hQ
        clear hk
        simp only [netAct, dstAt, List.getElem?_toArray, List.getElem?_cons_zero, List.getElem?_cons_succ, Option.bind_some, Act.put, List.setIfInBounds_toArray, List.set_cons_zero, List.set_cons_succ] at hQ ⊢
        go_wp2
        exact hQ (.slice (some ⟨bd, od, none⟩) d.length xc) _ (Below.refl _ _) rfl
      · intro x w hb hk Q' hQ
        clear hk
        simp only [netAct, dstAt, List.getElem?_toArray, List.getElem?_cons_zero, List.getElem?_cons_succ, Option.bind_some, Act.put, List.setIfInBounds_toArray, List.set_cons_zero, List.set_cons_succ] at hQ ⊢
        go_wp2
        exact hQ (.int .i64 nf) _ (Below.refl _ _) rfl
      · intro x w hb hk Q' hQ
        have h10 : x.v 10 = .slice (some ⟨bd, od, none⟩) d.length xc := (hk 10 (by decide)).1
        have h11 : x.v 11 = .int .i64 nf := (hk 11 (by decide)).1
        clear hk
        simp only [netAct, dstAt, List.getElem?_toArray, List.getElem?_cons_zero, List.getElem?_cons_succ, Option.bind_some, Act.put, List.setIfInBounds_toArray, List.set_cons_zero, List.set_cons_succ] at hQ ⊢
        simp only [h10, h11] at hQ ⊢
        clear h10 h11
        go_wp2
        exact hQ (.pointer (some ⟨bd, od + nf, none⟩)) _ (Below.refl _ _) rfl
      · intro x w hb hk Q' hQ
        have h12 : x.v 12 = .pointer (some ⟨bd, od + nf, none⟩) := (hk 12 (by decide)).1
        clear hk
        simp only [netAct, dstAt, List.getElem?_toArray, List.getElem?_cons_zero, List.getElem?_cons_succ, Option.bind_some, Act.put, List.setIfInBounds_toArray, List.set_cons_zero, List.set_cons_succ] at hQ ⊢
        simp only [h12] at hQ ⊢
        clear h12
        have z2 := bcell hb (by omega) (bcell gw hbd d1)
        go_wp2
        exact hQ (.int .i64 yf) _ (Below.refl _ _) rfl
      · intro x w hb hk Q' hQ
        have h2 : x.v 2 = .slice (some ⟨bd, od, none⟩) d.length xc := (hk 2 (by decide)).1
        have h3 : x.v 3 = .pointer (some ⟨w0.heap.size, 2, none⟩) := (hk 3 (by decide)).1
        have h4 : x.v 4 = .slice (some ⟨bt, ot, none⟩) q.t.length c' := (hk 4 (by decide)).1
        have h5 : x.v 5 = .int .i64 k := (hk 5 (by decide)).1
        have h6 : x.v 6 = .pointer (some ⟨bt, ot + k, none⟩) := (hk 6 (by decide)).1
        have h7 : x.v 7 = .int .i64 nt := (hk 7 (by decide)).1
        have h8 : x.v 8 = .pointer (some ⟨bd, od + nt, none⟩) := (hk 8 (by decide)).1
        have h9 : x.v 9 = .int .i64 yt := (hk 9 (by decide)).1
        have h10 : x.v 10 = .slice (some ⟨bd, od, none⟩) d.length xc := (hk 10 (by decide)).1
        have h11 : x.v 11 = .int .i64 nf := (hk 11 (by decide)).1
        have h12 : x.v 12 = .pointer (some ⟨bd, od + nf, none⟩) := (hk 12 (by decide)).1
        have h13 : x.v 13 = .int .i64 yf := (hk 13 (by decide)).1
        clear hk
        simp only [netAct, dstAt, List.getElem?_toArray, List.getElem?_cons_zero, List.getElem?_cons_succ, Option.bind_some, Act.put, List.setIfInBounds_toArray, List.set_cons_zero, List.set_cons_succ] at hQ ⊢
        simp only [h2, h3, h4, h5, h6, h7, h8, h9, h10, h11, h12, h13] at hQ ⊢
        clear h2 h3 h4 h5 h6 h7 h8 h9 h10 h11 h12 h13
        go_wp2_with fail
        refine (zero_any yt yf _ byt.1 byf.1 (by omega) (by omega)).mono ?_; rintro e w3 ⟨v3, rfl, hZ, hb3⟩
        go_wp2
        exact hQ _ _ hb3 hZ
      · intro x w hb hk Q' hQ
        have h2 : x.v 2 = .slice (some ⟨bd, od, none⟩) d.length xc := (hk 2 (by decide)).1
        have h3 : x.v 3 = .pointer (some ⟨w0.heap.size, 2, none⟩) := (hk 3 (by decide)).1
        have h4 : x.v 4 = .slice (some ⟨bt, ot, none⟩) q.t.length c' := (hk 4 (by decide)).1
        have h5 : x.v 5 = .int .i64 k := (hk 5 (by decide)).1
        have h6 : x.v 6 = .pointer (some ⟨bt, ot + k, none⟩) := (hk 6 (by decide)).1
        have h7 : x.v 7 = .int .i64 nt := (hk 7 (by decide)).1
        have h8 : x.v 8 = .pointer (some ⟨bd, od + nt, none⟩) := (hk 8 (by decide)).1
        have h9 : x.v 9 = .int .i64 yt := (hk 9 (by decide)).1
        have h10 : x.v 10 = .slice (some ⟨bd, od, none⟩) d.length xc := (hk 10 (by decide)).1
        have h11 : x.v 11 = .int .i64 nf := (hk 11 (by decide)).1
        have h12 : x.v 12 = .pointer (some ⟨bd, od + nf, none⟩) := (hk 12 (by decide)).1
        have h13 : x.v 13 = .int .i64 yf := (hk 13 (by decide)).1
        have h14 : MxO w (x.lo 14) (x.hi 14) (x.v 14) (zmx yt yf) := (hk 14 (by decide)).1
        have s14 := (hk 14 (by decide)).2
        clear hk
        simp only [netAct, dstAt, List.getElem?_toArray, List.getElem?_cons_zero, List.getElem?_cons_succ, Option.bind_some, Act.put, List.setIfInBounds_toArray, List.set_cons_zero, List.set_cons_succ] at hQ ⊢
        simp only [h2, h3, h4, h5, h6, h7, h8, h9, h10, h11, h12, h13] at hQ ⊢
        clear h2 h3 h4 h5 h6 h7 h8 h9 h10 h11 h12 h13
        obtain ⟨s, e14, hs⟩ := h14
        obtain ⟨sA, sc, es⟩ := hs.1.form
        obtain ⟨sn, hsn⟩ : ∃ n, (zmx yt yf).a.length = n := ⟨_, rfl⟩
        rw [hsn] at es
        clear hsn hs
        subst es
        have hQ' := hQ (.slice (some ⟨w.heap.size, 0, none⟩) 1 1) (w.alloc (.cells #[.int .i64 yt, .int .i64 yf, .slice sA sn sc] 84)) (below_alloc _ _) ⟨_, _, rfl, e14, Blk.new _ _ _⟩
        simp only [zmx] at e14
        rw [e14] at hQ' ⊢
        go_wp2
        exact hQ'
      · intro x w hb hk hiv hdj
        have h0 : x.v 0 = .pointer (some ⟨w2.heap.size, 5, none⟩) := hk 0 (by decide)
        have h1 : x.v 1 = mv := hk 1 (by decide)
        have h2 : x.v 2 = .slice (some ⟨bd, od, none⟩) d.length xc := hk 2 (by decide)
        have h3 : x.v 3 = .pointer (some ⟨w0.heap.size, 2, none⟩) := hk 3 (by decide)
        have h4 : x.v 4 = .slice (some ⟨bt, ot, none⟩) q.t.length c' := hk 4 (by decide)
        have h5 : x.v 5 = .int .i64 k := hk 5 (by decide)
        have h6 : x.v 6 = .pointer (some ⟨bt, ot + k, none⟩) := hk 6 (by decide)
        have h7 : x.v 7 = .int .i64 nt := hk 7 (by decide)
        have h8 : x.v 8 = .pointer (some ⟨bd, od + nt, none⟩) := hk 8 (by decide)
        have h9 : x.v 9 = .int .i64 yt := hk 9 (by decide)
        have h10 : x.v 10 = .slice (some ⟨bd, od, none⟩) d.length xc := hk 10 (by decide)
        have h11 : x.v 11 = .int .i64 nf := hk 11 (by decide)
        have h12 : x.v 12 = .pointer (some ⟨bd, od + nf, none⟩) := hk 12 (by decide)
        have h13 : x.v 13 = .int .i64 yf := hk 13 (by decide)
        have h14 : MxO w (x.lo 14) (x.hi 14) (x.v 14) (zmx yt yf) := hk 14 (by decide)
        have h15 : ∃ g s, x.v 15 = .slice (some ⟨g, 0, none⟩) 1 1 ∧ x.v 14 = .agg #[.int .i64 yt, .int .i64 yf, s] ∧ Blk w g 84 #[.int .i64 yt, .int .i64 yf, s] := hk 15 (by decide)
        clear hk
        simp only [netAct, dstAt, List.getElem?_toArray, List.getElem?_cons_zero, List.getElem?_cons_succ, Option.bind_some, Act.put, List.setIfInBounds_toArray, List.set_cons_zero, List.set_cons_succ]
        simp only [List.drop_succ_cons, List.drop_zero, h0, h1, h2, h3, h4, h5, h6, h7, h8, h9, h10, h11, h12, h13]
        clear h0 h1 h2 h3 h4 h5 h6 h7 h8 h9 h10 h11 h12 h13
        obtain ⟨g, s, e15, e14, hg⟩ := h15
        have l14 := (hiv 14 (by decide)).1
        have h14i := (hiv 14 (by decide)).2.2
        obtain ⟨s', e14', hs, _⟩ := h14
        rw [e14] at e14'
        simp only [Value.agg.injEq, Array.mk.injEq, List.cons.injEq, and_true, zmx, true_and] at e14'
        subst e14'
        rw [e15]
        have hO' := hO.below hb
        have hF' := (hF.below hb).snoc (hs.wider l14 h14i) (by omega) hb.size
        have hB' := hB.call hb
        have gb2 : Below w2.heap.size w2 w := hbel.trans (hb.mono hbs)
        have hbs2 := hb.size
        have hLen := Lib.hid (zms_length q d k)
        have HF' := Lib.hid hF'
        have hO'' : OutM w w2.heap.size wr.heap.size mv vs (zms q d k) := by rw [OutM, hLen.out]; exact hO'
        have HC := Lib.hid hs.cell
        clear hiv hdj hs hF' hO' hO hF e14 e15 hb hB
        refine wpList_appM (by rfl) (.tmp 25) (.tmp 39) (by rfl) w2.heap.size wr.heap.size mv vs (zms q d k) (by rfl) hO'' (by rw [HVL.out, hLen.out]) g 1 (zmx yt yf) s (by rfl) hg HC.out (by rw [hLen.out]; omega) (by omega) ?_
        intro v' w' hO3 hA
        obtain ⟨n9, hn9⟩ : ∃ n, (zms q d k ++ [zmx yt yf]).length = n := ⟨_, rfl⟩
        rw [OutM, hn9] at hO3
        have HN9 := Lib.hid (show n9 = k + 1 by rw [← hn9]; simp [hLen.out])
        clear hn9
        obtain ⟨A9, c9, ev, _, _⟩ := hO3.form
        subst ev
        have hB3 := hA.other _ _ _ (by decide) hB'
        have z5 := hB3.cell' (i := 5) rfl
        have fr := hB3.frozen
        have gb3 : Below w2.heap.size w2 w' := gb2.trans (hA.below (Nat.le_refl _) (by omega))
        have hs3 := hA.size
        have hF3' := HF'.out.appT (by decide) hA
        have HF3' := Lib.hid hF3'
        have HO3 := Lib.hid hO3
        clear hF3' hO3 HF' hO'' hA gb2 hg
        go_wp2
        go_roundw
        case rel =>
          refine ⟨k + 1, .slice A9 n9 c9, vs ++ [s], by omega, by go_num, gb3.setCell (by simp) _, by simp; omega, hB3.set_ 5 _, ?_, by simp [HVL.out], ?_⟩
          · have := HO3.out.set hB3 (by decide) 5 (.slice A9 n9 c9)
            rw [HZS.out]
            rw [HN9.out] at this ⊢
            simpa using this
          · have h1 := HF3'.out.setBlk (i := 5) hB3 (by decide) (.slice A9 n9 c9)
            have e : (vs ++ [s]).zip ((zms q d (k + 1)).map Mx.a) = vs.zip ((zms q d k).map Mx.a) ++ [(s, List.replicate (yt * yf).toNat 0)] := by
              rw [HZS.out, List.map_append, List.zip_append (by simp [HVL.out, hLen.out])]
              rfl
            rw [e]
            exact h1.mono (Nat.le_refl _) (by simp; omega)
        case measure => simp [intOf]; omega
    · obtain rfl : k = q.f.length := by omega
      have hbs := hbel.size
      obtain ⟨H1, h1, rfl, _, _⟩ := hO.form
      have hI := Lib.hid (zms_I64 HQ.out q.f.length (Nat.le_refl _))
      have hF' : Fam wr W.heap.size wr.heap.size ([(.slice A1 q.f.length a1, q.f), (.slice C1 q.t.length b1, q.t)] ++ [(.slice E1 d.length e1, d)] ++ vs.zip ((zms q d q.f.length).map Mx.a)) :=
        Fam.join (mi := w2.heap.size) (HF3.out.below hbel) hF (by omega) (by omega)
      have hL := zms_length q d q.f.length
      have hO' : OutM wr w2.heap.size wr.heap.size (.slice H1 q.f.length h1) vs (zms q d q.f.length) := by rw [OutM, hL]; exact hO
      have hR : RepO wr W.heap.size wr.heap.size (.agg #[.int .i64 p, .int .i64 q.v, .slice A1 q.f.length a1, .slice C1 q.t.length b1, .slice E1 d.length e1, .slice H1 q.f.length h1]) (zRep p q d) :=
        ⟨_, _, _, _, vs, rfl, hO'.mono (by omega) (Nat.le_refl _), by rw [HVL.out]; exact hL.symm, hF', ⟨hp, hqv⟩, hI.out⟩
      have HR := Lib.hid hR
      have k2' := K2.out.call hbel
      have r0 := hB.cell' (i := 0) rfl
      have r1 := hB.cell' (i := 1) rfl
      have r2 := hB.cell' (i := 2) rfl
      have r3 := hB.cell' (i := 3) rfl
      have r4 := hB.cell' (i := 4) rfl
      have r5 := hB.cell' (i := 5) rfl
      have s0 := k2'.cell' (i := 0) rfl
      have s1 := k2'.cell' (i := 1) rfl
      have s2 := k2'.cell' (i := 2) rfl
      have s3 := k2'.cell' (i := 3) rfl
      have s4 := k2'.cell' (i := 4) rfl
      have s5 := k2'.cell' (i := 5) rfl
      have fr := k2'.frozen
      have gf : Below w0.heap.size w0 wr := G0.out.trans (hbel.mono (G0.out).size)
      have GF := Lib.hid gf
      clear hR hO' hF' hL hO hF hB k2' kq gf
      go_wp2
      have sz := SZ.out
      have gf := GF.out
      refine bodyPost_ret (v := .agg #[.int .i64 p, .int .i64 q.v, .slice A1 q.f.length a1, .slice C1 q.t.length b1, .slice E1 d.length e1, .slice H1 q.f.length h1]) (by simp [results, go_sem, s0, s1, s2, s3, s4, s5]) rfl ⟨_, rfl, RepO.wider (lo := W.heap.size) (hi := wr.heap.size) ?_ (by omega) (by simp), (((((gf.setCell (by simp) _).setCell (by simp) _).setCell (by simp) _).setCell (by simp) _).setCell (by simp) _).setCell (by simp) _⟩
      have hc : Chg (w0.heap.size + 1) (w0.heap.size + 1 + 1) wr _ := (((((chg_set (w := wr) (p := ⟨w0.heap.size + 1, 0, none⟩) (u := .int .i64 p) (by simp) (by simp)).trans (chg_set (p := ⟨w0.heap.size + 1, 1, none⟩) (u := .int .i64 q.v) (by simp) (by simp))).trans (chg_set (p := ⟨w0.heap.size + 1, 2, none⟩) (u := .slice A1 q.f.length a1) (by simp) (by simp))).trans (chg_set (p := ⟨w0.heap.size + 1, 3, none⟩) (u := .slice C1 q.t.length b1) (by simp) (by simp))).trans (chg_set (p := ⟨w0.heap.size + 1, 4, none⟩) (u := .slice E1 d.length e1) (by simp) (by simp))).trans (chg_set (p := ⟨w0.heap.size + 1, 5, none⟩) (u := .slice H1 q.f.length h1) (by simp) (by simp))
      exact HR.out.chg hc (.inr (by omega))
end Go.Proofs.Ytcmlflppndfdcaa

/- The reference's l8Zero. -/
namespace Go.Proofs.Ytcmlflppndfdcaa
set_option linter.unusedVariables false
set_option linter.unusedSimpArgs false
open Go.RowKit

/-- a representation that the call made; the rows of its quiver and dimensions lie in earlier memory than those of its matrices, which are apart from one another -/
def RepI (w : World) (lo hi : Nat) (val : Value) (x : Rp) : Prop := ∃ f t d m vs mi, val = .agg #[.int .i64 x.p, .int .i64 x.q.v, f, t, d, m] ∧ IntsO w lo mi f x.q.f ∧ IntsO w lo mi t x.q.t ∧ IntsO w lo mi d x.d ∧ OutM w lo hi m vs x.m ∧ vs.length = x.m.length ∧
  Fam w mi hi (vs.zip (x.m.map Mx.a)) ∧ (lo ≤ mi ∧ mi ≤ hi) ∧ (I64 x.p ∧ I64 x.q.v) ∧ ∀ m ∈ x.m, I64 m.r ∧ I64 m.c
theorem RepI.rd {w : World} {lo hi : Nat} {v : Value} {x : Rp} (h : RepI w lo hi v x) : RpR w w.heap.size v x := by
  obtain ⟨f, t, d, m, vs, mi, e, h1, h2, h3, h4, h5, h6, _, h7, h8⟩ := h
  exact ⟨f, t, d, m, e, h1.rd, h2.rd, h3.rd, OutM.rd h4 h5 (fun p hp => (h6.1 p hp).rd) h8, h7⟩
theorem RepI.chg {w w' : World} {lo hi lo' hi' : Nat} {v : Value} {x : Rp} (h : RepI w lo hi v x) (hc : Chg lo' hi' w w') (hd : hi ≤ lo' ∨ hi' ≤ lo) : RepI w' lo hi v x := by
  obtain ⟨f, t, d, m, vs, mi, e, h1, h2, h3, h4, h5, h6, h9, h7, h8⟩ := h
  exact ⟨f, t, d, m, vs, mi, e, h1.chg hc (by omega), h2.chg hc (by omega), h3.chg hc (by omega), h4.chg hc hd, h5, h6.chg hc (by omega), h9, h7, h8⟩
theorem RepI.below {w w' : World} {lo hi : Nat} {v : Value} {x : Rp} (h : RepI w lo hi v x) (hb : Below w.heap.size w w') : RepI w' lo hi v x := by
  obtain ⟨f, t, d, m, vs, mi, e, h1, h2, h3, h4, h5, h6, h9, h7, h8⟩ := h
  exact ⟨f, t, d, m, vs, mi, e, h1.below hb, h2.below hb, h3.below hb, h4.below hb, h5, h6.below hb, h9, h7, h8⟩
theorem RepI.wider {w : World} {lo hi lo' hi' : Nat} {v : Value} {x : Rp} (h : RepI w lo hi v x) (k1 : lo' ≤ lo) (k2 : hi ≤ hi') : RepI w lo' hi' v x := by
  obtain ⟨f, t, d, m, vs, mi, e, h1, h2, h3, h4, h5, h6, h9, h7, h8⟩ := h
  exact ⟨f, t, d, m, vs, mi, e, h1.wider k1 (Nat.le_refl _), h2.wider k1 (Nat.le_refl _), h3.wider k1 (Nat.le_refl _), h4.mono k1 k2, h5, h6.mono (Nat.le_refl _) k2, by omega, h7, h8⟩

theorem RepI.zero (w : World) {lo hi : Nat} (h : lo ≤ hi) : RepI w lo hi (.agg #[.int .i64 0, .int .i64 0, .slice none 0 0, .slice none 0 0, .slice none 0 0, .slice none 0 0]) rp0 :=
  ⟨_, _, _, _, [], lo, rfl, ⟨OwnI.nil _ _, by simp [Value.ownBlock]⟩, ⟨OwnI.nil _ _, by simp [Value.ownBlock]⟩, ⟨OwnI.nil _ _, by simp [Value.ownBlock]⟩, RowO.nil _ w lo hi, rfl, ⟨fun p hp => by simp at hp, by simp⟩, ⟨Nat.le_refl _, h⟩, by simp [rp0, I64], fun m hm => by simp [rp0] at hm⟩

set_option maxHeartbeats 6400000 in
set_option maxRecDepth 100000 in
theorem l8Zero_any (p : Int) (u xv : Value) (q : Qv) (d : List Int) (w0 : World) (hp : I64 p) (hu : QvR w0 w0.heap.size u q) (hx : SlI w0 w0.heap.size xv d) (hq : areDims q d = true) :
    Calls Try.prog 35 #[.int .i64 p, u, xv] w0 fun e w' => ∃ v, e = .returned v ∧ RepI w' w0.heap.size w'.heap.size v (zRep p q d) ∧ Below w0.heap.size w0 w' := by
  have hu' := hu
  obtain ⟨A, c, C, c', rfl, hf, ht, hr, lf, lt⟩ := hu.open_
  obtain ⟨XA, xc, rfl, _, _, lx, hx⟩ := hx.open_
  clear hu
  obtain ⟨W, hW⟩ : ∃ W, W = (w0.alloc (.cells #[.int .i64 q.v, .slice A q.f.length c, .slice C q.t.length c'] 28)).alloc (.cells #[.int .i64 0, .int .i64 0, .slice none 0 0, .slice none 0 0, .slice none 0 0, .slice none 0 0] 31) := ⟨_, rfl⟩
  have g0 : Below w0.heap.size w0 W := by rw [hW]; exact ((Below.refl _ _).alloc (Nat.le_refl _) _).alloc (by simp) _
  have k1 : Blk W w0.heap.size 28 #[.int .i64 q.v, .slice A q.f.length c, .slice C q.t.length c'] := by rw [hW]; exact (Blk.new _ _ _).alloc _
  have k2 : Blk W (w0.heap.size + 1) 31 #[.int .i64 0, .int .i64 0, .slice none 0 0, .slice none 0 0, .slice none 0 0, .slice none 0 0] := by
    rw [hW]
    have := Blk.new (w0.alloc (.cells #[.int .i64 q.v, .slice A q.f.length c, .slice C q.t.length c'] 28)) 31 #[.int .i64 0, .int .i64 0, .slice none 0 0, .slice none 0 0, .slice none 0 0, .slice none 0 0]
    simpa only [World.size_alloc] using this
  have sz : W.heap.size = w0.heap.size + 1 + 1 := by rw [hW]; simp
  have SZ := Lib.hid sz
  clear sz
  have HQ := Lib.hid hq
  clear hq
  have hxW := SlI.next g0 hx
  have huW := QvR.next g0 hu'
  go_enter Try.func35, Try.ntmps35
  have c0 := k1.cell' (i := 0) rfl
  have c1 := k1.cell' (i := 1) rfl
  have c2 := k1.cell' (i := 2) rfl
  go_wp2_with fail
  rw [← hW]; clear hW
  refine (l6Copy_any _ q _ huW).mono ?_; rintro e w1 ⟨v1, rfl, ⟨qa, qb, rfl, ha, hb2, hqv⟩, hb1⟩
  obtain ⟨A1, a1, rfl⟩ := ha.form
  obtain ⟨C1, b1, rfl⟩ := hb2.form
  have s1 := hb1.size
  clear c0 c1 c2
  (go_wp2_with (at_builtin; refine Hold.stop ?_)); unfold Hold
  refine wpList_append_fresh (by rfl) (.tmp 12) (.tmp 13) (by rfl) w1.heap.size w1.heap.size (w1.alloc (.cells #[] 3)).heap.size #[] (by rfl) (Blk.new _ _ _) rfl (Nat.le_refl _) XA xc d (by rfl) (SlI.next (below_alloc _ _) (SlI.next hb1 hxW)) ?_
  intro v2 w2 ho hb2'
  obtain ⟨E1, e1, rfl, _, _⟩ := ho.form
  have hb3 : Below w1.heap.size w1 w2 := bthen (below_alloc _ _) hb2'
  have s2 := hb3.size
  have s2' := hb2'.size
  obtain ⟨W3, hW3⟩ : ∃ W3, W3 = (w2.alloc (.cells #[] 84)).alloc (.cells #[.int .i64 p, .int .i64 q.v, .slice A1 q.f.length a1, .slice C1 q.t.length b1, .slice E1 d.length e1, .slice (some ⟨w2.heap.size, 0, none⟩) 0 0] 31) := ⟨_, rfl⟩
  have gA : Below w2.heap.size w2 W3 := by rw [hW3]; exact ((Below.refl _ _).alloc (Nat.le_refl _) _).alloc (by simp) _
  have z3 : W3.heap.size = w2.heap.size + 1 + 1 := by rw [hW3]; simp
  have hBm3 : Blk W3 w2.heap.size 84 #[] := by rw [hW3]; exact (Blk.new _ _ _).alloc _
  have hB3 : Blk W3 (w2.heap.size + 1) 31 #[.int .i64 p, .int .i64 q.v, .slice A1 q.f.length a1, .slice C1 q.t.length b1, .slice E1 d.length e1, .slice (some ⟨w2.heap.size, 0, none⟩) 0 0] := by
    rw [hW3]
    have := Blk.new (w2.alloc (.cells #[] 84)) 31 #[.int .i64 p, .int .i64 q.v, .slice A1 q.f.length a1, .slice C1 q.t.length b1, .slice E1 d.length e1, .slice (some ⟨w2.heap.size, 0, none⟩) 0 0]
    simpa only [World.size_alloc] using this
  have g1 : Below W.heap.size W w2 := bthen hb1 hb3
  have gW3 : Below W.heap.size W W3 := bthen g1 gA
  have sW := g1.size
  simp only [World.size_alloc] at s2'
  have hO3 : RowO 84 3 W3 W.heap.size W3.heap.size (.slice (some ⟨w2.heap.size, 0, none⟩) 0 0) 0 [] := by
    have := hBm3.own (base := W.heap.size) (n := 0) (cap := 0) (size := 3) sW (Nat.le_refl _) (by simp only [maxLen]; omega) (by simp)
    exact ⟨by simpa using this, fun k hk => by simp [Value.ownBlock] at hk; subst hk; exact hBm3.lt, by omega⟩
  have ha3 : IntsO W3 W.heap.size W3.heap.size (.slice A1 q.f.length a1) q.f := ((ha.below hb3).below gA).wider (Nat.le_refl _) (by omega)
  have hb3' : IntsO W3 W.heap.size W3.heap.size (.slice C1 q.t.length b1) q.t := ((hb2.below hb3).below gA).wider (Nat.le_refl _) (by omega)
  have hd3 : IntsO W3 W.heap.size W3.heap.size (.slice E1 d.length e1) d := ((IntsO.of_own ho).below gA).wider (by omega) (by omega)
  have hgR : W.heap.size ≤ (w2.heap.size + 1) := by omega
  have q1' : W3.cell? ⟨w0.heap.size, 1, none⟩ = some (.slice A q.f.length c) := (k1.below gW3 (by have := SZ.out; omega)).cell' (i := 1) rfl
  have q1'' : w2.cell? ⟨w0.heap.size, 1, none⟩ = some (.slice A q.f.length c) := (k1.below g1 (by have := SZ.out; omega)).cell' (i := 1) rfl
  have hlt0 : w0.heap.size < w2.heap.size := by have := SZ.out; omega
  have K1 := Lib.hid k1
  have K2 := Lib.hid k2
  have G0 := Lib.hid g0
  have HA3 := Lib.hid ha3
  have HB3 := Lib.hid hb3'
  have HD3 := Lib.hid hd3
  have H3 := Lib.hid hB3
  have O3 := Lib.hid hO3
  have GW3 := Lib.hid gW3
  have HGR := Lib.hid (show (w2.heap.size + 1) < W3.heap.size by omega)
  clear ho ha hb2 hBm3 ha3 hb3 hb3' hd3 hB3 hO3 gW3 k1 k2 g0 hb1 hb2' gA g1 s1 s2 s2' sW z3
  go_wp2
  rw [← hW3]
  clear hW3 q1' q1''
  go_loopw [8] (fun i wr => ∃ (k : Nat) (mv : Value) (vs : List Value), k ≤ q.f.length ∧ i = .int .i64 k ∧ Below W.heap.size W wr ∧ W3.heap.size ≤ wr.heap.size ∧ Blk wr (w2.heap.size + 1) 31 #[.int .i64 p, .int .i64 q.v, .slice A1 q.f.length a1, .slice C1 q.t.length b1, .slice E1 d.length e1, mv] ∧
    IntsO wr W.heap.size W3.heap.size (.slice A1 q.f.length a1) q.f ∧ IntsO wr W.heap.size W3.heap.size (.slice C1 q.t.length b1) q.t ∧ IntsO wr W.heap.size W3.heap.size (.slice E1 d.length e1) d ∧
    RowO 84 3 wr W.heap.size wr.heap.size mv k (mxCs vs (zms q d k)) ∧ vs.length = k ∧ Fam wr W3.heap.size wr.heap.size (vs.zip ((zms q d k).map Mx.a))) (fun i _ => q.f.length - (intOf i).toNat)
  case atStart => exact ⟨0, _, [], Nat.zero_le _, rfl, GW3.out, Nat.le_refl _, H3.out, HA3.out, HB3.out, HD3.out, O3.out, rfl, ⟨fun p hp => by simp at hp, by simp⟩⟩
  case round =>
    obtain ⟨k, mv, vs, hk, rfl, hbel, hlt2, hB, hIa, hIb, hId, hO, hvl, hF⟩ := hrel
    have HVL := Lib.hid hvl
    clear hvl
    have kq := (K1.out).below hbel (by have := SZ.out; omega)
    have p1 := kq.cell' (i := 1) rfl
    by_cases hlt : k < q.f.length
    · obtain ⟨nf, nt, yf, yt, ef, et, df, dt, lnf, lnt, lnf5, lnt5, hkt0⟩ := rep_at (x := ⟨0, q, d, []⟩) HQ.out hlt
      simp only at ef et df dt lnf lnt hkt0
      have hkf := hlt
      have hd := (areDims_t.1 HQ.out).2.2.1
      have hlf6 : q.f.length ≤ 6 := (isQ_t.1 (areDims_t.1 HQ.out).1).2.2.1
      have byf := hd _ (List.mem_of_getElem? df)
      have byt := hd _ (List.mem_of_getElem? dt)
      have HZS := Lib.hid (zms_succ ef et df dt)
      clear hd
      have hkt := hkt0
      obtain ⟨bf, of_, xf, eA, hbf, HXF, f1, _⟩ := SlI.at_ hf hkf
      obtain ⟨bt, ot, xt, eC, hbt, HXT, t1, _⟩ := SlI.at_ ht hkt
      obtain ⟨bd, od, xdf, eX, hbd, HXDF, d1, _⟩ := SlI.at_ hx lnf
      obtain ⟨bd', od', xdt, eX', hbd', HXDT, d2, _⟩ := SlI.at_ hx lnt
      subst eA eC eX
      injection eX' with eX'
      injection eX' with e1 e2
      subst e1 e2
      have q1 := HXF.out
      rw [ef] at q1
      injection q1 with q1
      subst q1
      have q2 := HXT.out
      rw [et] at q2
      injection q2 with q2
      subst q2
      have q3 := HXDF.out
      rw [df] at q3
      injection q3 with q3
      subst q3
      have q4 := HXDT.out
      rw [dt] at q4
      injection q4 with q4
      subst q4
      clear HXF HXT HXDF HXDT ef et df dt
      have gw : Below w0.heap.size w0 wr := G0.out.trans (hbel.mono (G0.out).size)
      have gws := gw.size
      have hbelS := hbel.size
      have sz := SZ.out
      have a1' : (0 : Int) ≤ (k : Int) := by omega
      have a2' : (k : Int) < q.f.length := by omega
      have a3' : (k : Int) < q.t.length := by omega
      have a4' : (0 : Int) ≤ (nf : Int) := by omega
      have a5' : (nf : Int) < d.length := by omega
      have a6' : (0 : Int) ≤ (nt : Int) := by omega
      have a7' : (nt : Int) < d.length := by omega
      have SZ2 := Lib.hid sz
      clear sz
      go_wp2
      refine wp_region_net (by kernel_rfl) [.eq (.pointer (some ⟨w2.heap.size + 1, 5, none⟩)), .eq (mv), .eq (.slice (some ⟨bd, od, none⟩) d.length xc), .eq (.pointer (some ⟨w0.heap.size, 2, none⟩)), .eq (.slice (some ⟨bt, ot, none⟩) q.t.length c'), .eq (.int .i64 k), .eq (.pointer (some ⟨bt, ot + k, none⟩)), .eq (.int .i64 nt), .eq (.pointer (some ⟨bd, od + nt, none⟩)), .eq (.int .i64 yt), .eq (.slice (some ⟨bd, od, none⟩) d.length xc), .eq (.pointer (some ⟨w0.heap.size, 1, none⟩)), .eq (.slice (some ⟨bf, of_, none⟩) q.f.length c), .eq (.int .i64 k), .eq (.pointer (some ⟨bf, of_ + k, none⟩)), .eq (.int .i64 nf), .eq (.pointer (some ⟨bd, od + nf, none⟩)), .eq (.int .i64 yf), rel 18 (fun u lo hi w => MxO w lo hi u (zmx yt yf)), .rel (fun x w => ∃ g s, x.v 19 = .slice (some ⟨g, 0, none⟩) 1 1 ∧ x.v 18 = .agg #[.int .i64 yt, .int .i64 yf, s] ∧ Blk w g 84 #[.int .i64 yt, .int .i64 yf, s])] [[], [0], [], [], [3], [], [3, 4, 5], [3, 4, 5, 6], [2, 3, 4, 5, 6, 7], [2, 3, 4, 5, 6, 7, 8], [], [], [11], [], [11, 12, 13], [11, 12, 13, 14], [10, 11, 12, 13, 14, 15], [10, 11, 12, 13, 14, 15, 16], [2, 3, 4, 5, 6, 7, 8, 9, 10, 11, 12, 13, 14, 15, 16, 17], [2, 3, 4, 5, 6, 7, 8, 9, 10, 11, 12, 13, 14, 15, 16, 17, 18], [0, 1, 2, 3, 4, 5, 6, 7, 8, 9, 10, 11, 12, 13, 14, 15, 16, 17, 18, 19], [0, 1, 2, 3, 4, 5, 6, 7, 8, 9, 10, 11, 12, 13, 14, 15, 16, 17, 18, 19, 20], [0, 1, 2, 3, 4, 5, 6, 7, 8, 9, 10, 11, 12, 13, 14, 15, 16, 17, 18, 19, 20, 21]] 20 (by kernel_rfl) ⟨trivial, trivial, trivial, trivial, trivial, trivial, trivial, trivial, trivial, trivial, trivial, trivial, trivial, trivial, trivial, trivial, trivial, trivial, rel_stable (fun u lo hi w w' h hb => h.below hb), fun x w w' ⟨g, s, e1, e2, h⟩ hb => ⟨g, s, e1, e2, h.call hb⟩, trivial⟩ ⟨?_, ?_, ?_, ?_, ?_, ?_, ?_, ?_, ?_, ?_, ?_, ?_, ?_, ?_, ?_, ?_, ?_, ?_, ?_, ?_, trivial⟩ ?_
      · intro x w hb hk Q' hQ
        clear hk
        simp only [netAct, dstAt, List.getElem?_toArray, List.getElem?_cons_zero, List.getElem?_cons_succ, Option.bind_some, Act.put, List.setIfInBounds_toArray, List.set_cons_zero, List.set_cons_succ] at hQ ⊢
        go_wp2
        exact hQ (.pointer (some ⟨w2.heap.size + 1, 5, none⟩)) _ (Below.refl _ _) rfl
      · intro x w hb hk Q' hQ
        have h0 : x.v 0 = .pointer (some ⟨w2.heap.size + 1, 5, none⟩) := (hk 0 (by decide)).1
        clear hk
        simp only [netAct, dstAt, List.getElem?_toArray, List.getElem?_cons_zero, List.getElem?_cons_succ, Option.bind_some, Act.put, List.setIfInBounds_toArray, List.set_cons_zero, List.set_cons_succ] at hQ ⊢
        simp only [h0] at hQ ⊢
        clear h0
        have z5 := (hB.call hb).cell' (i := 5) rfl
        go_wp2
        exact hQ (mv) _ (Below.refl _ _) rfl
      · intro x w hb hk Q' hQ
        clear hk
        simp only [netAct, dstAt, List.getElem?_toArray, List.getElem?_cons_zero, List.getElem?_cons_succ, Option.bind_some, Act.put, List.setIfInBounds_toArray, List.set_cons_zero, List.set_cons_succ] at hQ ⊢
        go_wp2
        exact hQ (.slice (some ⟨bd, od, none⟩) d.length xc) _ (Below.refl _ _) rfl
      · intro x w hb hk Q' hQ
        clear hk
        simp only [netAct, dstAt, List.getElem?_toArray, List.getElem?_cons_zero, List.getElem?_cons_succ, Option.bind_some, Act.put, List.setIfInBounds_toArray, List.set_cons_zero, List.set_cons_succ] at hQ ⊢
        go_wp2
        exact hQ (.pointer (some ⟨w0.heap.size, 2, none⟩)) _ (Below.refl _ _) rfl
      · intro x w hb hk Q' hQ
        have h3 : x.v 3 = .pointer (some ⟨w0.heap.size, 2, none⟩) := (hk 3 (by decide)).1
        clear hk
        simp only [netAct, dstAt, List.getElem?_toArray, List.getElem?_cons_zero, List.getElem?_cons_succ, Option.bind_some, Act.put, List.setIfInBounds_toArray, List.set_cons_zero, List.set_cons_succ] at hQ ⊢
        simp only [h3] at hQ ⊢
        clear h3
        have z2 := (kq.call hb).cell' (i := 2) rfl
        go_wp2
        exact hQ (.slice (some ⟨bt, ot, none⟩) q.t.length c') _ (Below.refl _ _) rfl
      · intro x w hb hk Q' hQ
        clear hk
        simp only [netAct, dstAt, List.getElem?_toArray, List.getElem?_cons_zero, List.getElem?_cons_succ, Option.bind_some, Act.put, List.setIfInBounds_toArray, List.set_cons_zero, List.set_cons_succ] at hQ ⊢
        go_wp2
        exact hQ (.int .i64 k) _ (Below.refl _ _) rfl
      · intro x w hb hk Q' hQ
        have h4 : x.v 4 = .slice (some ⟨bt, ot, none⟩) q.t.length c' := (hk 4 (by decide)).1
        have h5 : x.v 5 = .int .i64 k := (hk 5 (by decide)).1
        clear hk
        simp only [netAct, dstAt, List.getElem?_toArray, List.getElem?_cons_zero, List.getElem?_cons_succ, Option.bind_some, Act.put, List.setIfInBounds_toArray, List.set_cons_zero, List.set_cons_succ] at hQ ⊢
        simp only [h4, h5] at hQ ⊢
        clear h4 h5
        go_wp2
        exact hQ (.pointer (some ⟨bt, ot + k, none⟩)) _ (Below.refl _ _) rfl
      · intro x w hb hk Q' hQ
        have h6 : x.v 6 = .pointer (some ⟨bt, ot + k, none⟩) := (hk 6 (by decide)).1
        clear hk
        simp only [netAct, dstAt, List.getElem?_toArray, List.getElem?_cons_zero, List.getElem?_cons_succ, Option.bind_some, Act.put, List.setIfInBounds_toArray, List.set_cons_zero, List.set_cons_succ] at hQ ⊢
        simp only [h6] at hQ ⊢
        clear h6
        have z2 := bcell hb (by omega) (bcell gw hbt t1)
        go_wp2
        exact hQ (.int .i64 nt) _ (Below.refl _ _) rfl
      · intro x w hb hk Q' hQ
        have h2 : x.v 2 = .slice (some ⟨bd, od, none⟩) d.length xc := (hk 2 (by decide)).1
        have h7 : x.v 7 = .int .i64 nt := (hk 7 (by decide)).1
        clear hk
        simp only [netAct, dstAt, List.getElem?_toArray, List.getElem?_cons_zero, List.getElem?_cons_succ, Option.bind_some, Act.put, List.setIfInBounds_toArray, List.set_cons_zero, List.set_cons_succ] at hQ ⊢
        simp only [h2, h7] at hQ ⊢
        clear h2 h7
        go_wp2
        exact hQ (.pointer (some ⟨bd, od + nt, none⟩)) _ (Below.refl _ _) rfl
      · intro x w hb hk Q' hQ
        have h8 : x.v 8 = .pointer (some ⟨bd, od + nt, none⟩) := (hk 8 (by decide)).1
        clear hk
        simp only [netAct, dstAt, List.getElem?_toArray, List.getElem?_cons_zero, List.getElem?_cons_succ, Option.bind_some, Act.put, List.setIfInBounds_toArray, List.set_cons_zero, List.set_cons_succ] at hQ ⊢
        simp only [h8] at hQ ⊢
        clear h8
        have z2 := bcell hb (by omega) (bcell gw hbd' d2)
        go_wp2
        exact hQ (.int .i64 yt) _ (Below.refl _ _) rfl
      · intro x w hb hk Q' hQ
        clear hk
        simp only [netAct, dstAt, List.getElem?_toArray, List.getElem?_cons_zero, List.getElem?_cons_succ, Option.bind_some, Act.put, List.setIfInBounds_toArray, List.set_cons_zero, List.set_cons_succ] at hQ ⊢
        go_wp2
        exact hQ (.slice (some ⟨bd, od, none⟩) d.length xc) _ (Below.refl _ _) rfl
      · intro x w hb hk Q' hQ
        clear hk
        simp only [netAct, dstAt, List.getElem?_toArray, List.getElem?_cons_zero, List.getElem?_cons_succ, Option.bind_some, Act.put, List.setIfInBounds_toArray, List.set_cons_zero, List.set_cons_succ] at hQ ⊢
        go_wp2
        exact hQ (.pointer (some ⟨w0.heap.size, 1, none⟩)) _ (Below.refl _ _) rfl
      · intro x w hb hk Q' hQ
        have h11 : x.v 11 = .pointer (some ⟨w0.heap.size, 1, none⟩) := (hk 11 (by decide)).1
        clear hk
        simp only [netAct, dstAt, List.getElem?_toArray, List.getElem?_cons_zero, List.getElem?_cons_succ, Option.bind_some, Act.put, List.setIfInBounds_toArray, List.set_cons_zero, List.set_cons_succ] at hQ ⊢
        simp only [h11] at hQ ⊢
        clear h11
        have z2 := (kq.call hb).cell' (i := 1) rfl
        go_wp2
        exact hQ (.slice (some ⟨bf, of_, none⟩) q.f.length c) _ (Below.refl _ _) rfl
      · intro x w hb hk Q' hQ
        clear hk
        simp only [netAct, dstAt, List.getElem?_toArray, List.getElem?_cons_zero, List.getElem?_cons_succ, Option.bind_some, Act.put, List.setIfInBounds_toArray, List.set_cons_zero, List.set_cons_succ] at hQ ⊢
        go_wp2
        exact hQ (.int .i64 k) _ (Below.refl _ _) rfl
      · intro x w hb hk Q' hQ
        have h12 : x.v 12 = .slice (some ⟨bf, of_, none⟩) q.f.length c := (hk 12 (by decide)).1
        have h13 : x.v 13 = .int .i64 k := (hk 13 (by decide)).1
        clear hk
        simp only [netAct, dstAt, List.getElem?_toArray, List.getElem?_cons_zero, List.getElem?_cons_succ, Option.bind_some, Act.put, List.setIfInBounds_toArray, List.set_cons_zero, List.set_cons_succ] at hQ ⊢
        simp only [h12, h13] at hQ ⊢
        clear h12 h13
        go_wp2
        exact hQ (.pointer (some ⟨bf, of_ + k, none⟩)) _ (Below.refl _ _) rfl
      · intro x w hb hk Q' hQ
        have h14 : x.v 14 = .pointer (some ⟨bf, of_ + k, none⟩) := (hk 14 (by decide)).1
        clear hk
        simp only [netAct, dstAt, List.getElem?_toArray, List.getElem?_cons_zero, List.getElem?_cons_succ, Option.bind_some, Act.put, List.setIfInBounds_toArray, List.set_cons_zero, List.set_cons_succ] at hQ ⊢
        simp only [h14] at hQ ⊢
        clear h14
        have z2 := bcell hb (by omega) (bcell gw hbf f1)
        go_wp2
        exact hQ (.int .i64 nf) _ (Below.refl _ _) rfl
      · intro x w hb hk Q' hQ
        have h10 : x.v 10 = .slice (some ⟨bd, od, none⟩) d.length xc := (hk 10 (by decide)).1
        have h15 : x.v 15 = .int .i64 nf := (hk 15 (by decide)).1
        clear hk
        simp only [netAct, dstAt, List.getElem?_toArray, List.getElem?_cons_zero, List.getElem?_cons_succ, Option.bind_some, Act.put, List.setIfInBounds_toArray, List.set_cons_zero, List.set_cons_succ] at hQ ⊢
        simp only [h10, h15] at hQ ⊢
        clear h10 h15
        go_wp2
        exact hQ (.pointer (some ⟨bd, od + nf, none⟩)) _ (Below.refl _ _) rfl
      · intro x w hb hk Q' hQ
        have h16 : x.v 16 = .pointer (some ⟨bd, od + nf, none⟩) := (hk 16 (by decide)).1
        clear hk
        simp only [netAct, dstAt, List.getElem?_toArray, List.getElem?_cons_zero, List.getElem?_cons_succ, Option.bind_some, Act.put, List.setIfInBounds_toArray, List.set_cons_zero, List.set_cons_succ] at hQ ⊢
        simp only [h16] at hQ ⊢
        clear h16
        have z2 := bcell hb (by omega) (bcell gw hbd d1)
        go_wp2
        exact hQ (.int .i64 yf) _ (Below.refl _ _) rfl
      · intro x w hb hk Q' hQ
        have h2 : x.v 2 = .slice (some ⟨bd, od, none⟩) d.length xc := (hk 2 (by decide)).1
        have h3 : x.v 3 = .pointer (some ⟨w0.heap.size, 2, none⟩) := (hk 3 (by decide)).1
        have h4 : x.v 4 = .slice (some ⟨bt, ot, none⟩) q.t.length c' := (hk 4 (by decide)).1
        have h5 : x.v 5 = .int .i64 k := (hk 5 (by decide)).1
        have h6 : x.v 6 = .pointer (some ⟨bt, ot + k, none⟩) := (hk 6 (by decide)).1
        have h7 : x.v 7 = .int .i64 nt := (hk 7 (by decide)).1
        have h8 : x.v 8 = .pointer (some ⟨bd, od + nt, none⟩) := (hk 8 (by decide)).1
        have h9 : x.v 9 = .int .i64 yt := (hk 9 (by decide)).1
        have h10 : x.v 10 = .slice (some ⟨bd, od, none⟩) d.length xc := (hk 10 (by decide)).1
        have h11 : x.v 11 = .pointer (some ⟨w0.heap.size, 1, none⟩) := (hk 11 (by decide)).1
        have h12 : x.v 12 = .slice (some ⟨bf, of_, none⟩) q.f.length c := (hk 12 (by decide)).1
        have h13 : x.v 13 = .int .i64 k := (hk 13 (by decide)).1
        have h14 : x.v 14 = .pointer (some ⟨bf, of_ + k, none⟩) := (hk 14 (by decide)).1
        have h15 : x.v 15 = .int .i64 nf := (hk 15 (by decide)).1
        have h16 : x.v 16 = .pointer (some ⟨bd, od + nf, none⟩) := (hk 16 (by decide)).1
        have h17 : x.v 17 = .int .i64 yf := (hk 17 (by decide)).1
        clear hk
        simp only [netAct, dstAt, List.getElem?_toArray, List.getElem?_cons_zero, List.getElem?_cons_succ, Option.bind_some, Act.put, List.setIfInBounds_toArray, List.set_cons_zero, List.set_cons_succ] at hQ ⊢
        simp only [h2, h3, h4, h5, h6, h7, h8, h9, h10, h11, h12, h13, h14, h15, h16, h17] at hQ ⊢
        clear h2 h3 h4 h5 h6 h7 h8 h9 h10 h11 h12 h13 h14 h15 h16 h17
        go_wp2_with fail
        refine (l3Zero_any yt yf _ byt.1 byf.1 (by omega) (by omega)).mono ?_; rintro e w3 ⟨v3, rfl, hZ, hb3⟩
        go_wp2
        exact hQ _ _ hb3 hZ
      · intro x w hb hk Q' hQ
        have h2 : x.v 2 = .slice (some ⟨bd, od, none⟩) d.length xc := (hk 2 (by decide)).1
        have h3 : x.v 3 = .pointer (some ⟨w0.heap.size, 2, none⟩) := (hk 3 (by decide)).1
        have h4 : x.v 4 = .slice (some ⟨bt, ot, none⟩) q.t.length c' := (hk 4 (by decide)).1
        have h5 : x.v 5 = .int .i64 k := (hk 5 (by decide)).1
        have h6 : x.v 6 = .pointer (some ⟨bt, ot + k, none⟩) := (hk 6 (by decide)).1
        have h7 : x.v 7 = .int .i64 nt := (hk 7 (by decide)).1
        have h8 : x.v 8 = .pointer (some ⟨bd, od + nt, none⟩) := (hk 8 (by decide)).1
        have h9 : x.v 9 = .int .i64 yt := (hk 9 (by decide)).1
        have h10 : x.v 10 = .slice (some ⟨bd, od, none⟩) d.length xc := (hk 10 (by decide)).1
        have h11 : x.v 11 = .pointer (some ⟨w0.heap.size, 1, none⟩) := (hk 11 (by decide)).1
        have h12 : x.v 12 = .slice (some ⟨bf, of_, none⟩) q.f.length c := (hk 12 (by decide)).1
        have h13 : x.v 13 = .int .i64 k := (hk 13 (by decide)).1
        have h14 : x.v 14 = .pointer (some ⟨bf, of_ + k, none⟩) := (hk 14 (by decide)).1
        have h15 : x.v 15 = .int .i64 nf := (hk 15 (by decide)).1
        have h16 : x.v 16 = .pointer (some ⟨bd, od + nf, none⟩) := (hk 16 (by decide)).1
        have h17 : x.v 17 = .int .i64 yf := (hk 17 (by decide)).1
        have h18 : MxO w (x.lo 18) (x.hi 18) (x.v 18) (zmx yt yf) := (hk 18 (by decide)).1
        have s18 := (hk 18 (by decide)).2
        clear hk
        simp only [netAct, dstAt, List.getElem?_toArray, List.getElem?_cons_zero, List.getElem?_cons_succ, Option.bind_some, Act.put, List.setIfInBounds_toArray, List.set_cons_zero, List.set_cons_succ] at hQ ⊢
        simp only [h2, h3, h4, h5, h6, h7, h8, h9, h10, h11, h12, h13, h14, h15, h16, h17] at hQ ⊢
        clear h2 h3 h4 h5 h6 h7 h8 h9 h10 h11 h12 h13 h14 h15 h16 h17
        obtain ⟨s, e14, hs⟩ := h18
        obtain ⟨sA, sc, es⟩ := hs.1.form
        obtain ⟨sn, hsn⟩ : ∃ n, (zmx yt yf).a.length = n := ⟨_, rfl⟩
        rw [hsn] at es
        clear hsn hs
        subst es
        have hQ' := hQ (.slice (some ⟨w.heap.size, 0, none⟩) 1 1) (w.alloc (.cells #[.int .i64 yt, .int .i64 yf, .slice sA sn sc] 84)) (below_alloc _ _) ⟨_, _, rfl, e14, Blk.new _ _ _⟩
        simp only [zmx] at e14
        rw [e14] at hQ' ⊢
        go_wp2
        exact hQ'
      · intro x w hb hk hiv hdj
        have h0 : x.v 0 = .pointer (some ⟨w2.heap.size + 1, 5, none⟩) := hk 0 (by decide)
        have h1 : x.v 1 = mv := hk 1 (by decide)
        have h2 : x.v 2 = .slice (some ⟨bd, od, none⟩) d.length xc := hk 2 (by decide)
        have h3 : x.v 3 = .pointer (some ⟨w0.heap.size, 2, none⟩) := hk 3 (by decide)
        have h4 : x.v 4 = .slice (some ⟨bt, ot, none⟩) q.t.length c' := hk 4 (by decide)
        have h5 : x.v 5 = .int .i64 k := hk 5 (by decide)
        have h6 : x.v 6 = .pointer (some ⟨bt, ot + k, none⟩) := hk 6 (by decide)
        have h7 : x.v 7 = .int .i64 nt := hk 7 (by decide)
        have h8 : x.v 8 = .pointer (some ⟨bd, od + nt, none⟩) := hk 8 (by decide)
        have h9 : x.v 9 = .int .i64 yt := hk 9 (by decide)
        have h10 : x.v 10 = .slice (some ⟨bd, od, none⟩) d.length xc := hk 10 (by decide)
        have h11 : x.v 11 = .pointer (some ⟨w0.heap.size, 1, none⟩) := hk 11 (by decide)
        have h12 : x.v 12 = .slice (some ⟨bf, of_, none⟩) q.f.length c := hk 12 (by decide)
        have h13 : x.v 13 = .int .i64 k := hk 13 (by decide)
        have h14 : x.v 14 = .pointer (some ⟨bf, of_ + k, none⟩) := hk 14 (by decide)
        have h15 : x.v 15 = .int .i64 nf := hk 15 (by decide)
        have h16 : x.v 16 = .pointer (some ⟨bd, od + nf, none⟩) := hk 16 (by decide)
        have h17 : x.v 17 = .int .i64 yf := hk 17 (by decide)
        have h18 : MxO w (x.lo 18) (x.hi 18) (x.v 18) (zmx yt yf) := hk 18 (by decide)
        have h19 : ∃ g s, x.v 19 = .slice (some ⟨g, 0, none⟩) 1 1 ∧ x.v 18 = .agg #[.int .i64 yt, .int .i64 yf, s] ∧ Blk w g 84 #[.int .i64 yt, .int .i64 yf, s] := hk 19 (by decide)
        clear hk
        simp only [netAct, dstAt, List.getElem?_toArray, List.getElem?_cons_zero, List.getElem?_cons_succ, Option.bind_some, Act.put, List.setIfInBounds_toArray, List.set_cons_zero, List.set_cons_succ]
        simp only [List.drop_succ_cons, List.drop_zero, h0, h1, h2, h3, h4, h5, h6, h7, h8, h9, h10, h11, h12, h13, h14, h15, h16, h17]
        clear h0 h1 h2 h3 h4 h5 h6 h7 h8 h9 h10 h11 h12 h13 h14 h15 h16 h17
        obtain ⟨g, s, e15, e14, hg⟩ := h19
        have l14 := (hiv 18 (by decide)).1
        have h14i := (hiv 18 (by decide)).2.2
        obtain ⟨s', e14', hs, _⟩ := h18
        rw [e14] at e14'
        simp only [Value.agg.injEq, Array.mk.injEq, List.cons.injEq, and_true, zmx, true_and] at e14'
        subst e14'
        rw [e15]
        have hO' := hO.below hb
        have hF' := (hF.below hb).snoc (hs.wider l14 h14i) (by omega) hb.size
        have hB' := hB.call hb
        have hIa' := hIa.below hb
        have hIb' := hIb.below hb
        have hId' := hId.below hb
        have gb2 : Below W.heap.size W w := hbel.trans (hb.mono hbelS)
        have hbs2 := hb.size
        have hLen := Lib.hid (zms_length q d k)
        have HF' := Lib.hid hF'
        have hO'' : OutM w W.heap.size wr.heap.size mv vs (zms q d k) := by rw [OutM, hLen.out]; exact hO'
        have HC := Lib.hid hs.cell
        clear hiv hdj hs hF' hO' hO hF e14 e15 hb hB hIa hIb hId
        refine wpList_appM (by rfl) (.tmp 25) (.tmp 43) (by rfl) W.heap.size wr.heap.size mv vs (zms q d k) (by rfl) hO'' (by rw [HVL.out, hLen.out]) g 1 (zmx yt yf) s (by rfl) hg HC.out (by rw [hLen.out]; omega) (by omega) ?_
        intro v' w' hO3 hA
        obtain ⟨n9, hn9⟩ : ∃ n, (zms q d k ++ [zmx yt yf]).length = n := ⟨_, rfl⟩
        rw [OutM, hn9] at hO3
        have HN9 := Lib.hid (show n9 = k + 1 by rw [← hn9]; simp [hLen.out])
        clear hn9
        obtain ⟨A9, c9, ev, _, _⟩ := hO3.form
        subst ev
        have hB3 := hA.other _ _ _ (by decide) hB'
        have z5 := hB3.cell' (i := 5) rfl
        have fr := hB3.frozen
        have gb3 : Below W.heap.size W w' := gb2.trans (hA.below (Nat.le_refl _) (by omega))
        have hs3 := hA.size
        have hF3' := HF'.out.appT (by decide) hA
        have HF3' := Lib.hid hF3'
        have HO3 := Lib.hid hO3
        have HIa := Lib.hid (hIa'.appT (by decide) hA)
        have HIb := Lib.hid (hIb'.appT (by decide) hA)
        have HId := Lib.hid (hId'.appT (by decide) hA)
        clear hF3' hO3 HF' hO'' hA gb2 hg hIa' hIb' hId'
        go_wp2
        go_roundw
        case rel =>
          have ti : AppT 31 W.heap.size w' (w'.setCell ⟨w2.heap.size + 1, 5, none⟩ (.slice A9 n9 c9)) := AppT.set hB3 rfl hgR
          refine ⟨k + 1, .slice A9 n9 c9, vs ++ [s], by omega, by go_num, gb3.setCell (by simpa using hgR) _, by simp; omega, hB3.set_ 5 _, HIa.out.appT (by decide) ti, HIb.out.appT (by decide) ti, HId.out.appT (by decide) ti, ?_, by simp [HVL.out], ?_⟩
          · have := HO3.out.set hB3 (by decide) 5 (.slice A9 n9 c9)
            rw [HZS.out]
            rw [HN9.out] at this ⊢
            simpa using this
          · have h1 := HF3'.out.setBlk (i := 5) hB3 (by decide) (.slice A9 n9 c9)
            have e : (vs ++ [s]).zip ((zms q d (k + 1)).map Mx.a) = vs.zip ((zms q d k).map Mx.a) ++ [(s, List.replicate (yt * yf).toNat 0)] := by
              rw [HZS.out, List.map_append, List.zip_append (by simp [HVL.out, hLen.out])]
              rfl
            rw [e]
            exact h1.mono (Nat.le_refl _) (by simp; omega)
        case measure => simp [intOf]; omega
    · obtain rfl : k = q.f.length := by omega
      have hbs := hbel.size
      obtain ⟨H1, h1, rfl, _, _⟩ := hO.form
      have hI := Lib.hid (zms_I64 HQ.out q.f.length (Nat.le_refl _))
      have hL := zms_length q d q.f.length
      have hO' : OutM wr W.heap.size wr.heap.size (.slice H1 q.f.length h1) vs (zms q d q.f.length) := by rw [OutM, hL]; exact hO
      have hbW3 := (GW3.out).size
      have hR : RepI wr W.heap.size wr.heap.size (.agg #[.int .i64 p, .int .i64 q.v, .slice A1 q.f.length a1, .slice C1 q.t.length b1, .slice E1 d.length e1, .slice H1 q.f.length h1]) (zRep p q d) :=
        ⟨_, _, _, _, vs, W3.heap.size, rfl, hIa, hIb, hId, hO', by rw [HVL.out]; exact hL.symm, hF, ⟨hbW3, hlt2⟩, ⟨hp, hqv⟩, hI.out⟩
      have HR := Lib.hid hR
      have k2' := (K2.out).below hbel (by have := SZ.out; omega)
      have r0 := hB.cell' (i := 0) rfl
      have r1 := hB.cell' (i := 1) rfl
      have r2 := hB.cell' (i := 2) rfl
      have r3 := hB.cell' (i := 3) rfl
      have r4 := hB.cell' (i := 4) rfl
      have r5 := hB.cell' (i := 5) rfl
      have s0 := k2'.cell' (i := 0) rfl
      have s1 := k2'.cell' (i := 1) rfl
      have s2 := k2'.cell' (i := 2) rfl
      have s3 := k2'.cell' (i := 3) rfl
      have s4 := k2'.cell' (i := 4) rfl
      have s5 := k2'.cell' (i := 5) rfl
      have fr := k2'.frozen
      have GF := Lib.hid (G0.out.trans (hbel.mono (G0.out).size))
      have HBS := Lib.hid hbs
      clear hR hO' hL hO hF hB k2' kq hIa hIb hId hbs hbW3
      go_wp2
      have sz := SZ.out
      have hbs := HBS.out
      have gf := GF.out
      refine bodyPost_ret (v := .agg #[.int .i64 p, .int .i64 q.v, .slice A1 q.f.length a1, .slice C1 q.t.length b1, .slice E1 d.length e1, .slice H1 q.f.length h1]) (by simp [results, go_sem, s0, s1, s2, s3, s4, s5]) rfl ⟨_, rfl, RepI.wider (lo := W.heap.size) (hi := wr.heap.size) ?_ (by omega) (by simp), (((((gf.setCell (by simp) _).setCell (by simp) _).setCell (by simp) _).setCell (by simp) _).setCell (by simp) _).setCell (by simp) _⟩
      have hc : Chg (w0.heap.size + 1) (w0.heap.size + 1 + 1) wr _ := (((((chg_set (w := wr) (p := ⟨w0.heap.size + 1, 0, none⟩) (u := .int .i64 p) (by simp) (by simp)).trans (chg_set (p := ⟨w0.heap.size + 1, 1, none⟩) (u := .int .i64 q.v) (by simp) (by simp))).trans (chg_set (p := ⟨w0.heap.size + 1, 2, none⟩) (u := .slice A1 q.f.length a1) (by simp) (by simp))).trans (chg_set (p := ⟨w0.heap.size + 1, 3, none⟩) (u := .slice C1 q.t.length b1) (by simp) (by simp))).trans (chg_set (p := ⟨w0.heap.size + 1, 4, none⟩) (u := .slice E1 d.length e1) (by simp) (by simp))).trans (chg_set (p := ⟨w0.heap.size + 1, 5, none⟩) (u := .slice H1 q.f.length h1) (by simp) (by simp))
      exact HR.out.chg hc (.inr (by omega))
end Go.Proofs.Ytcmlflppndfdcaa

/- Intervals of a zigzag: plain part; matrices of a representation told by a function, one number written. -/
namespace Go.Proofs.Ytcmlflppndfdcaa
set_option linter.unusedVariables false
set_option linter.unusedSimpArgs false
open Go.RowKit

/-! ### matrices told by a function of the place -/
def msF (n : Nat) (F : Nat → Mx) : List Mx := (List.range n).map F
theorem msF_length (n : Nat) (F : Nat → Mx) : (msF n F).length = n := by simp [msF]
theorem msF_get {n j : Nat} (F : Nat → Mx) (h : j < n) : (msF n F)[j]? = some (F j) := by simp [msF, h]
theorem msF_congr {n : Nat} {F G : Nat → Mx} (e : ∀ i, i < n → F i = G i) : msF n F = msF n G := by
  apply List.ext_getElem?
  intro i
  by_cases hi : i < n
  · rw [msF_get F hi, msF_get G hi, e i hi]
  · rw [List.getElem?_eq_none (by rw [msF_length]; omega), List.getElem?_eq_none (by rw [msF_length]; omega)]
theorem msF_set {n j : Nat} (F : Nat → Mx) (m : Mx) : (msF n F).set j m = msF n fun i => if i = j then m else F i := by
  apply List.ext_getElem?
  intro i
  rw [List.getElem?_set, msF_length]
  by_cases hi : i < n
  · rw [msF_get (fun i => if i = j then m else F i) hi]
    by_cases e : j = i
    · rw [if_pos e, if_pos (by omega), if_pos e.symm]
    · rw [if_neg e, msF_get _ hi, if_neg (fun h => e h.symm)]
  · rw [List.getElem?_eq_none (l := msF n fun i => if i = j then m else F i) (by rw [msF_length]; omega)]
    split
    · rw [if_neg (by omega)]
    · rw [List.getElem?_eq_none (by rw [msF_length]; omega)]
theorem msF_mem {n : Nat} {F : Nat → Mx} {m : Mx} (h : m ∈ msF n F) : ∃ i, i < n ∧ m = F i := by
  simp only [msF, List.mem_map, List.mem_range] at h
  obtain ⟨i, hi, rfl⟩ := h
  exact ⟨i, hi, rfl⟩

theorem mxCs_rc : ∀ (vs : List Value) (ms ms' : List Mx), ms.map (fun m => (m.r, m.c)) = ms'.map (fun m => (m.r, m.c)) → mxCs vs ms = mxCs vs ms'
  | [], ms, ms', _ => by simp [mxCs]
  | v :: vs, [], ms', h => by
    have : ms' = [] := by simpa using h.symm
    subst this; rfl
  | v :: vs, m :: ms, [], h => by simp at h
  | v :: vs, m :: ms, m' :: ms', h => by
    simp only [List.map_cons, List.cons.injEq, Prod.mk.injEq] at h
    simp only [mxCs, h.1.1, h.1.2, mxCs_rc vs ms ms' h.2]
theorem OutM.rc {w : World} {lo hi : Nat} {v : Value} {vs : List Value} {ms ms' : List Mx} (h : OutM w lo hi v vs ms) (e : ms.map (fun m => (m.r, m.c)) = ms'.map (fun m => (m.r, m.c))) : OutM w lo hi v vs ms' := by
  have h1 := congrArg List.length e
  simp only [List.length_map] at h1
  have h2 := mxCs_rc vs ms ms' e
  unfold OutM at h ⊢
  rw [← h1, ← h2]
  exact h
/-- a matrix among a representation's: where its cells lie -/
theorem OutM.at_ {w : World} {lo hi lo' hi' j : Nat} {mv : Value} {vs : List Value} {ms : List Mx} {L0 : List (Value × List Int)} {m : Mx} (h : OutM w lo hi mv vs ms) (hl : vs.length = ms.length) (hF : Fam w lo' hi' (L0 ++ vs.zip (ms.map Mx.a))) (hm : ms[j]? = some m) (hne : 0 < m.a.length) :
    ∃ gm cm g c, mv = .slice (some ⟨gm, 0, none⟩) ms.length cm ∧ gm < w.heap.size ∧ vs[j]? = some (.slice (some ⟨g, 0, none⟩) m.a.length c) ∧ w.cell? ⟨gm, j * 3, none⟩ = some (.int .i64 m.r) ∧ w.cell? ⟨gm, j * 3 + 1, none⟩ = some (.int .i64 m.c) ∧
      w.cell? ⟨gm, j * 3 + 2, none⟩ = some (.slice (some ⟨g, 0, none⟩) m.a.length c) ∧ OwnI w lo' (.slice (some ⟨g, 0, none⟩) m.a.length c) m.a ∧ (lo' ≤ g ∧ g < hi') ∧ m.a.length ≤ c ∧ c ≤ 9223372036854775807 ∧ ms.length ≤ cm ∧ cm ≤ 9223372036854775807 := by
  have hj := lt_of_some hm
  have hv : vs[j]? = some (vs[j]'(by omega)) := List.getElem?_eq_getElem (by omega)
  have hI := hF.getAt hv (show (ms.map Mx.a)[j]? = some m.a by simp [hm])
  obtain ⟨gm, cm, cur, e, h1, h2, h3, h4⟩ := RowO.at_ h (by omega)
  have hml := mxCs_length vs ms hl
  obtain ⟨a, b, c⟩ := mxCs_get hv hm
  rcases hI.1.1.2 with ⟨e', h0⟩ | ⟨g, cap, cur', e', hg, _, hnc, hcm, _⟩
  · omega
  · have hf := RowO.form h
    obtain ⟨A, c2, e2, l1, l2⟩ := hf
    rw [e] at e2
    injection e2 with e21 e22 e23
    subst e23
    have h1 := h.1
    subst e
    have c0 := h1.cellAt (j * 3) (by omega)
    have c1 := h1.cellAt (j * 3 + 1) (by omega)
    have c3 := h1.cellAt (j * 3 + 2) (by omega)
    refine ⟨gm, cm, g, cap, rfl, h3, by rw [hv, e'], by rw [c0]; exact a, by rw [c1]; exact b, by rw [c3, ← e']; exact c, by rw [← e']; exact hI.1, ⟨hg, hI.2 g (by simp [e', Value.ownBlock])⟩, hnc, by simp only [maxLen] at hcm; omega, l1, l2⟩
/-- one number of one matrix written -/
theorem mats_put {w : World} {lo hi lo' hi' j i g c : Nat} {mv : Value} {vs : List Value} {ms : List Mx} {L0 : List (Value × List Int)} {m : Mx} {x : Int} (hO : OutM w lo hi mv vs ms) (hF : Fam w lo' hi' (L0 ++ vs.zip (ms.map Mx.a)))
    (hv : vs[j]? = some (.slice (some ⟨g, 0, none⟩) m.a.length c)) (hm : ms[j]? = some m) (ho : OwnI w lo' (.slice (some ⟨g, 0, none⟩) m.a.length c) m.a) (hx : I64 x) :
    OutM (w.setCell ⟨g, i, none⟩ (.int .i64 x)) lo hi mv vs (ms.set j ⟨m.r, m.c, m.a.set i x⟩) ∧ Fam (w.setCell ⟨g, i, none⟩ (.int .i64 x)) lo' hi' (L0 ++ vs.zip ((ms.set j ⟨m.r, m.c, m.a.set i x⟩).map Mx.a)) := by
  have hp := ho.put (j := i) hx
  refine ⟨OutM.rc (ms := ms) (RowO.grown hO (by decide) ho hp.2) ?_, ?_⟩
  · apply List.ext_getElem?
    intro k
    rw [List.getElem?_map, List.getElem?_map, List.getElem?_set]
    by_cases e : j = k
    · subst e
      rw [if_pos rfl, if_pos (lt_of_some hm), hm]
      rfl
    · rw [if_neg e]
  · rw [List.map_set]
    exact hF.setAt hv (show (ms.map Mx.a)[j]? = some m.a by simp [hm]) hp.1 hp.2
theorem mats_I64 {ms : List Mx} {j : Nat} {m : Mx} {l : List Int} (h : ∀ m ∈ ms, I64 m.r ∧ I64 m.c) (hm : ms[j]? = some m) : ∀ x ∈ ms.set j ⟨m.r, m.c, l⟩, I64 x.r ∧ I64 x.c := by
  intro x hx
  rcases List.mem_or_eq_of_mem_set hx with hx | rfl
  · exact h x hx
  · exact h m (List.mem_of_getElem? hm)

/-! ### intervals -/
/-- dimensions: 1 from a on, below k -/
def ivF (a k : Nat) (v : Nat) : Int := if a ≤ v ∧ v < k then 1 else 0
theorem ivF_step {V a k : Nat} (hk : k < V) (ha : a ≤ k) : (rowF V (ivF a k)).set k 1 = rowF V (ivF a (k + 1)) := by
  rw [rowF_set]
  apply rowF_congr
  intro v hv
  unfold ivF
  repeat' split
  all_goals omega
theorem ivF_0 (V a : Nat) : List.replicate V (0 : Int) = rowF V (ivF a a) := by
  apply List.ext_getElem?
  intro i
  by_cases hi : i < V
  · rw [rowF_get _ hi]
    simp only [ivF, hi, List.getElem?_replicate, if_true]
    rw [if_neg (by omega)]
  · rw [List.getElem?_eq_none (by simp; omega), List.getElem?_eq_none (by rw [rowF_length]; omega)]
theorem ivF_r (a k v : Nat) : 0 ≤ ivF a k v ∧ ivF a k v ≤ 1 := by unfold ivF; split <;> omega
theorem ivF_sum (a k : Nat) : ∀ V, 0 ≤ (rowF V (ivF a k)).sum ∧ (rowF V (ivF a k)).sum ≤ V
  | 0 => by simp [rowF]
  | V + 1 => by
    have h := ivF_sum a k V
    have h2 := ivF_r a k V
    simp only [rowF, List.range_succ, List.map_append, List.sum_append, List.map_cons, List.map_nil, List.sum_cons, List.sum_nil] at h ⊢
    omega
theorem ivF_dims {q : Qv} {V : Nat} (hq : isQ q = true) (hV : q.v = V) (a k : Nat) : areDims q (rowF V (ivF a k)) = true := by
  have h5 := (isQ_t.1 hq).1
  have hs := ivF_sum a k V
  refine areDims_t.2 ⟨hq, by rw [rowF_length]; omega, fun x hx => ?_, by omega⟩
  simp only [rowF, List.mem_map, List.mem_range] at hx
  obtain ⟨i, _, rfl⟩ := hx
  have := ivF_r a k i
  omega
/-- the matrix of zeros at arrow i -/
def zmAt (q : Qv) (d : List Int) (i : Nat) : Mx := zmx (dAt d (q.t.getD i 0)) (dAt d (q.f.getD i 0))
theorem zms_F (q : Qv) (d : List Int) (n : Nat) : zms q d n = msF n (zmAt q d) := rfl
/-- the matrix with ones in place of all its numbers -/
def onesM (m : Mx) : Mx := ⟨m.r, m.c, List.replicate m.a.length 1⟩
def ziRep (p : Int) (q : Qv) (a b : Nat) : Rp := ⟨p, q, rowF q.v.toNat (ivF a (b + 1)), msF q.f.length fun i => onesM (zmAt q (rowF q.v.toNat (ivF a (b + 1))) i)⟩
def ziOk (ok : Bool) (p : Int) (q : Qv) (a b : Int) : Bool := isFld p && (ok && (inR a 0 (q.v - 1) && inR b a (q.v - 1)))
def ziP (ok : Bool) (p : Int) (q : Qv) (a b : Int) : Rp × Bool := if ziOk ok p q a b then (ziRep p q a.toNat b.toNat, true) else (rp0, false)
theorem ziP_no {ok : Bool} {p : Int} {q : Qv} {a b : Int} (h : ziOk ok p q a b = false) : ziP ok p q a b = (rp0, false) := by simp [ziP, h]
theorem ziP_yes {ok : Bool} {p : Int} {q : Qv} {a b : Int} (h : ziOk ok p q a b = true) : ziP ok p q a b = (ziRep p q a.toNat b.toNat, true) := by simp [ziP, h]

/-- at a zigzag's arrow i lie the vertices i and i + 1: the matrix has one number where both have dimension 1, none elsewhere -/
theorem ziZ_at {q : Qv} (hz : isZ q = true) {V a b i : Nat} (hV : q.v = V) (hi : i < q.f.length) : ∃ r c : Int, zmAt q (rowF V (ivF a (b + 1))) i = ⟨r, c, if a ≤ i ∧ i < b then [0] else []⟩ ∧ I64 r ∧ I64 c := by
  obtain ⟨hq, hl, ht⟩ := isZ_t hz
  obtain ⟨nf, nt, yf, yt, ef, et, df, dt, _⟩ := rep_at (x := ⟨0, q, rowF V (ivF a (b + 1)), []⟩) (ivF_dims hq hV a (b + 1)) (show i < q.f.length from hi)
  simp only at ef et df dt
  have hzz := ht i nf nt hi ef et
  simp only [zzAt, Bool.and_eq_true, decide_eq_true_eq] at hzz
  have lf : nf < V := by have := lt_of_some df; rwa [rowF_length] at this
  have lt : nt < V := by have := lt_of_some dt; rwa [rowF_length] at this
  rw [rowF_get _ lf] at df
  rw [rowF_get _ lt] at dt
  injection df with df
  injection dt with dt
  have e1 : dAt (rowF V (ivF a (b + 1))) (q.t.getD i 0) = ivF a (b + 1) nt := by rw [List.getD_eq_getElem?_getD, et]; exact dAt_of (rowF_get _ lt)
  have e2 : dAt (rowF V (ivF a (b + 1))) (q.f.getD i 0) = ivF a (b + 1) nf := by rw [List.getD_eq_getElem?_getD, ef]; exact dAt_of (rowF_get _ lf)
  refine ⟨ivF a (b + 1) nt, ivF a (b + 1) nf, ?_, by have := ivF_r a (b + 1) nt; unfold I64; omega, by have := ivF_r a (b + 1) nf; unfold I64; omega⟩
  rw [zmAt, e1, e2, zmx]
  congr 1
  by_cases h : a ≤ i ∧ i < b
  · rw [if_pos h]
    have h1 : ivF a (b + 1) nt = 1 := by unfold ivF; rw [if_pos]; omega
    have h2 : ivF a (b + 1) nf = 1 := by unfold ivF; rw [if_pos]; omega
    rw [h1, h2]; rfl
  · rw [if_neg h]
    have h0 : ivF a (b + 1) nt = 0 ∨ ivF a (b + 1) nf = 0 := by
      unfold ivF
      by_cases g : a ≤ nt ∧ nt < b + 1
      · right; rw [if_neg]; omega
      · left; rw [if_neg g]
    rcases h0 with h0 | h0 <;> rw [h0] <;> simp
theorem ziP_size {ok : Bool} (p : Int) (q : Qv) (a b : Int) (hz : ok = true → isZ q = true) : (ziP ok p q a b).1.size ≤ 1000 := by
  rcases h : ziOk ok p q a b with _ | _
  · rw [ziP_no h]; simp [rp0_size]
  · rw [ziP_yes h]
    simp only [ziOk, Bool.and_eq_true] at h
    have hz := hz h.2.1
    obtain ⟨q1, q2, q3, q4, q5⟩ := isQ_t.1 (isZ_t hz).1
    have hV : q.v = (q.v.toNat : Nat) := by omega
    have h5 := totA_le (ms := (ziRep p q a.toNat b.toNat).m) (n := 1) (fun m hm => by
      obtain ⟨i, hi, rfl⟩ := msF_mem hm
      obtain ⟨r, c, e, _⟩ := ziZ_at hz (a := a.toNat) (b := b.toNat) hV hi
      rw [onesM, e]
      simp only [List.length_replicate]
      split <;> simp)
    simp only [Rp.size, Qv.size, szM]
    have : (ziRep p q a.toNat b.toNat).m.length = q.f.length := msF_length _ _
    have : (ziRep p q a.toNat b.toNat).d.length = q.v.toNat := rowF_length _ _
    have : (ziRep p q a.toNat b.toNat).q = q := rfl
    simp only [this]
    omega
end Go.Proofs.Ytcmlflppndfdcaa

/- Matrices told by a function of the two places: cells in one row. -/
namespace Go.Proofs.Ytcmlflppndfdcaa
set_option linter.unusedVariables false
set_option linter.unusedSimpArgs false
open Go.RowKit

theorem ix_div {i k c : Nat} (hk : k < c) : (i * c + k) / c = i := by
  rw [Nat.mul_comm, Nat.mul_add_div (by omega), Nat.div_eq_of_lt hk, Nat.add_zero]
theorem ix_mod {i k c : Nat} (hk : k < c) : (i * c + k) % c = k := by
  rw [Nat.mul_comm, Nat.mul_add_mod, Nat.mod_eq_of_lt hk]
theorem ix_lt {i k r c : Nat} (hi : i < r) (hk : k < c) : i * c + k < r * c := by
  have : (i + 1) * c ≤ r * c := Nat.mul_le_mul_right _ hi
  rw [Nat.add_mul] at this
  omega
theorem ix_of {j r c : Nat} (hj : j < r * c) : ∃ i k, i < r ∧ k < c ∧ j = i * c + k := by
  have hc : 0 < c := Nat.pos_of_ne_zero (by rintro rfl; simp at hj)
  refine ⟨j / c, j % c, (Nat.div_lt_iff_lt_mul hc).2 hj, Nat.mod_lt _ hc, ?_⟩
  rw [Nat.mul_comm]; exact (Nat.div_add_mod j c).symm
theorem ix_inj {i k i' k' c : Nat} (hk : k < c) (hk' : k' < c) (h : i * c + k = i' * c + k') : i = i' ∧ k = k' := by
  have h1 := ix_div (i := i) hk
  have h2 := ix_mod (i := i) hk
  rw [h, ix_div hk'] at h1
  rw [h, ix_mod hk'] at h2
  exact ⟨h1.symm, h2.symm⟩

def flat (r c : Nat) (f : Nat → Nat → Int) : List Int := (List.range (r * c)).map fun j => f (j / c) (j % c)
theorem flat_length (r c : Nat) (f : Nat → Nat → Int) : (flat r c f).length = r * c := by simp [flat]
theorem flat_get {r c i k : Nat} (f : Nat → Nat → Int) (hi : i < r) (hk : k < c) : (flat r c f)[i * c + k]? = some (f i k) := by
  simp [flat, ix_lt hi hk, ix_div hk, ix_mod hk]
theorem flat_getD {r c i k : Nat} (f : Nat → Nat → Int) (hi : i < r) (hk : k < c) : (flat r c f).getD (i * c + k) 0 = f i k := by
  rw [List.getD_eq_getElem?_getD, flat_get f hi hk]; rfl
theorem flat_ext {r c : Nat} {l : List Int} {f : Nat → Nat → Int} (hl : l.length = r * c) (h : ∀ i k, i < r → k < c → l[i * c + k]? = some (f i k)) : l = flat r c f := by
  apply List.ext_getElem?
  intro j
  by_cases hj : j < r * c
  · obtain ⟨i, k, hi, hk, rfl⟩ := ix_of hj
    rw [h i k hi hk, flat_get f hi hk]
  · rw [List.getElem?_eq_none (by omega), List.getElem?_eq_none (by rw [flat_length]; omega)]
theorem flat_congr {r c : Nat} {f g : Nat → Nat → Int} (h : ∀ a b, a < r → b < c → f a b = g a b) : flat r c f = flat r c g :=
  flat_ext (flat_length _ _ _) fun i k hi hk => by rw [flat_get f hi hk, h i k hi hk]
theorem flat_inj {r c : Nat} {f g : Nat → Nat → Int} (h : flat r c f = flat r c g) {a b : Nat} (ha : a < r) (hb : b < c) : f a b = g a b := by
  have := flat_get f ha hb
  rw [h, flat_get g ha hb] at this
  injection this with this
  exact this.symm
theorem flat_set {r c i k : Nat} (f : Nat → Nat → Int) (x : Int) (hi : i < r) (hk : k < c) : (flat r c f).set (i * c + k) x = flat r c fun a b => if a = i ∧ b = k then x else f a b := by
  refine flat_ext (by simp [flat_length]) fun a b ha hb => ?_
  rw [List.getElem?_set]
  by_cases e : i * c + k = a * c + b
  · obtain ⟨rfl, rfl⟩ := ix_inj hk hb e
    rw [if_pos rfl, if_pos (by rw [flat_length]; exact ix_lt hi hk), if_pos ⟨rfl, rfl⟩]
  · rw [if_neg e, flat_get f ha hb, if_neg]
    rintro ⟨rfl, rfl⟩
    exact e rfl
theorem flat_zero (r c : Nat) : flat r c (fun _ _ => 0) = List.replicate (r * c) 0 := by
  refine (flat_ext (by simp) fun i k hi hk => ?_).symm
  have := ix_lt hi hk
  simp [this]
theorem flat_mem {r c : Nat} {f : Nat → Nat → Int} {x : Int} (h : x ∈ flat r c f) : ∃ i k, i < r ∧ k < c ∧ x = f i k := by
  simp only [flat, List.mem_map, List.mem_range] at h
  obtain ⟨j, hj, rfl⟩ := h
  obtain ⟨i, k, hi, hk, rfl⟩ := ix_of hj
  exact ⟨i, k, hi, hk, by rw [ix_div hk, ix_mod hk]⟩
/-- a list of so many numbers is told by its entries -/
def entry (l : List Int) (c i k : Nat) : Int := l.getD (i * c + k) 0
theorem flat_of {l : List Int} {r c : Nat} (hl : l.length = r * c) : l = flat r c (entry l c) :=
  flat_ext hl fun i k hi hk => by
    have := ix_lt hi hk
    rw [entry, List.getD_eq_getElem?_getD, List.getElem?_eq_getElem (by omega)]; rfl

def mxF (r c : Nat) (f : Nat → Nat → Int) : Mx := ⟨r, c, flat r c f⟩
theorem zmx_flat (r c : Nat) : zmx r c = mxF r c fun _ _ => 0 := by
  rw [mxF, flat_zero, zmx]
  congr
theorem mxF_congr {r c : Nat} {f g : Nat → Nat → Int} (h : ∀ a b, a < r → b < c → f a b = g a b) : mxF r c f = mxF r c g := by rw [mxF, mxF, flat_congr h]

/-- what a walk needs of an index -/
theorem ix_walk {i k r c : Nat} (hi : i < r) (hk : k < c) (hr : r ≤ 1000) (hc : c ≤ 1000) :
    ∃ P J : Nat, wrap64 ((i : Int) * (c : Int)) = (P : Int) ∧ P + k = J ∧ J = i * c + k ∧ J < r * c ∧ J ≤ 1000000 := by
  have h1 := ix_lt hi hk
  have h2 : r * c ≤ 1000 * 1000 := Nat.mul_le_mul hr hc
  refine ⟨i * c, i * c + k, ?_, rfl, rfl, h1, by omega⟩
  rw [show ((i : Int) * (c : Int)) = ((i * c : Nat) : Int) by simp]
  exact IntWalk.wrap64_in _ ⟨by omega, by omega⟩
end Go.Proofs.Ytcmlflppndfdcaa

/- copyMatrices; the two PencilOf. -/
namespace Go.Proofs.Ytcmlflppndfdcaa
set_option linter.unusedVariables false
set_option linter.unusedSimpArgs false
open Go.RowKit

theorem SlM.I64s {w : World} {B : Nat} {v : Value} {l : List Mx} (h : SlM w B v l) : ∀ m ∈ l, I64 m.r ∧ I64 m.c := by
  obtain ⟨A, c, rfl, _, _, _, h⟩ := h.open_
  intro m hm
  obtain ⟨j, hj⟩ := List.getElem?_of_mem hm
  obtain ⟨_, _, m', _, _, _, _, HX, _, _, _, _, h1, h2, _⟩ := SlM.at_ h (lt_of_some hj)
  have := HX.out
  rw [hj] at this
  injection this with this
  subst this
  exact ⟨h1, h2⟩

set_option maxHeartbeats 3200000 in
set_option maxRecDepth 100000 in
theorem copyMatrices_any (u : Value) (ms : List Mx) (w : World) (hu : SlM w w.heap.size u ms) (hn : ms.length ≤ 1000000) :
    Calls Try.prog 146 #[u] w fun e w' => ∃ v, e = .returned v ∧ MatsO w' w.heap.size w'.heap.size v ms ∧ Below w.heap.size w w' := by
  have hI := Lib.hid (SlM.I64s hu)
  obtain ⟨A, c, rfl, _, _, _, hx⟩ := hu.open_
  clear hu
  go_enter Try.func146, Try.ntmps146
  go_wp2
  go_loopw [3, 8] (fun mv i wr => ∃ (k : Nat) (vs : List Value), k ≤ ms.length ∧ i = .int .i64 k ∧ Below w.heap.size w wr ∧ RowO 84 3 wr w.heap.size wr.heap.size mv k (mxCs vs (ms.take k)) ∧ vs.length = k ∧ Fam wr w.heap.size wr.heap.size (vs.zip ((ms.take k).map Mx.a))) (fun _ i _ => ms.length - (intOf i).toNat)
  case atStart => exact ⟨0, [], Nat.zero_le _, rfl, Below.refl _ _, RowO.nil _ _ _ _, rfl, ⟨fun p hp => by simp at hp, by simp⟩⟩
  case round =>
    obtain ⟨k, vs, hk, rfl, hbel, hO, hvl, hF⟩ := hrel
    have HVL := Lib.hid hvl
    clear hvl
    by_cases hlt : k < ms.length
    · obtain ⟨b, o, m, A', c', rfl, hb, HX, x1, x2, x3, hsl, i1, i2, _⟩ := SlM.at_ hx hlt
      have d1 := bcell hbel hb x1
      have d2 := bcell hbel hb x2
      have d3 := bcell hbel hb x3
      have hbs := hbel.size
      obtain ⟨W1, hW1⟩ : ∃ W, W = wr.alloc (.cells #[.int .i64 m.r, .int .i64 m.c, .slice A' m.a.length c'] 84) := ⟨_, rfl⟩
      have ga : Below wr.heap.size wr W1 := by rw [hW1]; exact below_alloc _ _
      have hmx : MxR W1 W1.heap.size (.agg #[.int .i64 m.r, .int .i64 m.c, .slice A' m.a.length c']) m := ⟨_, rfl, SlI.next ga (SlI.more hbs (SlI.below hbel hsl)), i1, i2⟩
      have HTK := Lib.hid (show ms.take (k + 1) = ms.take k ++ [m] by rw [take_snoc HX.out])
      have hTL := Lib.hid (show (ms.take k).length = k by simp; omega)
      replace hO := hO.below ga
      replace hF := hF.below ga
      have sa := ga.size
      obtain ⟨mA, mc, emv, _, _⟩ := hO.form
      subst emv
      clear x1 x2 x3 hx hsl i1 i2
      go_wp2_with fail
      rw [← hW1]; clear hW1
      refine (mxClone_any _ m _ hmx).mono ?_; rintro e w1 ⟨v1, rfl, ⟨s, rfl, hs, _⟩, hb1⟩
      have s1 := hb1.size
      obtain ⟨sA, sc, es⟩ := hs.form
      obtain ⟨sn, hsn⟩ : ∃ n, m.a.length = n := ⟨_, rfl⟩
      rw [hsn] at es
      clear hsn
      subst es
      have gb1 : Below w.heap.size w w1 := hbel.trans ((bthen ga hb1).mono hbs)
      replace hO := (hO.below hb1).below (below_alloc w1 (.cells #[.int .i64 m.r, .int .i64 m.c, .slice sA sn sc] 84))
      have hF1 := (hF.below hb1).snoc (hs.wider sa (Nat.le_refl _)) (by omega) (by omega)
      have hF2 := hF1.below (below_alloc w1 (.cells #[.int .i64 m.r, .int .i64 m.c, .slice sA sn sc] 84))
      have HF2 := Lib.hid hF2
      clear hF hF1 hF2 hs hmx hb1 ga d1 d2 d3
      (go_wp2_with (at_builtin; refine Hold.stop ?_)); unfold Hold
      have hO'' : OutM (w1.alloc (.cells #[.int .i64 m.r, .int .i64 m.c, .slice sA sn sc] 84)) w.heap.size wr.heap.size (.slice mA k mc) vs (ms.take k) := by rw [OutM, hTL.out]; exact hO
      refine wpList_appM (by rfl) (.tmp 12) (.tmp 15) (by rfl) w.heap.size wr.heap.size (.slice mA k mc) vs (ms.take k) (by rfl) hO'' (by rw [HVL.out, hTL.out]) w1.heap.size 1 m (.slice sA sn sc) (by rfl) (Blk.new _ _ _) (by rfl) (by rw [hTL.out]; omega) (by simp; omega) ?_
      intro v' w' hO3 hA
      have gb3 : Below w.heap.size w w' := (gb1.alloc (by omega) _).trans (hA.below (Nat.le_refl _) (by simp; omega))
      have hF3 := HF2.out.appT (by decide) hA
      have hs3 := hA.size
      simp only [World.size_alloc] at hs3
      have HF3 := Lib.hid hF3
      have HO3 := Lib.hid hO3
      clear hF3 hO3 HF2 hO'' hO hA gb1
      go_wp2
      go_roundw
      case rel =>
        refine ⟨k + 1, vs ++ [.slice sA sn sc], by omega, by go_num, gb3, ?_, by simp [HVL.out], ?_⟩
        · have := HO3.out
          rw [OutM, List.length_append, hTL.out] at this
          rw [HTK.out]
          exact this
        · have e : (vs ++ [Value.slice sA sn sc]).zip ((ms.take (k + 1)).map Mx.a) = vs.zip ((ms.take k).map Mx.a) ++ [(.slice sA sn sc, m.a)] := by
            rw [HTK.out, List.map_append, List.zip_append (by rw [List.length_map, HVL.out, hTL.out])]
            rfl
          rw [e]
          exact HF3.out.mono (Nat.le_refl _) (by omega)
      case measure => simp [intOf]; omega
    · obtain rfl : k = ms.length := by omega
      obtain ⟨mA, mc, emv, _, _⟩ := hO.form
      subst emv
      rw [List.take_length] at hO hF
      have hM : MatsO wr w.heap.size wr.heap.size (.slice mA ms.length mc) ms := ⟨vs, hO, HVL.out, hF, hI.out⟩
      have HM := Lib.hid hM
      clear hM hO hF
      go_wp2
      go_ret
      exact ⟨_, rfl, HM.out, hbel⟩

theorem SlM.two {w : World} {B g : Nat} {a b : Mx} {u v : Value} (hB : B = w.heap.size) (hg : Blk w g 84 #[.int .i64 a.r, .int .i64 a.c, u, .int .i64 b.r, .int .i64 b.c, v]) (ha : SlI w B u a.a) (hb : SlI w B v b.a) (i1 : I64 a.r ∧ I64 a.c) (i2 : I64 b.r ∧ I64 b.c) : SlM w B (.slice (some ⟨g, 0, none⟩) 2 2) [a, b] := by
  refine ⟨_, 2, rfl, by simp, by omega, by simp, fun _ => ⟨g, 0, rfl, by rw [hB]; exact hg.lt, fun j x hj => ?_⟩⟩
  match j, hj with
  | 0, hj =>
    simp at hj
    subst hj
    exact ⟨u, hg.cell' (i := 0) rfl, hg.cell' (i := 1) rfl, hg.cell' (i := 2) rfl, ha, i1⟩
  | 1, hj =>
    simp at hj
    subst hj
    exact ⟨v, hg.cell' (i := 3) rfl, hg.cell' (i := 4) rfl, hg.cell' (i := 5) rfl, hb, i2⟩
  | j + 2, hj => simp at hj
theorem IntsO.two (w : World) {lo : Nat} (x y : Int) (hx : I64 x) (hy : I64 y) (hlo : lo ≤ w.heap.size) : IntsO (w.alloc (.cells #[.int .i64 x, .int .i64 y] 3)) lo (w.alloc (.cells #[.int .i64 x, .int .i64 y] 3)).heap.size (.slice (some ⟨w.heap.size, 0, none⟩) 2 2) [x, y] :=
  IntsO.of_own (OwnI.of_blk (xs := [x, y]) (Blk.new _ _ _) hlo ⟨rfl, fun j z hj hz => by
    match j, hz with
    | 0, hz => simp at hz; subst hz; rfl
    | 1, hz => simp at hz; subst hz; rfl
    | j + 2, hz => simp at hz⟩ (by simp) (by simp [hx, hy]))
/-- three families of three stretches that are apart -/
theorem Fam.three {w : World} {lo hi l1 h1 l2 h2 l3 h3 : Nat} {L1 L2 L3 : List (Value × List Int)} (f1 : Fam w l1 h1 L1) (f2 : Fam w l2 h2 L2) (f3 : Fam w l3 h3 L3) (d12 : h1 ≤ l2 ∨ h2 ≤ l1) (d13 : h1 ≤ l3 ∨ h3 ≤ l1) (d23 : h2 ≤ l3 ∨ h3 ≤ l2)
    (b1 : lo ≤ l1 ∧ h1 ≤ hi) (b2 : lo ≤ l2 ∧ h2 ≤ hi) (b3 : lo ≤ l3 ∧ h3 ≤ hi) : Fam w lo hi (L1 ++ (L2 ++ L3)) := by
  have ap : ∀ {l1 h1 l2 h2 : Nat} {L1 L2 : List (Value × List Int)}, Fam w l1 h1 L1 → Fam w l2 h2 L2 → (h1 ≤ l2 ∨ h2 ≤ l1) → ∀ a ∈ L1, ∀ b ∈ L2, a.1.ownBlock = none ∨ a.1.ownBlock ≠ b.1.ownBlock := by
    intro l1 h1 l2 h2 L1 L2 f g hd a ha b hb
    rcases hA : a.1.ownBlock with _ | x
    · exact .inl rfl
    · right
      intro e
      have q1 := (f.1 a ha).2 x hA
      have q2 := ((f.1 a ha).1.lt x hA).1
      have q3 := (g.1 b hb).2 x e.symm
      have q4 := ((g.1 b hb).1.lt x e.symm).1
      omega
  refine ⟨fun p hp => ?_, ?_⟩
  · rcases List.mem_append.1 hp with hp | hp
    · exact (f1.1 p hp).wider b1.1 b1.2
    · rcases List.mem_append.1 hp with hp | hp
      · exact (f2.1 p hp).wider b2.1 b2.2
      · exact (f3.1 p hp).wider b3.1 b3.2
  · rw [List.pairwise_append, List.pairwise_append]
    refine ⟨f1.2, ⟨f2.2, f3.2, ap f2 f3 d23⟩, fun a ha b hb => ?_⟩
    rcases List.mem_append.1 hb with hb | hb
    · exact ap f1 f2 d12 a ha b hb
    · exact ap f1 f3 d13 a ha b hb

def penRep (p : Int) (a b : Mx) : Rp := ⟨p, pQ, [a.c, a.r], [a, b]⟩
def penOf (p : Int) (a b : Mx) : Rp × Bool := if isRep (penRep p a b) then (penRep p a b, true) else (rp0, false)


end Go.Proofs.Ytcmlflppndfdcaa
