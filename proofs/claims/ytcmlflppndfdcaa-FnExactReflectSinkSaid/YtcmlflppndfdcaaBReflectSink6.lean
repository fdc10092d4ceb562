/- FnExactReflectSink: for every argument the program's function returns what the reference's returns. Part 6 of 13 of the proof: Cln, Copy, Copy2, Src, Zero, Flat, Ident, RvA, RowAt, RowZ, ColZ, FromC. No condition. -/
import Derived.Test.YtcmlflppndfdcaaBReflectSink5
import Derived.Shelf.Slices.Clone
import Derived.ArgAppend
/- slices.Clone at []int: the shelf's contract. -/
namespace Go.Proofs
open Go.Shelf
def Try.laysClone_ren : Go.Shelf.Ren := ⟨fun | 15 => 121 | n => n, fun | 22 => 22 | 3 => 3 | 4 => 4 | n => n, fun | n => n⟩
theorem Try.laysClone : Go.Proofs.Lays2.n15 Try.prog Try.laysClone_ren := {
  mixed := by kernel_rfl
  f15 := Try.func121.trans (congrArg some (by kernel_rfl))
  t3 := Try.underlying3
  a3 := Try.isAgg3
  z3 := Try.sizeOf3
  v3 := Try.zeroValue3
  t4 := Try.underlying4
  a4 := Try.isAgg4
  z4 := Try.sizeOf4
  v4 := Try.zeroValue4
  t22 := Try.underlying22
  a22 := Try.isAgg22
  z22 := Try.sizeOf22
  v22 := Try.zeroValue22
  i3 := by kernel_rfl }
end Go.Proofs
namespace Go.Proofs.Ytcmlflppndfdcaa
set_option linter.unusedVariables false
set_option linter.unusedSimpArgs false
open Go.RowKit

theorem clone_own (u : Value) (xs : List Int) (w : World) (hu : SlI w w.heap.size u xs) :
    Calls Try.prog 121 #[u] w fun e w' => ∃ v, e = .returned v ∧ IntsO w' w.heap.size w'.heap.size v xs ∧ Below w.heap.size w w' := by
  have hr := SlI.i64 hu
  have hrd := hu
  obtain ⟨A, c, rfl, _, _, hn, hx⟩ := hu
  rcases A with _ | a
  · have h0 : xs = [] := by
      apply List.eq_nil_of_length_eq_zero
      rcases Nat.eq_zero_or_pos xs.length with h | h
      · exact h
      · obtain ⟨b, o, e, _⟩ := hx h
        cases e
    subst h0
    exact (Any.slices_Clone_int_nil Try.laysClone 0 c w).mono fun e w' ⟨h1, h2⟩ => ⟨_, h1, ⟨OwnI.nil _ _, by simp [Value.ownBlock]⟩, by rw [h2]; exact Below.refl _ _⟩
  rcases Nat.eq_zero_or_pos xs.length with h0 | hp
  · have h0 : xs = [] := List.eq_nil_of_length_eq_zero h0
    subst h0
    exact (Any.slices_Clone_int_zero Try.laysClone a c w).mono fun e w' ⟨v, h1, h2, _, hb⟩ => ⟨v, h1, IntsO.of_own ⟨h2, by simp, by simp⟩, hb⟩
  · obtain ⟨b, o, e, hb, hc⟩ := hx hp
    injection e with e
    subst e
    refine (Any.slices_Clone_int Try.laysClone b o xs.length c xs w (Nat.le_refl _) (by omega) (fun j hj => ?_)).mono ?_
    · have h := (hc j (xs.getD j 0) (by rw [List.getD_eq_getElem?_getD, List.getElem?_eq_getElem hj]; rfl)).1
      simpa using h
    · rintro e w' ⟨v', rfl, ho, hnn, hb⟩
      rw [List.take_of_length_le (Nat.le_refl _)] at ho
      exact ⟨v', rfl, IntsO.of_own ⟨ho, hn, hr⟩, hb⟩

end Go.Proofs.Ytcmlflppndfdcaa

/- Copies: slices.Clone at []int, append onto a fresh empty slice, copies of matrices and quivers on both sides. -/
namespace Go.Proofs.Ytcmlflppndfdcaa
set_option linter.unusedVariables false
set_option linter.unusedSimpArgs false
open Go.RowKit

/-- append of ints onto a slice that has just been made and holds nothing: what was there stands. -/
theorem wpList_append_fresh {w : World} {ops : Array Oper} {rest : List Oper} {o : Oper} {a : Act} {Q : Exit → Act → World → Prop} (hgd : o.guard = none) (s x : Operand)
    (ho : o.op = .call { callee := .builtin .append, args := #[s, x], argTypes := #[22, 22] })
    (g lo B : Nat) (cs : Array Value) (hs : a.eval s = .slice (some ⟨g, 0, none⟩) 0 0) (hg : Blk w g 3 cs) (hcs : cs.size = 0) (hlo : lo ≤ g) (A : Option Addr) (c : Nat) (news : List Int) (hx : a.eval x = .slice A news.length c) (hr : SlI w B (.slice A news.length c) news)
    (h : ∀ v' w', OwnI w' lo v' news → Below w.heap.size w w' → wpList Try.prog ops Q rest (a.put o.dst v') w') : wpList Try.prog ops Q (o :: rest) a w := by
  obtain ⟨i0, hi, hz0, hz1, hz2⟩ := info_parts infoInt
  have hn := hr
  obtain ⟨_, _, _, _, _, hn, hcell⟩ := hn
  have hI := SlI.i64 hr
  refine wpList_plain hgd fun K hK => ?_
  by_cases hp : 0 < news.length
  · obtain ⟨b, of, eA, hb, hc⟩ := hcell hp
    have hA := NewsAt.of_sl hr
    obtain ⟨hl, hnews⟩ := hA
    obtain ⟨b', of', eA', hc'⟩ := hnews.resolve_left (by omega)
    subst eA'
    have hadd : ∀ j, (⟨b', of', none⟩ : Addr).add j = ⟨b', of' + j, none⟩ := by intro j; unfold Addr.add; split <;> simp_all
    obtain ⟨v', w', hrun, hown, hgr⟩ := run_append_arg_grows (P := Try.prog) w 22 o.type 3 i0 _ 1 8 Try.underlying22 hi hz0 hz1 hz2 rfl (by decide) ⟨g, 0, none⟩ 0 0 [] (by simp) (by intro j u hj; simp at hj) ⟨b', of', none⟩ news.length c (news.map (Value.int .i64)) hl (fun j u hj => by rw [hadd]; exact hc' j u hj) (by omega) (by simp only [maxLen]; omega) (by omega)
    unfold Oper.wp execOp
    simp only [ho, resolve, invoke, builtin, Sem.run_bind, Sem.run_pure, Result.andThen_ok, List.map_toArray, List.map_cons, List.map_nil, hs, hx, hrun]
    refine hK _ _ (h v' w' ?_ ⟨hgr.os, hgr.tape, hgr.output, hgr.size, fun k hk => hgr.block k hk (by simp)⟩)
    have hgl := hg.lt
    exact OwnI.lower (base := w.heap.size) ⟨by simpa using hown, hn, hI⟩ (by omega)
  · have h0 : news = [] := List.eq_nil_of_length_eq_zero (by omega)
    subst h0
    have hrun : (Builtin.append_ #[22, 22] o.type #[.slice (some ⟨g, 0, none⟩) 0 0, .slice A 0 c]).run Try.prog w = .ok (.slice (some ⟨g, 0, none⟩) 0 0) w := by
      cases A <;> simp [Builtin.append_, run_underlying (P := Try.prog) Try.underlying22, sizeOf, typeInfo, hi, Builtin.lenOf, Builtin.firstCells, storeCells, loadCells, loadCellsFrom]
    simp only [List.length_nil] at hx
    unfold Oper.wp execOp
    simp only [ho, resolve, invoke, builtin, Sem.run_bind, Sem.run_pure, Result.andThen_ok, List.map_toArray, List.map_cons, List.map_nil, hs, hx, hrun]
    refine hK _ _ (h _ w ?_ (Below.refl _ _))
    have := hg.own (base := lo) (n := 0) (cap := 0) (size := 1) hlo (Nat.le_refl _) (by simp only [maxLen]; omega) (by omega)
    exact ⟨by simpa using this, by simp, by simp⟩

/-- a slice that has just been made and holds nothing -/
def Fresh (w : World) (lo : Nat) (u : Value) : Prop := ∃ g, u = .slice (some ⟨g, 0, none⟩) 0 0 ∧ lo ≤ g ∧ Blk w g 3 #[]
theorem Fresh.below {w w' : World} {lo : Nat} {u : Value} (h : Fresh w lo u) (hb : Below w.heap.size w w') : Fresh w' lo u := by
  obtain ⟨g, e, h1, h2⟩ := h
  exact ⟨g, e, h1, h2.call hb⟩
theorem Fresh.new (w : World) {lo : Nat} (h : lo ≤ w.heap.size) : Fresh (w.alloc (.cells #[] 3)) lo (.slice (some ⟨w.heap.size, 0, none⟩) 0 0) := ⟨_, rfl, h, Blk.new _ _ _⟩

set_option maxHeartbeats 3200000 in
theorem l3Copy_any (u : Value) (m : Mx) (w0 : World) (hu : MxR w0 w0.heap.size u m) :
    Calls Try.prog 64 #[u] w0 fun e w' => ∃ v, e = .returned v ∧ MxO w' w0.heap.size w'.heap.size v m ∧ Below w0.heap.size w0 w' := by
  obtain ⟨A, c, rfl, hf, hr, hc, lf⟩ := hu.open_
  clear hu
  obtain ⟨W, hW⟩ : ∃ W, W = (w0.alloc (.cells #[.int .i64 m.r, .int .i64 m.c, .slice A m.a.length c] 84)).alloc (.cells #[.int .i64 0, .int .i64 0, .slice none 0 0] 84) := ⟨_, rfl⟩
  have g0 : Below w0.heap.size w0 W := by rw [hW]; exact ((Below.refl _ _).alloc (Nat.le_refl _) _).alloc (by simp) _
  have k1 : Blk W w0.heap.size 84 #[.int .i64 m.r, .int .i64 m.c, .slice A m.a.length c] := by rw [hW]; exact (Blk.new _ _ _).alloc _
  have k2 : Blk W (w0.heap.size + 1) 84 #[.int .i64 0, .int .i64 0, .slice none 0 0] := by
    rw [hW]
    have := Blk.new (w0.alloc (.cells #[.int .i64 m.r, .int .i64 m.c, .slice A m.a.length c] 84)) 84 #[.int .i64 0, .int .i64 0, .slice none 0 0]
    simpa only [World.size_alloc] using this
  have sz : W.heap.size = w0.heap.size + 1 + 1 := by rw [hW]; simp
  have SZ := Lib.hid sz
  clear sz
  replace hf := SlI.next g0 hf
  go_enter Try.func64, Try.ntmps64
  go_wp2
  rw [← hW]; clear hW
  refine wp_region_net (by kernel_rfl) [.eq (.pointer (some ⟨w0.heap.size, 0, none⟩)), .eq (.int .i64 m.r), .eq (.pointer (some ⟨w0.heap.size, 1, none⟩)), .eq (.int .i64 m.c), rel 4 (fun u lo hi w => Fresh w W.heap.size u), .eq (.pointer (some ⟨w0.heap.size, 2, none⟩)), .eq (.slice A m.a.length c), rel 7 (fun u lo hi w => OwnI w W.heap.size u m.a), rel 8 (fun u lo hi w => ∃ s, u = .agg #[.int .i64 m.r, .int .i64 m.c, s] ∧ OwnI w W.heap.size s m.a)] [[], [0], [], [2], [], [], [5], [4, 5, 6], [0, 1, 2, 3, 4, 5, 6, 7], [0, 1, 2, 3, 4, 5, 6, 7, 8]] 9 (by kernel_rfl) ⟨trivial, trivial, trivial, trivial, rel_stable (fun u lo hi w w' h hb => h.below hb), trivial, trivial, rel_stable (fun u lo hi w w' h hb => h.below hb), rel_stable (fun u lo hi w w' ⟨s, e, h⟩ hb => ⟨s, e, h.below hb⟩), trivial⟩ ⟨?_, ?_, ?_, ?_, ?_, ?_, ?_, ?_, ?_, trivial⟩ ?_
  · intro x w hb hk Q' hQ
    clear hk
    simp only [netAct, dstAt, List.getElem?_toArray, List.getElem?_cons_zero, List.getElem?_cons_succ, Option.bind_some, Act.put, List.setIfInBounds_toArray, List.set_cons_zero, List.set_cons_succ] at hQ ⊢
    go_wp2
    exact hQ (.pointer (some ⟨w0.heap.size, 0, none⟩)) _ (Below.refl _ _) rfl
  · intro x w hb hk Q' hQ
    have h0 : x.v 0 = .pointer (some ⟨w0.heap.size, 0, none⟩) := (hk 0 (by decide)).1
    clear hk
    simp only [netAct, dstAt, List.getElem?_toArray, List.getElem?_cons_zero, List.getElem?_cons_succ, Option.bind_some, Act.put, List.setIfInBounds_toArray, List.set_cons_zero, List.set_cons_succ] at hQ ⊢
    simp only [h0] at hQ ⊢
    clear h0
    have c0 := (k1.call hb).cell' (i := 0) rfl
    go_wp2
    exact hQ (.int .i64 m.r) _ (Below.refl _ _) rfl
  · intro x w hb hk Q' hQ
    clear hk
    simp only [netAct, dstAt, List.getElem?_toArray, List.getElem?_cons_zero, List.getElem?_cons_succ, Option.bind_some, Act.put, List.setIfInBounds_toArray, List.set_cons_zero, List.set_cons_succ] at hQ ⊢
    go_wp2
    exact hQ (.pointer (some ⟨w0.heap.size, 1, none⟩)) _ (Below.refl _ _) rfl
  · intro x w hb hk Q' hQ
    have h2 : x.v 2 = .pointer (some ⟨w0.heap.size, 1, none⟩) := (hk 2 (by decide)).1
    clear hk
    simp only [netAct, dstAt, List.getElem?_toArray, List.getElem?_cons_zero, List.getElem?_cons_succ, Option.bind_some, Act.put, List.setIfInBounds_toArray, List.set_cons_zero, List.set_cons_succ] at hQ ⊢
    simp only [h2] at hQ ⊢
    clear h2
    have c1 := (k1.call hb).cell' (i := 1) rfl
    go_wp2
    exact hQ (.int .i64 m.c) _ (Below.refl _ _) rfl
  · intro x w hb hk Q' hQ
    clear hk
    simp only [netAct, dstAt, List.getElem?_toArray, List.getElem?_cons_zero, List.getElem?_cons_succ, Option.bind_some, Act.put, List.setIfInBounds_toArray, List.set_cons_zero, List.set_cons_succ] at hQ ⊢
    go_wp2
    exact hQ _ _ (below_alloc _ _) (Fresh.new _ hb.size)
  · intro x w hb hk Q' hQ
    clear hk
    simp only [netAct, dstAt, List.getElem?_toArray, List.getElem?_cons_zero, List.getElem?_cons_succ, Option.bind_some, Act.put, List.setIfInBounds_toArray, List.set_cons_zero, List.set_cons_succ] at hQ ⊢
    go_wp2
    exact hQ (.pointer (some ⟨w0.heap.size, 2, none⟩)) _ (Below.refl _ _) rfl
  · intro x w hb hk Q' hQ
    have h5 : x.v 5 = .pointer (some ⟨w0.heap.size, 2, none⟩) := (hk 5 (by decide)).1
    clear hk
    simp only [netAct, dstAt, List.getElem?_toArray, List.getElem?_cons_zero, List.getElem?_cons_succ, Option.bind_some, Act.put, List.setIfInBounds_toArray, List.set_cons_zero, List.set_cons_succ] at hQ ⊢
    simp only [h5] at hQ ⊢
    clear h5
    have c2 := (k1.call hb).cell' (i := 2) rfl
    go_wp2
    exact hQ (.slice A m.a.length c) _ (Below.refl _ _) rfl
  · intro x w hb hk Q' hQ
    have h4 : Fresh w W.heap.size (x.v 4) := (hk 4 (by decide)).1
    have h5 : x.v 5 = .pointer (some ⟨w0.heap.size, 2, none⟩) := (hk 5 (by decide)).1
    have h6 : x.v 6 = .slice A m.a.length c := (hk 6 (by decide)).1
    have s4 := (hk 4 (by decide)).2
    clear hk
    simp only [netAct, dstAt, List.getElem?_toArray, List.getElem?_cons_zero, List.getElem?_cons_succ, Option.bind_some, Act.put, List.setIfInBounds_toArray, List.set_cons_zero, List.set_cons_succ] at hQ ⊢
    simp only [h5, h6] at hQ ⊢
    clear h5 h6
    obtain ⟨g, e4, hg, hB⟩ := h4
    rw [e4] at hQ ⊢
    refine wpList_append_fresh (by rfl) (.tmp 7) (.tmp 9) (by rfl) g W.heap.size w.heap.size #[] (by rfl) hB rfl hg A c m.a (by rfl) (SlI.next hb hf) ?_
    intro v' w' ho hb'
    exact hQ _ _ hb' ho
  · intro x w hb hk Q' hQ
    have h0 : x.v 0 = .pointer (some ⟨w0.heap.size, 0, none⟩) := (hk 0 (by decide)).1
    have h1 : x.v 1 = .int .i64 m.r := (hk 1 (by decide)).1
    have h2 : x.v 2 = .pointer (some ⟨w0.heap.size, 1, none⟩) := (hk 2 (by decide)).1
    have h3 : x.v 3 = .int .i64 m.c := (hk 3 (by decide)).1
    have h4 : Fresh w W.heap.size (x.v 4) := (hk 4 (by decide)).1
    have h5 : x.v 5 = .pointer (some ⟨w0.heap.size, 2, none⟩) := (hk 5 (by decide)).1
    have h6 : x.v 6 = .slice A m.a.length c := (hk 6 (by decide)).1
    have h7 : OwnI w W.heap.size (x.v 7) m.a := (hk 7 (by decide)).1
    have s4 := (hk 4 (by decide)).2
    have s7 := (hk 7 (by decide)).2
    clear hk
    simp only [netAct, dstAt, List.getElem?_toArray, List.getElem?_cons_zero, List.getElem?_cons_succ, Option.bind_some, Act.put, List.setIfInBounds_toArray, List.set_cons_zero, List.set_cons_succ] at hQ ⊢
    simp only [h0, h1, h2, h3, h5, h6] at hQ ⊢
    clear h0 h1 h2 h3 h5 h6
    obtain ⟨A', c', e7, _, _⟩ := h7.form
    rw [e7] at h7
    rw [e7] at hQ ⊢
    go_wp2
    exact hQ (.agg #[.int .i64 m.r, .int .i64 m.c, .slice A' m.a.length c']) w (Below.refl _ _) ⟨_, rfl, h7⟩
  · intro x w hb hk hiv hdj
    have h0 : x.v 0 = .pointer (some ⟨w0.heap.size, 0, none⟩) := hk 0 (by decide)
    have h1 : x.v 1 = .int .i64 m.r := hk 1 (by decide)
    have h2 : x.v 2 = .pointer (some ⟨w0.heap.size, 1, none⟩) := hk 2 (by decide)
    have h3 : x.v 3 = .int .i64 m.c := hk 3 (by decide)
    have h4 : Fresh w W.heap.size (x.v 4) := hk 4 (by decide)
    have h5 : x.v 5 = .pointer (some ⟨w0.heap.size, 2, none⟩) := hk 5 (by decide)
    have h6 : x.v 6 = .slice A m.a.length c := hk 6 (by decide)
    have h7 : OwnI w W.heap.size (x.v 7) m.a := hk 7 (by decide)
    have h8 : ∃ s, (x.v 8) = .agg #[.int .i64 m.r, .int .i64 m.c, s] ∧ OwnI w W.heap.size s m.a := hk 8 (by decide)
    clear hk
    simp only [netAct, dstAt, List.getElem?_toArray, List.getElem?_cons_zero, List.getElem?_cons_succ, Option.bind_some, Act.put, List.setIfInBounds_toArray, List.set_cons_zero, List.set_cons_succ]
    simp only [List.drop_succ_cons, List.drop_zero, h0, h1, h2, h3, h5, h6]
    clear h0 h1 h2 h3 h5 h6
    obtain ⟨s, e8, ho⟩ := h8
    obtain ⟨A', c', es, _, _⟩ := ho.form
    subst es
    rw [e8]
    have k2' := k2.call hb
    have f2 := k2'.frozen
    have r0 := k2'.cell' (i := 0) rfl
    have r1 := k2'.cell' (i := 1) rfl
    have r2 := k2'.cell' (i := 2) rfl
    have hbs := hb.size
    have sz := SZ.out
    have gf := g0.trans (hb.mono g0.size)
    clear h4 h7 k1 k2 sz
    go_wp2
    have sz := SZ.out
    refine bodyPost_ret (v := .agg #[.int .i64 m.r, .int .i64 m.c, .slice A' m.a.length c']) (by simp [results, go_sem, r0, r1, r2]) rfl ⟨_, rfl, ⟨_, rfl, ?_, hr, hc⟩, ((gf.setCell (by simp) _).setCell (by simp) _).setCell (by simp) _⟩
    exact ((((IntsO.of_own ho).set (by simp; omega) _).set (by simp; omega) _).set (by simp; omega) _).wider (by omega) (by simp)
end Go.Proofs.Ytcmlflppndfdcaa

/- Copies of quivers on both sides, of matrices on the program's. -/
namespace Go.Proofs.Ytcmlflppndfdcaa
set_option linter.unusedVariables false
set_option linter.unusedSimpArgs false
open Go.RowKit

theorem IntsO.form {w : World} {lo hi : Nat} {v : Value} {l : List Int} (h : IntsO w lo hi v l) : ∃ A c, v = .slice A l.length c := by
  obtain ⟨A, c, e, _⟩ := h.1.form
  exact ⟨A, c, e⟩
theorem QuivO.setLow {w : World} {lo hi : Nat} {v : Value} {q : Qv} (h : QuivO w lo hi v q) {p : Addr} (hp : p.block < lo) (u : Value) : QuivO (w.setCell p u) lo hi v q :=
  h.chg (chg_set (lo := p.block) (hi := p.block + 1) (Nat.le_refl _) (by omega)) (.inr (by omega))
theorem QuivO.wider {w : World} {lo hi lo' hi' : Nat} {v : Value} {q : Qv} (h : QuivO w lo hi v q) (h1 : lo' ≤ lo) (h2 : hi ≤ hi') : QuivO w lo' hi' v q := by
  obtain ⟨a, b, e, hF, hr⟩ := h
  exact ⟨a, b, e, hF.mono h1 h2, hr⟩

set_option maxHeartbeats 800000 in
theorem mxClone_any (u : Value) (m : Mx) (w0 : World) (hu : MxR w0 w0.heap.size u m) :
    Calls Try.prog 142 #[u] w0 fun e w' => ∃ v, e = .returned v ∧ MxO w' w0.heap.size w'.heap.size v m ∧ Below w0.heap.size w0 w' := by
  obtain ⟨A, c, rfl, hf, hr, hc, lf⟩ := hu.open_
  clear hu
  obtain ⟨W, hW⟩ : ∃ W, W = (w0.alloc (.cells #[.int .i64 m.r, .int .i64 m.c, .slice A m.a.length c] 84)).alloc (.cells #[.int .i64 0, .int .i64 0, .slice none 0 0] 84) := ⟨_, rfl⟩
  have g0 : Below w0.heap.size w0 W := by rw [hW]; exact ((Below.refl _ _).alloc (Nat.le_refl _) _).alloc (by simp) _
  have k1 : Blk W w0.heap.size 84 #[.int .i64 m.r, .int .i64 m.c, .slice A m.a.length c] := by rw [hW]; exact (Blk.new _ _ _).alloc _
  have k2 : Blk W (w0.heap.size + 1) 84 #[.int .i64 0, .int .i64 0, .slice none 0 0] := by
    rw [hW]
    have := Blk.new (w0.alloc (.cells #[.int .i64 m.r, .int .i64 m.c, .slice A m.a.length c] 84)) 84 #[.int .i64 0, .int .i64 0, .slice none 0 0]
    simpa only [World.size_alloc] using this
  have sz : W.heap.size = w0.heap.size + 1 + 1 := by rw [hW]; simp
  have SZ := Lib.hid sz
  clear sz
  replace hf := SlI.next g0 hf
  go_enter Try.func142, Try.ntmps142
  go_wp2_with fail
  rw [← hW]; clear hW
  refine (clone_own _ m.a _ hf).mono ?_; rintro e w1 ⟨v, rfl, ho, hb1⟩
  obtain ⟨A', c', rfl⟩ := ho.form
  have k1' := k1.call hb1
  have k2' := k2.call hb1
  have f1 := k1'.frozen
  have f2 := k2'.frozen
  have q0 := k1'.cell' (i := 0) rfl
  have q1 := k1'.cell' (i := 1) rfl
  have q2 := k1'.cell' (i := 2) rfl
  have r0 := k2'.cell' (i := 0) rfl
  have r1 := k2'.cell' (i := 1) rfl
  have r2 := k2'.cell' (i := 2) rfl
  have gf := g0.trans (hb1.mono g0.size)
  have hbs := hb1.size
  have HBS := Lib.hid hbs
  clear k1 k2 hbs hb1 hf
  go_wp2
  have sz := SZ.out
  have hbs := HBS.out
  refine bodyPost_ret (v := .agg #[.int .i64 m.r, .int .i64 m.c, .slice A' m.a.length c']) (by simp [results, go_sem, r0, r1, r2]) rfl ⟨_, rfl, ⟨_, rfl, ?_, hr, hc⟩, (((gf.setCell (by simp) _).setCell (by simp) _).setCell (by simp) _).setCell (by simp) _⟩
  exact ((((ho.set (by simp; omega) _).set (by simp; omega) _).set (by simp; omega) _).set (by simp; omega) _).wider (by omega) (by simp)

/-- two rows of two stretches that are apart -/
theorem fam_apart {w : World} {lo hi l1 h1 l2 h2 : Nat} {a b : Value} {l m : List Int} (ha : IntsO w l1 h1 a l) (hb : IntsO w l2 h2 b m) (hd : h1 ≤ l2 ∨ h2 ≤ l1) (k1 : lo ≤ l1) (k2 : lo ≤ l2) (k3 : h1 ≤ hi) (k4 : h2 ≤ hi) : Fam w lo hi [(a, l), (b, m)] := by
  refine ⟨fun p hp => ?_, ?_⟩
  · simp only [List.mem_cons, List.not_mem_nil, or_false] at hp
    rcases hp with rfl | rfl
    · exact ha.wider k1 k3
    · exact hb.wider k2 k4
  · simp only [List.pairwise_cons, List.mem_cons, List.not_mem_nil, or_false, forall_eq, false_implies, implies_true, List.Pairwise.nil, and_true]
    rcases hA : a.ownBlock with _ | x
    · exact .inl rfl
    · right
      intro e
      have h3 := ha.2 x hA
      have h4 := (ha.1.lt x hA).1
      have h5 := hb.2 x e.symm
      have h6 := (hb.1.lt x e.symm).1
      omega

set_option maxHeartbeats 3200000 in
theorem qvClone_any (u : Value) (q : Qv) (w0 : World) (hu : QvR w0 w0.heap.size u q) :
    Calls Try.prog 125 #[u] w0 fun e w' => ∃ v, e = .returned v ∧ QuivO w' w0.heap.size w'.heap.size v q ∧ Below w0.heap.size w0 w' := by
  obtain ⟨A, c, C, d, rfl, hf, ht, hr, lf, lt⟩ := hu.open_
  clear hu
  obtain ⟨W, hW⟩ : ∃ W, W = (w0.alloc (.cells #[.int .i64 q.v, .slice A q.f.length c, .slice C q.t.length d] 28)).alloc (.cells #[.int .i64 0, .slice none 0 0, .slice none 0 0] 28) := ⟨_, rfl⟩
  have g0 : Below w0.heap.size w0 W := by rw [hW]; exact ((Below.refl _ _).alloc (Nat.le_refl _) _).alloc (by simp) _
  have k1 : Blk W w0.heap.size 28 #[.int .i64 q.v, .slice A q.f.length c, .slice C q.t.length d] := by rw [hW]; exact (Blk.new _ _ _).alloc _
  have k2 : Blk W (w0.heap.size + 1) 28 #[.int .i64 0, .slice none 0 0, .slice none 0 0] := by
    rw [hW]
    have := Blk.new (w0.alloc (.cells #[.int .i64 q.v, .slice A q.f.length c, .slice C q.t.length d] 28)) 28 #[.int .i64 0, .slice none 0 0, .slice none 0 0]
    simpa only [World.size_alloc] using this
  have sz : W.heap.size = w0.heap.size + 1 + 1 := by rw [hW]; simp
  have SZ := Lib.hid sz
  clear sz
  replace hf := SlI.next g0 hf
  replace ht := SlI.next g0 ht
  go_enter Try.func125, Try.ntmps125
  go_wp2
  rw [← hW]; clear hW
  refine wp_region_net (by kernel_rfl) [.eq (.pointer (some ⟨w0.heap.size, 0, none⟩)), .eq (.int .i64 q.v), .eq (.pointer (some ⟨w0.heap.size, 1, none⟩)), .eq (.slice A q.f.length c), rel 4 (fun u lo hi w => IntsO w lo hi u q.f), .eq (.pointer (some ⟨w0.heap.size, 2, none⟩)), .eq (.slice C q.t.length d), rel 7 (fun u lo hi w => IntsO w lo hi u q.t), .rel (fun x w => x.v 8 = .agg #[.int .i64 q.v, x.v 4, x.v 7])] [[], [0], [], [2], [2, 3], [], [5], [2, 3, 4, 5, 6], [0, 1, 2, 3, 4, 5, 6, 7], [0, 1, 2, 3, 4, 5, 6, 7, 8]] 9 (by kernel_rfl) ⟨trivial, trivial, trivial, trivial, rel_stable (fun u lo hi w w' h hb => h.below hb), trivial, trivial, rel_stable (fun u lo hi w w' h hb => h.below hb), fun x w w' h hb => h, trivial⟩ ⟨?_, ?_, ?_, ?_, ?_, ?_, ?_, ?_, ?_, trivial⟩ ?_
  · intro x w hb hk Q' hQ
    clear hk
    simp only [netAct, dstAt, List.getElem?_toArray, List.getElem?_cons_zero, List.getElem?_cons_succ, Option.bind_some, Act.put, List.setIfInBounds_toArray, List.set_cons_zero, List.set_cons_succ] at hQ ⊢
    go_wp2
    exact hQ (.pointer (some ⟨w0.heap.size, 0, none⟩)) _ (Below.refl _ _) rfl
  · intro x w hb hk Q' hQ
    have h0 : x.v 0 = .pointer (some ⟨w0.heap.size, 0, none⟩) := (hk 0 (by decide)).1
    clear hk
    simp only [netAct, dstAt, List.getElem?_toArray, List.getElem?_cons_zero, List.getElem?_cons_succ, Option.bind_some, Act.put, List.setIfInBounds_toArray, List.set_cons_zero, List.set_cons_succ] at hQ ⊢
    simp only [h0] at hQ ⊢
    clear h0
    have c0 := (k1.call hb).cell' (i := 0) rfl
    go_wp2
    exact hQ (.int .i64 q.v) _ (Below.refl _ _) rfl
  · intro x w hb hk Q' hQ
    clear hk
    simp only [netAct, dstAt, List.getElem?_toArray, List.getElem?_cons_zero, List.getElem?_cons_succ, Option.bind_some, Act.put, List.setIfInBounds_toArray, List.set_cons_zero, List.set_cons_succ] at hQ ⊢
    go_wp2
    exact hQ (.pointer (some ⟨w0.heap.size, 1, none⟩)) _ (Below.refl _ _) rfl
  · intro x w hb hk Q' hQ
    have h2 : x.v 2 = .pointer (some ⟨w0.heap.size, 1, none⟩) := (hk 2 (by decide)).1
    clear hk
    simp only [netAct, dstAt, List.getElem?_toArray, List.getElem?_cons_zero, List.getElem?_cons_succ, Option.bind_some, Act.put, List.setIfInBounds_toArray, List.set_cons_zero, List.set_cons_succ] at hQ ⊢
    simp only [h2] at hQ ⊢
    clear h2
    have c1 := (k1.call hb).cell' (i := 1) rfl
    go_wp2
    exact hQ (.slice A q.f.length c) _ (Below.refl _ _) rfl
  · intro x w hb hk Q' hQ
    have h2 : x.v 2 = .pointer (some ⟨w0.heap.size, 1, none⟩) := (hk 2 (by decide)).1
    have h3 : x.v 3 = .slice A q.f.length c := (hk 3 (by decide)).1
    clear hk
    simp only [netAct, dstAt, List.getElem?_toArray, List.getElem?_cons_zero, List.getElem?_cons_succ, Option.bind_some, Act.put, List.setIfInBounds_toArray, List.set_cons_zero, List.set_cons_succ] at hQ ⊢
    simp only [h2, h3] at hQ ⊢
    clear h2 h3
    go_wp2_with fail
    refine (clone_own _ q.f _ (SlI.next hb hf)).mono ?_; rintro e w1 ⟨v1, rfl, ho, hb1⟩
    go_wp2
    exact hQ _ _ hb1 ho
  · intro x w hb hk Q' hQ
    clear hk
    simp only [netAct, dstAt, List.getElem?_toArray, List.getElem?_cons_zero, List.getElem?_cons_succ, Option.bind_some, Act.put, List.setIfInBounds_toArray, List.set_cons_zero, List.set_cons_succ] at hQ ⊢
    go_wp2
    exact hQ (.pointer (some ⟨w0.heap.size, 2, none⟩)) _ (Below.refl _ _) rfl
  · intro x w hb hk Q' hQ
    have h5 : x.v 5 = .pointer (some ⟨w0.heap.size, 2, none⟩) := (hk 5 (by decide)).1
    clear hk
    simp only [netAct, dstAt, List.getElem?_toArray, List.getElem?_cons_zero, List.getElem?_cons_succ, Option.bind_some, Act.put, List.setIfInBounds_toArray, List.set_cons_zero, List.set_cons_succ] at hQ ⊢
    simp only [h5] at hQ ⊢
    clear h5
    have c2 := (k1.call hb).cell' (i := 2) rfl
    go_wp2
    exact hQ (.slice C q.t.length d) _ (Below.refl _ _) rfl
  · intro x w hb hk Q' hQ
    have h2 : x.v 2 = .pointer (some ⟨w0.heap.size, 1, none⟩) := (hk 2 (by decide)).1
    have h3 : x.v 3 = .slice A q.f.length c := (hk 3 (by decide)).1
    have h4 : IntsO w (x.lo 4) (x.hi 4) (x.v 4) q.f := (hk 4 (by decide)).1
    have h5 : x.v 5 = .pointer (some ⟨w0.heap.size, 2, none⟩) := (hk 5 (by decide)).1
    have h6 : x.v 6 = .slice C q.t.length d := (hk 6 (by decide)).1
    have s4 := (hk 4 (by decide)).2
    clear hk
    simp only [netAct, dstAt, List.getElem?_toArray, List.getElem?_cons_zero, List.getElem?_cons_succ, Option.bind_some, Act.put, List.setIfInBounds_toArray, List.set_cons_zero, List.set_cons_succ] at hQ ⊢
    simp only [h2, h3, h5, h6] at hQ ⊢
    clear h2 h3 h5 h6
    go_wp2_with fail
    refine (clone_own _ q.t _ (SlI.next hb ht)).mono ?_; rintro e w1 ⟨v1, rfl, ho, hb1⟩
    go_wp2
    exact hQ _ _ hb1 ho
  · intro x w hb hk Q' hQ
    have h0 : x.v 0 = .pointer (some ⟨w0.heap.size, 0, none⟩) := (hk 0 (by decide)).1
    have h1 : x.v 1 = .int .i64 q.v := (hk 1 (by decide)).1
    have h2 : x.v 2 = .pointer (some ⟨w0.heap.size, 1, none⟩) := (hk 2 (by decide)).1
    have h3 : x.v 3 = .slice A q.f.length c := (hk 3 (by decide)).1
    have h4 : IntsO w (x.lo 4) (x.hi 4) (x.v 4) q.f := (hk 4 (by decide)).1
    have h5 : x.v 5 = .pointer (some ⟨w0.heap.size, 2, none⟩) := (hk 5 (by decide)).1
    have h6 : x.v 6 = .slice C q.t.length d := (hk 6 (by decide)).1
    have h7 : IntsO w (x.lo 7) (x.hi 7) (x.v 7) q.t := (hk 7 (by decide)).1
    have s4 := (hk 4 (by decide)).2
    have s7 := (hk 7 (by decide)).2
    clear hk
    simp only [netAct, dstAt, List.getElem?_toArray, List.getElem?_cons_zero, List.getElem?_cons_succ, Option.bind_some, Act.put, List.setIfInBounds_toArray, List.set_cons_zero, List.set_cons_succ] at hQ ⊢
    simp only [h0, h1, h2, h3, h5, h6] at hQ ⊢
    clear h0 h1 h2 h3 h5 h6
    obtain ⟨s4A, s4c, e4⟩ := h4.form
    obtain ⟨s7A, s7c, e7⟩ := h7.form
    have hQ' := hQ (.agg #[.int .i64 q.v, x.v 4, x.v 7]) w (Below.refl _ _) rfl
    rw [e4, e7] at hQ' ⊢
    go_wp2
    exact hQ'
  · intro x w hb hk hiv hdj
    have h0 : x.v 0 = .pointer (some ⟨w0.heap.size, 0, none⟩) := hk 0 (by decide)
    have h1 : x.v 1 = .int .i64 q.v := hk 1 (by decide)
    have h2 : x.v 2 = .pointer (some ⟨w0.heap.size, 1, none⟩) := hk 2 (by decide)
    have h3 : x.v 3 = .slice A q.f.length c := hk 3 (by decide)
    have h4 : IntsO w (x.lo 4) (x.hi 4) (x.v 4) q.f := hk 4 (by decide)
    have h5 : x.v 5 = .pointer (some ⟨w0.heap.size, 2, none⟩) := hk 5 (by decide)
    have h6 : x.v 6 = .slice C q.t.length d := hk 6 (by decide)
    have h7 : IntsO w (x.lo 7) (x.hi 7) (x.v 7) q.t := hk 7 (by decide)
    have h8 : x.v 8 = .agg #[.int .i64 q.v, x.v 4, x.v 7] := hk 8 (by decide)
    clear hk
    simp only [netAct, dstAt, List.getElem?_toArray, List.getElem?_cons_zero, List.getElem?_cons_succ, Option.bind_some, Act.put, List.setIfInBounds_toArray, List.set_cons_zero, List.set_cons_succ]
    simp only [List.drop_succ_cons, List.drop_zero, h0, h1, h2, h3, h5, h6]
    clear h0 h1 h2 h3 h5 h6
    have hF := fam_apart h4 h7 (hdj 4 7 (by decide) (by decide) (by decide)) (hiv 4 (by decide)).1 (hiv 7 (by decide)).1 (hiv 4 (by decide)).2.2 (hiv 7 (by decide)).2.2
    have hQ : QuivO w W.heap.size w.heap.size (.agg #[.int .i64 q.v, x.v 4, x.v 7]) q := ⟨_, _, rfl, hF, hr⟩
    obtain ⟨s4A, s4c, e4⟩ := h4.form
    obtain ⟨s7A, s7c, e7⟩ := h7.form
    rw [e4, e7] at hQ h8
    rw [h8]
    have k2' := k2.call hb
    have f2 := k2'.frozen
    have r0 := k2'.cell' (i := 0) rfl
    have r1 := k2'.cell' (i := 1) rfl
    have r2 := k2'.cell' (i := 2) rfl
    have gf := g0.trans (hb.mono g0.size)
    have HBS := Lib.hid hb.size
    have HQ := Lib.hid hQ
    clear h4 h7 h8 e4 e7 k1 k2 hb hf ht hF hQ hdj hiv
    go_wp2
    have sz := SZ.out
    have hbs := HBS.out
    refine bodyPost_ret (v := .agg #[.int .i64 q.v, .slice s4A q.f.length s4c, .slice s7A q.t.length s7c]) (by simp [results, go_sem, r0, r1, r2]) rfl ⟨_, rfl, QuivO.wider (lo := W.heap.size) (hi := w.heap.size) ?_ (by omega) (by simp), ((gf.setCell (by simp) _).setCell (by simp) _).setCell (by simp) _⟩
    exact ((HQ.out.setLow (by simp; omega) _).setLow (by simp; omega) _).setLow (by simp; omega) _

/-- a quiver whose rows the call made; whether they are apart from one another is not said -/
def QuivI (w : World) (lo hi : Nat) (val : Value) (q : Qv) : Prop := ∃ a b, val = .agg #[.int .i64 q.v, a, b] ∧ IntsO w lo hi a q.f ∧ IntsO w lo hi b q.t ∧ I64 q.v
theorem QuivI.below {w w' : World} {lo hi : Nat} {v : Value} {q : Qv} (h : QuivI w lo hi v q) (hb : Below w.heap.size w w') : QuivI w' lo hi v q := by
  obtain ⟨a, b, e, h1, h2, h3⟩ := h
  exact ⟨a, b, e, h1.below hb, h2.below hb, h3⟩
theorem QuivI.rd {w : World} {lo hi : Nat} {v : Value} {q : Qv} (h : QuivI w lo hi v q) : QvR w w.heap.size v q := by
  obtain ⟨a, b, e, h1, h2, h3⟩ := h
  exact ⟨a, b, e, h1.rd, h2.rd, h3⟩
theorem QuivI.set {w : World} {lo hi : Nat} {v : Value} {q : Qv} (h : QuivI w lo hi v q) {p : Addr} (hp : p.block < lo) (u : Value) : QuivI (w.setCell p u) lo hi v q := by
  obtain ⟨a, b, e, h1, h2, h3⟩ := h
  exact ⟨a, b, e, h1.set hp u, h2.set hp u, h3⟩
theorem QuivI.wider {w : World} {lo hi lo' hi' : Nat} {v : Value} {q : Qv} (h : QuivI w lo hi v q) (k1 : lo' ≤ lo) (k2 : hi ≤ hi') : QuivI w lo' hi' v q := by
  obtain ⟨a, b, e, h1, h2, h3⟩ := h
  exact ⟨a, b, e, h1.wider k1 k2, h2.wider k1 k2, h3⟩

set_option maxHeartbeats 3200000 in
theorem l6Copy_any (u : Value) (q : Qv) (w0 : World) (hu : QvR w0 w0.heap.size u q) :
    Calls Try.prog 91 #[u] w0 fun e w' => ∃ v, e = .returned v ∧ QuivI w' w0.heap.size w'.heap.size v q ∧ Below w0.heap.size w0 w' := by
  obtain ⟨A, c, C, d, rfl, hf, ht, hr, lf, lt⟩ := hu.open_
  clear hu
  obtain ⟨W, hW⟩ : ∃ W, W = (w0.alloc (.cells #[.int .i64 q.v, .slice A q.f.length c, .slice C q.t.length d] 28)).alloc (.cells #[.int .i64 0, .slice none 0 0, .slice none 0 0] 28) := ⟨_, rfl⟩
  have g0 : Below w0.heap.size w0 W := by rw [hW]; exact ((Below.refl _ _).alloc (Nat.le_refl _) _).alloc (by simp) _
  have k1 : Blk W w0.heap.size 28 #[.int .i64 q.v, .slice A q.f.length c, .slice C q.t.length d] := by rw [hW]; exact (Blk.new _ _ _).alloc _
  have k2 : Blk W (w0.heap.size + 1) 28 #[.int .i64 0, .slice none 0 0, .slice none 0 0] := by
    rw [hW]
    have := Blk.new (w0.alloc (.cells #[.int .i64 q.v, .slice A q.f.length c, .slice C q.t.length d] 28)) 28 #[.int .i64 0, .slice none 0 0, .slice none 0 0]
    simpa only [World.size_alloc] using this
  have sz : W.heap.size = w0.heap.size + 1 + 1 := by rw [hW]; simp
  have SZ := Lib.hid sz
  clear sz
  replace hf := SlI.next g0 hf
  replace ht := SlI.next g0 ht
  go_enter Try.func91, Try.ntmps91
  go_wp2
  rw [← hW]; clear hW
  refine wp_region_net (by kernel_rfl) [.eq (.pointer (some ⟨w0.heap.size, 0, none⟩)), .eq (.int .i64 q.v), rel 2 (fun u lo hi w => Fresh w W.heap.size u), .eq (.pointer (some ⟨w0.heap.size, 1, none⟩)), .eq (.slice A q.f.length c), rel 5 (fun u lo hi w => OwnI w W.heap.size u q.f), rel 6 (fun u lo hi w => Fresh w W.heap.size u), .eq (.pointer (some ⟨w0.heap.size, 2, none⟩)), .eq (.slice C q.t.length d), rel 9 (fun u lo hi w => OwnI w W.heap.size u q.t), .rel (fun x w => x.v 10 = .agg #[.int .i64 q.v, x.v 5, x.v 9])] [[], [0], [], [], [3], [2, 3, 4], [], [], [7], [2, 3, 4, 5, 6, 7, 8], [0, 1, 2, 3, 4, 5, 6, 7, 8, 9], [0, 1, 2, 3, 4, 5, 6, 7, 8, 9, 10]] 11 (by kernel_rfl) ⟨trivial, trivial, rel_stable (fun u lo hi w w' h hb => h.below hb), trivial, trivial, rel_stable (fun u lo hi w w' h hb => h.below hb), rel_stable (fun u lo hi w w' h hb => h.below hb), trivial, trivial, rel_stable (fun u lo hi w w' h hb => h.below hb), fun x w w' h hb => h, trivial⟩ ⟨?_, ?_, ?_, ?_, ?_, ?_, ?_, ?_, ?_, ?_, ?_, trivial⟩ ?_
  · intro x w hb hk Q' hQ
    clear hk
    simp only [netAct, dstAt, List.getElem?_toArray, List.getElem?_cons_zero, List.getElem?_cons_succ, Option.bind_some, Act.put, List.setIfInBounds_toArray, List.set_cons_zero, List.set_cons_succ] at hQ ⊢
    go_wp2
    exact hQ (.pointer (some ⟨w0.heap.size, 0, none⟩)) _ (Below.refl _ _) rfl
  · intro x w hb hk Q' hQ
    have h0 : x.v 0 = .pointer (some ⟨w0.heap.size, 0, none⟩) := (hk 0 (by decide)).1
    clear hk
    simp only [netAct, dstAt, List.getElem?_toArray, List.getElem?_cons_zero, List.getElem?_cons_succ, Option.bind_some, Act.put, List.setIfInBounds_toArray, List.set_cons_zero, List.set_cons_succ] at hQ ⊢
    simp only [h0] at hQ ⊢
    clear h0
    have c0 := (k1.call hb).cell' (i := 0) rfl
    go_wp2
    exact hQ (.int .i64 q.v) _ (Below.refl _ _) rfl
  · intro x w hb hk Q' hQ
    clear hk
    simp only [netAct, dstAt, List.getElem?_toArray, List.getElem?_cons_zero, List.getElem?_cons_succ, Option.bind_some, Act.put, List.setIfInBounds_toArray, List.set_cons_zero, List.set_cons_succ] at hQ ⊢
    go_wp2
    exact hQ _ _ (below_alloc _ _) (Fresh.new _ hb.size)
  · intro x w hb hk Q' hQ
    clear hk
    simp only [netAct, dstAt, List.getElem?_toArray, List.getElem?_cons_zero, List.getElem?_cons_succ, Option.bind_some, Act.put, List.setIfInBounds_toArray, List.set_cons_zero, List.set_cons_succ] at hQ ⊢
    go_wp2
    exact hQ (.pointer (some ⟨w0.heap.size, 1, none⟩)) _ (Below.refl _ _) rfl
  · intro x w hb hk Q' hQ
    have h3 : x.v 3 = .pointer (some ⟨w0.heap.size, 1, none⟩) := (hk 3 (by decide)).1
    clear hk
    simp only [netAct, dstAt, List.getElem?_toArray, List.getElem?_cons_zero, List.getElem?_cons_succ, Option.bind_some, Act.put, List.setIfInBounds_toArray, List.set_cons_zero, List.set_cons_succ] at hQ ⊢
    simp only [h3] at hQ ⊢
    clear h3
    have c1 := (k1.call hb).cell' (i := 1) rfl
    go_wp2
    exact hQ (.slice A q.f.length c) _ (Below.refl _ _) rfl
  · intro x w hb hk Q' hQ
    have h2 : Fresh w W.heap.size (x.v 2) := (hk 2 (by decide)).1
    have h3 : x.v 3 = .pointer (some ⟨w0.heap.size, 1, none⟩) := (hk 3 (by decide)).1
    have h4 : x.v 4 = .slice A q.f.length c := (hk 4 (by decide)).1
    have s2 := (hk 2 (by decide)).2
    clear hk
    simp only [netAct, dstAt, List.getElem?_toArray, List.getElem?_cons_zero, List.getElem?_cons_succ, Option.bind_some, Act.put, List.setIfInBounds_toArray, List.set_cons_zero, List.set_cons_succ] at hQ ⊢
    simp only [h3, h4] at hQ ⊢
    clear h3 h4
    obtain ⟨g, e2, hg, hB⟩ := h2
    rw [e2] at hQ ⊢
    refine wpList_append_fresh (by rfl) (.tmp 5) (.tmp 7) (by rfl) g W.heap.size w.heap.size #[] (by rfl) hB rfl hg A c q.f (by rfl) (SlI.next hb hf) ?_
    intro v' w' ho hb'
    exact hQ _ _ hb' ho
  · intro x w hb hk Q' hQ
    clear hk
    simp only [netAct, dstAt, List.getElem?_toArray, List.getElem?_cons_zero, List.getElem?_cons_succ, Option.bind_some, Act.put, List.setIfInBounds_toArray, List.set_cons_zero, List.set_cons_succ] at hQ ⊢
    go_wp2
    exact hQ _ _ (below_alloc _ _) (Fresh.new _ hb.size)
  · intro x w hb hk Q' hQ
    clear hk
    simp only [netAct, dstAt, List.getElem?_toArray, List.getElem?_cons_zero, List.getElem?_cons_succ, Option.bind_some, Act.put, List.setIfInBounds_toArray, List.set_cons_zero, List.set_cons_succ] at hQ ⊢
    go_wp2
    exact hQ (.pointer (some ⟨w0.heap.size, 2, none⟩)) _ (Below.refl _ _) rfl
  · intro x w hb hk Q' hQ
    have h7 : x.v 7 = .pointer (some ⟨w0.heap.size, 2, none⟩) := (hk 7 (by decide)).1
    clear hk
    simp only [netAct, dstAt, List.getElem?_toArray, List.getElem?_cons_zero, List.getElem?_cons_succ, Option.bind_some, Act.put, List.setIfInBounds_toArray, List.set_cons_zero, List.set_cons_succ] at hQ ⊢
    simp only [h7] at hQ ⊢
    clear h7
    have c2 := (k1.call hb).cell' (i := 2) rfl
    go_wp2
    exact hQ (.slice C q.t.length d) _ (Below.refl _ _) rfl
  · intro x w hb hk Q' hQ
    have h2 : Fresh w W.heap.size (x.v 2) := (hk 2 (by decide)).1
    have h3 : x.v 3 = .pointer (some ⟨w0.heap.size, 1, none⟩) := (hk 3 (by decide)).1
    have h4 : x.v 4 = .slice A q.f.length c := (hk 4 (by decide)).1
    have h5 : OwnI w W.heap.size (x.v 5) q.f := (hk 5 (by decide)).1
    have h6 : Fresh w W.heap.size (x.v 6) := (hk 6 (by decide)).1
    have h7 : x.v 7 = .pointer (some ⟨w0.heap.size, 2, none⟩) := (hk 7 (by decide)).1
    have h8 : x.v 8 = .slice C q.t.length d := (hk 8 (by decide)).1
    have s2 := (hk 2 (by decide)).2
    have s5 := (hk 5 (by decide)).2
    have s6 := (hk 6 (by decide)).2
    clear hk
    simp only [netAct, dstAt, List.getElem?_toArray, List.getElem?_cons_zero, List.getElem?_cons_succ, Option.bind_some, Act.put, List.setIfInBounds_toArray, List.set_cons_zero, List.set_cons_succ] at hQ ⊢
    simp only [h3, h4, h7, h8] at hQ ⊢
    clear h3 h4 h7 h8
    obtain ⟨g, e6, hg, hB⟩ := h6
    rw [e6] at hQ ⊢
    refine wpList_append_fresh (by rfl) (.tmp 9) (.tmp 11) (by rfl) g W.heap.size w.heap.size #[] (by rfl) hB rfl hg C d q.t (by rfl) (SlI.next hb ht) ?_
    intro v' w' ho hb'
    exact hQ _ _ hb' ho
  · intro x w hb hk Q' hQ
    have h0 : x.v 0 = .pointer (some ⟨w0.heap.size, 0, none⟩) := (hk 0 (by decide)).1
    have h1 : x.v 1 = .int .i64 q.v := (hk 1 (by decide)).1
    have h2 : Fresh w W.heap.size (x.v 2) := (hk 2 (by decide)).1
    have h3 : x.v 3 = .pointer (some ⟨w0.heap.size, 1, none⟩) := (hk 3 (by decide)).1
    have h4 : x.v 4 = .slice A q.f.length c := (hk 4 (by decide)).1
    have h5 : OwnI w W.heap.size (x.v 5) q.f := (hk 5 (by decide)).1
    have h6 : Fresh w W.heap.size (x.v 6) := (hk 6 (by decide)).1
    have h7 : x.v 7 = .pointer (some ⟨w0.heap.size, 2, none⟩) := (hk 7 (by decide)).1
    have h8 : x.v 8 = .slice C q.t.length d := (hk 8 (by decide)).1
    have h9 : OwnI w W.heap.size (x.v 9) q.t := (hk 9 (by decide)).1
    have s2 := (hk 2 (by decide)).2
    have s5 := (hk 5 (by decide)).2
    have s6 := (hk 6 (by decide)).2
    have s9 := (hk 9 (by decide)).2
    clear hk
    simp only [netAct, dstAt, List.getElem?_toArray, List.getElem?_cons_zero, List.getElem?_cons_succ, Option.bind_some, Act.put, List.setIfInBounds_toArray, List.set_cons_zero, List.set_cons_succ] at hQ ⊢
    simp only [h0, h1, h3, h4, h7, h8] at hQ ⊢
    clear h0 h1 h3 h4 h7 h8
    obtain ⟨s4A, s4c, e4, _, _⟩ := h5.form
    obtain ⟨s7A, s7c, e7, _, _⟩ := h9.form
    have hQ' := hQ (.agg #[.int .i64 q.v, x.v 5, x.v 9]) w (Below.refl _ _) rfl
    rw [e4, e7] at hQ' ⊢
    go_wp2
    exact hQ'
  · intro x w hb hk hiv hdj
    have h0 : x.v 0 = .pointer (some ⟨w0.heap.size, 0, none⟩) := hk 0 (by decide)
    have h1 : x.v 1 = .int .i64 q.v := hk 1 (by decide)
    have h2 : Fresh w W.heap.size (x.v 2) := hk 2 (by decide)
    have h3 : x.v 3 = .pointer (some ⟨w0.heap.size, 1, none⟩) := hk 3 (by decide)
    have h4 : x.v 4 = .slice A q.f.length c := hk 4 (by decide)
    have h5 : OwnI w W.heap.size (x.v 5) q.f := hk 5 (by decide)
    have h6 : Fresh w W.heap.size (x.v 6) := hk 6 (by decide)
    have h7 : x.v 7 = .pointer (some ⟨w0.heap.size, 2, none⟩) := hk 7 (by decide)
    have h8 : x.v 8 = .slice C q.t.length d := hk 8 (by decide)
    have h9 : OwnI w W.heap.size (x.v 9) q.t := hk 9 (by decide)
    have h10 : x.v 10 = .agg #[.int .i64 q.v, x.v 5, x.v 9] := hk 10 (by decide)
    clear hk
    simp only [netAct, dstAt, List.getElem?_toArray, List.getElem?_cons_zero, List.getElem?_cons_succ, Option.bind_some, Act.put, List.setIfInBounds_toArray, List.set_cons_zero, List.set_cons_succ]
    simp only [List.drop_succ_cons, List.drop_zero, h0, h1, h3, h4, h7, h8]
    clear h0 h1 h3 h4 h7 h8
    have hQ : QuivI w W.heap.size w.heap.size (.agg #[.int .i64 q.v, x.v 5, x.v 9]) q := ⟨_, _, rfl, IntsO.of_own h5, IntsO.of_own h9, hr⟩
    obtain ⟨s4A, s4c, e4, _, _⟩ := h5.form
    obtain ⟨s7A, s7c, e7, _, _⟩ := h9.form
    rw [e4, e7] at hQ h10
    rw [h10]
    have k2' := k2.call hb
    have f2 := k2'.frozen
    have r0 := k2'.cell' (i := 0) rfl
    have r1 := k2'.cell' (i := 1) rfl
    have r2 := k2'.cell' (i := 2) rfl
    have gf := g0.trans (hb.mono g0.size)
    have HBS := Lib.hid hb.size
    have HQ := Lib.hid hQ
    clear h2 h5 h6 h9 h10 e4 e7 k1 k2 hb hf ht hQ hdj hiv
    go_wp2
    have sz := SZ.out
    have hbs := HBS.out
    refine bodyPost_ret (v := .agg #[.int .i64 q.v, .slice s4A q.f.length s4c, .slice s7A q.t.length s7c]) (by simp [results, go_sem, r0, r1, r2]) rfl ⟨_, rfl, QuivI.wider (lo := W.heap.size) (hi := w.heap.size) ?_ (by omega) (by simp), ((gf.setCell (by simp) _).setCell (by simp) _).setCell (by simp) _⟩
    exact ((HQ.out.set (by simp; omega) _).set (by simp; omega) _).set (by simp; omega) _
end Go.Proofs.Ytcmlflppndfdcaa

/- Sources and sinks. -/
namespace Go.Proofs.Ytcmlflppndfdcaa
set_option linter.unusedVariables false
set_option linter.unusedSimpArgs false
open Go.RowKit

def endV (l : List Int) (q : Qv) (v : Int) : Bool := inR v 0 (q.v - 1) && !decide (v ∈ l)
def freeV (l : List Int) (k : Nat) : List Int := ((List.range k).map fun i : Nat => (i : Int)).filter fun u => !decide (u ∈ l)
theorem freeV_yes {l : List Int} {k : Nat} (h : decide ((k : Int) ∈ l) = false) : freeV l (k + 1) = freeV l k ++ [(k : Int)] := by
  simp only [freeV, List.range_succ, List.map_append, List.filter_append, List.map_cons, List.map_nil, List.filter_cons, h, Bool.not_false, if_true, List.filter_nil]
theorem freeV_no {l : List Int} {k : Nat} (h : decide ((k : Int) ∈ l) = true) : freeV l (k + 1) = freeV l k := by
  simp only [freeV, List.range_succ, List.map_append, List.filter_append, List.map_cons, List.map_nil, List.filter_cons, h, Bool.not_true, List.filter_nil, List.append_nil]
  simp
theorem freeV_length (l : List Int) (k : Nat) : (freeV l k).length ≤ k := by
  unfold freeV
  refine Nat.le_trans (List.length_filter_le _ _) ?_
  simp
theorem freeV_mem (l : List Int) (V : Nat) (q : Qv) (v : Int) (h : q.v = (V : Int)) : decide (v ∈ freeV l V) = endV l q v := by
  rw [Bool.eq_iff_iff]
  simp only [freeV, endV, decide_eq_true_eq, List.mem_filter, List.mem_map, List.mem_range, Bool.and_eq_true, inR_t, h]
  constructor
  · rintro ⟨⟨i, hi, rfl⟩, h2⟩
    exact ⟨by omega, h2⟩
  · rintro ⟨h1, h2⟩
    exact ⟨⟨v.toNat, by omega, by omega⟩, h2⟩

set_option maxHeartbeats 800000 in
theorem isSource_any (u : Value) (q : Qv) (v : Int) (w : World) (hu : QvR w w.heap.size u q) (hq : isQ q = true) :
    Calls Try.prog 145 #[u, .int .i64 v] w fun e w' => e = .returned (.bool (endV q.t q v)) ∧ Below w.heap.size w w' := by
  have hu' := hu
  obtain ⟨A, c, C, d, rfl, hf, hT, hr, lf, lt⟩ := hu.open_
  clear hu
  have hv := (isQ_t.1 hq).1
  have HQ := Lib.hid hq
  obtain ⟨W, hW⟩ : ∃ W, W = w.alloc (.cells #[.int .i64 q.v, .slice A q.f.length c, .slice C q.t.length d] 28) := ⟨_, rfl⟩
  have g0 : Below w.heap.size w W := by rw [hW]; exact below_alloc _ _
  have kB : Blk W w.heap.size 28 #[.int .i64 q.v, .slice A q.f.length c, .slice C q.t.length d] := by rw [hW]; exact Blk.new _ _ _
  have h0 := QvR.next g0 hu'
  have c0 := kB.cell' (i := 0) rfl
  have c1 := kB.cell' (i := 1) rfl
  have c2 := kB.cell' (i := 2) rfl
  clear hu' hq
  rcases h1 : inR v 0 (q.v - 1) with _ | _
  · have HF := Lib.hid (show endV q.t q v = false by simp [endV, h1])
    have H1 := Lib.hid h1
    clear h1
    go_enter Try.func145, Try.ntmps145
    go_wp2_with fail
    rw [← hW]; clear hW
    refine (implIsQuiver_any _ _ _ h0).mono ?_; rintro e w1 ⟨rfl, hb1⟩
    rw [HQ.out]
    have k1 := kB.call hb1
    have c0 := k1.cell' (i := 0) rfl
    have c1 := k1.cell' (i := 1) rfl
    have c2 := k1.cell' (i := 2) rfl
    go_wp2_with fail
    refine (hasVertex_any _ q _ _ (QvR.next hb1 h0) hv).mono ?_; rintro e w2 ⟨rfl, hb2⟩
    rw [H1.out]
    go_wp2
    go_ret
    exact ⟨by rw [HF.out]; rfl, bthen (bthen g0 hb1) hb2⟩
  · have HF := Lib.hid (show endV q.t q v = !decide (v ∈ q.t) by simp [endV, h1])
    have H1 := Lib.hid h1
    clear h1
    go_enter Try.func145, Try.ntmps145
    go_wp2_with fail
    rw [← hW]; clear hW
    refine (implIsQuiver_any _ _ _ h0).mono ?_; rintro e w1 ⟨rfl, hb1⟩
    rw [HQ.out]
    have k1 := kB.call hb1
    have c0 := k1.cell' (i := 0) rfl
    have c1 := k1.cell' (i := 1) rfl
    have c2 := k1.cell' (i := 2) rfl
    go_wp2_with fail
    refine (hasVertex_any _ q _ _ (QvR.next hb1 h0) hv).mono ?_; rintro e w2 ⟨rfl, hb2⟩
    rw [H1.out]
    have k2 := k1.call hb2
    have c0 := k2.cell' (i := 0) rfl
    have c1 := k2.cell' (i := 1) rfl
    have c2 := k2.cell' (i := 2) rfl
    go_wp2_with fail
    refine (contains_any _ _ _ _ (SlI.next hb2 (SlI.next hb1 (SlI.next g0 hT)))).mono ?_; rintro e w3 ⟨rfl, rfl⟩
    rcases hd : decide (v ∈ q.t) with _ | _
    · have HD := Lib.hid hd
      clear hd
      go_wp2
      go_ret
      exact ⟨by rw [HF.out, HD.out]; rfl, bthen (bthen g0 hb1) hb2⟩
    · have HD := Lib.hid hd
      clear hd
      go_wp2
      go_ret
      exact ⟨by rw [HF.out, HD.out]; rfl, bthen (bthen g0 hb1) hb2⟩
set_option maxHeartbeats 800000 in
theorem isSink_any (u : Value) (q : Qv) (v : Int) (w : World) (hu : QvR w w.heap.size u q) (hq : isQ q = true) :
    Calls Try.prog 112 #[u, .int .i64 v] w fun e w' => e = .returned (.bool (endV q.f q v)) ∧ Below w.heap.size w w' := by
  have hu' := hu
  obtain ⟨A, c, C, d, rfl, hf, hT, hr, lf, lt⟩ := hu.open_
  clear hu
  have hv := (isQ_t.1 hq).1
  have HQ := Lib.hid hq
  obtain ⟨W, hW⟩ : ∃ W, W = w.alloc (.cells #[.int .i64 q.v, .slice A q.f.length c, .slice C q.t.length d] 28) := ⟨_, rfl⟩
  have g0 : Below w.heap.size w W := by rw [hW]; exact below_alloc _ _
  have kB : Blk W w.heap.size 28 #[.int .i64 q.v, .slice A q.f.length c, .slice C q.t.length d] := by rw [hW]; exact Blk.new _ _ _
  have h0 := QvR.next g0 hu'
  have c0 := kB.cell' (i := 0) rfl
  have c1 := kB.cell' (i := 1) rfl
  have c2 := kB.cell' (i := 2) rfl
  clear hu' hq
  rcases h1 : inR v 0 (q.v - 1) with _ | _
  · have HF := Lib.hid (show endV q.f q v = false by simp [endV, h1])
    have H1 := Lib.hid h1
    clear h1
    go_enter Try.func112, Try.ntmps112
    go_wp2_with fail
    rw [← hW]; clear hW
    refine (implIsQuiver_any _ _ _ h0).mono ?_; rintro e w1 ⟨rfl, hb1⟩
    rw [HQ.out]
    have k1 := kB.call hb1
    have c0 := k1.cell' (i := 0) rfl
    have c1 := k1.cell' (i := 1) rfl
    have c2 := k1.cell' (i := 2) rfl
    go_wp2_with fail
    refine (hasVertex_any _ q _ _ (QvR.next hb1 h0) hv).mono ?_; rintro e w2 ⟨rfl, hb2⟩
    rw [H1.out]
    go_wp2
    go_ret
    exact ⟨by rw [HF.out]; rfl, bthen (bthen g0 hb1) hb2⟩
  · have HF := Lib.hid (show endV q.f q v = !decide (v ∈ q.f) by simp [endV, h1])
    have H1 := Lib.hid h1
    clear h1
    go_enter Try.func112, Try.ntmps112
    go_wp2_with fail
    rw [← hW]; clear hW
    refine (implIsQuiver_any _ _ _ h0).mono ?_; rintro e w1 ⟨rfl, hb1⟩
    rw [HQ.out]
    have k1 := kB.call hb1
    have c0 := k1.cell' (i := 0) rfl
    have c1 := k1.cell' (i := 1) rfl
    have c2 := k1.cell' (i := 2) rfl
    go_wp2_with fail
    refine (hasVertex_any _ q _ _ (QvR.next hb1 h0) hv).mono ?_; rintro e w2 ⟨rfl, hb2⟩
    rw [H1.out]
    have k2 := k1.call hb2
    have c0 := k2.cell' (i := 0) rfl
    have c1 := k2.cell' (i := 1) rfl
    have c2 := k2.cell' (i := 2) rfl
    go_wp2_with fail
    refine (contains_any _ _ _ _ (SlI.next hb2 (SlI.next hb1 (SlI.next g0 hf)))).mono ?_; rintro e w3 ⟨rfl, rfl⟩
    rcases hd : decide (v ∈ q.f) with _ | _
    · have HD := Lib.hid hd
      clear hd
      go_wp2
      go_ret
      exact ⟨by rw [HF.out, HD.out]; rfl, bthen (bthen g0 hb1) hb2⟩
    · have HD := Lib.hid hd
      clear hd
      go_wp2
      go_ret
      exact ⟨by rw [HF.out, HD.out]; rfl, bthen (bthen g0 hb1) hb2⟩

set_option maxHeartbeats 1600000 in
theorem sourcesOf_any (u : Value) (q : Qv) (w : World) (hu : QvR w w.heap.size u q) (hq : isQ q = true) :
    Calls Try.prog 108 #[u] w fun e w' => ∃ v, e = .returned v ∧ SlI w' w'.heap.size v (freeV q.t q.v.toNat) ∧ Below w.heap.size w w' := by
  have hu' := hu
  obtain ⟨A, c, C, d, rfl, hf, hT, hr, lf, lt⟩ := hu.open_
  clear hu
  obtain ⟨hv1, hv2⟩ := (isQ_t.1 hq).1
  have HQ := Lib.hid hq
  obtain ⟨V, hV⟩ : ∃ V : Nat, q.v = (V : Int) := ⟨q.v.toNat, by omega⟩
  have HV := Lib.hid hV
  rw [show q.v.toNat = V by omega]
  have hV5 : V ≤ 5 := by omega
  obtain ⟨W, hW⟩ : ∃ W, W = (w.alloc (.cells #[.int .i64 q.v, .slice A q.f.length c, .slice C q.t.length d] 28)).alloc (.cells #[] 3) := ⟨_, rfl⟩
  have g0 : Below w.heap.size w W := by rw [hW]; exact ((Below.refl _ _).alloc (Nat.le_refl _) _).alloc (by simp) _
  have kB : Blk W w.heap.size 28 #[.int .i64 q.v, .slice A q.f.length c, .slice C q.t.length d] := by rw [hW]; exact (Blk.new _ _ _).alloc _
  have ho : OwnI W (w.heap.size + 1) (.slice (some ⟨w.heap.size + 1, 0, none⟩) 0 0) [] := by
    rw [hW]
    have := OwnI.made (w := w.alloc (.cells #[.int .i64 q.v, .slice A q.f.length c, .slice C q.t.length d] 28)) (base := w.heap.size + 1) 3 rfl (by simp)
    simpa only [World.size_alloc] using this
  have sz : W.heap.size = w.heap.size + 1 + 1 := by rw [hW]; simp
  have HU := Lib.hid hu'
  have HX := Lib.hid hT
  have SZ := Lib.hid sz
  clear hu' hq sz hV
  go_enter Try.func108, Try.ntmps108
  go_wp2
  rw [← hW]; clear hW
  go_loopw [3, 4] (fun out i wr => ∃ k : Nat, k ≤ V ∧ i = .int .i64 k ∧ OwnI wr (w.heap.size + 1) out (freeV q.t k) ∧ Below w.heap.size w wr ∧ Below (w.heap.size + 1) W wr ∧ W.heap.size ≤ wr.heap.size) (fun _ i _ => V - (intOf i).toNat)
  case atStart => exact ⟨0, Nat.zero_le _, rfl, ho, g0, Below.refl _ _, Nat.le_refl _⟩
  case round =>
    clear ho
    obtain ⟨k, hk, rfl, ho, hb, hbW, hs⟩ := hrel
    have sz := SZ.out
    have kR := kB.below hbW (by omega)
    have c0 := kR.cell' (i := 0) rfl
    have c1 := kR.cell' (i := 1) rfl
    have c2 := kR.cell' (i := 2) rfl
    clear sz
    by_cases hlt : (k : Int) < q.v
    · have HL := Lib.hid hlt
      obtain ⟨OA, oc, rfl, _, _⟩ := ho.form
      go_wp2_with fail
      refine (specIsQuiver_any _ q _ (QvR.more hb.size (QvR.below hb HU.out))).mono ?_; rintro e w1 ⟨rfl, hb1⟩
      rw [HQ.out]
      have ho1 := ho.below hb1
      have kR1 := kR.call hb1
      have hbA := hb.trans (hb1.mono hb.size)
      have s1 := hb1.size
      have hx1 := SlI.more hbA.size (SlI.below hbA HX.out)
      have c0 := kR1.cell' (i := 0) rfl
      have c1 := kR1.cell' (i := 1) rfl
      have c2 := kR1.cell' (i := 2) rfl
      clear ho kR
      go_wp2_with fail
      refine (l4Has_any _ _ _ _ hx1).mono ?_; rintro e w2 ⟨rfl, hb2⟩
      have ho2 := ho1.below hb2
      have hbB := hbA.trans (hb2.mono hbA.size)
      have hbW2 := hbW.trans ((hb1.mono (by have := SZ.out; omega)).trans (hb2.mono (by have := SZ.out; omega)))
      have s2 := hb2.size
      have sB := hbB.size
      rcases hd : decide ((k : Int) ∈ q.t) with _ | _
      · have HN := Lib.hid (freeV_yes hd)
        clear hd ho1 hx1 c0 c1 c2 kR1 hbA hb1 hb2
        have HO2 := Lib.hid ho2
        have HW2 := Lib.hid hbW2
        have HB := Lib.hid hbB
        have hlo2 := ho2.lt
        clear ho2 hbW2 hbB
        (go_wp2_with (at_builtin; refine Hold.stop ?_)); unfold Hold
        obtain ⟨X, hX⟩ : ∃ X, X = w2.alloc (.cells #[.int .i64 (k : Int)] 3) := ⟨_, rfl⟩
        have gn : Below w2.heap.size w2 X := by rw [hX]; exact below_alloc _ _
        have h1x : SlI X X.heap.size (.slice (some ⟨w2.heap.size, 0, none⟩) 1 1) [(k : Int)] := by rw [hX]; exact SlI.one _ _ _ (by simp only [I64]; omega)
        have ho3 := (HO2.out).below gn
        have gns := gn.size
        rw [← hX]
        clear hX
        have hfl := freeV_length q.t k
        refine wpList_appI rfl (.tmp 21) (.tmp 23) rfl (w.heap.size + 1) X.heap.size _ _ rfl ho3 _ 1 1 [(k : Int)] rfl rfl h1x (by simp; omega) (by have := SZ.out; omega) ?_
        intro v' w' h1 h2 h3
        rw [← HN.out] at h1
        have hbX := below_grown h2 (B := w.heap.size + 1) (fun k hk => (hlo2 k hk).1) (by have := SZ.out; omega)
        have H1 := Lib.hid h1
        have G1 := Lib.hid ((HB.out).trans ((gn.mono sB).trans (hbX.mono (by omega))))
        have G2 := Lib.hid ((HW2.out).trans ((gn.mono (by have := SZ.out; omega)).trans hbX))
        have s4 := hbX.size
        clear h1 h2 h3 hbX hlo2 h1x ho3 gn
        go_wp2
        go_roundw
        case rel => exact ⟨k + 1, by have := HV.out; have := HL.out; omega, by go_num, H1.out, G1.out, G2.out, by omega⟩
        case measure => simp [intOf]; have := HV.out; have := HL.out; omega
      · have HN := Lib.hid (freeV_no hd)
        have HO2 := Lib.hid (show OwnI w2 (w.heap.size + 1) _ (freeV q.t (k + 1)) by rw [HN.out]; exact ho2)
        have HW2 := Lib.hid hbW2
        have HB := Lib.hid hbB
        clear hd ho1 hx1 c0 c1 c2 kR1 hbA hb1 hb2 ho2 hbW2 hbB
        go_wp2
        go_roundw
        case rel => exact ⟨k + 1, by have := HV.out; have := HL.out; omega, by go_num, HO2.out, HB.out, HW2.out, by omega⟩
        case measure => simp [intOf]; have := HV.out; have := HL.out; omega
    · have hkV : k = V := by have := HV.out; omega
      subst hkV
      have HO := Lib.hid ho
      have HB := Lib.hid hb
      clear ho hb
      go_wp2
      go_ret
      exact ⟨_, rfl, (HO.out).rd, HB.out⟩
set_option maxHeartbeats 1600000 in
theorem sinksOf_any (u : Value) (q : Qv) (w : World) (hu : QvR w w.heap.size u q) (hq : isQ q = true) :
    Calls Try.prog 106 #[u] w fun e w' => ∃ v, e = .returned v ∧ SlI w' w'.heap.size v (freeV q.f q.v.toNat) ∧ Below w.heap.size w w' := by
  have hu' := hu
  obtain ⟨A, c, C, d, rfl, hf, hT, hr, lf, lt⟩ := hu.open_
  clear hu
  obtain ⟨hv1, hv2⟩ := (isQ_t.1 hq).1
  have HQ := Lib.hid hq
  obtain ⟨V, hV⟩ : ∃ V : Nat, q.v = (V : Int) := ⟨q.v.toNat, by omega⟩
  have HV := Lib.hid hV
  rw [show q.v.toNat = V by omega]
  have hV5 : V ≤ 5 := by omega
  obtain ⟨W, hW⟩ : ∃ W, W = (w.alloc (.cells #[.int .i64 q.v, .slice A q.f.length c, .slice C q.t.length d] 28)).alloc (.cells #[] 3) := ⟨_, rfl⟩
  have g0 : Below w.heap.size w W := by rw [hW]; exact ((Below.refl _ _).alloc (Nat.le_refl _) _).alloc (by simp) _
  have kB : Blk W w.heap.size 28 #[.int .i64 q.v, .slice A q.f.length c, .slice C q.t.length d] := by rw [hW]; exact (Blk.new _ _ _).alloc _
  have ho : OwnI W (w.heap.size + 1) (.slice (some ⟨w.heap.size + 1, 0, none⟩) 0 0) [] := by
    rw [hW]
    have := OwnI.made (w := w.alloc (.cells #[.int .i64 q.v, .slice A q.f.length c, .slice C q.t.length d] 28)) (base := w.heap.size + 1) 3 rfl (by simp)
    simpa only [World.size_alloc] using this
  have sz : W.heap.size = w.heap.size + 1 + 1 := by rw [hW]; simp
  have HU := Lib.hid hu'
  have HX := Lib.hid hf
  have SZ := Lib.hid sz
  clear hu' hq sz hV
  go_enter Try.func106, Try.ntmps106
  go_wp2
  rw [← hW]; clear hW
  go_loopw [3, 4] (fun out i wr => ∃ k : Nat, k ≤ V ∧ i = .int .i64 k ∧ OwnI wr (w.heap.size + 1) out (freeV q.f k) ∧ Below w.heap.size w wr ∧ Below (w.heap.size + 1) W wr ∧ W.heap.size ≤ wr.heap.size) (fun _ i _ => V - (intOf i).toNat)
  case atStart => exact ⟨0, Nat.zero_le _, rfl, ho, g0, Below.refl _ _, Nat.le_refl _⟩
  case round =>
    clear ho
    obtain ⟨k, hk, rfl, ho, hb, hbW, hs⟩ := hrel
    have sz := SZ.out
    have kR := kB.below hbW (by omega)
    have c0 := kR.cell' (i := 0) rfl
    have c1 := kR.cell' (i := 1) rfl
    have c2 := kR.cell' (i := 2) rfl
    clear sz
    by_cases hlt : (k : Int) < q.v
    · have HL := Lib.hid hlt
      obtain ⟨OA, oc, rfl, _, _⟩ := ho.form
      go_wp2_with fail
      refine (specIsQuiver_any _ q _ (QvR.more hb.size (QvR.below hb HU.out))).mono ?_; rintro e w1 ⟨rfl, hb1⟩
      rw [HQ.out]
      have ho1 := ho.below hb1
      have kR1 := kR.call hb1
      have hbA := hb.trans (hb1.mono hb.size)
      have s1 := hb1.size
      have hx1 := SlI.more hbA.size (SlI.below hbA HX.out)
      have c0 := kR1.cell' (i := 0) rfl
      have c1 := kR1.cell' (i := 1) rfl
      have c2 := kR1.cell' (i := 2) rfl
      clear ho kR
      go_wp2_with fail
      refine (l4Has_any _ _ _ _ hx1).mono ?_; rintro e w2 ⟨rfl, hb2⟩
      have ho2 := ho1.below hb2
      have hbB := hbA.trans (hb2.mono hbA.size)
      have hbW2 := hbW.trans ((hb1.mono (by have := SZ.out; omega)).trans (hb2.mono (by have := SZ.out; omega)))
      have s2 := hb2.size
      have sB := hbB.size
      rcases hd : decide ((k : Int) ∈ q.f) with _ | _
      · have HN := Lib.hid (freeV_yes hd)
        clear hd ho1 hx1 c0 c1 c2 kR1 hbA hb1 hb2
        have HO2 := Lib.hid ho2
        have HW2 := Lib.hid hbW2
        have HB := Lib.hid hbB
        have hlo2 := ho2.lt
        clear ho2 hbW2 hbB
        (go_wp2_with (at_builtin; refine Hold.stop ?_)); unfold Hold
        obtain ⟨X, hX⟩ : ∃ X, X = w2.alloc (.cells #[.int .i64 (k : Int)] 3) := ⟨_, rfl⟩
        have gn : Below w2.heap.size w2 X := by rw [hX]; exact below_alloc _ _
        have h1x : SlI X X.heap.size (.slice (some ⟨w2.heap.size, 0, none⟩) 1 1) [(k : Int)] := by rw [hX]; exact SlI.one _ _ _ (by simp only [I64]; omega)
        have ho3 := (HO2.out).below gn
        have gns := gn.size
        rw [← hX]
        clear hX
        have hfl := freeV_length q.f k
        refine wpList_appI rfl (.tmp 21) (.tmp 23) rfl (w.heap.size + 1) X.heap.size _ _ rfl ho3 _ 1 1 [(k : Int)] rfl rfl h1x (by simp; omega) (by have := SZ.out; omega) ?_
        intro v' w' h1 h2 h3
        rw [← HN.out] at h1
        have hbX := below_grown h2 (B := w.heap.size + 1) (fun k hk => (hlo2 k hk).1) (by have := SZ.out; omega)
        have H1 := Lib.hid h1
        have G1 := Lib.hid ((HB.out).trans ((gn.mono sB).trans (hbX.mono (by omega))))
        have G2 := Lib.hid ((HW2.out).trans ((gn.mono (by have := SZ.out; omega)).trans hbX))
        have s4 := hbX.size
        clear h1 h2 h3 hbX hlo2 h1x ho3 gn
        go_wp2
        go_roundw
        case rel => exact ⟨k + 1, by have := HV.out; have := HL.out; omega, by go_num, H1.out, G1.out, G2.out, by omega⟩
        case measure => simp [intOf]; have := HV.out; have := HL.out; omega
      · have HN := Lib.hid (freeV_no hd)
        have HO2 := Lib.hid (show OwnI w2 (w.heap.size + 1) _ (freeV q.f (k + 1)) by rw [HN.out]; exact ho2)
        have HW2 := Lib.hid hbW2
        have HB := Lib.hid hbB
        clear hd ho1 hx1 c0 c1 c2 kR1 hbA hb1 hb2 ho2 hbW2 hbB
        go_wp2
        go_roundw
        case rel => exact ⟨k + 1, by have := HV.out; have := HL.out; omega, by go_num, HO2.out, HB.out, HW2.out, by omega⟩
        case measure => simp [intOf]; have := HV.out; have := HL.out; omega
    · have hkV : k = V := by have := HV.out; omega
      subst hkV
      have HO := Lib.hid ho
      have HB := Lib.hid hb
      clear ho hb
      go_wp2
      go_ret
      exact ⟨_, rfl, (HO.out).rd, HB.out⟩
end Go.Proofs.Ytcmlflppndfdcaa

/- Matrices of zeros; append of a matrix onto a row of the call's own. -/
namespace Go.Proofs.Ytcmlflppndfdcaa
set_option linter.unusedVariables false
set_option linter.unusedSimpArgs false
open Go.RowKit

def zmx (r c : Int) : Mx := ⟨r, c, List.replicate (r * c).toNat 0⟩

set_option maxHeartbeats 800000 in
theorem zero_any (r c : Int) (w : World) (hr : 0 ≤ r) (hc : 0 ≤ c) (hr2 : r ≤ 1000) (hc2 : c ≤ 1000) :
    Calls Try.prog 113 #[.int .i64 r, .int .i64 c] w fun e w' => ∃ v, e = .returned v ∧ MxO w' w.heap.size w'.heap.size v (zmx r c) ∧ Below w.heap.size w w' := by
  obtain ⟨n, rfl⟩ := Int.eq_ofNat_of_zero_le hr
  obtain ⟨m, rfl⟩ := Int.eq_ofNat_of_zero_le hc
  obtain ⟨N, hN⟩ : ∃ N, n * m = N := ⟨_, rfl⟩
  have hNb : N ≤ 1000000 := by
    have : n * m ≤ 1000 * 1000 := Nat.mul_le_mul (by omega) (by omega)
    omega
  have hmul : (n : Int) * m = (N : Int) := by rw [← hN]; simp
  have hw : wrap64 ((n : Int) * m) = (N : Int) := by rw [hmul]; exact IntWalk.wrap64_in _ ⟨by omega, by omega⟩
  have hZ : zmx n m = ⟨n, m, List.replicate N 0⟩ := by rw [zmx, hmul]; rfl
  rw [hZ]
  obtain ⟨i0, hi, hz0, hz1, hz2⟩ := info_parts infoInt
  have hmk := run_mk (P := Try.prog) Try.underlying22 hi hz0 (n := N) (by rw [hz2]; omega) (by omega)
  rw [hz1] at hmk
  have hN1 : (0 : Int) ≤ (n : Int) * m := by omega
  have hN2 : (n : Int) * m ≤ 1000000 := by omega
  clear hi hz0 hz1 hz2 hN hZ
  obtain ⟨W, hW⟩ : ∃ W, W = (w.alloc (.cells #[.int .i64 n, .int .i64 m, .slice (some ⟨w.heap.size + 1, 0, none⟩) N N] 84)).alloc (.cells (mkCells (.int .i64 0) N) 3) := ⟨_, rfl⟩
  have g0 : Below w.heap.size w W := by rw [hW]; exact ((Below.refl _ _).alloc (Nat.le_refl _) _).alloc (by simp) _
  have k1 : Blk W w.heap.size 84 #[.int .i64 n, .int .i64 m, .slice (some ⟨w.heap.size + 1, 0, none⟩) N N] := by rw [hW]; exact (Blk.new _ _ _).alloc _
  have ho : OwnI W (w.heap.size + 1) (.slice (some ⟨w.heap.size + 1, 0, none⟩) N N) (List.replicate N 0) := by
    rw [hW]
    have := OwnI.made0 (w := w.alloc (.cells #[.int .i64 n, .int .i64 m, .slice (some ⟨w.heap.size + 1, 0, none⟩) N N] 84)) (base := w.heap.size + 1) (N := N) (by simp) (by omega)
    simpa only [World.size_alloc] using this
  have r0 := k1.cell' (i := 0) rfl
  have r1 := k1.cell' (i := 1) rfl
  have r2 := k1.cell' (i := 2) rfl
  have HO := Lib.hid ho
  clear ho k1
  rw [Nat.mul_one] at hmk
  go_enter Try.func113, Try.ntmps113
  go_wp2
  rw [← hW]
  exact bodyPost_ret (v := .agg #[.int .i64 n, .int .i64 m, .slice (some ⟨w.heap.size + 1, 0, none⟩) N N]) (by simp [results, go_sem, r0, r1, r2]) rfl ⟨_, rfl, ⟨_, by simp, (IntsO.of_own HO.out).wider (by omega) (Nat.le_refl _), by simp only [I64]; omega, by simp only [I64]; omega⟩, g0⟩
set_option maxHeartbeats 800000 in
theorem l3Zero_any (r c : Int) (w : World) (hr : 0 ≤ r) (hc : 0 ≤ c) (hr2 : r ≤ 1000) (hc2 : c ≤ 1000) :
    Calls Try.prog 92 #[.int .i64 r, .int .i64 c] w fun e w' => ∃ v, e = .returned v ∧ MxO w' w.heap.size w'.heap.size v (zmx r c) ∧ Below w.heap.size w w' := by
  obtain ⟨n, rfl⟩ := Int.eq_ofNat_of_zero_le hr
  obtain ⟨m, rfl⟩ := Int.eq_ofNat_of_zero_le hc
  obtain ⟨N, hN⟩ : ∃ N, n * m = N := ⟨_, rfl⟩
  have hNb : N ≤ 1000000 := by
    have : n * m ≤ 1000 * 1000 := Nat.mul_le_mul (by omega) (by omega)
    omega
  have hmul : (n : Int) * m = (N : Int) := by rw [← hN]; simp
  have hw : wrap64 ((n : Int) * m) = (N : Int) := by rw [hmul]; exact IntWalk.wrap64_in _ ⟨by omega, by omega⟩
  have hZ : zmx n m = ⟨n, m, List.replicate N 0⟩ := by rw [zmx, hmul]; rfl
  rw [hZ]
  obtain ⟨i0, hi, hz0, hz1, hz2⟩ := info_parts infoInt
  have hmk := run_mk (P := Try.prog) Try.underlying22 hi hz0 (n := N) (by rw [hz2]; omega) (by omega)
  rw [hz1] at hmk
  have hN1 : (0 : Int) ≤ (n : Int) * m := by omega
  have hN2 : (n : Int) * m ≤ 1000000 := by omega
  clear hi hz0 hz1 hz2 hN hZ
  obtain ⟨W, hW⟩ : ∃ W, W = (w.alloc (.cells #[.int .i64 n, .int .i64 m, .slice (some ⟨w.heap.size + 1, 0, none⟩) N N] 84)).alloc (.cells (mkCells (.int .i64 0) N) 3) := ⟨_, rfl⟩
  have g0 : Below w.heap.size w W := by rw [hW]; exact ((Below.refl _ _).alloc (Nat.le_refl _) _).alloc (by simp) _
  have k1 : Blk W w.heap.size 84 #[.int .i64 n, .int .i64 m, .slice (some ⟨w.heap.size + 1, 0, none⟩) N N] := by rw [hW]; exact (Blk.new _ _ _).alloc _
  have ho : OwnI W (w.heap.size + 1) (.slice (some ⟨w.heap.size + 1, 0, none⟩) N N) (List.replicate N 0) := by
    rw [hW]
    have := OwnI.made0 (w := w.alloc (.cells #[.int .i64 n, .int .i64 m, .slice (some ⟨w.heap.size + 1, 0, none⟩) N N] 84)) (base := w.heap.size + 1) (N := N) (by simp) (by omega)
    simpa only [World.size_alloc] using this
  have r0 := k1.cell' (i := 0) rfl
  have r1 := k1.cell' (i := 1) rfl
  have r2 := k1.cell' (i := 2) rfl
  have HO := Lib.hid ho
  clear ho k1
  rw [Nat.mul_one] at hmk
  go_enter Try.func92, Try.ntmps92
  go_wp2
  rw [← hW]
  exact bodyPost_ret (v := .agg #[.int .i64 n, .int .i64 m, .slice (some ⟨w.heap.size + 1, 0, none⟩) N N]) (by simp [results, go_sem, r0, r1, r2]) rfl ⟨_, rfl, ⟨_, by simp, (IntsO.of_own HO.out).wider (by omega) (Nat.le_refl _), by simp only [I64]; omega, by simp only [I64]; omega⟩, g0⟩

/-! ### an append onto a row of elements T: what it leaves alone -/
structure AppT (T : TypeId) (lo : Nat) (w w' : World) : Prop where
  os : w'.os = w.os
  tape : w'.tape = w.tape
  output : w'.output = w.output
  size : w.heap.size ≤ w'.heap.size
  low : ∀ k, k < lo → k < w.heap.size → w'.heap[k]? = w.heap[k]?
  other : ∀ g t cs, t ≠ T → Blk w g t cs → Blk w' g t cs
theorem AppT.of_below {T : TypeId} {lo : Nat} {w w' : World} (h : Below w.heap.size w w') : AppT T lo w w' := ⟨h.os, h.tape, h.output, h.size, fun k _ hk => h.block k hk, fun _ _ _ _ hb => hb.call h⟩
theorem AppT.trans {T : TypeId} {lo : Nat} {a b c : World} (h : AppT T lo a b) (k : AppT T lo b c) : AppT T lo a c :=
  ⟨k.os.trans h.os, k.tape.trans h.tape, k.output.trans h.output, Nat.le_trans h.size k.size, fun i hi hs => (k.low i hi (Nat.lt_of_lt_of_le hs h.size)).trans (h.low i hi hs), fun g t cs ht hb => k.other g t cs ht (h.other g t cs ht hb)⟩
theorem AppT.below {T : TypeId} {lo B : Nat} {w w' : World} (h : AppT T lo w w') (hB : B ≤ lo) (hs : B ≤ w.heap.size) : Below B w w' := ⟨h.os, h.tape, h.output, h.size, fun k hk => h.low k (by omega) (by omega)⟩
theorem OwnI.appT {T : TypeId} {lo base : Nat} {w w' : World} {v : Value} {l : List Int} (h : OwnI w base v l) (hT : 3 ≠ T) (ha : AppT T lo w w') : OwnI w' base v l := by
  refine ⟨⟨h.1.1, ?_⟩, h.2⟩
  rcases h.1.2 with h1 | ⟨g, cap, cur, e, hg, hh, rest⟩
  · exact .inl h1
  · exact .inr ⟨g, cap, cur, e, hg, ha.other g _ cur hT hh, rest⟩
theorem IntsO.appT {T : TypeId} {lo l1 h1 : Nat} {w w' : World} {v : Value} {l : List Int} (h : IntsO w l1 h1 v l) (hT : 3 ≠ T) (ha : AppT T lo w w') : IntsO w' l1 h1 v l := ⟨h.1.appT hT ha, h.2⟩
theorem Fam.appT {T : TypeId} {lo l1 h1 : Nat} {w w' : World} {L : List (Value × List Int)} (h : Fam w l1 h1 L) (hT : 3 ≠ T) (ha : AppT T lo w w') : Fam w' l1 h1 L := ⟨fun p hp => (h.1 p hp).appT hT ha, h.2⟩
theorem AppT.set {T T' : TypeId} {lo g i : Nat} {w : World} {cs : Array Value} {u : Value} (hb : Blk w g T' cs) (hT : T' = T) (hg : lo ≤ g) : AppT T lo w (w.setCell ⟨g, i, none⟩ u) := by
  subst hT
  refine ⟨rfl, rfl, rfl, by simp [World.setCell], fun k hk _ => Below.heap_setCell _ _ _ _ (by simp; omega), fun g' t cs' ht hb' => ?_⟩
  refine hb'.far ?_ u
  rintro rfl
  unfold Blk at hb hb'
  rw [hb] at hb'
  injection hb' with hb'
  injection hb' with _ hb'
  exact ht hb'.symm

/-- append of one matrix, out of the row of one element that Go lays first -/
theorem wpList_appM {w : World} {ops : Array Oper} {rest : List Oper} {o : Oper} {a : Act} {Q : Exit → Act → World → Prop} (hgd : o.guard = none) (s x : Operand)
    (ho : o.op = .call { callee := .builtin .append, args := #[s, x], argTypes := #[29, 29] })
    (lo hi : Nat) (v : Value) (vs : List Value) (ms : List Mx) (hs : a.eval s = v) (hown : OutM w lo hi v vs ms) (hl : vs.length = ms.length) (g c : Nat) (m : Mx) (u : Value) (hx : a.eval x = .slice (some ⟨g, 0, none⟩) 1 c) (hg : Blk w g 84 #[.int .i64 m.r, .int .i64 m.c, u]) (hu : u.oneCell' = true)
    (hn : ms.length ≤ 1000000) (hlo : lo ≤ w.heap.size)
    (h : ∀ v' w', OutM w' lo w'.heap.size v' (vs ++ [u]) (ms ++ [m]) → AppT 84 lo w w' → wpList Try.prog ops Q rest (a.put o.dst v') w') : wpList Try.prog ops Q (o :: rest) a w := by
  obtain ⟨i0, hi', hz0, hz1, hz2⟩ := info_parts infoMx
  have hcs := mxCs_snoc vs ms u m hl
  refine wpList_append_G w hgd s x _ ho lo 84 i0 _ 3 40 Try.underlying29 hi' hz0 hz1 hz2 rfl (by decide) v ms.length _ hs hown.1 _ 1 c [.int .i64 m.r, .int .i64 m.c, u] hx ⟨rfl, .inr ⟨g, 0, rfl, fun j y hj => ?_⟩⟩ ?_ (by simp only [maxLen]; omega) (by omega) hlo fun v' w' h1 h2 h3 => ?_
  · have hj3 := lt_of_some hj
    simp only [List.length_cons, List.length_nil] at hj3
    rw [Nat.zero_add]
    match j, hj with
    | 0, hj => rw [hg.cell]; exact hj
    | 1, hj => rw [hg.cell]; exact hj
    | 2, hj => rw [hg.cell]; exact hj
    | j + 3, hj => omega
  · intro y hy
    simp only [List.mem_cons, List.not_mem_nil, or_false] at hy
    rcases hy with rfl | rfl | rfl
    · rfl
    · rfl
    · exact hu
  · refine h v' w' ⟨?_, fun k hk => ?_, by simp; omega⟩ ⟨h2.os, h2.tape, h2.output, h2.size, fun k hk hks => h2.block k hks (fun e => ?_), fun g' t cs ht hb => hb.grown h2 (fun e => ?_)⟩
    · rw [hcs, List.length_append]
      exact h1
    · exact (h1.lt k hk).2
    · have := (hown.1.lt k e.symm).1
      omega
    · rcases hown.1.2 with ⟨rfl, _⟩ | ⟨g2, cap, cur, rfl, _, hh, _⟩
      · simp [Value.ownBlock] at e
      · have : g' = g2 := by simpa [Value.ownBlock] using e
        subst this
        unfold Blk at hb
        rw [hh] at hb
        injection hb with hb
        injection hb with _ hb
        exact ht hb.symm
end Go.Proofs.Ytcmlflppndfdcaa

/- Matrices told by a function of the two places: cells in one row. -/
namespace Go.Proofs.Ytcmlflppndfdcaa
set_option linter.unusedVariables false
set_option linter.unusedSimpArgs false
open Go.RowKit

theorem ix_div {i k c : Nat} (hk : k < c) : (i * c + k) / c = i := by
  rw [Nat.mul_comm, Nat.mul_add_div (by omega), Nat.div_eq_of_lt hk, Nat.add_zero]
theorem ix_mod {i k c : Nat} (hk : k < c) : (i * c + k) % c = k := by
  rw [Nat.mul_comm, Nat.mul_add_mod, Nat.mod_eq_of_lt hk]
theorem ix_lt {i k r c : Nat} (hi : i < r) (hk : k < c) : i * c + k < r * c := by
  have : (i + 1) * c ≤ r * c := Nat.mul_le_mul_right _ hi
  rw [Nat.add_mul] at this
  omega
theorem ix_of {j r c : Nat} (hj : j < r * c) : ∃ i k, i < r ∧ k < c ∧ j = i * c + k := by
  have hc : 0 < c := Nat.pos_of_ne_zero (by rintro rfl; simp at hj)
  refine ⟨j / c, j % c, (Nat.div_lt_iff_lt_mul hc).2 hj, Nat.mod_lt _ hc, ?_⟩
  rw [Nat.mul_comm]; exact (Nat.div_add_mod j c).symm
theorem ix_inj {i k i' k' c : Nat} (hk : k < c) (hk' : k' < c) (h : i * c + k = i' * c + k') : i = i' ∧ k = k' := by
  have h1 := ix_div (i := i) hk
  have h2 := ix_mod (i := i) hk
  rw [h, ix_div hk'] at h1
  rw [h, ix_mod hk'] at h2
  exact ⟨h1.symm, h2.symm⟩

def flat (r c : Nat) (f : Nat → Nat → Int) : List Int := (List.range (r * c)).map fun j => f (j / c) (j % c)
theorem flat_length (r c : Nat) (f : Nat → Nat → Int) : (flat r c f).length = r * c := by simp [flat]
theorem flat_get {r c i k : Nat} (f : Nat → Nat → Int) (hi : i < r) (hk : k < c) : (flat r c f)[i * c + k]? = some (f i k) := by
  simp [flat, ix_lt hi hk, ix_div hk, ix_mod hk]
theorem flat_getD {r c i k : Nat} (f : Nat → Nat → Int) (hi : i < r) (hk : k < c) : (flat r c f).getD (i * c + k) 0 = f i k := by
  rw [List.getD_eq_getElem?_getD, flat_get f hi hk]; rfl
theorem flat_ext {r c : Nat} {l : List Int} {f : Nat → Nat → Int} (hl : l.length = r * c) (h : ∀ i k, i < r → k < c → l[i * c + k]? = some (f i k)) : l = flat r c f := by
  apply List.ext_getElem?
  intro j
  by_cases hj : j < r * c
  · obtain ⟨i, k, hi, hk, rfl⟩ := ix_of hj
    rw [h i k hi hk, flat_get f hi hk]
  · rw [List.getElem?_eq_none (by omega), List.getElem?_eq_none (by rw [flat_length]; omega)]
theorem flat_congr {r c : Nat} {f g : Nat → Nat → Int} (h : ∀ a b, a < r → b < c → f a b = g a b) : flat r c f = flat r c g :=
  flat_ext (flat_length _ _ _) fun i k hi hk => by rw [flat_get f hi hk, h i k hi hk]
theorem flat_inj {r c : Nat} {f g : Nat → Nat → Int} (h : flat r c f = flat r c g) {a b : Nat} (ha : a < r) (hb : b < c) : f a b = g a b := by
  have := flat_get f ha hb
  rw [h, flat_get g ha hb] at this
  injection this with this
  exact this.symm
theorem flat_set {r c i k : Nat} (f : Nat → Nat → Int) (x : Int) (hi : i < r) (hk : k < c) : (flat r c f).set (i * c + k) x = flat r c fun a b => if a = i ∧ b = k then x else f a b := by
  refine flat_ext (by simp [flat_length]) fun a b ha hb => ?_
  rw [List.getElem?_set]
  by_cases e : i * c + k = a * c + b
  · obtain ⟨rfl, rfl⟩ := ix_inj hk hb e
    rw [if_pos rfl, if_pos (by rw [flat_length]; exact ix_lt hi hk), if_pos ⟨rfl, rfl⟩]
  · rw [if_neg e, flat_get f ha hb, if_neg]
    rintro ⟨rfl, rfl⟩
    exact e rfl
theorem flat_zero (r c : Nat) : flat r c (fun _ _ => 0) = List.replicate (r * c) 0 := by
  refine (flat_ext (by simp) fun i k hi hk => ?_).symm
  have := ix_lt hi hk
  simp [this]
theorem flat_mem {r c : Nat} {f : Nat → Nat → Int} {x : Int} (h : x ∈ flat r c f) : ∃ i k, i < r ∧ k < c ∧ x = f i k := by
  simp only [flat, List.mem_map, List.mem_range] at h
  obtain ⟨j, hj, rfl⟩ := h
  obtain ⟨i, k, hi, hk, rfl⟩ := ix_of hj
  exact ⟨i, k, hi, hk, by rw [ix_div hk, ix_mod hk]⟩
/-- a list of so many numbers is told by its entries -/
def entry (l : List Int) (c i k : Nat) : Int := l.getD (i * c + k) 0
theorem flat_of {l : List Int} {r c : Nat} (hl : l.length = r * c) : l = flat r c (entry l c) :=
  flat_ext hl fun i k hi hk => by
    have := ix_lt hi hk
    rw [entry, List.getD_eq_getElem?_getD, List.getElem?_eq_getElem (by omega)]; rfl

def mxF (r c : Nat) (f : Nat → Nat → Int) : Mx := ⟨r, c, flat r c f⟩
theorem zmx_flat (r c : Nat) : zmx r c = mxF r c fun _ _ => 0 := by
  rw [mxF, flat_zero, zmx]
  congr
theorem mxF_congr {r c : Nat} {f g : Nat → Nat → Int} (h : ∀ a b, a < r → b < c → f a b = g a b) : mxF r c f = mxF r c g := by rw [mxF, mxF, flat_congr h]

/-- what a walk needs of an index -/
theorem ix_walk {i k r c : Nat} (hi : i < r) (hk : k < c) (hr : r ≤ 1000) (hc : c ≤ 1000) :
    ∃ P J : Nat, wrap64 ((i : Int) * (c : Int)) = (P : Int) ∧ P + k = J ∧ J = i * c + k ∧ J < r * c ∧ J ≤ 1000000 := by
  have h1 := ix_lt hi hk
  have h2 : r * c ≤ 1000 * 1000 := Nat.mul_le_mul hr hc
  refine ⟨i * c, i * c + k, ?_, rfl, rfl, h1, by omega⟩
  rw [show ((i : Int) * (c : Int)) = ((i * c : Nat) : Int) by simp]
  exact IntWalk.wrap64_in _ ⟨by omega, by omega⟩
end Go.Proofs.Ytcmlflppndfdcaa

/- Identity matrices: the program's and the reference's. -/
namespace Go.Proofs.Ytcmlflppndfdcaa
set_option linter.unusedVariables false
set_option linter.unusedSimpArgs false
open Go.RowKit

theorem IntsO.at_ {w : World} {lo hi : Nat} {v : Value} {l : List Int} (h : IntsO w lo hi v l) (h0 : 0 < l.length) : ∃ g c, v = .slice (some ⟨g, 0, none⟩) l.length c ∧ lo ≤ g ∧ g < hi ∧ g < w.heap.size := by
  rcases h.1.1.2 with ⟨rfl, h1⟩ | ⟨g, cap, cur, rfl, hg, hh, _⟩
  · omega
  · exact ⟨g, cap, rfl, hg, h.2 g rfl, (Array.getElem?_eq_some_iff.1 hh).1⟩
theorem IntsO.put {w : World} {lo hi g n cap j : Nat} {l : List Int} {x : Int} (h : IntsO w lo hi (.slice (some ⟨g, 0, none⟩) n cap) l) (hx : I64 x) : IntsO (w.setCell ⟨g, j, none⟩ (.int .i64 x)) lo hi (.slice (some ⟨g, 0, none⟩) n cap) (l.set j x) := ⟨(h.1.put hx).1, h.2⟩
def idF (a b : Nat) : Int := if a = b then 1 else 0
def idK (k a b : Nat) : Int := if a = b ∧ a < k then 1 else 0
theorem idK_0 (n : Nat) : flat n n (fun _ _ => 0) = flat n n (idK 0) := flat_congr fun a b _ _ => by simp [idK]
theorem idK_succ {n k : Nat} (h : k < n) : (flat n n (idK k)).set (k * n + k) 1 = flat n n (idK (k + 1)) := by
  rw [flat_set _ _ h h]
  refine flat_congr fun a b _ _ => ?_
  simp only [idK]
  by_cases e : a = b
  · subst e
    by_cases e2 : a = k
    · simp [e2]
    · simp only [e2, true_and, if_false, false_and]
      congr 1
      simp; omega
  · rw [if_neg (by omega), if_neg (by omega), if_neg (by omega)]
theorem idK_n (n : Nat) : flat n n (idK n) = flat n n idF := flat_congr fun a b ha _ => by simp [idK, idF, ha]

end Go.Proofs.Ytcmlflppndfdcaa

/- Arrows at a vertex turned: the program's ReverseAt. -/
namespace Go.Proofs.Ytcmlflppndfdcaa
set_option linter.unusedVariables false
set_option linter.unusedSimpArgs false
open Go.RowKit

/-- whether an arrow touches a vertex -/
def tch (q : Qv) (v : Int) (i : Nat) : Bool := decide (q.f.getD i 0 = v) || decide (q.t.getD i 0 = v)
def rvF (q : Qv) (v : Int) (k i : Nat) : Int := if i < k ∧ tch q v i = true then q.t.getD i 0 else q.f.getD i 0
def rvT (q : Qv) (v : Int) (k i : Nat) : Int := if i < k ∧ tch q v i = true then q.f.getD i 0 else q.t.getD i 0
def rvK (q : Qv) (v : Int) (k : Nat) : Qv := ⟨q.v, rowF q.f.length (rvF q v k), rowF q.f.length (rvT q v k)⟩
def rvQ (q : Qv) (v : Int) : Qv := rvK q v q.f.length
theorem rowF_of (l : List Int) : rowF l.length (fun i => l.getD i 0) = l := by
  apply List.ext_getElem
  · rw [rowF_length]
  · intro i h1 h2
    have := rowF_get (fun i => l.getD i 0) h2
    rw [List.getElem?_eq_getElem h1] at this
    injection this with this
    rw [this, List.getD_eq_getElem?_getD, List.getElem?_eq_getElem h2]; rfl
theorem rvK_0 {q : Qv} (h : q.t.length = q.f.length) (v : Int) : rvK q v 0 = q := by
  have e1 : rowF q.f.length (rvF q v 0) = q.f := by
    conv => rhs; rw [← rowF_of q.f]
    exact rowF_congr fun a _ => by simp [rvF]
  have e2 : rowF q.f.length (rvT q v 0) = q.t := by
    conv => rhs; rw [← rowF_of q.t]
    rw [h]
    exact rowF_congr fun a _ => by simp [rvT]
  rw [rvK, e1, e2]
theorem rvK_yes {q : Qv} {v : Int} {k : Nat} (h : tch q v k = true) : rvK q v (k + 1) = ⟨q.v, (rvK q v k).f.set k (q.t.getD k 0), (rvK q v k).t.set k (q.f.getD k 0)⟩ := by
  simp only [rvK, rowF_set]
  congr 1
  · refine rowF_congr fun a _ => ?_
    by_cases e : a = k
    · subst e; rw [if_pos rfl, rvF, if_pos ⟨by omega, h⟩]
    · rw [if_neg e]; unfold rvF
      by_cases e2 : a < k ∧ tch q v a = true
      · rw [if_pos e2, if_pos ⟨by omega, e2.2⟩]
      · rw [if_neg e2, if_neg fun e3 => e2 ⟨by omega, e3.2⟩]
  · refine rowF_congr fun a _ => ?_
    by_cases e : a = k
    · subst e; rw [if_pos rfl, rvT, if_pos ⟨by omega, h⟩]
    · rw [if_neg e]; unfold rvT
      by_cases e2 : a < k ∧ tch q v a = true
      · rw [if_pos e2, if_pos ⟨by omega, e2.2⟩]
      · rw [if_neg e2, if_neg fun e3 => e2 ⟨by omega, e3.2⟩]
theorem rvK_no {q : Qv} {v : Int} {k : Nat} (h : tch q v k = false) : rvK q v (k + 1) = rvK q v k := by
  simp only [rvK]
  congr 1
  · refine rowF_congr fun a _ => ?_
    unfold rvF
    by_cases e2 : a < k ∧ tch q v a = true
    · rw [if_pos e2, if_pos ⟨by omega, e2.2⟩]
    · rw [if_neg e2, if_neg fun e3 => e2 ⟨Nat.lt_of_le_of_ne (by omega) (by rintro rfl; rw [h] at e3; exact absurd e3.2 (by decide)), e3.2⟩]
  · refine rowF_congr fun a _ => ?_
    unfold rvT
    by_cases e2 : a < k ∧ tch q v a = true
    · rw [if_pos e2, if_pos ⟨by omega, e2.2⟩]
    · rw [if_neg e2, if_neg fun e3 => e2 ⟨Nat.lt_of_le_of_ne (by omega) (by rintro rfl; rw [h] at e3; exact absurd e3.2 (by decide)), e3.2⟩]
theorem tch_of {q : Qv} {v x y : Int} {k : Nat} (hf : q.f[k]? = some x) (ht : q.t[k]? = some y) : tch q v k = (decide (x = v) || decide (y = v)) := by
  simp [tch, List.getD_eq_getElem?_getD, hf, ht]
/-- a number put into the row of the starts, or of the ends -/
theorem QuivO.putF {w : World} {lo hi g n c k : Nat} {x v : Int} {b : Value} {q : Qv} (h : QuivO w lo hi (.agg #[.int .i64 v, .slice (some ⟨g, 0, none⟩) n c, b]) q) (hx : I64 x) :
    QuivO (w.setCell ⟨g, k, none⟩ (.int .i64 x)) lo hi (.agg #[.int .i64 v, .slice (some ⟨g, 0, none⟩) n c, b]) ⟨q.v, q.f.set k x, q.t⟩ ∧ lo ≤ g ∧ g < hi := by
  obtain ⟨a', b', e, hF, hr⟩ := h
  simp only [Value.agg.injEq, Array.mk.injEq, List.cons.injEq, and_true, Value.int.injEq, true_and] at e
  obtain ⟨rfl, rfl, rfl⟩ := e
  have h1 := hF.1 (.slice (some ⟨g, 0, none⟩) n c, q.f) (by simp)
  have hp := h1.1.put (j := k) hx
  have := Fam.turn (L1 := []) (L2 := [(b, q.t)]) (v := .slice (some ⟨g, 0, none⟩) n c) (l := q.f) (l' := q.f.set k x) (by simpa using hF) hp.1 hp.2
  exact ⟨⟨_, _, rfl, by simpa using this, hr⟩, (h1.1.lt g rfl).1, h1.2 g rfl⟩
theorem QuivO.putT {w : World} {lo hi g n c k : Nat} {x v : Int} {a : Value} {q : Qv} (h : QuivO w lo hi (.agg #[.int .i64 v, a, .slice (some ⟨g, 0, none⟩) n c]) q) (hx : I64 x) :
    QuivO (w.setCell ⟨g, k, none⟩ (.int .i64 x)) lo hi (.agg #[.int .i64 v, a, .slice (some ⟨g, 0, none⟩) n c]) ⟨q.v, q.f, q.t.set k x⟩ ∧ lo ≤ g ∧ g < hi := by
  obtain ⟨a', b', e, hF, hr⟩ := h
  simp only [Value.agg.injEq, Array.mk.injEq, List.cons.injEq, and_true, Value.int.injEq, true_and] at e
  obtain ⟨rfl, rfl, rfl⟩ := e
  have h1 := hF.1 (.slice (some ⟨g, 0, none⟩) n c, q.t) (by simp)
  have hp := h1.1.put (j := k) hx
  have := Fam.turn (L1 := [(a, q.f)]) (L2 := []) (v := .slice (some ⟨g, 0, none⟩) n c) (l := q.t) (l' := q.t.set k x) (by simpa using hF) hp.1 hp.2
  exact ⟨⟨_, _, rfl, by simpa using this, hr⟩, (h1.1.lt g rfl).1, h1.2 g rfl⟩
theorem QuivO.cellF {w : World} {lo hi g n c k : Nat} {v : Int} {b : Value} {q : Qv} (h : QuivO w lo hi (.agg #[.int .i64 v, .slice (some ⟨g, 0, none⟩) n c, b]) q) (hk : k < q.f.length) :
    w.cell? ⟨g, k, none⟩ = some (.int .i64 (q.f.getD k 0)) ∧ w.frozen? ⟨g, k, none⟩ = false := by
  obtain ⟨a', b', e, hF, hr⟩ := h
  simp only [Value.agg.injEq, Array.mk.injEq, List.cons.injEq, and_true, Value.int.injEq, true_and] at e
  obtain ⟨rfl, rfl, rfl⟩ := e
  have h1 := hF.1 (.slice (some ⟨g, 0, none⟩) n c, q.f) (by simp)
  exact ⟨(h1.1.cellG hk).1, h1.1.frozenG k⟩
theorem QuivO.cellT {w : World} {lo hi g n c k : Nat} {v : Int} {a : Value} {q : Qv} (h : QuivO w lo hi (.agg #[.int .i64 v, a, .slice (some ⟨g, 0, none⟩) n c]) q) (hk : k < q.t.length) :
    w.cell? ⟨g, k, none⟩ = some (.int .i64 (q.t.getD k 0)) ∧ w.frozen? ⟨g, k, none⟩ = false := by
  obtain ⟨a', b', e, hF, hr⟩ := h
  simp only [Value.agg.injEq, Array.mk.injEq, List.cons.injEq, and_true, Value.int.injEq, true_and] at e
  obtain ⟨rfl, rfl, rfl⟩ := e
  have h1 := hF.1 (.slice (some ⟨g, 0, none⟩) n c, q.t) (by simp)
  exact ⟨(h1.1.cellG hk).1, h1.1.frozenG k⟩
theorem QuivO.addr {w : World} {lo hi n m c d : Nat} {v : Int} {A C : Option Addr} {q : Qv} (h : QuivO w lo hi (.agg #[.int .i64 v, .slice A n c, .slice C m d]) q) (hf : 0 < q.f.length) (ht : 0 < q.t.length) :
    ∃ g g', A = some ⟨g, 0, none⟩ ∧ C = some ⟨g', 0, none⟩ ∧ lo ≤ g ∧ g < hi ∧ lo ≤ g' ∧ g' < hi := by
  obtain ⟨a', b', e, hF, hr⟩ := h
  simp only [Value.agg.injEq, Array.mk.injEq, List.cons.injEq, and_true, Value.int.injEq, true_and] at e
  obtain ⟨rfl, rfl, rfl⟩ := e
  have h1 := hF.1 (.slice A n c, q.f) (by simp)
  have h2 := hF.1 (.slice C m d, q.t) (by simp)
  obtain ⟨g, k, e1, l1, l2, _⟩ := h1.at_ hf
  obtain ⟨g', k', e2, l3, l4, _⟩ := h2.at_ ht
  injection e1 with e1
  injection e2 with e2
  exact ⟨g, g', e1, e2, l1, l2, l3, l4⟩
set_option maxHeartbeats 6400000 in
set_option maxRecDepth 100000 in
theorem implReverseAt_any (u : Value) (q : Qv) (v : Int) (w0 : World) (hu : QvR w0 w0.heap.size u q) (hq : isQ q = true) (hs : endV q.t q v = true ∨ endV q.f q v = true) :
    Calls Try.prog 117 #[u, .int .i64 v] w0 fun e w' => ∃ r, e = .returned (.tuple #[r, .bool true]) ∧ QuivO w' w0.heap.size w'.heap.size r (rvQ q v) ∧ Below w0.heap.size w0 w' := by
  have hu' := hu
  obtain ⟨A, c, C, d, rfl, hf, hT, hr, lf, lt⟩ := hu.open_
  clear hu
  have hlen := (isQ_t.1 hq).2.1
  have hl6 := (isQ_t.1 hq).2.2.1
  obtain ⟨W, hW⟩ : ∃ W, W = (w0.alloc (.cells #[.int .i64 q.v, .slice A q.f.length c, .slice C q.t.length d] 28)).alloc (.cells #[.int .i64 0, .slice none 0 0, .slice none 0 0] 28) := ⟨_, rfl⟩
  have g0 : Below w0.heap.size w0 W := by rw [hW]; exact ((Below.refl _ _).alloc (Nat.le_refl _) _).alloc (by simp) _
  have k1 : Blk W w0.heap.size 28 #[.int .i64 q.v, .slice A q.f.length c, .slice C q.t.length d] := by rw [hW]; exact (Blk.new _ _ _).alloc _
  have k2 : Blk W (w0.heap.size + 1) 28 #[.int .i64 0, .slice none 0 0, .slice none 0 0] := by
    rw [hW]
    have := Blk.new (w0.alloc (.cells #[.int .i64 q.v, .slice A q.f.length c, .slice C q.t.length d] 28)) 28 #[.int .i64 0, .slice none 0 0, .slice none 0 0]
    simpa only [World.size_alloc] using this
  have sz : W.heap.size = w0.heap.size + 1 + 1 := by rw [hW]; simp
  have SZ := Lib.hid sz
  have HQV := Lib.hid (QvR.next g0 hu')
  have HF := Lib.hid (SlI.next g0 hf)
  have HT := Lib.hid (SlI.next g0 hT)
  have HQ := Lib.hid hq
  have HL := Lib.hid hlen
  have c0 := k1.cell' (i := 0) rfl
  have c1 := k1.cell' (i := 1) rfl
  have c2 := k1.cell' (i := 2) rfl
  clear hu' hf hT sz hq hlen
  rcases h1 : endV q.t q v with _ | _
  · have h2 : endV q.f q v = true := by rw [h1] at hs; simpa using hs
    have H1 := Lib.hid h1
    have H2 := Lib.hid h2
    clear h1 h2 hs
    go_enter Try.func117, Try.ntmps117
    go_wp2_with fail
    rw [← hW]; clear hW
    refine (isSource_any _ q v _ HQV.out HQ.out).mono ?_; rintro e wa ⟨rfl, hba⟩
    rw [H1.out]
    have ka := k1.call hba
    clear c0 c1 c2
    have c0 := ka.cell' (i := 0) rfl
    have c1 := ka.cell' (i := 1) rfl
    have c2 := ka.cell' (i := 2) rfl
    clear ka
    go_wp2_with fail
    refine (isSink_any _ q v _ (QvR.next hba HQV.out) HQ.out).mono ?_; rintro e wb ⟨rfl, hbb⟩
    rw [H2.out]
    have GZ := Lib.hid (bthen hba hbb)
    clear hba hbb
    have kz1 := k1.call GZ.out
    clear c0 c1 c2
    have c0 := kz1.cell' (i := 0) rfl
    have c1 := kz1.cell' (i := 1) rfl
    have c2 := kz1.cell' (i := 2) rfl
    clear kz1
    go_wp2_with fail
    refine (qvClone_any _ q _ (QvR.next GZ.out HQV.out)).mono ?_; rintro e w3 ⟨v3, rfl, hC, hb3⟩
    obtain ⟨FA, fc, TA, tc, ev⟩ := hC.form
    subst ev
    obtain ⟨W4, hW4⟩ : ∃ u, w3.alloc (.cells #[.int .i64 q.v, .slice FA q.f.length fc, .slice TA q.t.length tc] 28) = u := ⟨_, rfl⟩
    have ga : Below w3.heap.size w3 W4 := by rw [← hW4]; exact below_alloc _ _
    have kO : Blk W4 w3.heap.size 28 #[.int .i64 q.v, .slice FA q.f.length fc, .slice TA q.t.length tc] := by rw [← hW4]; exact Blk.new _ _ _
    have hC4 : QuivO W4 wb.heap.size w3.heap.size (.agg #[.int .i64 q.v, .slice FA q.f.length fc, .slice TA q.t.length tc]) (rvK q v 0) := by rw [rvK_0 HL.out.symm v]; exact hC.below ga
    have gz4 := bthen hb3 ga
    have gW4 := GZ.out.trans (gz4.mono GZ.out.size)
    have sz4 := GZ.out.size
    have s3 := hb3.size
    have lO := kO.lt
    have k14 := k1.call gW4
    have c1' := k14.cell' (i := 1) rfl
    clear c0 c1 c2 hC ga hb3
    go_wp2
    clear hW4 c1' k14
    go_loopw [24] (fun i wr => ∃ k : Nat, k ≤ q.f.length ∧ i = .int .i64 k ∧ Below W.heap.size W wr ∧ Blk wr w3.heap.size 28 #[.int .i64 q.v, .slice FA q.f.length fc, .slice TA q.t.length tc] ∧ QuivO wr wb.heap.size w3.heap.size (.agg #[.int .i64 q.v, .slice FA q.f.length fc, .slice TA q.t.length tc]) (rvK q v k) ∧ w3.heap.size ≤ wr.heap.size) (fun i _ => q.f.length - (intOf i).toNat)
    case atStart => exact ⟨0, Nat.zero_le _, rfl, gW4, kO, hC4, by omega⟩
    case round =>
      clear gW4 kO hC4
      obtain ⟨k, hk, rfl, gW, hB, hO, hs⟩ := hrel
      by_cases hlt : k < q.f.length
      · have hlt2 : k < q.t.length := by have := HL.out; omega
        obtain ⟨bf, of_, xf, eA, hbf, HXF, f1, rf⟩ := SlI.at_ HF.out hlt
        obtain ⟨bt, ot, xt, eC, hbt, HXT, t1, rt⟩ := SlI.at_ HT.out hlt2
        subst eA eC
        have f1' := bcell gW hbf f1
        have t1' := bcell gW hbt t1
        have HT0 := Lib.hid (tch_of (v := v) HXF.out HXT.out)
        have kB := k1.call gW
        have c1 := kB.cell' (i := 1) rfl
        have c2 := kB.cell' (i := 2) rfl
        have o1 := hB.cell' (i := 1) rfl
        have o2 := hB.cell' (i := 2) rfl
        obtain ⟨gF, gT, eF, eT, l1, l2, l3, l4⟩ := hO.addr (by simp only [rvK, rowF_length]; omega) (by simp only [rvK, rowF_length]; omega)
        subst eF eT
        have hyes : tch q v k = true → ∃ Y, Y = (wr.setCell ⟨gF, k, none⟩ (.int .i64 xt)).setCell ⟨gT, k, none⟩ (.int .i64 xf) ∧ QuivO Y wb.heap.size w3.heap.size (.agg #[.int .i64 q.v, .slice (some ⟨gF, 0, none⟩) q.f.length fc, .slice (some ⟨gT, 0, none⟩) q.t.length tc]) (rvK q v (k + 1)) ∧ Chg wb.heap.size w3.heap.size wr Y ∧ (∃ u, wr.cell? ⟨gF, k, none⟩ = some u) ∧ wr.frozen? ⟨gF, k, none⟩ = false ∧ (∃ u, (wr.setCell ⟨gF, k, none⟩ (.int .i64 xt)).cell? ⟨gT, k, none⟩ = some u) ∧ (wr.setCell ⟨gF, k, none⟩ (.int .i64 xt)).frozen? ⟨gT, k, none⟩ = false := by
          intro ht
          have p1 := hO.putF (k := k) (x := xt) rt
          have p2 := p1.1.putT (k := k) (x := xf) rf
          have z1 := hO.cellF (k := k) (by simp only [rvK, rowF_length]; omega)
          have z2 := p1.1.cellT (k := k) (by simp only [rvK, rowF_length]; omega)
          refine ⟨_, rfl, ?_, ?_, ⟨_, z1.1⟩, z1.2, ⟨_, z2.1⟩, z2.2⟩
          · rw [rvK_yes ht]
            have e1 : q.t.getD k 0 = xt := by rw [List.getD_eq_getElem?_getD, HXT.out]; rfl
            have e2 : q.f.getD k 0 = xf := by rw [List.getD_eq_getElem?_getD, HXF.out]; rfl
            rw [e1, e2]
            exact p2.1
          · exact (chg_set l1 l2).trans (chg_set l3 l4)
        have HYES := Lib.hid hyes
        have HNO := Lib.hid (fun h : tch q v k = false => rvK_no (q := q) (v := v) h)
        have HO := Lib.hid hO
        have HB := Lib.hid hB
        have GW := Lib.hid gW
        have gws := gW.size
        clear f1 t1 hyes hO hB gW kB HXF HXT
        have hne1 : gF ≠ w3.heap.size := by omega
        have hne2 : gT ≠ w3.heap.size := by omega
        by_cases h1 : xf = v
        · have hd : (xf == v) = true := by rw [h1]; exact beq_self_eq_true v
          have htc : tch q v k = true := by rw [HT0.out, h1]; simp
          obtain ⟨Y, eY, hOY, hcY, ⟨u1, z1⟩, z2, ⟨u2, z3⟩, z4⟩ := HYES.out htc
          have HOY := Lib.hid hOY
          have HCY := Lib.hid hcY
          have hmo : Try.prog.follows .mixedOrders = true := by kernel_rfl
          clear HT0 HYES HNO hOY hcY h1 htc
          go_wp2_with fail
          go_region_o
          rw [← eY]
          have HOY2 := Lib.hid (HOY.out.below (drew_below _))
          have HCY2 := Lib.hid (HCY.out.trans (Chg.of_below (drew_below _)))
          have hsY := HCY2.out.size
          have HBY := Lib.hid (HB.out.chg HCY2.out (.inr (Nat.le_refl _)))
          have GWY := Lib.hid (GW.out.trans (HCY2.out.below (B := W.heap.size) (by omega) (by omega)))
          clear eY z1 z2 z3 z4 c1 c2 o1 o2 f1' t1'
          go_wp2
          go_roundw
          case rel => exact ⟨k + 1, by omega, by go_num, GWY.out, HBY.out, HOY2.out, by omega⟩
          case measure => simp [intOf]; omega
        · have hd : (xf == v) = false := by rw [beq_eq_false_iff_ne]; exact h1
          by_cases h2 : xt = v
          · have hd2 : (xt == v) = true := by rw [h2]; exact beq_self_eq_true v
            have htc : tch q v k = true := by rw [HT0.out, h2]; simp
            obtain ⟨Y, eY, hOY, hcY, ⟨u1, z1⟩, z2, ⟨u2, z3⟩, z4⟩ := HYES.out htc
            have HOY := Lib.hid hOY
            have HCY := Lib.hid hcY
            have hmo : Try.prog.follows .mixedOrders = true := by kernel_rfl
            clear HT0 HYES HNO hOY hcY h1 h2 htc
            go_wp2_with fail
            go_region_o
            rw [← eY]
            have HOY2 := Lib.hid (HOY.out.below (drew_below _))
            have HCY2 := Lib.hid (HCY.out.trans (Chg.of_below (drew_below _)))
            have hsY := HCY2.out.size
            have HBY := Lib.hid (HB.out.chg HCY2.out (.inr (Nat.le_refl _)))
            have GWY := Lib.hid (GW.out.trans (HCY2.out.below (B := W.heap.size) (by omega) (by omega)))
            clear eY z1 z2 z3 z4 c1 c2 o1 o2 f1' t1'
            go_wp2
            go_roundw
            case rel => exact ⟨k + 1, by omega, by go_num, GWY.out, HBY.out, HOY2.out, by omega⟩
            case measure => simp [intOf]; omega
          · have hd2 : (xt == v) = false := by rw [beq_eq_false_iff_ne]; exact h2
            have HN := Lib.hid (HNO.out (by rw [HT0.out]; simp [h1, h2]))
            clear HT0 HYES HNO h1 h2
            go_wp2
            go_roundw
            case rel => exact ⟨k + 1, by omega, by go_num, GW.out, HB.out, by rw [HN.out]; exact HO.out, hs⟩
            case measure => simp [intOf]; omega
      · obtain rfl : k = q.f.length := by omega
        have gf := g0.trans (gW.mono g0.size)
        have kz := k2.call gW
        have fr := kz.frozen
        have s0 := kz.cell' (i := 0) rfl
        have s1 := kz.cell' (i := 1) rfl
        have s2 := kz.cell' (i := 2) rfl
        have r0 := hB.cell' (i := 0) rfl
        have r1 := hB.cell' (i := 1) rfl
        have r2 := hB.cell' (i := 2) rfl
        have sz := SZ.out
        have hc := chg3 wr (w0.heap.size + 1) (.int .i64 q.v) (.slice FA q.f.length fc) (.slice TA q.t.length tc)
        have OF := Lib.hid ((hO.chg hc (.inr (by omega))).wider (lo' := w0.heap.size) (hi' := wr.heap.size) (by omega) (by omega))
        have GF := Lib.hid (gf.trans (hc.below (by omega) gf.size))
        clear hO hB kz gf hc
        go_wp2
        exact bodyPost_ret (v := .tuple #[.agg #[.int .i64 q.v, .slice FA q.f.length fc, .slice TA q.t.length tc], .bool true]) (by simp [results, go_sem, s0, s1, s2]) rfl ⟨_, rfl, by have := OF.out.wider (Nat.le_refl _) (Nat.le_refl _); simpa [rvQ] using this, GF.out⟩
  · have H1 := Lib.hid h1
    clear h1 hs
    go_enter Try.func117, Try.ntmps117
    go_wp2_with fail
    rw [← hW]; clear hW
    refine (isSource_any _ q v _ HQV.out HQ.out).mono ?_; rintro e wa ⟨rfl, hba⟩
    rw [H1.out]
    have GZ := Lib.hid hba
    clear hba
    have kz1 := k1.call GZ.out
    clear c0 c1 c2
    have c0 := kz1.cell' (i := 0) rfl
    have c1 := kz1.cell' (i := 1) rfl
    have c2 := kz1.cell' (i := 2) rfl
    clear kz1
    go_wp2_with fail
    refine (qvClone_any _ q _ (QvR.next GZ.out HQV.out)).mono ?_; rintro e w3 ⟨v3, rfl, hC, hb3⟩
    obtain ⟨FA, fc, TA, tc, ev⟩ := hC.form
    subst ev
    obtain ⟨W4, hW4⟩ : ∃ u, w3.alloc (.cells #[.int .i64 q.v, .slice FA q.f.length fc, .slice TA q.t.length tc] 28) = u := ⟨_, rfl⟩
    have ga : Below w3.heap.size w3 W4 := by rw [← hW4]; exact below_alloc _ _
    have kO : Blk W4 w3.heap.size 28 #[.int .i64 q.v, .slice FA q.f.length fc, .slice TA q.t.length tc] := by rw [← hW4]; exact Blk.new _ _ _
    have hC4 : QuivO W4 wa.heap.size w3.heap.size (.agg #[.int .i64 q.v, .slice FA q.f.length fc, .slice TA q.t.length tc]) (rvK q v 0) := by rw [rvK_0 HL.out.symm v]; exact hC.below ga
    have gz4 := bthen hb3 ga
    have gW4 := GZ.out.trans (gz4.mono GZ.out.size)
    have sz4 := GZ.out.size
    have s3 := hb3.size
    have lO := kO.lt
    have k14 := k1.call gW4
    have c1' := k14.cell' (i := 1) rfl
    clear c0 c1 c2 hC ga hb3
    go_wp2
    clear hW4 c1' k14
    go_loopw [24] (fun i wr => ∃ k : Nat, k ≤ q.f.length ∧ i = .int .i64 k ∧ Below W.heap.size W wr ∧ Blk wr w3.heap.size 28 #[.int .i64 q.v, .slice FA q.f.length fc, .slice TA q.t.length tc] ∧ QuivO wr wa.heap.size w3.heap.size (.agg #[.int .i64 q.v, .slice FA q.f.length fc, .slice TA q.t.length tc]) (rvK q v k) ∧ w3.heap.size ≤ wr.heap.size) (fun i _ => q.f.length - (intOf i).toNat)
    case atStart => exact ⟨0, Nat.zero_le _, rfl, gW4, kO, hC4, by omega⟩
    case round =>
      clear gW4 kO hC4
      obtain ⟨k, hk, rfl, gW, hB, hO, hs⟩ := hrel
      by_cases hlt : k < q.f.length
      · have hlt2 : k < q.t.length := by have := HL.out; omega
        obtain ⟨bf, of_, xf, eA, hbf, HXF, f1, rf⟩ := SlI.at_ HF.out hlt
        obtain ⟨bt, ot, xt, eC, hbt, HXT, t1, rt⟩ := SlI.at_ HT.out hlt2
        subst eA eC
        have f1' := bcell gW hbf f1
        have t1' := bcell gW hbt t1
        have HT0 := Lib.hid (tch_of (v := v) HXF.out HXT.out)
        have kB := k1.call gW
        have c1 := kB.cell' (i := 1) rfl
        have c2 := kB.cell' (i := 2) rfl
        have o1 := hB.cell' (i := 1) rfl
        have o2 := hB.cell' (i := 2) rfl
        obtain ⟨gF, gT, eF, eT, l1, l2, l3, l4⟩ := hO.addr (by simp only [rvK, rowF_length]; omega) (by simp only [rvK, rowF_length]; omega)
        subst eF eT
        have hyes : tch q v k = true → ∃ Y, Y = (wr.setCell ⟨gF, k, none⟩ (.int .i64 xt)).setCell ⟨gT, k, none⟩ (.int .i64 xf) ∧ QuivO Y wa.heap.size w3.heap.size (.agg #[.int .i64 q.v, .slice (some ⟨gF, 0, none⟩) q.f.length fc, .slice (some ⟨gT, 0, none⟩) q.t.length tc]) (rvK q v (k + 1)) ∧ Chg wa.heap.size w3.heap.size wr Y ∧ (∃ u, wr.cell? ⟨gF, k, none⟩ = some u) ∧ wr.frozen? ⟨gF, k, none⟩ = false ∧ (∃ u, (wr.setCell ⟨gF, k, none⟩ (.int .i64 xt)).cell? ⟨gT, k, none⟩ = some u) ∧ (wr.setCell ⟨gF, k, none⟩ (.int .i64 xt)).frozen? ⟨gT, k, none⟩ = false := by
          intro ht
          have p1 := hO.putF (k := k) (x := xt) rt
          have p2 := p1.1.putT (k := k) (x := xf) rf
          have z1 := hO.cellF (k := k) (by simp only [rvK, rowF_length]; omega)
          have z2 := p1.1.cellT (k := k) (by simp only [rvK, rowF_length]; omega)
          refine ⟨_, rfl, ?_, ?_, ⟨_, z1.1⟩, z1.2, ⟨_, z2.1⟩, z2.2⟩
          · rw [rvK_yes ht]
            have e1 : q.t.getD k 0 = xt := by rw [List.getD_eq_getElem?_getD, HXT.out]; rfl
            have e2 : q.f.getD k 0 = xf := by rw [List.getD_eq_getElem?_getD, HXF.out]; rfl
            rw [e1, e2]
            exact p2.1
          · exact (chg_set l1 l2).trans (chg_set l3 l4)
        have HYES := Lib.hid hyes
        have HNO := Lib.hid (fun h : tch q v k = false => rvK_no (q := q) (v := v) h)
        have HO := Lib.hid hO
        have HB := Lib.hid hB
        have GW := Lib.hid gW
        have gws := gW.size
        clear f1 t1 hyes hO hB gW kB HXF HXT
        have hne1 : gF ≠ w3.heap.size := by omega
        have hne2 : gT ≠ w3.heap.size := by omega
        by_cases h1 : xf = v
        · have hd : (xf == v) = true := by rw [h1]; exact beq_self_eq_true v
          have htc : tch q v k = true := by rw [HT0.out, h1]; simp
          obtain ⟨Y, eY, hOY, hcY, ⟨u1, z1⟩, z2, ⟨u2, z3⟩, z4⟩ := HYES.out htc
          have HOY := Lib.hid hOY
          have HCY := Lib.hid hcY
          have hmo : Try.prog.follows .mixedOrders = true := by kernel_rfl
          clear HT0 HYES HNO hOY hcY h1 htc
          go_wp2_with fail
          go_region_o
          rw [← eY]
          have HOY2 := Lib.hid (HOY.out.below (drew_below _))
          have HCY2 := Lib.hid (HCY.out.trans (Chg.of_below (drew_below _)))
          have hsY := HCY2.out.size
          have HBY := Lib.hid (HB.out.chg HCY2.out (.inr (Nat.le_refl _)))
          have GWY := Lib.hid (GW.out.trans (HCY2.out.below (B := W.heap.size) (by omega) (by omega)))
          clear eY z1 z2 z3 z4 c1 c2 o1 o2 f1' t1'
          go_wp2
          go_roundw
          case rel => exact ⟨k + 1, by omega, by go_num, GWY.out, HBY.out, HOY2.out, by omega⟩
          case measure => simp [intOf]; omega
        · have hd : (xf == v) = false := by rw [beq_eq_false_iff_ne]; exact h1
          by_cases h2 : xt = v
          · have hd2 : (xt == v) = true := by rw [h2]; exact beq_self_eq_true v
            have htc : tch q v k = true := by rw [HT0.out, h2]; simp
            obtain ⟨Y, eY, hOY, hcY, ⟨u1, z1⟩, z2, ⟨u2, z3⟩, z4⟩ := HYES.out htc
            have HOY := Lib.hid hOY
            have HCY := Lib.hid hcY
            have hmo : Try.prog.follows .mixedOrders = true := by kernel_rfl
            clear HT0 HYES HNO hOY hcY h1 h2 htc
            go_wp2_with fail
            go_region_o
            rw [← eY]
            have HOY2 := Lib.hid (HOY.out.below (drew_below _))
            have HCY2 := Lib.hid (HCY.out.trans (Chg.of_below (drew_below _)))
            have hsY := HCY2.out.size
            have HBY := Lib.hid (HB.out.chg HCY2.out (.inr (Nat.le_refl _)))
            have GWY := Lib.hid (GW.out.trans (HCY2.out.below (B := W.heap.size) (by omega) (by omega)))
            clear eY z1 z2 z3 z4 c1 c2 o1 o2 f1' t1'
            go_wp2
            go_roundw
            case rel => exact ⟨k + 1, by omega, by go_num, GWY.out, HBY.out, HOY2.out, by omega⟩
            case measure => simp [intOf]; omega
          · have hd2 : (xt == v) = false := by rw [beq_eq_false_iff_ne]; exact h2
            have HN := Lib.hid (HNO.out (by rw [HT0.out]; simp [h1, h2]))
            clear HT0 HYES HNO h1 h2
            go_wp2
            go_roundw
            case rel => exact ⟨k + 1, by omega, by go_num, GW.out, HB.out, by rw [HN.out]; exact HO.out, hs⟩
            case measure => simp [intOf]; omega
      · obtain rfl : k = q.f.length := by omega
        have gf := g0.trans (gW.mono g0.size)
        have kz := k2.call gW
        have fr := kz.frozen
        have s0 := kz.cell' (i := 0) rfl
        have s1 := kz.cell' (i := 1) rfl
        have s2 := kz.cell' (i := 2) rfl
        have r0 := hB.cell' (i := 0) rfl
        have r1 := hB.cell' (i := 1) rfl
        have r2 := hB.cell' (i := 2) rfl
        have sz := SZ.out
        have hc := chg3 wr (w0.heap.size + 1) (.int .i64 q.v) (.slice FA q.f.length fc) (.slice TA q.t.length tc)
        have OF := Lib.hid ((hO.chg hc (.inr (by omega))).wider (lo' := w0.heap.size) (hi' := wr.heap.size) (by omega) (by omega))
        have GF := Lib.hid (gf.trans (hc.below (by omega) gf.size))
        clear hO hB kz gf hc
        go_wp2
        exact bodyPost_ret (v := .tuple #[.agg #[.int .i64 q.v, .slice FA q.f.length fc, .slice TA q.t.length tc], .bool true]) (by simp [results, go_sem, s0, s1, s2]) rfl ⟨_, rfl, by have := OF.out.wider (Nat.le_refl _) (Nat.le_refl _); simpa [rvQ] using this, GF.out⟩
end Go.Proofs.Ytcmlflppndfdcaa

/- A row of a matrix of the program, in the matrix's own memory. -/
namespace Go.Proofs.Ytcmlflppndfdcaa
set_option linter.unusedVariables false
set_option linter.unusedSimpArgs false
open Go.RowKit

theorem ix_next {i r c P : Nat} (hi : i < r) (hr : r ≤ 1000) (hc : c ≤ 1000) (hP : wrap64 ((i : Int) * (c : Int)) = (P : Int)) :
    P = i * c ∧ wrap64 (((i : Int) + 1) * (c : Int)) = ((P + c : Nat) : Int) ∧ P + c ≤ r * c ∧ P + c ≤ 1000000 := by
  have h1 : (i + 1) * c ≤ r * c := Nat.mul_le_mul_right _ hi
  have h2 : r * c ≤ 1000 * 1000 := Nat.mul_le_mul hr hc
  have h3 : (i + 1) * c = i * c + c := by rw [Nat.add_mul, Nat.one_mul]
  have e1 : P = i * c := by
    rw [show ((i : Int) * (c : Int)) = ((i * c : Nat) : Int) by simp, IntWalk.wrap64_in _ ⟨by omega, by omega⟩] at hP
    omega
  refine ⟨e1, ?_, by omega, by omega⟩
  rw [show (((i : Int) + 1) * (c : Int)) = (((i + 1) * c : Nat) : Int) by simp, h3, ← e1]
  exact IntWalk.wrap64_in _ ⟨by omega, by omega⟩
set_option maxHeartbeats 800000 in
theorem row_at (r : Int) (c i P N cap g : Nat) (w : World) (h1 : wrap64 ((i : Int) * (c : Int)) = (P : Int)) (h2 : wrap64 (((i : Int) + 1) * (c : Int)) = ((P + c : Nat) : Int))
    (hN : P + c ≤ N) (hcap : N ≤ cap) (hb : cap ≤ 9223372036854775807) (h0 : 0 < c) (hi : i ≤ 1000) :
    Calls Try.prog 85 #[.agg #[.int .i64 r, .int .i64 c, .slice (some ⟨g, 0, none⟩) N cap], .int .i64 i] w fun e w' => e = .returned (.slice (some ⟨g, P, none⟩) c (cap - P)) ∧ Below w.heap.size w w' := by
  go_enter Try.func85, Try.ntmps85
  go_wp2
  exact bodyPost_ret (v := .slice (some ⟨g, P, none⟩) c (cap - P)) (by simp [results, go_sem]) rfl ⟨rfl, below_alloc _ _⟩
end Go.Proofs.Ytcmlflppndfdcaa

/- Rows of a matrix of the program, as lists. -/
namespace Go.Proofs.Ytcmlflppndfdcaa
set_option linter.unusedVariables false
set_option linter.unusedSimpArgs false
open Go.RowKit
set_option maxHeartbeats 800000 in
theorem row_zero (r : Int) (i cap : Nat) (A : Option Addr) (w : World) (hb : cap ≤ 9223372036854775807) (hi : i ≤ 1000) :
    Calls Try.prog 85 #[.agg #[.int .i64 r, .int .i64 0, .slice A 0 cap], .int .i64 i] w fun e w' => ∃ A, e = .returned (.slice A 0 cap) ∧ Below w.heap.size w w' := by
  go_enter Try.func85, Try.ntmps85
  go_wp2
  exact bodyPost_ret (by simp [results, go_sem]; rfl) rfl ⟨_, rfl, below_alloc _ _⟩

def rowsF (r c : Nat) (f : Nat → Nat → Int) : List (List Int) := (List.range r).map fun i => rowF c (f i)
theorem rowsF_length (r c : Nat) (f : Nat → Nat → Int) : (rowsF r c f).length = r := by simp [rowsF]
theorem rowsF_get {r c j : Nat} (f : Nat → Nat → Int) (h : j < r) : (rowsF r c f)[j]? = some (rowF c (f j)) := by simp [rowsF, h]
theorem rowsF_succ (r c : Nat) (f : Nat → Nat → Int) : rowsF (r + 1) c f = rowsF r c f ++ [rowF c (f r)] := by simp [rowsF, List.range_succ]
theorem rowF_mem {c : Nat} {g : Nat → Int} {x : Int} (h : x ∈ rowF c g) : ∃ j, j < c ∧ x = g j := by
  simp only [rowF, List.mem_map, List.mem_range] at h
  obtain ⟨j, hj, rfl⟩ := h
  exact ⟨j, hj, rfl⟩
/-- a stretch of a slice of ints -/
theorem SlI.part {w : World} {B g o n cap P c : Nat} {l l' : List Int} (h : SlI w B (.slice (some ⟨g, o, none⟩) n cap) l) (hn : n = l.length) (hc : P + l'.length ≤ l.length) (hl : ∀ j x, l'[j]? = some x → l[P + j]? = some x) (hcn : c = cap - P) :
    SlI w B (.slice (some ⟨g, o + P, none⟩) l'.length c) l' := by
  subst hn hcn
  obtain ⟨A', c', e, h1, h2, h3, h4⟩ := h
  injection e with e1 e2 e3
  subst e1 e3
  refine ⟨_, _, rfl, by omega, by omega, by omega, fun hp => ?_⟩
  obtain ⟨b, o', e, hb, hx⟩ := h4 (by omega)
  injection e with e
  injection e with e1 e2
  subst e1 e2
  refine ⟨g, o + P, rfl, hb, fun j x hj => ?_⟩
  have := hx (P + j) x (hl j x hj)
  rw [show o + P + j * 1 = o + (P + j) * 1 by omega]
  exact this
set_option maxHeartbeats 800000 in
theorem row_atO (r : Int) (c i P N cap g o : Nat) (w : World) (h1 : wrap64 ((i : Int) * (c : Int)) = (P : Int)) (h2 : wrap64 (((i : Int) + 1) * (c : Int)) = ((P + c : Nat) : Int))
    (hN : P + c ≤ N) (hcap : N ≤ cap) (hb : cap ≤ 9223372036854775807) (h0 : 0 < c) (hi : i ≤ 1000) :
    Calls Try.prog 85 #[.agg #[.int .i64 r, .int .i64 c, .slice (some ⟨g, o, none⟩) N cap], .int .i64 i] w fun e w' => e = .returned (.slice (some ⟨g, o + P, none⟩) c (cap - P)) ∧ Below w.heap.size w w' := by
  go_enter Try.func85, Try.ntmps85
  go_wp2
  exact bodyPost_ret (v := .slice (some ⟨g, o + P, none⟩) c (cap - P)) (by simp [results, go_sem]) rfl ⟨rfl, below_alloc _ _⟩
theorem row_any (u : Value) (r c i : Nat) (f : Nat → Nat → Int) (w : World) (hu : MxR w w.heap.size u (mxF r c f)) (hr : r ≤ 1000) (hc : c ≤ 1000) (hi : i < r) :
    Calls Try.prog 85 #[u, .int .i64 i] w fun e w' => ∃ v, e = .returned v ∧ SlI w' w'.heap.size v (rowF c (f i)) ∧ Below w.heap.size w w' := by
  obtain ⟨A, cap, rfl, hs, _, _, hl⟩ := hu.open_
  simp only [mxF] at hs hl ⊢
  rcases Nat.eq_zero_or_pos c with rfl | h0
  · obtain ⟨_, _, e, h1, h2, _⟩ := hs
    injection e with e1 e2 e3
    subst e1 e3
    have e : (flat r 0 f).length = 0 := by rw [flat_length]; rfl
    rw [e]
    refine (row_zero r i cap A w h2 (by omega)).mono fun e w' ⟨A', h3, h4⟩ => ⟨_, h3, ?_, h4⟩
    exact ⟨A', cap, by simp [rowF], by simp [rowF], h2, by simp [rowF], fun h => by simp [rowF] at h⟩
  · obtain ⟨P, J, hP, _, _, _, _⟩ := ix_walk hi h0 hr hc
    obtain ⟨hPi, hP2, hPL, _⟩ := ix_next hi hr hc hP
    have hlt := ix_lt hi h0
    have hs' := hs
    obtain ⟨_, _, e, h1, h2, h3, h4⟩ := hs
    injection e with e1 e2 e3
    subst e1 e3
    obtain ⟨b, o, rfl, hb, hx⟩ := h4 (by rw [flat_length]; omega)
    refine (row_atO r c i P _ cap b o w hP hP2 (by rw [flat_length]; exact hPL) h1 h2 h0 (by omega)).mono fun e w' ⟨h5, h6⟩ => ⟨_, h5, ?_, h6⟩
    have := SlI.part (P := P) (l' := rowF c (f i)) (SlI.next h6 hs') rfl (by rw [rowF_length, flat_length]; exact hPL) (fun j x hj => ?_) rfl
    · rwa [rowF_length] at this
    · have hjc := lt_of_some hj
      rw [rowF_length] at hjc
      rw [rowF_get _ hjc] at hj
      rw [hPi, flat_get f hi hjc]
      exact hj

set_option maxHeartbeats 1600000 in
theorem rows_any (u : Value) (r c : Nat) (f : Nat → Nat → Int) (w0 : World) (hu : MxR w0 w0.heap.size u (mxF r c f)) (hr : r ≤ 1000) (hc : c ≤ 1000) :
    Calls Try.prog 72 #[u] w0 fun e w' => ∃ v, e = .returned v ∧ IntssO w' w0.heap.size w'.heap.size v (rowsF r c f) ∧ Below w0.heap.size w0 w' := by
  have hu' := hu
  obtain ⟨A, cap, rfl, hs, i1, i2, hl⟩ := hu.open_
  clear hu
  simp only [mxF] at hs hl i1 i2 ⊢
  obtain ⟨W, hW⟩ : ∃ W, W = w0.alloc (.cells #[.int .i64 r, .int .i64 c, .slice A (flat r c f).length cap] 84) := ⟨_, rfl⟩
  have g0 : Below w0.heap.size w0 W := by rw [hW]; exact below_alloc _ _
  have kB : Blk W w0.heap.size 84 #[.int .i64 r, .int .i64 c, .slice A (flat r c f).length cap] := by rw [hW]; exact Blk.new _ _ _
  obtain ⟨L, hL⟩ : ∃ L, (flat r c f).length = L := ⟨_, rfl⟩
  simp only [mxF] at hu'
  rw [hL] at hu' hs hl kB hW ⊢
  clear hL
  have c0 := kB.cell' (i := 0) rfl
  have c1 := kB.cell' (i := 1) rfl
  have c2 := kB.cell' (i := 2) rfl
  have HU := Lib.hid (MxR.next g0 hu')
  have sz : w0.heap.size < W.heap.size := kB.lt
  go_enter Try.func72, Try.ntmps72
  go_wp2
  rw [← hW]
  clear hW
  go_loopw [3, 7] (fun out i wr => ∃ (k : Nat) (vs : List Value), k ≤ r ∧ i = .int .i64 k ∧ Below W.heap.size W wr ∧ OutO wr W.heap.size wr.heap.size out vs ∧ vs.length = k ∧ Fam wr W.heap.size wr.heap.size (vs.zip (rowsF k c f))) (fun _ i _ => r - (intOf i).toNat)
  case atStart => exact ⟨0, [], Nat.zero_le _, rfl, Below.refl _ _, ⟨World.ownsRow_nil _ _ _ _, by simp [Value.ownBlock], by simp⟩, rfl, ⟨fun p hp => by simp at hp, by simp⟩⟩
  case round =>
    clear c0 c1 c2
    obtain ⟨k, vs, hk, rfl, hbel, hO, hvl, hF⟩ := hrel
    have kB2 := kB.call hbel
    have c0 := kB2.cell' (i := 0) rfl
    have c1 := kB2.cell' (i := 1) rfl
    have c2 := kB2.cell' (i := 2) rfl
    have HVL := Lib.hid hvl
    clear hvl
    by_cases hlt : k < r
    · have HUR := Lib.hid (MxR.more hbel.size (MxR.below hbel HU.out))
      have hws := hbel.size
      obtain ⟨OA, oc, rfl, _, _⟩ := hO.form
      have HO := Lib.hid hO
      have HF := Lib.hid hF
      clear hO hF
      go_wp2_with fail
      refine (row_any _ r c k f _ HUR.out hr hc hlt).mono ?_; rintro e w1 ⟨v1, rfl, hv1, hb1⟩
      have hb0 := hb1
      go_wp2_with fail
      refine (clone_own _ _ _ hv1).mono ?_; rintro e wC ⟨v2, rfl, hI, hb2⟩
      have hbC := bthen hb1 hb2
      have hlo := hb1.size
      clear hb2 hb0
      obtain ⟨VA, vc, ev⟩ := hI.form
      rw [rowF_length] at ev
      subst ev
      have hO2 := HO.out.below hbC
      have hF2 := HF.out.below hbC
      have hbs := hbC.size
      have HI := Lib.hid hI
      have HO2 := Lib.hid hO2
      have HF2 := Lib.hid hF2
      have HBC := Lib.hid hbC
      clear hI hO2 hF2 hbC hb1 hv1
      (go_wp2_with (at_builtin; refine Hold.stop ?_)); unfold Hold
      obtain ⟨X, hX⟩ : ∃ X, X = wC.alloc (.cells #[.slice VA c vc] 22) := ⟨_, rfl⟩
      have gn : Below wC.heap.size wC X := by rw [hX]; exact below_alloc _ _
      have kn : Blk X wC.heap.size 22 #[.slice VA c vc] := by rw [hX]; exact Blk.new _ _ _
      have hO3 := HO2.out.below gn
      have hF3 := (HF2.out.snoc (HI.out.wider (lo' := wr.heap.size) hlo (Nat.le_refl _)) hws (by omega)).below gn
      have hXs := gn.size
      rw [← hX]
      clear hX
      refine wpList_appS rfl (.tmp 10) (.tmp 15) rfl W.heap.size (.slice OA vs.length oc) vs rfl hO3.1 _ _ (.slice VA c vc) rfl ⟨wC.heap.size, 0, rfl, kn.cell' (i := 0) rfl⟩ rfl (by have := HVL.out; omega) (by omega) ?_
      intro v' w' hn' hg' hv'
      have hbg : Below W.heap.size X w' := below_grown hg' (fun k hk => (hO3.1.lt k hk).1) (by omega)
      have hbt := (hbel.trans ((HBC.out).mono hws)).trans ((gn.mono (by omega)).trans hbg)
      have hF4 := Fam.grownO hF3 hO3.1 hg'
      have hws' := hbg.size
      have hO4 : OutO w' W.heap.size w'.heap.size v' (vs ++ [.slice VA c vc]) := ⟨hn', fun k hk => (hn'.lt k hk).2, by simp; have := HVL.out; omega⟩
      have HF4 := Lib.hid hF4
      have HO4 := Lib.hid hO4
      have HBT := Lib.hid hbt
      clear hn' hg' hv' hbg hbt hF4 hO4 hO3 hF3 kn gn
      go_wp2
      go_roundw
      case rel =>
        refine ⟨k + 1, vs ++ [.slice VA c vc], by omega, by go_num, HBT.out, HO4.out, by simp [HVL.out], ?_⟩
        have := HF4.out.mono (Nat.le_refl _) (show wC.heap.size ≤ w'.heap.size by omega)
        have e : (vs ++ [Value.slice VA c vc]).zip (rowsF (k + 1) c f) = vs.zip (rowsF k c f) ++ [(Value.slice VA c vc, rowF c (f k))] := by
          rw [rowsF_succ, List.zip_append (by rw [HVL.out, rowsF_length])]; rfl
        rw [e]
        exact this
      case measure => simp [intOf]; omega
    · obtain rfl : k = r := by omega
      have hO' := hO
      have hF' := hF
      go_wp2
      go_ret
      exact ⟨_, rfl, ⟨vs, hO'.mono (by omega) (Nat.le_refl _), by rw [HVL.out, rowsF_length], hF'.mono (by omega) (Nat.le_refl _)⟩, g0.trans (hbel.mono (by omega))⟩
end Go.Proofs.Ytcmlflppndfdcaa

/- Columns of a matrix of the program, as lists; the matrix of some columns. -/
namespace Go.Proofs.Ytcmlflppndfdcaa
set_option linter.unusedVariables false
set_option linter.unusedSimpArgs false
open Go.RowKit

def colK (k : Nat) (f : Nat → Nat → Int) (j i : Nat) : Int := if i < j then f i k else 0
theorem colK_0 (r k : Nat) (f : Nat → Nat → Int) : List.replicate r 0 = rowF r (colK k f 0) := by
  apply List.ext_getElem?
  intro i
  by_cases h : i < r
  · rw [rowF_get _ h]; simp [h, colK]
  · rw [List.getElem?_eq_none (by simp; omega), List.getElem?_eq_none (by rw [rowF_length]; omega)]
theorem colK_succ {r k j : Nat} (f : Nat → Nat → Int) (h : j < r) : (rowF r (colK k f j)).set j (f j k) = rowF r (colK k f (j + 1)) := by
  rw [rowF_set]
  refine rowF_congr fun i _ => ?_
  simp only [colK]
  (repeat' split) <;> first | rfl | omega | (subst_vars; rfl)
theorem colK_r (r k : Nat) (f : Nat → Nat → Int) : rowF r (colK k f r) = rowF r (fun i => f i k) := rowF_congr fun i h => by simp [colK, h]

set_option maxHeartbeats 1600000 in
theorem column_any (u : Value) (r c k : Nat) (f : Nat → Nat → Int) (w0 : World) (hu : MxR w0 w0.heap.size u (mxF r c f)) (hr : r ≤ 1000) (hc : c ≤ 1000) (hk : k < c) :
    Calls Try.prog 147 #[u, .int .i64 k] w0 fun e w' => ∃ v, e = .returned v ∧ IntsO w' w0.heap.size w'.heap.size v (rowF r (fun i => f i k)) ∧ Below w0.heap.size w0 w' := by
  obtain ⟨A, cap, rfl, hs, i1, i2, hl⟩ := hu.open_
  clear hu
  simp only [mxF] at hs hl i1 i2 ⊢
  obtain ⟨W, hW⟩ : ∃ W, W = (w0.alloc (.cells #[.int .i64 r, .int .i64 c, .slice A (flat r c f).length cap] 84)).alloc (.cells (mkCells (.int .i64 0) r) 3) := ⟨_, rfl⟩
  have g0 : Below w0.heap.size w0 W := by rw [hW]; exact ((Below.refl _ _).alloc (Nat.le_refl _) _).alloc (by simp) _
  have kB : Blk W w0.heap.size 84 #[.int .i64 r, .int .i64 c, .slice A (flat r c f).length cap] := by rw [hW]; exact (Blk.new _ _ _).alloc _
  have sz : W.heap.size = w0.heap.size + 1 + 1 := by rw [hW]; simp
  have ho : IntsO W (w0.heap.size + 1) W.heap.size (.slice (some ⟨w0.heap.size + 1, 0, none⟩) r r) (List.replicate r 0) := by
    rw [hW]
    have := OwnI.made0 (w := w0.alloc (.cells #[.int .i64 r, .int .i64 c, .slice A (flat r c f).length cap] 84)) (base := w0.heap.size + 1) (N := r) (by simp) (by omega)
    exact IntsO.of_own (by simpa only [World.size_alloc] using this)
  rw [colK_0 r k f] at ho
  obtain ⟨L, hL⟩ : ∃ L, (flat r c f).length = L := ⟨_, rfl⟩
  have HS := Lib.hid hs
  have HL := Lib.hid hL
  rw [hL] at hl kB hW ⊢
  have SZ := Lib.hid sz
  obtain ⟨i0, hi, hz0, hz1, hz2⟩ := info_parts infoInt
  have hmk := run_mk (P := Try.prog) Try.underlying22 hi hz0 (n := r) (by rw [hz2]; omega) (by omega)
  rw [hz1] at hmk
  rw [Nat.mul_one] at hmk
  clear hi hz0 hz1 hz2 hL hs sz
  go_enter Try.func147, Try.ntmps147
  go_wp2
  rw [← hW]
  clear hW hmk
  go_loopw [12] (fun i wr => ∃ j : Nat, j ≤ r ∧ i = .int .i64 j ∧ Below w0.heap.size w0 wr ∧ Blk wr w0.heap.size 84 #[.int .i64 r, .int .i64 c, .slice A L cap] ∧ IntsO wr (w0.heap.size + 1) W.heap.size (.slice (some ⟨w0.heap.size + 1, 0, none⟩) r r) (rowF r (colK k f j))) (fun i _ => r - (intOf i).toNat)
  case atStart => exact ⟨0, Nat.zero_le _, rfl, g0, kB, ho⟩
  case round =>
    clear g0 kB ho
    obtain ⟨j, hj, rfl, hbel, kB, ho⟩ := hrel
    by_cases hlt : j < r
    · obtain ⟨P, J, hP, hPJ, hJ, hJN, hJb⟩ := ix_walk hlt hk hr hc
      have hs := HS.out
      obtain ⟨b, o, x, rfl, hb, HX, x1, _⟩ := SlI.at_ (k := P + k) hs (by rw [flat_length]; omega)
      have hx := HX.out
      rw [hPJ, hJ, flat_get f hlt hk] at hx
      injection hx with hx
      subst hx
      rw [← flat_length r c f, HL.out] at hJN
      have hPl : P + k < L := by omega
      have c1 := kB.cell' (i := 1) rfl
      have c2 := kB.cell' (i := 2) rfl
      have d1 := bcell hbel hb x1
      have d2 : wr.cell? ⟨b, o + P + k, none⟩ = some (.int .i64 (f j k)) := by rw [Nat.add_assoc]; exact d1
      have cA := (ho.1.cellG (j := j) (by rw [rowF_length]; exact hlt)).1
      have fA := ho.1.frozenG j
      have hxr := SlI.i64 hs (f j k) (List.mem_of_getElem? (flat_get f hlt hk))
      have hc1 : Chg (w0.heap.size + 1) W.heap.size wr (wr.setCell ⟨w0.heap.size + 1, j, none⟩ (.int .i64 (f j k))) := chg_set (Nat.le_refl _) (by have := SZ.out; simp; omega)
      have ho2 := ho.put (j := j) (x := f j k) hxr
      rw [colK_succ f hlt] at ho2
      have HO2 := Lib.hid ho2
      have KB := Lib.hid (kB.chg hc1 (by omega))
      have HB := Lib.hid (hbel.trans (hc1.below (by omega) hbel.size))
      clear hs HX hJ hPJ hJN x1 ho ho2 kB hbel hc1 hb
      go_wp2
      go_roundw
      case rel => exact ⟨j + 1, by omega, by go_num, HB.out, KB.out, HO2.out⟩
      case measure => simp [intOf]; omega
    · obtain rfl : j = r := by omega
      rw [colK_r] at ho
      go_wp2
      go_ret
      have h3 : w0.heap.size + 1 < wr.heap.size := (ho.1.lt _ rfl).2
      have h4 := SZ.out
      exact ⟨_, rfl, ho.wider (by omega) (by omega), hbel⟩
set_option maxHeartbeats 1600000 in
theorem columns_any (u : Value) (r c : Nat) (f : Nat → Nat → Int) (w0 : World) (hu : MxR w0 w0.heap.size u (mxF r c f)) (hr : r ≤ 1000) (hc : c ≤ 1000) :
    Calls Try.prog 119 #[u] w0 fun e w' => ∃ v, e = .returned v ∧ IntssO w' w0.heap.size w'.heap.size v (rowsF c r (fun a b => f b a)) ∧ Below w0.heap.size w0 w' := by
  have hu' := hu
  obtain ⟨A, cap, rfl, hs, i1, i2, hl⟩ := hu.open_
  clear hu
  simp only [mxF] at hs hl i1 i2 ⊢
  obtain ⟨W, hW⟩ : ∃ W, W = w0.alloc (.cells #[.int .i64 r, .int .i64 c, .slice A (flat r c f).length cap] 84) := ⟨_, rfl⟩
  have g0 : Below w0.heap.size w0 W := by rw [hW]; exact below_alloc _ _
  have kB : Blk W w0.heap.size 84 #[.int .i64 r, .int .i64 c, .slice A (flat r c f).length cap] := by rw [hW]; exact Blk.new _ _ _
  obtain ⟨L, hL⟩ : ∃ L, (flat r c f).length = L := ⟨_, rfl⟩
  simp only [mxF] at hu'
  rw [hL] at hu' hs hl kB hW ⊢
  clear hL
  have c0 := kB.cell' (i := 0) rfl
  have c1 := kB.cell' (i := 1) rfl
  have c2 := kB.cell' (i := 2) rfl
  have HU := Lib.hid (MxR.next g0 hu')
  have sz : w0.heap.size < W.heap.size := kB.lt
  go_enter Try.func119, Try.ntmps119
  go_wp2
  rw [← hW]
  clear hW
  go_loopw [3, 7] (fun out i wr => ∃ (k : Nat) (vs : List Value), k ≤ c ∧ i = .int .i64 k ∧ Below W.heap.size W wr ∧ OutO wr W.heap.size wr.heap.size out vs ∧ vs.length = k ∧ Fam wr W.heap.size wr.heap.size (vs.zip (rowsF k r (fun a b => f b a)))) (fun _ i _ => c - (intOf i).toNat)
  case atStart => exact ⟨0, [], Nat.zero_le _, rfl, Below.refl _ _, ⟨World.ownsRow_nil _ _ _ _, by simp [Value.ownBlock], by simp⟩, rfl, ⟨fun p hp => by simp at hp, by simp⟩⟩
  case round =>
    clear c0 c1 c2
    obtain ⟨k, vs, hk, rfl, hbel, hO, hvl, hF⟩ := hrel
    have kB2 := kB.call hbel
    have c0 := kB2.cell' (i := 0) rfl
    have c1 := kB2.cell' (i := 1) rfl
    have c2 := kB2.cell' (i := 2) rfl
    have HVL := Lib.hid hvl
    clear hvl
    by_cases hlt : k < c
    · have HUR := Lib.hid (MxR.more hbel.size (MxR.below hbel HU.out))
      have hws := hbel.size
      obtain ⟨OA, oc, rfl, _, _⟩ := hO.form
      have HO := Lib.hid hO
      have HF := Lib.hid hF
      clear hO hF
      go_wp2_with fail
      refine (column_any _ r c k f _ HUR.out hr hc hlt).mono ?_; rintro e w1 ⟨v1, rfl, hv1, hb1⟩
      obtain ⟨wC, ewC⟩ : ∃ x, x = w1 := ⟨_, rfl⟩
      subst ewC
      have hI := hv1
      have hbC := hb1
      have hlo := Nat.le_refl wr.heap.size
      obtain ⟨VA, vc, ev⟩ := hI.form
      rw [rowF_length] at ev
      subst ev
      have hO2 := HO.out.below hbC
      have hF2 := HF.out.below hbC
      have hbs := hbC.size
      have HI := Lib.hid hI
      have HO2 := Lib.hid hO2
      have HF2 := Lib.hid hF2
      have HBC := Lib.hid hbC
      clear hI hO2 hF2 hbC hb1 hv1
      (go_wp2_with (at_builtin; refine Hold.stop ?_)); unfold Hold
      obtain ⟨X, hX⟩ : ∃ X, X = wC.alloc (.cells #[.slice VA r vc] 22) := ⟨_, rfl⟩
      have gn : Below wC.heap.size wC X := by rw [hX]; exact below_alloc _ _
      have kn : Blk X wC.heap.size 22 #[.slice VA r vc] := by rw [hX]; exact Blk.new _ _ _
      have hO3 := HO2.out.below gn
      have hF3 := (HF2.out.snoc (HI.out.wider (lo' := wr.heap.size) hlo (Nat.le_refl _)) hws (by omega)).below gn
      have hXs := gn.size
      rw [← hX]
      clear hX
      refine wpList_appS rfl (.tmp 10) (.tmp 14) rfl W.heap.size (.slice OA vs.length oc) vs rfl hO3.1 _ _ (.slice VA r vc) rfl ⟨wC.heap.size, 0, rfl, kn.cell' (i := 0) rfl⟩ rfl (by have := HVL.out; omega) (by omega) ?_
      intro v' w' hn' hg' hv'
      have hbg : Below W.heap.size X w' := below_grown hg' (fun k hk => (hO3.1.lt k hk).1) (by omega)
      have hbt := (hbel.trans ((HBC.out).mono hws)).trans ((gn.mono (by omega)).trans hbg)
      have hF4 := Fam.grownO hF3 hO3.1 hg'
      have hws' := hbg.size
      have hO4 : OutO w' W.heap.size w'.heap.size v' (vs ++ [.slice VA r vc]) := ⟨hn', fun k hk => (hn'.lt k hk).2, by simp; have := HVL.out; omega⟩
      have HF4 := Lib.hid hF4
      have HO4 := Lib.hid hO4
      have HBT := Lib.hid hbt
      clear hn' hg' hv' hbg hbt hF4 hO4 hO3 hF3 kn gn
      go_wp2
      go_roundw
      case rel =>
        refine ⟨k + 1, vs ++ [.slice VA r vc], by omega, by go_num, HBT.out, HO4.out, by simp [HVL.out], ?_⟩
        have := HF4.out.mono (Nat.le_refl _) (show wC.heap.size ≤ w'.heap.size by omega)
        have e : (vs ++ [Value.slice VA r vc]).zip (rowsF (k + 1) r (fun a b => f b a)) = vs.zip (rowsF k r (fun a b => f b a)) ++ [(Value.slice VA r vc, rowF r (fun i => f i k))] := by
          rw [rowsF_succ, List.zip_append (by rw [HVL.out, rowsF_length])]; rfl
        rw [e]
        exact this
      case measure => simp [intOf]; omega
    · obtain rfl : k = c := by omega
      have hO' := hO
      have hF' := hF
      go_wp2
      go_ret
      exact ⟨_, rfl, ⟨vs, hO'.mono (by omega) (Nat.le_refl _), by rw [HVL.out, rowsF_length], hF'.mono (by omega) (Nat.le_refl _)⟩, g0.trans (hbel.mono (by omega))⟩
end Go.Proofs.Ytcmlflppndfdcaa

/- The matrix of some columns; the reference's transposed matrix. -/
namespace Go.Proofs.Ytcmlflppndfdcaa
set_option linter.unusedVariables false
set_option linter.unusedSimpArgs false
open Go.RowKit

def fcK (f : Nat → Nat → Int) (k i a b : Nat) : Int := if b < k ∨ (b = k ∧ a < i) then f a b else 0
theorem fcK_0 (R K : Nat) (f : Nat → Nat → Int) : flat R K (fun _ _ => 0) = flat R K (fcK f 0 0) := flat_congr fun a b _ _ => by simp [fcK]
theorem fcK_put {R K k i : Nat} (f : Nat → Nat → Int) (hi : i < R) (hk : k < K) : (flat R K (fcK f k i)).set (i * K + k) (f i k) = flat R K (fcK f k (i + 1)) := by
  rw [flat_set _ _ hi hk]
  refine flat_congr fun a b _ _ => ?_
  simp only [fcK]
  (repeat' split) <;> first | rfl | omega | (rename_i h _; rw [h.1, h.2])
theorem fcK_next (R K k : Nat) (f : Nat → Nat → Int) : flat R K (fcK f k R) = flat R K (fcK f (k + 1) 0) := by
  refine flat_congr fun a b ha _ => ?_
  simp only [fcK]
  (repeat' split) <;> first | rfl | omega
theorem fcK_K (R K : Nat) (f : Nat → Nat → Int) : flat R K (fcK f K 0) = flat R K f := flat_congr fun a b _ hb => by simp [fcK, hb]

set_option maxHeartbeats 1600000 in
theorem fromColumns_any (u : Value) (R K : Nat) (f : Nat → Nat → Int) (w : World) (hu : SlII w w.heap.size u (rowsF K R (fun a b => f b a))) (hR : R ≤ 1000) (hK : K ≤ 1000) :
    Calls Try.prog 71 #[.int .i64 R, u] w fun e w' => ∃ v, e = .returned v ∧ MxO w' w.heap.size w'.heap.size v (mxF R K f) ∧ Below w.heap.size w w' := by
  obtain ⟨U, uc, rfl, _, _, hul, hx⟩ := hu.open_
  clear hu
  have HX := Lib.hid hx
  rw [rowsF_length] at hul ⊢
  obtain ⟨W, hW⟩ : ∃ W, W = w.alloc (.cells #[.int .i64 0, .int .i64 0, .slice none 0 0] 84) := ⟨_, rfl⟩
  have g0 : Below w.heap.size w W := by rw [hW]; exact below_alloc _ _
  have k2 : Blk W w.heap.size 84 #[.int .i64 0, .int .i64 0, .slice none 0 0] := by rw [hW]; exact Blk.new _ _ _
  have sz : W.heap.size = w.heap.size + 1 := by rw [hW]; simp
  have K2 := Lib.hid k2
  have SZ := Lib.hid sz
  clear k2 sz hx
  go_enter Try.func71, Try.ntmps71
  go_wp2_with fail
  rw [← hW]; clear hW
  refine (zero_any (R : Int) K W (by omega) (by omega) (by omega) (by omega)).mono ?_; rintro e w1 ⟨v1, rfl, ⟨sA, rfl, oA, hr, hc⟩, hb1⟩
  rw [zmx_flat] at oA hr hc ⊢
  simp only [mxF] at oA hr hc ⊢
  rw [fcK_0 R K f] at oA
  obtain ⟨A1, c1, e1⟩ := oA.form
  obtain ⟨N, hN⟩ : ∃ N, R * K = N := ⟨_, rfl⟩
  rw [flat_length, hN] at e1
  subst e1
  have HN := Lib.hid hN
  clear hN
  have s1 := hb1.size
  obtain ⟨W4, hW4⟩ : ∃ W4, W4 = w1.alloc (.cells #[.int .i64 R, .int .i64 K, .slice A1 N c1] 84) := ⟨_, rfl⟩
  have b4 : Below w1.heap.size w1 W4 := by rw [hW4]; exact below_alloc _ _
  have k4 : Blk W4 w1.heap.size 84 #[.int .i64 R, .int .i64 K, .slice A1 N c1] := by rw [hW4]; exact Blk.new _ _ _
  have oA := oA.below b4
  have gW := bthen hb1 b4
  clear b4 hb1
  go_wp2
  rw [← hW4]; clear hW4
  go_loopw [16] (fun i wr => ∃ k : Nat, k ≤ K ∧ i = .int .i64 k ∧ Blk wr w1.heap.size 84 #[.int .i64 R, .int .i64 K, .slice A1 N c1] ∧ IntsO wr W.heap.size w1.heap.size (.slice A1 N c1) (flat R K (fcK f k 0)) ∧ Below W.heap.size W wr) (fun i _ => K - (intOf i).toNat)
  case atStart => exact ⟨0, Nat.zero_le _, rfl, k4, oA, gW⟩
  case round =>
    clear k4 oA gW
    obtain ⟨k, hk, rfl, k4, oA, gW⟩ := hrel
    have s6 := gW.size
    by_cases hlt : k < K
    · have hx := HX.out
      rw [← rowsF_length K R (fun a b => f b a)] at hlt
      obtain ⟨b, o, l, LA, lc, rfl, hb, HL, x1, hl⟩ := SlII.at_ hx hlt
      rw [rowsF_length] at hlt
      have hl' := HL.out
      rw [rowsF_get _ hlt] at hl'
      injection hl' with hl'
      subst hl'
      rw [rowF_length] at x1
      have gww : Below w.heap.size w wr := g0.trans (gW.mono g0.size)
      have x2 := bcell gww hb x1
      have HLC := Lib.hid hl
      clear hx HL x1 hl
      go_wp2
      go_loopw [23] (fun i wr => ∃ j : Nat, j ≤ R ∧ i = .int .i64 j ∧ Blk wr w1.heap.size 84 #[.int .i64 R, .int .i64 K, .slice A1 N c1] ∧ IntsO wr W.heap.size w1.heap.size (.slice A1 N c1) (flat R K (fcK f k j)) ∧ Below W.heap.size W wr) (fun i _ => R - (intOf i).toNat)
      case atStart => exact ⟨0, Nat.zero_le _, rfl, k4, oA, gW⟩
      case round =>
        clear k4 oA gW s6 x2 gww
        obtain ⟨j, hj, rfl, k4, oA, gW⟩ := hrel
        have s6 := gW.size
        by_cases hlj : j < R
        · obtain ⟨P, J, hP, hPJ, hJ, hJN, hJb⟩ := ix_walk hlj hlt hR hK
          rw [HN.out] at hJN
          have hst := fcK_put f hlj hlt
          rw [← hJ] at hst
          subst hPJ
          have hl := HLC.out
          rw [← rowF_length R (fun b => f b k)] at hlj
          obtain ⟨b2, o2, x, rfl, hb2, HX2, x1, xr⟩ := SlI.at_ hl hlj
          rw [rowF_length] at hlj
          have hx2 := HX2.out
          rw [rowF_get _ hlj] at hx2
          injection hx2 with hx2
          subst hx2
          have gww : Below w.heap.size w wr := g0.trans (gW.mono g0.size)
          have x2 := bcell gww hb2 x1
          obtain ⟨gA, cA, eA, a1, a2, a3⟩ := oA.at_ (by rw [flat_length, HN.out]; omega)
          rw [flat_length, HN.out] at eA
          injection eA with eA1 eA2 eA3
          subst eA1 eA3
          have r1 := k4.cell' (i := 1) rfl
          have r2 := k4.cell' (i := 2) rfl
          have fA := oA.1.frozenG (P + k)
          have cA := (oA.1.cellG (j := P + k) (by rw [flat_length, HN.out]; omega)).1
          have hc1 : Chg W.heap.size w1.heap.size wr (wr.setCell ⟨gA, P + k, none⟩ (.int .i64 (f j k))) := chg_set a1 a2
          have oA2 := oA.put (j := P + k) (x := f j k) xr
          rw [hst] at oA2
          have OA2 := Lib.hid oA2
          have K4 := Lib.hid (k4.chg hc1 (by omega))
          have GW := Lib.hid (gW.trans (hc1.below (Nat.le_refl _) s6))
          clear oA2 k4 oA gW hc1 hst hJ hl HX2 x1 gww hb2
          go_wp2
          go_roundw
          case rel => exact ⟨j + 1, by omega, by go_num, K4.out, OA2.out, GW.out⟩
          case measure => simp [intOf]; omega
        · obtain rfl : j = R := by omega
          rw [fcK_next] at oA
          have OA := Lib.hid oA
          have K4 := Lib.hid k4
          have GW := Lib.hid gW
          clear oA k4 gW
          go_wp2
          go_roundw
          case rel => exact ⟨k + 1, by omega, by go_num, K4.out, OA.out, GW.out⟩
          case measure => simp [intOf]; omega
    · obtain rfl : k = K := by omega
      rw [fcK_K] at oA
      have k2 := K2.out.below gW (by have := SZ.out; omega)
      have z0 := k4.cell' (i := 0) rfl
      have z1 := k4.cell' (i := 1) rfl
      have z2 := k4.cell' (i := 2) rfl
      have p0 := k2.cell' (i := 0) rfl
      have p1 := k2.cell' (i := 1) rfl
      have p2 := k2.cell' (i := 2) rfl
      have f2 := k2.frozen
      have h2 := chg3 wr w.heap.size (.int .i64 (R : Int)) (.int .i64 k) (.slice A1 N c1)
      have gw : Below w.heap.size w wr := g0.trans (gW.mono g0.size)
      have gs := gw.size
      have oA2 := (oA.chg h2 (.inr (by have := SZ.out; omega))).wider (lo' := w.heap.size) (hi' := wr.heap.size) (by have := SZ.out; omega) (by have := k4.lt; omega)
      have fg := gw.trans (h2.below (Nat.le_refl _) gs)
      have OA2 := Lib.hid oA2
      have FG := Lib.hid fg
      clear oA oA2 fg gw h2 k2 k4 gW
      go_wp2
      exact bodyPost_ret (v := .agg #[.int .i64 (R : Int), .int .i64 k, .slice A1 N c1]) (by simp [results, go_sem, p0, p1, p2]) rfl ⟨_, rfl, ⟨_, rfl, by simpa [mxF] using OA2.out, by simp only [mxF, I64]; omega, by simp only [mxF, I64]; omega⟩, FG.out⟩
end Go.Proofs.Ytcmlflppndfdcaa
