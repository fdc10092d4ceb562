/- FnExactKnitRow: for every argument the program's function returns what the reference's returns. Part 6 of 9 of the proof: Cln, Copy, Copy2, Zero, Flat, Ident, SSO, SlVs, PthM, PthE, PthI, PthF, PthD, PthX, Det0, Kind0, FinA. No condition. -/
import Derived.Test.YtgbchoenmpoojaaBKnitRow5
import Derived.Shelf.Slices.Clone
import Derived.ArgAppend
import Derived.Laws.Bits128
/- slices.Clone at []int: the shelf's contract. -/
namespace Go.Proofs
open Go.Shelf
def Try.laysClone_ren : Go.Shelf.Ren := ⟨fun | 15 => 75 | n => n, fun | 22 => 22 | 3 => 3 | 4 => 4 | n => n, fun | n => n⟩
theorem Try.laysClone : Go.Proofs.Lays2.n15 Try.prog Try.laysClone_ren := {
  mixed := by kernel_rfl
  f15 := Try.func75.trans (congrArg some (by kernel_rfl))
  t3 := Try.underlying3
  a3 := Try.isAgg3
  z3 := Try.sizeOf3
  v3 := Try.zeroValue3
  t4 := Try.underlying4
  a4 := Try.isAgg4
  z4 := Try.sizeOf4
  v4 := Try.zeroValue4
  t22 := Try.underlying22
  a22 := Try.isAgg22
  z22 := Try.sizeOf22
  v22 := Try.zeroValue22
  i3 := by kernel_rfl }
end Go.Proofs
namespace Go.Proofs.Ytgbchoenmpoojaa
set_option linter.unusedVariables false
set_option linter.unusedSimpArgs false
open Go.RowKit

theorem clone_own (u : Value) (xs : List Int) (w : World) (hu : SlI w w.heap.size u xs) :
    Calls Try.prog 75 #[u] w fun e w' => ∃ v, e = .returned v ∧ IntsO w' w.heap.size w'.heap.size v xs ∧ Below w.heap.size w w' := by
  have hr := SlI.i64 hu
  have hrd := hu
  obtain ⟨A, c, rfl, _, _, hn, hx⟩ := hu
  rcases A with _ | a
  · have h0 : xs = [] := by
      apply List.eq_nil_of_length_eq_zero
      rcases Nat.eq_zero_or_pos xs.length with h | h
      · exact h
      · obtain ⟨b, o, e, _⟩ := hx h
        cases e
    subst h0
    exact (Any.slices_Clone_int_nil Try.laysClone 0 c w).mono fun e w' ⟨h1, h2⟩ => ⟨_, h1, ⟨OwnI.nil _ _, by simp [Value.ownBlock]⟩, by rw [h2]; exact Below.refl _ _⟩
  rcases Nat.eq_zero_or_pos xs.length with h0 | hp
  · have h0 : xs = [] := List.eq_nil_of_length_eq_zero h0
    subst h0
    exact (Any.slices_Clone_int_zero Try.laysClone a c w).mono fun e w' ⟨v, h1, h2, _, hb⟩ => ⟨v, h1, IntsO.of_own ⟨h2, by simp, by simp⟩, hb⟩
  · obtain ⟨b, o, e, hb, hc⟩ := hx hp
    injection e with e
    subst e
    refine (Any.slices_Clone_int Try.laysClone b o xs.length c xs w (Nat.le_refl _) (by omega) (fun j hj => ?_)).mono ?_
    · have h := (hc j (xs.getD j 0) (by rw [List.getD_eq_getElem?_getD, List.getElem?_eq_getElem hj]; rfl)).1
      simpa using h
    · rintro e w' ⟨v', rfl, ho, hnn, hb⟩
      rw [List.take_of_length_le (Nat.le_refl _)] at ho
      exact ⟨v', rfl, IntsO.of_own ⟨ho, hn, hr⟩, hb⟩

end Go.Proofs.Ytgbchoenmpoojaa

/- Copies: slices.Clone at []int, append onto a fresh empty slice, copies of matrices and quivers on both sides. -/
namespace Go.Proofs.Ytgbchoenmpoojaa
set_option linter.unusedVariables false
set_option linter.unusedSimpArgs false
open Go.RowKit

/-- append of ints onto a slice that has just been made and holds nothing: what was there stands. -/
theorem wpList_append_fresh {w : World} {ops : Array Oper} {rest : List Oper} {o : Oper} {a : Act} {Q : Exit → Act → World → Prop} (hgd : o.guard = none) (s x : Operand)
    (ho : o.op = .call { callee := .builtin .append, args := #[s, x], argTypes := #[22, 22] })
    (g lo B : Nat) (cs : Array Value) (hs : a.eval s = .slice (some ⟨g, 0, none⟩) 0 0) (hg : Blk w g 3 cs) (hcs : cs.size = 0) (hlo : lo ≤ g) (A : Option Addr) (c : Nat) (news : List Int) (hx : a.eval x = .slice A news.length c) (hr : SlI w B (.slice A news.length c) news)
    (h : ∀ v' w', OwnI w' lo v' news → Below w.heap.size w w' → wpList Try.prog ops Q rest (a.put o.dst v') w') : wpList Try.prog ops Q (o :: rest) a w := by
  obtain ⟨i0, hi, hz0, hz1, hz2⟩ := info_parts infoInt
  have hn := hr
  obtain ⟨_, _, _, _, _, hn, hcell⟩ := hn
  have hI := SlI.i64 hr
  refine wpList_plain hgd fun K hK => ?_
  by_cases hp : 0 < news.length
  · obtain ⟨b, of, eA, hb, hc⟩ := hcell hp
    have hA := NewsAt.of_sl hr
    obtain ⟨hl, hnews⟩ := hA
    obtain ⟨b', of', eA', hc'⟩ := hnews.resolve_left (by omega)
    subst eA'
    have hadd : ∀ j, (⟨b', of', none⟩ : Addr).add j = ⟨b', of' + j, none⟩ := by intro j; unfold Addr.add; split <;> simp_all
    obtain ⟨v', w', hrun, hown, hgr⟩ := run_append_arg_grows (P := Try.prog) w 22 o.type 3 i0 _ 1 8 Try.underlying22 hi hz0 hz1 hz2 rfl (by decide) ⟨g, 0, none⟩ 0 0 [] (by simp) (by intro j u hj; simp at hj) ⟨b', of', none⟩ news.length c (news.map (Value.int .i64)) hl (fun j u hj => by rw [hadd]; exact hc' j u hj) (by omega) (by simp only [maxLen]; omega) (by omega)
    unfold Oper.wp execOp
    simp only [ho, resolve, invoke, builtin, Sem.run_bind, Sem.run_pure, Result.andThen_ok, List.map_toArray, List.map_cons, List.map_nil, hs, hx, hrun]
    refine hK _ _ (h v' w' ?_ ⟨hgr.os, hgr.tape, hgr.output, hgr.size, fun k hk => hgr.block k hk (by simp)⟩)
    have hgl := hg.lt
    exact OwnI.lower (base := w.heap.size) ⟨by simpa using hown, hn, hI⟩ (by omega)
  · have h0 : news = [] := List.eq_nil_of_length_eq_zero (by omega)
    subst h0
    have hrun : (Builtin.append_ #[22, 22] o.type #[.slice (some ⟨g, 0, none⟩) 0 0, .slice A 0 c]).run Try.prog w = .ok (.slice (some ⟨g, 0, none⟩) 0 0) w := by
      cases A <;> simp [Builtin.append_, run_underlying (P := Try.prog) Try.underlying22, sizeOf, typeInfo, hi, Builtin.lenOf, Builtin.firstCells, storeCells, loadCells, loadCellsFrom]
    simp only [List.length_nil] at hx
    unfold Oper.wp execOp
    simp only [ho, resolve, invoke, builtin, Sem.run_bind, Sem.run_pure, Result.andThen_ok, List.map_toArray, List.map_cons, List.map_nil, hs, hx, hrun]
    refine hK _ _ (h _ w ?_ (Below.refl _ _))
    have := hg.own (base := lo) (n := 0) (cap := 0) (size := 1) hlo (Nat.le_refl _) (by simp only [maxLen]; omega) (by omega)
    exact ⟨by simpa using this, by simp, by simp⟩

/-- a slice that has just been made and holds nothing -/
def Fresh (w : World) (lo : Nat) (u : Value) : Prop := ∃ g, u = .slice (some ⟨g, 0, none⟩) 0 0 ∧ lo ≤ g ∧ Blk w g 3 #[]
theorem Fresh.below {w w' : World} {lo : Nat} {u : Value} (h : Fresh w lo u) (hb : Below w.heap.size w w') : Fresh w' lo u := by
  obtain ⟨g, e, h1, h2⟩ := h
  exact ⟨g, e, h1, h2.call hb⟩
theorem Fresh.new (w : World) {lo : Nat} (h : lo ≤ w.heap.size) : Fresh (w.alloc (.cells #[] 3)) lo (.slice (some ⟨w.heap.size, 0, none⟩) 0 0) := ⟨_, rfl, h, Blk.new _ _ _⟩

end Go.Proofs.Ytgbchoenmpoojaa

/- Copies of quivers on both sides, of matrices on the program's. -/
namespace Go.Proofs.Ytgbchoenmpoojaa
set_option linter.unusedVariables false
set_option linter.unusedSimpArgs false
open Go.RowKit

theorem IntsO.form {w : World} {lo hi : Nat} {v : Value} {l : List Int} (h : IntsO w lo hi v l) : ∃ A c, v = .slice A l.length c := by
  obtain ⟨A, c, e, _⟩ := h.1.form
  exact ⟨A, c, e⟩
theorem QuivO.setLow {w : World} {lo hi : Nat} {v : Value} {q : Qv} (h : QuivO w lo hi v q) {p : Addr} (hp : p.block < lo) (u : Value) : QuivO (w.setCell p u) lo hi v q :=
  h.chg (chg_set (lo := p.block) (hi := p.block + 1) (Nat.le_refl _) (by omega)) (.inr (by omega))
theorem QuivO.wider {w : World} {lo hi lo' hi' : Nat} {v : Value} {q : Qv} (h : QuivO w lo hi v q) (h1 : lo' ≤ lo) (h2 : hi ≤ hi') : QuivO w lo' hi' v q := by
  obtain ⟨a, b, e, hF, hr⟩ := h
  exact ⟨a, b, e, hF.mono h1 h2, hr⟩

/-- two rows of two stretches that are apart -/
theorem fam_apart {w : World} {lo hi l1 h1 l2 h2 : Nat} {a b : Value} {l m : List Int} (ha : IntsO w l1 h1 a l) (hb : IntsO w l2 h2 b m) (hd : h1 ≤ l2 ∨ h2 ≤ l1) (k1 : lo ≤ l1) (k2 : lo ≤ l2) (k3 : h1 ≤ hi) (k4 : h2 ≤ hi) : Fam w lo hi [(a, l), (b, m)] := by
  refine ⟨fun p hp => ?_, ?_⟩
  · simp only [List.mem_cons, List.not_mem_nil, or_false] at hp
    rcases hp with rfl | rfl
    · exact ha.wider k1 k3
    · exact hb.wider k2 k4
  · simp only [List.pairwise_cons, List.mem_cons, List.not_mem_nil, or_false, forall_eq, false_implies, implies_true, List.Pairwise.nil, and_true]
    rcases hA : a.ownBlock with _ | x
    · exact .inl rfl
    · right
      intro e
      have h3 := ha.2 x hA
      have h4 := (ha.1.lt x hA).1
      have h5 := hb.2 x e.symm
      have h6 := (hb.1.lt x e.symm).1
      omega

/-- a quiver whose rows the call made; whether they are apart from one another is not said -/
def QuivI (w : World) (lo hi : Nat) (val : Value) (q : Qv) : Prop := ∃ a b, val = .agg #[.int .i64 q.v, a, b] ∧ IntsO w lo hi a q.f ∧ IntsO w lo hi b q.t ∧ I64 q.v
theorem QuivI.below {w w' : World} {lo hi : Nat} {v : Value} {q : Qv} (h : QuivI w lo hi v q) (hb : Below w.heap.size w w') : QuivI w' lo hi v q := by
  obtain ⟨a, b, e, h1, h2, h3⟩ := h
  exact ⟨a, b, e, h1.below hb, h2.below hb, h3⟩
theorem QuivI.rd {w : World} {lo hi : Nat} {v : Value} {q : Qv} (h : QuivI w lo hi v q) : QvR w w.heap.size v q := by
  obtain ⟨a, b, e, h1, h2, h3⟩ := h
  exact ⟨a, b, e, h1.rd, h2.rd, h3⟩
theorem QuivI.set {w : World} {lo hi : Nat} {v : Value} {q : Qv} (h : QuivI w lo hi v q) {p : Addr} (hp : p.block < lo) (u : Value) : QuivI (w.setCell p u) lo hi v q := by
  obtain ⟨a, b, e, h1, h2, h3⟩ := h
  exact ⟨a, b, e, h1.set hp u, h2.set hp u, h3⟩
theorem QuivI.wider {w : World} {lo hi lo' hi' : Nat} {v : Value} {q : Qv} (h : QuivI w lo hi v q) (k1 : lo' ≤ lo) (k2 : hi ≤ hi') : QuivI w lo' hi' v q := by
  obtain ⟨a, b, e, h1, h2, h3⟩ := h
  exact ⟨a, b, e, h1.wider k1 k2, h2.wider k1 k2, h3⟩

end Go.Proofs.Ytgbchoenmpoojaa

/- Matrices of zeros; append of a matrix onto a row of the call's own. -/
namespace Go.Proofs.Ytgbchoenmpoojaa
set_option linter.unusedVariables false
set_option linter.unusedSimpArgs false
open Go.RowKit

def zmx (r c : Int) : Mx := ⟨r, c, List.replicate (r * c).toNat 0⟩

/-! ### an append onto a row of elements T: what it leaves alone -/
structure AppT (T : TypeId) (lo : Nat) (w w' : World) : Prop where
  os : w'.os = w.os
  tape : w'.tape = w.tape
  output : w'.output = w.output
  size : w.heap.size ≤ w'.heap.size
  low : ∀ k, k < lo → k < w.heap.size → w'.heap[k]? = w.heap[k]?
  other : ∀ g t cs, t ≠ T → Blk w g t cs → Blk w' g t cs
theorem AppT.of_below {T : TypeId} {lo : Nat} {w w' : World} (h : Below w.heap.size w w') : AppT T lo w w' := ⟨h.os, h.tape, h.output, h.size, fun k _ hk => h.block k hk, fun _ _ _ _ hb => hb.call h⟩
theorem AppT.trans {T : TypeId} {lo : Nat} {a b c : World} (h : AppT T lo a b) (k : AppT T lo b c) : AppT T lo a c :=
  ⟨k.os.trans h.os, k.tape.trans h.tape, k.output.trans h.output, Nat.le_trans h.size k.size, fun i hi hs => (k.low i hi (Nat.lt_of_lt_of_le hs h.size)).trans (h.low i hi hs), fun g t cs ht hb => k.other g t cs ht (h.other g t cs ht hb)⟩
theorem AppT.below {T : TypeId} {lo B : Nat} {w w' : World} (h : AppT T lo w w') (hB : B ≤ lo) (hs : B ≤ w.heap.size) : Below B w w' := ⟨h.os, h.tape, h.output, h.size, fun k hk => h.low k (by omega) (by omega)⟩
theorem OwnI.appT {T : TypeId} {lo base : Nat} {w w' : World} {v : Value} {l : List Int} (h : OwnI w base v l) (hT : 3 ≠ T) (ha : AppT T lo w w') : OwnI w' base v l := by
  refine ⟨⟨h.1.1, ?_⟩, h.2⟩
  rcases h.1.2 with h1 | ⟨g, cap, cur, e, hg, hh, rest⟩
  · exact .inl h1
  · exact .inr ⟨g, cap, cur, e, hg, ha.other g _ cur hT hh, rest⟩
theorem IntsO.appT {T : TypeId} {lo l1 h1 : Nat} {w w' : World} {v : Value} {l : List Int} (h : IntsO w l1 h1 v l) (hT : 3 ≠ T) (ha : AppT T lo w w') : IntsO w' l1 h1 v l := ⟨h.1.appT hT ha, h.2⟩
theorem Fam.appT {T : TypeId} {lo l1 h1 : Nat} {w w' : World} {L : List (Value × List Int)} (h : Fam w l1 h1 L) (hT : 3 ≠ T) (ha : AppT T lo w w') : Fam w' l1 h1 L := ⟨fun p hp => (h.1 p hp).appT hT ha, h.2⟩
theorem AppT.set {T T' : TypeId} {lo g i : Nat} {w : World} {cs : Array Value} {u : Value} (hb : Blk w g T' cs) (hT : T' = T) (hg : lo ≤ g) : AppT T lo w (w.setCell ⟨g, i, none⟩ u) := by
  subst hT
  refine ⟨rfl, rfl, rfl, by simp [World.setCell], fun k hk _ => Below.heap_setCell _ _ _ _ (by simp; omega), fun g' t cs' ht hb' => ?_⟩
  refine hb'.far ?_ u
  rintro rfl
  unfold Blk at hb hb'
  rw [hb] at hb'
  injection hb' with hb'
  injection hb' with _ hb'
  exact ht hb'.symm

end Go.Proofs.Ytgbchoenmpoojaa

/- Matrices told by a function of the two places: cells in one row. -/
namespace Go.Proofs.Ytgbchoenmpoojaa
set_option linter.unusedVariables false
set_option linter.unusedSimpArgs false
open Go.RowKit

theorem ix_div {i k c : Nat} (hk : k < c) : (i * c + k) / c = i := by
  rw [Nat.mul_comm, Nat.mul_add_div (by omega), Nat.div_eq_of_lt hk, Nat.add_zero]
theorem ix_mod {i k c : Nat} (hk : k < c) : (i * c + k) % c = k := by
  rw [Nat.mul_comm, Nat.mul_add_mod, Nat.mod_eq_of_lt hk]
theorem ix_lt {i k r c : Nat} (hi : i < r) (hk : k < c) : i * c + k < r * c := by
  have : (i + 1) * c ≤ r * c := Nat.mul_le_mul_right _ hi
  rw [Nat.add_mul] at this
  omega
theorem ix_of {j r c : Nat} (hj : j < r * c) : ∃ i k, i < r ∧ k < c ∧ j = i * c + k := by
  have hc : 0 < c := Nat.pos_of_ne_zero (by rintro rfl; simp at hj)
  refine ⟨j / c, j % c, (Nat.div_lt_iff_lt_mul hc).2 hj, Nat.mod_lt _ hc, ?_⟩
  rw [Nat.mul_comm]; exact (Nat.div_add_mod j c).symm
theorem ix_inj {i k i' k' c : Nat} (hk : k < c) (hk' : k' < c) (h : i * c + k = i' * c + k') : i = i' ∧ k = k' := by
  have h1 := ix_div (i := i) hk
  have h2 := ix_mod (i := i) hk
  rw [h, ix_div hk'] at h1
  rw [h, ix_mod hk'] at h2
  exact ⟨h1.symm, h2.symm⟩

def flat (r c : Nat) (f : Nat → Nat → Int) : List Int := (List.range (r * c)).map fun j => f (j / c) (j % c)
theorem flat_length (r c : Nat) (f : Nat → Nat → Int) : (flat r c f).length = r * c := by simp [flat]
theorem flat_get {r c i k : Nat} (f : Nat → Nat → Int) (hi : i < r) (hk : k < c) : (flat r c f)[i * c + k]? = some (f i k) := by
  simp [flat, ix_lt hi hk, ix_div hk, ix_mod hk]
theorem flat_getD {r c i k : Nat} (f : Nat → Nat → Int) (hi : i < r) (hk : k < c) : (flat r c f).getD (i * c + k) 0 = f i k := by
  rw [List.getD_eq_getElem?_getD, flat_get f hi hk]; rfl
theorem flat_ext {r c : Nat} {l : List Int} {f : Nat → Nat → Int} (hl : l.length = r * c) (h : ∀ i k, i < r → k < c → l[i * c + k]? = some (f i k)) : l = flat r c f := by
  apply List.ext_getElem?
  intro j
  by_cases hj : j < r * c
  · obtain ⟨i, k, hi, hk, rfl⟩ := ix_of hj
    rw [h i k hi hk, flat_get f hi hk]
  · rw [List.getElem?_eq_none (by omega), List.getElem?_eq_none (by rw [flat_length]; omega)]
theorem flat_congr {r c : Nat} {f g : Nat → Nat → Int} (h : ∀ a b, a < r → b < c → f a b = g a b) : flat r c f = flat r c g :=
  flat_ext (flat_length _ _ _) fun i k hi hk => by rw [flat_get f hi hk, h i k hi hk]
theorem flat_inj {r c : Nat} {f g : Nat → Nat → Int} (h : flat r c f = flat r c g) {a b : Nat} (ha : a < r) (hb : b < c) : f a b = g a b := by
  have := flat_get f ha hb
  rw [h, flat_get g ha hb] at this
  injection this with this
  exact this.symm
theorem flat_set {r c i k : Nat} (f : Nat → Nat → Int) (x : Int) (hi : i < r) (hk : k < c) : (flat r c f).set (i * c + k) x = flat r c fun a b => if a = i ∧ b = k then x else f a b := by
  refine flat_ext (by simp [flat_length]) fun a b ha hb => ?_
  rw [List.getElem?_set]
  by_cases e : i * c + k = a * c + b
  · obtain ⟨rfl, rfl⟩ := ix_inj hk hb e
    rw [if_pos rfl, if_pos (by rw [flat_length]; exact ix_lt hi hk), if_pos ⟨rfl, rfl⟩]
  · rw [if_neg e, flat_get f ha hb, if_neg]
    rintro ⟨rfl, rfl⟩
    exact e rfl
theorem flat_zero (r c : Nat) : flat r c (fun _ _ => 0) = List.replicate (r * c) 0 := by
  refine (flat_ext (by simp) fun i k hi hk => ?_).symm
  have := ix_lt hi hk
  simp [this]
theorem flat_mem {r c : Nat} {f : Nat → Nat → Int} {x : Int} (h : x ∈ flat r c f) : ∃ i k, i < r ∧ k < c ∧ x = f i k := by
  simp only [flat, List.mem_map, List.mem_range] at h
  obtain ⟨j, hj, rfl⟩ := h
  obtain ⟨i, k, hi, hk, rfl⟩ := ix_of hj
  exact ⟨i, k, hi, hk, by rw [ix_div hk, ix_mod hk]⟩
/-- a list of so many numbers is told by its entries -/
def entry (l : List Int) (c i k : Nat) : Int := l.getD (i * c + k) 0
theorem flat_of {l : List Int} {r c : Nat} (hl : l.length = r * c) : l = flat r c (entry l c) :=
  flat_ext hl fun i k hi hk => by
    have := ix_lt hi hk
    rw [entry, List.getD_eq_getElem?_getD, List.getElem?_eq_getElem (by omega)]; rfl

def mxF (r c : Nat) (f : Nat → Nat → Int) : Mx := ⟨r, c, flat r c f⟩
theorem zmx_flat (r c : Nat) : zmx r c = mxF r c fun _ _ => 0 := by
  rw [mxF, flat_zero, zmx]
  congr
theorem mxF_congr {r c : Nat} {f g : Nat → Nat → Int} (h : ∀ a b, a < r → b < c → f a b = g a b) : mxF r c f = mxF r c g := by rw [mxF, mxF, flat_congr h]

/-- what a walk needs of an index -/
theorem ix_walk {i k r c : Nat} (hi : i < r) (hk : k < c) (hr : r ≤ 1000) (hc : c ≤ 1000) :
    ∃ P J : Nat, wrap64 ((i : Int) * (c : Int)) = (P : Int) ∧ P + k = J ∧ J = i * c + k ∧ J < r * c ∧ J ≤ 1000000 := by
  have h1 := ix_lt hi hk
  have h2 : r * c ≤ 1000 * 1000 := Nat.mul_le_mul hr hc
  refine ⟨i * c, i * c + k, ?_, rfl, rfl, h1, by omega⟩
  rw [show ((i : Int) * (c : Int)) = ((i * c : Nat) : Int) by simp]
  exact IntWalk.wrap64_in _ ⟨by omega, by omega⟩
end Go.Proofs.Ytgbchoenmpoojaa

/- Identity matrices: the program's and the reference's. -/
namespace Go.Proofs.Ytgbchoenmpoojaa
set_option linter.unusedVariables false
set_option linter.unusedSimpArgs false
open Go.RowKit

theorem IntsO.at_ {w : World} {lo hi : Nat} {v : Value} {l : List Int} (h : IntsO w lo hi v l) (h0 : 0 < l.length) : ∃ g c, v = .slice (some ⟨g, 0, none⟩) l.length c ∧ lo ≤ g ∧ g < hi ∧ g < w.heap.size := by
  rcases h.1.1.2 with ⟨rfl, h1⟩ | ⟨g, cap, cur, rfl, hg, hh, _⟩
  · omega
  · exact ⟨g, cap, rfl, hg, h.2 g rfl, (Array.getElem?_eq_some_iff.1 hh).1⟩
theorem IntsO.put {w : World} {lo hi g n cap j : Nat} {l : List Int} {x : Int} (h : IntsO w lo hi (.slice (some ⟨g, 0, none⟩) n cap) l) (hx : I64 x) : IntsO (w.setCell ⟨g, j, none⟩ (.int .i64 x)) lo hi (.slice (some ⟨g, 0, none⟩) n cap) (l.set j x) := ⟨(h.1.put hx).1, h.2⟩
def idF (a b : Nat) : Int := if a = b then 1 else 0
def idK (k a b : Nat) : Int := if a = b ∧ a < k then 1 else 0
theorem idK_0 (n : Nat) : flat n n (fun _ _ => 0) = flat n n (idK 0) := flat_congr fun a b _ _ => by simp [idK]
theorem idK_succ {n k : Nat} (h : k < n) : (flat n n (idK k)).set (k * n + k) 1 = flat n n (idK (k + 1)) := by
  rw [flat_set _ _ h h]
  refine flat_congr fun a b _ _ => ?_
  simp only [idK]
  by_cases e : a = b
  · subst e
    by_cases e2 : a = k
    · simp [e2]
    · simp only [e2, true_and, if_false, false_and]
      congr 1
      simp; omega
  · rw [if_neg (by omega), if_neg (by omega), if_neg (by omega)]
theorem idK_n (n : Nat) : flat n n (idK n) = flat n n idF := flat_congr fun a b ha _ => by simp [idK, idF, ha]

end Go.Proofs.Ytgbchoenmpoojaa

/- Lists of lists of ints of the call's own, taken as one thing: made, read, a row set, a number set, a row appended. -/
namespace Go.Proofs.Ytgbchoenmpoojaa
set_option linter.unusedVariables false
set_option linter.unusedSimpArgs false
open Go.RowKit

theorem IntssO.wider {w : World} {lo hi lo' hi' : Nat} {v : Value} {ll : List (List Int)} (h : IntssO w lo hi v ll) (h1 : lo' ≤ lo) (h2 : hi ≤ hi') : IntssO w lo' hi' v ll := by
  obtain ⟨vs, a, b, c⟩ := h
  exact ⟨vs, a.mono h1 h2, b, c.mono h1 h2⟩
theorem IntssO.form2 {w : World} {lo hi : Nat} {v : Value} {ll : List (List Int)} (h : IntssO w lo hi v ll) : ∃ A c, v = .slice A ll.length c ∧ ll.length ≤ c ∧ c ≤ 9223372036854775807 ∧ ll.length ≤ 17592186044416 := by
  obtain ⟨vs, a, b, c⟩ := h
  obtain ⟨A, d, h1, h2, h3⟩ := a.form
  exact ⟨A, d, by rw [h1, b], by omega, h3, by have := a.2.2; omega⟩
theorem IntssO.nil (w : World) (lo hi : Nat) : IntssO w lo hi (.slice none 0 0) [] := ⟨[], ⟨World.ownsRow_nil _ _ _ _, by simp [Value.ownBlock], by simp⟩, rfl, ⟨fun p hp => by simp at hp, by simp⟩⟩
theorem IntssO.made0 (w : World) {lo : Nat} (h : lo ≤ w.heap.size) : IntssO (w.alloc (.cells #[] 22)) lo (w.alloc (.cells #[] 22)).heap.size (.slice (some ⟨w.heap.size, 0, none⟩) 0 0) [] :=
  ⟨[], ⟨World.ownsRow_made w #[] 0 h (by simp [maxLen]) (by simp), by simp [Value.ownBlock], by simp⟩, rfl, ⟨fun p hp => by simp at hp, by simp⟩⟩
theorem IntssO.made (w : World) {lo n : Nat} (h : lo ≤ w.heap.size) (hn : n ≤ 17592186044416) : IntssO (w.alloc (.cells (mkCells (.slice none 0 0) n) 22)) lo (w.alloc (.cells (mkCells (.slice none 0 0) n) 22)).heap.size (.slice (some ⟨w.heap.size, 0, none⟩) n n) (List.replicate n []) := by
  refine ⟨List.replicate n (.slice none 0 0), ?_, by simp, ⟨fun p hp => ?_, ?_⟩⟩
  · have h1 := (Blk.new w 22 (mkCells (.slice none 0 0) n)).own (base := lo) (n := n) (cap := n) (size := 1) h (Nat.le_refl _) (by simp only [maxLen]; omega) (by rw [mkCells_size]; omega)
    rw [show (mkCells (.slice none 0 0) n).toList = List.replicate n (.slice none 0 0) from toList_madeCells_one _ _, List.take_of_length_le (by simp)] at h1
    exact ⟨by simpa using h1, fun k hk => by simp [Value.ownBlock] at hk; simp; omega, by simpa using hn⟩
  · obtain ⟨a, b⟩ := p
    have h1 := List.of_mem_zip hp
    obtain ⟨_, rfl⟩ := List.mem_replicate.1 h1.1
    obtain ⟨_, rfl⟩ := List.mem_replicate.1 h1.2
    exact ⟨OwnI.nil _ _, by simp [Value.ownBlock]⟩
  · rw [List.pairwise_iff_getElem]
    intro i j hi hj hij
    left
    simp [Value.ownBlock]
theorem IntssO.at_ {w : World} {lo hi : Nat} {v : Value} {ll : List (List Int)} (h : IntssO w lo hi v ll) (h0 : 0 < ll.length) : ∃ g c, v = .slice (some ⟨g, 0, none⟩) ll.length c ∧ lo ≤ g ∧ g < hi ∧ g < w.heap.size ∧ ll.length ≤ c ∧ c ≤ 9223372036854775807 := by
  obtain ⟨vs, a, b, c⟩ := h
  rcases a.1.2 with ⟨_, h1⟩ | ⟨g, cap, cur, rfl, hg, hh, hnc, hcm, _⟩
  · omega
  · exact ⟨g, cap, by rw [b], hg, a.2.1 g (by simp [Value.ownBlock]), (Array.getElem?_eq_some_iff.1 hh).1, by omega, by simp only [maxLen] at hcm; omega⟩
theorem IntssO.row {w : World} {lo hi g n c j : Nat} {ll : List (List Int)} {l : List Int} (h : IntssO w lo hi (.slice (some ⟨g, 0, none⟩) n c) ll) (hj : ll[j]? = some l) : ∃ u, w.cell? ⟨g, j, none⟩ = some u ∧ IntsO w lo hi u l ∧ w.frozen? ⟨g, j, none⟩ = false := by
  obtain ⟨vs, a, b, F⟩ := h
  have hl := lt_of_some hj
  have hv : vs[j]? = some (vs[j]'(by omega)) := List.getElem?_eq_getElem (by omega)
  exact ⟨_, a.cellS hv, F.1 (vs[j]'(by omega), l) (by rw [zip_split hv hj]; simp), a.frozenS j⟩
theorem OutO.blk {w : World} {lo hi g n c : Nat} {vs : List Value} (h : OutO w lo hi (.slice (some ⟨g, 0, none⟩) n c) vs) : ∃ cs, Blk w g 22 cs ∧ n = vs.length := by
  rcases h.1.2 with ⟨e, _⟩ | ⟨g', cap', cur, e, _, hh, _⟩
  · cases e
  · injection e with e1 e2 _
    injection e1 with e1
    injection e1 with e1
    subst e1
    exact ⟨cur, hh, e2⟩
/-- a row set: of memory made later than the rest -/
theorem IntssO.setRow {w : World} {lo hi mi hi' g n c j : Nat} {ll : List (List Int)} {l : List Int} {u : Value} (h : IntssO w lo hi (.slice (some ⟨g, 0, none⟩) n c) ll) (hj : j < ll.length) (hu : IntsO w mi hi' u l) (h1 : hi ≤ mi) (h2 : mi ≤ hi') (h3 : lo ≤ mi) :
    IntssO (w.setCell ⟨g, j, none⟩ u) lo hi' (.slice (some ⟨g, 0, none⟩) n c) (ll.set j l) ∧ Chg g (g + 1) w (w.setCell ⟨g, j, none⟩ u) := by
  obtain ⟨vs, a, b, F⟩ := h
  obtain ⟨cs, hb, hn⟩ := a.blk
  refine ⟨⟨vs.set j u, ?_, by simp [b], ?_⟩, chg_set (Nat.le_refl _) (Nat.lt_succ_self _)⟩
  · have h4 := (hn ▸ a.1).stored j u
    rw [hn]
    exact ⟨by simpa using h4.1, fun k hk => Nat.lt_of_lt_of_le (a.2.1 k (by simpa [Value.ownBlock] using hk)) (by omega), by simpa using a.2.2⟩
  · have hv : vs[j]? = some (vs[j]'(by omega)) := List.getElem?_eq_getElem (by omega)
    have hl : ll[j]? = some (ll[j]'hj) := List.getElem?_eq_getElem hj
    have hsv : (vs.set j u)[j]? = some u := by rw [List.getElem?_set, if_pos rfl, if_pos (by omega)]
    have hsl : (ll.set j l)[j]? = some l := by rw [List.getElem?_set, if_pos rfl, if_pos hj]
    have F2 := F.setBlk (i := j) hb (by decide) u
    have hu2 : IntsO (w.setCell ⟨g, j, none⟩ u) mi hi' u l := ⟨hu.1.setCell (p := ⟨g, j, none⟩) (fun e => hu.1.blkne hb (by decide) e.symm) u, hu.2⟩
    rw [zip_split hsv hsl, List.take_set_of_le (Nat.le_refl j), List.drop_set_of_lt (by omega), List.take_set_of_le (Nat.le_refl j), List.drop_set_of_lt (by omega)]
    rw [zip_split hv hl] at F2
    obtain ⟨G1, G2⟩ := F2
    rw [List.pairwise_append] at G2
    obtain ⟨P1, P2, P3⟩ := G2
    rw [List.pairwise_cons] at P2
    refine ⟨fun p hp => ?_, ?_⟩
    · rcases List.mem_append.1 hp with hp | hp
      · exact (G1 p (by simp [hp])).wider (Nat.le_refl _) (by omega)
      · rcases List.mem_cons.1 hp with rfl | hp
        · exact hu2.wider h3 (Nat.le_refl _)
        · exact (G1 p (by simp [hp])).wider (Nat.le_refl _) (by omega)
    · rw [List.pairwise_append, List.pairwise_cons]
      refine ⟨P1, ⟨fun p hp => ?_, P2.2⟩, fun p hp q hq => ?_⟩
      · rcases hA : u.ownBlock with _ | x
        · exact .inl rfl
        · refine .inr fun e2 => ?_
          have h5 := (G1 p (by simp [hp])).2 x e2.symm
          have h6 := (hu2.1.lt x hA).1
          omega
      · rcases List.mem_cons.1 hq with rfl | hq
        · rcases hA : p.1.ownBlock with _ | x
          · exact .inl rfl
          · refine .inr fun e => ?_
            have h5 := (G1 p (by simp [hp])).2 x hA
            have h6 := (hu2.1.lt x e.symm).1
            omega
        · exact P3 p hp q (by simp [hq])
/-- a number set in a row -/
theorem IntssO.putAt {w : World} {lo hi gr n c j i : Nat} {v : Value} {ll : List (List Int)} {l : List Int} {x : Int} (h : IntssO w lo hi v ll) (hj : ll[j]? = some l) (hx : I64 x)
    (hrow : ∀ vs, vs.length = ll.length → OutO w lo hi v vs → Fam w lo hi (vs.zip ll) → vs[j]? = some (.slice (some ⟨gr, 0, none⟩) n c)) :
    IntssO (w.setCell ⟨gr, i, none⟩ (.int .i64 x)) lo hi v (ll.set j (l.set i x)) ∧ w.grownBy (w.setCell ⟨gr, i, none⟩ (.int .i64 x)) (some gr) := by
  obtain ⟨vs, a, b, F⟩ := h
  have hv := hrow vs b a F
  have ho := F.1 (.slice (some ⟨gr, 0, none⟩) n c, l) (by rw [zip_split hv hj]; simp)
  obtain ⟨_, _, e⟩ := ho.form
  injection e with _ e _
  replace e : n = l.length := e
  subst e
  have hp := ho.1.put (j := i) hx
  exact ⟨⟨vs, a.grown ho.1 hp.2, by simp [b], F.putAt hv hj ho.1 hx⟩, hp.2⟩
theorem IntssO.cellRow {w : World} {lo hi g n' c' gr n c j : Nat} {ll : List (List Int)} (hc : w.cell? ⟨g, j, none⟩ = some (.slice (some ⟨gr, 0, none⟩) n c)) :
    ∀ vs, j < vs.length → OutO w lo hi (.slice (some ⟨g, 0, none⟩) n' c') vs → Fam w lo hi (vs.zip ll) → vs[j]? = some (.slice (some ⟨gr, 0, none⟩) n c) := fun vs hl ho _ => by
  have hv : vs[j]? = some (vs[j]'hl) := List.getElem?_eq_getElem hl
  have := ho.cellS hv
  rw [hc] at this
  rw [hv, this]
/-- a number set in a row, the row's value read from its cell -/
theorem IntssO.put {w : World} {lo hi g n' c' gr n c j i : Nat} {ll : List (List Int)} {l : List Int} {x : Int} (h : IntssO w lo hi (.slice (some ⟨g, 0, none⟩) n' c') ll) (hj : ll[j]? = some l) (hc : w.cell? ⟨g, j, none⟩ = some (.slice (some ⟨gr, 0, none⟩) n c)) (hx : I64 x) :
    IntssO (w.setCell ⟨gr, i, none⟩ (.int .i64 x)) lo hi (.slice (some ⟨g, 0, none⟩) n' c') (ll.set j (l.set i x)) ∧ w.grownBy (w.setCell ⟨gr, i, none⟩ (.int .i64 x)) (some gr) :=
  h.putAt hj hx fun vs hl ho F => IntssO.cellRow hc vs (by have := lt_of_some hj; omega) ho F
/-- append of a row -/
theorem wpList_appR {w : World} {ops : Array Oper} {rest : List Oper} {o : Oper} {a : Act} {Q : Exit → Act → World → Prop} (hgd : o.guard = none) (s x : Operand)
    (ho : o.op = .call { callee := .builtin .append, args := #[s, x], argTypes := #[36, 36] })
    (lo hi mi hi' : Nat) (v : Value) (ll : List (List Int)) (l : List Int) (hs : a.eval s = v) (hown : IntssO w lo hi v ll) (A : Option Addr) (c : Nat) (u : Value) (hx : a.eval x = .slice A 1 c) (hA : ∃ b o, A = some ⟨b, o, none⟩ ∧ w.cell? ⟨b, o, none⟩ = some u) (hu : IntsO w mi hi' u l)
    (h1 : hi ≤ mi) (h2 : mi ≤ hi') (h3 : lo ≤ mi) (hn : ll.length + 1 ≤ 1048576) (hlo : lo ≤ w.heap.size) (hhi : hi' ≤ w.heap.size)
    (h : ∀ v' w', IntssO w' lo w'.heap.size v' (ll ++ [l]) → Below lo w w' → w.grownBy w' v.ownBlock → wpList Try.prog ops Q rest (a.put o.dst v') w') : wpList Try.prog ops Q (o :: rest) a w := by
  obtain ⟨vs, h4, h5, h6⟩ := hown
  refine wpList_appS hgd s x ho lo v vs hs h4.1 A c u hx hA (by obtain ⟨A', c', rfl, _⟩ := hu.1.form; rfl) (by omega) hlo fun v' w' k1 k2 k3 => ?_
  have hbg : Below lo w w' := below_grown k2 (fun k hk => (h4.1.lt k hk).1) hlo
  have F2 := ((h6.mono (Nat.le_refl _) h1).snoc hu h3 h2).mono (Nat.le_refl _) (Nat.le_trans hhi hbg.size)
  have F3 := Fam.grownO (by simpa using F2) h4.1 k2
  refine h v' w' ⟨vs ++ [u], ⟨k1, fun k hk => (k1.lt k hk).2, by simp; omega⟩, by simp [h5], ?_⟩ hbg k2
  rw [List.zip_append h5]
  exact F3
theorem chg_belowB {B : Nat} {w w' : World} (h : Below B w w') : Chg B w.heap.size w w' := ⟨h.os, h.tape, h.output, h.size, fun k hk hne => h.block k (by omega)⟩
end Go.Proofs.Ytgbchoenmpoojaa

/- Rows of slice values, whatever they hold: reading, appending. -/
namespace Go.Proofs.Ytgbchoenmpoojaa
set_option linter.unusedVariables false
set_option linter.unusedSimpArgs false
open Go.RowKit

theorem addr_add (b o j : Nat) : (⟨b, o, none⟩ : Addr).add j = ⟨b, o + j, none⟩ := by unfold Addr.add; split <;> simp_all
def RV (w : World) (_B b o : Nat) (x : Value) : Prop := w.cell? ⟨b, o, none⟩ = some x ∧ x.oneCell' = true
abbrev SlV := SlG 1 RV
theorem SlV.below {w w' : World} {B : Nat} {v : Value} {l : List Value} (hb : Below B w w') (h : SlV w B v l) : SlV w' B v l :=
  SlG.mono (fun _ _ _ hlt ⟨hc, hx⟩ => ⟨bcell hb hlt hc, hx⟩) (Nat.le_refl _) h
theorem SlV.more {w : World} {B B' : Nat} {v : Value} {l : List Value} (hB : B ≤ B') (h : SlV w B v l) : SlV w B' v l :=
  SlG.mono (B := B) (B' := B') (fun _ _ _ _ h => h) hB h
theorem SlV.next {w w' : World} {v : Value} {l : List Value} (hb : Below w.heap.size w w') (h : SlV w w.heap.size v l) : SlV w' w'.heap.size v l := SlV.more hb.size (SlV.below hb h)
theorem SlV.one {w : World} {B : Nat} {v : Value} {l : List Value} (h : SlV w B v l) : ∀ u ∈ l, u.oneCell' = true := by
  obtain ⟨A, c, _, _, _, _, h4⟩ := h
  intro x hx
  obtain ⟨j, hj⟩ := List.getElem?_of_mem hx
  obtain ⟨_, _, _, _, hr⟩ := h4 (by have := lt_of_some hj; omega)
  exact (hr j x hj).2
theorem NewsAt.of_slV {w : World} {B : Nat} {A : Option Addr} {c : Nat} {l : List Value} (h : SlV w B (.slice A l.length c) l) : NewsAt w A l.length l 1 := by
  refine ⟨by simp, ?_⟩
  obtain ⟨A', c', e, h1, h2, h3, h4⟩ := h
  injection e with e1 e2 e3; subst e1
  rcases Nat.eq_zero_or_pos l.length with h0 | h0
  · exact .inl h0
  · obtain ⟨b, o, rfl, _, hc⟩ := h4 h0
    exact .inr ⟨b, o, rfl, fun j u hu => by simpa using (hc j u hu).1⟩
theorem SlV.takeS {w : World} {B c k : Nat} {A : Option Addr} {l : List Value} (h : SlV w B (.slice A l.length c) l) (hk : k ≤ l.length) : SlV w B (.slice A k c) (l.take k) := by
  obtain ⟨A', c', e, h1, h2, h3, h4⟩ := h
  injection e with e1 e2 e3
  subst e1 e3
  refine ⟨A, c, by rw [List.length_take]; congr 1; omega, by rw [List.length_take]; omega, h2, by rw [List.length_take]; omega, fun hp => ?_⟩
  rw [List.length_take] at hp
  obtain ⟨b, o, e, hb, hc⟩ := h4 (by omega)
  refine ⟨b, o, e, hb, fun j x hj => hc j x ?_⟩
  rw [List.getElem?_take] at hj
  split at hj
  · exact hj
  · cases hj
theorem SlV.dropS {w : World} {B c k g o : Nat} {l : List Value} (h : SlV w B (.slice (some ⟨g, o, none⟩) l.length c) l) (hk : k ≤ l.length) : SlV w B (.slice (some ⟨g, o + k, none⟩) (l.length - k) (c - k)) (l.drop k) := by
  have h' := h
  obtain ⟨A', c', e, h1, h2, h3, h4⟩ := h'
  injection e with e1 e2 e3
  subst e3
  refine ⟨some ⟨g, o + k, none⟩, c - k, by rw [List.length_drop], by rw [List.length_drop]; omega, by omega, by rw [List.length_drop]; omega, fun hp => ?_⟩
  rw [List.length_drop] at hp
  obtain ⟨b, o', e, hb, hc⟩ := h4 (by omega)
  rw [← e1] at e
  injection e with e
  injection e with e5 e6
  subst e5 e6
  refine ⟨g, o + k, rfl, hb, fun j x hj => ?_⟩
  rw [List.getElem?_drop] at hj
  have := hc _ x hj
  rwa [show o + (k + j) * 1 = o + k + j * 1 by omega] at this
/-- a row of slice values of the call's own -/
def OwnV (w : World) (base : Nat) (v : Value) (vs : List Value) : Prop := w.ownsRow base 22 1 v vs.length vs ∧ vs.length ≤ 17592186044416 ∧ ∀ u ∈ vs, u.oneCell' = true
theorem OwnV.rd {w : World} {base : Nat} {v : Value} {l : List Value} (h : OwnV w base v l) : SlV w w.heap.size v l := by
  obtain ⟨h1, h2, h3⟩ := h
  rcases h1.2 with ⟨rfl, h0⟩ | ⟨g, cap, cur, rfl, _, hg, hnc, hcm, hcs, htake⟩
  · obtain rfl : l = [] := List.eq_nil_of_length_eq_zero h0
    exact SlG.nil
  · refine ⟨_, _, rfl, hnc, by simp only [maxLen] at hcm; omega, h2, fun hp => ⟨g, 0, rfl, (Array.getElem?_eq_some_iff.1 hg).1, fun j x hj => ⟨?_, h3 x (List.mem_of_getElem? hj)⟩⟩⟩
    have hc := h1.cellAt j (by have := lt_of_some hj; omega)
    rw [show 0 + j * 1 = j by omega, hc, hj]
theorem OwnV.below {w w' : World} {base : Nat} {v : Value} {l : List Value} (h : OwnV w base v l) (hb : Below w.heap.size w w') : OwnV w' base v l :=
  ⟨h.1.kept (row := none) ⟨hb.os, hb.tape, hb.output, hb.size, fun k hk _ => hb.block k hk⟩ (by cases v.ownBlock <;> simp), h.2⟩
theorem OwnV.lt {w : World} {base : Nat} {v : Value} {l : List Value} (h : OwnV w base v l) : ∀ k, v.ownBlock = some k → base ≤ k ∧ k < w.heap.size := h.1.lt
theorem OwnV.lower {w : World} {base base' : Nat} {v : Value} {l : List Value} (h : OwnV w base v l) (hb : base' ≤ base) : OwnV w base' v l := by
  obtain ⟨⟨h0, h1⟩, h2⟩ := h
  refine ⟨⟨h0, ?_⟩, h2⟩
  rcases h1 with h1 | ⟨g, cap, cur, e, hg, rest⟩
  · exact .inl h1
  · exact .inr ⟨g, cap, cur, e, by omega, rest⟩
theorem OwnV.form {w : World} {base : Nat} {v : Value} {l : List Value} (h : OwnV w base v l) : ∃ A c, v = .slice A l.length c ∧ l.length ≤ c ∧ c ≤ 9223372036854775807 := by
  rcases h.1.2 with ⟨rfl, h0⟩ | ⟨g, cap, cur, rfl, _, _, hnc, hcm, _⟩
  · exact ⟨none, 0, by rw [h0], by omega, by omega⟩
  · exact ⟨_, _, rfl, hnc, by simp only [maxLen] at hcm; omega⟩
/-- append of rows onto a row of the call's own -/
theorem wpList_appV {w : World} {ops : Array Oper} {rest : List Oper} {o : Oper} {a : Act} {Q : Exit → Act → World → Prop} (hgd : o.guard = none) (s x : Operand)
    (ho : o.op = .call { callee := .builtin .append, args := #[s, x], argTypes := #[36, 36] })
    (base B : Nat) (v : Value) (l : List Value) (hs : a.eval s = v) (hown : OwnV w base v l) (A : Option Addr) (m c : Nat) (news : List Value) (hx : a.eval x = .slice A m c) (hm : m = news.length) (hr : SlV w B (.slice A news.length c) news)
    (hn : l.length + news.length ≤ 1048576) (hbase : base ≤ w.heap.size)
    (h : ∀ v' w', OwnV w' base v' (l ++ news) → w.grownBy w' v.ownBlock → (v'.ownBlock = v.ownBlock ∨ v'.ownBlock = some w.heap.size) → wpList Try.prog ops Q rest (a.put o.dst v') w') : wpList Try.prog ops Q (o :: rest) a w := by
  subst hm
  obtain ⟨i0, hi, hz0, hz1, hz2⟩ := info_parts infoInts
  refine wpList_append_G w hgd s x _ ho base 22 i0 _ 1 24 Try.underlying36 hi hz0 hz1 hz2 rfl (by decide) v l.length _ hs hown.1 A _ c _ hx (NewsAt.of_slV hr) (SlV.one hr) (by simp only [maxLen]; omega) (by omega) hbase fun v' w' h1 h2 h3 => ?_
  refine h v' w' ⟨by simpa using h1, by simp; omega, fun y hy => ?_⟩ h2 h3
  rcases List.mem_append.1 hy with hy | hy
  · exact hown.2.2 y hy
  · exact SlV.one hr y hy
/-- .. onto a slice that has just been made and holds nothing: what was there stands. -/
theorem wpList_append_freshV {w : World} {ops : Array Oper} {rest : List Oper} {o : Oper} {a : Act} {Q : Exit → Act → World → Prop} (hgd : o.guard = none) (s x : Operand)
    (ho : o.op = .call { callee := .builtin .append, args := #[s, x], argTypes := #[36, 36] })
    (g lo B : Nat) (cs : Array Value) (hs : a.eval s = .slice (some ⟨g, 0, none⟩) 0 0) (hg : Blk w g 22 cs) (hcs : cs.size = 0) (hlo : lo ≤ g) (A : Option Addr) (m c : Nat) (news : List Value) (hx : a.eval x = .slice A m c) (hm : m = news.length) (hr : SlV w B (.slice A news.length c) news) (hn2 : news.length ≤ 1048576)
    (h : ∀ v' w', OwnV w' lo v' news → Below w.heap.size w w' → wpList Try.prog ops Q rest (a.put o.dst v') w') : wpList Try.prog ops Q (o :: rest) a w := by
  subst hm
  obtain ⟨i0, hi, hz0, hz1, hz2⟩ := info_parts infoInts
  have hn := hr
  obtain ⟨_, _, _, _, _, hn, hcell⟩ := hn
  have hI := SlV.one hr
  refine wpList_plain hgd fun K hK => ?_
  by_cases hp : 0 < news.length
  · obtain ⟨hl, hnews⟩ := NewsAt.of_slV hr
    obtain ⟨b', of', eA', hc'⟩ := hnews.resolve_left (by omega)
    subst eA'
    have hadd : ∀ j, (⟨b', of', none⟩ : Addr).add j = ⟨b', of' + j, none⟩ := addr_add b' of'
    obtain ⟨v', w', hrun, hown, hgr⟩ := run_append_arg_grows (P := Try.prog) w 36 o.type 22 i0 _ 1 24 Try.underlying36 hi hz0 hz1 hz2 rfl (by decide) ⟨g, 0, none⟩ 0 0 [] (by simp) (by intro j u hj; simp at hj) ⟨b', of', none⟩ news.length c news hl (fun j u hj => by rw [hadd]; exact hc' j u hj) (by omega) (by simp only [maxLen]; omega) (by omega)
    unfold Oper.wp execOp
    simp only [ho, resolve, invoke, builtin, Sem.run_bind, Sem.run_pure, Result.andThen_ok, List.map_toArray, List.map_cons, List.map_nil, hs, hx, hrun]
    refine hK _ _ (h v' w' ?_ ⟨hgr.os, hgr.tape, hgr.output, hgr.size, fun k hk => hgr.block k hk (by simp)⟩)
    have hgl := hg.lt
    exact OwnV.lower (base := w.heap.size) ⟨by simpa using hown, hn, hI⟩ (by omega)
  · have h0 : news = [] := List.eq_nil_of_length_eq_zero (by omega)
    subst h0
    have hrun : (Builtin.append_ #[36, 36] o.type #[.slice (some ⟨g, 0, none⟩) 0 0, .slice A 0 c]).run Try.prog w = .ok (.slice (some ⟨g, 0, none⟩) 0 0) w := by
      cases A <;> simp [Builtin.append_, run_underlying (P := Try.prog) Try.underlying36, sizeOf, typeInfo, hi, Builtin.lenOf, Builtin.firstCells, storeCells, loadCells, loadCellsFrom]
    simp only [List.length_nil] at hx
    unfold Oper.wp execOp
    simp only [ho, resolve, invoke, builtin, Sem.run_bind, Sem.run_pure, Result.andThen_ok, List.map_toArray, List.map_cons, List.map_nil, hs, hx, hrun]
    refine hK _ _ (h _ w ?_ (Below.refl _ _))
    have := hg.own (base := lo) (n := 0) (cap := 0) (size := 1) hlo (Nat.le_refl _) (by simp only [maxLen]; omega) (by omega)
    exact ⟨by simpa using this, by simp, by simp⟩
def FreshV (w : World) (lo : Nat) (u : Value) : Prop := ∃ g, u = .slice (some ⟨g, 0, none⟩) 0 0 ∧ lo ≤ g ∧ Blk w g 22 #[]
theorem FreshV.below {w w' : World} {lo : Nat} {u : Value} (h : FreshV w lo u) (hb : Below w.heap.size w w') : FreshV w' lo u := by
  obtain ⟨g, e, h1, h2⟩ := h
  exact ⟨g, e, h1, h2.call hb⟩
theorem FreshV.new (w : World) {lo : Nat} (h : lo ≤ w.heap.size) : FreshV (w.alloc (.cells #[] 22)) lo (.slice (some ⟨w.heap.size, 0, none⟩) 0 0) := ⟨_, rfl, h, Blk.new _ _ _⟩
/-- the one-cell block that 'append(out, row)' lays first -/
theorem SlV.new (w : World) (t : TypeId) (x : Value) (hx : x.oneCell' = true) : SlV (w.alloc (.cells #[x] t)) (w.alloc (.cells #[x] t)).heap.size (.slice (some ⟨w.heap.size, 0, none⟩) 1 1) [x] := by
  refine ⟨_, 1, rfl, by simp, by omega, by simp, fun _ => ⟨w.heap.size, 0, rfl, by simp, fun j y hj => ?_⟩⟩
  match j, hj with
  | 0, hj =>
    simp at hj
    subst hj
    exact ⟨by simp, hx⟩
  | j + 1, hj => simp at hj
theorem SlI.oneC {w : World} {B : Nat} {v : Value} {l : List Int} (h : SlI w B v l) : v.oneCell' = true := by
  obtain ⟨A, c, rfl, _⟩ := h; rfl
theorem SlV.ii {w : World} {B : Nat} {v : Value} {vs : List Value} {ll : List (List Int)} (h : SlV w B v vs) (hl : vs.length = ll.length) (hr : ∀ (j : Nat) (u : Value) (l : List Int), vs[j]? = some u → ll[j]? = some l → SlI w B u l) : SlII w B v ll := by
  obtain ⟨A, c, rfl, h1, h2, h3, h4⟩ := h
  refine ⟨A, c, by rw [hl], by omega, h2, by omega, fun hp => ?_⟩
  obtain ⟨b, o, e, hb, hc⟩ := h4 (by omega)
  refine ⟨b, o, e, hb, fun j l hj => ?_⟩
  have hlt := lt_of_some hj
  have hv : vs[j]? = some (vs[j]'(by omega)) := List.getElem?_eq_getElem (by omega)
  exact ⟨_, (hc j _ hv).1, hr j _ l hv hj⟩
end Go.Proofs.Ytgbchoenmpoojaa

/- Rows of paths that begin at one vertex: read, owned, appended. -/
namespace Go.Proofs.Ytgbchoenmpoojaa
set_option linter.unusedVariables false
set_option linter.unusedSimpArgs false
open Go.RowKit

theorem infoPath : (Try.prog.info? 118).map (fun i => (i.zero, i.size, i.bytes)) = some (some (.agg #[.int .i64 0, .slice none 0 0]), 2, 32) := by kernel_rfl
/-- .. in two cells -/
def RPt (s : Int) (w : World) (B b o : Nat) (r : List Int) : Prop := ∃ a, w.cell? ⟨b, o, none⟩ = some (.int .i64 s) ∧ w.cell? ⟨b, o + 1, none⟩ = some a ∧ SlI w B a r
abbrev SlP (s : Int) := SlG 2 (RPt s)
theorem SlP.below {s : Int} {w w' : World} {B : Nat} {v : Value} {l : List (List Int)} (hb : Below B w w') (h : SlP s w B v l) : SlP s w' B v l :=
  SlG.mono (fun _ _ _ hlt ⟨a, h0, h1, hs⟩ => ⟨a, bcell hb hlt h0, bcell hb hlt h1, SlI.below hb hs⟩) (Nat.le_refl _) h
theorem SlP.more {s : Int} {w : World} {B B' : Nat} {v : Value} {l : List (List Int)} (hB : B ≤ B') (h : SlP s w B v l) : SlP s w B' v l :=
  SlG.mono (B := B) (B' := B') (fun _ _ _ _ ⟨a, h0, h1, hs⟩ => ⟨a, h0, h1, SlI.more hB hs⟩) hB h
theorem SlP.next {s : Int} {w w' : World} {v : Value} {l : List (List Int)} (hb : Below w.heap.size w w') (h : SlP s w w.heap.size v l) : SlP s w' w'.heap.size v l := SlP.more hb.size (SlP.below hb h)
theorem SlP.at_ {s : Int} {w : World} {B c : Nat} {A : Option Addr} {xs : List (List Int)} {k : Nat} (h : SlP s w B (.slice A xs.length c) xs) (hk : k < xs.length) :
    ∃ b o r A' c', A = some ⟨b, o, none⟩ ∧ b < B ∧ Hid (xs[k]? = some r) ∧ w.cell? ⟨b, o + k * 2, none⟩ = some (.int .i64 s) ∧ w.cell? ⟨b, o + k * 2 + 1, none⟩ = some (.slice A' r.length c') ∧
      SlI w B (.slice A' r.length c') r ∧ r.length ≤ c' ∧ c' ≤ 9223372036854775807 ∧ r.length ≤ 17592186044416 := by
  obtain ⟨A', c', e, h1, h2, h3, h4⟩ := h
  injection e with e1 e2 e3; subst e1
  obtain ⟨b, o, rfl, hb, hc⟩ := h4 (by omega)
  have hx : xs[k]? = some xs[k] := List.getElem?_eq_getElem hk
  obtain ⟨a, c0, c1, hs⟩ := hc k _ hx
  obtain ⟨A2, c3, rfl, h6, h7, h5, hs⟩ := hs.open_
  exact ⟨b, o, xs[k], A2, c3, rfl, hb, hx, c0, c1, hs, h6, h7, h5⟩
def pcs (s : Int) : List Value → List Value
  | [] => []
  | u :: vs => .int .i64 s :: u :: pcs s vs
theorem pcs_length (s : Int) : ∀ vs : List Value, (pcs s vs).length = vs.length * 2
  | [] => rfl
  | _ :: vs => by simp only [pcs, List.length_cons, pcs_length s vs]; omega
theorem pcs_get {s : Int} : ∀ {vs : List Value} {j : Nat} {u : Value}, vs[j]? = some u → (pcs s vs)[j * 2]? = some (.int .i64 s) ∧ (pcs s vs)[j * 2 + 1]? = some u
  | [], _, _, h => by simp at h
  | v :: vs, 0, u, h => by simp at h; subst h; simp [pcs]
  | v :: vs, j + 1, u, h => by
    rw [List.getElem?_cons_succ] at h
    obtain ⟨a, b⟩ := pcs_get (s := s) h
    simp only [pcs, show (j + 1) * 2 = j * 2 + 1 + 1 by omega, show j * 2 + 1 + 1 + 1 = (j * 2 + 1) + 1 + 1 by omega, List.getElem?_cons_succ]
    exact ⟨a, b⟩
theorem pcs_append (s : Int) : ∀ xs ys : List Value, pcs s (xs ++ ys) = pcs s xs ++ pcs s ys
  | [], _ => rfl
  | _ :: xs, ys => by simp only [List.cons_append, pcs, pcs_append s xs ys]
theorem pcs_one {s : Int} : ∀ {vs : List Value}, (∀ u ∈ vs, u.oneCell' = true) → ∀ u ∈ pcs s vs, u.oneCell' = true
  | [], _, u, hu => by simp [pcs] at hu
  | v :: vs, h, u, hu => by
    simp only [pcs, List.mem_cons] at hu
    rcases hu with rfl | rfl | hu
    · rfl
    · exact h _ (by simp)
    · exact pcs_one (fun y hy => h y (by simp [hy])) u hu
/-- the arrows of paths: rows of the call's own -/
def ArO (w : World) (la : Nat) (vs : List Value) (ll : List (List Int)) : Prop := vs.length = ll.length ∧ ∀ (j : Nat) (u : Value) (l : List Int), vs[j]? = some u → ll[j]? = some l → OwnI w la u l
theorem ArO.below {w w' : World} {la : Nat} {vs : List Value} {ll : List (List Int)} (h : ArO w la vs ll) (hb : Below w.heap.size w w') : ArO w' la vs ll := ⟨h.1, fun j u l h1 h2 => (h.2 j u l h1 h2).below hb⟩
theorem ArO.lower {w : World} {la la' : Nat} {vs : List Value} {ll : List (List Int)} (h : ArO w la vs ll) (hl : la' ≤ la) : ArO w la' vs ll := ⟨h.1, fun j u l h1 h2 => (h.2 j u l h1 h2).lower hl⟩
/-- a row of another type turned leaves them -/
theorem ArO.grown {w w' : World} {la lo n sz : Nat} {T : TypeId} {v : Value} {cs : List Value} {vs : List Value} {ll : List (List Int)} (h : ArO w la vs ll) (ho : w.ownsRow lo T sz v n cs) (hT : 3 ≠ T) (hg : w.grownBy w' v.ownBlock) : ArO w' la vs ll := by
  refine ⟨h.1, fun j u l h1 h2 => (h.2 j u l h1 h2).kept hg ?_⟩
  rcases ho.2 with ⟨rfl, _⟩ | ⟨g, cap, cur, rfl, _, hh, _⟩
  · rcases hu : u.ownBlock with _ | k
    · exact .inl rfl
    · right; simp [Value.ownBlock]
  · right
    exact fun e => (h.2 j u l h1 h2).blkne (g := g) (t := T) (cs := cur) hh hT e.symm
theorem ArO.app {w : World} {la : Nat} {vs us : List Value} {ll mm : List (List Int)} (h : ArO w la vs ll) (k : ArO w la us mm) : ArO w la (vs ++ us) (ll ++ mm) := by
  refine ⟨by rw [List.length_append, List.length_append, h.1, k.1], fun j u l h1 h2 => ?_⟩
  by_cases hj : j < vs.length
  · rw [List.getElem?_append_left hj] at h1
    rw [List.getElem?_append_left (by rw [← h.1]; exact hj)] at h2
    exact h.2 j u l h1 h2
  · rw [List.getElem?_append_right (by omega)] at h1
    rw [List.getElem?_append_right (by rw [← h.1]; omega), ← h.1] at h2
    exact k.2 _ u l h1 h2
theorem ArO.oneC {w : World} {la : Nat} {vs : List Value} {ll : List (List Int)} (h : ArO w la vs ll) : ∀ u ∈ vs, u.oneCell' = true := by
  intro u hu
  obtain ⟨j, hj⟩ := List.getElem?_of_mem hu
  have hl := lt_of_some hj
  obtain ⟨A, c, e, _⟩ := (h.2 j u _ hj (List.getElem?_eq_getElem (by rw [← h.1]; exact hl))).form
  rw [e]; rfl
/-- a row of paths from s: the row from lo on, the arrows from la on -/
def PtsO (s : Int) (w : World) (lo la : Nat) (v : Value) (ll : List (List Int)) : Prop := ∃ vs, ArO w la vs ll ∧ w.ownsRow lo 118 2 v ll.length (pcs s vs) ∧ ll.length ≤ 17592186044416
theorem PtsO.below {s : Int} {w w' : World} {lo la : Nat} {v : Value} {ll : List (List Int)} (h : PtsO s w lo la v ll) (hb : Below w.heap.size w w') : PtsO s w' lo la v ll := by
  obtain ⟨vs, h1, h2, h3⟩ := h
  exact ⟨vs, h1.below hb, h2.kept (row := none) ⟨hb.os, hb.tape, hb.output, hb.size, fun k hk _ => hb.block k hk⟩ (by cases v.ownBlock <;> simp), h3⟩
theorem PtsO.lower {s : Int} {w : World} {lo la lo' la' : Nat} {v : Value} {ll : List (List Int)} (h : PtsO s w lo la v ll) (h1 : lo' ≤ lo) (h2 : la' ≤ la) : PtsO s w lo' la' v ll := by
  obtain ⟨vs, ha, ⟨h0, hr⟩, h3⟩ := h
  refine ⟨vs, ha.lower h2, ⟨h0, ?_⟩, h3⟩
  rcases hr with hr | ⟨g, cap, cur, e, hg, rest⟩
  · exact .inl hr
  · exact .inr ⟨g, cap, cur, e, by omega, rest⟩
theorem PtsO.form {s : Int} {w : World} {lo la : Nat} {v : Value} {ll : List (List Int)} (h : PtsO s w lo la v ll) : ∃ A c, v = .slice A ll.length c ∧ ll.length ≤ c ∧ c ≤ 9223372036854775807 := by
  obtain ⟨vs, _, h2, _⟩ := h
  rcases h2.2 with ⟨rfl, h0⟩ | ⟨g, cap, cur, rfl, _, _, hnc, hcm, _⟩
  · exact ⟨none, 0, by rw [h0], by omega, by omega⟩
  · exact ⟨_, _, rfl, hnc, by simp only [maxLen] at hcm; omega⟩
theorem PtsO.lt {s : Int} {w : World} {lo la : Nat} {v : Value} {ll : List (List Int)} (h : PtsO s w lo la v ll) : ∀ k, v.ownBlock = some k → lo ≤ k ∧ k < w.heap.size := by
  obtain ⟨vs, _, h2, _⟩ := h
  exact h2.lt
theorem PtsO.news {s : Int} {w : World} {lo la n c : Nat} {A : Option Addr} {ll : List (List Int)} (h : PtsO s w lo la (.slice A n c) ll) : n = ll.length ∧ ∃ vs, ArO w la vs ll ∧ NewsAt w A n (pcs s vs) 2 := by
  obtain ⟨vs, h1, h2, h3⟩ := h
  have hpl := pcs_length s vs
  rcases h2.2 with ⟨e, h0⟩ | ⟨g, cap, cur, e, _, hg, hnc, hcm, _⟩
  · injection e with e1 e2 e3
    exact ⟨by omega, vs, h1, by rw [hpl, h1.1]; omega, .inl (by omega)⟩
  · injection e with e1 e2 e3
    refine ⟨e2, vs, h1, by rw [hpl, h1.1, e2], .inr ⟨g, 0, e1, fun j u hj => ?_⟩⟩
    have hj2 := lt_of_some hj
    have e4 : Value.slice A n c = .slice (some ⟨g, 0, none⟩) ll.length cap := by rw [e1, e2, e3]
    rw [e4] at h2
    have := h2.cellAt j (by rw [hpl, h1.1] at hj2; exact hj2)
    rw [Nat.zero_add, this, hj]
theorem PtsO.rd {s : Int} {w : World} {lo la : Nat} {v : Value} {ll : List (List Int)} (h : PtsO s w lo la v ll) : SlP s w w.heap.size v ll := by
  obtain ⟨vs, h1, h2, h3⟩ := h
  rcases h2.2 with ⟨rfl, h0⟩ | ⟨g, cap, cur, rfl, _, hg, hnc, hcm, hcs, htake⟩
  · obtain rfl : ll = [] := List.eq_nil_of_length_eq_zero h0
    exact SlG.nil
  · refine ⟨_, _, rfl, hnc, by simp only [maxLen] at hcm; omega, h3, fun hp => ⟨g, 0, rfl, (Array.getElem?_eq_some_iff.1 hg).1, fun j x hj => ?_⟩⟩
    have hjl := lt_of_some hj
    have hv : vs[j]? = some (vs[j]'(by have := h1.1; omega)) := List.getElem?_eq_getElem (by have := h1.1; omega)
    obtain ⟨a, b⟩ := pcs_get (s := s) hv
    have e := fun i (hi : i < 2) => h2.cellAt (j * 2 + i) (by omega)
    refine ⟨vs[j]'(by have := h1.1; omega), ?_, ?_, (h1.2 j _ _ hv hj).rd⟩
    · rw [show 0 + j * 2 = j * 2 + 0 by omega, e 0 (by omega)]; exact a
    · rw [show 0 + j * 2 + 1 = j * 2 + 1 by omega, e 1 (by omega)]; exact b
theorem PtsO.nil (s : Int) (w : World) (lo la : Nat) : PtsO s w lo la (.slice none 0 0) [] := ⟨[], ⟨rfl, by simp⟩, World.ownsRow_nil _ _ _ _, by simp⟩
/-- another row of paths turned leaves it -/
theorem PtsO.grown {s s2 : Int} {w w' : World} {lo la lo2 la2 : Nat} {v u : Value} {ll mm : List (List Int)} (h : PtsO s w lo la v ll) (ho : PtsO s2 w lo2 la2 u mm) (hne : v.ownBlock = none ∨ v.ownBlock ≠ u.ownBlock) (hg : w.grownBy w' u.ownBlock) : PtsO s w' lo la v ll := by
  obtain ⟨vs, h1, h2, h3⟩ := h
  obtain ⟨us, _, k2, _⟩ := ho
  exact ⟨vs, h1.grown k2 (by decide) hg, h2.kept hg hne, h3⟩
/-- the row of one path -/
theorem PtsO.new {s : Int} {w : World} {lo la g : Nat} {u : Value} {l : List Int} (hlo : lo ≤ g) (hb : Blk w g 118 #[.int .i64 s, u]) (hu : OwnI w la u l) : PtsO s w lo la (.slice (some ⟨g, 0, none⟩) 1 1) [l] := by
  refine ⟨[u], ⟨rfl, fun j u' l' h1 h2 => ?_⟩, ?_, by simp⟩
  · match j, h1, h2 with
    | 0, h1, h2 => simp at h1 h2; subst h1 h2; exact hu
    | j + 1, h1, h2 => simp at h1
  · have := hb.own (base := lo) (n := 1) (cap := 1) (size := 2) hlo (Nat.le_refl _) (by simp only [maxLen]; omega) (by rfl)
    exact this
/-- append of paths onto a row of the call's own -/
theorem wpList_appP {w : World} {ops : Array Oper} {rest : List Oper} {o : Oper} {a : Act} {Q : Exit → Act → World → Prop} (hgd : o.guard = none) (x y : Operand)
    (ho : o.op = .call { callee := .builtin .append, args := #[x, y], argTypes := #[98, 98] })
    (s : Int) (lo la lo2 : Nat) (v : Value) (ll : List (List Int)) (hs : a.eval x = v) (hown : PtsO s w lo la v ll) (A : Option Addr) (m c : Nat) (news : List (List Int)) (hx : a.eval y = .slice A m c) (hr : PtsO s w lo2 la (.slice A m c) news)
    (hn : ll.length + news.length ≤ 1048576) (hlo : lo ≤ w.heap.size)
    (h : ∀ v' w', PtsO s w' lo la v' (ll ++ news) → Below lo w w' → w.grownBy w' v.ownBlock → (v'.ownBlock = v.ownBlock ∨ v'.ownBlock = some w.heap.size) → wpList Try.prog ops Q rest (a.put o.dst v') w') : wpList Try.prog ops Q (o :: rest) a w := by
  obtain ⟨rfl, us, hu1, hu2⟩ := hr.news
  obtain ⟨vs, h1, h2, h3⟩ := hown
  obtain ⟨i0, hi', hz0, hz1, hz2⟩ := info_parts infoPath
  refine wpList_append_G w hgd x y _ ho lo 118 i0 _ 2 32 Try.underlying98 hi' hz0 hz1 hz2 rfl (by decide) v ll.length _ hs h2 A news.length c (pcs s us) hx hu2 (pcs_one hu1.oneC) (by simp only [maxLen]; omega) (by omega) hlo fun v' w' k1 k2 k3 => ?_
  refine h v' w' ⟨vs ++ us, (h1.grown h2 (by decide) k2).app (hu1.grown h2 (by decide) k2), ?_, by simp; omega⟩ (below_grown k2 (fun k hk => (h2.lt k hk).1) hlo) k2 k3
  rw [pcs_append, List.length_append]
  exact k1
end Go.Proofs.Ytgbchoenmpoojaa

/- (Quiver).end -/
namespace Go.Proofs.Ytgbchoenmpoojaa
set_option linter.unusedVariables false
set_option linter.unusedSimpArgs false
open Go.RowKit

def PtR (s : Int) (w : World) (B : Nat) (val : Value) (r : List Int) : Prop := ∃ a, val = .agg #[.int .i64 s, a] ∧ SlI w B a r
theorem PtR.next {s : Int} {w w' : World} {v : Value} {r : List Int} (hb : Below w.heap.size w w') (h : PtR s w w.heap.size v r) : PtR s w' w'.heap.size v r := by
  obtain ⟨a, e, h1⟩ := h; exact ⟨a, e, SlI.next hb h1⟩
theorem PtR.open_ {s : Int} {w : World} {B : Nat} {v : Value} {r : List Int} (h : PtR s w B v r) : ∃ A c, v = .agg #[.int .i64 s, .slice A r.length c] ∧ SlI w B (.slice A r.length c) r ∧ r.length ≤ c ∧ c ≤ 9223372036854775807 ∧ r.length ≤ 17592186044416 := by
  obtain ⟨a, rfl, h1⟩ := h
  obtain ⟨A, c, rfl, h6, h7, h5, hs⟩ := h1.open_
  exact ⟨A, c, rfl, hs, h6, h7, h5⟩
/-- the last arrow of a path -/
theorem endP_get {q : Qv} {s : Int} {r : List Int} (hl : q.f.length = q.t.length) (hv : vldP q s r) (h0 : 0 < r.length) : ∃ (i : Nat) (b : Int), r[r.length - 1]? = some (i : Int) ∧ q.t[i]? = some b ∧ endP q s r = b := by
  have hd : r = r.dropLast ++ [r.getLast (List.ne_nil_of_length_pos h0)] := (List.dropLast_concat_getLast _).symm
  obtain ⟨l, a, hla⟩ : ∃ l a, r = l ++ [a] := ⟨_, _, hd⟩
  subst hla
  have hm := vldP_mem _ _ hv a (by simp)
  refine ⟨a.toNat, q.t[a.toNat]'(by omega), by simp; omega, List.getElem?_eq_getElem _, ?_⟩
  rw [endP_last, List.getD_eq_getElem?_getD, List.getElem?_eq_getElem (by omega)]; rfl
set_option maxHeartbeats 800000 in
theorem implEnd_any (u x : Value) (q : Qv) (s : Int) (r : List Int) (w0 : World) (hu : QvR w0 w0.heap.size u q) (hx : PtR s w0 w0.heap.size x r) (hl : q.f.length = q.t.length) (hv : vldP q s r) :
    Calls Try.prog 146 #[u, x] w0 fun e w' => e = .returned (.int .i64 (endP q s r)) ∧ Below w0.heap.size w0 w' := by
  obtain ⟨A, c, C, d, rfl, hf, hT, hr, lf, lt⟩ := hu.open_
  obtain ⟨E, a, rfl, hE, he1, he2, he3⟩ := hx.open_
  clear hu hx
  obtain ⟨W, hW⟩ : ∃ W, W = (w0.alloc (.cells #[.int .i64 q.v, .slice A q.f.length c, .slice C q.t.length d] 27)).alloc (.cells #[.int .i64 s, .slice E r.length a] 118) := ⟨_, rfl⟩
  have g0 : Below w0.heap.size w0 W := by rw [hW]; exact ((Below.refl _ _).alloc (Nat.le_refl _) _).alloc (by simp) _
  have kB : Blk W w0.heap.size 27 #[.int .i64 q.v, .slice A q.f.length c, .slice C q.t.length d] := by rw [hW]; exact (Blk.new _ _ _).alloc _
  have kP : Blk W (w0.heap.size + 1) 118 #[.int .i64 s, .slice E r.length a] := by rw [hW]; have := Blk.new (w0.alloc (.cells #[.int .i64 q.v, .slice A q.f.length c, .slice C q.t.length d] 27)) 118 #[.int .i64 s, .slice E r.length a]; simpa only [World.size_alloc] using this
  have c2 := kB.cell' (i := 2) rfl
  have p0 := kP.cell' (i := 0) rfl
  have p1 := kP.cell' (i := 1) rfl
  have HL := Lib.hid hl
  clear hl
  by_cases h0 : r.length = 0
  · have hr0 : r = [] := List.eq_nil_of_length_eq_zero h0
    subst hr0
    simp only [List.length_nil] at hW p1
    clear kB kP hE hv c2 he1 he3 h0
    go_enter Try.func146, Try.ntmps146
    go_wp2
    rw [← hW]
    go_ret
    exact ⟨rfl, g0⟩
  · obtain ⟨i, b, h1, h2, h3⟩ := endP_get HL.out hv (by omega)
    rw [h3]
    have hil := lt_of_some h2
    obtain ⟨b1, o1, x1, rfl, hb1, HX, y1, _⟩ := SlI.at_ hE (k := r.length - 1) (by omega)
    obtain rfl : x1 = (i : Int) := by have := HX.out; rw [h1] at this; injection this with this; exact this.symm
    obtain ⟨b2, o2, x2, rfl, hb2, HT, y2, _⟩ := SlI.at_ hT hil
    obtain rfl : x2 = b := by have := HT.out; rw [h2] at this; injection this with this; exact this.symm
    have z1 := bcell g0 hb1 y1
    have z2 := bcell g0 hb2 y2
    have hlen : decide ((r.length : Int) = 0) = false := decide_eq_false (by omega)
    have hcast : ((r.length - 1 : Nat) : Int) = (r.length : Int) - 1 := by omega
    clear kB kP hE hv h1 h2 h3 y1 y2 HX HT hf hT
    go_enter Try.func146, Try.ntmps146
    go_wp2_with fail
    rw [← hW]; clear hW
    go_wp2_with fail
    go_quiet (fail)
    go_wp2
    go_ret
    exact ⟨rfl, below_drewN g0 _⟩
end Go.Proofs.Ytgbchoenmpoojaa

/- The reference's IsPath and EndOf at paths. -/
namespace Go.Proofs.Ytgbchoenmpoojaa
set_option linter.unusedVariables false
set_option linter.unusedSimpArgs false
open Go.RowKit

theorem inR_yes {x a b : Int} (h1 : a ≤ x) (h2 : x ≤ b) : inR x a b = true := inR_t.2 ⟨h1, h2⟩
set_option maxHeartbeats 1600000 in
theorem specIsPath_any (u x : Value) (q : Qv) (s : Int) (r : List Int) (w0 : World) (hu : QvR w0 w0.heap.size u q) (hx : PtR s w0 w0.heap.size x r) (hq : isQ q = true) (h0 : 0 ≤ s) (h1 : s ≤ q.v - 1) (hv : vldP q s r) (hn : r.length ≤ 20) :
    Calls Try.prog 142 #[u, x] w0 fun e w' => e = .returned (.bool true) ∧ Below w0.heap.size w0 w' := by
  have hu' := hu
  obtain ⟨A, c, C, d, rfl, hf, hT, hr, lf, lt⟩ := hu.open_
  obtain ⟨E, a, rfl, hE, he1, he2, he3⟩ := hx.open_
  clear hu hx
  obtain ⟨W, hW⟩ : ∃ W, W = (w0.alloc (.cells #[.int .i64 q.v, .slice A q.f.length c, .slice C q.t.length d] 27)).alloc (.cells #[.int .i64 s, .slice E r.length a] 118) := ⟨_, rfl⟩
  have g0 : Below w0.heap.size w0 W := by rw [hW]; exact ((Below.refl _ _).alloc (Nat.le_refl _) _).alloc (by simp) _
  have kB : Blk W w0.heap.size 27 #[.int .i64 q.v, .slice A q.f.length c, .slice C q.t.length d] := by rw [hW]; exact (Blk.new _ _ _).alloc _
  have kP : Blk W (w0.heap.size + 1) 118 #[.int .i64 s, .slice E r.length a] := by rw [hW]; have := Blk.new (w0.alloc (.cells #[.int .i64 q.v, .slice A q.f.length c, .slice C q.t.length d] 27)) 118 #[.int .i64 s, .slice E r.length a]; simpa only [World.size_alloc] using this
  obtain ⟨hv5, hlen, h6, _, _⟩ := isQ_t.1 hq
  have HL := Lib.hid hlen
  have HQ := Lib.hid hq
  have HU := Lib.hid (QvR.next g0 hu')
  have c0 := kB.cell' (i := 0) rfl
  have p0 := kP.cell' (i := 0) rfl
  have p1 := kP.cell' (i := 1) rfl
  have hin := inR_yes h0 h1
  clear hlen hq hu'
  go_enter Try.func142, Try.ntmps142
  go_wp2_with fail
  rw [← hW]; clear hW
  go_wp2_with fail
  refine (specIsQuiver_any _ q _ HU.out).mono ?_; rintro e w1 ⟨rfl, hb1⟩
  rw [HQ.out]
  have g1 := bthen g0 hb1
  have kB1 := kB.call hb1
  have kP1 := kP.call hb1
  clear c0 p0 p1 g0 hb1 HU kB kP
  have c0 := kB1.cell' (i := 0) rfl
  have p1 := kP1.cell' (i := 1) rfl
  have hsub : wrap64 (q.v - 1) = q.v - 1 := by unfold wrap64; omega
  go_wp2_with fail
  refine (l1In_any _ _ _ _).mono ?_; rintro e w' ⟨rfl, rfl⟩
  rw [hin]
  clear hsub
  have HV := Lib.hid hv
  clear hv hin
  go_wp2
  go_loopw [5, 6] (fun a i wr => ∃ (k : Nat) (t : Int), k ≤ r.length ∧ i = .int .i64 k ∧ a = .int .i64 t ∧ Hid (vldP q t (r.drop k)) ∧ Below w'.heap.size w' wr) (fun _ i _ => r.length - (intOf i).toNat)
  case atStart => exact ⟨0, s, Nat.zero_le _, rfl, rfl, HV, Below.refl _ _⟩
  case round =>
    obtain ⟨k, t, hk, rfl, rfl, hvd, hbel⟩ := hrel
    have kBr := kB1.call hbel
    have kPr := kP1.call hbel
    have gr := bthen g1 hbel
    clear c0 p1
    have p1 := kPr.cell' (i := 1) rfl
    by_cases hlt : k < r.length
    · obtain ⟨b1, o1, i, rfl, hbb1, HX, y1, _⟩ := SlI.at_ hE hlt
      have hdr : r.drop k = i :: r.drop (k + 1) := by rw [List.drop_eq_getElem_cons hlt]; have := HX.out; rw [List.getElem?_eq_getElem hlt] at this; injection this with this; rw [this]
      have hvd2 := hvd.out
      rw [hdr] at hvd2
      obtain ⟨hi0, hif, bb, hit, hrest⟩ := hvd2
      obtain ⟨i', rfl⟩ : ∃ i' : Nat, i = (i' : Int) := ⟨i.toNat, by omega⟩
      rw [Int.toNat_natCast] at hif hit
      have hil := lt_of_some hif
      have hil2 := lt_of_some hit
      obtain ⟨b2, o2, x2, rfl, hb2, HF, y2, _⟩ := SlI.at_ hf hil
      obtain rfl : x2 = t := by have := HF.out; rw [hif] at this; injection this with this; exact this.symm
      obtain ⟨b3, o3, x3, rfl, hb3, HT, y3, _⟩ := SlI.at_ hT hil2
      obtain rfl : x3 = bb := by have := HT.out; rw [hit] at this; injection this with this; exact this.symm
      have HR := Lib.hid hrest
      have s := gr.size
      have d1 := InB.cell kBr.lt (kBr.cell' (i := 1) rfl)
      have d2 := InB.cell kBr.lt (kBr.cell' (i := 2) rfl)
      have d3 := InB.cell kPr.lt p1
      have d4 := InB.cell (by omega) (bcell gr hbb1 y1)
      have d5 := InB.cell (by omega) (bcell gr hb2 y2)
      have z3 := bcell gr hb3 y3
      have z1 := bcell gr hbb1 y1
      have hin : inR (i' : Int) 0 ((q.f.length : Int) - 1) = true := inR_yes (by omega) (by omega)
      clear hdr hif hit hrest HX HF HT y1 y2 y3 hvd
      go_wp2
      (refine wp_region_inB (by kernel_rfl) (by kernel_rfl) ?_; (repeat (go_big_quiet_step ((go_at_call 51; exact InB.call_same (l1In_any _ _ _ _))))); refine wpQuiet_nil ?_; intro w1 hw'; obtain ⟨s1, hw1⟩ := hw'; have hb1 := s1.below; rw [← hw1] at hb1; clear hw1 s1)
      clear d1 d2 d3 d4 d5
      have e2 := (kBr.call hb1).cell' (i := 2) rfl
      have e1 := (kPr.call hb1).cell' (i := 1) rfl
      have z3' := bcell hb1 (by omega) z3
      have z1' := bcell hb1 (by omega) z1
      clear z1 z3
      go_wp2_with fail
      go_quiet (fail)
      go_wp2
      go_roundw
      case rel => exact ⟨k + 1, x3, by omega, by go_num, rfl, HR, below_drewN (hbel.trans (hb1.mono hbel.size)) _⟩
      case measure => simp [intOf]; omega
    · clear hvd HV hE hf hT
      go_wp2
      go_ret
      exact ⟨rfl, gr⟩
set_option maxHeartbeats 1600000 in
theorem specEndOf_any (u x : Value) (q : Qv) (s : Int) (r : List Int) (w0 : World) (hu : QvR w0 w0.heap.size u q) (hx : PtR s w0 w0.heap.size x r) (hq : isQ q = true) (h0 : 0 ≤ s) (h1 : s ≤ q.v - 1) (hv : vldP q s r) (hn : r.length ≤ 20) :
    Calls Try.prog 131 #[u, x] w0 fun e w' => e = .returned (.int .i64 (endP q s r)) ∧ Below w0.heap.size w0 w' := by
  have hu' := hu
  have hx' := hx
  obtain ⟨A, c, C, d, rfl, hf, hT, hr, lf, lt⟩ := hu.open_
  obtain ⟨E, a, rfl, hE, he1, he2, he3⟩ := hx.open_
  clear hu hx
  obtain ⟨W, hW⟩ : ∃ W, W = (w0.alloc (.cells #[.int .i64 q.v, .slice A q.f.length c, .slice C q.t.length d] 27)).alloc (.cells #[.int .i64 s, .slice E r.length a] 118) := ⟨_, rfl⟩
  have g0 : Below w0.heap.size w0 W := by rw [hW]; exact ((Below.refl _ _).alloc (Nat.le_refl _) _).alloc (by simp) _
  have kB : Blk W w0.heap.size 27 #[.int .i64 q.v, .slice A q.f.length c, .slice C q.t.length d] := by rw [hW]; exact (Blk.new _ _ _).alloc _
  have kP : Blk W (w0.heap.size + 1) 118 #[.int .i64 s, .slice E r.length a] := by rw [hW]; have := Blk.new (w0.alloc (.cells #[.int .i64 q.v, .slice A q.f.length c, .slice C q.t.length d] 27)) 118 #[.int .i64 s, .slice E r.length a]; simpa only [World.size_alloc] using this
  have hlen := (isQ_t.1 hq).2.1
  have HI := Lib.hid (specIsPath_any _ _ q s r W (QvR.next g0 hu') (PtR.next g0 hx') hq h0 h1 hv hn)
  have c0 := kB.cell' (i := 0) rfl
  have c1 := kB.cell' (i := 1) rfl
  have c2 := kB.cell' (i := 2) rfl
  have p0 := kP.cell' (i := 0) rfl
  have p1 := kP.cell' (i := 1) rfl
  clear hu' hx' hq h0 h1 hn
  by_cases h0 : r.length = 0
  · have hr0 : r = [] := List.eq_nil_of_length_eq_zero h0
    subst hr0
    simp only [List.length_nil] at hW p1 kP HI
    clear hE hv he1 he3 h0 hlen
    go_enter Try.func131, Try.ntmps131
    go_wp2_with fail
    rw [← hW]; clear hW
    go_wp2_with fail
    refine HI.out.mono ?_; rintro e w1 ⟨rfl, hb1⟩
    have g1 := bthen g0 hb1
    have kP1 := kP.call hb1
    clear c0 c1 c2 p0 p1 g0 hb1 HI kB kP
    have p0 := kP1.cell' (i := 0) rfl
    have p1 := kP1.cell' (i := 1) rfl
    go_wp2
    go_ret
    exact ⟨rfl, g1⟩
  · obtain ⟨i, b, h1, h2, h3⟩ := endP_get hlen hv (by omega)
    rw [h3]
    have hil := lt_of_some h2
    obtain ⟨b1, o1, x1, rfl, hbb1, HX, y1, _⟩ := SlI.at_ hE (k := r.length - 1) (by omega)
    obtain rfl : x1 = (i : Int) := by have := HX.out; rw [h1] at this; injection this with this; exact this.symm
    obtain ⟨b2, o2, x2, rfl, hbb2, HT, y2, _⟩ := SlI.at_ hT hil
    obtain rfl : x2 = b := by have := HT.out; rw [h2] at this; injection this with this; exact this.symm
    have hdl : decide ((r.length : Int) = 0) = false := decide_eq_false (by omega)
    have hcast : ((r.length - 1 : Nat) : Int) = (r.length : Int) - 1 := by omega
    clear hE hv h1 h2 h3 HX HT hf hT hlen
    go_enter Try.func131, Try.ntmps131
    go_wp2_with fail
    rw [← hW]; clear hW
    go_wp2_with fail
    refine HI.out.mono ?_; rintro e w1 ⟨rfl, hb1⟩
    have g1 := bthen g0 hb1
    have kB1 := kB.call hb1
    have kP1 := kP.call hb1
    clear c0 c1 c2 p0 p1 g0 hb1 HI kB kP
    have c2 := kB1.cell' (i := 2) rfl
    have p1 := kP1.cell' (i := 1) rfl
    have z1 := bcell g1 hbb1 y1
    have z2 := bcell g1 hbb2 y2
    clear y1 y2 kB1 kP1
    go_wp2_with fail
    go_quiet (fail)
    go_wp2
    go_ret
    exact ⟨rfl, below_drewN g1 _⟩
end Go.Proofs.Ytgbchoenmpoojaa

/- pathsFrom -/
namespace Go.Proofs.Ytgbchoenmpoojaa
set_option linter.unusedVariables false
set_option linter.unusedSimpArgs false
open Go.RowKit

theorem vldP_snoc {q : Qv} {j : Nat} {b : Int} : ∀ (r : List Int) (s : Int), vldP q s r → q.f[j]? = some (endP q s r) → q.t[j]? = some b → vldP q s (r ++ [(j : Int)])
  | [], s, _, h1, h2 => ⟨by omega, by rw [Int.toNat_natCast]; exact h1, b, by rw [Int.toNat_natCast]; exact h2, trivial⟩
  | i :: r, s, ⟨h0, h3, b', h4, h5⟩, h1, h2 => by
    refine ⟨h0, h3, b', h4, vldP_snoc r b' h5 ?_ h2⟩
    rw [endP, List.getD_eq_getElem?_getD, h4] at h1
    exact h1
set_option maxHeartbeats 3200000 in
set_option maxRecDepth 100000 in
theorem pathsFrom_step (q : Qv) (h : Int → Nat) (hh : Hgt q h) (hq : isQ q = true) (n : Nat) (hn4 : n ≤ 4)
    (IH : ∀ m, m + 1 = n → ∀ (u a : Value) (s : Int) (r : List Int) (w0 : World) (la : Nat), h (endP q s r) ≤ m → r.length + m ≤ 10 → vldP q s r → la ≤ w0.heap.size → QvR w0 w0.heap.size u q → OwnI w0 la a r →
      Calls Try.prog 144 #[u, .agg #[.int .i64 s, a]] w0 fun e w' => ∃ v, e = .returned v ∧ PtsO s w' w0.heap.size la v ((pthF q m (endP q s r)).map fun t => r ++ t) ∧ Below w0.heap.size w0 w')
    (u a : Value) (s : Int) (r : List Int) (w0 : World) (la : Nat) (hs : h (endP q s r) ≤ n) (hrn : r.length + n ≤ 10) (hv : vldP q s r) (hla : la ≤ w0.heap.size) (hu : QvR w0 w0.heap.size u q) (ha : OwnI w0 la a r) :
    Calls Try.prog 144 #[u, .agg #[.int .i64 s, a]] w0 fun e w' => ∃ v, e = .returned v ∧ PtsO s w' w0.heap.size la v ((pthF q n (endP q s r)).map fun t => r ++ t) ∧ Below w0.heap.size w0 w' := by
  have hu' := hu
  obtain ⟨A, c, C, d, rfl, hf, hT, hr, lf, lt⟩ := hu.open_
  obtain ⟨RA, rc, rfl, hr1, hr2⟩ := ha.form
  clear hu
  obtain ⟨rl, hrl⟩ : ∃ z, r.length = z := ⟨_, rfl⟩
  rw [hrl] at ha hrn hr1 ⊢
  have HRL := Lib.hid hrl
  clear hrl
  obtain ⟨e0, he0⟩ : ∃ z, endP q s r = z := ⟨_, rfl⟩
  rw [he0] at hs ⊢
  have HE0 := Lib.hid he0
  clear he0
  obtain ⟨G, hG⟩ : ∃ G, w0.heap.size = G := ⟨_, rfl⟩
  obtain ⟨W, hW⟩ : ∃ W, (w0.alloc (.cells #[.int .i64 q.v, .slice A q.f.length c, .slice C q.t.length d] 27)).alloc (.cells #[.int .i64 s, .slice RA rl rc] 118) = W := ⟨_, rfl⟩
  have gw : W.heap.size = G + 2 := by rw [← hW, ← hG]; simp
  have g0 : Below w0.heap.size w0 W := by rw [← hW]; exact ((Below.refl _ _).alloc (Nat.le_refl _) _).alloc (by simp) _
  have kB : Blk W G 27 #[.int .i64 q.v, .slice A q.f.length c, .slice C q.t.length d] := by rw [← hW, ← hG]; exact (Blk.new _ _ _).alloc _
  have kP : Blk W (G + 1) 118 #[.int .i64 s, .slice RA rl rc] := by
    rw [← hW, ← hG]
    have := Blk.new (w0.alloc (.cells #[.int .i64 q.v, .slice A q.f.length c, .slice C q.t.length d] 27)) 118 #[.int .i64 s, .slice RA rl rc]
    simpa only [World.size_alloc] using this
  obtain ⟨hv5, hlen, h6, _, _⟩ := isQ_t.1 hq
  have HU := Lib.hid (QvR.next g0 hu')
  have HA := Lib.hid (ha.below g0)
  obtain ⟨W2, hW2⟩ : ∃ W2, W.alloc (.cells #[.int .i64 s, .slice RA rl rc] 118) = W2 := ⟨_, rfl⟩
  have g2 : Below W.heap.size W W2 := by rw [← hW2]; exact below_alloc _ _
  have HO := Lib.hid (show PtsO s W2 W.heap.size la (.slice (some ⟨G + 2, 0, none⟩) 1 1) ((pthK q n e0 0).map fun t => r ++ t) by
    rw [pthK_0, ← hW2, ← gw]
    have := PtsO.new (s := s) (Nat.le_refl W.heap.size) (Blk.new W 118 #[.int .i64 s, .slice RA rl rc]) (HA.out.alloc (.cells #[.int .i64 s, .slice RA rl rc] 118))
    simpa using this)
  have HL := Lib.hid hlen
  have c1 := (kB.call g2).cell' (i := 1) rfl
  have d0 := kP.cell' (i := 0) rfl
  have d1 := kP.cell' (i := 1) rfl
  clear hu' hlen ha
  go_enter Try.func144, Try.ntmps144
  go_wp2
  go_loopw [5, 6, 7, 13] (fun o i f k wr => ∃ (j : Nat), j ≤ q.f.length ∧ k = .int .i64 j ∧ PtsO s wr W.heap.size la o ((pthK q n e0 j).map fun t => r ++ t) ∧ Below W.heap.size W wr) (fun _ _ _ k _ => q.f.length - (intOf k).toNat)
  case atStart => exact ⟨0, Nat.zero_le _, rfl, HO.out, g2⟩
  case round =>
    obtain ⟨j, hj, rfl, hO, hbel⟩ := hrel
    have kBr := kB.call hbel
    have kPr := kP.call hbel
    have gr := bthen g0 hbel
    have hws := hbel.size
    clear c1 d0 d1
    have c0 := kBr.cell' (i := 0) rfl
    have c1 := kBr.cell' (i := 1) rfl
    have c2 := kBr.cell' (i := 2) rfl
    have d0 := kPr.cell' (i := 0) rfl
    have d1 := kPr.cell' (i := 1) rfl
    have HUr := Lib.hid (QvR.more hws (QvR.below hbel HU.out))
    have HAr := Lib.hid (HA.out.below hbel)
    by_cases hlt : j < q.f.length
    · obtain ⟨b1, o1, xa, rfl, hbb1, HF, y1, _⟩ := SlI.at_ hf hlt
      obtain ⟨xb, hxb⟩ : ∃ z, q.t[j]? = some z := ⟨_, List.getElem?_eq_getElem (by have := HL.out; omega)⟩
      have z1 := bcell gr hbb1 y1
      clear y1
      have hEnd := Lib.hid (implEnd_any _ _ q s r wr HUr.out (show PtR s wr wr.heap.size (.agg #[.int .i64 s, .slice RA rl rc]) r from ⟨_, rfl, HAr.out.rd⟩) HL.out hv)
      rw [HE0.out] at hEnd
      have HXB := Lib.hid hxb
      clear hxb
      go_wp2_with fail
      refine hEnd.out.mono ?_; rintro e w5 ⟨rfl, hb5⟩
      have hs5 := hb5.size
      have HB5 := Lib.hid (hbel.trans (hb5.mono hws))
      have HO5 := Lib.hid (hO.below hb5)
      have kB5 := kBr.call hb5
      have kP5 := kPr.call hb5
      have HU5 := Lib.hid (QvR.next hb5 HUr.out)
      have HA5 := Lib.hid (HAr.out.below hb5)
      obtain ⟨OA, oc, eo, _, _⟩ := hO.form
      subst eo
      obtain ⟨ol, hol⟩ : ∃ z, ((pthK q n e0 j).map fun t => r ++ t).length = z := ⟨_, rfl⟩
      rw [hol] at HO5 ⊢
      have HOL := Lib.hid hol
      clear hO hbel hb5 c0 c1 c2 d0 d1 z1 hEnd kBr kPr HUr HAr gr hol
      by_cases hxs : xa = e0
      · subst hxs
        have hhb := hh j xa xb HF.out HXB.out
        obtain ⟨m, rfl⟩ : ∃ m, n = m + 1 := ⟨n - 1, by omega⟩
        have HY := Lib.hid (pthK_yes (n := m) HF.out HXB.out rfl)
        have HI := Lib.hid (IH m rfl)
        have hle := pthR_le h6 m xa j
        have hpl := pthF_le h6 m xb
        have hp10 : 10 ^ m ≤ 10000 := (Nat.pow_le_pow_right (show 0 < 10 by omega) (show m ≤ 4 by omega) : 10 ^ m ≤ 10 ^ 4)
        have hj6 : j * 10 ^ m ≤ 60000 := Nat.mul_le_mul (show j ≤ 6 by omega) hp10
        have hle2 : ol ≤ 60001 := by
          rw [← HOL.out, List.length_map]
          have : (pthK q (m + 1) xa j).length ≤ 1 + j * 10 ^ m := hle
          omega
        have HPL : Hid ((pthF q m xb).length ≤ 10000) := by show _ ≤ _; omega
        have HV2 := Lib.hid (vldP_snoc r s hv (by rw [HE0.out]; exact HF.out) HXB.out)
        have HE2 : Hid (endP q s (r ++ [(j : Int)]) = xb) := by
          show _ = _
          rw [endP_last, Int.toNat_natCast, List.getD_eq_getElem?_getD, HXB.out]; rfl
        have HRS := Lib.hid HA5.out.rd
        have hbq : (xa == xa) = true := by simp
        have hlaw : la ≤ w5.heap.size := by have := g0.size; omega
        clear hle hpl hp10 hj6 hh IH
        go_wp2
        refine wp_region_netC (by kernel_rfl) [.eq (.slice OA ol oc), .eq (.agg #[.int .i64 q.v, .slice (some ⟨b1, o1, none⟩) q.f.length c, .slice C q.t.length d]), .eq (.pointer (some ⟨G + 1, 0, none⟩)), .eq (.int .i64 s), .eq (.pointer (some ⟨G + 1, 1, none⟩)), .eq (.slice RA rl rc), rel 6 (fun u lo hi w => OwnI w w5.heap.size u r), .eq (.int .i64 j), .rel (fun x w => ∃ g, x.v 8 = .slice (some ⟨g, 0, none⟩) 1 1 ∧ SlI w w.heap.size (x.v 8) [(j : Int)]), rel 9 (fun u lo hi w => OwnI w w5.heap.size u (r ++ [(j : Int)])), rel 10 (fun u lo hi w => ∃ a, u = .agg #[.int .i64 s, a] ∧ OwnI w w5.heap.size a (r ++ [(j : Int)])), rel 11 (fun u lo hi w => PtsO s w w5.heap.size w5.heap.size u ((pthF q m xb).map fun t => (r ++ [(j : Int)]) ++ t))] [[], [], [], [2], [], [4], [4, 5], [], [7], [4, 5, 6, 7, 8], [2, 3, 4, 5, 6, 7, 8, 9], [1, 2, 3, 4, 5, 6, 7, 8, 9, 10], [0, 1, 2, 3, 4, 5, 6, 7, 8, 9, 10, 11], [0, 1, 2, 3, 4, 5, 6, 7, 8, 9, 10, 11, 12]] [[], [], [], [2], [], [4], [4, 5], [], [7], [4, 5, 6, 7, 8], [2, 3, 4, 5, 7, 9], [1, 2, 3, 4, 5, 7, 9, 10]] [0, 1, 2, 3, 4, 5, 7, 9, 10, 11] 12 9 (by kernel_rfl) (by kernel_rfl) ⟨.inr (.inr ⟨_, rfl⟩), .inr (.inr ⟨_, rfl⟩), .inr (.inr ⟨_, rfl⟩), .inr (.inr ⟨_, rfl⟩), .inr (.inr ⟨_, rfl⟩), .inr (.inr ⟨_, rfl⟩), .inr (.inr ⟨_, rfl⟩), .inl rfl, .inr (.inl rfl), .inr (.inl rfl), trivial⟩ ⟨trivial, trivial, trivial, trivial, trivial, trivial, rel_stable (fun u lo hi w w' h hb => h.below hb), trivial, fun x w w' ⟨g, e, h⟩ hb => ⟨g, e, SlI.next hb h⟩, rel_stable (fun u lo hi w w' h hb => h.below hb), rel_stable (fun u lo hi w w' ⟨s, e, h⟩ hb => ⟨s, e, h.below hb⟩), rel_stable (fun u lo hi w w' h hb => h.below hb), trivial⟩ ⟨?_, ?_, ?_, ?_, ?_, ?_, ?_, ?_, ?_, ?_, ?_, ?_, trivial⟩ ?_
        · intro x w hb hk Q' hQ
          clear hk
          simp only [netAct, dstAt, List.getElem?_toArray, List.getElem?_cons_zero, List.getElem?_cons_succ, Option.bind_some, Act.put, List.setIfInBounds_toArray, List.set_cons_zero, List.set_cons_succ] at hQ ⊢
          go_wp2
          exact hQ (.slice OA ol oc) _ (Below.refl _ _) rfl
        · intro x w hb hk Q' hQ
          clear hk
          simp only [netAct, dstAt, List.getElem?_toArray, List.getElem?_cons_zero, List.getElem?_cons_succ, Option.bind_some, Act.put, List.setIfInBounds_toArray, List.set_cons_zero, List.set_cons_succ] at hQ ⊢
          have q0 := (kB5.below hb kB5.lt).cell' (i := 0) rfl
          have q1 := (kB5.below hb kB5.lt).cell' (i := 1) rfl
          have q2 := (kB5.below hb kB5.lt).cell' (i := 2) rfl
          go_wp2
          exact hQ (.agg #[.int .i64 q.v, .slice (some ⟨b1, o1, none⟩) q.f.length c, .slice C q.t.length d]) _ (Below.refl _ _) rfl
        · intro x w hb hk Q' hQ
          clear hk
          simp only [netAct, dstAt, List.getElem?_toArray, List.getElem?_cons_zero, List.getElem?_cons_succ, Option.bind_some, Act.put, List.setIfInBounds_toArray, List.set_cons_zero, List.set_cons_succ] at hQ ⊢
          go_wp2
          exact hQ (.pointer (some ⟨G + 1, 0, none⟩)) _ (Below.refl _ _) rfl
        · intro x w hb hk Q' hQ
          have h2 : x.v 2 = .pointer (some ⟨G + 1, 0, none⟩) := (hk 2 (by decide)).1
          clear hk
          simp only [netAct, dstAt, List.getElem?_toArray, List.getElem?_cons_zero, List.getElem?_cons_succ, Option.bind_some, Act.put, List.setIfInBounds_toArray, List.set_cons_zero, List.set_cons_succ] at hQ ⊢
          simp only [h2] at hQ ⊢
          clear h2
          have q0 := (kP5.below hb kP5.lt).cell' (i := 0) rfl
          go_wp2
          exact hQ (.int .i64 s) _ (Below.refl _ _) rfl
        · intro x w hb hk Q' hQ
          clear hk
          simp only [netAct, dstAt, List.getElem?_toArray, List.getElem?_cons_zero, List.getElem?_cons_succ, Option.bind_some, Act.put, List.setIfInBounds_toArray, List.set_cons_zero, List.set_cons_succ] at hQ ⊢
          go_wp2
          exact hQ (.pointer (some ⟨G + 1, 1, none⟩)) _ (Below.refl _ _) rfl
        · intro x w hb hk Q' hQ
          have h4 : x.v 4 = .pointer (some ⟨G + 1, 1, none⟩) := (hk 4 (by decide)).1
          clear hk
          simp only [netAct, dstAt, List.getElem?_toArray, List.getElem?_cons_zero, List.getElem?_cons_succ, Option.bind_some, Act.put, List.setIfInBounds_toArray, List.set_cons_zero, List.set_cons_succ] at hQ ⊢
          simp only [h4] at hQ ⊢
          clear h4
          have q0 := (kP5.below hb kP5.lt).cell' (i := 1) rfl
          go_wp2
          exact hQ (.slice RA rl rc) _ (Below.refl _ _) rfl
        · intro x w hb hk Q' hQ
          have h4 : x.v 4 = .pointer (some ⟨G + 1, 1, none⟩) := (hk 4 (by decide)).1
          have h5 : x.v 5 = .slice RA rl rc := (hk 5 (by decide)).1
          clear hk
          simp only [netAct, dstAt, List.getElem?_toArray, List.getElem?_cons_zero, List.getElem?_cons_succ, Option.bind_some, Act.put, List.setIfInBounds_toArray, List.set_cons_zero, List.set_cons_succ] at hQ ⊢
          simp only [h4, h5] at hQ ⊢
          clear h4 h5
          go_wp2_with fail
          refine (clone_own _ r _ (SlI.more hb.size (SlI.below hb HRS.out))).mono ?_; rintro e w8 ⟨v8, rfl, ho8, hb8⟩
          have ho9 := ho8.1.lower hb.size
          go_wp2
          exact hQ _ _ hb8 ho9
        · intro x w hb hk Q' hQ
          clear hk
          simp only [netAct, dstAt, List.getElem?_toArray, List.getElem?_cons_zero, List.getElem?_cons_succ, Option.bind_some, Act.put, List.setIfInBounds_toArray, List.set_cons_zero, List.set_cons_succ] at hQ ⊢
          go_wp2
          exact hQ (.int .i64 j) _ (Below.refl _ _) rfl
        · intro x w hb hk Q' hQ
          have h7 : x.v 7 = .int .i64 j := (hk 7 (by decide)).1
          clear hk
          simp only [netAct, dstAt, List.getElem?_toArray, List.getElem?_cons_zero, List.getElem?_cons_succ, Option.bind_some, Act.put, List.setIfInBounds_toArray, List.set_cons_zero, List.set_cons_succ] at hQ ⊢
          simp only [h7] at hQ ⊢
          clear h7
          go_wp2
          exact hQ _ _ (below_alloc _ _) ⟨_, rfl, SlI.one _ _ _ ⟨by omega, by omega⟩⟩
        · intro x w hb hk Q' hQ
          have h4 : x.v 4 = .pointer (some ⟨G + 1, 1, none⟩) := (hk 4 (by decide)).1
          have h5 : x.v 5 = .slice RA rl rc := (hk 5 (by decide)).1
          have h6 : OwnI w w5.heap.size (x.v 6) r := (hk 6 (by decide)).1
          have h7 : x.v 7 = .int .i64 j := (hk 7 (by decide)).1
          have h8 : ∃ g, x.v 8 = .slice (some ⟨g, 0, none⟩) 1 1 ∧ SlI w w.heap.size (x.v 8) [(j : Int)] := (hk 8 (by decide)).1
          have s6 := (hk 6 (by decide)).2
          have s8 := (hk 8 (by decide)).2
          clear hk
          simp only [netAct, dstAt, List.getElem?_toArray, List.getElem?_cons_zero, List.getElem?_cons_succ, Option.bind_some, Act.put, List.setIfInBounds_toArray, List.set_cons_zero, List.set_cons_succ] at hQ ⊢
          simp only [h4, h5, h7] at hQ ⊢
          clear h4 h5 h7
          obtain ⟨g8, e8, h8s⟩ := h8
          rw [e8] at h8s hQ ⊢
          have hlo := h6.lt
          refine wpList_appI (by rfl) (.tmp 29) (.tmp 31) (by rfl) w5.heap.size w.heap.size _ _ (by rfl) h6 _ _ 1 [(j : Int)] (by rfl) rfl h8s (by have := HRL.out; simp; omega) hb.size ?_
          intro v' w' h1 h2 h3
          exact hQ v' w' (below_grown h2 (fun k hk => (hlo k hk).1) hb.size) h1
        · intro x w hb hk Q' hQ
          have h2 : x.v 2 = .pointer (some ⟨G + 1, 0, none⟩) := (hk 2 (by decide)).1
          have h3 : x.v 3 = .int .i64 s := (hk 3 (by decide)).1
          have h4 : x.v 4 = .pointer (some ⟨G + 1, 1, none⟩) := (hk 4 (by decide)).1
          have h5 : x.v 5 = .slice RA rl rc := (hk 5 (by decide)).1
          have h7 : x.v 7 = .int .i64 j := (hk 7 (by decide)).1
          have h9 : OwnI w w5.heap.size (x.v 9) (r ++ [(j : Int)]) := (hk 9 (by decide)).1
          have s9 := (hk 9 (by decide)).2
          clear hk
          simp only [netAct, dstAt, List.getElem?_toArray, List.getElem?_cons_zero, List.getElem?_cons_succ, Option.bind_some, Act.put, List.setIfInBounds_toArray, List.set_cons_zero, List.set_cons_succ] at hQ ⊢
          simp only [h2, h3, h4, h5, h7] at hQ ⊢
          clear h2 h3 h4 h5 h7
          have H9 := Lib.hid h9
          obtain ⟨A9, c9, e9, _, _⟩ := h9.form
          obtain ⟨nn, hnn⟩ : ∃ z, (r ++ [(j : Int)]).length = z := ⟨_, rfl⟩
          rw [e9, hnn] at H9 hQ ⊢
          clear h9 e9 hnn
          go_wp2
          exact hQ _ w (Below.refl _ _) ⟨_, rfl, H9.out⟩
        · intro x w hb hk Q' hQ
          have h1 : x.v 1 = .agg #[.int .i64 q.v, .slice (some ⟨b1, o1, none⟩) q.f.length c, .slice C q.t.length d] := (hk 1 (by decide)).1
          have h2 : x.v 2 = .pointer (some ⟨G + 1, 0, none⟩) := (hk 2 (by decide)).1
          have h3 : x.v 3 = .int .i64 s := (hk 3 (by decide)).1
          have h4 : x.v 4 = .pointer (some ⟨G + 1, 1, none⟩) := (hk 4 (by decide)).1
          have h5 : x.v 5 = .slice RA rl rc := (hk 5 (by decide)).1
          have h7 : x.v 7 = .int .i64 j := (hk 7 (by decide)).1
          have h9 : OwnI w w5.heap.size (x.v 9) (r ++ [(j : Int)]) := (hk 9 (by decide)).1
          have h10 : ∃ a, (x.v 10) = .agg #[.int .i64 s, a] ∧ OwnI w w5.heap.size a (r ++ [(j : Int)]) := (hk 10 (by decide)).1
          have s9 := (hk 9 (by decide)).2
          have s10 := (hk 10 (by decide)).2
          clear hk
          simp only [netAct, dstAt, List.getElem?_toArray, List.getElem?_cons_zero, List.getElem?_cons_succ, Option.bind_some, Act.put, List.setIfInBounds_toArray, List.set_cons_zero, List.set_cons_succ] at hQ ⊢
          simp only [h1, h2, h3, h4, h5, h7] at hQ ⊢
          clear h1 h2 h3 h4 h5 h7
          obtain ⟨a10, e10, h10s⟩ := h10
          rw [e10] at hQ ⊢
          have H10 := Lib.hid h10s
          clear h10s
          go_wp2_with fail
          refine (HI.out _ a10 s (r ++ [(j : Int)]) _ w5.heap.size (by rw [HE2.out]; omega) (by have := HRL.out; simp; omega) HV2.out hb.size (QvR.more hb.size (QvR.below hb HU5.out)) H10.out).mono ?_; rintro e w8 ⟨v8, rfl, ho8, hb8⟩
          rw [HE2.out] at ho8
          have ho9 := Lib.hid (ho8.lower hb.size (Nat.le_refl _))
          clear ho8
          go_wp2
          exact hQ _ _ hb8 ho9.out
        · intro x w hb hk hiv hdj
          have h0 : x.v 0 = .slice OA ol oc := hk 0 (by decide) (by decide)
          have h1 : x.v 1 = .agg #[.int .i64 q.v, .slice (some ⟨b1, o1, none⟩) q.f.length c, .slice C q.t.length d] := hk 1 (by decide) (by decide)
          have h2 : x.v 2 = .pointer (some ⟨G + 1, 0, none⟩) := hk 2 (by decide) (by decide)
          have h3 : x.v 3 = .int .i64 s := hk 3 (by decide) (by decide)
          have h4 : x.v 4 = .pointer (some ⟨G + 1, 1, none⟩) := hk 4 (by decide) (by decide)
          have h5 : x.v 5 = .slice RA rl rc := hk 5 (by decide) (by decide)
          have h7 : x.v 7 = .int .i64 j := hk 7 (by decide) (by decide)
          have h9 : OwnI w w5.heap.size (x.v 9) (r ++ [(j : Int)]) := hk 9 (by decide) (by decide)
          have h10 : ∃ a, (x.v 10) = .agg #[.int .i64 s, a] ∧ OwnI w w5.heap.size a (r ++ [(j : Int)]) := hk 10 (by decide) (by decide)
          have h11 : PtsO s w w5.heap.size w5.heap.size (x.v 11) ((pthF q m xb).map fun t => (r ++ [(j : Int)]) ++ t) := hk 11 (by decide) (by decide)
          clear hk
          simp only [netAct, dstAt, List.getElem?_toArray, List.getElem?_cons_zero, List.getElem?_cons_succ, Option.bind_some, Act.put, List.setIfInBounds_toArray, List.set_cons_zero, List.set_cons_succ]
          simp only [List.drop_succ_cons, List.drop_zero, h0, h1, h2, h3, h4, h5, h7]
          clear h0 h1 h2 h3 h4 h5 h7
          have HOe := Lib.hid (HO5.out.below hb)
          have HBe := Lib.hid (HB5.out.trans (hb.mono (by omega)))
          have hbs := hb.size
          obtain ⟨PA, pc, e11, _, _⟩ := h11.form
          rw [e11] at h11 ⊢
          have H11 := Lib.hid (h11.lower (Nat.le_refl _) hlaw)
          clear h11 e11 hiv hdj hb h9 h10
          have HLN : Hid (((pthF q m xb).map fun t => (r ++ [(j : Int)]) ++ t).length ≤ 10000) := by show _ ≤ _; rw [List.length_map]; exact HPL.out
          have HZ : Hid (((pthK q (m + 1) xa j).map fun t => r ++ t) ++ ((pthF q m xb).map fun t => (r ++ [(j : Int)]) ++ t) = (pthK q (m + 1) xa (j + 1)).map fun t => r ++ t) := by
            show _ = _
            rw [HY.out, List.map_append, List.map_map]
            congr 1
            apply List.map_congr_left
            intro t _
            simp
          obtain ⟨NW, hNW⟩ : ∃ z, ((pthF q m xb).map fun t => (r ++ [(j : Int)]) ++ t) = z := ⟨_, rfl⟩
          rw [hNW] at H11 HLN HZ ⊢
          clear hNW
          refine wpList_appP (by rfl) (.tmp 23) (.tmp 34) (by rfl) s W.heap.size la w5.heap.size _ _ (by rfl) HOe.out _ _ _ NW (by rfl) H11.out (by rw [HOL.out]; have := HLN.out; omega) (by omega) ?_
          intro v9 w9 ho9 hb9 _ _
          rw [HZ.out] at ho9
          have HO9 := Lib.hid ho9
          have HB9 := Lib.hid (HBe.out.trans hb9)
          clear ho9 hb9
          go_wp2
          go_roundw
          case rel => exact ⟨j + 1, by omega, by go_num, HO9.out, HB9.out⟩
          case measure => simp [intOf]; omega
      · have HN := Lib.hid (pthK_no (n := n) HF.out hxs)
        have hne : ((xa : Int) == e0) = false := by rw [beq_eq_false_iff_ne]; exact hxs
        clear hh IH
        go_wp2
        go_roundw
        case rel => exact ⟨j + 1, by omega, by go_num, by rw [HN.out]; exact HO5.out, HB5.out⟩
        case measure => simp [intOf]; omega
    · have hje : j = q.f.length := by omega
      have HE := Lib.hid (show pthK q n e0 j = pthF q n e0 by rw [hje, pthK_end])
      have HO2 := Lib.hid hO
      have GR := Lib.hid gr
      clear hO hbel hje IH gr
      go_wp2
      go_ret
      exact ⟨_, rfl, by rw [← HE.out]; exact HO2.out.lower (by omega) (Nat.le_refl _), by rw [hG]; rw [hG] at GR; exact GR.out⟩
theorem pathsFrom_all (q : Qv) (h : Int → Nat) (hh : Hgt q h) (hq : isQ q = true) : ∀ (n : Nat), n ≤ 4 → ∀ (u a : Value) (s : Int) (r : List Int) (w0 : World) (la : Nat), h (endP q s r) ≤ n → r.length + n ≤ 10 → vldP q s r → la ≤ w0.heap.size → QvR w0 w0.heap.size u q → OwnI w0 la a r →
      Calls Try.prog 144 #[u, .agg #[.int .i64 s, a]] w0 fun e w' => ∃ v, e = .returned v ∧ PtsO s w' w0.heap.size la v ((pthF q n (endP q s r)).map fun t => r ++ t) ∧ Below w0.heap.size w0 w'
  | 0, hn => fun u a s r w0 la h1 h2 h3 h4 h5 h6 => pathsFrom_step q h hh hq 0 hn (fun m hm => by omega) u a s r w0 la h1 h2 h3 h4 h5 h6
  | n + 1, hn => fun u a s r w0 la h1 h2 h3 h4 h5 h6 => pathsFrom_step q h hh hq (n + 1) hn (fun m hm => by
      obtain rfl : m = n := by omega
      exact pathsFrom_all q h hh hq m (by omega)) u a s r w0 la h1 h2 h3 h4 h5 h6
/-- from a vertex -/
theorem pathsFrom_any (q : Qv) (ha : acyQ q = true) (u : Value) (s : Int) (w0 : World) (hu : QvR w0 w0.heap.size u q) :
    Calls Try.prog 144 #[u, .agg #[.int .i64 s, .slice none 0 0]] w0 fun e w' => ∃ v, e = .returned v ∧ PtsO s w' w0.heap.size w0.heap.size v (pthF q 4 s) ∧ Below w0.heap.size w0 w' := by
  have hv := (isQ_t.1 (acy_isQ ha)).1
  have := hgtQ_le q (endP q s [])
  have h := pathsFrom_all q (hgtQ q) (acy_hgt ha) (acy_isQ ha) 4 (by omega) u (.slice none 0 0) s [] w0 w0.heap.size (by omega) (by simp) trivial (Nat.le_refl _) hu (OwnI.nil _ _)
  refine h.mono ?_
  rintro e w' ⟨v, e1, h1, h2⟩
  refine ⟨v, e1, ?_, h2⟩
  simpa [endP] using h1
end Go.Proofs.Ytgbchoenmpoojaa

/- pathsBetween: the closure. -/
namespace Go.Proofs.Ytgbchoenmpoojaa
set_option linter.unusedVariables false
set_option linter.unusedSimpArgs false
open Go.RowKit

set_option maxRecDepth 100000 in
set_option maxHeartbeats 800000 in
theorem endEq_any (gq gt : Nat) (q : Qv) (s t : Int) (r : List Int) (A C RA : Option Addr) (c d rc : Nat) (w0 : World) (hq : Blk w0 gq 27 #[.int .i64 q.v, .slice A q.f.length c, .slice C q.t.length d]) (ht : Blk w0 gt 3 #[.int .i64 t])
    (hu : QvR w0 w0.heap.size (.agg #[.int .i64 q.v, .slice A q.f.length c, .slice C q.t.length d]) q) (hx : SlI w0 w0.heap.size (.slice RA r.length rc) r) (hl : q.f.length = q.t.length) (hv : vldP q s r) :
    Calls Try.prog 145 #[.agg #[.int .i64 s, .slice RA r.length rc], .pointer (some ⟨gq, 0, none⟩), .pointer (some ⟨gt, 0, none⟩)] w0 fun e w' => e = .returned (.bool (endP q s r != t)) ∧ Below w0.heap.size w0 w' := by
  obtain ⟨rl, hrl⟩ : ∃ z, r.length = z := ⟨_, rfl⟩
  rw [hrl] at hx ⊢
  obtain ⟨W, hW⟩ : ∃ W, w0.alloc (.cells #[.int .i64 s, .slice RA rl rc] 118) = W := ⟨_, rfl⟩
  have g0 : Below w0.heap.size w0 W := by rw [← hW]; exact below_alloc _ _
  have kP : Blk W w0.heap.size 118 #[.int .i64 s, .slice RA rl rc] := by rw [← hW]; exact Blk.new _ _ _
  have kq := hq.call g0
  have kt := ht.call g0
  have HU := Lib.hid (QvR.next g0 hu)
  have HX := Lib.hid (SlI.next g0 hx)
  have d0 := InB.cell kP.lt (kP.cell' (i := 0) rfl)
  have d1 := InB.cell kP.lt (kP.cell' (i := 1) rfl)
  have e0 := InB.cell kq.lt (kq.cell' (i := 0) rfl)
  have e1 := InB.cell kq.lt (kq.cell' (i := 1) rfl)
  have e2 := InB.cell kq.lt (kq.cell' (i := 2) rfl)
  have f0 := InB.cell kt.lt (kt.cell' (i := 0) rfl)
  obtain ⟨E, hE⟩ : ∃ z, endP q s r = z := ⟨_, rfl⟩
  have HE : Hid (∀ t : InB W, Calls Try.prog 146 #[.agg #[.int .i64 q.v, .slice A q.f.length c, .slice C q.t.length d], .agg #[.int .i64 s, .slice RA rl rc]] t.val fun e w2 => e = .returned (.int .i64 E) ∧ Below t.val.heap.size t.val w2) := by
    intro t
    rw [← hE]
    exact implEnd_any _ _ q s r t.val (QvR.next t.below HU.out) ⟨_, rfl, SlI.next t.below HX.out⟩ hl hv
  rw [hE]
  subst hW
  clear kP kq kt hq ht hu hx hrl HU HX hE hl hv
  go_enter Try.func145, Try.ntmps145
  go_wp2
  (refine wp_region_inB (by kernel_rfl) (by kernel_rfl) ?_; (repeat (go_big_quiet_step ((go_at_call 146; exact InB.call (HE.out _))))); refine wpQuiet_nil ?_; intro w1 hw'; obtain ⟨s1, hw1⟩ := hw'; have hb1 := s1.below; rw [← hw1] at hb1; clear hw1 s1)
  go_wp2
  go_ret
  exact ⟨rfl, bthen g0 hb1⟩
end Go.Proofs.Ytgbchoenmpoojaa

/- slices.IndexFunc and slices.DeleteFunc at paths. -/
namespace Go.Proofs.Ytgbchoenmpoojaa
set_option linter.unusedVariables false
set_option linter.unusedSimpArgs false
open Go.RowKit

set_option maxHeartbeats 800000 in
theorem indexFuncP_any (s : Int) (p1 p2 : Value) (p : List Int → Bool) (u : Value) (ll : List (List Int)) (w : World) (hu : SlP s w w.heap.size u ll)
    (hF : ∀ (W : World) (A : Option Addr) (c : Nat) (l : List Int), Below w.heap.size w W → SlI W W.heap.size (.slice A l.length c) l → l ∈ ll → Calls Try.prog 145 #[.agg #[.int .i64 s, .slice A l.length c], p1, p2] W fun e w' => e = .returned (.bool (p l)) ∧ Below W.heap.size W w') :
    Calls Try.prog 151 #[u, .func (Fn.func 145) #[] #[p1, p2]] w fun e w' => (∃ z, e = .returned (.int .i64 z) ∧ ((z = -1 ∧ ∀ y ∈ ll, p y = false) ∨ ∃ (k : Nat) (x : List Int), z = k ∧ ll[k]? = some x ∧ p x = true ∧ ∀ y ∈ ll.take k, p y = false)) ∧ Below w.heap.size w w' := by
  obtain ⟨A, c, rfl, hn, hx⟩ : ∃ A c, u = .slice A ll.length c ∧ ll.length ≤ 17592186044416 ∧ SlP s w w.heap.size (.slice A ll.length c) ll := by
    obtain ⟨A', c', e, h1, h2, h3, h4⟩ := hu
    exact ⟨A', c', e, h3, A', c', rfl, h1, h2, h3, h4⟩
  clear hu
  have HF := Lib.hid hF
  clear hF
  go_enter Try.func151, Try.ntmps151
  go_wp2
  go_loopw [8] (fun i wr => ∃ k : Nat, k ≤ ll.length ∧ i = .int .i64 k ∧ Below w.heap.size w wr ∧ Hid (∀ y ∈ ll.take k, p y = false)) (fun i _ => ll.length - (intOf i).toNat)
  case atStart => exact ⟨0, Nat.zero_le _, rfl, Below.refl _ _, by intro y hy; simp at hy⟩
  case round =>
    obtain ⟨k, hk, rfl, hbel, hno⟩ := hrel
    by_cases hlt : k < ll.length
    · obtain ⟨b, o, l, A', c', rfl, hb, HX, c0, c1, hl, _, _, _⟩ := SlP.at_ hx hlt
      have d0 := bcell hbel hb c0
      have d1 := bcell hbel hb c1
      have HC := HF.out wr A' c' l hbel (SlI.more hbel.size (SlI.below hbel hl)) (List.mem_iff_getElem?.2 ⟨k, HX.out⟩)
      clear hx c0 c1 hl
      obtain ⟨B, hB⟩ : ∃ B, p l = B := ⟨_, rfl⟩
      rw [hB] at HC
      have HC := Lib.hid HC
      have HB := Lib.hid hB
      clear hB
      cases B
      · go_wp2_with fail
        refine (unhide HC).mono ?_; rintro e w1 ⟨rfl, hb1⟩
        go_wp2
        go_roundw
        case rel =>
          refine ⟨k + 1, by omega, by go_num, hbel.trans (hb1.mono hbel.size), fun y hy => ?_⟩
          rw [take_snoc HX.out, List.mem_append, List.mem_singleton] at hy
          rcases hy with hy | rfl
          · exact hno.out y hy
          · exact HB.out
        case measure => simp [intOf]; omega
      · go_wp2_with fail
        refine (unhide HC).mono ?_; rintro e w1 ⟨rfl, hb1⟩
        go_wp2
        go_ret
        exact ⟨⟨_, rfl, .inr ⟨k, l, rfl, HX.out, HB.out, hno.out⟩⟩, hbel.trans (hb1.mono hbel.size)⟩
    · go_wp2
      go_ret
      have h1 := hno.out
      rw [List.take_of_length_le (by omega)] at h1
      exact ⟨⟨_, rfl, .inl ⟨rfl, h1⟩⟩, hbel⟩
theorem below_setCellsP {B b : Nat} {a : World} (hb : B ≤ b) : ∀ (vs : List Value) (o : Nat) (w : World), Below B a w → Below B a (w.setCells b o vs)
  | [], _, _, h => h
  | v :: vs, o, w, h => below_setCellsP hb vs (o + 1) _ (h.setCell hb v)
theorem run_clear_path (w : World) (t : TypeId) (z1 z2 : Value) (b n c : Nat) (e : TypeId) (ht : Try.prog.underlying t = some (.slice e)) (hv : ∀ w, (zeroValue e).run Try.prog w = .ok (.agg #[z1, z2]) w) (h1 : z1.oneCell' = true) (h2 : z2.oneCell' = true) (hz : (Value.agg #[z1, z2]).cells = #[z1, z2]) (o : Nat) (hn : 0 < n)
    (hc : ∀ j, j < n * 2 → (w.cell? ⟨b, o + j, none⟩).isSome = true) (hf : ∀ j, j < n * 2 → w.frozen? ⟨b, o + j, none⟩ = false) :
    ∃ us : List Value, ∀ ty, (Builtin.clear_ #[t] ty #[.slice (some ⟨b, o, none⟩) n c]).run Try.prog w = .ok (.tuple #[]) (w.setCells b o us) := by
  have hl : (Builtin.zeroCells (Value.agg #[z1, z2]).cells n).toList.length = n * 2 := by rw [hz]; simp [Builtin.zeroCells]
  have hone : ∀ v ∈ (Builtin.zeroCells (Value.agg #[z1, z2]).cells n).toList, v.oneCell' = true := by
    intro v hv'
    rw [hz] at hv'
    simp only [Builtin.zeroCells, Array.toList_map, List.mem_map] at hv'
    obtain ⟨i, _, rfl⟩ := hv'
    have : i % 2 = 0 ∨ i % 2 = 1 := by omega
    rcases this with h | h <;> simp [h, h1, h2]
  have hst := run_storeCells_cells (P := Try.prog) b o (Builtin.zeroCells (Value.agg #[z1, z2]).cells n).toList 0 w (by rw [hl]; simpa using hc) (by rw [hl]; simpa using hf) hone
  simp only [Nat.add_zero] at hst
  obtain ⟨m, rfl⟩ : ∃ m, n = m + 1 := ⟨n - 1, by omega⟩
  exact ⟨_, fun ty => by simp [Builtin.clear_, run_underlying ht, hv, hst]; rfl⟩
/-- what the loop of DeleteFunc keeps: the row's cells from place j on -/
def DlR (s : Int) (w : World) (lo g c : Nat) (vs : List Value) (ll : List (List Int)) (j : Nat) : Prop :=
  ∃ cur : Array Value, Blk w g 118 cur ∧ cur.size = c * 2 ∧ (∀ (k : Nat) (u : Value), j ≤ k → vs[k]? = some u → cur[k * 2]? = some (.int .i64 s) ∧ cur[k * 2 + 1]? = some u) ∧ ArO w lo vs ll
theorem ArO.setC {w : World} {la g i : Nat} {t : TypeId} {cs : Array Value} {vs : List Value} {ll : List (List Int)} (h : ArO w la vs ll) (hb : Blk w g t cs) (ht : 3 ≠ t) (u : Value) : ArO (w.setCell ⟨g, i, none⟩ u) la vs ll :=
  ⟨h.1, fun j u' l h1 h2 => (h.2 j u' l h1 h2).setCell (p := ⟨g, i, none⟩) (fun e => (h.2 j u' l h1 h2).blkne hb ht e.symm) u⟩
theorem DlR.below {s : Int} {w w' : World} {lo g c j : Nat} {vs : List Value} {ll : List (List Int)} (h : DlR s w lo g c vs ll j) (hb : Below w.heap.size w w') : DlR s w' lo g c vs ll j := by
  obtain ⟨cur, h1, h2, h3, h4⟩ := h
  exact ⟨cur, h1.call hb, h2, h3, h4.below hb⟩
theorem DlR.later {s : Int} {w : World} {lo g c j : Nat} {vs : List Value} {ll : List (List Int)} (h : DlR s w lo g c vs ll j) : DlR s w lo g c vs ll (j + 1) := by
  obtain ⟨cur, h1, h2, h3, h4⟩ := h
  exact ⟨cur, h1, h2, fun k u hk => h3 k u (by omega), h4⟩
theorem DlR.put {s : Int} {w : World} {lo g c i j : Nat} {vs : List Value} {ll : List (List Int)} (h : DlR s w lo g c vs ll j) (hij : i < j) (u0 u1 : Value) : DlR s ((w.setCell ⟨g, i * 2, none⟩ u0).setCell ⟨g, i * 2 + 1, none⟩ u1) lo g c vs ll (j + 1) := by
  obtain ⟨cur, h1, h2, h3, h4⟩ := h
  refine ⟨(cur.setIfInBounds (i * 2) u0).setIfInBounds (i * 2 + 1) u1, (h1.set_ _ _).set_ _ _, by simp [h2], fun k u hk hu => ?_, (h4.setC h1 (by decide) _).setC (h1.set_ _ _) (by decide) _⟩
  obtain ⟨e0, e1⟩ := h3 k u (by omega) hu
  rw [Array.getElem?_setIfInBounds_ne (by omega), Array.getElem?_setIfInBounds_ne (by omega), Array.getElem?_setIfInBounds_ne (by omega), Array.getElem?_setIfInBounds_ne (by omega)]
  exact ⟨e0, e1⟩
theorem PtsO.dlR {s : Int} {w : World} {lo la n c g : Nat} {ll : List (List Int)} (h : PtsO s w lo la (.slice (some ⟨g, 0, none⟩) n c) ll) (h0 : 0 < n) : lo ≤ g ∧ n = ll.length ∧ n ≤ c ∧ c ≤ 9223372036854775807 ∧ ∃ vs, DlR s w la g c vs ll 0 := by
  obtain ⟨vs, h1, h2, h3⟩ := h
  have h2' := h2
  rcases h2.2 with ⟨e, h0'⟩ | ⟨g', cap, cur, e, hg0, hg, hnc, hcm, hcs, htk⟩
  · injection e with e1 e2 e3; omega
  · injection e with e1 e2 e3
    injection e1 with e1
    injection e1 with e1 _ _
    subst e1 e2 e3
    refine ⟨hg0, rfl, hnc, by simp only [maxLen] at hcm; omega, vs, cur, hg, hcs, fun k u _ hk => ?_, h1⟩
    obtain ⟨a, b⟩ := pcs_get (s := s) hk
    have hkl := lt_of_some hk
    have e := fun i (hi : i < 2) => h2'.cellAt (k * 2 + i) (by have := h1.1; omega)
    have hB : Blk w g 118 cur := hg
    have e0 := e 0 (by omega)
    have e1 := e 1 (by omega)
    rw [hB.cell] at e0 e1
    rw [Nat.add_zero] at e0
    exact ⟨by rw [e0]; exact a, by rw [e1]; exact b⟩
set_option maxRecDepth 100000 in
set_option maxHeartbeats 1600000 in
theorem deleteFuncP_any (s : Int) (lo : Nat) (p1 p2 : Value) (p : List Int → Bool) (u : Value) (ll : List (List Int)) (w : World) (hu : PtsO s w lo lo u ll) (hlo : lo ≤ w.heap.size)
    (hF : ∀ (W : World) (A : Option Addr) (c : Nat) (l : List Int), Below lo w W → SlI W W.heap.size (.slice A l.length c) l → l ∈ ll → Calls Try.prog 145 #[.agg #[.int .i64 s, .slice A l.length c], p1, p2] W fun e w' => e = .returned (.bool (p l)) ∧ Below W.heap.size W w') :
    Calls Try.prog 143 #[u, .func (Fn.func 145) #[] #[p1, p2]] w fun e w' => (∃ A c, e = .returned (.slice A (ll.filter fun l => !p l).length c)) ∧ Below lo w w' := by
  obtain ⟨A, c, rfl, hnc, hcm⟩ := hu.form
  have hIF := indexFuncP_any s p1 p2 p _ ll w hu.rd fun W A c l hb hl hm => hF W A c l (hb.mono hlo) hl hm
  have HF := Lib.hid hF
  clear hF
  by_cases h0 : ll.length = 0
  · obtain rfl := List.eq_nil_of_length_eq_zero h0
    simp only [List.length_nil] at hIF ⊢
    go_enter Try.func143, Try.ntmps143
    go_wp2_with fail
    refine hIF.mono ?_; rintro e w1 ⟨⟨z, rfl, hz⟩, hb1⟩
    obtain rfl : z = -1 := by
      rcases hz with ⟨e, _⟩ | ⟨k, x, _, h, _⟩
      · exact e
      · simp at h
    clear hIF hz
    go_wp2
    go_ret
    exact ⟨⟨_, _, rfl⟩, hb1.mono hlo⟩
  · obtain ⟨N, hN⟩ : ∃ N, ll.length = N := ⟨_, rfl⟩
    rw [hN] at hu hnc hIF h0 ⊢
    obtain ⟨g, rfl⟩ : ∃ g, A = some ⟨g, 0, none⟩ := by
      obtain ⟨vs, h1, h2, h3⟩ := hu
      rcases h2.2 with ⟨e, h0'⟩ | ⟨g', cap, cur, e, _⟩
      · injection e with e1 e2 e3; omega
      · injection e with e1 e2 e3; exact ⟨g', e1⟩
    obtain ⟨hg, hn, _, _, vs, hD⟩ := hu.dlR (by omega)
    have HN := Lib.hid hN
    clear hN hu hn
    have hgc := Lib.hid hD
    go_enter Try.func143, Try.ntmps143
    go_wp2_with fail
    refine hIF.mono ?_; rintro e w1 ⟨⟨z, rfl, hz⟩, hb1⟩
    clear hIF
    rcases hz with ⟨rfl, hz⟩ | ⟨k, x, rfl, hk, hpx, hbk⟩
    · go_wp2
      go_ret
      refine ⟨⟨some ⟨g, 0, none⟩, c, ?_⟩, hb1.mono hlo⟩
      rw [List.filter_eq_self.2 fun l hl => by rw [hz l hl]; rfl, HN.out]
      rfl
    · have hkN := lt_of_some hk
      rw [HN.out] at hkN
      have HK := Lib.hid (show ((ll.take (k + 1)).filter fun l => !p l).length = k by
        rw [take_snoc hk, List.filter_append, List.filter_eq_self.2 fun l hl => by rw [hbk l hl]; rfl]
        have := HN.out
        simp [hpx, List.length_take]; omega)
      obtain ⟨cur, hC⟩ := hD
      have HD := Lib.hid (show DlR s w1 lo g c vs ll (k + 1) from ⟨cur, hC.1.call hb1, hC.2.1, fun j u hj => hC.2.2.1 j u (by omega), hC.2.2.2.below hb1⟩)
      clear hk hpx hbk hgc hC
      have hk1 : ((k : Int) == -1) = false := beq_eq_false_iff_ne.2 (by omega)
      go_wp2
      go_loopw [5, 6, 7] (fun a b _ wr => ∃ (i j : Nat), i < j ∧ j ≤ N ∧ a = .int .i64 i ∧ b = .int .i64 j ∧ Below lo w wr ∧ Hid (DlR s wr lo g c vs ll j) ∧ Hid (((ll.take j).filter fun l => !p l).length = i)) (fun _ b _ _ => N - (intOf b).toNat)
      case atStart => exact ⟨k, k + 1, by omega, by omega, rfl, by go_num, hb1.mono hlo, HD, HK⟩
      case round =>
        obtain ⟨i, j, hij, hj, rfl, rfl, hbel, HDr, HI⟩ := hrel
        by_cases hlt : j < N
        · obtain ⟨l, hl⟩ : ∃ l, ll[j]? = some l := ⟨_, List.getElem?_eq_getElem (by have := HN.out; omega)⟩
          obtain ⟨cur, hB, hcs, hhi, hA⟩ := HDr.out
          obtain ⟨uv, huv⟩ : ∃ u, vs[j]? = some u := ⟨_, List.getElem?_eq_getElem (by have := HN.out; have := hA.1; omega)⟩
          obtain ⟨e0, e1⟩ := hhi j uv (Nat.le_refl _) huv
          have hO := hA.2 j uv l huv hl
          obtain ⟨UA, uc, rfl, _, _⟩ := hO.form
          have HC := HF.out
          obtain ⟨ul, hul⟩ : ∃ z, l.length = z := ⟨_, rfl⟩
          rw [hul] at hO e1 huv
          obtain ⟨x0, hx0⟩ : ∃ x, cur[i * 2]? = some x := ⟨_, Array.getElem?_eq_getElem (by omega)⟩
          obtain ⟨x1, hx1⟩ : ∃ x, cur[i * 2 + 1]? = some x := ⟨_, Array.getElem?_eq_getElem (by omega)⟩
          have d0 := hB.cell' e0
          have d1 := hB.cell' e1
          have o0 := hB.cell' hx0
          have o1 := hB.cell' hx1
          have fr := hB.frozen
          clear e0 e1 hhi hA
          obtain ⟨W3, hW3⟩ : ∃ W3, wr.alloc (.cells #[.int .i64 s, .slice UA ul uc] 118) = W3 := ⟨_, rfl⟩
          have b3 : Below wr.heap.size wr W3 := by rw [← hW3]; exact below_alloc _ _
          have hlr : lo ≤ wr.heap.size := by have := hB.lt; omega
          have hg3 := hbel.trans (b3.mono hlr)
          have k3 : Blk W3 wr.heap.size 118 #[.int .i64 s, .slice UA ul uc] := by rw [← hW3]; exact Blk.new _ _ _
          have HC3 := HC W3 UA uc l hg3 (by rw [hul]; exact SlI.next b3 hO.rd) (List.mem_iff_getElem?.2 ⟨j, hl⟩)
          obtain ⟨B, hpB⟩ : ∃ B, p l = B := ⟨_, rfl⟩
          rw [hul, hpB] at HC3
          have HC3 := Lib.hid HC3
          have HPB := Lib.hid hpB
          have HLJ := Lib.hid hl
          have hs3 := b3.size
          have z0 := k3.cell' (i := 0) rfl
          have z1 := k3.cell' (i := 1) rfl
          clear HC hpB hl hul huv hO
          cases B
          · go_wp2_with fail
            clear hW3 z0 z1
            refine HC3.out.mono ?_; rintro e w5 ⟨rfl, hb5⟩
            have hB5 := (hB.call b3).call hb5
            have k5 := k3.call hb5
            have HG5 := Lib.hid (hg3.trans (hb5.mono (by omega)))
            have HD5 := Lib.hid (((HDr.out.below b3).below hb5).put hij (.int .i64 s) (.slice UA ul uc))
            have hs5 := hb5.size
            clear d0 d1 o0 o1 fr HC3 hB hbel hg3 b3 hb5
            have o0 := hB5.cell' hx0
            have o1 := hB5.cell' hx1
            have d0 := k5.cell' (i := 0) rfl
            have d1 := k5.cell' (i := 1) rfl
            have fr := hB5.frozen
            clear hx0 hx1 hB5 k5 k3
            go_wp2
            go_roundw
            case rel =>
              refine ⟨i + 1, j + 1, by omega, by omega, by go_num, by go_num, (HG5.out.setCell hg _).setCell hg _, HD5, ?_⟩
              show _ = _
              rw [take_snoc HLJ.out, List.filter_append, List.length_append, HI.out]
              simp [HPB.out]
            case measure => simp [intOf]; omega
          · go_wp2_with fail
            clear hW3 z0 z1
            refine HC3.out.mono ?_; rintro e w5 ⟨rfl, hb5⟩
            have HG5 := Lib.hid (hg3.trans (hb5.mono (by omega)))
            have HD5 := Lib.hid ((HDr.out.below b3).below hb5).later
            clear d0 d1 o0 o1 fr HC3 hB hbel hg3 b3 hb5 k3 hx0 hx1
            go_wp2
            go_roundw
            case rel =>
              refine ⟨i, j + 1, by omega, by omega, rfl, by go_num, HG5.out, HD5, ?_⟩
              show _ = _
              rw [take_snoc HLJ.out, List.filter_append, List.length_append, HI.out]
              simp [HPB.out]
            case measure => simp [intOf]; omega
        · obtain ⟨cur, hB, hcs, _, _⟩ := HDr.out
          have hjN : j = N := by omega
          have HE : Hid ((ll.filter fun l => !p l).length = i) := by
            show _ = _
            rw [← HI.out, List.take_of_length_le (by have := HN.out; omega)]
          obtain ⟨us, hus⟩ := run_clear_path wr 98 (.int .i64 0) (.slice none 0 0) g (N - i) (c - i) _ Try.underlying98 Try.zeroValue118 rfl rfl rfl (i * 2) (by omega) (fun m hm => by
            rw [hB.cell, Array.getElem?_eq_getElem (by omega)]; rfl) (fun m _ => hB.frozen _)
          have HG := Lib.hid (below_setCellsP hg us (i * 2) wr hbel)
          clear HI HDr hcs hB hbel
          go_wp2
          go_ret
          exact ⟨⟨_, _, by rw [HE.out]; rfl⟩, HG.out⟩
end Go.Proofs.Ytgbchoenmpoojaa

/- Determinants by the first row: plain part; parts of slices. -/
namespace Go.Proofs.Ytgbchoenmpoojaa
set_option linter.unusedVariables false
set_option linter.unusedSimpArgs false
open Go.RowKit

def dsF (h : Nat → Int) : Nat → Int
  | 0 => 0
  | n + 1 => dsF h n + h n
def cutR (k : Nat) (r : List Int) : List Int := r.take k ++ r.drop (k + 1)
def mnr (k : Nat) (m : List (List Int)) : List (List Int) := m.tail.map (cutR k)
def sgK (k : Nat) : Int := if k % 2 = 0 then 1 else -1
def fst0 (m : List (List Int)) (k : Nat) : Int := (m.getD 0 []).getD k 0
def detL : Nat → List (List Int) → Int
  | 0, _ => 1
  | n + 1, m => dsF (fun k => sgK k * fst0 m k * detL n (mnr k m)) (n + 1)
def dB : Nat → Int
  | 0 => 1
  | n + 1 => (n + 1 : Nat) * (12 * dB n)
structure Sq (n : Nat) (m : List (List Int)) : Prop where
  len : m.length = n
  row : ∀ r ∈ m, r.length = n
  rng : ∀ r ∈ m, ∀ x ∈ r, -12 ≤ x ∧ x ≤ 12
theorem sgK_succ (k : Nat) : sgK (k + 1) = - sgK k := by
  unfold sgK
  by_cases h : k % 2 = 0
  · rw [if_pos h, if_neg (by omega)]
  · rw [if_neg h, if_pos (by omega)]; rfl
theorem sgK_or (k : Nat) : sgK k = 1 ∨ sgK k = -1 := by
  unfold sgK
  split
  · exact .inl rfl
  · exact .inr rfl
theorem cutR_length {k : Nat} {r : List Int} {n : Nat} (h : r.length = n + 1) (hk : k ≤ n) : (cutR k r).length = n := by simp [cutR]; omega
theorem cutR_mem {k : Nat} {r : List Int} {x : Int} (h : x ∈ cutR k r) : x ∈ r := by
  rcases List.mem_append.1 h with h | h
  · exact List.mem_of_mem_take h
  · exact List.mem_of_mem_drop h
theorem Sq.mnr {n k : Nat} {m : List (List Int)} (h : Sq (n + 1) m) (hk : k ≤ n) : Sq n (mnr k m) := by
  refine ⟨by simp [Go.Proofs.Ytgbchoenmpoojaa.mnr, h.len], fun r hr => ?_, fun r hr x hx => ?_⟩
  · obtain ⟨s, hs, rfl⟩ := List.mem_map.1 hr
    exact cutR_length (h.row s (List.mem_of_mem_tail hs)) hk
  · obtain ⟨s, hs, rfl⟩ := List.mem_map.1 hr
    exact h.rng s (List.mem_of_mem_tail hs) x (cutR_mem hx)
theorem Sq.fst {n k : Nat} {m : List (List Int)} (h : Sq (n + 1) m) (hk : k < n + 1) : ∃ r, m[0]? = some r ∧ r.length = n + 1 ∧ r[k]? = some (fst0 m k) ∧ -12 ≤ fst0 m k ∧ fst0 m k ≤ 12 := by
  have hl := h.len
  have e := List.getElem?_eq_getElem (show 0 < m.length by omega)
  have hm := List.mem_of_getElem? e
  have hr := h.row _ hm
  have e2 := List.getElem?_eq_getElem (l := m[0]) (show k < m[0].length by omega)
  have e3 : fst0 m k = m[0][k] := by
    rw [fst0, List.getD_eq_getElem?_getD, List.getD_eq_getElem?_getD, e, Option.getD_some, e2, Option.getD_some]
  rw [e3]
  exact ⟨_, e, hr, e2, h.rng _ hm _ (List.mem_of_getElem? e2)⟩
theorem abs_mul {a b A B : Int} (ha : -A ≤ a ∧ a ≤ A) (hb : -B ≤ b ∧ b ≤ B) : -(A * B) ≤ a * b ∧ a * b ≤ A * B := by
  have hA : 0 ≤ A := by omega
  have hB : 0 ≤ B := by omega
  have h1 : 0 ≤ (A - a) * (B + b) := Int.mul_nonneg (by omega) (by omega)
  have h2 : 0 ≤ (A + a) * (B - b) := Int.mul_nonneg (by omega) (by omega)
  have h3 : 0 ≤ (A - a) * (B - b) := Int.mul_nonneg (by omega) (by omega)
  have h4 : 0 ≤ (A + a) * (B + b) := Int.mul_nonneg (by omega) (by omega)
  simp only [Int.sub_mul, Int.add_mul, Int.mul_sub, Int.mul_add] at h1 h2 h3 h4
  omega
theorem dB_pos : ∀ n, 0 ≤ dB n
  | 0 => by simp [dB]
  | n + 1 => by
    have := dB_pos n
    simp only [dB]
    exact Int.mul_nonneg (by omega) (by omega)
theorem term_rng {s x d D : Int} (hs : s = 1 ∨ s = -1) (hx : -12 ≤ x ∧ x ≤ 12) (hd : -D ≤ d ∧ d ≤ D) : -(12 * D) ≤ s * x * d ∧ s * x * d ≤ 12 * D := by
  refine abs_mul ?_ hd
  rcases hs with rfl | rfl <;> omega
theorem dsF_rng {h : Nat → Int} {B : Int} (hB : 0 ≤ B) : ∀ {n}, (∀ k, k < n → -B ≤ h k ∧ h k ≤ B) → -((n : Nat) * B) ≤ dsF h n ∧ dsF h n ≤ (n : Nat) * B
  | 0, _ => by simp [dsF]
  | n + 1, H => by
    have ih := dsF_rng hB (n := n) fun k hk => H k (by omega)
    have h1 := H n (by omega)
    simp only [dsF]
    have e : ((n + 1 : Nat) : Int) * B = (n : Nat) * B + B := by rw [Int.natCast_succ, Int.add_mul, Int.one_mul]
    rw [e]
    omega
theorem det_rng : ∀ {n : Nat} {m : List (List Int)}, Sq n m → -dB n ≤ detL n m ∧ detL n m ≤ dB n
  | 0, _, _ => by simp [detL, dB]
  | n + 1, m, h => by
    simp only [detL, dB]
    have hB := dB_pos n
    refine dsF_rng (by omega) fun k hk => ?_
    obtain ⟨_, _, _, _, hx⟩ := h.fst hk
    exact term_rng (sgK_or k) hx (det_rng (h.mnr (by omega)))
def detS (n : Nat) (m : List (List Int)) (k : Nat) : Int := dsF (fun k => sgK k * fst0 m k * detL n (mnr k m)) k
theorem dB_5 {n : Nat} (h : n ≤ 5) : dB n ≤ 29859840 := by
  have : n = 0 ∨ n = 1 ∨ n = 2 ∨ n = 3 ∨ n = 4 ∨ n = 5 := by omega
  rcases this with rfl | rfl | rfl | rfl | rfl | rfl <;> decide
theorem detS_rng {n k : Nat} {m : List (List Int)} (h : Sq (n + 1) m) (hk : k ≤ n + 1) (hn : n ≤ 4) : -1800000000 ≤ detS n m k ∧ detS n m k ≤ 1800000000 := by
  have hB := dB_pos n
  have h1 := dsF_rng (h := fun k => sgK k * fst0 m k * detL n (mnr k m)) (B := 12 * dB n) (n := k) (by omega) fun j hj => by
    obtain ⟨_, _, _, _, hx⟩ := h.fst (show j < n + 1 by omega)
    exact term_rng (sgK_or j) hx (det_rng (h.mnr (by omega)))
  have h5 := dB_5 (show n ≤ 5 by omega)
  have h6 : (k : Int) * (12 * dB n) ≤ 5 * (12 * dB n) := Int.mul_le_mul_of_nonneg_right (by omega) (by omega)
  unfold detS
  omega
theorem detS_succ (n : Nat) (m : List (List Int)) (k : Nat) : detS n m (k + 1) = detS n m k + sgK k * fst0 m k * detL n (mnr k m) := rfl

/-! ### parts of slices that are read -/
theorem SlI.takeS {w : World} {B c k : Nat} {A : Option Addr} {l : List Int} (h : SlI w B (.slice A l.length c) l) (hk : k ≤ l.length) : SlI w B (.slice A k c) (l.take k) := by
  obtain ⟨A', c', e, h1, h2, h3, h4⟩ := h
  injection e with e1 e2 e3
  subst e1 e3
  refine ⟨A, c, by rw [List.length_take]; congr 1; omega, by rw [List.length_take]; omega, h2, by rw [List.length_take]; omega, fun hp => ?_⟩
  rw [List.length_take] at hp
  obtain ⟨b, o, e, hb, hc⟩ := h4 (by omega)
  refine ⟨b, o, e, hb, fun j x hj => hc j x ?_⟩
  rw [List.getElem?_take] at hj
  split at hj
  · exact hj
  · cases hj
theorem SlI.dropS {w : World} {B c k g o : Nat} {l : List Int} (h : SlI w B (.slice (some ⟨g, o, none⟩) l.length c) l) (hk : k ≤ l.length) : SlI w B (.slice (some ⟨g, o + k, none⟩) (l.length - k) (c - k)) (l.drop k) := by
  have h' := h
  obtain ⟨A', c', e, h1, h2, h3, h4⟩ := h'
  injection e with e1 e2 e3
  subst e3
  refine ⟨some ⟨g, o + k, none⟩, c - k, by rw [List.length_drop], by rw [List.length_drop]; omega, by omega, by rw [List.length_drop]; omega, fun hp => ?_⟩
  rw [List.length_drop] at hp
  obtain ⟨b, o', e, hb, hc⟩ := h4 (by omega)
  rw [← e1] at e
  injection e with e
  injection e with e5 e6
  subst e5 e6
  refine ⟨g, o + k, rfl, hb, fun j x hj => ?_⟩
  rw [List.getElem?_drop] at hj
  have := hc _ x hj
  rw [show o + (k + j) * 1 = o + k + j * 1 by omega] at this
  exact this
theorem SlI.zeroS {w : World} {B : Nat} {A : Option Addr} {c : Nat} (hc : c ≤ 9223372036854775807) : SlI w B (.slice A 0 c) [] := ⟨A, c, rfl, by simp, hc, by simp, fun h => absurd h (by simp)⟩
theorem SlII.two {w : World} {t : TypeId} {a b : Value} {l m : List Int} (ha : SlI w w.heap.size a l) (hb : SlI w w.heap.size b m) :
    SlII (w.alloc (.cells #[a, b] t)) (w.alloc (.cells #[a, b] t)).heap.size (.slice (some ⟨w.heap.size, 0, none⟩) 2 2) [l, m] := by
  have hbel := below_alloc w (.cells #[a, b] t)
  have hk := Blk.new w t #[a, b]
  refine ⟨some ⟨w.heap.size, 0, none⟩, 2, rfl, by simp, by omega, by simp, fun _ => ⟨w.heap.size, 0, rfl, hk.lt, fun j x hj => ?_⟩⟩
  match j, hj with
  | 0, hj => injection hj with hj; subst hj; exact ⟨a, hk.cell' rfl, SlI.next hbel ha⟩
  | 1, hj => injection hj with hj; subst hj; exact ⟨b, hk.cell' rfl, SlI.next hbel hb⟩
/-- an element, the slice's address known -/
theorem SlI.elt {w : World} {B b o c k : Nat} {xs : List Int} (h : SlI w B (.slice (some ⟨b, o, none⟩) xs.length c) xs) (hk : k < xs.length) : ∃ x, xs[k]? = some x ∧ b < B ∧ w.cell? ⟨b, o + k, none⟩ = some (.int .i64 x) ∧ -9223372036854775808 ≤ x ∧ x ≤ 9223372036854775807 := by
  obtain ⟨b', o', x, e, h1, h2, h3, h4⟩ := SlI.at_ h hk
  injection e with e
  injection e with e1 e2
  subst e1 e2
  exact ⟨x, h2.out, h1, h3, h4⟩
theorem SlII.elt {w : World} {B b o c k : Nat} {xs : List (List Int)} (h : SlII w B (.slice (some ⟨b, o, none⟩) xs.length c) xs) (hk : k < xs.length) : ∃ l A' c', xs[k]? = some l ∧ b < B ∧ w.cell? ⟨b, o + k, none⟩ = some (.slice A' l.length c') ∧ SlI w B (.slice A' l.length c') l ∧ l.length ≤ c' ∧ c' ≤ 9223372036854775807 := by
  obtain ⟨b', o', l, A', c', e, h1, h2, h3, h4⟩ := SlII.at_ h hk
  injection e with e
  injection e with e1 e2
  subst e1 e2
  have h5 := h4
  obtain ⟨_, _, e, h6, h7, _⟩ := h5
  injection e with _ _ e
  subst e
  exact ⟨l, A', c', h2.out, h1, h3, h4, h6, h7⟩
theorem SlI.addr {w : World} {B c : Nat} {A : Option Addr} {xs : List Int} (h : SlI w B (.slice A xs.length c) xs) (h0 : 0 < xs.length) : ∃ b o, A = some ⟨b, o, none⟩ ∧ b < B := by
  obtain ⟨b, o, _, e, h1, _⟩ := SlI.at_ (k := 0) h h0
  exact ⟨b, o, e, h1⟩
theorem SlII.addr {w : World} {B c : Nat} {A : Option Addr} {xs : List (List Int)} (h : SlII w B (.slice A xs.length c) xs) (h0 : 0 < xs.length) : ∃ b o, A = some ⟨b, o, none⟩ ∧ b < B := by
  obtain ⟨b, o, _, _, _, e, h1, _⟩ := SlII.at_ (k := 0) h h0
  exact ⟨b, o, e, h1⟩
theorem SlI.form2 {w : World} {B : Nat} {v : Value} {l : List Int} (h : SlI w B v l) : ∃ A c, v = .slice A l.length c := by
  obtain ⟨A, c, e, _⟩ := h
  exact ⟨A, c, e⟩
end Go.Proofs.Ytgbchoenmpoojaa

/- Kinds of quivers: minors by sets of rows; plain part. -/
namespace Go.Proofs.Ytgbchoenmpoojaa
set_option linter.unusedVariables false
set_option linter.unusedSimpArgs false
open Go.RowKit

theorem band1 (x : Int) : bits .and .i64 x 1 = x % 2 := by
  have h1 : (BitVec.ofInt 64 1).toNat = 2 ^ 1 - 1 := by decide
  have key : (BitVec.ofInt 64 x &&& BitVec.ofInt 64 1).toNat = (x % ((2 ^ 64 : Nat) : Int)).toNat % 2 ^ 1 := by
    rw [BitVec.toNat_and, BitVec.toNat_ofInt, h1, Nat.and_two_pow_sub_one_eq_mod]
  show IntKind.i64.wrap ((BitVec.ofInt 64 x &&& BitVec.ofInt 64 1).toNat : Nat) = x % 2
  rw [key, IntKind.wrap_i64]
  omega
def bitT (s v : Nat) : Bool := s / 2 ^ v % 2 == 1
def bitL (s n : Nat) : List Nat := (List.range n).filter (bitT s)
def mnRow (s n : Nat) (g : Nat → Int) : List Int := (bitL s n).map g
def mnTo (s n : Nat) (g : Nat → Nat → Int) (k : Nat) : List (List Int) := (bitL s k).map fun v => mnRow s n (g v)
def mnL (s n : Nat) (g : Nat → Nat → Int) : List (List Int) := mnTo s n g n
def dtS (s n : Nat) (g : Nat → Nat → Int) : Int := detL (bitL s n).length (mnL s n g)
def kdGo (n : Nat) (g : Nat → Nat → Int) : Nat → Nat → Int → Int
  | 0, _, k => k
  | m + 1, s, k => if dtS s n g < 0 then 3 else kdGo n g m (s + 1) (if dtS s n g = 0 then 2 else k)
def kindQ (q : Qv) : Int := if isQ q then kdGo q.v.toNat (ent q q.f.length) (2 ^ q.v.toNat - 1) 1 1 else 0
theorem bitL_succ_t {s k : Nat} (h : bitT s k = true) : bitL s (k + 1) = bitL s k ++ [k] := by
  simp [bitL, List.range_succ, List.filter_append, h]
theorem bitL_succ_f {s k : Nat} (h : bitT s k = false) : bitL s (k + 1) = bitL s k := by
  simp [bitL, List.range_succ, List.filter_append, h]
theorem bitL_length (s n : Nat) : (bitL s n).length ≤ n := by
  have := List.length_filter_le (bitT s) (List.range n)
  rw [List.length_range] at this
  exact this
theorem bitT_0 {s v : Nat} (h : bitT s v = false) : (s : Int) / 2 ^ v % 2 = 0 := by
  simp only [bitT, beq_eq_false_iff_ne, ne_eq] at h
  have h2 : s / 2 ^ v % 2 = 0 := by omega
  have : ((s / 2 ^ v % 2 : Nat) : Int) = 0 := by omega
  simpa using this
theorem bitT_1 {s v : Nat} (h : bitT s v = true) : (s : Int) / 2 ^ v % 2 = 1 := by
  simp only [bitT, beq_iff_eq] at h
  have : ((s / 2 ^ v % 2 : Nat) : Int) = 1 := by omega
  simpa using this
theorem mnL_sq {s n : Nat} {g : Nat → Nat → Int} (hg : ∀ a b, -12 ≤ g a b ∧ g a b ≤ 12) : Sq (bitL s n).length (mnL s n g) := by
  refine ⟨by simp [mnL, mnTo], fun r hr => ?_, fun r hr x hx => ?_⟩
  · obtain ⟨v, _, rfl⟩ := List.mem_map.1 hr
    simp [mnRow]
  · obtain ⟨v, _, rfl⟩ := List.mem_map.1 hr
    obtain ⟨w, _, rfl⟩ := List.mem_map.1 hx
    exact hg v w
theorem mnRow_i64 {s n : Nat} {g : Nat → Int} (hg : ∀ b, -12 ≤ g b ∧ g b ≤ 12) : ∀ x ∈ mnRow s n g, I64 x := fun x hx => by
  obtain ⟨w, _, rfl⟩ := List.mem_map.1 hx
  have := hg w
  exact ⟨by omega, by omega⟩
theorem kdGo_rng (n : Nat) (g : Nat → Nat → Int) : ∀ m s k, 1 ≤ k ∧ k ≤ 3 → 1 ≤ kdGo n g m s k ∧ kdGo n g m s k ≤ 3
  | 0, _, _, h => h
  | m + 1, s, k, h => by
    simp only [kdGo]
    split
    · omega
    · exact kdGo_rng n g m _ _ (by split <;> omega)
theorem kindQ_rng (q : Qv) : 0 ≤ kindQ q ∧ kindQ q ≤ 3 := by
  unfold kindQ
  split
  · have := kdGo_rng q.v.toNat (ent q q.f.length) (2 ^ q.v.toNat - 1) 1 1 (by omega)
    omega
  · omega
end Go.Proofs.Ytgbchoenmpoojaa

/- Quivers of finite kind: sums, quadratic forms, positive forms; the patterns of at most five vertices, looked at one by one. Plain. -/
namespace Go.Proofs.Ytgbchoenmpoojaa
set_option linter.unusedVariables false
set_option linter.unusedSimpArgs false
open Go.RowKit

/-! ### sums -/
def sm : Nat → (Nat → Int) → Int
  | 0, _ => 0
  | n + 1, f => sm n f + f n
theorem sm_congr {f g : Nat → Int} : ∀ n, (∀ i, i < n → f i = g i) → sm n f = sm n g
  | 0, _ => rfl
  | n + 1, h => by rw [sm, sm, sm_congr n fun i hi => h i (by omega), h n (by omega)]
theorem sm_front (f : Nat → Int) : ∀ n, sm (n + 1) f = f 0 + sm n fun i => f (i + 1)
  | 0 => by simp [sm]
  | n + 1 => by rw [sm, sm_front f n, sm, Int.add_assoc]
theorem sm_add (f g : Nat → Int) : ∀ n, sm n (fun i => f i + g i) = sm n f + sm n g
  | 0 => rfl
  | n + 1 => by rw [sm, sm, sm, sm_add f g n]; omega
theorem sm_sub (f g : Nat → Int) : ∀ n, sm n (fun i => f i - g i) = sm n f - sm n g
  | 0 => rfl
  | n + 1 => by rw [sm, sm, sm, sm_sub f g n]; omega
theorem sm_mul (c : Int) (f : Nat → Int) : ∀ n, sm n (fun i => c * f i) = c * sm n f
  | 0 => by simp [sm]
  | n + 1 => by rw [sm, sm, sm_mul c f n, Int.mul_add]
theorem sm_zero : ∀ n, sm n (fun _ => 0) = 0
  | 0 => rfl
  | n + 1 => by rw [sm, sm_zero n]; rfl
theorem sm_swap (h : Nat → Nat → Int) (m : Nat) : ∀ n, sm n (fun a => sm m fun b => h a b) = sm m fun b => sm n fun a => h a b
  | 0 => by simp [sm, sm_zero]
  | n + 1 => by
    rw [sm, sm_swap h m n, ← sm_add]; rfl
theorem sm_one {f : Nat → Int} {k : Nat} : ∀ n, k < n → (∀ i, i < n → i ≠ k → f i = 0) → sm n f = f k
  | 0, h, _ => by omega
  | n + 1, h, h0 => by
    rw [sm]
    by_cases e : k = n
    · subst e
      rw [sm_congr (g := fun _ => 0) k fun i hi => h0 i (by omega) (by omega), sm_zero]; omega
    · rw [sm_one n (by omega) fun i hi hn => h0 i (by omega) hn, h0 n (by omega) (by omega)]; omega
theorem sm_nonneg {f : Nat → Int} : ∀ n, (∀ i, i < n → 0 ≤ f i) → 0 ≤ sm n f
  | 0, _ => by simp [sm]
  | n + 1, h => by
    have := sm_nonneg n fun i hi => h i (by omega)
    have := h n (by omega)
    rw [sm]; omega
theorem sm_pos_ex {f : Nat → Int} : ∀ n, 0 < sm n f → ∃ i, i < n ∧ 0 < f i
  | 0, h => by simp [sm] at h
  | n + 1, h => by
    rw [sm] at h
    by_cases h1 : 0 < f n
    · exact ⟨n, by omega, h1⟩
    · obtain ⟨i, hi, hp⟩ := sm_pos_ex (f := f) n (by omega)
      exact ⟨i, by omega, hp⟩
/-- the bilinear form of g -/
def bil (n : Nat) (g : Nat → Nat → Int) (x y : Nat → Int) : Int := sm n fun a => sm n fun b => g a b * x a * y b
theorem bil_row (n : Nat) (g : Nat → Nat → Int) (x y : Nat → Int) : bil n g x y = sm n fun a => x a * sm n fun b => g a b * y b := by
  unfold bil
  apply sm_congr
  intro a _
  rw [← sm_mul]
  apply sm_congr
  intro b _
  rw [Int.mul_comm (g a b) (x a), Int.mul_assoc]
theorem bil_symm {n : Nat} {g : Nat → Nat → Int} (hs : ∀ a b, g a b = g b a) (x y : Nat → Int) : bil n g x y = bil n g y x := by
  unfold bil
  rw [sm_swap]
  apply sm_congr; intro a _; apply sm_congr; intro b _
  rw [hs b a, Int.mul_assoc, Int.mul_comm (x b), Int.mul_assoc]
theorem bil_addl (n : Nat) (g : Nat → Nat → Int) (x x' y : Nat → Int) : bil n g (fun i => x i + x' i) y = bil n g x y + bil n g x' y := by
  rw [bil_row, bil_row, bil_row, ← sm_add]
  apply sm_congr; intro a _; rw [Int.add_mul]
theorem bil_subl (n : Nat) (g : Nat → Nat → Int) (x x' y : Nat → Int) : bil n g (fun i => x i - x' i) y = bil n g x y - bil n g x' y := by
  rw [bil_row, bil_row, bil_row, ← sm_sub]
  apply sm_congr; intro a _; rw [Int.sub_mul]
theorem bil_mull (n : Nat) (g : Nat → Nat → Int) (c : Int) (x y : Nat → Int) : bil n g (fun i => c * x i) y = c * bil n g x y := by
  rw [bil_row, bil_row, ← sm_mul]
  apply sm_congr; intro a _; rw [Int.mul_assoc]
/-! ### positive forms -/
def pvF : Nat → (Nat → Nat → Int) → Bool
  | 0, _ => true
  | n + 1, A => decide (0 < A 0 0) && pvF n fun a b => A 0 0 * A (a + 1) (b + 1) - A (a + 1) 0 * A 0 (b + 1)
theorem bil_split (n : Nat) (A : Nat → Nat → Int) (hs : ∀ a b, A a b = A b a) (x : Nat → Int) :
    A 0 0 * bil (n + 1) A x x = (A 0 0 * x 0 + sm n fun b => A 0 (b + 1) * x (b + 1)) * (A 0 0 * x 0 + sm n fun b => A 0 (b + 1) * x (b + 1)) + bil n (fun a b => A 0 0 * A (a + 1) (b + 1) - A (a + 1) 0 * A 0 (b + 1)) (fun i => x (i + 1)) (fun i => x (i + 1)) := by
  obtain ⟨L, hL⟩ : ∃ L, (sm n fun b => A 0 (b + 1) * x (b + 1)) = L := ⟨_, rfl⟩
  obtain ⟨Q, hQ⟩ : ∃ Q, bil n (fun a b => A (a + 1) (b + 1)) (fun i => x (i + 1)) (fun i => x (i + 1)) = Q := ⟨_, rfl⟩
  have e1 : bil (n + 1) A x x = x 0 * (A 0 0 * x 0 + L) + x 0 * L + Q := by
    rw [bil_row, sm_front, sm_front, hL]
    have : (sm n fun i => x (i + 1) * sm (n + 1) fun b => A (i + 1) b * x b) = sm n fun i => x 0 * (A 0 (i + 1) * x (i + 1)) + x (i + 1) * sm n fun b => A (i + 1) (b + 1) * x (b + 1) := by
      apply sm_congr; intro i _
      rw [sm_front, hs (i + 1) 0]
      grind
    rw [this, sm_add, sm_mul, hL, ← bil_row n (fun a b => A (a + 1) (b + 1)) (fun i => x (i + 1)) (fun i => x (i + 1)), hQ]
    omega
  have e2 : bil n (fun a b => A 0 0 * A (a + 1) (b + 1) - A (a + 1) 0 * A 0 (b + 1)) (fun i => x (i + 1)) (fun i => x (i + 1)) = A 0 0 * Q - L * L := by
    rw [bil_row]
    have : (sm n fun a => x (a + 1) * sm n fun b => (A 0 0 * A (a + 1) (b + 1) - A (a + 1) 0 * A 0 (b + 1)) * x (b + 1)) = sm n fun a => A 0 0 * (x (a + 1) * sm n fun b => A (a + 1) (b + 1) * x (b + 1)) - L * (A 0 (a + 1) * x (a + 1)) := by
      apply sm_congr; intro a _
      have e3 : (sm n fun b => (A 0 0 * A (a + 1) (b + 1) - A (a + 1) 0 * A 0 (b + 1)) * x (b + 1)) = sm n fun b => A 0 0 * (A (a + 1) (b + 1) * x (b + 1)) - A (a + 1) 0 * (A 0 (b + 1) * x (b + 1)) := by
        apply sm_congr; intro b _; grind
      rw [e3, sm_sub, sm_mul, sm_mul, hL, hs (a + 1) 0]
      grind
    rw [this, sm_sub, sm_mul, sm_mul, hL, ← bil_row n (fun a b => A (a + 1) (b + 1)) (fun i => x (i + 1)) (fun i => x (i + 1)), hQ]
  rw [e1, e2]
  grind
theorem sq_nonneg (a : Int) : 0 ≤ a * a := by
  rcases Int.le_total 0 a with h | h
  · exact Int.mul_nonneg h h
  · have := Int.mul_nonneg (a := -a) (b := -a) (by omega) (by omega)
    rw [Int.neg_mul_neg] at this; exact this
theorem sq_pos {a : Int} (h : a ≠ 0) : 0 < a * a := by
  have h1 := sq_nonneg a
  have h2 : a * a ≠ 0 := fun e => by rcases Int.mul_eq_zero.1 e with e | e <;> exact h e
  omega
theorem pvF_pos : ∀ (n : Nat) (A : Nat → Nat → Int), (∀ a b, A a b = A b a) → pvF n A = true → ∀ x : Nat → Int, (∃ i, i < n ∧ x i ≠ 0) → 0 < bil n A x x
  | 0, _, _, _, _, ⟨i, hi, _⟩ => by omega
  | n + 1, A, hs, hp, x, ⟨i, hi, hx⟩ => by
    simp only [pvF, Bool.and_eq_true, decide_eq_true_eq] at hp
    have key := bil_split n A hs x
    have hB := pvF_pos n (fun a b => A 0 0 * A (a + 1) (b + 1) - A (a + 1) 0 * A 0 (b + 1)) (fun a b => by rw [hs (a + 1) (b + 1), hs (a + 1) 0, hs 0 (b + 1), Int.mul_comm (A 0 (a + 1))]) hp.2 fun i => x (i + 1)
    have hpos : 0 < A 0 0 * bil (n + 1) A x x := by
      rw [key]
      by_cases hz : ∃ j, j < n ∧ x (j + 1) ≠ 0
      · have := hB hz
        have := sq_nonneg (A 0 0 * x 0 + sm n fun b => A 0 (b + 1) * x (b + 1))
        omega
      · have hz' : ∀ j, j < n → x (j + 1) = 0 := fun j hj => Decidable.byContradiction fun h => hz ⟨j, hj, h⟩
        have hx0 : x 0 ≠ 0 := by
          match i, hi, hx with
          | 0, _, hx => exact hx
          | j + 1, hi, hx => exact absurd (hz' j (by omega)) hx
        have e1 : (sm n fun b => A 0 (b + 1) * x (b + 1)) = 0 := by
          rw [sm_congr (g := fun _ => 0) n fun j hj => by rw [hz' j hj, Int.mul_zero], sm_zero]
        have e2 : bil n (fun a b => A 0 0 * A (a + 1) (b + 1) - A (a + 1) 0 * A 0 (b + 1)) (fun i => x (i + 1)) (fun i => x (i + 1)) = 0 := by
          rw [bil_row, sm_congr (g := fun _ => 0) n fun j hj => by rw [hz' j hj, Int.zero_mul], sm_zero]
        rw [e1, e2]
        have := sq_pos (a := A 0 0 * x 0) (fun e => by rcases Int.mul_eq_zero.1 e with e | e <;> omega)
        rw [Int.add_zero, Int.add_zero]; exact this
    rcases Int.lt_or_le 0 (bil (n + 1) A x x) with h | h
    · exact h
    · have := Int.mul_nonneg (a := A 0 0) (b := -(bil (n + 1) A x x)) (by omega) (by omega)
      rw [Int.mul_neg] at this; omega
def pIdx (a b : Nat) : Nat := b * (b - 1) / 2 + a
def gL (l : List Bool) (a b : Nat) : Int := if a = b then 2 else if (if a < b then l.getD (pIdx a b) false else l.getD (pIdx b a) false) then -1 else 0
/-- rows of a pattern: for each vertex b its neighbours a < b, the last first -/
def rowsL : Nat → List Bool → List (List Bool)
  | 0, _ => []
  | b + 1, l => rowsL b l ++ [((List.range b).map fun a => l.getD (pIdx a b) false).reverse]
def dotB : List Bool → List Nat → Nat
  | true :: r, x :: s => x + dotB r s
  | false :: r, _ :: s => dotB r s
  | _, _ => 0
/-- how many ways to go on with 0, 1, 2 at each vertex that is left, to the form's value 1: xs is what has been chosen, the last first; p the squares, m the edges -/
def cntR : List (List Bool) → List Nat → Nat → Nat → Nat
  | [], _, p, m => if p == m + 1 then 1 else 0
  | row :: rs, xs, p, m => cntR rs (0 :: xs) p m + cntR rs (1 :: xs) (p + 1) (m + dotB row xs) + cntR rs (2 :: xs) (p + 4) (m + 2 * dotB row xs)
def finOK (n : Nat) (l : List Bool) : Bool := (List.range n).all (fun v => pvF n fun a b => 4 * gL l a b - if a = v ∧ b = v then 1 else 0) && Nat.ble (cntR (rowsL n l) [] 0 0) 20
/-- circles and the star of five: their edges, their vertices as a set -/
def wits : List (List Nat × Nat) := [([0, 1, 2], 7), ([0, 3, 4], 11), ([0, 6, 7], 19), ([1, 3, 5], 13), ([1, 6, 8], 21), ([3, 6, 9], 25), ([2, 4, 5], 14), ([2, 7, 8], 22), ([4, 7, 9], 26), ([5, 8, 9], 28), ([0, 2, 3, 5], 15), ([0, 1, 4, 5], 15), ([1, 2, 3, 4], 15), ([0, 2, 6, 8], 23), ([0, 1, 7, 8], 23), ([1, 2, 6, 7], 23), ([0, 4, 6, 9], 27), ([0, 3, 7, 9], 27), ([3, 4, 6, 7], 27), ([1, 5, 6, 9], 29), ([1, 3, 8, 9], 29), ([3, 5, 6, 8], 29), ([2, 5, 7, 9], 30), ([2, 4, 8, 9], 30), ([4, 5, 7, 8], 30), ([0, 2, 5, 6, 9], 31), ([0, 2, 3, 8, 9], 31), ([0, 4, 5, 6, 8], 31), ([0, 1, 4, 8, 9], 31), ([0, 3, 5, 7, 8], 31), ([0, 1, 5, 7, 9], 31), ([1, 2, 4, 6, 9], 31), ([1, 2, 3, 7, 9], 31), ([1, 4, 5, 6, 7], 31), ([1, 3, 4, 7, 8], 31), ([2, 3, 4, 6, 8], 31), ([2, 3, 5, 6, 7], 31), ([0, 1, 3, 6], 31), ([0, 2, 4, 7], 31), ([1, 2, 5, 8], 31), ([3, 4, 5, 9], 31), ([6, 7, 8, 9], 31)]
def witAt (l : List Bool) : List (List Nat × Nat) → Nat
  | [] => 0
  | (e, s) :: r => if e.all fun i => l.getD i false then s else witAt l r
def patOK (n : Nat) (l : List Bool) : Bool := match witAt l wits with
  | 0 => finOK n l
  | s + 1 => decide (dtS (s + 1) n (gL l) ≤ 0)
def allBL : Nat → List Bool → (List Bool → Bool) → Bool
  | 0, acc, f => f acc
  | m + 1, acc, f => allBL m (true :: acc) f && allBL m (false :: acc) f
theorem pat_1 : allBL 0 [] (patOK 1) = true := by decide +kernel
theorem pat_2 : allBL 1 [] (patOK 2) = true := by decide +kernel
theorem pat_3 : allBL 3 [] (patOK 3) = true := by decide +kernel
theorem pat_4 : allBL 6 [] (patOK 4) = true := by decide +kernel
theorem pat_5a : allBL 8 [true, true] (patOK 5) = true := by decide +kernel
theorem pat_5b : allBL 8 [false, true] (patOK 5) = true := by decide +kernel
theorem pat_5c : allBL 8 [true, false] (patOK 5) = true := by decide +kernel
theorem pat_5d : allBL 8 [false, false] (patOK 5) = true := by decide +kernel
theorem pat_5 : allBL 10 [] (patOK 5) = true := by
  show (allBL 8 [true, true] (patOK 5) && allBL 8 [false, true] (patOK 5) && (allBL 8 [true, false] (patOK 5) && allBL 8 [false, false] (patOK 5))) = true
  rw [pat_5a, pat_5b, pat_5c, pat_5d]; rfl
theorem pat_all {n : Nat} (h0 : 1 ≤ n) (h5 : n ≤ 5) : allBL (n * (n - 1) / 2) [] (patOK n) = true := by
  match n, h0, h5 with
  | 1, _, _ => exact pat_1
  | 2, _, _ => exact pat_2
  | 3, _, _ => exact pat_3
  | 4, _, _ => exact pat_4
  | 5, _, _ => exact pat_5
end Go.Proofs.Ytgbchoenmpoojaa
