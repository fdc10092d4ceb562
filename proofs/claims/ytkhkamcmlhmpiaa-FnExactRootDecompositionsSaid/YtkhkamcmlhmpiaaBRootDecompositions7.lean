/- FnExactRootDecompositions: for every argument the program's function returns what the reference's returns. Part 7 of 12 of the proof: Cln, Copy, Copy2, Zero, Flat, Ident, SSO, Det0, Kind0, FinA, FinB, RtP, Eulr, Eulr2, RtC. No condition. -/
import Derived.Test.YtkhkamcmlhmpiaaBRootDecompositions6
import Derived.Shelf.Slices.Clone
import Derived.ArgAppend
import Derived.Laws.Bits128
import Derived.Sort.LotA
/- slices.Clone at []int: the shelf's contract. -/
namespace Go.Proofs
open Go.Shelf
def Try.laysClone_ren : Go.Shelf.Ren := ⟨fun | 15 => 79 | n => n, fun | 22 => 22 | 3 => 3 | 4 => 4 | n => n, fun | n => n⟩
theorem Try.laysClone : Go.Proofs.Lays2.n15 Try.prog Try.laysClone_ren := {
  mixed := by kernel_rfl
  f15 := Try.func79.trans (congrArg some (by kernel_rfl))
  t3 := Try.underlying3
  a3 := Try.isAgg3
  z3 := Try.sizeOf3
  v3 := Try.zeroValue3
  t4 := Try.underlying4
  a4 := Try.isAgg4
  z4 := Try.sizeOf4
  v4 := Try.zeroValue4
  t22 := Try.underlying22
  a22 := Try.isAgg22
  z22 := Try.sizeOf22
  v22 := Try.zeroValue22
  i3 := by kernel_rfl }
end Go.Proofs
namespace Go.Proofs.Ytkhkamcmlhmpiaa
set_option linter.unusedVariables false
set_option linter.unusedSimpArgs false
open Go.RowKit

theorem clone_own (u : Value) (xs : List Int) (w : World) (hu : SlI w w.heap.size u xs) :
    Calls Try.prog 79 #[u] w fun e w' => ∃ v, e = .returned v ∧ IntsO w' w.heap.size w'.heap.size v xs ∧ Below w.heap.size w w' := by
  have hr := SlI.i64 hu
  have hrd := hu
  obtain ⟨A, c, rfl, _, _, hn, hx⟩ := hu
  rcases A with _ | a
  · have h0 : xs = [] := by
      apply List.eq_nil_of_length_eq_zero
      rcases Nat.eq_zero_or_pos xs.length with h | h
      · exact h
      · obtain ⟨b, o, e, _⟩ := hx h
        cases e
    subst h0
    exact (Any.slices_Clone_int_nil Try.laysClone 0 c w).mono fun e w' ⟨h1, h2⟩ => ⟨_, h1, ⟨OwnI.nil _ _, by simp [Value.ownBlock]⟩, by rw [h2]; exact Below.refl _ _⟩
  rcases Nat.eq_zero_or_pos xs.length with h0 | hp
  · have h0 : xs = [] := List.eq_nil_of_length_eq_zero h0
    subst h0
    exact (Any.slices_Clone_int_zero Try.laysClone a c w).mono fun e w' ⟨v, h1, h2, _, hb⟩ => ⟨v, h1, IntsO.of_own ⟨h2, by simp, by simp⟩, hb⟩
  · obtain ⟨b, o, e, hb, hc⟩ := hx hp
    injection e with e
    subst e
    refine (Any.slices_Clone_int Try.laysClone b o xs.length c xs w (Nat.le_refl _) (by omega) (fun j hj => ?_)).mono ?_
    · have h := (hc j (xs.getD j 0) (by rw [List.getD_eq_getElem?_getD, List.getElem?_eq_getElem hj]; rfl)).1
      simpa using h
    · rintro e w' ⟨v', rfl, ho, hnn, hb⟩
      rw [List.take_of_length_le (Nat.le_refl _)] at ho
      exact ⟨v', rfl, IntsO.of_own ⟨ho, hn, hr⟩, hb⟩

end Go.Proofs.Ytkhkamcmlhmpiaa

/- Copies: slices.Clone at []int, append onto a fresh empty slice, copies of matrices and quivers on both sides. -/
namespace Go.Proofs.Ytkhkamcmlhmpiaa
set_option linter.unusedVariables false
set_option linter.unusedSimpArgs false
open Go.RowKit

/-- append of ints onto a slice that has just been made and holds nothing: what was there stands. -/
theorem wpList_append_fresh {w : World} {ops : Array Oper} {rest : List Oper} {o : Oper} {a : Act} {Q : Exit → Act → World → Prop} (hgd : o.guard = none) (s x : Operand)
    (ho : o.op = .call { callee := .builtin .append, args := #[s, x], argTypes := #[22, 22] })
    (g lo B : Nat) (cs : Array Value) (hs : a.eval s = .slice (some ⟨g, 0, none⟩) 0 0) (hg : Blk w g 3 cs) (hcs : cs.size = 0) (hlo : lo ≤ g) (A : Option Addr) (c : Nat) (news : List Int) (hx : a.eval x = .slice A news.length c) (hr : SlI w B (.slice A news.length c) news)
    (h : ∀ v' w', OwnI w' lo v' news → Below w.heap.size w w' → wpList Try.prog ops Q rest (a.put o.dst v') w') : wpList Try.prog ops Q (o :: rest) a w := by
  obtain ⟨i0, hi, hz0, hz1, hz2⟩ := info_parts infoInt
  have hn := hr
  obtain ⟨_, _, _, _, _, hn, hcell⟩ := hn
  have hI := SlI.i64 hr
  refine wpList_plain hgd fun K hK => ?_
  by_cases hp : 0 < news.length
  · obtain ⟨b, of, eA, hb, hc⟩ := hcell hp
    have hA := NewsAt.of_sl hr
    obtain ⟨hl, hnews⟩ := hA
    obtain ⟨b', of', eA', hc'⟩ := hnews.resolve_left (by omega)
    subst eA'
    have hadd : ∀ j, (⟨b', of', none⟩ : Addr).add j = ⟨b', of' + j, none⟩ := by intro j; unfold Addr.add; split <;> simp_all
    obtain ⟨v', w', hrun, hown, hgr⟩ := run_append_arg_grows (P := Try.prog) w 22 o.type 3 i0 _ 1 8 Try.underlying22 hi hz0 hz1 hz2 rfl (by decide) ⟨g, 0, none⟩ 0 0 [] (by simp) (by intro j u hj; simp at hj) ⟨b', of', none⟩ news.length c (news.map (Value.int .i64)) hl (fun j u hj => by rw [hadd]; exact hc' j u hj) (by omega) (by simp only [maxLen]; omega) (by omega)
    unfold Oper.wp execOp
    simp only [ho, resolve, invoke, builtin, Sem.run_bind, Sem.run_pure, Result.andThen_ok, List.map_toArray, List.map_cons, List.map_nil, hs, hx, hrun]
    refine hK _ _ (h v' w' ?_ ⟨hgr.os, hgr.tape, hgr.output, hgr.size, fun k hk => hgr.block k hk (by simp)⟩)
    have hgl := hg.lt
    exact OwnI.lower (base := w.heap.size) ⟨by simpa using hown, hn, hI⟩ (by omega)
  · have h0 : news = [] := List.eq_nil_of_length_eq_zero (by omega)
    subst h0
    have hrun : (Builtin.append_ #[22, 22] o.type #[.slice (some ⟨g, 0, none⟩) 0 0, .slice A 0 c]).run Try.prog w = .ok (.slice (some ⟨g, 0, none⟩) 0 0) w := by
      cases A <;> simp [Builtin.append_, run_underlying (P := Try.prog) Try.underlying22, sizeOf, typeInfo, hi, Builtin.lenOf, Builtin.firstCells, storeCells, loadCells, loadCellsFrom]
    simp only [List.length_nil] at hx
    unfold Oper.wp execOp
    simp only [ho, resolve, invoke, builtin, Sem.run_bind, Sem.run_pure, Result.andThen_ok, List.map_toArray, List.map_cons, List.map_nil, hs, hx, hrun]
    refine hK _ _ (h _ w ?_ (Below.refl _ _))
    have := hg.own (base := lo) (n := 0) (cap := 0) (size := 1) hlo (Nat.le_refl _) (by simp only [maxLen]; omega) (by omega)
    exact ⟨by simpa using this, by simp, by simp⟩

/-- a slice that has just been made and holds nothing -/
def Fresh (w : World) (lo : Nat) (u : Value) : Prop := ∃ g, u = .slice (some ⟨g, 0, none⟩) 0 0 ∧ lo ≤ g ∧ Blk w g 3 #[]
theorem Fresh.below {w w' : World} {lo : Nat} {u : Value} (h : Fresh w lo u) (hb : Below w.heap.size w w') : Fresh w' lo u := by
  obtain ⟨g, e, h1, h2⟩ := h
  exact ⟨g, e, h1, h2.call hb⟩
theorem Fresh.new (w : World) {lo : Nat} (h : lo ≤ w.heap.size) : Fresh (w.alloc (.cells #[] 3)) lo (.slice (some ⟨w.heap.size, 0, none⟩) 0 0) := ⟨_, rfl, h, Blk.new _ _ _⟩

end Go.Proofs.Ytkhkamcmlhmpiaa

/- Copies of quivers on both sides, of matrices on the program's. -/
namespace Go.Proofs.Ytkhkamcmlhmpiaa
set_option linter.unusedVariables false
set_option linter.unusedSimpArgs false
open Go.RowKit

theorem IntsO.form {w : World} {lo hi : Nat} {v : Value} {l : List Int} (h : IntsO w lo hi v l) : ∃ A c, v = .slice A l.length c := by
  obtain ⟨A, c, e, _⟩ := h.1.form
  exact ⟨A, c, e⟩
theorem QuivO.setLow {w : World} {lo hi : Nat} {v : Value} {q : Qv} (h : QuivO w lo hi v q) {p : Addr} (hp : p.block < lo) (u : Value) : QuivO (w.setCell p u) lo hi v q :=
  h.chg (chg_set (lo := p.block) (hi := p.block + 1) (Nat.le_refl _) (by omega)) (.inr (by omega))
theorem QuivO.wider {w : World} {lo hi lo' hi' : Nat} {v : Value} {q : Qv} (h : QuivO w lo hi v q) (h1 : lo' ≤ lo) (h2 : hi ≤ hi') : QuivO w lo' hi' v q := by
  obtain ⟨a, b, e, hF, hr⟩ := h
  exact ⟨a, b, e, hF.mono h1 h2, hr⟩

/-- two rows of two stretches that are apart -/
theorem fam_apart {w : World} {lo hi l1 h1 l2 h2 : Nat} {a b : Value} {l m : List Int} (ha : IntsO w l1 h1 a l) (hb : IntsO w l2 h2 b m) (hd : h1 ≤ l2 ∨ h2 ≤ l1) (k1 : lo ≤ l1) (k2 : lo ≤ l2) (k3 : h1 ≤ hi) (k4 : h2 ≤ hi) : Fam w lo hi [(a, l), (b, m)] := by
  refine ⟨fun p hp => ?_, ?_⟩
  · simp only [List.mem_cons, List.not_mem_nil, or_false] at hp
    rcases hp with rfl | rfl
    · exact ha.wider k1 k3
    · exact hb.wider k2 k4
  · simp only [List.pairwise_cons, List.mem_cons, List.not_mem_nil, or_false, forall_eq, false_implies, implies_true, List.Pairwise.nil, and_true]
    rcases hA : a.ownBlock with _ | x
    · exact .inl rfl
    · right
      intro e
      have h3 := ha.2 x hA
      have h4 := (ha.1.lt x hA).1
      have h5 := hb.2 x e.symm
      have h6 := (hb.1.lt x e.symm).1
      omega

/-- a quiver whose rows the call made; whether they are apart from one another is not said -/
def QuivI (w : World) (lo hi : Nat) (val : Value) (q : Qv) : Prop := ∃ a b, val = .agg #[.int .i64 q.v, a, b] ∧ IntsO w lo hi a q.f ∧ IntsO w lo hi b q.t ∧ I64 q.v
theorem QuivI.below {w w' : World} {lo hi : Nat} {v : Value} {q : Qv} (h : QuivI w lo hi v q) (hb : Below w.heap.size w w') : QuivI w' lo hi v q := by
  obtain ⟨a, b, e, h1, h2, h3⟩ := h
  exact ⟨a, b, e, h1.below hb, h2.below hb, h3⟩
theorem QuivI.rd {w : World} {lo hi : Nat} {v : Value} {q : Qv} (h : QuivI w lo hi v q) : QvR w w.heap.size v q := by
  obtain ⟨a, b, e, h1, h2, h3⟩ := h
  exact ⟨a, b, e, h1.rd, h2.rd, h3⟩
theorem QuivI.set {w : World} {lo hi : Nat} {v : Value} {q : Qv} (h : QuivI w lo hi v q) {p : Addr} (hp : p.block < lo) (u : Value) : QuivI (w.setCell p u) lo hi v q := by
  obtain ⟨a, b, e, h1, h2, h3⟩ := h
  exact ⟨a, b, e, h1.set hp u, h2.set hp u, h3⟩
theorem QuivI.wider {w : World} {lo hi lo' hi' : Nat} {v : Value} {q : Qv} (h : QuivI w lo hi v q) (k1 : lo' ≤ lo) (k2 : hi ≤ hi') : QuivI w lo' hi' v q := by
  obtain ⟨a, b, e, h1, h2, h3⟩ := h
  exact ⟨a, b, e, h1.wider k1 k2, h2.wider k1 k2, h3⟩

end Go.Proofs.Ytkhkamcmlhmpiaa

/- Matrices of zeros; append of a matrix onto a row of the call's own. -/
namespace Go.Proofs.Ytkhkamcmlhmpiaa
set_option linter.unusedVariables false
set_option linter.unusedSimpArgs false
open Go.RowKit

def zmx (r c : Int) : Mx := ⟨r, c, List.replicate (r * c).toNat 0⟩

/-! ### an append onto a row of elements T: what it leaves alone -/
structure AppT (T : TypeId) (lo : Nat) (w w' : World) : Prop where
  os : w'.os = w.os
  tape : w'.tape = w.tape
  output : w'.output = w.output
  size : w.heap.size ≤ w'.heap.size
  low : ∀ k, k < lo → k < w.heap.size → w'.heap[k]? = w.heap[k]?
  other : ∀ g t cs, t ≠ T → Blk w g t cs → Blk w' g t cs
theorem AppT.of_below {T : TypeId} {lo : Nat} {w w' : World} (h : Below w.heap.size w w') : AppT T lo w w' := ⟨h.os, h.tape, h.output, h.size, fun k _ hk => h.block k hk, fun _ _ _ _ hb => hb.call h⟩
theorem AppT.trans {T : TypeId} {lo : Nat} {a b c : World} (h : AppT T lo a b) (k : AppT T lo b c) : AppT T lo a c :=
  ⟨k.os.trans h.os, k.tape.trans h.tape, k.output.trans h.output, Nat.le_trans h.size k.size, fun i hi hs => (k.low i hi (Nat.lt_of_lt_of_le hs h.size)).trans (h.low i hi hs), fun g t cs ht hb => k.other g t cs ht (h.other g t cs ht hb)⟩
theorem AppT.below {T : TypeId} {lo B : Nat} {w w' : World} (h : AppT T lo w w') (hB : B ≤ lo) (hs : B ≤ w.heap.size) : Below B w w' := ⟨h.os, h.tape, h.output, h.size, fun k hk => h.low k (by omega) (by omega)⟩
theorem OwnI.appT {T : TypeId} {lo base : Nat} {w w' : World} {v : Value} {l : List Int} (h : OwnI w base v l) (hT : 3 ≠ T) (ha : AppT T lo w w') : OwnI w' base v l := by
  refine ⟨⟨h.1.1, ?_⟩, h.2⟩
  rcases h.1.2 with h1 | ⟨g, cap, cur, e, hg, hh, rest⟩
  · exact .inl h1
  · exact .inr ⟨g, cap, cur, e, hg, ha.other g _ cur hT hh, rest⟩
theorem IntsO.appT {T : TypeId} {lo l1 h1 : Nat} {w w' : World} {v : Value} {l : List Int} (h : IntsO w l1 h1 v l) (hT : 3 ≠ T) (ha : AppT T lo w w') : IntsO w' l1 h1 v l := ⟨h.1.appT hT ha, h.2⟩
theorem Fam.appT {T : TypeId} {lo l1 h1 : Nat} {w w' : World} {L : List (Value × List Int)} (h : Fam w l1 h1 L) (hT : 3 ≠ T) (ha : AppT T lo w w') : Fam w' l1 h1 L := ⟨fun p hp => (h.1 p hp).appT hT ha, h.2⟩
theorem AppT.set {T T' : TypeId} {lo g i : Nat} {w : World} {cs : Array Value} {u : Value} (hb : Blk w g T' cs) (hT : T' = T) (hg : lo ≤ g) : AppT T lo w (w.setCell ⟨g, i, none⟩ u) := by
  subst hT
  refine ⟨rfl, rfl, rfl, by simp [World.setCell], fun k hk _ => Below.heap_setCell _ _ _ _ (by simp; omega), fun g' t cs' ht hb' => ?_⟩
  refine hb'.far ?_ u
  rintro rfl
  unfold Blk at hb hb'
  rw [hb] at hb'
  injection hb' with hb'
  injection hb' with _ hb'
  exact ht hb'.symm

end Go.Proofs.Ytkhkamcmlhmpiaa

/- Matrices told by a function of the two places: cells in one row. -/
namespace Go.Proofs.Ytkhkamcmlhmpiaa
set_option linter.unusedVariables false
set_option linter.unusedSimpArgs false
open Go.RowKit

theorem ix_div {i k c : Nat} (hk : k < c) : (i * c + k) / c = i := by
  rw [Nat.mul_comm, Nat.mul_add_div (by omega), Nat.div_eq_of_lt hk, Nat.add_zero]
theorem ix_mod {i k c : Nat} (hk : k < c) : (i * c + k) % c = k := by
  rw [Nat.mul_comm, Nat.mul_add_mod, Nat.mod_eq_of_lt hk]
theorem ix_lt {i k r c : Nat} (hi : i < r) (hk : k < c) : i * c + k < r * c := by
  have : (i + 1) * c ≤ r * c := Nat.mul_le_mul_right _ hi
  rw [Nat.add_mul] at this
  omega
theorem ix_of {j r c : Nat} (hj : j < r * c) : ∃ i k, i < r ∧ k < c ∧ j = i * c + k := by
  have hc : 0 < c := Nat.pos_of_ne_zero (by rintro rfl; simp at hj)
  refine ⟨j / c, j % c, (Nat.div_lt_iff_lt_mul hc).2 hj, Nat.mod_lt _ hc, ?_⟩
  rw [Nat.mul_comm]; exact (Nat.div_add_mod j c).symm
theorem ix_inj {i k i' k' c : Nat} (hk : k < c) (hk' : k' < c) (h : i * c + k = i' * c + k') : i = i' ∧ k = k' := by
  have h1 := ix_div (i := i) hk
  have h2 := ix_mod (i := i) hk
  rw [h, ix_div hk'] at h1
  rw [h, ix_mod hk'] at h2
  exact ⟨h1.symm, h2.symm⟩

def flat (r c : Nat) (f : Nat → Nat → Int) : List Int := (List.range (r * c)).map fun j => f (j / c) (j % c)
theorem flat_length (r c : Nat) (f : Nat → Nat → Int) : (flat r c f).length = r * c := by simp [flat]
theorem flat_get {r c i k : Nat} (f : Nat → Nat → Int) (hi : i < r) (hk : k < c) : (flat r c f)[i * c + k]? = some (f i k) := by
  simp [flat, ix_lt hi hk, ix_div hk, ix_mod hk]
theorem flat_getD {r c i k : Nat} (f : Nat → Nat → Int) (hi : i < r) (hk : k < c) : (flat r c f).getD (i * c + k) 0 = f i k := by
  rw [List.getD_eq_getElem?_getD, flat_get f hi hk]; rfl
theorem flat_ext {r c : Nat} {l : List Int} {f : Nat → Nat → Int} (hl : l.length = r * c) (h : ∀ i k, i < r → k < c → l[i * c + k]? = some (f i k)) : l = flat r c f := by
  apply List.ext_getElem?
  intro j
  by_cases hj : j < r * c
  · obtain ⟨i, k, hi, hk, rfl⟩ := ix_of hj
    rw [h i k hi hk, flat_get f hi hk]
  · rw [List.getElem?_eq_none (by omega), List.getElem?_eq_none (by rw [flat_length]; omega)]
theorem flat_congr {r c : Nat} {f g : Nat → Nat → Int} (h : ∀ a b, a < r → b < c → f a b = g a b) : flat r c f = flat r c g :=
  flat_ext (flat_length _ _ _) fun i k hi hk => by rw [flat_get f hi hk, h i k hi hk]
theorem flat_inj {r c : Nat} {f g : Nat → Nat → Int} (h : flat r c f = flat r c g) {a b : Nat} (ha : a < r) (hb : b < c) : f a b = g a b := by
  have := flat_get f ha hb
  rw [h, flat_get g ha hb] at this
  injection this with this
  exact this.symm
theorem flat_set {r c i k : Nat} (f : Nat → Nat → Int) (x : Int) (hi : i < r) (hk : k < c) : (flat r c f).set (i * c + k) x = flat r c fun a b => if a = i ∧ b = k then x else f a b := by
  refine flat_ext (by simp [flat_length]) fun a b ha hb => ?_
  rw [List.getElem?_set]
  by_cases e : i * c + k = a * c + b
  · obtain ⟨rfl, rfl⟩ := ix_inj hk hb e
    rw [if_pos rfl, if_pos (by rw [flat_length]; exact ix_lt hi hk), if_pos ⟨rfl, rfl⟩]
  · rw [if_neg e, flat_get f ha hb, if_neg]
    rintro ⟨rfl, rfl⟩
    exact e rfl
theorem flat_zero (r c : Nat) : flat r c (fun _ _ => 0) = List.replicate (r * c) 0 := by
  refine (flat_ext (by simp) fun i k hi hk => ?_).symm
  have := ix_lt hi hk
  simp [this]
theorem flat_mem {r c : Nat} {f : Nat → Nat → Int} {x : Int} (h : x ∈ flat r c f) : ∃ i k, i < r ∧ k < c ∧ x = f i k := by
  simp only [flat, List.mem_map, List.mem_range] at h
  obtain ⟨j, hj, rfl⟩ := h
  obtain ⟨i, k, hi, hk, rfl⟩ := ix_of hj
  exact ⟨i, k, hi, hk, by rw [ix_div hk, ix_mod hk]⟩
/-- a list of so many numbers is told by its entries -/
def entry (l : List Int) (c i k : Nat) : Int := l.getD (i * c + k) 0
theorem flat_of {l : List Int} {r c : Nat} (hl : l.length = r * c) : l = flat r c (entry l c) :=
  flat_ext hl fun i k hi hk => by
    have := ix_lt hi hk
    rw [entry, List.getD_eq_getElem?_getD, List.getElem?_eq_getElem (by omega)]; rfl

def mxF (r c : Nat) (f : Nat → Nat → Int) : Mx := ⟨r, c, flat r c f⟩
theorem zmx_flat (r c : Nat) : zmx r c = mxF r c fun _ _ => 0 := by
  rw [mxF, flat_zero, zmx]
  congr
theorem mxF_congr {r c : Nat} {f g : Nat → Nat → Int} (h : ∀ a b, a < r → b < c → f a b = g a b) : mxF r c f = mxF r c g := by rw [mxF, mxF, flat_congr h]

/-- what a walk needs of an index -/
theorem ix_walk {i k r c : Nat} (hi : i < r) (hk : k < c) (hr : r ≤ 1000) (hc : c ≤ 1000) :
    ∃ P J : Nat, wrap64 ((i : Int) * (c : Int)) = (P : Int) ∧ P + k = J ∧ J = i * c + k ∧ J < r * c ∧ J ≤ 1000000 := by
  have h1 := ix_lt hi hk
  have h2 : r * c ≤ 1000 * 1000 := Nat.mul_le_mul hr hc
  refine ⟨i * c, i * c + k, ?_, rfl, rfl, h1, by omega⟩
  rw [show ((i : Int) * (c : Int)) = ((i * c : Nat) : Int) by simp]
  exact IntWalk.wrap64_in _ ⟨by omega, by omega⟩
end Go.Proofs.Ytkhkamcmlhmpiaa

/- Identity matrices: the program's and the reference's. -/
namespace Go.Proofs.Ytkhkamcmlhmpiaa
set_option linter.unusedVariables false
set_option linter.unusedSimpArgs false
open Go.RowKit

theorem IntsO.at_ {w : World} {lo hi : Nat} {v : Value} {l : List Int} (h : IntsO w lo hi v l) (h0 : 0 < l.length) : ∃ g c, v = .slice (some ⟨g, 0, none⟩) l.length c ∧ lo ≤ g ∧ g < hi ∧ g < w.heap.size := by
  rcases h.1.1.2 with ⟨rfl, h1⟩ | ⟨g, cap, cur, rfl, hg, hh, _⟩
  · omega
  · exact ⟨g, cap, rfl, hg, h.2 g rfl, (Array.getElem?_eq_some_iff.1 hh).1⟩
theorem IntsO.put {w : World} {lo hi g n cap j : Nat} {l : List Int} {x : Int} (h : IntsO w lo hi (.slice (some ⟨g, 0, none⟩) n cap) l) (hx : I64 x) : IntsO (w.setCell ⟨g, j, none⟩ (.int .i64 x)) lo hi (.slice (some ⟨g, 0, none⟩) n cap) (l.set j x) := ⟨(h.1.put hx).1, h.2⟩
def idF (a b : Nat) : Int := if a = b then 1 else 0
def idK (k a b : Nat) : Int := if a = b ∧ a < k then 1 else 0
theorem idK_0 (n : Nat) : flat n n (fun _ _ => 0) = flat n n (idK 0) := flat_congr fun a b _ _ => by simp [idK]
theorem idK_succ {n k : Nat} (h : k < n) : (flat n n (idK k)).set (k * n + k) 1 = flat n n (idK (k + 1)) := by
  rw [flat_set _ _ h h]
  refine flat_congr fun a b _ _ => ?_
  simp only [idK]
  by_cases e : a = b
  · subst e
    by_cases e2 : a = k
    · simp [e2]
    · simp only [e2, true_and, if_false, false_and]
      congr 1
      simp; omega
  · rw [if_neg (by omega), if_neg (by omega), if_neg (by omega)]
theorem idK_n (n : Nat) : flat n n (idK n) = flat n n idF := flat_congr fun a b ha _ => by simp [idK, idF, ha]

end Go.Proofs.Ytkhkamcmlhmpiaa

/- Lists of lists of ints of the call's own, taken as one thing: made, read, a row set, a number set, a row appended. -/
namespace Go.Proofs.Ytkhkamcmlhmpiaa
set_option linter.unusedVariables false
set_option linter.unusedSimpArgs false
open Go.RowKit

theorem IntssO.wider {w : World} {lo hi lo' hi' : Nat} {v : Value} {ll : List (List Int)} (h : IntssO w lo hi v ll) (h1 : lo' ≤ lo) (h2 : hi ≤ hi') : IntssO w lo' hi' v ll := by
  obtain ⟨vs, a, b, c⟩ := h
  exact ⟨vs, a.mono h1 h2, b, c.mono h1 h2⟩
theorem IntssO.form2 {w : World} {lo hi : Nat} {v : Value} {ll : List (List Int)} (h : IntssO w lo hi v ll) : ∃ A c, v = .slice A ll.length c ∧ ll.length ≤ c ∧ c ≤ 9223372036854775807 ∧ ll.length ≤ 17592186044416 := by
  obtain ⟨vs, a, b, c⟩ := h
  obtain ⟨A, d, h1, h2, h3⟩ := a.form
  exact ⟨A, d, by rw [h1, b], by omega, h3, by have := a.2.2; omega⟩
theorem IntssO.nil (w : World) (lo hi : Nat) : IntssO w lo hi (.slice none 0 0) [] := ⟨[], ⟨World.ownsRow_nil _ _ _ _, by simp [Value.ownBlock], by simp⟩, rfl, ⟨fun p hp => by simp at hp, by simp⟩⟩
theorem IntssO.made0 (w : World) {lo : Nat} (h : lo ≤ w.heap.size) : IntssO (w.alloc (.cells #[] 22)) lo (w.alloc (.cells #[] 22)).heap.size (.slice (some ⟨w.heap.size, 0, none⟩) 0 0) [] :=
  ⟨[], ⟨World.ownsRow_made w #[] 0 h (by simp [maxLen]) (by simp), by simp [Value.ownBlock], by simp⟩, rfl, ⟨fun p hp => by simp at hp, by simp⟩⟩
theorem IntssO.made (w : World) {lo n : Nat} (h : lo ≤ w.heap.size) (hn : n ≤ 17592186044416) : IntssO (w.alloc (.cells (mkCells (.slice none 0 0) n) 22)) lo (w.alloc (.cells (mkCells (.slice none 0 0) n) 22)).heap.size (.slice (some ⟨w.heap.size, 0, none⟩) n n) (List.replicate n []) := by
  refine ⟨List.replicate n (.slice none 0 0), ?_, by simp, ⟨fun p hp => ?_, ?_⟩⟩
  · have h1 := (Blk.new w 22 (mkCells (.slice none 0 0) n)).own (base := lo) (n := n) (cap := n) (size := 1) h (Nat.le_refl _) (by simp only [maxLen]; omega) (by rw [mkCells_size]; omega)
    rw [show (mkCells (.slice none 0 0) n).toList = List.replicate n (.slice none 0 0) from toList_madeCells_one _ _, List.take_of_length_le (by simp)] at h1
    exact ⟨by simpa using h1, fun k hk => by simp [Value.ownBlock] at hk; simp; omega, by simpa using hn⟩
  · obtain ⟨a, b⟩ := p
    have h1 := List.of_mem_zip hp
    obtain ⟨_, rfl⟩ := List.mem_replicate.1 h1.1
    obtain ⟨_, rfl⟩ := List.mem_replicate.1 h1.2
    exact ⟨OwnI.nil _ _, by simp [Value.ownBlock]⟩
  · rw [List.pairwise_iff_getElem]
    intro i j hi hj hij
    left
    simp [Value.ownBlock]
theorem IntssO.at_ {w : World} {lo hi : Nat} {v : Value} {ll : List (List Int)} (h : IntssO w lo hi v ll) (h0 : 0 < ll.length) : ∃ g c, v = .slice (some ⟨g, 0, none⟩) ll.length c ∧ lo ≤ g ∧ g < hi ∧ g < w.heap.size ∧ ll.length ≤ c ∧ c ≤ 9223372036854775807 := by
  obtain ⟨vs, a, b, c⟩ := h
  rcases a.1.2 with ⟨_, h1⟩ | ⟨g, cap, cur, rfl, hg, hh, hnc, hcm, _⟩
  · omega
  · exact ⟨g, cap, by rw [b], hg, a.2.1 g (by simp [Value.ownBlock]), (Array.getElem?_eq_some_iff.1 hh).1, by omega, by simp only [maxLen] at hcm; omega⟩
theorem IntssO.row {w : World} {lo hi g n c j : Nat} {ll : List (List Int)} {l : List Int} (h : IntssO w lo hi (.slice (some ⟨g, 0, none⟩) n c) ll) (hj : ll[j]? = some l) : ∃ u, w.cell? ⟨g, j, none⟩ = some u ∧ IntsO w lo hi u l ∧ w.frozen? ⟨g, j, none⟩ = false := by
  obtain ⟨vs, a, b, F⟩ := h
  have hl := lt_of_some hj
  have hv : vs[j]? = some (vs[j]'(by omega)) := List.getElem?_eq_getElem (by omega)
  exact ⟨_, a.cellS hv, F.1 (vs[j]'(by omega), l) (by rw [zip_split hv hj]; simp), a.frozenS j⟩
theorem OutO.blk {w : World} {lo hi g n c : Nat} {vs : List Value} (h : OutO w lo hi (.slice (some ⟨g, 0, none⟩) n c) vs) : ∃ cs, Blk w g 22 cs ∧ n = vs.length := by
  rcases h.1.2 with ⟨e, _⟩ | ⟨g', cap', cur, e, _, hh, _⟩
  · cases e
  · injection e with e1 e2 _
    injection e1 with e1
    injection e1 with e1
    subst e1
    exact ⟨cur, hh, e2⟩
/-- a row set: of memory made later than the rest -/
theorem IntssO.setRow {w : World} {lo hi mi hi' g n c j : Nat} {ll : List (List Int)} {l : List Int} {u : Value} (h : IntssO w lo hi (.slice (some ⟨g, 0, none⟩) n c) ll) (hj : j < ll.length) (hu : IntsO w mi hi' u l) (h1 : hi ≤ mi) (h2 : mi ≤ hi') (h3 : lo ≤ mi) :
    IntssO (w.setCell ⟨g, j, none⟩ u) lo hi' (.slice (some ⟨g, 0, none⟩) n c) (ll.set j l) ∧ Chg g (g + 1) w (w.setCell ⟨g, j, none⟩ u) := by
  obtain ⟨vs, a, b, F⟩ := h
  obtain ⟨cs, hb, hn⟩ := a.blk
  refine ⟨⟨vs.set j u, ?_, by simp [b], ?_⟩, chg_set (Nat.le_refl _) (Nat.lt_succ_self _)⟩
  · have h4 := (hn ▸ a.1).stored j u
    rw [hn]
    exact ⟨by simpa using h4.1, fun k hk => Nat.lt_of_lt_of_le (a.2.1 k (by simpa [Value.ownBlock] using hk)) (by omega), by simpa using a.2.2⟩
  · have hv : vs[j]? = some (vs[j]'(by omega)) := List.getElem?_eq_getElem (by omega)
    have hl : ll[j]? = some (ll[j]'hj) := List.getElem?_eq_getElem hj
    have hsv : (vs.set j u)[j]? = some u := by rw [List.getElem?_set, if_pos rfl, if_pos (by omega)]
    have hsl : (ll.set j l)[j]? = some l := by rw [List.getElem?_set, if_pos rfl, if_pos hj]
    have F2 := F.setBlk (i := j) hb (by decide) u
    have hu2 : IntsO (w.setCell ⟨g, j, none⟩ u) mi hi' u l := ⟨hu.1.setCell (p := ⟨g, j, none⟩) (fun e => hu.1.blkne hb (by decide) e.symm) u, hu.2⟩
    rw [zip_split hsv hsl, List.take_set_of_le (Nat.le_refl j), List.drop_set_of_lt (by omega), List.take_set_of_le (Nat.le_refl j), List.drop_set_of_lt (by omega)]
    rw [zip_split hv hl] at F2
    obtain ⟨G1, G2⟩ := F2
    rw [List.pairwise_append] at G2
    obtain ⟨P1, P2, P3⟩ := G2
    rw [List.pairwise_cons] at P2
    refine ⟨fun p hp => ?_, ?_⟩
    · rcases List.mem_append.1 hp with hp | hp
      · exact (G1 p (by simp [hp])).wider (Nat.le_refl _) (by omega)
      · rcases List.mem_cons.1 hp with rfl | hp
        · exact hu2.wider h3 (Nat.le_refl _)
        · exact (G1 p (by simp [hp])).wider (Nat.le_refl _) (by omega)
    · rw [List.pairwise_append, List.pairwise_cons]
      refine ⟨P1, ⟨fun p hp => ?_, P2.2⟩, fun p hp q hq => ?_⟩
      · rcases hA : u.ownBlock with _ | x
        · exact .inl rfl
        · refine .inr fun e2 => ?_
          have h5 := (G1 p (by simp [hp])).2 x e2.symm
          have h6 := (hu2.1.lt x hA).1
          omega
      · rcases List.mem_cons.1 hq with rfl | hq
        · rcases hA : p.1.ownBlock with _ | x
          · exact .inl rfl
          · refine .inr fun e => ?_
            have h5 := (G1 p (by simp [hp])).2 x hA
            have h6 := (hu2.1.lt x e.symm).1
            omega
        · exact P3 p hp q (by simp [hq])
/-- a number set in a row -/
theorem IntssO.putAt {w : World} {lo hi gr n c j i : Nat} {v : Value} {ll : List (List Int)} {l : List Int} {x : Int} (h : IntssO w lo hi v ll) (hj : ll[j]? = some l) (hx : I64 x)
    (hrow : ∀ vs, vs.length = ll.length → OutO w lo hi v vs → Fam w lo hi (vs.zip ll) → vs[j]? = some (.slice (some ⟨gr, 0, none⟩) n c)) :
    IntssO (w.setCell ⟨gr, i, none⟩ (.int .i64 x)) lo hi v (ll.set j (l.set i x)) ∧ w.grownBy (w.setCell ⟨gr, i, none⟩ (.int .i64 x)) (some gr) := by
  obtain ⟨vs, a, b, F⟩ := h
  have hv := hrow vs b a F
  have ho := F.1 (.slice (some ⟨gr, 0, none⟩) n c, l) (by rw [zip_split hv hj]; simp)
  obtain ⟨_, _, e⟩ := ho.form
  injection e with _ e _
  replace e : n = l.length := e
  subst e
  have hp := ho.1.put (j := i) hx
  exact ⟨⟨vs, a.grown ho.1 hp.2, by simp [b], F.putAt hv hj ho.1 hx⟩, hp.2⟩
theorem IntssO.cellRow {w : World} {lo hi g n' c' gr n c j : Nat} {ll : List (List Int)} (hc : w.cell? ⟨g, j, none⟩ = some (.slice (some ⟨gr, 0, none⟩) n c)) :
    ∀ vs, j < vs.length → OutO w lo hi (.slice (some ⟨g, 0, none⟩) n' c') vs → Fam w lo hi (vs.zip ll) → vs[j]? = some (.slice (some ⟨gr, 0, none⟩) n c) := fun vs hl ho _ => by
  have hv : vs[j]? = some (vs[j]'hl) := List.getElem?_eq_getElem hl
  have := ho.cellS hv
  rw [hc] at this
  rw [hv, this]
/-- a number set in a row, the row's value read from its cell -/
theorem IntssO.put {w : World} {lo hi g n' c' gr n c j i : Nat} {ll : List (List Int)} {l : List Int} {x : Int} (h : IntssO w lo hi (.slice (some ⟨g, 0, none⟩) n' c') ll) (hj : ll[j]? = some l) (hc : w.cell? ⟨g, j, none⟩ = some (.slice (some ⟨gr, 0, none⟩) n c)) (hx : I64 x) :
    IntssO (w.setCell ⟨gr, i, none⟩ (.int .i64 x)) lo hi (.slice (some ⟨g, 0, none⟩) n' c') (ll.set j (l.set i x)) ∧ w.grownBy (w.setCell ⟨gr, i, none⟩ (.int .i64 x)) (some gr) :=
  h.putAt hj hx fun vs hl ho F => IntssO.cellRow hc vs (by have := lt_of_some hj; omega) ho F
/-- append of a row -/
theorem wpList_appR {w : World} {ops : Array Oper} {rest : List Oper} {o : Oper} {a : Act} {Q : Exit → Act → World → Prop} (hgd : o.guard = none) (s x : Operand)
    (ho : o.op = .call { callee := .builtin .append, args := #[s, x], argTypes := #[37, 37] })
    (lo hi mi hi' : Nat) (v : Value) (ll : List (List Int)) (l : List Int) (hs : a.eval s = v) (hown : IntssO w lo hi v ll) (A : Option Addr) (c : Nat) (u : Value) (hx : a.eval x = .slice A 1 c) (hA : ∃ b o, A = some ⟨b, o, none⟩ ∧ w.cell? ⟨b, o, none⟩ = some u) (hu : IntsO w mi hi' u l)
    (h1 : hi ≤ mi) (h2 : mi ≤ hi') (h3 : lo ≤ mi) (hn : ll.length + 1 ≤ 1048576) (hlo : lo ≤ w.heap.size) (hhi : hi' ≤ w.heap.size)
    (h : ∀ v' w', IntssO w' lo w'.heap.size v' (ll ++ [l]) → Below lo w w' → w.grownBy w' v.ownBlock → wpList Try.prog ops Q rest (a.put o.dst v') w') : wpList Try.prog ops Q (o :: rest) a w := by
  obtain ⟨vs, h4, h5, h6⟩ := hown
  refine wpList_appS hgd s x ho lo v vs hs h4.1 A c u hx hA (by obtain ⟨A', c', rfl, _⟩ := hu.1.form; rfl) (by omega) hlo fun v' w' k1 k2 k3 => ?_
  have hbg : Below lo w w' := below_grown k2 (fun k hk => (h4.1.lt k hk).1) hlo
  have F2 := ((h6.mono (Nat.le_refl _) h1).snoc hu h3 h2).mono (Nat.le_refl _) (Nat.le_trans hhi hbg.size)
  have F3 := Fam.grownO (by simpa using F2) h4.1 k2
  refine h v' w' ⟨vs ++ [u], ⟨k1, fun k hk => (k1.lt k hk).2, by simp; omega⟩, by simp [h5], ?_⟩ hbg k2
  rw [List.zip_append h5]
  exact F3
theorem chg_belowB {B : Nat} {w w' : World} (h : Below B w w') : Chg B w.heap.size w w' := ⟨h.os, h.tape, h.output, h.size, fun k hk hne => h.block k (by omega)⟩
end Go.Proofs.Ytkhkamcmlhmpiaa

/- Determinants by the first row: plain part; parts of slices. -/
namespace Go.Proofs.Ytkhkamcmlhmpiaa
set_option linter.unusedVariables false
set_option linter.unusedSimpArgs false
open Go.RowKit

def dsF (h : Nat → Int) : Nat → Int
  | 0 => 0
  | n + 1 => dsF h n + h n
def cutR (k : Nat) (r : List Int) : List Int := r.take k ++ r.drop (k + 1)
def mnr (k : Nat) (m : List (List Int)) : List (List Int) := m.tail.map (cutR k)
def sgK (k : Nat) : Int := if k % 2 = 0 then 1 else -1
def fst0 (m : List (List Int)) (k : Nat) : Int := (m.getD 0 []).getD k 0
def detL : Nat → List (List Int) → Int
  | 0, _ => 1
  | n + 1, m => dsF (fun k => sgK k * fst0 m k * detL n (mnr k m)) (n + 1)
def dB : Nat → Int
  | 0 => 1
  | n + 1 => (n + 1 : Nat) * (12 * dB n)
structure Sq (n : Nat) (m : List (List Int)) : Prop where
  len : m.length = n
  row : ∀ r ∈ m, r.length = n
  rng : ∀ r ∈ m, ∀ x ∈ r, -12 ≤ x ∧ x ≤ 12
theorem sgK_succ (k : Nat) : sgK (k + 1) = - sgK k := by
  unfold sgK
  by_cases h : k % 2 = 0
  · rw [if_pos h, if_neg (by omega)]
  · rw [if_neg h, if_pos (by omega)]; rfl
theorem sgK_or (k : Nat) : sgK k = 1 ∨ sgK k = -1 := by
  unfold sgK
  split
  · exact .inl rfl
  · exact .inr rfl
theorem cutR_length {k : Nat} {r : List Int} {n : Nat} (h : r.length = n + 1) (hk : k ≤ n) : (cutR k r).length = n := by simp [cutR]; omega
theorem cutR_mem {k : Nat} {r : List Int} {x : Int} (h : x ∈ cutR k r) : x ∈ r := by
  rcases List.mem_append.1 h with h | h
  · exact List.mem_of_mem_take h
  · exact List.mem_of_mem_drop h
theorem Sq.mnr {n k : Nat} {m : List (List Int)} (h : Sq (n + 1) m) (hk : k ≤ n) : Sq n (mnr k m) := by
  refine ⟨by simp [Go.Proofs.Ytkhkamcmlhmpiaa.mnr, h.len], fun r hr => ?_, fun r hr x hx => ?_⟩
  · obtain ⟨s, hs, rfl⟩ := List.mem_map.1 hr
    exact cutR_length (h.row s (List.mem_of_mem_tail hs)) hk
  · obtain ⟨s, hs, rfl⟩ := List.mem_map.1 hr
    exact h.rng s (List.mem_of_mem_tail hs) x (cutR_mem hx)
theorem Sq.fst {n k : Nat} {m : List (List Int)} (h : Sq (n + 1) m) (hk : k < n + 1) : ∃ r, m[0]? = some r ∧ r.length = n + 1 ∧ r[k]? = some (fst0 m k) ∧ -12 ≤ fst0 m k ∧ fst0 m k ≤ 12 := by
  have hl := h.len
  have e := List.getElem?_eq_getElem (show 0 < m.length by omega)
  have hm := List.mem_of_getElem? e
  have hr := h.row _ hm
  have e2 := List.getElem?_eq_getElem (l := m[0]) (show k < m[0].length by omega)
  have e3 : fst0 m k = m[0][k] := by
    rw [fst0, List.getD_eq_getElem?_getD, List.getD_eq_getElem?_getD, e, Option.getD_some, e2, Option.getD_some]
  rw [e3]
  exact ⟨_, e, hr, e2, h.rng _ hm _ (List.mem_of_getElem? e2)⟩
theorem abs_mul {a b A B : Int} (ha : -A ≤ a ∧ a ≤ A) (hb : -B ≤ b ∧ b ≤ B) : -(A * B) ≤ a * b ∧ a * b ≤ A * B := by
  have hA : 0 ≤ A := by omega
  have hB : 0 ≤ B := by omega
  have h1 : 0 ≤ (A - a) * (B + b) := Int.mul_nonneg (by omega) (by omega)
  have h2 : 0 ≤ (A + a) * (B - b) := Int.mul_nonneg (by omega) (by omega)
  have h3 : 0 ≤ (A - a) * (B - b) := Int.mul_nonneg (by omega) (by omega)
  have h4 : 0 ≤ (A + a) * (B + b) := Int.mul_nonneg (by omega) (by omega)
  simp only [Int.sub_mul, Int.add_mul, Int.mul_sub, Int.mul_add] at h1 h2 h3 h4
  omega
theorem dB_pos : ∀ n, 0 ≤ dB n
  | 0 => by simp [dB]
  | n + 1 => by
    have := dB_pos n
    simp only [dB]
    exact Int.mul_nonneg (by omega) (by omega)
theorem term_rng {s x d D : Int} (hs : s = 1 ∨ s = -1) (hx : -12 ≤ x ∧ x ≤ 12) (hd : -D ≤ d ∧ d ≤ D) : -(12 * D) ≤ s * x * d ∧ s * x * d ≤ 12 * D := by
  refine abs_mul ?_ hd
  rcases hs with rfl | rfl <;> omega
theorem dsF_rng {h : Nat → Int} {B : Int} (hB : 0 ≤ B) : ∀ {n}, (∀ k, k < n → -B ≤ h k ∧ h k ≤ B) → -((n : Nat) * B) ≤ dsF h n ∧ dsF h n ≤ (n : Nat) * B
  | 0, _ => by simp [dsF]
  | n + 1, H => by
    have ih := dsF_rng hB (n := n) fun k hk => H k (by omega)
    have h1 := H n (by omega)
    simp only [dsF]
    have e : ((n + 1 : Nat) : Int) * B = (n : Nat) * B + B := by rw [Int.natCast_succ, Int.add_mul, Int.one_mul]
    rw [e]
    omega
theorem det_rng : ∀ {n : Nat} {m : List (List Int)}, Sq n m → -dB n ≤ detL n m ∧ detL n m ≤ dB n
  | 0, _, _ => by simp [detL, dB]
  | n + 1, m, h => by
    simp only [detL, dB]
    have hB := dB_pos n
    refine dsF_rng (by omega) fun k hk => ?_
    obtain ⟨_, _, _, _, hx⟩ := h.fst hk
    exact term_rng (sgK_or k) hx (det_rng (h.mnr (by omega)))
def detS (n : Nat) (m : List (List Int)) (k : Nat) : Int := dsF (fun k => sgK k * fst0 m k * detL n (mnr k m)) k
theorem dB_5 {n : Nat} (h : n ≤ 5) : dB n ≤ 29859840 := by
  have : n = 0 ∨ n = 1 ∨ n = 2 ∨ n = 3 ∨ n = 4 ∨ n = 5 := by omega
  rcases this with rfl | rfl | rfl | rfl | rfl | rfl <;> decide
theorem detS_rng {n k : Nat} {m : List (List Int)} (h : Sq (n + 1) m) (hk : k ≤ n + 1) (hn : n ≤ 4) : -1800000000 ≤ detS n m k ∧ detS n m k ≤ 1800000000 := by
  have hB := dB_pos n
  have h1 := dsF_rng (h := fun k => sgK k * fst0 m k * detL n (mnr k m)) (B := 12 * dB n) (n := k) (by omega) fun j hj => by
    obtain ⟨_, _, _, _, hx⟩ := h.fst (show j < n + 1 by omega)
    exact term_rng (sgK_or j) hx (det_rng (h.mnr (by omega)))
  have h5 := dB_5 (show n ≤ 5 by omega)
  have h6 : (k : Int) * (12 * dB n) ≤ 5 * (12 * dB n) := Int.mul_le_mul_of_nonneg_right (by omega) (by omega)
  unfold detS
  omega
theorem detS_succ (n : Nat) (m : List (List Int)) (k : Nat) : detS n m (k + 1) = detS n m k + sgK k * fst0 m k * detL n (mnr k m) := rfl

/-! ### parts of slices that are read -/
theorem SlI.takeS {w : World} {B c k : Nat} {A : Option Addr} {l : List Int} (h : SlI w B (.slice A l.length c) l) (hk : k ≤ l.length) : SlI w B (.slice A k c) (l.take k) := by
  obtain ⟨A', c', e, h1, h2, h3, h4⟩ := h
  injection e with e1 e2 e3
  subst e1 e3
  refine ⟨A, c, by rw [List.length_take]; congr 1; omega, by rw [List.length_take]; omega, h2, by rw [List.length_take]; omega, fun hp => ?_⟩
  rw [List.length_take] at hp
  obtain ⟨b, o, e, hb, hc⟩ := h4 (by omega)
  refine ⟨b, o, e, hb, fun j x hj => hc j x ?_⟩
  rw [List.getElem?_take] at hj
  split at hj
  · exact hj
  · cases hj
theorem SlI.dropS {w : World} {B c k g o : Nat} {l : List Int} (h : SlI w B (.slice (some ⟨g, o, none⟩) l.length c) l) (hk : k ≤ l.length) : SlI w B (.slice (some ⟨g, o + k, none⟩) (l.length - k) (c - k)) (l.drop k) := by
  have h' := h
  obtain ⟨A', c', e, h1, h2, h3, h4⟩ := h'
  injection e with e1 e2 e3
  subst e3
  refine ⟨some ⟨g, o + k, none⟩, c - k, by rw [List.length_drop], by rw [List.length_drop]; omega, by omega, by rw [List.length_drop]; omega, fun hp => ?_⟩
  rw [List.length_drop] at hp
  obtain ⟨b, o', e, hb, hc⟩ := h4 (by omega)
  rw [← e1] at e
  injection e with e
  injection e with e5 e6
  subst e5 e6
  refine ⟨g, o + k, rfl, hb, fun j x hj => ?_⟩
  rw [List.getElem?_drop] at hj
  have := hc _ x hj
  rw [show o + (k + j) * 1 = o + k + j * 1 by omega] at this
  exact this
theorem SlI.zeroS {w : World} {B : Nat} {A : Option Addr} {c : Nat} (hc : c ≤ 9223372036854775807) : SlI w B (.slice A 0 c) [] := ⟨A, c, rfl, by simp, hc, by simp, fun h => absurd h (by simp)⟩
theorem SlII.two {w : World} {t : TypeId} {a b : Value} {l m : List Int} (ha : SlI w w.heap.size a l) (hb : SlI w w.heap.size b m) :
    SlII (w.alloc (.cells #[a, b] t)) (w.alloc (.cells #[a, b] t)).heap.size (.slice (some ⟨w.heap.size, 0, none⟩) 2 2) [l, m] := by
  have hbel := below_alloc w (.cells #[a, b] t)
  have hk := Blk.new w t #[a, b]
  refine ⟨some ⟨w.heap.size, 0, none⟩, 2, rfl, by simp, by omega, by simp, fun _ => ⟨w.heap.size, 0, rfl, hk.lt, fun j x hj => ?_⟩⟩
  match j, hj with
  | 0, hj => injection hj with hj; subst hj; exact ⟨a, hk.cell' rfl, SlI.next hbel ha⟩
  | 1, hj => injection hj with hj; subst hj; exact ⟨b, hk.cell' rfl, SlI.next hbel hb⟩
/-- an element, the slice's address known -/
theorem SlI.elt {w : World} {B b o c k : Nat} {xs : List Int} (h : SlI w B (.slice (some ⟨b, o, none⟩) xs.length c) xs) (hk : k < xs.length) : ∃ x, xs[k]? = some x ∧ b < B ∧ w.cell? ⟨b, o + k, none⟩ = some (.int .i64 x) ∧ -9223372036854775808 ≤ x ∧ x ≤ 9223372036854775807 := by
  obtain ⟨b', o', x, e, h1, h2, h3, h4⟩ := SlI.at_ h hk
  injection e with e
  injection e with e1 e2
  subst e1 e2
  exact ⟨x, h2.out, h1, h3, h4⟩
theorem SlII.elt {w : World} {B b o c k : Nat} {xs : List (List Int)} (h : SlII w B (.slice (some ⟨b, o, none⟩) xs.length c) xs) (hk : k < xs.length) : ∃ l A' c', xs[k]? = some l ∧ b < B ∧ w.cell? ⟨b, o + k, none⟩ = some (.slice A' l.length c') ∧ SlI w B (.slice A' l.length c') l ∧ l.length ≤ c' ∧ c' ≤ 9223372036854775807 := by
  obtain ⟨b', o', l, A', c', e, h1, h2, h3, h4⟩ := SlII.at_ h hk
  injection e with e
  injection e with e1 e2
  subst e1 e2
  have h5 := h4
  obtain ⟨_, _, e, h6, h7, _⟩ := h5
  injection e with _ _ e
  subst e
  exact ⟨l, A', c', h2.out, h1, h3, h4, h6, h7⟩
theorem SlI.addr {w : World} {B c : Nat} {A : Option Addr} {xs : List Int} (h : SlI w B (.slice A xs.length c) xs) (h0 : 0 < xs.length) : ∃ b o, A = some ⟨b, o, none⟩ ∧ b < B := by
  obtain ⟨b, o, _, e, h1, _⟩ := SlI.at_ (k := 0) h h0
  exact ⟨b, o, e, h1⟩
theorem SlII.addr {w : World} {B c : Nat} {A : Option Addr} {xs : List (List Int)} (h : SlII w B (.slice A xs.length c) xs) (h0 : 0 < xs.length) : ∃ b o, A = some ⟨b, o, none⟩ ∧ b < B := by
  obtain ⟨b, o, _, _, _, e, h1, _⟩ := SlII.at_ (k := 0) h h0
  exact ⟨b, o, e, h1⟩
theorem SlI.form2 {w : World} {B : Nat} {v : Value} {l : List Int} (h : SlI w B v l) : ∃ A c, v = .slice A l.length c := by
  obtain ⟨A, c, e, _⟩ := h
  exact ⟨A, c, e⟩
end Go.Proofs.Ytkhkamcmlhmpiaa

/- Kinds of quivers: minors by sets of rows; plain part. -/
namespace Go.Proofs.Ytkhkamcmlhmpiaa
set_option linter.unusedVariables false
set_option linter.unusedSimpArgs false
open Go.RowKit

theorem band1 (x : Int) : bits .and .i64 x 1 = x % 2 := by
  have h1 : (BitVec.ofInt 64 1).toNat = 2 ^ 1 - 1 := by decide
  have key : (BitVec.ofInt 64 x &&& BitVec.ofInt 64 1).toNat = (x % ((2 ^ 64 : Nat) : Int)).toNat % 2 ^ 1 := by
    rw [BitVec.toNat_and, BitVec.toNat_ofInt, h1, Nat.and_two_pow_sub_one_eq_mod]
  show IntKind.i64.wrap ((BitVec.ofInt 64 x &&& BitVec.ofInt 64 1).toNat : Nat) = x % 2
  rw [key, IntKind.wrap_i64]
  omega
def bitT (s v : Nat) : Bool := s / 2 ^ v % 2 == 1
def bitL (s n : Nat) : List Nat := (List.range n).filter (bitT s)
def mnRow (s n : Nat) (g : Nat → Int) : List Int := (bitL s n).map g
def mnTo (s n : Nat) (g : Nat → Nat → Int) (k : Nat) : List (List Int) := (bitL s k).map fun v => mnRow s n (g v)
def mnL (s n : Nat) (g : Nat → Nat → Int) : List (List Int) := mnTo s n g n
def dtS (s n : Nat) (g : Nat → Nat → Int) : Int := detL (bitL s n).length (mnL s n g)
def kdGo (n : Nat) (g : Nat → Nat → Int) : Nat → Nat → Int → Int
  | 0, _, k => k
  | m + 1, s, k => if dtS s n g < 0 then 3 else kdGo n g m (s + 1) (if dtS s n g = 0 then 2 else k)
def kindQ (q : Qv) : Int := if isQ q then kdGo q.v.toNat (ent q q.f.length) (2 ^ q.v.toNat - 1) 1 1 else 0
theorem bitL_succ_t {s k : Nat} (h : bitT s k = true) : bitL s (k + 1) = bitL s k ++ [k] := by
  simp [bitL, List.range_succ, List.filter_append, h]
theorem bitL_succ_f {s k : Nat} (h : bitT s k = false) : bitL s (k + 1) = bitL s k := by
  simp [bitL, List.range_succ, List.filter_append, h]
theorem bitL_length (s n : Nat) : (bitL s n).length ≤ n := by
  have := List.length_filter_le (bitT s) (List.range n)
  rw [List.length_range] at this
  exact this
theorem bitT_0 {s v : Nat} (h : bitT s v = false) : (s : Int) / 2 ^ v % 2 = 0 := by
  simp only [bitT, beq_eq_false_iff_ne, ne_eq] at h
  have h2 : s / 2 ^ v % 2 = 0 := by omega
  have : ((s / 2 ^ v % 2 : Nat) : Int) = 0 := by omega
  simpa using this
theorem bitT_1 {s v : Nat} (h : bitT s v = true) : (s : Int) / 2 ^ v % 2 = 1 := by
  simp only [bitT, beq_iff_eq] at h
  have : ((s / 2 ^ v % 2 : Nat) : Int) = 1 := by omega
  simpa using this
theorem mnL_sq {s n : Nat} {g : Nat → Nat → Int} (hg : ∀ a b, -12 ≤ g a b ∧ g a b ≤ 12) : Sq (bitL s n).length (mnL s n g) := by
  refine ⟨by simp [mnL, mnTo], fun r hr => ?_, fun r hr x hx => ?_⟩
  · obtain ⟨v, _, rfl⟩ := List.mem_map.1 hr
    simp [mnRow]
  · obtain ⟨v, _, rfl⟩ := List.mem_map.1 hr
    obtain ⟨w, _, rfl⟩ := List.mem_map.1 hx
    exact hg v w
theorem mnRow_i64 {s n : Nat} {g : Nat → Int} (hg : ∀ b, -12 ≤ g b ∧ g b ≤ 12) : ∀ x ∈ mnRow s n g, I64 x := fun x hx => by
  obtain ⟨w, _, rfl⟩ := List.mem_map.1 hx
  have := hg w
  exact ⟨by omega, by omega⟩
theorem kdGo_rng (n : Nat) (g : Nat → Nat → Int) : ∀ m s k, 1 ≤ k ∧ k ≤ 3 → 1 ≤ kdGo n g m s k ∧ kdGo n g m s k ≤ 3
  | 0, _, _, h => h
  | m + 1, s, k, h => by
    simp only [kdGo]
    split
    · omega
    · exact kdGo_rng n g m _ _ (by split <;> omega)
theorem kindQ_rng (q : Qv) : 0 ≤ kindQ q ∧ kindQ q ≤ 3 := by
  unfold kindQ
  split
  · have := kdGo_rng q.v.toNat (ent q q.f.length) (2 ^ q.v.toNat - 1) 1 1 (by omega)
    omega
  · omega
end Go.Proofs.Ytkhkamcmlhmpiaa

/- Quivers of finite kind: sums, quadratic forms, positive forms; the patterns of at most five vertices, looked at one by one. Plain. -/
namespace Go.Proofs.Ytkhkamcmlhmpiaa
set_option linter.unusedVariables false
set_option linter.unusedSimpArgs false
open Go.RowKit

/-! ### sums -/
def sm : Nat → (Nat → Int) → Int
  | 0, _ => 0
  | n + 1, f => sm n f + f n
theorem sm_congr {f g : Nat → Int} : ∀ n, (∀ i, i < n → f i = g i) → sm n f = sm n g
  | 0, _ => rfl
  | n + 1, h => by rw [sm, sm, sm_congr n fun i hi => h i (by omega), h n (by omega)]
theorem sm_front (f : Nat → Int) : ∀ n, sm (n + 1) f = f 0 + sm n fun i => f (i + 1)
  | 0 => by simp [sm]
  | n + 1 => by rw [sm, sm_front f n, sm, Int.add_assoc]
theorem sm_add (f g : Nat → Int) : ∀ n, sm n (fun i => f i + g i) = sm n f + sm n g
  | 0 => rfl
  | n + 1 => by rw [sm, sm, sm, sm_add f g n]; omega
theorem sm_sub (f g : Nat → Int) : ∀ n, sm n (fun i => f i - g i) = sm n f - sm n g
  | 0 => rfl
  | n + 1 => by rw [sm, sm, sm, sm_sub f g n]; omega
theorem sm_mul (c : Int) (f : Nat → Int) : ∀ n, sm n (fun i => c * f i) = c * sm n f
  | 0 => by simp [sm]
  | n + 1 => by rw [sm, sm, sm_mul c f n, Int.mul_add]
theorem sm_zero : ∀ n, sm n (fun _ => 0) = 0
  | 0 => rfl
  | n + 1 => by rw [sm, sm_zero n]; rfl
theorem sm_swap (h : Nat → Nat → Int) (m : Nat) : ∀ n, sm n (fun a => sm m fun b => h a b) = sm m fun b => sm n fun a => h a b
  | 0 => by simp [sm, sm_zero]
  | n + 1 => by
    rw [sm, sm_swap h m n, ← sm_add]; rfl
theorem sm_one {f : Nat → Int} {k : Nat} : ∀ n, k < n → (∀ i, i < n → i ≠ k → f i = 0) → sm n f = f k
  | 0, h, _ => by omega
  | n + 1, h, h0 => by
    rw [sm]
    by_cases e : k = n
    · subst e
      rw [sm_congr (g := fun _ => 0) k fun i hi => h0 i (by omega) (by omega), sm_zero]; omega
    · rw [sm_one n (by omega) fun i hi hn => h0 i (by omega) hn, h0 n (by omega) (by omega)]; omega
theorem sm_nonneg {f : Nat → Int} : ∀ n, (∀ i, i < n → 0 ≤ f i) → 0 ≤ sm n f
  | 0, _ => by simp [sm]
  | n + 1, h => by
    have := sm_nonneg n fun i hi => h i (by omega)
    have := h n (by omega)
    rw [sm]; omega
theorem sm_pos_ex {f : Nat → Int} : ∀ n, 0 < sm n f → ∃ i, i < n ∧ 0 < f i
  | 0, h => by simp [sm] at h
  | n + 1, h => by
    rw [sm] at h
    by_cases h1 : 0 < f n
    · exact ⟨n, by omega, h1⟩
    · obtain ⟨i, hi, hp⟩ := sm_pos_ex (f := f) n (by omega)
      exact ⟨i, by omega, hp⟩
/-- the bilinear form of g -/
def bil (n : Nat) (g : Nat → Nat → Int) (x y : Nat → Int) : Int := sm n fun a => sm n fun b => g a b * x a * y b
theorem bil_row (n : Nat) (g : Nat → Nat → Int) (x y : Nat → Int) : bil n g x y = sm n fun a => x a * sm n fun b => g a b * y b := by
  unfold bil
  apply sm_congr
  intro a _
  rw [← sm_mul]
  apply sm_congr
  intro b _
  rw [Int.mul_comm (g a b) (x a), Int.mul_assoc]
theorem bil_symm {n : Nat} {g : Nat → Nat → Int} (hs : ∀ a b, g a b = g b a) (x y : Nat → Int) : bil n g x y = bil n g y x := by
  unfold bil
  rw [sm_swap]
  apply sm_congr; intro a _; apply sm_congr; intro b _
  rw [hs b a, Int.mul_assoc, Int.mul_comm (x b), Int.mul_assoc]
theorem bil_addl (n : Nat) (g : Nat → Nat → Int) (x x' y : Nat → Int) : bil n g (fun i => x i + x' i) y = bil n g x y + bil n g x' y := by
  rw [bil_row, bil_row, bil_row, ← sm_add]
  apply sm_congr; intro a _; rw [Int.add_mul]
theorem bil_subl (n : Nat) (g : Nat → Nat → Int) (x x' y : Nat → Int) : bil n g (fun i => x i - x' i) y = bil n g x y - bil n g x' y := by
  rw [bil_row, bil_row, bil_row, ← sm_sub]
  apply sm_congr; intro a _; rw [Int.sub_mul]
theorem bil_mull (n : Nat) (g : Nat → Nat → Int) (c : Int) (x y : Nat → Int) : bil n g (fun i => c * x i) y = c * bil n g x y := by
  rw [bil_row, bil_row, ← sm_mul]
  apply sm_congr; intro a _; rw [Int.mul_assoc]
/-! ### positive forms -/
def pvF : Nat → (Nat → Nat → Int) → Bool
  | 0, _ => true
  | n + 1, A => decide (0 < A 0 0) && pvF n fun a b => A 0 0 * A (a + 1) (b + 1) - A (a + 1) 0 * A 0 (b + 1)
theorem bil_split (n : Nat) (A : Nat → Nat → Int) (hs : ∀ a b, A a b = A b a) (x : Nat → Int) :
    A 0 0 * bil (n + 1) A x x = (A 0 0 * x 0 + sm n fun b => A 0 (b + 1) * x (b + 1)) * (A 0 0 * x 0 + sm n fun b => A 0 (b + 1) * x (b + 1)) + bil n (fun a b => A 0 0 * A (a + 1) (b + 1) - A (a + 1) 0 * A 0 (b + 1)) (fun i => x (i + 1)) (fun i => x (i + 1)) := by
  obtain ⟨L, hL⟩ : ∃ L, (sm n fun b => A 0 (b + 1) * x (b + 1)) = L := ⟨_, rfl⟩
  obtain ⟨Q, hQ⟩ : ∃ Q, bil n (fun a b => A (a + 1) (b + 1)) (fun i => x (i + 1)) (fun i => x (i + 1)) = Q := ⟨_, rfl⟩
  have e1 : bil (n + 1) A x x = x 0 * (A 0 0 * x 0 + L) + x 0 * L + Q := by
    rw [bil_row, sm_front, sm_front, hL]
    have : (sm n fun i => x (i + 1) * sm (n + 1) fun b => A (i + 1) b * x b) = sm n fun i => x 0 * (A 0 (i + 1) * x (i + 1)) + x (i + 1) * sm n fun b => A (i + 1) (b + 1) * x (b + 1) := by
      apply sm_congr; intro i _
      rw [sm_front, hs (i + 1) 0]
      grind
    rw [this, sm_add, sm_mul, hL, ← bil_row n (fun a b => A (a + 1) (b + 1)) (fun i => x (i + 1)) (fun i => x (i + 1)), hQ]
    omega
  have e2 : bil n (fun a b => A 0 0 * A (a + 1) (b + 1) - A (a + 1) 0 * A 0 (b + 1)) (fun i => x (i + 1)) (fun i => x (i + 1)) = A 0 0 * Q - L * L := by
    rw [bil_row]
    have : (sm n fun a => x (a + 1) * sm n fun b => (A 0 0 * A (a + 1) (b + 1) - A (a + 1) 0 * A 0 (b + 1)) * x (b + 1)) = sm n fun a => A 0 0 * (x (a + 1) * sm n fun b => A (a + 1) (b + 1) * x (b + 1)) - L * (A 0 (a + 1) * x (a + 1)) := by
      apply sm_congr; intro a _
      have e3 : (sm n fun b => (A 0 0 * A (a + 1) (b + 1) - A (a + 1) 0 * A 0 (b + 1)) * x (b + 1)) = sm n fun b => A 0 0 * (A (a + 1) (b + 1) * x (b + 1)) - A (a + 1) 0 * (A 0 (b + 1) * x (b + 1)) := by
        apply sm_congr; intro b _; grind
      rw [e3, sm_sub, sm_mul, sm_mul, hL, hs (a + 1) 0]
      grind
    rw [this, sm_sub, sm_mul, sm_mul, hL, ← bil_row n (fun a b => A (a + 1) (b + 1)) (fun i => x (i + 1)) (fun i => x (i + 1)), hQ]
  rw [e1, e2]
  grind
theorem sq_nonneg (a : Int) : 0 ≤ a * a := by
  rcases Int.le_total 0 a with h | h
  · exact Int.mul_nonneg h h
  · have := Int.mul_nonneg (a := -a) (b := -a) (by omega) (by omega)
    rw [Int.neg_mul_neg] at this; exact this
theorem sq_pos {a : Int} (h : a ≠ 0) : 0 < a * a := by
  have h1 := sq_nonneg a
  have h2 : a * a ≠ 0 := fun e => by rcases Int.mul_eq_zero.1 e with e | e <;> exact h e
  omega
theorem pvF_pos : ∀ (n : Nat) (A : Nat → Nat → Int), (∀ a b, A a b = A b a) → pvF n A = true → ∀ x : Nat → Int, (∃ i, i < n ∧ x i ≠ 0) → 0 < bil n A x x
  | 0, _, _, _, _, ⟨i, hi, _⟩ => by omega
  | n + 1, A, hs, hp, x, ⟨i, hi, hx⟩ => by
    simp only [pvF, Bool.and_eq_true, decide_eq_true_eq] at hp
    have key := bil_split n A hs x
    have hB := pvF_pos n (fun a b => A 0 0 * A (a + 1) (b + 1) - A (a + 1) 0 * A 0 (b + 1)) (fun a b => by rw [hs (a + 1) (b + 1), hs (a + 1) 0, hs 0 (b + 1), Int.mul_comm (A 0 (a + 1))]) hp.2 fun i => x (i + 1)
    have hpos : 0 < A 0 0 * bil (n + 1) A x x := by
      rw [key]
      by_cases hz : ∃ j, j < n ∧ x (j + 1) ≠ 0
      · have := hB hz
        have := sq_nonneg (A 0 0 * x 0 + sm n fun b => A 0 (b + 1) * x (b + 1))
        omega
      · have hz' : ∀ j, j < n → x (j + 1) = 0 := fun j hj => Decidable.byContradiction fun h => hz ⟨j, hj, h⟩
        have hx0 : x 0 ≠ 0 := by
          match i, hi, hx with
          | 0, _, hx => exact hx
          | j + 1, hi, hx => exact absurd (hz' j (by omega)) hx
        have e1 : (sm n fun b => A 0 (b + 1) * x (b + 1)) = 0 := by
          rw [sm_congr (g := fun _ => 0) n fun j hj => by rw [hz' j hj, Int.mul_zero], sm_zero]
        have e2 : bil n (fun a b => A 0 0 * A (a + 1) (b + 1) - A (a + 1) 0 * A 0 (b + 1)) (fun i => x (i + 1)) (fun i => x (i + 1)) = 0 := by
          rw [bil_row, sm_congr (g := fun _ => 0) n fun j hj => by rw [hz' j hj, Int.zero_mul], sm_zero]
        rw [e1, e2]
        have := sq_pos (a := A 0 0 * x 0) (fun e => by rcases Int.mul_eq_zero.1 e with e | e <;> omega)
        rw [Int.add_zero, Int.add_zero]; exact this
    rcases Int.lt_or_le 0 (bil (n + 1) A x x) with h | h
    · exact h
    · have := Int.mul_nonneg (a := A 0 0) (b := -(bil (n + 1) A x x)) (by omega) (by omega)
      rw [Int.mul_neg] at this; omega
def pIdx (a b : Nat) : Nat := b * (b - 1) / 2 + a
def gL (l : List Bool) (a b : Nat) : Int := if a = b then 2 else if (if a < b then l.getD (pIdx a b) false else l.getD (pIdx b a) false) then -1 else 0
/-- rows of a pattern: for each vertex b its neighbours a < b, the last first -/
def rowsL : Nat → List Bool → List (List Bool)
  | 0, _ => []
  | b + 1, l => rowsL b l ++ [((List.range b).map fun a => l.getD (pIdx a b) false).reverse]
def dotB : List Bool → List Nat → Nat
  | true :: r, x :: s => x + dotB r s
  | false :: r, _ :: s => dotB r s
  | _, _ => 0
/-- how many ways to go on with 0, 1, 2 at each vertex that is left, to the form's value 1: xs is what has been chosen, the last first; p the squares, m the edges -/
def cntR : List (List Bool) → List Nat → Nat → Nat → Nat
  | [], _, p, m => if p == m + 1 then 1 else 0
  | row :: rs, xs, p, m => cntR rs (0 :: xs) p m + cntR rs (1 :: xs) (p + 1) (m + dotB row xs) + cntR rs (2 :: xs) (p + 4) (m + 2 * dotB row xs)
def finOK (n : Nat) (l : List Bool) : Bool := (List.range n).all (fun v => pvF n fun a b => 4 * gL l a b - if a = v ∧ b = v then 1 else 0) && Nat.ble (cntR (rowsL n l) [] 0 0) 20
/-- circles and the star of five: their edges, their vertices as a set -/
def wits : List (List Nat × Nat) := [([0, 1, 2], 7), ([0, 3, 4], 11), ([0, 6, 7], 19), ([1, 3, 5], 13), ([1, 6, 8], 21), ([3, 6, 9], 25), ([2, 4, 5], 14), ([2, 7, 8], 22), ([4, 7, 9], 26), ([5, 8, 9], 28), ([0, 2, 3, 5], 15), ([0, 1, 4, 5], 15), ([1, 2, 3, 4], 15), ([0, 2, 6, 8], 23), ([0, 1, 7, 8], 23), ([1, 2, 6, 7], 23), ([0, 4, 6, 9], 27), ([0, 3, 7, 9], 27), ([3, 4, 6, 7], 27), ([1, 5, 6, 9], 29), ([1, 3, 8, 9], 29), ([3, 5, 6, 8], 29), ([2, 5, 7, 9], 30), ([2, 4, 8, 9], 30), ([4, 5, 7, 8], 30), ([0, 2, 5, 6, 9], 31), ([0, 2, 3, 8, 9], 31), ([0, 4, 5, 6, 8], 31), ([0, 1, 4, 8, 9], 31), ([0, 3, 5, 7, 8], 31), ([0, 1, 5, 7, 9], 31), ([1, 2, 4, 6, 9], 31), ([1, 2, 3, 7, 9], 31), ([1, 4, 5, 6, 7], 31), ([1, 3, 4, 7, 8], 31), ([2, 3, 4, 6, 8], 31), ([2, 3, 5, 6, 7], 31), ([0, 1, 3, 6], 31), ([0, 2, 4, 7], 31), ([1, 2, 5, 8], 31), ([3, 4, 5, 9], 31), ([6, 7, 8, 9], 31)]
def witAt (l : List Bool) : List (List Nat × Nat) → Nat
  | [] => 0
  | (e, s) :: r => if e.all fun i => l.getD i false then s else witAt l r
def patOK (n : Nat) (l : List Bool) : Bool := match witAt l wits with
  | 0 => finOK n l
  | s + 1 => decide (dtS (s + 1) n (gL l) ≤ 0)
def allBL : Nat → List Bool → (List Bool → Bool) → Bool
  | 0, acc, f => f acc
  | m + 1, acc, f => allBL m (true :: acc) f && allBL m (false :: acc) f
theorem pat_1 : allBL 0 [] (patOK 1) = true := by decide +kernel
theorem pat_2 : allBL 1 [] (patOK 2) = true := by decide +kernel
theorem pat_3 : allBL 3 [] (patOK 3) = true := by decide +kernel
theorem pat_4 : allBL 6 [] (patOK 4) = true := by decide +kernel
theorem pat_5a : allBL 8 [true, true] (patOK 5) = true := by decide +kernel
theorem pat_5b : allBL 8 [false, true] (patOK 5) = true := by decide +kernel
theorem pat_5c : allBL 8 [true, false] (patOK 5) = true := by decide +kernel
theorem pat_5d : allBL 8 [false, false] (patOK 5) = true := by decide +kernel
theorem pat_5 : allBL 10 [] (patOK 5) = true := by
  show (allBL 8 [true, true] (patOK 5) && allBL 8 [false, true] (patOK 5) && (allBL 8 [true, false] (patOK 5) && allBL 8 [false, false] (patOK 5))) = true
  rw [pat_5a, pat_5b, pat_5c, pat_5d]; rfl
theorem pat_all {n : Nat} (h0 : 1 ≤ n) (h5 : n ≤ 5) : allBL (n * (n - 1) / 2) [] (patOK n) = true := by
  match n, h0, h5 with
  | 1, _, _ => exact pat_1
  | 2, _, _ => exact pat_2
  | 3, _, _ => exact pat_3
  | 4, _, _ => exact pat_4
  | 5, _, _ => exact pat_5
end Go.Proofs.Ytkhkamcmlhmpiaa

/- Quivers of finite kind: the roots: all come from the unit vectors by reflections; their numbers are at most 2, they are at most twenty. Plain. -/
namespace Go.Proofs.Ytkhkamcmlhmpiaa
set_option linter.unusedVariables false
set_option linter.unusedSimpArgs false
open Go.RowKit

theorem allBL_ok (f : List Bool → Bool) : ∀ (m : Nat) (acc : List Bool), allBL m acc f = true → ∀ l : List Bool, l.length = m → f (l.reverse ++ acc) = true
  | 0, acc, h, l, hl => by
    obtain rfl := List.eq_nil_of_length_eq_zero hl
    exact h
  | m + 1, acc, h, l, hl => by
    simp only [allBL, Bool.and_eq_true] at h
    match l, hl with
    | b :: r, hl =>
      rw [List.reverse_cons, List.append_assoc]
      cases b
      · exact allBL_ok f m _ h.2 r (by simpa using hl)
      · exact allBL_ok f m _ h.1 r (by simpa using hl)
theorem allBL_all {f : List Bool → Bool} {m : Nat} (h : allBL m [] f = true) (l : List Bool) (hl : l.length = m) : f l = true := by
  have := allBL_ok f m [] h l.reverse (by simpa using hl)
  simpa using this
/-! ### minors of one and of two vertices -/
theorem dtS_congr {s n : Nat} {g h : Nat → Nat → Int} (e : ∀ a b, a < n → b < n → g a b = h a b) : dtS s n g = dtS s n h := by
  have hm : ∀ v, v ∈ bitL s n → v < n := fun v hv => List.mem_range.1 (List.mem_filter.1 hv).1
  have : mnL s n g = mnL s n h := by
    unfold mnL mnTo mnRow
    apply List.map_congr_left
    intro v hv
    apply List.map_congr_left
    intro w hw
    exact e v w (hm v hv) (hm w hw)
  rw [dtS, dtS, this]
theorem bitL_1 : ∀ n, n ≤ 5 → ∀ a, a < n → bitL (2 ^ a) n = [a] := by decide
theorem bitL_2 : ∀ n, n ≤ 5 → ∀ b, b < n → ∀ a, a < b → bitL (2 ^ a + 2 ^ b) n = [a, b] := by decide
theorem dtS_1 {n a : Nat} (hn : n ≤ 5) (ha : a < n) (g : Nat → Nat → Int) : dtS (2 ^ a) n g = g a a := by
  simp [dtS, mnL, mnTo, mnRow, bitL_1 n hn a ha, detL, dsF, sgK, fst0]
theorem dtS_2 {n a b : Nat} (hn : n ≤ 5) (hb : b < n) (ha : a < b) (g : Nat → Nat → Int) : dtS (2 ^ a + 2 ^ b) n g = g a a * g b b - g a b * g b a := by
  simp [dtS, mnL, mnTo, mnRow, bitL_2 n hn b hb a ha, detL, dsF, sgK, fst0, mnr, cutR]
  grind
theorem kdGo_1 (n : Nat) (g : Nat → Nat → Int) : ∀ m s k, kdGo n g m s k = 1 → k = 1 ∧ ∀ t, s ≤ t → t < s + m → 0 < dtS t n g
  | 0, s, k, h => ⟨h, fun t h1 h2 => by omega⟩
  | m + 1, s, k, h => by
    simp only [kdGo] at h
    split at h
    · omega
    · rename_i hd
      obtain ⟨h1, h2⟩ := kdGo_1 n g m (s + 1) _ h
      split at h1
      · omega
      · rename_i hz
        refine ⟨h1, fun t ht1 ht2 => ?_⟩
        by_cases e : t = s
        · subst e; omega
        · exact h2 t (by omega) (by omega)
/-! ### the pattern of a quiver of finite kind -/
def prsF : List (Nat × Nat) := [(0, 1), (0, 2), (1, 2), (0, 3), (1, 3), (2, 3), (0, 4), (1, 4), (2, 4), (3, 4)]
theorem prsF_at : ∀ n, n ≤ 5 → ∀ b, b < n → ∀ a, a < b → (prsF.take (n * (n - 1) / 2))[pIdx a b]? = some (a, b) := by decide
def patG (n : Nat) (g : Nat → Nat → Int) : List Bool := (prsF.take (n * (n - 1) / 2)).map fun p => decide (g p.1 p.2 = -1)
theorem patG_length (n : Nat) (hn : n ≤ 5) (g : Nat → Nat → Int) : (patG n g).length = n * (n - 1) / 2 := by
  have : ∀ n, n ≤ 5 → (prsF.take (n * (n - 1) / 2)).length = n * (n - 1) / 2 := by decide
  rw [patG, List.length_map, this n hn]
theorem patG_at {n a b : Nat} (hn : n ≤ 5) (hb : b < n) (ha : a < b) (g : Nat → Nat → Int) : (patG n g).getD (pIdx a b) false = decide (g a b = -1) := by
  rw [patG, List.getD_eq_getElem?_getD, List.getElem?_map, prsF_at n hn b hb a ha]; rfl
theorem two_pow_lt {a n : Nat} (h : a < n) : 2 ^ a < 2 ^ n := Nat.pow_lt_pow_right (by omega) h
theorem fin_pat {q : Qv} (hk : kindQ q = 1) : isQ q = true ∧ ∃ l : List Bool, l.length = q.v.toNat * (q.v.toNat - 1) / 2 ∧ (∀ a b, a < q.v.toNat → b < q.v.toNat → ent q q.f.length a b = gL l a b) ∧ ∀ s, 1 ≤ s → s < 2 ^ q.v.toNat → 0 < dtS s q.v.toNat (gL l) := by
  by_cases hq : isQ q = true
  case neg => simp [kindQ, hq] at hk
  refine ⟨hq, ?_⟩
  rw [kindQ, if_pos hq] at hk
  have hn : q.v.toNat ≤ 5 := by have := (isQ_t.1 hq).1; omega
  generalize q.v.toNat = n at hk hn ⊢
  obtain ⟨_, hd⟩ := kdGo_1 _ _ _ _ _ hk
  have hpos : 0 < 2 ^ n := Nat.two_pow_pos n
  have hd' : ∀ s, 1 ≤ s → s < 2 ^ n → 0 < dtS s n (ent q q.f.length) := fun s h1 h2 => hd s h1 (by omega)
  have hdiag : ∀ a, a < n → ent q q.f.length a a = 2 := by
    intro a ha
    have h1 := hd' (2 ^ a) (Nat.one_le_two_pow) (two_pow_lt ha)
    rw [dtS_1 hn ha] at h1
    unfold ent at h1 ⊢
    simp at h1 ⊢
    omega
  have hsym : ∀ a b, ent q q.f.length a b = ent q q.f.length b a := fun a b => by
    unfold ent; simp only [eq_comm (a := a) (b := b)]; omega
  have hoff : ∀ a b, a < b → b < n → ent q q.f.length a b = 0 ∨ ent q q.f.length a b = -1 := by
    intro a b ha hb
    have hlt : 2 ^ a + 2 ^ b < 2 ^ n := by
      have h1 : 2 ^ a < 2 ^ b := two_pow_lt ha
      have h2 : 2 ^ (b + 1) ≤ 2 ^ n := Nat.pow_le_pow_right (by omega) hb
      rw [Nat.pow_succ] at h2; omega
    have h1 := hd' (2 ^ a + 2 ^ b) (Nat.le_trans Nat.one_le_two_pow (Nat.le_add_right (2 ^ a) (2 ^ b))) hlt
    rw [dtS_2 hn hb ha, hdiag a (by omega), hdiag b hb, hsym b a] at h1
    have h2 : ent q q.f.length a b ≤ 0 := by unfold ent; rw [if_neg (by omega)]; omega
    generalize ent q q.f.length a b = m at h1 h2
    rcases Int.lt_or_le m (-1) with h3 | h3
    · have : 0 ≤ (-m - 2) * (-m + 2) := Int.mul_nonneg (by omega) (by omega)
      have e : (-m - 2) * (-m + 2) = m * m - 4 := by grind
      omega
    · omega
  have hg : ∀ a b, a < n → b < n → ent q q.f.length a b = gL (patG n (ent q q.f.length)) a b := by
    intro a b ha hb
    unfold gL
    by_cases e : a = b
    · subst e; rw [if_pos rfl, hdiag a ha]
    · rw [if_neg e]
      by_cases hab : a < b
      · rw [if_pos hab, patG_at hn hb hab]
        rcases hoff a b hab hb with h | h <;> rw [h] <;> simp
      · rw [if_neg hab, patG_at hn ha (by omega), hsym a b]
        rcases hoff b a (by omega) ha with h | h <;> rw [h] <;> simp
  refine ⟨patG n (ent q q.f.length), patG_length n hn _, hg, fun s h1 h2 => ?_⟩
  rw [← dtS_congr hg]
  exact hd' s h1 h2
theorem wit_lt : ∀ n, n ≤ 5 → ∀ (l : List Bool), l.length = n * (n - 1) / 2 → witAt l wits < 2 ^ n := by
  intro n hn l hl
  have key : ∀ n, n ≤ 5 → allBL (n * (n - 1) / 2) [] (fun l => decide (witAt l wits < 2 ^ n)) = true := by decide +kernel
  simpa using allBL_all (key n hn) l hl
theorem gL_symm (l : List Bool) (a b : Nat) : gL l a b = gL l b a := by
  unfold gL
  by_cases e : a = b
  · subst e; rfl
  · rw [if_neg e, if_neg (fun h : b = a => e h.symm)]
    by_cases h : a < b
    · simp only [if_pos h, if_neg (show ¬ b < a by omega)]
    · simp only [if_neg h, if_pos (show b < a by omega)]
theorem gL_diag (l : List Bool) (a : Nat) : gL l a a = 2 := by simp [gL]
theorem gL_off (l : List Bool) {a b : Nat} (h : a ≠ b) : gL l a b ≤ 0 := by
  unfold gL
  rw [if_neg h]
  split <;> omega
theorem bil_congr {n : Nat} {g h : Nat → Nat → Int} {x x' y y' : Nat → Int} (e : ∀ a b, a < n → b < n → g a b = h a b) (ex : ∀ a, a < n → x a = x' a) (ey : ∀ a, a < n → y a = y' a) : bil n g x y = bil n h x' y' := by
  unfold bil
  apply sm_congr; intro a ha; apply sm_congr; intro b hb
  rw [e a b ha hb, ex a ha, ey b hb]
theorem bil_ind {n u v : Nat} (hu : u < n) (hv : v < n) (c : Int) (x y : Nat → Int) : bil n (fun a b => if a = u ∧ b = v then c else 0) x y = c * x u * y v := by
  unfold bil
  rw [sm_one (k := u) n hu, sm_one (k := v) n hv]
  · simp
  · intro i _ hi; simp [hi]
  · intro i _ hi
    rw [sm_congr (g := fun _ => 0) n fun b _ => by simp [hi], sm_zero]
theorem bil_gsub (n : Nat) (g h : Nat → Nat → Int) (x y : Nat → Int) : bil n (fun a b => g a b - h a b) x y = bil n g x y - bil n h x y := by
  unfold bil
  rw [← sm_sub]
  apply sm_congr; intro a _; rw [← sm_sub]; apply sm_congr; intro b _; grind
theorem bil_gmul (n : Nat) (c : Int) (g : Nat → Nat → Int) (x y : Nat → Int) : bil n (fun a b => c * g a b) x y = c * bil n g x y := by
  unfold bil
  rw [← sm_mul]
  apply sm_congr; intro a _; rw [← sm_mul]; apply sm_congr; intro b _; grind
theorem bil_succ {g : Nat → Nat → Int} (hs : ∀ a b, g a b = g b a) (n : Nat) (x : Nat → Int) : bil (n + 1) g x x = bil n g x x + 2 * (x n * sm n fun b => g b n * x b) + g n n * x n * x n := by
  unfold bil
  rw [sm]
  have : (sm n fun a => sm (n + 1) fun b => g a b * x a * x b) = (sm n fun a => sm n fun b => g a b * x a * x b) + x n * sm n fun b => g b n * x b := by
    rw [← sm_mul, ← sm_add]
    apply sm_congr; intro a _
    rw [sm]; grind
  rw [this, sm]
  have e : (sm n fun b => g n b * x n * x b) = x n * sm n fun b => g b n * x b := by
    rw [← sm_mul]; apply sm_congr; intro b _; rw [hs n b]; grind
  rw [e]; grind
theorem bil_even {g : Nat → Nat → Int} (hs : ∀ a b, g a b = g b a) (hd : ∀ a, g a a = 2) (x : Nat → Int) : ∀ n, ∃ t, bil n g x x = 2 * t
  | 0 => ⟨0, rfl⟩
  | n + 1 => by
    obtain ⟨t, ht⟩ := bil_even hs hd x n
    exact ⟨t + (x n * sm n fun b => g b n * x b) + x n * x n, by rw [bil_succ hs, ht, hd]; grind⟩
/-- What a pattern that has been looked at gives. -/
structure FinG (n : Nat) (g : Nat → Nat → Int) : Prop where
  symm : ∀ a b, g a b = g b a
  diag : ∀ a, g a a = 2
  off : ∀ a b, a ≠ b → g a b ≤ 0
  pos : ∀ x : Nat → Int, (∃ i, i < n ∧ x i ≠ 0) → ∀ v, v < n → x v * x v < 4 * bil n g x x
theorem finG_of {n : Nat} {l : List Bool} (h : finOK n l = true) : FinG n (gL l) := by
  simp only [finOK, Bool.and_eq_true, List.all_eq_true, List.mem_range] at h
  refine ⟨gL_symm l, gL_diag l, fun a b => gL_off l, fun x hx v hv => ?_⟩
  have h1 := pvF_pos n _ (fun a b => by rw [gL_symm l a b]; simp only [and_comm]) (h.1 v hv) x hx
  rw [bil_gsub n (fun a b => 4 * gL l a b) (fun a b => if a = v ∧ b = v then 1 else 0), bil_gmul, bil_ind hv hv, Int.one_mul] at h1
  omega
namespace FinG
variable {n : Nat} {g : Nat → Nat → Int} (G : FinG n g)
include G
theorem pos1 {x : Nat → Int} (hx : ∃ i, i < n ∧ x i ≠ 0) : 2 ≤ bil n g x x := by
  obtain ⟨i, hi, hn⟩ := hx
  have h1 := G.pos x ⟨i, hi, hn⟩ i hi
  have h2 := sq_nonneg (x i)
  obtain ⟨t, ht⟩ := bil_even G.symm G.diag x n
  omega
theorem le2 {x : Nat → Int} (hx : bil n g x x = 2) {v : Nat} (hv : v < n) : -2 ≤ x v ∧ x v ≤ 2 := by
  by_cases h0 : x v = 0
  · omega
  · have h1 := G.pos x ⟨v, hv, h0⟩ v hv
    rw [hx] at h1
    generalize x v = a at h1
    constructor
    · rcases Int.lt_or_le a (-2) with h | h
      · have : (3 : Int) * 3 ≤ -a * -a := Int.mul_le_mul (by omega) (by omega) (by omega) (by omega)
        have e : (3 : Int) * 3 ≤ a * a := by rw [← Int.neg_mul_neg a a]; exact this
        omega
      · exact h
    · rcases Int.lt_or_le 2 a with h | h
      · have : (3 : Int) * 3 ≤ a * a := Int.mul_le_mul (by omega) (by omega) (by omega) (by omega)
        omega
      · exact h
/-- a root has one sign -/
theorem sign {x : Nat → Int} (hx : bil n g x x = 2) : (∀ i, i < n → 0 ≤ x i) ∨ (∀ i, i < n → x i ≤ 0) := by
  apply Decidable.byContradiction
  intro hcon
  have h1 : ∃ i, i < n ∧ x i < 0 := Decidable.byContradiction fun h => hcon (.inl fun i hi => by
    rcases Int.lt_or_le (x i) 0 with h' | h'
    · exact absurd ⟨i, hi, h'⟩ h
    · exact h')
  have h2 : ∃ i, i < n ∧ 0 < x i := Decidable.byContradiction fun h => hcon (.inr fun i hi => by
    rcases Int.lt_or_le 0 (x i) with h' | h'
    · exact absurd ⟨i, hi, h'⟩ h
    · exact h')
  obtain ⟨i, hi, hxi⟩ := h1
  obtain ⟨j, hj, hxj⟩ := h2
  let p : Nat → Int := fun a => max (x a) 0
  let m : Nat → Int := fun a => max (-x a) 0
  have e : bil n g x x = bil n g p p - 2 * bil n g p m + bil n g m m := by
    have e1 : bil n g x x = bil n g (fun a => p a - m a) (fun a => p a - m a) := bil_congr (fun _ _ _ _ => rfl) (fun a _ => by simp only [p, m]; omega) (fun a _ => by simp only [p, m]; omega)
    rw [e1, bil_subl, bil_symm G.symm p, bil_symm G.symm m, bil_subl, bil_subl, bil_symm G.symm m p]
    omega
  have hpm : bil n g p m ≤ 0 := by
    have : 0 ≤ sm n fun a => sm n fun b => -(g a b * p a * m b) := sm_nonneg n fun a _ => sm_nonneg n fun b _ => by
      by_cases hab : a = b
      · subst hab
        have : p a * m a = 0 := by
          simp only [p, m]
          rcases Int.le_total 0 (x a) with h | h
          · rw [Int.max_eq_right (a := -x a) (by omega)]; simp
          · rw [Int.max_eq_right (a := x a) (by omega)]; simp
        rw [Int.mul_assoc, this]; simp
      · have := Int.mul_nonneg (Int.mul_nonneg (a := -(g a b)) (b := p a) (by have := G.off a b hab; omega) (by simp only [p]; omega)) (show 0 ≤ m b by simp only [m]; omega)
        rw [Int.neg_mul, Int.neg_mul] at this
        exact this
    have e2 : (sm n fun a => sm n fun b => -(g a b * p a * m b)) = -1 * bil n g p m := by
      unfold bil
      rw [← sm_mul]; apply sm_congr; intro a _; rw [← sm_mul]; apply sm_congr; intro b _; omega
    rw [e2] at this; omega
  have hp := G.pos1 (x := p) ⟨j, hj, by simp only [p]; omega⟩
  have hm := G.pos1 (x := m) ⟨i, hi, by simp only [m]; omega⟩
  omega
end FinG
/-- the vector x moved along v -/
def mvF (x : Nat → Int) (v : Nat) (c : Int) (i : Nat) : Int := if i = v then x i - c else x i
theorem bil_mv {n : Nat} {g : Nat → Nat → Int} (hs : ∀ a b, g a b = g b a) (hd : ∀ a, g a a = 2) {v : Nat} (hv : v < n) (x : Nat → Int) (c : Int) : bil n g (mvF x v c) (mvF x v c) = bil n g x x - 2 * c * (sm n fun b => g v b * x b) + 2 * c * c := by
  let d : Nat → Int := fun i => if i = v then 1 else 0
  have hdx : ∀ y : Nat → Int, bil n g d y = sm n fun b => g v b * y b := by
    intro y
    rw [bil_row, sm_one (k := v) n hv]
    · simp [d]
    · intro i _ hi; simp [d, hi]
  have hdd : bil n g d d = 2 := by
    rw [hdx, sm_one (k := v) n hv]
    · simp [d, hd]
    · intro i _ hi; simp [d, hi]
  have e1 : bil n g (mvF x v c) (mvF x v c) = bil n g (fun a => x a - c * d a) (fun a => x a - c * d a) := by
    apply bil_congr (fun _ _ _ _ => rfl) <;> intro a _ <;> simp only [mvF, d] <;> split <;> simp
  rw [e1, bil_subl n g x (fun a => c * d a), bil_mull, bil_symm hs x, bil_symm hs d, bil_subl, bil_subl, bil_mull, bil_mull, hdd, bil_symm hs x d, hdx]
  grind
theorem sm_mv {n : Nat} {h : Nat → Int} {v : Nat} (hv : v < n) (x : Nat → Int) (c : Int) : (sm n fun b => h b * mvF x v c b) = (sm n fun b => h b * x b) - c * h v := by
  have : (sm n fun b => h b * mvF x v c b) = (sm n fun b => h b * x b) - sm n fun b => if b = v then c * h v else 0 := by
    rw [← sm_sub]; apply sm_congr; intro b _; simp only [mvF]; split
    · subst_vars; grind
    · omega
  rw [this, sm_one (f := fun b => if b = v then c * h v else 0) (k := v) n hv fun i _ hi => by simp [hi]]
  simp
theorem FinG.down {n : Nat} {g : Nat → Nat → Int} (G : FinG n g) {x : Nat → Int} (hx : bil n g x x = 2) (h0 : ∀ i, i < n → 0 ≤ x i) (hne : ∀ v, v < n → ¬ ∀ i, i < n → x i = if i = v then 1 else 0) :
    ∃ v, v < n ∧ 0 < (sm n fun b => g v b * x b) ∧ bil n g (mvF x v (sm n fun b => g v b * x b)) (mvF x v (sm n fun b => g v b * x b)) = 2 ∧ 0 ≤ x v - sm n fun b => g v b * x b := by
  have h1 : 0 < sm n fun a => x a * sm n fun b => g a b * x b := by rw [← bil_row, hx]; omega
  obtain ⟨v, hv, hp⟩ := sm_pos_ex n h1
  have hxv := h0 v hv
  obtain ⟨c, hc⟩ : ∃ c, (sm n fun b => g v b * x b) = c := ⟨_, rfl⟩
  rw [hc] at hp
  have hcp : 0 < c := by
    rcases Int.lt_or_le 0 c with h | h
    · exact h
    · have := Int.mul_nonneg hxv (show 0 ≤ -c by omega)
      rw [Int.mul_neg] at this; omega
  have hb : bil n g (mvF x v c) (mvF x v c) = 2 := by rw [bil_mv G.symm G.diag hv, hc, hx]; grind
  refine ⟨v, hv, by rw [hc]; exact hcp, by rw [hc]; exact hb, ?_⟩
  rw [hc]
  rcases G.sign hb with h | h
  · have := h v hv
    simpa [mvF] using this
  · exfalso
    have hz : ∀ i, i < n → i ≠ v → x i = 0 := fun i hi hn => by
      have h2 := h i hi
      simp only [mvF, if_neg hn] at h2
      have := h0 i hi
      omega
    have e : bil n g x x = 2 * (x v * x v) := by
      rw [bil_row, sm_one (k := v) n hv fun i hi hn => by rw [hz i hi hn]; simp]
      rw [sm_one (k := v) n hv fun i hi hn => by rw [hz i hi hn]; simp, G.diag]
      grind
    rw [hx] at e
    have e1 : x v = 1 := by
      have h3 := (G.le2 hx hv)
      have : x v = 0 ∨ x v = 1 ∨ x v = 2 := by omega
      rcases this with h | h | h <;> rw [h] at e <;> omega
    exact hne v hv fun i hi => by
      split
      · subst_vars; exact e1
      · exact hz i hi ‹_›
theorem fin_ok {q : Qv} (hk : kindQ q = 1) : ∃ l : List Bool, (∀ a b, a < q.v.toNat → b < q.v.toNat → ent q q.f.length a b = gL l a b) ∧ finOK q.v.toNat l = true := by
  obtain ⟨hq, l, hl, he, hd⟩ := fin_pat hk
  have hv := (isQ_t.1 hq).1
  refine ⟨l, he, ?_⟩
  have h := allBL_all (pat_all (n := q.v.toNat) (by omega) (by omega)) l hl
  have hw := wit_lt q.v.toNat (by omega) l hl
  unfold patOK at h
  split at h
  · exact h
  · rename_i s hs
    have := hd (s + 1) (by omega) (by omega)
    simp only [decide_eq_true_eq] at h
    omega
theorem ent_symm (q : Qv) (a b : Nat) : ent q q.f.length a b = ent q q.f.length b a := by
  unfold ent; simp only [eq_comm (a := a) (b := b)]; omega
theorem fin_G {q : Qv} (hk : kindQ q = 1) : FinG q.v.toNat (ent q q.f.length) := by
  obtain ⟨l, he, ho⟩ := fin_ok hk
  obtain ⟨hq, _⟩ := fin_pat hk
  have G := finG_of ho
  refine ⟨ent_symm q, fun a => ?_, fun a b hab => by unfold ent; rw [if_neg hab]; omega, fun x hx v hv => ?_⟩
  · by_cases ha : a < q.v.toNat
    · rw [he a a ha ha, G.diag]
    · have h0 : arr q a a q.f.length = 0 := by
        rw [arr, List.countP_eq_zero]
        intro p hp
        have h1 := (isQ_t.1 hq).2.2.2.1 p.1 (List.of_mem_zip (List.mem_of_mem_take hp)).1
        simp only [Bool.and_eq_true, beq_iff_eq]
        omega
      rw [ent, h0, if_pos rfl]; rfl
  · rw [bil_congr he (fun _ _ => rfl) (fun _ _ => rfl)]
    exact G.pos x hx v hv
/-! ### vectors as lists -/
def vx (x : List Int) (i : Nat) : Int := x.getD i 0
/-- the form of Euler -/
def eulV (x y : List Int) (n : Nat) : Int := sm n fun v => vx x v * vx y v
def eulA (q : Qv) (x y : List Int) (k : Nat) : Int := sm k fun i => vx x (vx q.f i).toNat * vx y (vx q.t i).toNat
def eul (q : Qv) (x y : List Int) : Int := eulV x y q.v.toNat - eulA q x y q.f.length
theorem bil_idn (n : Nat) (x y : Nat → Int) : bil n (fun a b => if a = b then 2 else 0) x y = 2 * sm n fun v => x v * y v := by
  rw [bil_row, ← sm_mul]
  apply sm_congr; intro a ha
  rw [sm_one (k := a) n ha fun i _ hi => by rw [if_neg (fun h => hi h.symm)]; simp]
  simp; grind
theorem ent_eul {q : Qv} (hq : isQ q = true) (x : List Int) : ∀ k, k ≤ q.f.length → bil q.v.toNat (ent q k) (vx x) (vx x) = 2 * (eulV x x q.v.toNat - eulA q x x k)
  | 0, _ => by
    rw [bil_congr (h := fun a b => if a = b then 2 else 0) (x' := vx x) (y' := vx x) (fun a b _ _ => ent_zero q a b) (fun _ _ => rfl) (fun _ _ => rfl), bil_idn]
    simp [eulV, eulA, sm]
  | k + 1, hk => by
    obtain ⟨_, hl, _, hf, ht⟩ := isQ_t.1 hq
    have h1 : q.f[k]? = some q.f[k] := List.getElem?_eq_getElem (by omega)
    have h2 : q.t[k]? = some q.t[k] := List.getElem?_eq_getElem (by omega)
    have r1 := hf _ (List.mem_of_getElem? h1)
    have r2 := ht _ (List.mem_of_getElem? h2)
    obtain ⟨u, hu⟩ : ∃ u : Nat, q.f[k] = (u : Int) := ⟨q.f[k].toNat, by omega⟩
    obtain ⟨v, hv⟩ : ∃ v : Nat, q.t[k] = (v : Int) := ⟨q.t[k].toNat, by omega⟩
    rw [hu] at h1 r1
    rw [hv] at h2 r2
    have e1 : vx q.f k = u := by rw [vx, List.getD_eq_getElem?_getD, h1]; rfl
    have e2 : vx q.t k = v := by rw [vx, List.getD_eq_getElem?_getD, h2]; rfl
    rw [bil_congr (h := fun a b => (ent q k a b - (if a = u ∧ b = v then 1 else 0)) - (if a = v ∧ b = u then 1 else 0)) (x' := vx x) (y' := vx x) (fun a b _ _ => ent_succ h1 h2 a b) (fun _ _ => rfl) (fun _ _ => rfl)]
    rw [bil_gsub _ (fun a b => ent q k a b - (if a = u ∧ b = v then 1 else 0)), bil_gsub _ (ent q k), ent_eul hq x k (by omega), bil_ind (by omega) (by omega), bil_ind (by omega) (by omega)]
    simp only [eulA, sm, e1, e2, Int.toNat_natCast]
    grind
theorem dotS_sm (g : Nat → Int) (x : List Int) : ∀ k, dotS g x k = sm k fun b => g b * vx x b
  | 0 => rfl
  | k + 1 => by rw [dotS, sm, dotS_sm g x k]; rfl
theorem vx_refl (q : Qv) (x : List Int) (v : Nat) (hv : v < x.length) (i : Nat) : vx (reflL q x v) i = mvF (vx x) v (sm x.length fun b => ent q q.f.length v b * vx x b) i := by
  simp only [vx, reflL, mvF, List.getD_eq_getElem?_getD, List.getElem?_set, dotS_sm]
  by_cases e : v = i
  · subst e; simp [hv]
  · rw [if_neg e, if_neg (fun h => e h.symm)]
theorem reflL_length (q : Qv) (x : List Int) (v : Nat) : (reflL q x v).length = x.length := by simp [reflL]
theorem vx_ext {x y : List Int} (hl : x.length = y.length) (h : ∀ i, i < x.length → vx x i = vx y i) : x = y := by
  apply List.ext_getElem hl
  intro i h1 h2
  have := h i h1
  simp only [vx, List.getD_eq_getElem?_getD, List.getElem?_eq_getElem h1, List.getElem?_eq_getElem h2] at this
  exact this
/-- unit vectors -/
def uniV (n v : Nat) : List Int := (List.range n).map fun i => if i = v then 1 else 0
theorem uniV_length (n v : Nat) : (uniV n v).length = n := by simp [uniV]
theorem vx_uni {n v i : Nat} (hi : i < n) : vx (uniV n v) i = if i = v then 1 else 0 := by simp [vx, uniV, hi]
/-- a positive root of q, as a list -/
structure isRt (q : Qv) (x : List Int) : Prop where
  len : x.length = q.v.toNat
  nn : ∀ i, i < x.length → 0 ≤ vx x i
  one : eul q x x = 1
theorem eul_bil {q : Qv} (hq : isQ q = true) (x : List Int) : bil q.v.toNat (ent q q.f.length) (vx x) (vx x) = 2 * eul q x x := ent_eul hq x _ (Nat.le_refl _)
theorem fin_isQ {q : Qv} (hk : kindQ q = 1) : isQ q = true := (fin_pat hk).1
theorem isRt.two {q : Qv} (hk : kindQ q = 1) {x : List Int} (h : isRt q x) : bil q.v.toNat (ent q q.f.length) (vx x) (vx x) = 2 := by rw [eul_bil (fin_isQ hk), h.one]; rfl
theorem isRt.le2 {q : Qv} (hk : kindQ q = 1) {x : List Int} (h : isRt q x) {v : Nat} (hv : v < x.length) : 0 ≤ vx x v ∧ vx x v ≤ 2 := ⟨h.nn v hv, ((fin_G hk).le2 (h.two hk) (by have := h.len; omega)).2⟩
theorem isRt_uni {q : Qv} (hk : kindQ q = 1) {v : Nat} (hv : v < q.v.toNat) : isRt q (uniV q.v.toNat v) := by
  refine ⟨uniV_length _ _, fun i hi => ?_, ?_⟩
  · rw [uniV_length] at hi; rw [vx_uni hi]; split <;> omega
  · have h := eul_bil (fin_isQ hk) (uniV q.v.toNat v)
    rw [bil_row, sm_one (k := v) _ hv fun i hi hn => by rw [vx_uni hi, if_neg hn]; simp] at h
    rw [sm_one (k := v) _ hv fun i hi hn => by rw [vx_uni hi, if_neg hn]; simp, vx_uni hv, if_pos rfl, (fin_G hk).diag] at h
    omega
/-- a reflected root whose number at v is not negative is a root -/
theorem isRt_refl {q : Qv} {x : List Int} (h : isRt q x) {v : Nat} (hv : v < q.v.toNat) (h0 : 0 ≤ (reflL q x v).getD v 0) (h1 : eul q (reflL q x v) (reflL q x v) = 1) : isRt q (reflL q x v) := by
  refine ⟨(reflL_length _ _ _).trans h.len, fun i hi => ?_, h1⟩
  rw [reflL_length] at hi
  by_cases e : i = v
  · subst e; exact h0
  · rw [vx_refl _ _ _ (by have := h.len; omega), mvF, if_neg e]; exact h.nn i hi
def sumL (x : List Int) : Int := sm x.length (vx x)
/-- **All roots come from the unit vectors by reflections.** -/
theorem rt_all {q : Qv} (hk : kindQ q = 1) (S : List Int → Prop) (hu : ∀ v, v < q.v.toNat → S (uniV q.v.toNat v))
    (hr : ∀ x v, S x → isRt q x → v < q.v.toNat → 0 ≤ (reflL q x v).getD v 0 → eul q (reflL q x v) (reflL q x v) = 1 → S (reflL q x v)) :
    ∀ (m : Nat) (x : List Int), isRt q x → sumL x ≤ m → S x := by
  intro m
  induction m with
  | zero =>
    intro x hx hm
    exfalso
    have h2 := hx.two hk
    have hz : ∀ i, i < x.length → vx x i = 0 := by
      intro i hi
      have h3 := hx.nn i hi
      have h4 : vx x i ≤ sumL x := by
        have : sumL x = vx x i + sm x.length fun j => if j = i then 0 else vx x j := by
          rw [sumL, sm_congr (g := fun j => (if j = i then vx x i else 0) + if j = i then 0 else vx x j) _ (fun j _ => by split <;> simp_all), sm_add, sm_one (f := fun j => if j = i then vx x i else 0) (k := i) _ hi fun j _ hj => by simp [hj]]
          simp
        have h5 := sm_nonneg (f := fun j => if j = i then 0 else vx x j) x.length fun j hj => by
          split
          · omega
          · exact hx.nn j hj
        omega
      omega
    rw [bil_row, sm_congr (g := fun _ => 0) _ (fun i hi => by rw [hz i (by have := hx.len; omega)]; simp), sm_zero] at h2
    omega
  | succ m ih =>
    intro x hx hm
    by_cases hs : ∃ v, v < q.v.toNat ∧ ∀ i, i < q.v.toNat → vx x i = if i = v then 1 else 0
    · obtain ⟨v, hv, he⟩ := hs
      have : x = uniV q.v.toNat v := vx_ext (by rw [uniV_length, hx.len]) fun i hi => by rw [vx_uni (by have := hx.len; omega), he i (by have := hx.len; omega)]
      rw [this]; exact hu v hv
    · obtain ⟨v, hv, hc, hb, h0⟩ := (fin_G hk).down (hx.two hk) (fun i hi => hx.nn i (by have := hx.len; omega)) (fun v hv h => hs ⟨v, hv, h⟩)
      have hvl : v < x.length := by have := hx.len; omega
      have ey : ∀ i, vx (reflL q x v) i = mvF (vx x) v (sm q.v.toNat fun b => ent q q.f.length v b * vx x b) i := fun i => by rw [vx_refl _ _ _ hvl, hx.len]
      have hy : isRt q (reflL q x v) := isRt_refl hx hv (by show 0 ≤ vx _ v; rw [ey, mvF, if_pos rfl]; exact h0) (by
        have h := eul_bil (fin_isQ hk) (reflL q x v)
        rw [bil_congr (fun _ _ _ _ => rfl) (fun a _ => ey a) (fun a _ => ey a), hb] at h
        omega)
      have hback : reflL q (reflL q x v) v = x := by
        refine vx_ext (by simp [reflL_length]) fun i hi => ?_
        rw [vx_refl _ _ _ (by rw [reflL_length]; exact hvl), reflL_length, hx.len]
        have e2 : (sm q.v.toNat fun b => ent q q.f.length v b * vx (reflL q x v) b) = -(sm q.v.toNat fun b => ent q q.f.length v b * vx x b) := by
          rw [sm_congr (g := fun b => ent q q.f.length v b * mvF (vx x) v (sm q.v.toNat fun b => ent q q.f.length v b * vx x b) b) _ (fun b _ => by rw [ey]), sm_mv hv, (fin_G hk).diag]
          omega
        rw [e2]
        simp only [mvF, ey]
        split <;> omega
      have hsum : sumL (reflL q x v) ≤ m := by
        have : sumL (reflL q x v) = sumL x - sm q.v.toNat fun b => ent q q.f.length v b * vx x b := by
          have e3 := sm_mv (h := fun _ => 1) hv (vx x) (sm q.v.toNat fun b => ent q q.f.length v b * vx x b)
          simp only [Int.one_mul, Int.mul_one] at e3
          rw [sumL, reflL_length, hx.len, sm_congr _ (fun i _ => ey i), e3, sumL, hx.len]
        omega
      have hS := ih _ hy hsum
      have := hr _ v hS hy hv (by rw [hback]; exact hx.nn v hvl) (by rw [hback]; exact hx.one)
      rw [hback] at this
      exact this
/-! ### how many roots -/
def lstR : List (List Bool) → List Nat → Nat → Nat → List (List Nat)
  | [], xs, p, m => if p == m + 1 then [xs] else []
  | row :: rs, xs, p, m => lstR rs (0 :: xs) p m ++ lstR rs (1 :: xs) (p + 1) (m + dotB row xs) ++ lstR rs (2 :: xs) (p + 4) (m + 2 * dotB row xs)
theorem lstR_length : ∀ rs xs p m, (lstR rs xs p m).length = cntR rs xs p m
  | [], xs, p, m => by simp only [lstR, cntR]; split <;> rfl
  | row :: rs, xs, p, m => by simp only [lstR, cntR, List.length_append, lstR_length rs]
/-- the squares and the edges behind more numbers -/
def runR : List (List Bool) → List Nat → List Nat → Nat → Nat → Nat × Nat
  | row :: rs, y :: ys, xs, p, m => runR rs ys (y :: xs) (p + y * y) (m + y * dotB row xs)
  | _, _, _, p, m => (p, m)
theorem lstR_mem : ∀ (rs : List (List Bool)) (ys xs : List Nat) (p m : Nat), rs.length = ys.length → (∀ y ∈ ys, y ≤ 2) → (runR rs ys xs p m).1 = (runR rs ys xs p m).2 + 1 → ys.reverse ++ xs ∈ lstR rs xs p m
  | [], [], xs, p, m, _, _, h => by
    simp only [runR] at h
    simp [lstR, h]
  | row :: rs, y :: ys, xs, p, m, hl, hy, h => by
    have ih := lstR_mem rs ys (y :: xs) (p + y * y) (m + y * dotB row xs) (by simpa using hl) (fun z hz => hy z (by simp [hz])) h
    have h2 : y = 0 ∨ y = 1 ∨ y = 2 := by have := hy y (by simp); omega
    simp only [lstR, List.reverse_cons, List.append_assoc, List.singleton_append, List.mem_append]
    rcases h2 with rfl | rfl | rfl
    · exact .inl (by simpa using ih)
    · exact .inr (.inl (by simpa using ih))
    · exact .inr (.inr (by simpa using ih))
theorem runR_snoc : ∀ (rs : List (List Bool)) (row : List Bool) (ys : List Nat) (y : Nat) (xs : List Nat) (p m : Nat), rs.length = ys.length → runR (rs ++ [row]) (ys ++ [y]) xs p m = ((runR rs ys xs p m).1 + y * y, (runR rs ys xs p m).2 + y * dotB row (ys.reverse ++ xs))
  | [], row, [], y, xs, p, m, _ => by simp [runR]
  | r :: rs, row, z :: ys, y, xs, p, m, h => by
    simp only [List.cons_append, runR]
    rw [runR_snoc rs row ys y (z :: xs) _ _ (by simpa using h)]
    simp
def ltN (X : Nat → Nat) (n : Nat) : List Nat := (List.range n).map X
theorem dotB_sm (l : List Bool) (X : Nat → Nat) (n : Nat) : ∀ b, b ≤ n → (dotB (((List.range b).map fun a => l.getD (pIdx a n) false).reverse) (ltN X b).reverse : Int) = - sm b fun a => gL l a n * X a
  | 0, _ => by simp [dotB, sm, ltN]
  | b + 1, hb => by
    have ih := dotB_sm l X n b (by omega)
    simp only [ltN, List.range_succ, List.map_append, List.map_cons, List.map_nil, List.reverse_append, List.reverse_cons, List.reverse_nil, List.nil_append, List.singleton_append]
    simp only [ltN] at ih
    rw [sm]
    have hg : gL l b n = if l.getD (pIdx b n) false = true then -1 else 0 := by simp only [gL, if_neg (show ¬ b = n by omega), if_pos (show b < n by omega)]
    cases hB : l.getD (pIdx b n) false
    · rw [hB] at hg
      simp only [dotB]
      rw [hg, ih]; simp
    · rw [hB] at hg
      simp only [dotB]
      rw [hg, Int.natCast_add, ih]; simp; omega
theorem rowsL_length (l : List Bool) : ∀ n, (rowsL n l).length = n
  | 0 => rfl
  | n + 1 => by simp [rowsL, rowsL_length l n]
theorem runR_bil (l : List Bool) (X : Nat → Nat) : ∀ n, (bil n (gL l) (fun i => X i) (fun i => X i) : Int) = 2 * ((runR (rowsL n l) (ltN X n) [] 0 0).1 : Int) - 2 * ((runR (rowsL n l) (ltN X n) [] 0 0).2 : Int)
  | 0 => by simp [bil, sm, runR, rowsL]
  | n + 1 => by
    rw [bil_succ (gL_symm l), runR_bil l X n, gL_diag]
    have h := dotB_sm l X n n (Nat.le_refl n)
    have e : ltN X (n + 1) = ltN X n ++ [X n] := by simp [ltN, List.range_succ]
    rw [rowsL, e, runR_snoc _ _ _ _ _ _ _ (by simp [rowsL_length, ltN])]
    simp only [List.append_nil]
    generalize runR (rowsL n l) (ltN X n) [] 0 0 = pm
    obtain ⟨D, hD⟩ : ∃ D, dotB (((List.range n).map fun a => l.getD (pIdx a n) false).reverse) (ltN X n).reverse = D := ⟨_, rfl⟩
    rw [hD] at h ⊢
    have h2 : (sm n fun a => gL l a n * (X a : Int)) = -(D : Int) := by omega
    rw [h2]
    simp only [Int.natCast_add, Int.natCast_mul]
    grind
theorem nodup_sub {α : Type} [DecidableEq α] : ∀ (l m : List α), l.Nodup → (∀ x ∈ l, x ∈ m) → l.length ≤ m.length
  | [], _, _, _ => by simp
  | a :: r, m, hd, h => by
    obtain ⟨h1, h2⟩ := List.nodup_cons.1 hd
    have ha := h a (by simp)
    have := nodup_sub r (m.erase a) h2 fun x hx => (List.mem_erase_of_ne (by rintro rfl; exact h1 hx)).2 (h x (by simp [hx]))
    rw [List.length_erase_of_mem ha] at this
    have : 0 < m.length := List.length_pos_of_mem ha
    simp only [List.length_cons]
    omega
theorem nodup_mapF {α β : Type} {f : α → β} : ∀ {l : List α}, l.Nodup → (∀ x ∈ l, ∀ y ∈ l, f x = f y → x = y) → (l.map f).Nodup
  | [], _, _ => by simp
  | a :: r, hd, h => by
    obtain ⟨h1, h2⟩ := List.nodup_cons.1 hd
    rw [List.map_cons, List.nodup_cons]
    refine ⟨fun hm => ?_, nodup_mapF h2 fun x hx y hy => h x (by simp [hx]) y (by simp [hy])⟩
    obtain ⟨x, hx, e⟩ := List.mem_map.1 hm
    have := h x (by simp [hx]) a (by simp) e
    exact h1 (this ▸ hx)
/-- **At most twenty roots.** -/
theorem rt_20 {q : Qv} (hk : kindQ q = 1) (R : List (List Int)) (hn : R.Nodup) (hR : ∀ x ∈ R, isRt q x) : R.length ≤ 20 := by
  obtain ⟨l, he, ho⟩ := fin_ok hk
  simp only [finOK, Bool.and_eq_true] at ho
  have hc : cntR (rowsL q.v.toNat l) [] 0 0 ≤ 20 := by simpa using ho.2
  rw [← lstR_length] at hc
  have h1 := nodup_sub (R.map fun x => ((x.map Int.toNat).reverse)) (lstR (rowsL q.v.toNat l) [] 0 0) (nodup_mapF hn fun x hx y hy e => ?_) ?_
  · rw [List.length_map] at h1; omega
  · have e := List.reverse_inj.1 e
    have hlx := (hR x hx).len
    have hly := (hR y hy).len
    refine vx_ext (by omega) fun i hi => ?_
    have h1 := congrArg (fun z => z[i]?) e
    simp only [List.getElem?_map, List.getElem?_eq_getElem hi, List.getElem?_eq_getElem (show i < y.length by omega), Option.map_some, Option.some.injEq] at h1
    have nx := (hR x hx).nn i hi
    have ny := (hR y hy).nn i (by omega)
    simp only [vx, List.getD_eq_getElem?_getD, List.getElem?_eq_getElem hi, List.getElem?_eq_getElem (show i < y.length by omega), Option.getD_some] at nx ny ⊢
    omega
  · intro z hz
    obtain ⟨x, hx, rfl⟩ := List.mem_map.1 hz
    have hx' := hR x hx
    have e : x.map Int.toNat = ltN (fun i => (vx x i).toNat) q.v.toNat := by
      apply List.ext_getElem (by simp [ltN, hx'.len])
      intro i h1 h2
      simp [ltN, vx, List.getD_eq_getElem?_getD, List.getElem?_eq_getElem (show i < x.length by simpa using h1)]
    have hb := hx'.two hk
    rw [bil_congr he (x' := fun i => (((vx x i).toNat : Nat) : Int)) (y' := fun i => (((vx x i).toNat : Nat) : Int)) (fun a ha => by have := hx'.nn a (by have := hx'.len; omega); omega) (fun a ha => by have := hx'.nn a (by have := hx'.len; omega); omega)] at hb
    rw [runR_bil l (fun i => (vx x i).toNat) q.v.toNat, ← e] at hb
    have h2 := lstR_mem (rowsL q.v.toNat l) (x.map Int.toNat) [] 0 0 (by simp [rowsL_length, hx'.len]) (fun y hy => by
      obtain ⟨w, hw, rfl⟩ := List.mem_map.1 hy
      obtain ⟨i, hi⟩ := List.mem_iff_getElem?.1 hw
      have hil := lt_of_some hi
      have := hx'.le2 hk hil
      rw [vx, List.getD_eq_getElem?_getD, hi] at this
      simp at this
      omega) (by omega)
    simpa using h2
end Go.Proofs.Ytkhkamcmlhmpiaa

/- The positive roots: plain. -/
namespace Go.Proofs.Ytkhkamcmlhmpiaa
set_option linter.unusedVariables false
set_option linter.unusedSimpArgs false
open Go.RowKit Go.Sort

/-! ### the order by the sum and then lexicographically -/
def lexB : List Int → List Int → Bool
  | a :: s, b :: t => if a = b then lexB s t else decide (a < b)
  | _, _ => false
def ltR (x y : List Int) : Bool := if x.sum = y.sum then lexB x y else decide (x.sum < y.sum)
theorem lexB_irrefl : ∀ x, lexB x x = false
  | [] => rfl
  | a :: s => by rw [lexB, if_pos rfl, lexB_irrefl s]
theorem lexB_asymm : ∀ x y, lexB x y = true → lexB y x = false
  | [], _, h => by simp [lexB] at h
  | _ :: _, [], h => by simp [lexB] at h
  | a :: s, b :: t, h => by
    rw [lexB] at h ⊢
    by_cases e : a = b
    · rw [if_pos e] at h; rw [if_pos e.symm]; exact lexB_asymm s t h
    · rw [if_neg e] at h
      rw [if_neg (fun h => e h.symm)]
      simp at h ⊢; omega
theorem lexB_trans : ∀ x y z, lexB x y = true → lexB y z = true → lexB x z = true
  | [], _, _, h, _ => by simp [lexB] at h
  | _ :: _, [], _, h, _ => by simp [lexB] at h
  | _ :: _, _ :: _, [], _, h => by simp [lexB] at h
  | a :: s, b :: t, c :: u, h, k => by
    rw [lexB] at h k ⊢
    by_cases e : a = b
    · subst e
      rw [if_pos rfl] at h
      by_cases e2 : a = c
      · subst e2; rw [if_pos rfl] at k; rw [if_pos rfl]; exact lexB_trans s t u h k
      · rw [if_neg e2] at k ⊢; exact k
    · rw [if_neg e] at h
      by_cases e2 : b = c
      · subst e2; rw [if_neg e]; exact h
      · rw [if_neg e2] at k
        simp at h k
        rw [if_neg (by omega)]; simp; omega
theorem lexB_total : ∀ x y : List Int, x.length = y.length → x ≠ y → lexB x y = false → lexB y x = true
  | [], [], _, h, _ => absurd rfl h
  | [], _ :: _, h, _, _ => by simp at h
  | _ :: _, [], h, _, _ => by simp at h
  | a :: s, b :: t, hl, hn, h => by
    rw [lexB] at h ⊢
    by_cases e : a = b
    · subst e; rw [if_pos rfl] at h ⊢
      exact lexB_total s t (by simpa using hl) (fun e => hn (by rw [e])) h
    · rw [if_neg e] at h; rw [if_neg (fun h => e h.symm)]; simp at h ⊢; omega
theorem ltR_irrefl (x : List Int) : ltR x x = false := by rw [ltR, if_pos rfl, lexB_irrefl]
theorem ltR_asymm {x y : List Int} (h : ltR x y = true) : ltR y x = false := by
  rw [ltR] at h ⊢
  by_cases e : x.sum = y.sum
  · rw [if_pos e] at h; rw [if_pos e.symm]; exact lexB_asymm _ _ h
  · rw [if_neg e] at h; rw [if_neg (fun h => e h.symm)]; simp at h ⊢; omega
theorem ltR_trans {x y z : List Int} (h : ltR x y = true) (k : ltR y z = true) : ltR x z = true := by
  rw [ltR] at h k ⊢
  by_cases e : x.sum = y.sum
  · rw [if_pos e] at h
    by_cases e2 : y.sum = z.sum
    · rw [if_pos e2] at k; rw [if_pos (by omega)]; exact lexB_trans _ _ _ h k
    · rw [if_neg e2] at k; rw [if_neg (by omega), e]; exact k
  · rw [if_neg e] at h
    simp at h
    by_cases e2 : y.sum = z.sum
    · rw [if_neg (by omega)]; simp; omega
    · rw [if_neg e2] at k; simp at k; rw [if_neg (by omega)]; simp; omega
theorem ltR_total {x y : List Int} (hl : x.length = y.length) (hn : x ≠ y) (h : ltR x y = false) : ltR y x = true := by
  rw [ltR] at h ⊢
  by_cases e : x.sum = y.sum
  · rw [if_pos e] at h; rw [if_pos e.symm]; exact lexB_total _ _ hl hn h
  · rw [if_neg e] at h; rw [if_neg (fun h => e h.symm)]; simp at h ⊢; omega
/-- two lists in strict order with the same members are the same -/
theorem strict_unique {α : Type} {R : α → α → Bool} (hi : ∀ x, R x x = false) (ha : ∀ x y, R x y = true → R y x = false) : ∀ l m : List α, l.Pairwise (fun a b => R a b = true) → m.Pairwise (fun a b => R a b = true) → (∀ x, x ∈ l ↔ x ∈ m) → l = m
  | [], [], _, _, _ => rfl
  | [], b :: m, _, _, h => by have := (h b).2 (by simp); simp at this
  | a :: l, [], _, _, h => by have := (h a).1 (by simp); simp at this
  | a :: l, b :: m, hl, hm, h => by
    rw [List.pairwise_cons] at hl hm
    have hab : a = b := by
      rcases List.mem_cons.1 ((h a).1 (by simp)) with e | h1
      · exact e
      · rcases List.mem_cons.1 ((h b).2 (by simp)) with e | h2
        · exact e.symm
        · have := ha _ _ (hm.1 a h1)
          rw [hl.1 b h2] at this
          cases this
    subst hab
    rw [strict_unique hi ha l m hl.2 hm.2 fun x => ⟨fun hx => ?_, fun hx => ?_⟩]
    · rcases List.mem_cons.1 ((h x).1 (by simp [hx])) with e | h1
      · subst e; have := hl.1 x hx; rw [hi] at this; cases this
      · exact h1
    · rcases List.mem_cons.1 ((h x).2 (by simp [hx])) with e | h1
      · subst e; have := hm.1 x hx; rw [hi] at this; cases this
      · exact h1
/-! ### the box in lexicographic order -/
theorem bxV_succ (m N k : Nat) : bxV m (N + 1) k = ((k / (m + 1) ^ N % (m + 1) : Nat) : Int) :: bxV m N k := by
  apply List.ext_getElem (by simp [bxV])
  intro i h1 h2
  match i with
  | 0 => simp [bxV]
  | i + 1 =>
    simp only [bxV, List.getElem_map, List.getElem_range, List.getElem_cons_succ]
    rw [show N + 1 - 1 - (i + 1) = N - 1 - i by omega]
theorem bxV_mod (m N k : Nat) : bxV m N (k % (m + 1) ^ N) = bxV m N k := by
  apply List.ext_getElem (by simp [bxV])
  intro i h1 h2
  have hi : i < N := by simpa [bxV] using h2
  simp only [bxV, List.getElem_map, List.getElem_range]
  obtain ⟨r, hr⟩ : ∃ r, N = (N - 1 - i) + (r + 1) := ⟨i, by omega⟩
  have e : (m + 1) ^ N = (m + 1) ^ (N - 1 - i) * ((m + 1) * (m + 1) ^ r) := by rw [← Nat.pow_succ', ← Nat.pow_add, ← hr]
  rw [e, Nat.mod_mul_right_div_self, Nat.mod_mul_right_mod]
theorem bxV_lex (m : Nat) : ∀ (N j k : Nat), j < k → k < (m + 1) ^ N → lexB (bxV m N j) (bxV m N k) = true
  | 0, j, k, h, hk => by simp at hk; omega
  | N + 1, j, k, h, hk => by
    rw [bxV_succ, bxV_succ, lexB]
    have hb : 0 < (m + 1) ^ N := Nat.pow_pos (by omega)
    have h1 : j / (m + 1) ^ N < m + 1 := by rw [Nat.div_lt_iff_lt_mul hb]; rw [Nat.pow_succ, Nat.mul_comm] at hk; omega
    have h2 : k / (m + 1) ^ N < m + 1 := by rw [Nat.div_lt_iff_lt_mul hb]; rw [Nat.pow_succ, Nat.mul_comm] at hk; omega
    have h3 : j / (m + 1) ^ N ≤ k / (m + 1) ^ N := Nat.div_le_div_right (by omega)
    rw [Nat.mod_eq_of_lt h1, Nat.mod_eq_of_lt h2]
    by_cases e : j / (m + 1) ^ N = k / (m + 1) ^ N
    · rw [if_pos (congrArg _ e), ← bxV_mod m N j, ← bxV_mod m N k]
      refine bxV_lex m N _ _ ?_ (Nat.mod_lt _ hb)
      have e1 := Nat.div_add_mod j ((m + 1) ^ N)
      have e2 := Nat.div_add_mod k ((m + 1) ^ N)
      rw [e] at e1; omega
    · rw [if_neg (fun h => e (Int.ofNat_inj.1 h))]
      rw [decide_eq_true_eq]
      exact Int.ofNat_lt.2 (by omega)
/-- which vector of the box a list is -/
def bxI (m : Nat) : List Int → Nat
  | [] => 0
  | a :: s => a.toNat * (m + 1) ^ s.length + bxI m s
theorem bxI_lt (m : Nat) : ∀ x : List Int, (∀ y ∈ x, 0 ≤ y ∧ y ≤ m) → bxI m x < (m + 1) ^ x.length
  | [], _ => by simp [bxI]
  | a :: s, h => by
    have h1 := bxI_lt m s fun y hy => h y (by simp [hy])
    have h2 := h a (by simp)
    rw [bxI, List.length_cons, Nat.pow_succ']
    have : a.toNat * (m + 1) ^ s.length ≤ m * (m + 1) ^ s.length := Nat.mul_le_mul_right _ (by omega)
    rw [Nat.add_mul]; omega
theorem bxV_I (m : Nat) : ∀ x : List Int, (∀ y ∈ x, 0 ≤ y ∧ y ≤ m) → bxV m x.length (bxI m x) = x
  | [], _ => rfl
  | a :: s, h => by
    have h1 := bxI_lt m s fun y hy => h y (by simp [hy])
    have h2 := h a (by simp)
    have hb : 0 < (m + 1) ^ s.length := Nat.pow_pos (by omega)
    rw [List.length_cons, bxV_succ, ← bxV_mod m s.length]
    have e1 : bxI m (a :: s) / (m + 1) ^ s.length = a.toNat := by
      rw [bxI, Nat.mul_comm, Nat.mul_add_div hb, Nat.div_eq_of_lt h1]; rfl
    have e2 : bxI m (a :: s) % (m + 1) ^ s.length = bxI m s := by
      rw [bxI, Nat.mul_comm, Nat.mul_add_mod, Nat.mod_eq_of_lt h1]
    rw [e1, e2, bxV_I m s fun y hy => h y (by simp [hy]), Nat.mod_eq_of_lt (by omega)]
    congr 1; omega
/-! ### the roots in the box -/

def rtB (q : Qv) (V k : Nat) : List (List Int) := ((List.range k).map (bxV 4 V)).filter fun x => eul q x x == 1
theorem rtB_0 (q : Qv) (V : Nat) : rtB q V 0 = [] := rfl
theorem rtB_yes {q : Qv} {V k : Nat} (h : eul q (bxV 4 V k) (bxV 4 V k) = 1) : rtB q V (k + 1) = rtB q V k ++ [bxV 4 V k] := by
  rw [rtB, List.range_succ, List.map_append, List.filter_append]
  congr 1
  simp [h]
theorem rtB_no {q : Qv} {V k : Nat} (h : eul q (bxV 4 V k) (bxV 4 V k) ≠ 1) : rtB q V (k + 1) = rtB q V k := by
  rw [rtB, List.range_succ, List.map_append, List.filter_append]
  simp [h]; rfl
theorem rtB_isRt {q : Qv} {k : Nat} {x : List Int} (h : x ∈ rtB q q.v.toNat k) : isRt q x := by
  rw [rtB, List.mem_filter] at h
  obtain ⟨h1, h2⟩ := h
  obtain ⟨j, _, rfl⟩ := List.mem_map.1 h1
  refine ⟨bxV_length _ _ _, fun i hi => ?_, by simpa using h2⟩
  rw [bxV_length] at hi
  simp [vx, bxV, hi]
  omega
theorem rtB_lex (q : Qv) (V : Nat) : ∀ k, k ≤ 5 ^ V → (rtB q V k).Pairwise fun a b => lexB a b = true := by
  intro k hk
  rw [rtB]
  refine List.Pairwise.filter _ ?_
  rw [List.pairwise_map]
  refine List.Pairwise.imp_of_mem ?_ List.pairwise_lt_range
  intro a b ha hb hab
  rw [List.mem_range] at ha hb
  exact bxV_lex 4 V a b hab (by show b < 5 ^ V; omega)
theorem rtB_nodup (q : Qv) (V k : Nat) (hk : k ≤ 5 ^ V) : (rtB q V k).Nodup :=
  (rtB_lex q V k hk).imp fun h e => by rw [e, lexB_irrefl] at h; cases h
theorem rtB_len {q : Qv} (hk : kindQ q = 1) (k : Nat) (h : k ≤ 5 ^ q.v.toNat) : (rtB q q.v.toNat k).length ≤ 20 :=
  rt_20 hk _ (rtB_nodup q _ k h) fun _ hx => rtB_isRt hx
theorem rtB_all {q : Qv} (hk : kindQ q = 1) {x : List Int} (h : isRt q x) : x ∈ rtB q q.v.toNat (5 ^ q.v.toNat) := by
  have hb : ∀ y ∈ x, 0 ≤ y ∧ y ≤ ((4 : Nat) : Int) := by
    intro y hy
    obtain ⟨i, hi, rfl⟩ := List.mem_iff_getElem.1 hy
    have := isRt.le2 hk h hi
    rw [vx, List.getD_eq_getElem?_getD, List.getElem?_eq_getElem hi] at this
    simp at this ⊢
    omega
  rw [rtB, List.mem_filter]
  refine ⟨List.mem_map.2 ⟨bxI 4 x, ?_, ?_⟩, by simpa using h.one⟩
  · have := bxI_lt 4 x hb
    rw [List.mem_range, ← h.len]; exact this
  · rw [← h.len]; exact bxV_I 4 x hb
/-- **the positive roots, in order** -/
def insR (L : List (List Int)) (x : List Int) : List (List Int) := L.filter (fun y => ltR y x) ++ x :: L.filter (fun y => !ltR y x)
def rtsQ (q : Qv) : List (List Int) := (rtB q q.v.toNat (5 ^ q.v.toNat)).foldl insR []
theorem insR_mem {L : List (List Int)} {x y : List Int} : y ∈ insR L x ↔ y = x ∨ y ∈ L := by
  simp only [insR, List.mem_append, List.mem_cons, List.mem_filter]
  cases h : ltR y x <;> simp <;> grind
theorem insR_fold_mem : ∀ (l L : List (List Int)) (y : List Int), y ∈ l.foldl insR L ↔ y ∈ l ∨ y ∈ L
  | [], L, y => by simp
  | x :: l, L, y => by rw [List.foldl_cons, insR_fold_mem l, insR_mem, List.mem_cons]; grind
theorem insR_sorted {L : List (List Int)} {x : List Int} (n : Nat) (hl : ∀ y ∈ L, y.length = n) (hx : x.length = n) (hn : x ∉ L) (h : L.Pairwise fun a b => ltR a b = true) : (insR L x).Pairwise fun a b => ltR a b = true := by
  rw [insR, List.pairwise_append, List.pairwise_cons]
  refine ⟨h.filter _, ⟨fun y hy => ?_, h.filter _⟩, fun a ha b hb => ?_⟩
  · rw [List.mem_filter] at hy
    exact ltR_total (by rw [hl y hy.1, hx]) (fun e => hn (e ▸ hy.1)) (by simpa using hy.2)
  · rw [List.mem_filter] at ha
    rcases List.mem_cons.1 hb with rfl | hb
    · exact ha.2
    · rw [List.mem_filter] at hb
      exact ltR_trans ha.2 (ltR_total (by rw [hl b hb.1, hx]) (fun e => hn (e ▸ hb.1)) (by simpa using hb.2))
theorem insR_fold_sorted (n : Nat) : ∀ (l L : List (List Int)), l.Nodup → (∀ x ∈ l, x ∉ L) → (∀ y ∈ l, y.length = n) → (∀ y ∈ L, y.length = n) → L.Pairwise (fun a b => ltR a b = true) → (l.foldl insR L).Pairwise fun a b => ltR a b = true
  | [], L, _, _, _, _, h => h
  | x :: l, L, hd, hn, hl, hL, h => by
    rw [List.foldl_cons]
    rw [List.nodup_cons] at hd
    refine insR_fold_sorted n l _ hd.2 (fun y hy e => ?_) (fun y hy => hl y (by simp [hy])) (fun y hy => ?_) (insR_sorted n hL (hl x (by simp)) (hn x (by simp)) h)
    · rcases insR_mem.1 e with e | e
      · exact hd.1 (e ▸ hy)
      · exact hn y (by simp [hy]) e
    · rcases insR_mem.1 hy with e | e
      · rw [e]; exact hl x (by simp)
      · exact hL y e
theorem rtsQ_mem {q : Qv} (hk : kindQ q = 1) {x : List Int} : x ∈ rtsQ q ↔ isRt q x := by
  rw [rtsQ, insR_fold_mem]
  constructor
  · rintro (h | h)
    · exact rtB_isRt h
    · simp at h
  · intro h; exact .inl (rtB_all hk h)
theorem rtsQ_sorted (q : Qv) : (rtsQ q).Pairwise fun a b => ltR a b = true := by
  refine insR_fold_sorted q.v.toNat _ _ (rtB_nodup q _ _ (Nat.le_refl _)) (fun x _ h => by simp at h) (fun y hy => (rtB_isRt hy).len) (fun y hy => by simp at hy) List.Pairwise.nil
theorem rtsQ_nodup (q : Qv) : (rtsQ q).Nodup := (rtsQ_sorted q).imp fun h e => by rw [e, ltR_irrefl] at h; cases h
theorem rtsQ_len {q : Qv} (hk : kindQ q = 1) : (rtsQ q).length ≤ 20 := rt_20 hk _ (rtsQ_nodup q) fun _ hx => (rtsQ_mem hk).1 hx
/-- a list in strict order whose members are the roots -/
theorem rts_eq {q : Qv} (hk : kindQ q = 1) {L : List (List Int)} (hs : L.Pairwise fun a b => ltR a b = true) (hm : ∀ x, x ∈ L ↔ isRt q x) : L = rtsQ q :=
  strict_unique ltR_irrefl (fun _ _ => ltR_asymm) L _ hs (rtsQ_sorted q) fun x => (hm x).trans (rtsQ_mem hk).symm
/-! ### insertion sort is stable -/

def ltS (L : List (List Int)) (i j : Nat) : Bool := decide ((L.getD i []).sum < (L.getD j []).sum)
def ltT (L : List (List Int)) (i j : Nat) : Bool := decide ((L.getD i []).sum < (L.getD j []).sum ∨ ((L.getD i []).sum = (L.getD j []).sum ∧ i < j))
structure StI (n i : Nat) (d : Array Nat) : Prop where
  size : d.size = n
  lo : ∀ k, k < i → d[k]! < i
  hi : ∀ k, i ≤ k → k < n → d[k]! = k
theorem swp_at (d : Array Nat) (i j k : Nat) (hi : i < d.size) (hj : j < d.size) : (swp d i j)[k]! = if k = j then d[i]! else if k = i then d[j]! else d[k]! := by
  simp only [swp]
  by_cases h1 : k = j
  · subst h1; simp [hj]
  · rw [if_neg h1]
    by_cases h2 : k = i
    · subst h2; simp [hi, h1]; grind
    · simp [h1, h2]; grind
theorem swp_size (d : Array Nat) (i j : Nat) : (swp d i j).size = d.size := by simp [swp]
theorem insI_eq (L : List (List Int)) (n i : Nat) (hin : i < n) : ∀ (j : Nat) (d : Array Nat), j ≤ i → d.size = n → d[j]! = i → (∀ k, k < j → d[k]! < i) → (∀ k, k ≤ i → d[k]! ≤ i) → (∀ k, i < k → k < n → d[k]! = k) →
    insInner (ltS L) 0 j d = insInner (ltT L) 0 j d ∧ StI n (i + 1) (insInner (ltS L) 0 j d)
  | 0, d, _, hs, _, _, h1, h2 => ⟨rfl, hs, fun k hk => by have := h1 k (by omega); show (insInner (ltS L) 0 0 d)[k]! < _; simp only [insInner]; omega, fun k h h' => h2 k (by omega) h'⟩
  | j + 1, d, hj, hs, he, hlt, h1, h2 => by
    have h3 := hlt j (by omega)
    have hc : ltS L d[j + 1]! d[j]! = ltT L d[j + 1]! d[j]! := by
      simp only [ltS, ltT, he]
      congr 1
      apply propext
      constructor
      · intro h; exact .inl h
      · rintro (h | ⟨_, h⟩)
        · exact h
        · omega
    simp only [insInner, hc]
    split
    · refine insI_eq L n i hin j (swp d (j + 1) j) (by omega) (by rw [swp_size]; exact hs) ?_ (fun k hk => ?_) (fun k hk => ?_) (fun k hk hk2 => ?_)
      · rw [swp_at _ _ _ _ (by omega) (by omega), if_pos rfl, he]
      · rw [swp_at _ _ _ _ (by omega) (by omega), if_neg (by omega), if_neg (by omega)]; exact hlt k (by omega)
      · rw [swp_at _ _ _ _ (by omega) (by omega)]
        split
        · omega
        · split
          · omega
          · exact h1 k hk
      · rw [swp_at _ _ _ _ (by omega) (by omega), if_neg (by omega), if_neg (by omega)]; exact h2 k hk hk2
    · exact ⟨rfl, hs, fun k hk => by have := h1 k (by omega); omega, fun k h h' => h2 k (by omega) h'⟩
theorem oGo (lt : Nat → Nat → Bool) (a b i : Nat) (d : Array Nat) (h : i < b) : insOuter lt a b i d = insOuter lt a b (i + 1) (insInner lt a i d) := by rw [insOuter, if_pos h]
theorem oStop (lt : Nat → Nat → Bool) (a b i : Nat) (d : Array Nat) (h : ¬ i < b) : insOuter lt a b i d = d := by rw [insOuter, if_neg h]
theorem insO_eq (L : List (List Int)) (n : Nat) : ∀ (m i : Nat) (d : Array Nat), n - i ≤ m → StI n i d → insOuter (ltS L) 0 n i d = insOuter (ltT L) 0 n i d
  | 0, i, d, hm, h => by rw [oStop _ _ _ _ _ (by omega), oStop _ _ _ _ _ (by omega)]
  | m + 1, i, d, hm, h => by
    by_cases hi : i < n
    · rw [oGo _ _ _ _ _ hi, oGo _ _ _ _ _ hi]
      have h4 := insI_eq L n i hi i d (Nat.le_refl _) h.size (h.hi i (Nat.le_refl _) hi) h.lo (fun k hk => by
        rcases Nat.lt_or_ge k i with h5 | h5
        · have := h.lo k h5; omega
        · have := h.hi k h5 (by omega); omega) (fun k hk hk2 => h.hi k (by omega) hk2)
      rw [← h4.1]
      exact insO_eq L n m (i + 1) _ (by omega) h4.2
    · rw [oStop _ _ _ _ _ hi, oStop _ _ _ _ _ hi]
theorem ltT_swo (L : List (List Int)) : SWO (ltT L) := by
  refine ⟨fun x => ?_, fun x y z h k => ?_, fun x y z h k => ?_⟩
  · simp [ltT]
  · simp [ltT] at h k ⊢; omega
  · simp [ltT] at h k ⊢; omega
def rngA (n : Nat) : Array Nat := (List.range n).toArray
def srtA (L : List (List Int)) (n : Nat) : List Nat := (insertionSort (ltS L) (rngA n) 0 n).toList
theorem srtA_spec (L : List (List Int)) (n : Nat) : (srtA L n).Perm (List.range n) ∧ (srtA L n).Pairwise fun i j => ltT L i j = true := by
  have h0 : ∀ k, k < n → (rngA n)[k]! = k := fun k hk => by simp [rngA, hk]
  have e : insertionSort (ltS L) (rngA n) 0 n = insertionSort (ltT L) (rngA n) 0 n := by
    rcases Nat.eq_zero_or_pos n with h | h
    · subst h; simp [insertionSort, insOuter]
    · exact insO_eq L n n 1 _ (by omega) ⟨by simp [rngA], fun k hk => by rw [h0 k (by omega)]; exact hk, fun k _ hk => h0 k hk⟩
  obtain ⟨⟨hs, _, hp⟩, hso⟩ := insertionSort_holds (lt := ltT L) (ltT_swo L) (rngA n) 0 n (Nat.zero_le _) (by simp [rngA])
  rw [← e] at hs hp hso
  have hs' : (insertionSort (ltS L) (rngA n) 0 n).size = n := by rw [hs]; simp [rngA]
  have hp' : (srtA L n).Perm (List.range n) := by
    rw [srtA]
    have e1 : (insertionSort (ltS L) (rngA n) 0 n).extract 0 n = insertionSort (ltS L) (rngA n) 0 n := Array.extract_eq_self_of_le (by omega)
    have e2 : (rngA n).extract 0 n = rngA n := Array.extract_eq_self_of_le (by simp [rngA])
    rw [e1, e2] at hp
    simpa [rngA] using hp
  refine ⟨hp', ?_⟩
  have hnd : (srtA L n).Nodup := hp'.nodup_iff.2 List.nodup_range
  rw [List.pairwise_iff_getElem]
  intro i j hi hj hij
  have hne : (srtA L n)[i] ≠ (srtA L n)[j] := fun h => by
    exact (List.pairwise_iff_getElem.1 hnd) i j hi hj hij h
  have hz : (srtA L n).length = n := by simp [srtA, hs']
  have := hso i j (Nat.zero_le _) hij (by omega)
  have g1 : (insertionSort (ltS L) (rngA n) 0 n)[i]! = (srtA L n)[i] := by simp only [srtA, Array.getElem_toList]; exact getElem!_pos _ i (by omega)
  have g2 : (insertionSort (ltS L) (rngA n) 0 n)[j]! = (srtA L n)[j] := by simp only [srtA, Array.getElem_toList]; exact getElem!_pos _ j (by omega)
  rw [g1, g2] at this
  simp [ltT] at this ⊢
  omega
/-- the list of roots sorted stably by the sums -/
theorem srt_rts {q : Qv} (hk : kindQ q = 1) : (srtA (rtB q q.v.toNat (5 ^ q.v.toNat)) (rtB q q.v.toNat (5 ^ q.v.toNat)).length).map (fun i => (rtB q q.v.toNat (5 ^ q.v.toNat)).getD i []) = rtsQ q := by
  obtain ⟨L, hL⟩ : ∃ L, rtB q q.v.toNat (5 ^ q.v.toNat) = L := ⟨_, rfl⟩
  obtain ⟨h1, h2⟩ := srtA_spec L L.length
  have hlex := rtB_lex q q.v.toNat _ (Nat.le_refl _)
  have hm : ∀ x, x ∈ L ↔ isRt q x := fun x => by rw [← hL]; exact ⟨rtB_isRt, rtB_all hk⟩
  rw [hL] at hlex ⊢
  have hin : ∀ i, i ∈ srtA L L.length ↔ i < L.length := fun i => by rw [h1.mem_iff, List.mem_range]
  refine rts_eq hk ?_ fun x => ?_
  · rw [List.pairwise_map]
    refine List.Pairwise.imp_of_mem ?_ h2
    intro i j hi hj hij
    rw [hin] at hi hj
    rw [ltR]
    simp only [ltT, decide_eq_true_eq] at hij
    rcases hij with h | ⟨h, h'⟩
    · rw [if_neg (by omega)]; simpa using h
    · rw [if_pos h]
      rw [List.pairwise_iff_getElem] at hlex
      have := hlex i j hi hj h'
      simpa [List.getD_eq_getElem?_getD, hi, hj] using this
  · rw [← hm, List.mem_map]
    constructor
    · rintro ⟨i, hi, rfl⟩
      rw [hin] at hi
      simp [List.getD_eq_getElem?_getD, hi]
    · intro hx
      obtain ⟨i, hi, rfl⟩ := List.mem_iff_getElem.1 hx
      exact ⟨i, (hin i).2 hi, by simp [List.getD_eq_getElem?_getD, hi]⟩

end Go.Proofs.Ytkhkamcmlhmpiaa

/- The form of Euler: the program's euler, the reference's EulerForm and TitsForm. -/
namespace Go.Proofs.Ytkhkamcmlhmpiaa
set_option linter.unusedVariables false
set_option linter.unusedSimpArgs false
open Go.RowKit

/-- a number of a vector of small numbers -/
def smallV (B : Int) (x : List Int) : Prop := ∀ y ∈ x, -B ≤ y ∧ y ≤ B
theorem vx_small {B : Int} {x : List Int} (hB : 0 ≤ B) (h : smallV B x) (i : Nat) : -B ≤ vx x i ∧ vx x i ≤ B := by
  by_cases hi : i < x.length
  · rw [vx, List.getD_eq_getElem?_getD, List.getElem?_eq_getElem hi]; exact h _ (List.getElem_mem hi)
  · rw [vx, List.getD_eq_getElem?_getD, List.getElem?_eq_none (by omega)]; simp; omega
theorem mul_rngB {B a b : Int} (hB : 0 ≤ B) (ha : -B ≤ a ∧ a ≤ B) (hb : -B ≤ b ∧ b ≤ B) : -(B * B) ≤ a * b ∧ a * b ≤ B * B := by
  have h1 := abs_mul (A := B) (B := B) ha hb
  exact h1
theorem eulV_succ (x y : List Int) (k : Nat) : eulV x y (k + 1) = eulV x y k + vx x k * vx y k := rfl
theorem eulA_succ (q : Qv) (x y : List Int) (k : Nat) : eulA q x y (k + 1) = eulA q x y k + vx x (vx q.f k).toNat * vx y (vx q.t k).toNat := rfl
theorem eulV_rng {x y : List Int} (hx : smallV 100 x) (hy : smallV 100 y) : ∀ k : Nat, -(10000 * (k : Int)) ≤ eulV x y k ∧ eulV x y k ≤ 10000 * k
  | 0 => by simp [eulV, sm]
  | k + 1 => by
    have ih := eulV_rng hx hy k
    have h := mul_rngB (B := 100) (by omega) (vx_small (by omega) hx k) (vx_small (by omega) hy k)
    rw [eulV_succ]; omega
theorem eulA_rng {q : Qv} {x y : List Int} (hx : smallV 100 x) (hy : smallV 100 y) : ∀ k : Nat, -(10000 * (k : Int)) ≤ eulA q x y k ∧ eulA q x y k ≤ 10000 * k
  | 0 => by simp [eulA, sm]
  | k + 1 => by
    have ih := eulA_rng (q := q) hx hy k
    have h := mul_rngB (B := 100) (by omega) (vx_small (by omega) hx (vx q.f k).toNat) (vx_small (by omega) hy (vx q.t k).toNat)
    rw [eulA_succ]; omega
theorem eul_rng {q : Qv} (hq : isQ q = true) {x y : List Int} (hx : smallV 100 x) (hy : smallV 100 y) : -200000 ≤ eul q x y ∧ eul q x y ≤ 200000 := by
  have h1 := eulV_rng hx hy q.v.toNat
  have h2 := eulA_rng (q := q) hx hy q.f.length
  have h3 := (isQ_t.1 hq).1
  have h4 := (isQ_t.1 hq).2.2.1
  unfold eul; omega
theorem vx_of {l : List Int} {k : Nat} {x : Int} (h : l[k]? = some x) : vx l k = x := by rw [vx, List.getD_eq_getElem?_getD, h]; rfl

set_option maxHeartbeats 1600000 in
theorem euler_any (u xv yv : Value) (q : Qv) (x y : List Int) (w : World) (hu : QvR w w.heap.size u q) (hx : SlI w w.heap.size xv x) (hy : SlI w w.heap.size yv y) (hq : isQ q = true)
    (lx : x.length = q.v.toNat) (ly : y.length = q.v.toNat) (sx : smallV 100 x) (sy : smallV 100 y) :
    Calls Try.prog 65 #[u, xv, yv] w fun e w' => e = .returned (.int .i64 (eul q x y)) ∧ Below w.heap.size w w' := by
  obtain ⟨A, c, C, d, rfl, hf, ht, hr, _⟩ := hu.open_
  obtain ⟨Ax, cx, rfl, _, _, _, hx⟩ := hx.open_
  obtain ⟨Ay, cy, rfl, _, _, _, hy⟩ := hy.open_
  clear hu
  obtain ⟨hv, hl, h6, hfr, htr⟩ := isQ_t.1 hq
  have kB := Blk.new w 28 #[.int .i64 q.v, .slice A q.f.length c, .slice C q.t.length d]
  have g0 := below_alloc w (.cells #[.int .i64 q.v, .slice A q.f.length c, .slice C q.t.length d] 28)
  have c1 := kB.cell' (i := 1) rfl
  have c2 := kB.cell' (i := 2) rfl
  obtain ⟨W, hW⟩ : ∃ W, w.alloc (.cells #[.int .i64 q.v, .slice A q.f.length c, .slice C q.t.length d] 28) = W := ⟨_, rfl⟩
  rw [hW] at g0 c1 c2
  have hmo : Try.prog.follows .mixedOrders = true := by kernel_rfl
  clear kB
  have HL := Lib.hid hl
  have LX := Lib.hid lx
  have LY := Lib.hid ly
  clear hl lx ly
  go_enter Try.func65, Try.ntmps65
  go_wp2
  clear hW
  go_loopw [7, 14] (fun a i wr => ∃ k m : Nat, k ≤ x.length ∧ i = .int .i64 k ∧ a = .int .i64 (eulV x y k) ∧ wr = W.drewN m) (fun _ i _ => x.length - (intOf i).toNat)
  case atStart => exact ⟨0, 0, Nat.zero_le _, rfl, by simp [eulV, sm], rfl⟩
  case round =>
    obtain ⟨k, m, hk, rfl, rfl, rfl⟩ := hrel
    have hE := eulV_rng sx sy k
    by_cases hlt : k < x.length
    · obtain ⟨b, o, a, rfl, hb, HX, x1, _⟩ := SlI.at_ hx hlt
      have hky : k < y.length := by have := LX.out; have := LY.out; omega
      obtain ⟨b2, o2, a2, rfl, hb2, HY, y1, _⟩ := SlI.at_ (k := k) hy hky
      have x2 := bcell g0 hb x1
      have y2 := bcell g0 hb2 y1
      have hs := eulV_succ x y k
      rw [vx_of HX.out, vx_of HY.out] at hs
      have hp := mul_rngB (B := 100) (by omega) (sx a (List.mem_of_getElem? HX.out)) (sy a2 (List.mem_of_getElem? HY.out))
      obtain ⟨P, hP⟩ : ∃ P, a * a2 = P := ⟨_, rfl⟩
      rw [hP] at hs hp
      have HS := Lib.hid hs
      have hmul : wrap64 (a * a2) = P := by rw [hP]; unfold wrap64; omega
      obtain ⟨E0, hE0⟩ : ∃ E0, eulV x y k = E0 := ⟨_, rfl⟩
      rw [hE0] at hE HS ⊢
      clear hs x1 y1 hE0 hP
      go_wp2
      go_roundw
      case rel => exact ⟨k + 1, _, by omega, by go_num, by rw [HS.out], rfl⟩
      case measure => simp [intOf]; omega
    · obtain rfl : k = x.length := by omega
      have hE := hE
      rw [LX.out] at hE
      have e0 : eulV x y x.length = eulV x y q.v.toNat := by rw [LX.out]
      rw [e0]
      clear e0
      have hlt' : ¬ x.length < x.length := by omega
      obtain ⟨E0, hE0⟩ : ∃ E0, eulV x y q.v.toNat = E0 := ⟨_, rfl⟩
      rw [hE0] at hE ⊢
      have HE0 := Lib.hid hE0
      clear hE0
      go_wp2
      go_loopw [7, 31] (fun a i wr => ∃ k m : Nat, k ≤ q.f.length ∧ i = .int .i64 k ∧ a = .int .i64 (E0 - eulA q x y k) ∧ wr = W.drewN m) (fun _ i _ => q.f.length - (intOf i).toNat)
      case atStart => exact ⟨0, _, Nat.zero_le _, rfl, by simp [eulA, sm], rfl⟩
      case round =>
        obtain ⟨k, m, hk, rfl, rfl, rfl⟩ := hrel
        have hA := eulA_rng (q := q) sx sy k
        by_cases hlt : k < q.f.length
        · obtain ⟨b, o, i, rfl, hb, HF, x1, _⟩ := SlI.at_ hf hlt
          have hkt : k < q.t.length := by have := HL.out; omega
          obtain ⟨b2, o2, j, rfl, hb2, HT, y1, _⟩ := SlI.at_ (k := k) ht hkt
          have ri := hfr i (List.mem_of_getElem? HF.out)
          have rj := htr j (List.mem_of_getElem? HT.out)
          obtain ⟨i', rfl⟩ : ∃ i' : Nat, i = (i' : Int) := ⟨i.toNat, by omega⟩
          obtain ⟨j', rfl⟩ : ∃ j' : Nat, j = (j' : Int) := ⟨j.toNat, by omega⟩
          have hil : i' < x.length := by have := LX.out; omega
          have hjl : j' < y.length := by have := LY.out; omega
          obtain ⟨b3, o3, a, rfl, hb3, HX, x3, _⟩ := SlI.at_ hx hil
          obtain ⟨b4, o4, a2, rfl, hb4, HY, y3, _⟩ := SlI.at_ hy hjl
          have f2 := bcell g0 hb x1
          have t2 := bcell g0 hb2 y1
          have x4 := bcell g0 hb3 x3
          have y4 := bcell g0 hb4 y3
          have hs := eulA_succ q x y k
          rw [vx_of HF.out, vx_of HT.out, Int.toNat_natCast, Int.toNat_natCast, vx_of HX.out, vx_of HY.out] at hs
          have hp := mul_rngB (B := 100) (by omega) (sx a (List.mem_of_getElem? HX.out)) (sy a2 (List.mem_of_getElem? HY.out))
          obtain ⟨P, hP⟩ : ∃ P, a * a2 = P := ⟨_, rfl⟩
          rw [hP] at hs hp
          have HS := Lib.hid hs
          have hmul : wrap64 (a * a2) = P := by rw [hP]; unfold wrap64; omega
          obtain ⟨E1, hE1⟩ : ∃ E1, eulA q x y k = E1 := ⟨_, rfl⟩
          rw [hE1] at hA HS ⊢
          clear hs x1 y1 x3 y3 hE1 hP
          go_wp2_with fail
          go_quiet (fail)
          go_wp2
          go_roundw
          case rel => exact ⟨k + 1, _, by omega, by go_num, by rw [HS.out]; go_num, rfl⟩
          case measure => simp [intOf]; omega
        · obtain rfl : k = q.f.length := by omega
          have hfin : Hid (eul q x y = E0 - eulA q x y q.f.length) := by show _ = _; rw [eul, HE0.out]
          obtain ⟨E1, hE1⟩ : ∃ E1, eulA q x y q.f.length = E1 := ⟨_, rfl⟩
          rw [hE1] at hA hfin ⊢
          clear hE1
          go_wp2
          go_ret
          exact ⟨by rw [hfin.out]; rfl, below_drewN g0 _⟩
end Go.Proofs.Ytkhkamcmlhmpiaa

/- The form of Euler: the reference's EulerForm and TitsForm. -/
namespace Go.Proofs.Ytkhkamcmlhmpiaa
set_option linter.unusedVariables false
set_option linter.unusedSimpArgs false
open Go.RowKit

theorem isNum_len {q : Qv} {x : List Int} (h : isNum q x = true) : x.length = q.v.toNat := by have := (isNum_t.1 h).2.1; omega
theorem isNum_small {q : Qv} {x : List Int} (h : isNum q x = true) : smallV 100 x := (isNum_t.1 h).2.2
set_option maxHeartbeats 1600000 in
theorem eulerForm_any (u xv yv : Value) (q : Qv) (x y : List Int) (w : World) (hu : QvR w w.heap.size u q) (hx : SlI w w.heap.size xv x) (hy : SlI w w.heap.size yv y) (nx : isNum q x = true) (ny : isNum q y = true) :
    Calls Try.prog 61 #[u, xv, yv] w fun e w' => e = .returned (.int .i64 (eul q x y)) ∧ Below w.heap.size w w' := by
  have hu' := hu
  obtain ⟨A, c, C, d, rfl, hf, ht, hr, _⟩ := hu.open_
  obtain ⟨Ax, cx, rfl, _, _, _, hx⟩ := hx.open_
  obtain ⟨Ay, cy, rfl, _, _, _, hy⟩ := hy.open_
  clear hu
  have lx := isNum_len nx
  have ly := isNum_len ny
  have sx := isNum_small nx
  have sy := isNum_small ny
  have hq := (isNum_t.1 nx).1
  obtain ⟨hv, hl, h6, hfr, htr⟩ := isQ_t.1 hq
  have kB := Blk.new w 28 #[.int .i64 q.v, .slice A q.f.length c, .slice C q.t.length d]
  have g0 := below_alloc w (.cells #[.int .i64 q.v, .slice A q.f.length c, .slice C q.t.length d] 28)
  have hq1 := QvR.next g0 hu'
  have hx1 := SlI.next g0 hx
  have hy1 := SlI.next g0 hy
  have HL := Lib.hid hl
  have LX := Lib.hid lx
  have LY := Lib.hid ly
  clear hl lx ly
  go_enter Try.func61, Try.ntmps61
  go_wp2_with fail
  refine (l18Vector_any _ _ q x _ hq1 hx1).mono ?_; rintro e w1 ⟨rfl, hb1⟩
  rw [nx]
  have kB1 := kB.call hb1
  have g1 := bthen g0 hb1
  have hq2 := QvR.next hb1 hq1
  have hy2 := SlI.next hb1 hy1
  have c0 := kB1.cell' (i := 0) rfl
  have c1 := kB1.cell' (i := 1) rfl
  have c2 := kB1.cell' (i := 2) rfl
  clear hq1 hx1 hy1 kB g0 hb1
  go_wp2_with fail
  refine (l18Vector_any _ _ q y _ hq2 hy2).mono ?_; rintro e w2 ⟨rfl, hb2⟩
  rw [ny]
  have kB2 := kB1.call hb2
  have g2 := bthen g1 hb2
  clear c0 c1 c2 hq2 hy2 kB1 g1 hb2
  have c0 := kB2.cell' (i := 0) rfl
  have c1 := kB2.cell' (i := 1) rfl
  have c2 := kB2.cell' (i := 2) rfl
  clear kB2 nx ny
  go_wp2
  go_loopw [7, 8] (fun a i wr => ∃ k m : Nat, k ≤ x.length ∧ i = .int .i64 k ∧ a = .int .i64 (eulV x y k) ∧ wr = w2.drewN m) (fun _ i _ => x.length - (intOf i).toNat)
  case atStart => exact ⟨0, 0, Nat.zero_le _, rfl, by simp [eulV, sm], rfl⟩
  case round =>
    obtain ⟨k, m, hk, rfl, rfl, rfl⟩ := hrel
    have hE := eulV_rng sx sy k
    by_cases hlt : k < x.length
    · have hkv : (k : Int) < q.v := by have := LX.out; omega
      have hky : k < y.length := by have := LX.out; have := LY.out; omega
      obtain ⟨b, o, a, rfl, hb, HX, x1, _⟩ := SlI.at_ hx hlt
      obtain ⟨b2, o2, a2, rfl, hb2, HY, y1, _⟩ := SlI.at_ (k := k) hy hky
      have x2 := bcell g2 hb x1
      have y2 := bcell g2 hb2 y1
      have hs := eulV_succ x y k
      rw [vx_of HX.out, vx_of HY.out] at hs
      have hp := mul_rngB (B := 100) (by omega) (sx a (List.mem_of_getElem? HX.out)) (sy a2 (List.mem_of_getElem? HY.out))
      obtain ⟨P, hP⟩ : ∃ P, a * a2 = P := ⟨_, rfl⟩
      rw [hP] at hs hp
      have HS := Lib.hid hs
      have hmul : wrap64 (a * a2) = P := by rw [hP]; unfold wrap64; omega
      obtain ⟨E0, hE0⟩ : ∃ E0, eulV x y k = E0 := ⟨_, rfl⟩
      rw [hE0] at hE HS ⊢
      clear hs x1 y1 hE0 hP
      go_wp2_with fail
      go_quiet (fail)
      go_wp2
      go_roundw
      case rel => exact ⟨k + 1, _, by omega, by go_num, by rw [HS.out], rfl⟩
      case measure => simp [intOf]; omega
    · obtain rfl : k = x.length := by omega
      have hkv : ¬ (x.length : Int) < q.v := by have := LX.out; omega
      have e0 : eulV x y x.length = eulV x y q.v.toNat := by rw [LX.out]
      rw [LX.out] at hE
      rw [e0]
      clear e0
      obtain ⟨E0, hE0⟩ : ∃ E0, eulV x y q.v.toNat = E0 := ⟨_, rfl⟩
      rw [hE0] at hE ⊢
      have HE0 := Lib.hid hE0
      clear hE0
      go_wp2
      go_loopw [7, 9] (fun a i wr => ∃ k m : Nat, k ≤ q.f.length ∧ i = .int .i64 k ∧ a = .int .i64 (E0 - eulA q x y k) ∧ wr = w2.drewN m) (fun _ i _ => q.f.length - (intOf i).toNat)
      case atStart => exact ⟨0, _, Nat.zero_le _, rfl, by simp [eulA, sm], rfl⟩
      case round =>
        obtain ⟨k, m, hk, rfl, rfl, rfl⟩ := hrel
        have hA := eulA_rng (q := q) sx sy k
        by_cases hlt : k < q.f.length
        · obtain ⟨b, o, i, rfl, hb, HF, x1, _⟩ := SlI.at_ hf hlt
          have hkt : k < q.t.length := by have := HL.out; omega
          obtain ⟨b2, o2, j, rfl, hb2, HT, y1, _⟩ := SlI.at_ (k := k) ht hkt
          have ri := hfr i (List.mem_of_getElem? HF.out)
          have rj := htr j (List.mem_of_getElem? HT.out)
          obtain ⟨i', rfl⟩ : ∃ i' : Nat, i = (i' : Int) := ⟨i.toNat, by omega⟩
          obtain ⟨j', rfl⟩ : ∃ j' : Nat, j = (j' : Int) := ⟨j.toNat, by omega⟩
          have hil : i' < x.length := by have := LX.out; omega
          have hjl : j' < y.length := by have := LY.out; omega
          obtain ⟨b3, o3, a, rfl, hb3, HX, x3, _⟩ := SlI.at_ hx hil
          obtain ⟨b4, o4, a2, rfl, hb4, HY, y3, _⟩ := SlI.at_ hy hjl
          have f2 := bcell g2 hb x1
          have t2 := bcell g2 hb2 y1
          have x4 := bcell g2 hb3 x3
          have y4 := bcell g2 hb4 y3
          have hs := eulA_succ q x y k
          rw [vx_of HF.out, vx_of HT.out, Int.toNat_natCast, Int.toNat_natCast, vx_of HX.out, vx_of HY.out] at hs
          have hp := mul_rngB (B := 100) (by omega) (sx a (List.mem_of_getElem? HX.out)) (sy a2 (List.mem_of_getElem? HY.out))
          obtain ⟨P, hP⟩ : ∃ P, a * a2 = P := ⟨_, rfl⟩
          rw [hP] at hs hp
          have HS := Lib.hid hs
          have hmul : wrap64 (a * a2) = P := by rw [hP]; unfold wrap64; omega
          obtain ⟨E1, hE1⟩ : ∃ E1, eulA q x y k = E1 := ⟨_, rfl⟩
          rw [hE1] at hA HS ⊢
          clear hs x1 y1 x3 y3 hE1 hP
          go_wp2_with fail
          go_quiet (fail)
          go_wp2
          go_roundw
          case rel => exact ⟨k + 1, _, by omega, by go_num, by rw [HS.out]; go_num, rfl⟩
          case measure => simp [intOf]; omega
        · obtain rfl : k = q.f.length := by omega
          have hfin : Hid (eul q x y = E0 - eulA q x y q.f.length) := by show _ = _; rw [eul, HE0.out]
          obtain ⟨E1, hE1⟩ : ∃ E1, eulA q x y q.f.length = E1 := ⟨_, rfl⟩
          rw [hE1] at hA hfin ⊢
          clear hE1
          go_wp2
          go_ret
          exact ⟨by rw [hfin.out]; rfl, below_drewN g2 _⟩
theorem titsForm_any (u xv : Value) (q : Qv) (x : List Int) (w : World) (hu : QvR w w.heap.size u q) (hx : SlI w w.heap.size xv x) (nx : isNum q x = true) :
    Calls Try.prog 71 #[u, xv] w fun e w' => e = .returned (.int .i64 (eul q x x)) ∧ Below w.heap.size w w' := by
  obtain ⟨A, c, C, d, e0, _⟩ := hu.open_
  subst e0
  obtain ⟨Ax, cx, rfl, _, _, _, hx⟩ := hx.open_
  have g0 := below_alloc w (.cells #[.int .i64 q.v, .slice A q.f.length c, .slice C q.t.length d] 28)
  have h1 := hu.next g0
  have h2 := SlI.next g0 hx
  clear hu hx
  go_enter Try.func71, Try.ntmps71
  go_wp2_with fail
  refine (eulerForm_any _ _ _ q x x _ h1 h2 h2 nx nx).mono ?_; rintro e w1 ⟨rfl, hb1⟩
  go_wp2
  go_ret
  exact ⟨rfl, bthen g0 hb1⟩
end Go.Proofs.Ytkhkamcmlhmpiaa

/- The closure of the unit vectors under reflections, sorted by insertion: plain. -/
namespace Go.Proofs.Ytkhkamcmlhmpiaa
set_option linter.unusedVariables false
set_option linter.unusedSimpArgs false
open Go.RowKit

theorem refl_bil {q : Qv} (hk : kindQ q = 1) {x : List Int} (h : isRt q x) {v : Nat} (hv : v < q.v.toNat) : bil q.v.toNat (ent q q.f.length) (vx (reflL q x v)) (vx (reflL q x v)) = 2 := by
  have hvl : v < x.length := by have := h.len; omega
  have ey : ∀ i, vx (reflL q x v) i = mvF (vx x) v (sm q.v.toNat fun b => ent q q.f.length v b * vx x b) i := fun i => by rw [vx_refl _ _ _ hvl, h.len]
  rw [bil_congr (fun _ _ _ _ => rfl) (fun a _ => ey a) (fun a _ => ey a), bil_mv (ent_symm q) (fin_G hk).diag hv, h.two hk]
  obtain ⟨c, hc⟩ : ∃ c, (sm q.v.toNat fun b => ent q q.f.length v b * vx x b) = c := ⟨_, rfl⟩
  rw [hc]
  have : 2 * c * c = 2 * (c * c) := Int.mul_assoc _ _ _
  grind
theorem vx_le {x : List Int} {c : Int} (h : ∀ i, i < x.length → -c ≤ vx x i ∧ vx x i ≤ c) : ∀ y ∈ x, -c ≤ y ∧ y ≤ c := by
  intro y hy
  obtain ⟨i, hi, rfl⟩ := List.mem_iff_getElem.1 hy
  have := h i hi
  simpa [vx, List.getD_eq_getElem?_getD, hi] using this
theorem refl_le {q : Qv} (hk : kindQ q = 1) {x : List Int} (h : isRt q x) {v : Nat} (hv : v < q.v.toNat) : ∀ y ∈ reflL q x v, -2 ≤ y ∧ y ≤ 2 :=
  vx_le (c := 2) fun i hi => (fin_G hk).le2 (refl_bil hk h hv) (by rw [reflL_length, h.len] at hi; exact hi)
theorem refl_num {q : Qv} (hk : kindQ q = 1) {x : List Int} (h : isRt q x) {v : Nat} (hv : v < q.v.toNat) : isNum q (reflL q x v) = true :=
  isNum_t.2 ⟨fin_isQ hk, by rw [reflL_length, h.len]; omega, fun y hy => by have := refl_le hk h hv y hy; omega⟩
theorem isRt.num {q : Qv} (hk : kindQ q = 1) {x : List Int} (h : isRt q x) : isNum q x = true :=
  isNum_t.2 ⟨fin_isQ hk, by rw [h.len]; have := (isQ_t.1 (fin_isQ hk)).1; omega, vx_le (c := 100) fun i hi => by have := h.le2 hk hi; omega⟩
theorem isRt.le {q : Qv} (hk : kindQ q = 1) {x : List Int} (h : isRt q x) : ∀ y ∈ x, 0 ≤ y ∧ y ≤ 2 := by
  intro y hy
  obtain ⟨i, hi, rfl⟩ := List.mem_iff_getElem.1 hy
  have := h.le2 hk hi
  simpa [vx, List.getD_eq_getElem?_getD, hi] using this

structure ClOk (q : Qv) (s : List (List Int)) (i v : Nat) : Prop where
  nd : s.Nodup
  rt : ∀ x ∈ s, isRt q x
  uni : ∀ w, w < q.v.toNat → uniV q.v.toNat w ∈ s
  cl : ∀ j x, s[j]? = some x → ∀ w, w < q.v.toNat → (j < i ∨ (j = i ∧ w < v)) → 0 ≤ (reflL q x w).getD w 0 → eul q (reflL q x w) (reflL q x w) = 1 → reflL q x w ∈ s
theorem ClOk.len {q : Qv} (hk : kindQ q = 1) {s : List (List Int)} {i v : Nat} (h : ClOk q s i v) : s.length ≤ 20 := rt_20 hk s h.nd h.rt
theorem ClOk.add {q : Qv} {s : List (List Int)} {i v : Nat} {x : List Int} (h : ClOk q s i v) (hx : s[i]? = some x) (hv : v < q.v.toNat) (h0 : 0 ≤ (reflL q x v).getD v 0) (hn : reflL q x v ∉ s) (h1 : eul q (reflL q x v) (reflL q x v) = 1) :
    ClOk q (s ++ [reflL q x v]) i (v + 1) := by
  have hr : isRt q (reflL q x v) := isRt_refl (h.rt x (List.mem_of_getElem? hx)) hv h0 h1
  have hi := lt_of_some hx
  refine ⟨?_, fun y hy => ?_, fun w hw => List.mem_append_left _ (h.uni w hw), fun j y hy w hw hj a b => ?_⟩
  · rw [List.nodup_append]
    refine ⟨h.nd, by simp, fun a ha b hb => ?_⟩
    rw [List.mem_singleton] at hb
    subst hb
    rintro rfl
    exact hn ha
  · rcases List.mem_append.1 hy with hy | hy
    · exact h.rt y hy
    · rw [List.mem_singleton] at hy; subst hy; exact hr
  · rw [List.getElem?_append_left (by omega)] at hy
    by_cases e : j = i ∧ w = v
    · obtain ⟨rfl, rfl⟩ := e
      rw [hx] at hy
      injection hy with hy
      subst hy
      simp
    · exact List.mem_append_left _ (h.cl j y hy w hw (by omega) a b)
theorem ClOk.skip {q : Qv} {s : List (List Int)} {i v : Nat} {x : List Int} (h : ClOk q s i v) (hx : s[i]? = some x) (hn : 0 ≤ (reflL q x v).getD v 0 → eul q (reflL q x v) (reflL q x v) = 1 → reflL q x v ∈ s) : ClOk q s i (v + 1) := by
  refine ⟨h.nd, h.rt, h.uni, fun j y hy w hw hj a b => ?_⟩
  by_cases e : j = i ∧ w = v
  · obtain ⟨rfl, rfl⟩ := e
    rw [hx] at hy
    injection hy with hy
    subst hy
    exact hn a b
  · exact h.cl j y hy w hw (by omega) a b
theorem ClOk.next {q : Qv} {s : List (List Int)} {i : Nat} (h : ClOk q s i q.v.toNat) : ClOk q s (i + 1) 0 :=
  ⟨h.nd, h.rt, h.uni, fun j y hy w hw hj a b => h.cl j y hy w hw (by omega) a b⟩
theorem ClOk.fin {q : Qv} (hk : kindQ q = 1) {s : List (List Int)} {i : Nat} (h : ClOk q s i 0) (hi : s.length ≤ i) (x : List Int) : x ∈ s ↔ isRt q x := by
  refine ⟨h.rt x, fun hx => rt_all hk (fun y => y ∈ s) h.uni (fun y v hy _ hv a b => ?_) (sumL x).toNat x hx (by omega)⟩
  obtain ⟨j, hj⟩ := List.mem_iff_getElem?.1 hy
  exact h.cl j y hj v hv (by have := lt_of_some hj; omega) a b
def unis (V k : Nat) : List (List Int) := (List.range k).map (uniV V)
theorem unis_succ (V k : Nat) : unis V (k + 1) = unis V k ++ [uniV V k] := by simp [unis, List.range_succ]
theorem unis_length (V k : Nat) : (unis V k).length = k := by simp [unis]
theorem uniV_set (V v : Nat) : (List.replicate V (0 : Int)).set v 1 = uniV V v := by
  apply List.ext_getElem (by simp [uniV])
  intro i h1 h2
  simp [uniV, List.getElem_set]
  grind
theorem clOk_0 {q : Qv} (hk : kindQ q = 1) : ClOk q (unis q.v.toNat q.v.toNat) 0 0 := by
  refine ⟨?_, fun x hx => ?_, fun w hw => List.mem_map.2 ⟨w, List.mem_range.2 hw, rfl⟩, fun j y hy w hw hj => by omega⟩
  · refine nodup_mapF List.nodup_range fun a ha b hb e => ?_
    rw [List.mem_range] at ha hb
    have h1 := vx_uni (n := q.v.toNat) (v := a) ha
    rw [e, vx_uni ha] at h1
    simpa using h1
  · obtain ⟨v, hv, rfl⟩ := List.mem_map.1 hx
    exact isRt_uni hk (List.mem_range.1 hv)
/-! ### sorted by insertion -/
structure SrtI (s : List (List Int)) (i : Nat) (L : List (List Int)) : Prop where
  st : L.Pairwise fun a b => ltR a b = true
  mem : ∀ y, y ∈ L ↔ y ∈ s.take i
  len : L.length = i
theorem srtI_0 (s : List (List Int)) : SrtI s 0 [] := ⟨List.Pairwise.nil, fun y => by simp, rfl⟩
theorem SrtI.step {s L : List (List Int)} {i k n : Nat} {x : List Int} (h : SrtI s i L) (hd : s.Nodup) (hl : ∀ y ∈ s, y.length = n) (hx : s[i]? = some x) (hk : k ≤ L.length)
    (h1 : k = 0 ∨ ∃ y, L[k - 1]? = some y ∧ ltR x y = false) (h2 : ∀ j y, k ≤ j → L[j]? = some y → ltR x y = true) : SrtI s (i + 1) (L.take k ++ [x] ++ L.drop k) := by
  have hxs := List.mem_of_getElem? hx
  have hn : x ∉ L := by
    intro e
    rw [h.mem] at e
    obtain ⟨j, hj⟩ := List.mem_iff_getElem?.1 e
    rw [List.getElem?_take] at hj
    split at hj
    · rename_i hji
      have a := lt_of_some hx
      have b := lt_of_some hj
      rw [List.getElem?_eq_getElem a] at hx
      rw [List.getElem?_eq_getElem b] at hj
      injection hx with hx
      injection hj with hj
      exact (List.pairwise_iff_getElem.1 hd) j i b a hji (hj.trans hx.symm)
    · cases hj
  have hL : ∀ y ∈ L, y.length = n := fun y hy => hl y (List.mem_of_mem_take ((h.mem y).1 hy))
  have hst := h.st
  refine ⟨?_, fun y => ?_, ?_⟩
  · rw [List.append_assoc, List.pairwise_append]
    have h3 : ∀ y ∈ L.drop k, ltR x y = true := fun y hy => by
      obtain ⟨j, hj⟩ := List.mem_iff_getElem?.1 hy
      rw [List.getElem?_drop] at hj
      exact h2 _ y (by omega) hj
    have h4 : ∀ y ∈ L.take k, ltR y x = true := fun y hy => by
      obtain ⟨j, hj⟩ := List.mem_iff_getElem?.1 hy
      rw [List.getElem?_take] at hj
      split at hj
      · rename_i hjk
        rcases h1 with h1 | ⟨z, hz, hzx⟩
        · omega
        · have h5 : ltR z x = true := ltR_total (by rw [hl x hxs, hL z (List.mem_of_getElem? hz)]) (fun e => hn (e ▸ List.mem_of_getElem? hz)) hzx
          by_cases e : j = k - 1
          · subst e; rw [hj] at hz; injection hz with hz; rw [hz]; exact h5
          · have a := lt_of_some hj
            have b := lt_of_some hz
            have h6 := (List.pairwise_iff_getElem.1 hst) j (k - 1) a b (by omega)
            rw [List.getElem?_eq_getElem a] at hj
            rw [List.getElem?_eq_getElem b] at hz
            injection hz with hz
            injection hj with hj
            rw [hz, hj] at h6
            exact ltR_trans h6 h5
      · cases hj
    refine ⟨hst.sublist (List.take_sublist _ _), ?_, fun a ha b hb => ?_⟩
    · rw [List.singleton_append, List.pairwise_cons]
      exact ⟨h3, hst.sublist (List.drop_sublist _ _)⟩
    · rcases List.mem_cons.1 hb with rfl | hb
      · exact h4 a ha
      · exact ltR_trans (h4 a ha) (h3 b hb)
  · have e : y ∈ L ↔ y ∈ L.take k ∨ y ∈ L.drop k := by rw [← List.mem_append, List.take_append_drop]
    have h5 := h.mem y
    rw [e] at h5
    rw [take_snoc hx]
    simp only [List.mem_append, List.mem_singleton]
    grind
  · have := h.len
    simp; omega
theorem SrtI.fin {q : Qv} (hk : kindQ q = 1) {s L : List (List Int)} {i : Nat} (h : SrtI s i L) (hi : s.length ≤ i) (hm : ∀ x, x ∈ s ↔ isRt q x) : L = rtsQ q :=
  rts_eq hk h.st fun x => by rw [h.mem, List.take_of_length_le hi, hm]
def rtsA (q : Qv) : List (List Int) × Bool := if kindQ q = 1 then (rtsQ q, true) else ([], false)
end Go.Proofs.Ytkhkamcmlhmpiaa
