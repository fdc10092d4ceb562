/- Words of my own for memory: slices that read as lists, whatever the element; structs of ints and slices. No program's numbers stand here. -/
import Derived.Test.YtjhllgldllbaaaaChecked
import Derived.WalkKit
import Derived.WalkLawsBesides
import Derived.WalkSpells
import Derived.RegionTactic
import Derived.Outline
import Derived.BigQuiet
import Derived.Deep.QuietTactic
import Derived.Deep.RegionHeld3
import Derived.StillTailTactics
import Derived.Deep.DeepCutAuto
import Derived.Deep.DeepMust
import Derived.Deep.DeepFit
import Derived.Lib.Hide
import Derived.Laws.StructEq
import Derived.Laws.OwnMore
import Derived.Laws.MakeOwn
import Derived.Laws.Rows
namespace Go.Proofs.Ytjhllgldllbaaaa
set_option linter.unusedVariables false
set_option linter.unusedSimpArgs false
open Go.RowKit

/-- An int of Go. -/
def I64 (x : Int) : Prop := -9223372036854775808 ≤ x ∧ x ≤ 9223372036854775807

/-- A slice value whose elements (sz cells each) read, each by R, as the list xs; its cells lie below block B. -/
def SlG {α : Type} (sz : Nat) (R : World → Nat → Nat → Nat → α → Prop) (w : World) (B : Nat) (val : Value) (xs : List α) : Prop :=
  ∃ A c, val = .slice A xs.length c ∧ xs.length ≤ c ∧ c ≤ 9223372036854775807 ∧ xs.length ≤ 17592186044416 ∧
    (0 < xs.length → ∃ b o, A = some ⟨b, o, none⟩ ∧ b < B ∧ ∀ j x, xs[j]? = some x → R w B b (o + j * sz) x)

theorem SlG.mono {α : Type} {sz : Nat} {R : World → Nat → Nat → Nat → α → Prop} {w w' : World} {B B' : Nat} {val : Value} {xs : List α} (hR : ∀ b o x, b < B → R w B b o x → R w' B' b o x) (hB : B ≤ B')
    (h : SlG sz R w B val xs) : SlG sz R w' B' val xs := by
  obtain ⟨A, c, e, h1, h2, h3, h4⟩ := h
  refine ⟨A, c, e, h1, h2, h3, fun hp => ?_⟩
  obtain ⟨b, o, e2, hb, hc⟩ := h4 hp
  exact ⟨b, o, e2, by omega, fun j x hx => hR _ _ _ hb (hc j x hx)⟩

/-- an int in a cell -/
def RI (w : World) (_B b o : Nat) (x : Int) : Prop := w.cell? ⟨b, o, none⟩ = some (.int .i64 x) ∧ I64 x
abbrev SlI := SlG 1 RI
abbrev Bar := Int × Int × Int
def RBar (w : World) (_B b o : Nat) (x : Bar) : Prop := (w.cell? ⟨b, o, none⟩ = some (.int .i64 x.1) ∧ w.cell? ⟨b, o + 1, none⟩ = some (.int .i64 x.2.1) ∧ w.cell? ⟨b, o + 2, none⟩ = some (.int .i64 x.2.2)) ∧ I64 x.1 ∧ I64 x.2.1 ∧ I64 x.2.2
abbrev SlB := SlG 3 RBar
def RSlI (w : World) (B b o : Nat) (l : List Int) : Prop := ∃ v, w.cell? ⟨b, o, none⟩ = some v ∧ SlI w B v l
abbrev SlII := SlG 1 RSlI

theorem bcell {B : Nat} {w w' : World} (h : Below B w w') {b o : Nat} {v : Value} (hb : b < B) (hc : w.cell? ⟨b, o, none⟩ = some v) : w'.cell? ⟨b, o, none⟩ = some v :=
  (h.cell (p := ⟨b, o, none⟩) hb).trans hc

theorem SlI.below {w w' : World} {B : Nat} {v : Value} {l : List Int} (hb : Below B w w') (h : SlI w B v l) : SlI w' B v l :=
  SlG.mono (fun _ _ _ hlt ⟨hc, hx⟩ => ⟨bcell hb hlt hc, hx⟩) (Nat.le_refl _) h
theorem SlI.more {w : World} {B B' : Nat} {v : Value} {l : List Int} (hB : B ≤ B') (h : SlI w B v l) : SlI w B' v l :=
  SlG.mono (B := B) (B' := B') (fun _ _ _ _ h => h) hB h
theorem SlB.below {w w' : World} {B : Nat} {v : Value} {l : List Bar} (hb : Below B w w') (h : SlB w B v l) : SlB w' B v l :=
  SlG.mono (fun _ _ _ hlt ⟨⟨h0, h1, h2⟩, hx⟩ => ⟨⟨bcell hb hlt h0, bcell hb hlt h1, bcell hb hlt h2⟩, hx⟩) (Nat.le_refl _) h
theorem SlB.more {w : World} {B B' : Nat} {v : Value} {l : List Bar} (hB : B ≤ B') (h : SlB w B v l) : SlB w B' v l :=
  SlG.mono (B := B) (B' := B') (fun _ _ _ _ h => h) hB h
theorem SlII.below {w w' : World} {B : Nat} {v : Value} {l : List (List Int)} (hb : Below B w w') (h : SlII w B v l) : SlII w' B v l :=
  SlG.mono (fun _ _ _ hlt ⟨u, hc, hu⟩ => ⟨u, bcell hb hlt hc, SlI.below hb hu⟩) (Nat.le_refl _) h
theorem SlII.more {w : World} {B B' : Nat} {v : Value} {l : List (List Int)} (hB : B ≤ B') (h : SlII w B v l) : SlII w B' v l :=
  SlG.mono (fun _ _ _ _ ⟨u, hc, hu⟩ => ⟨u, hc, SlI.more hB hu⟩) hB h

/-- From world to world behind a call. -/
theorem SlI.next {w w' : World} {v : Value} {l : List Int} (hb : Below w.heap.size w w') (h : SlI w w.heap.size v l) : SlI w' w'.heap.size v l := SlI.more hb.size (SlI.below hb h)
theorem SlB.next {w w' : World} {v : Value} {l : List Bar} (hb : Below w.heap.size w w') (h : SlB w w.heap.size v l) : SlB w' w'.heap.size v l := SlB.more hb.size (SlB.below hb h)
theorem SlII.next {w w' : World} {v : Value} {l : List (List Int)} (hb : Below w.heap.size w w') (h : SlII w w.heap.size v l) : SlII w' w'.heap.size v l := SlII.more hb.size (SlII.below hb h)
/-- Two calls, one behind the other. -/
theorem bthen {w w' w'' : World} (h : Below w.heap.size w w') (k : Below w'.heap.size w' w'') : Below w.heap.size w w'' := h.trans (k.mono h.size)

/-- What a walk takes out of a slice in a round: the address, the element, its cells. -/
theorem SlI.at_ {w : World} {B c : Nat} {A : Option Addr} {xs : List Int} {k : Nat} (h : SlI w B (.slice A xs.length c) xs) (hk : k < xs.length) :
    ∃ b o x, A = some ⟨b, o, none⟩ ∧ b < B ∧ Hid (xs[k]? = some x) ∧ w.cell? ⟨b, o + k, none⟩ = some (.int .i64 x) ∧ -9223372036854775808 ≤ x ∧ x ≤ 9223372036854775807 := by
  obtain ⟨A', c', e, h1, h2, h3, h4⟩ := h
  injection e with e1 e2 e3; subst e1
  obtain ⟨b, o, rfl, hb, hc⟩ := h4 (by omega)
  have hx : xs[k]? = some xs[k] := List.getElem?_eq_getElem hk
  obtain ⟨h0, hr⟩ := hc k _ hx
  exact ⟨b, o, xs[k], rfl, hb, hx, by simpa using h0, hr.1, hr.2⟩
theorem SlB.at_ {w : World} {B c : Nat} {A : Option Addr} {xs : List Bar} {k : Nat} (h : SlB w B (.slice A xs.length c) xs) (hk : k < xs.length) :
    ∃ b o x y z, A = some ⟨b, o, none⟩ ∧ b < B ∧ Hid (xs[k]? = some (x, y, z)) ∧ w.cell? ⟨b, o + k * 3, none⟩ = some (.int .i64 x) ∧ w.cell? ⟨b, o + k * 3 + 1, none⟩ = some (.int .i64 y) ∧ w.cell? ⟨b, o + k * 3 + 2, none⟩ = some (.int .i64 z) ∧
      (-9223372036854775808 ≤ x ∧ x ≤ 9223372036854775807) ∧ (-9223372036854775808 ≤ y ∧ y ≤ 9223372036854775807) ∧ (-9223372036854775808 ≤ z ∧ z ≤ 9223372036854775807) := by
  obtain ⟨A', c', e, h1, h2, h3, h4⟩ := h
  injection e with e1 e2 e3; subst e1
  obtain ⟨b, o, rfl, hb, hc⟩ := h4 (by omega)
  have hx : xs[k]? = some xs[k] := List.getElem?_eq_getElem hk
  obtain ⟨⟨c0, c1, c2⟩, r0, r1, r2⟩ := hc k _ hx
  exact ⟨b, o, xs[k].1, xs[k].2.1, xs[k].2.2, rfl, hb, hx, c0, c1, c2, r0, r1, r2⟩
theorem SlII.at_ {w : World} {B c : Nat} {A : Option Addr} {xs : List (List Int)} {k : Nat} (h : SlII w B (.slice A xs.length c) xs) (hk : k < xs.length) :
    ∃ b o l A' c', A = some ⟨b, o, none⟩ ∧ b < B ∧ Hid (xs[k]? = some l) ∧ w.cell? ⟨b, o + k, none⟩ = some (.slice A' l.length c') ∧ SlI w B (.slice A' l.length c') l := by
  obtain ⟨A', c', e, h1, h2, h3, h4⟩ := h
  injection e with e1 e2 e3; subst e1
  obtain ⟨b, o, rfl, hb, hc⟩ := h4 (by omega)
  have hx : xs[k]? = some xs[k] := List.getElem?_eq_getElem hk
  obtain ⟨v, hv, hs⟩ := hc k _ hx
  have hs' := hs
  obtain ⟨A2, c2, rfl, _⟩ := hs
  exact ⟨b, o, xs[k], A2, c2, rfl, hb, hx, by simpa using hv, hs'⟩

/-- What a walk takes of a slice at its head. -/
theorem SlG.open_ {α : Type} {sz : Nat} {R : World → Nat → Nat → Nat → α → Prop} {w : World} {B : Nat} {val : Value} {xs : List α} (h : SlG sz R w B val xs) :
    ∃ A c, val = .slice A xs.length c ∧ xs.length ≤ c ∧ c ≤ 9223372036854775807 ∧ xs.length ≤ 17592186044416 ∧ SlG sz R w B (.slice A xs.length c) xs := by
  have h' := h
  obtain ⟨A, c, rfl, h1, h2, h3, _⟩ := h
  exact ⟨A, c, rfl, h1, h2, h3, h'⟩

theorem SlG.nil {α : Type} {sz : Nat} {R : World → Nat → Nat → Nat → α → Prop} {w : World} {B : Nat} : SlG sz R w B (.slice none 0 0) ([] : List α) :=
  ⟨none, 0, rfl, by simp, by omega, by simp, fun h => absurd h (by simp)⟩

theorem take_snoc {α : Type} {l : List α} {k : Nat} {x : α} (h : l[k]? = some x) : l.take (k + 1) = l.take k ++ [x] := by
  rw [List.take_add_one, h]; rfl
theorem lt_of_some {α : Type} {l : List α} {k : Nat} {x : α} (h : l[k]? = some x) : k < l.length := (List.getElem?_eq_some_iff.1 h).1

theorem below_drewN {B : Nat} {a w : World} (h : Below B a w) (n : Nat) : Below B a (w.drewN n) := ⟨h.os, h.tape, h.output, h.size, h.block⟩
theorem drewN_below (B : Nat) (w : World) (n : Nat) : Below B w (w.drewN n) := below_drewN (Below.refl _ _) n

/-- The worlds that a region may come to whose calls make memory of their own: below the heap's size all is as it was. -/
def InB (w : World) : Type := { W : World // Below w.heap.size w W }
instance instNonemptyInB (w : World) : Nonempty (InB w) := ⟨⟨w, Below.refl _ _⟩⟩
def InB.val {w : World} (s : InB w) : World := s.1
theorem InB.cell {w : World} {b o : Nat} {v : Value} (hb : b < w.heap.size) (hc : w.cell? ⟨b, o, none⟩ = some v) (s : InB w) : s.val.cell? ⟨b, o, none⟩ = some v := bcell s.2 hb hc
theorem InB.below {w : World} (s : InB w) : Below w.heap.size w s.val := s.2
theorem InB.size {w : World} (s : InB w) : w.heap.size ≤ s.val.heap.size := s.2.size
theorem wp_region_inB {P : Program} {id : Nat} {Q : Exit → Act → World → Prop} {a : Act} {w : World} {l : List Oper} (hm : P.follows .mixedOrders = true) (hB : Region.lexB .any l.toArray = true)
    (h : wpQuiet P l.toArray (fun w' => ∃ s : InB w, w' = s.val) (fun a' => ∀ w', (∃ s : InB w, w' = s.val) → Q .normal a' w') l a) : (Code.region id l.toArray true).wp P Q a w :=
  wp_region_quiet (C := fun w' => ∃ s : InB w, w' = s.val) hm hB ⟨⟨{ w with drawn := w.drawn + 1 }, drewN_below _ _ 1⟩, rfl⟩ (by simpa using h)
/-- A callee that makes memory of its own and hands back a plain value. -/
theorem InB.call {P : Program} {f : FuncId} {args : Array Value} {w : World} {s : InB w} {v : Value} (h : Calls P f args s.val fun e w' => e = .returned v ∧ Below s.val.heap.size s.val w') :
    Calls P f args s.val fun e w'' => e = .returned v ∧ ∃ s' : InB w, w'' = s'.val :=
  h.mono fun _ w'' ⟨he, hb⟩ => ⟨he, ⟨⟨w'', s.2.trans (hb.mono s.2.size)⟩, rfl⟩⟩
theorem InB.call_same {P : Program} {f : FuncId} {args : Array Value} {w : World} {s : InB w} {v : Value} (h : Calls P f args s.val fun e w' => e = .returned v ∧ w' = s.val) :
    Calls P f args s.val fun e w'' => e = .returned v ∧ ∃ s' : InB w, w'' = s'.val :=
  h.mono fun _ w'' ⟨he, hb⟩ => ⟨he, ⟨s, hb⟩⟩

/-! ### A block of the call's own, known whole -/
def Blk (w : World) (g : Nat) (t : TypeId) (cs : Array Value) : Prop := w.heap[g]? = some (.cells cs t (0, 0))
section
variable {w w' : World} {g : Nat} {t : TypeId} {cs : Array Value}
theorem Blk.lt (h : Blk w g t cs) : g < w.heap.size := by
  rcases Nat.lt_or_ge g w.heap.size with hlt | hge
  · exact hlt
  · unfold Blk at h; rw [Array.getElem?_eq_none hge] at h; cases h
theorem Blk.cell (h : Blk w g t cs) (i : Nat) : w.cell? ⟨g, i, none⟩ = cs[i]? := cell_of_row w g i cs t (0, 0) h
theorem Blk.cell' (h : Blk w g t cs) {i : Nat} {v : Value} (hv : cs[i]? = some v) : w.cell? ⟨g, i, none⟩ = some v := (h.cell i).trans hv
theorem Blk.call (h : Blk w g t cs) (hb : Below w.heap.size w w') : Blk w' g t cs := (hb.block g h.lt).trans h
theorem Blk.frozen (h : Blk w g t cs) (i : Nat) : w.frozen? ⟨g, i, none⟩ = false := by
  unfold Blk at h
  simp [World.frozen?, h]
theorem Blk.new (w : World) (t : TypeId) (cs : Array Value) : Blk (w.alloc (.cells cs t)) w.heap.size t cs := heap_alloc_new w _
theorem Blk.drewN (h : Blk w g t cs) (n : Nat) : Blk (w.drewN n) g t cs := h
theorem Blk.alloc (h : Blk w g t cs) (o : Obj) : Blk (w.alloc o) g t cs := (Below.heap_alloc w o g h.lt).trans h
theorem Blk.set_ (h : Blk w g t cs) (i : Nat) (u : Value) : Blk (w.setCell ⟨g, i, none⟩ u) g t (cs.setIfInBounds i u) := by
  unfold Blk at h ⊢
  simp [World.setCell, Array.getElem?_modify, h]
theorem Blk.far (h : Blk w g t cs) {p : Addr} (hp : g ≠ p.block) (u : Value) : Blk (w.setCell p u) g t cs := (Below.heap_setCell w p u g hp).trans h
theorem Blk.below {B : Nat} (h : Blk w g t cs) (hb : Below B w w') (hg : g < B) : Blk w' g t cs := (hb.block g hg).trans h
theorem Blk.grown {row : Option Nat} (h : Blk w g t cs) (hb : w.grownBy w' row) (hg : some g ≠ row) : Blk w' g t cs := (hb.block g h.lt hg).trans h
theorem Blk.own (h : Blk w g t cs) {base n cap size : Nat} (hb : base ≤ g) (hnc : n ≤ cap) (hm : cap ≤ maxLen) (hs : cs.size = cap * size) :
    w.ownsRow base t size (.slice (some ⟨g, 0, none⟩) n cap) n (cs.toList.take (n * size)) :=
  ⟨by rw [List.length_take, Array.length_toList, hs]; exact Nat.min_eq_left (Nat.mul_le_mul_right _ hnc), .inr ⟨g, cap, cs, rfl, hb, h, hnc, hm, hs, rfl⟩⟩
end

/-- The cells of a slice that make lays: z, n times. -/
def mkCells (z : Value) (n : Nat) : Array Value := madeCells z.cells n
theorem mkCells_size (z : Value) (n : Nat) : (mkCells z n).size = n := by simp [mkCells, madeCells]
theorem run_mk {P : Program} {t e : TypeId} {i : TypeInfo} {z : Value} (ht : P.underlying t = some (.slice e)) (hi : P.info? e = some i) (hz : i.zero = some z) {n : Nat} (hb : i.bytes * n ≤ 281474976710656) (h63 : n ≤ 9223372036854775807) (W : World) :
    (Instr.makeSlice t (.int .i64 (n : Int)) (.int .i64 (n : Int))).run P W = .ok (.slice (some ⟨W.heap.size, 0, none⟩) n n) (W.alloc (.cells (mkCells z (n * i.size)) e)) := by
  have hb' : (i.bytes : Int) * (n : Int) ≤ 281474976710656 := by
    have h : ((i.bytes * n : Nat) : Int) ≤ 281474976710656 := by omega
    rwa [Int.natCast_mul] at h
  have hr := run_make (P := P) W t e i z ht hi hz .i64 .i64 n n (by omega) (by omega) hb' (by omega)
  simp only [Int.toNat_natCast] at hr
  exact hr

/-! ### What a mark may turn: the blocks from lo on, below hi -/
structure Chg (lo hi : Nat) (w w' : World) : Prop where
  os : w'.os = w.os
  tape : w'.tape = w.tape
  output : w'.output = w.output
  size : w.heap.size ≤ w'.heap.size
  block : ∀ k, k < w.heap.size → (k < lo ∨ hi ≤ k) → w'.heap[k]? = w.heap[k]?
theorem Chg.refl (lo hi : Nat) (w : World) : Chg lo hi w w := ⟨rfl, rfl, rfl, Nat.le_refl _, fun _ _ _ => rfl⟩
theorem Chg.trans {lo hi : Nat} {a b c : World} (h : Chg lo hi a b) (k : Chg lo hi b c) : Chg lo hi a c :=
  ⟨k.os.trans h.os, k.tape.trans h.tape, k.output.trans h.output, Nat.le_trans h.size k.size, fun i hi' hne => (k.block i (Nat.lt_of_lt_of_le hi' h.size) hne).trans (h.block i hi' hne)⟩
theorem Chg.of_below {lo hi : Nat} {w w' : World} (h : Below w.heap.size w w') : Chg lo hi w w' := ⟨h.os, h.tape, h.output, h.size, fun k hk _ => h.block k hk⟩
theorem Chg.wider {lo hi lo' hi' : Nat} {w w' : World} (h : Chg lo hi w w') (h1 : lo' ≤ lo) (h2 : hi ≤ hi') : Chg lo' hi' w w' :=
  ⟨h.os, h.tape, h.output, h.size, fun k hk hne => h.block k hk (by omega)⟩
theorem Chg.below {lo hi B : Nat} {w w' : World} (h : Chg lo hi w w') (hB : B ≤ lo) (hs : B ≤ w.heap.size) : Below B w w' := ⟨h.os, h.tape, h.output, h.size, fun k hk => h.block k (by omega) (by omega)⟩
theorem Blk.chg {w w' : World} {g lo hi : Nat} {t : TypeId} {cs : Array Value} (h : Blk w g t cs) (hc : Chg lo hi w w') (hg : g < lo ∨ hi ≤ g) : Blk w' g t cs := (hc.block g h.lt hg).trans h
theorem below_alloc (w : World) (o : Obj) : Below w.heap.size w (w.alloc o) := (Below.refl _ _).alloc (Nat.le_refl _) _

/-- A stop for the walk: 'go_wp2_with (at_builtin; refine Hold.stop ?_)' stands at the next append; 'unfold Hold' goes on. -/
def Hold (p : Prop) : Prop := p
theorem Hold.stop {p : Prop} (h : Hold p) : p := h
theorem unhide {p : Prop} (h : Hid p) : p := h
theorem drew_below (w : World) : Below w.heap.size w w.drew := (Below.refl _ _).drew
end Go.Proofs.Ytjhllgldllbaaaa
