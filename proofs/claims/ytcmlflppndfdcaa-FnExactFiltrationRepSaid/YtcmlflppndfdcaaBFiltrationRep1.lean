/- FnExactFiltrationRep: for every argument the program's function returns what the reference's returns. Part 1 of 11 of the proof: Base, Ints, App, Quiv, Kit, Kit2, Kit3, Small, Find, Interval. No condition. -/
import Derived.Test.YtcmlflppndfdcaaChecked
import Derived.WalkKit
import Derived.WalkLawsBesides
import Derived.WalkSpells
import Derived.RegionTactic
import Derived.Outline
import Derived.BigQuiet
import Derived.Deep.QuietTactic
import Derived.Deep.RegionHeld3
import Derived.StillTailTactics
import Derived.Deep.DeepCutAuto
import Derived.Deep.DeepMust
import Derived.Deep.DeepFit
import Derived.Lib.Hide
import Derived.Laws.StructEq
import Derived.Laws.OwnMore
import Derived.Laws.MakeOwn
import Derived.Laws.Rows
import Derived.Maps.AppendAt
import Derived.Deep.AppendLies
/- Words of my own for memory: slices that read as lists, whatever the element; structs of ints and slices. No program's numbers stand here. -/
namespace Go.Proofs.Ytcmlflppndfdcaa
set_option linter.unusedVariables false
set_option linter.unusedSimpArgs false
open Go.RowKit

/-- An int of Go. -/
def I64 (x : Int) : Prop := -9223372036854775808 ≤ x ∧ x ≤ 9223372036854775807

/-- A slice value whose elements (sz cells each) read, each by R, as the list xs; its cells lie below block B. -/
def SlG {α : Type} (sz : Nat) (R : World → Nat → Nat → Nat → α → Prop) (w : World) (B : Nat) (val : Value) (xs : List α) : Prop :=
  ∃ A c, val = .slice A xs.length c ∧ xs.length ≤ c ∧ c ≤ 9223372036854775807 ∧ xs.length ≤ 17592186044416 ∧
    (0 < xs.length → ∃ b o, A = some ⟨b, o, none⟩ ∧ b < B ∧ ∀ j x, xs[j]? = some x → R w B b (o + j * sz) x)

theorem SlG.mono {α : Type} {sz : Nat} {R : World → Nat → Nat → Nat → α → Prop} {w w' : World} {B B' : Nat} {val : Value} {xs : List α} (hR : ∀ b o x, b < B → R w B b o x → R w' B' b o x) (hB : B ≤ B')
    (h : SlG sz R w B val xs) : SlG sz R w' B' val xs := by
  obtain ⟨A, c, e, h1, h2, h3, h4⟩ := h
  refine ⟨A, c, e, h1, h2, h3, fun hp => ?_⟩
  obtain ⟨b, o, e2, hb, hc⟩ := h4 hp
  exact ⟨b, o, e2, by omega, fun j x hx => hR _ _ _ hb (hc j x hx)⟩

/-- an int in a cell -/
def RI (w : World) (_B b o : Nat) (x : Int) : Prop := w.cell? ⟨b, o, none⟩ = some (.int .i64 x) ∧ I64 x
abbrev SlI := SlG 1 RI
abbrev Bar := Int × Int × Int
def RBar (w : World) (_B b o : Nat) (x : Bar) : Prop := (w.cell? ⟨b, o, none⟩ = some (.int .i64 x.1) ∧ w.cell? ⟨b, o + 1, none⟩ = some (.int .i64 x.2.1) ∧ w.cell? ⟨b, o + 2, none⟩ = some (.int .i64 x.2.2)) ∧ I64 x.1 ∧ I64 x.2.1 ∧ I64 x.2.2
abbrev SlB := SlG 3 RBar
def RSlI (w : World) (B b o : Nat) (l : List Int) : Prop := ∃ v, w.cell? ⟨b, o, none⟩ = some v ∧ SlI w B v l
abbrev SlII := SlG 1 RSlI

theorem bcell {B : Nat} {w w' : World} (h : Below B w w') {b o : Nat} {v : Value} (hb : b < B) (hc : w.cell? ⟨b, o, none⟩ = some v) : w'.cell? ⟨b, o, none⟩ = some v :=
  (h.cell (p := ⟨b, o, none⟩) hb).trans hc

theorem SlI.below {w w' : World} {B : Nat} {v : Value} {l : List Int} (hb : Below B w w') (h : SlI w B v l) : SlI w' B v l :=
  SlG.mono (fun _ _ _ hlt ⟨hc, hx⟩ => ⟨bcell hb hlt hc, hx⟩) (Nat.le_refl _) h
theorem SlI.more {w : World} {B B' : Nat} {v : Value} {l : List Int} (hB : B ≤ B') (h : SlI w B v l) : SlI w B' v l :=
  SlG.mono (B := B) (B' := B') (fun _ _ _ _ h => h) hB h
theorem SlB.below {w w' : World} {B : Nat} {v : Value} {l : List Bar} (hb : Below B w w') (h : SlB w B v l) : SlB w' B v l :=
  SlG.mono (fun _ _ _ hlt ⟨⟨h0, h1, h2⟩, hx⟩ => ⟨⟨bcell hb hlt h0, bcell hb hlt h1, bcell hb hlt h2⟩, hx⟩) (Nat.le_refl _) h
theorem SlB.more {w : World} {B B' : Nat} {v : Value} {l : List Bar} (hB : B ≤ B') (h : SlB w B v l) : SlB w B' v l :=
  SlG.mono (B := B) (B' := B') (fun _ _ _ _ h => h) hB h
theorem SlII.below {w w' : World} {B : Nat} {v : Value} {l : List (List Int)} (hb : Below B w w') (h : SlII w B v l) : SlII w' B v l :=
  SlG.mono (fun _ _ _ hlt ⟨u, hc, hu⟩ => ⟨u, bcell hb hlt hc, SlI.below hb hu⟩) (Nat.le_refl _) h
theorem SlII.more {w : World} {B B' : Nat} {v : Value} {l : List (List Int)} (hB : B ≤ B') (h : SlII w B v l) : SlII w B' v l :=
  SlG.mono (fun _ _ _ _ ⟨u, hc, hu⟩ => ⟨u, hc, SlI.more hB hu⟩) hB h

/-- From world to world behind a call. -/
theorem SlI.next {w w' : World} {v : Value} {l : List Int} (hb : Below w.heap.size w w') (h : SlI w w.heap.size v l) : SlI w' w'.heap.size v l := SlI.more hb.size (SlI.below hb h)
theorem SlB.next {w w' : World} {v : Value} {l : List Bar} (hb : Below w.heap.size w w') (h : SlB w w.heap.size v l) : SlB w' w'.heap.size v l := SlB.more hb.size (SlB.below hb h)
theorem SlII.next {w w' : World} {v : Value} {l : List (List Int)} (hb : Below w.heap.size w w') (h : SlII w w.heap.size v l) : SlII w' w'.heap.size v l := SlII.more hb.size (SlII.below hb h)
/-- Two calls, one behind the other. -/
theorem bthen {w w' w'' : World} (h : Below w.heap.size w w') (k : Below w'.heap.size w' w'') : Below w.heap.size w w'' := h.trans (k.mono h.size)

/-- What a walk takes out of a slice in a round: the address, the element, its cells. -/
theorem SlI.at_ {w : World} {B c : Nat} {A : Option Addr} {xs : List Int} {k : Nat} (h : SlI w B (.slice A xs.length c) xs) (hk : k < xs.length) :
    ∃ b o x, A = some ⟨b, o, none⟩ ∧ b < B ∧ Hid (xs[k]? = some x) ∧ w.cell? ⟨b, o + k, none⟩ = some (.int .i64 x) ∧ -9223372036854775808 ≤ x ∧ x ≤ 9223372036854775807 := by
  obtain ⟨A', c', e, h1, h2, h3, h4⟩ := h
  injection e with e1 e2 e3; subst e1
  obtain ⟨b, o, rfl, hb, hc⟩ := h4 (by omega)
  have hx : xs[k]? = some xs[k] := List.getElem?_eq_getElem hk
  obtain ⟨h0, hr⟩ := hc k _ hx
  exact ⟨b, o, xs[k], rfl, hb, hx, by simpa using h0, hr.1, hr.2⟩
theorem SlB.at_ {w : World} {B c : Nat} {A : Option Addr} {xs : List Bar} {k : Nat} (h : SlB w B (.slice A xs.length c) xs) (hk : k < xs.length) :
    ∃ b o x y z, A = some ⟨b, o, none⟩ ∧ b < B ∧ Hid (xs[k]? = some (x, y, z)) ∧ w.cell? ⟨b, o + k * 3, none⟩ = some (.int .i64 x) ∧ w.cell? ⟨b, o + k * 3 + 1, none⟩ = some (.int .i64 y) ∧ w.cell? ⟨b, o + k * 3 + 2, none⟩ = some (.int .i64 z) ∧
      (-9223372036854775808 ≤ x ∧ x ≤ 9223372036854775807) ∧ (-9223372036854775808 ≤ y ∧ y ≤ 9223372036854775807) ∧ (-9223372036854775808 ≤ z ∧ z ≤ 9223372036854775807) := by
  obtain ⟨A', c', e, h1, h2, h3, h4⟩ := h
  injection e with e1 e2 e3; subst e1
  obtain ⟨b, o, rfl, hb, hc⟩ := h4 (by omega)
  have hx : xs[k]? = some xs[k] := List.getElem?_eq_getElem hk
  obtain ⟨⟨c0, c1, c2⟩, r0, r1, r2⟩ := hc k _ hx
  exact ⟨b, o, xs[k].1, xs[k].2.1, xs[k].2.2, rfl, hb, hx, c0, c1, c2, r0, r1, r2⟩
theorem SlII.at_ {w : World} {B c : Nat} {A : Option Addr} {xs : List (List Int)} {k : Nat} (h : SlII w B (.slice A xs.length c) xs) (hk : k < xs.length) :
    ∃ b o l A' c', A = some ⟨b, o, none⟩ ∧ b < B ∧ Hid (xs[k]? = some l) ∧ w.cell? ⟨b, o + k, none⟩ = some (.slice A' l.length c') ∧ SlI w B (.slice A' l.length c') l := by
  obtain ⟨A', c', e, h1, h2, h3, h4⟩ := h
  injection e with e1 e2 e3; subst e1
  obtain ⟨b, o, rfl, hb, hc⟩ := h4 (by omega)
  have hx : xs[k]? = some xs[k] := List.getElem?_eq_getElem hk
  obtain ⟨v, hv, hs⟩ := hc k _ hx
  have hs' := hs
  obtain ⟨A2, c2, rfl, _⟩ := hs
  exact ⟨b, o, xs[k], A2, c2, rfl, hb, hx, by simpa using hv, hs'⟩

/-- What a walk takes of a slice at its head. -/
theorem SlG.open_ {α : Type} {sz : Nat} {R : World → Nat → Nat → Nat → α → Prop} {w : World} {B : Nat} {val : Value} {xs : List α} (h : SlG sz R w B val xs) :
    ∃ A c, val = .slice A xs.length c ∧ xs.length ≤ c ∧ c ≤ 9223372036854775807 ∧ xs.length ≤ 17592186044416 ∧ SlG sz R w B (.slice A xs.length c) xs := by
  have h' := h
  obtain ⟨A, c, rfl, h1, h2, h3, _⟩ := h
  exact ⟨A, c, rfl, h1, h2, h3, h'⟩

theorem SlG.nil {α : Type} {sz : Nat} {R : World → Nat → Nat → Nat → α → Prop} {w : World} {B : Nat} : SlG sz R w B (.slice none 0 0) ([] : List α) :=
  ⟨none, 0, rfl, by simp, by omega, by simp, fun h => absurd h (by simp)⟩

theorem take_snoc {α : Type} {l : List α} {k : Nat} {x : α} (h : l[k]? = some x) : l.take (k + 1) = l.take k ++ [x] := by
  rw [List.take_add_one, h]; rfl
theorem lt_of_some {α : Type} {l : List α} {k : Nat} {x : α} (h : l[k]? = some x) : k < l.length := (List.getElem?_eq_some_iff.1 h).1

theorem below_drewN {B : Nat} {a w : World} (h : Below B a w) (n : Nat) : Below B a (w.drewN n) := ⟨h.os, h.tape, h.output, h.size, h.block⟩
theorem drewN_below (B : Nat) (w : World) (n : Nat) : Below B w (w.drewN n) := below_drewN (Below.refl _ _) n

/-- The worlds that a region may come to whose calls make memory of their own: below the heap's size all is as it was. -/
def InB (w : World) : Type := { W : World // Below w.heap.size w W }
instance instNonemptyInB (w : World) : Nonempty (InB w) := ⟨⟨w, Below.refl _ _⟩⟩
def InB.val {w : World} (s : InB w) : World := s.1
theorem InB.cell {w : World} {b o : Nat} {v : Value} (hb : b < w.heap.size) (hc : w.cell? ⟨b, o, none⟩ = some v) (s : InB w) : s.val.cell? ⟨b, o, none⟩ = some v := bcell s.2 hb hc
theorem InB.below {w : World} (s : InB w) : Below w.heap.size w s.val := s.2
theorem InB.size {w : World} (s : InB w) : w.heap.size ≤ s.val.heap.size := s.2.size
theorem wp_region_inB {P : Program} {id : Nat} {Q : Exit → Act → World → Prop} {a : Act} {w : World} {l : List Oper} (hm : P.follows .mixedOrders = true) (hB : Region.lexB .any l.toArray = true)
    (h : wpQuiet P l.toArray (fun w' => ∃ s : InB w, w' = s.val) (fun a' => ∀ w', (∃ s : InB w, w' = s.val) → Q .normal a' w') l a) : (Code.region id l.toArray true).wp P Q a w :=
  wp_region_quiet (C := fun w' => ∃ s : InB w, w' = s.val) hm hB ⟨⟨{ w with drawn := w.drawn + 1 }, drewN_below _ _ 1⟩, rfl⟩ (by simpa using h)
/-- A callee that makes memory of its own and hands back a plain value. -/
theorem InB.call {P : Program} {f : FuncId} {args : Array Value} {w : World} {s : InB w} {v : Value} (h : Calls P f args s.val fun e w' => e = .returned v ∧ Below s.val.heap.size s.val w') :
    Calls P f args s.val fun e w'' => e = .returned v ∧ ∃ s' : InB w, w'' = s'.val :=
  h.mono fun _ w'' ⟨he, hb⟩ => ⟨he, ⟨⟨w'', s.2.trans (hb.mono s.2.size)⟩, rfl⟩⟩
theorem InB.call_same {P : Program} {f : FuncId} {args : Array Value} {w : World} {s : InB w} {v : Value} (h : Calls P f args s.val fun e w' => e = .returned v ∧ w' = s.val) :
    Calls P f args s.val fun e w'' => e = .returned v ∧ ∃ s' : InB w, w'' = s'.val :=
  h.mono fun _ w'' ⟨he, hb⟩ => ⟨he, ⟨s, hb⟩⟩

/-! ### A block of the call's own, known whole -/
def Blk (w : World) (g : Nat) (t : TypeId) (cs : Array Value) : Prop := w.heap[g]? = some (.cells cs t (0, 0))
section
variable {w w' : World} {g : Nat} {t : TypeId} {cs : Array Value}
theorem Blk.lt (h : Blk w g t cs) : g < w.heap.size := by
  rcases Nat.lt_or_ge g w.heap.size with hlt | hge
  · exact hlt
  · unfold Blk at h; rw [Array.getElem?_eq_none hge] at h; cases h
theorem Blk.cell (h : Blk w g t cs) (i : Nat) : w.cell? ⟨g, i, none⟩ = cs[i]? := cell_of_row w g i cs t (0, 0) h
theorem Blk.cell' (h : Blk w g t cs) {i : Nat} {v : Value} (hv : cs[i]? = some v) : w.cell? ⟨g, i, none⟩ = some v := (h.cell i).trans hv
theorem Blk.call (h : Blk w g t cs) (hb : Below w.heap.size w w') : Blk w' g t cs := (hb.block g h.lt).trans h
theorem Blk.frozen (h : Blk w g t cs) (i : Nat) : w.frozen? ⟨g, i, none⟩ = false := by
  unfold Blk at h
  simp [World.frozen?, h]
theorem Blk.new (w : World) (t : TypeId) (cs : Array Value) : Blk (w.alloc (.cells cs t)) w.heap.size t cs := heap_alloc_new w _
theorem Blk.drewN (h : Blk w g t cs) (n : Nat) : Blk (w.drewN n) g t cs := h
theorem Blk.alloc (h : Blk w g t cs) (o : Obj) : Blk (w.alloc o) g t cs := (Below.heap_alloc w o g h.lt).trans h
theorem Blk.set_ (h : Blk w g t cs) (i : Nat) (u : Value) : Blk (w.setCell ⟨g, i, none⟩ u) g t (cs.setIfInBounds i u) := by
  unfold Blk at h ⊢
  simp [World.setCell, Array.getElem?_modify, h]
theorem Blk.far (h : Blk w g t cs) {p : Addr} (hp : g ≠ p.block) (u : Value) : Blk (w.setCell p u) g t cs := (Below.heap_setCell w p u g hp).trans h
theorem Blk.below {B : Nat} (h : Blk w g t cs) (hb : Below B w w') (hg : g < B) : Blk w' g t cs := (hb.block g hg).trans h
theorem Blk.grown {row : Option Nat} (h : Blk w g t cs) (hb : w.grownBy w' row) (hg : some g ≠ row) : Blk w' g t cs := (hb.block g h.lt hg).trans h
theorem Blk.own (h : Blk w g t cs) {base n cap size : Nat} (hb : base ≤ g) (hnc : n ≤ cap) (hm : cap ≤ maxLen) (hs : cs.size = cap * size) :
    w.ownsRow base t size (.slice (some ⟨g, 0, none⟩) n cap) n (cs.toList.take (n * size)) :=
  ⟨by rw [List.length_take, Array.length_toList, hs]; exact Nat.min_eq_left (Nat.mul_le_mul_right _ hnc), .inr ⟨g, cap, cs, rfl, hb, h, hnc, hm, hs, rfl⟩⟩
end

/-- The cells of a slice that make lays: z, n times. -/
def mkCells (z : Value) (n : Nat) : Array Value := madeCells z.cells n
theorem mkCells_size (z : Value) (n : Nat) : (mkCells z n).size = n := by simp [mkCells, madeCells]
theorem run_mk {P : Program} {t e : TypeId} {i : TypeInfo} {z : Value} (ht : P.underlying t = some (.slice e)) (hi : P.info? e = some i) (hz : i.zero = some z) {n : Nat} (hb : i.bytes * n ≤ 281474976710656) (h63 : n ≤ 9223372036854775807) (W : World) :
    (Instr.makeSlice t (.int .i64 (n : Int)) (.int .i64 (n : Int))).run P W = .ok (.slice (some ⟨W.heap.size, 0, none⟩) n n) (W.alloc (.cells (mkCells z (n * i.size)) e)) := by
  have hb' : (i.bytes : Int) * (n : Int) ≤ 281474976710656 := by
    have h : ((i.bytes * n : Nat) : Int) ≤ 281474976710656 := by omega
    rwa [Int.natCast_mul] at h
  have hr := run_make (P := P) W t e i z ht hi hz .i64 .i64 n n (by omega) (by omega) hb' (by omega)
  simp only [Int.toNat_natCast] at hr
  exact hr

/-! ### What a mark may turn: the blocks from lo on, below hi -/
structure Chg (lo hi : Nat) (w w' : World) : Prop where
  os : w'.os = w.os
  tape : w'.tape = w.tape
  output : w'.output = w.output
  size : w.heap.size ≤ w'.heap.size
  block : ∀ k, k < w.heap.size → (k < lo ∨ hi ≤ k) → w'.heap[k]? = w.heap[k]?
theorem Chg.refl (lo hi : Nat) (w : World) : Chg lo hi w w := ⟨rfl, rfl, rfl, Nat.le_refl _, fun _ _ _ => rfl⟩
theorem Chg.trans {lo hi : Nat} {a b c : World} (h : Chg lo hi a b) (k : Chg lo hi b c) : Chg lo hi a c :=
  ⟨k.os.trans h.os, k.tape.trans h.tape, k.output.trans h.output, Nat.le_trans h.size k.size, fun i hi' hne => (k.block i (Nat.lt_of_lt_of_le hi' h.size) hne).trans (h.block i hi' hne)⟩
theorem Chg.of_below {lo hi : Nat} {w w' : World} (h : Below w.heap.size w w') : Chg lo hi w w' := ⟨h.os, h.tape, h.output, h.size, fun k hk _ => h.block k hk⟩
theorem Chg.wider {lo hi lo' hi' : Nat} {w w' : World} (h : Chg lo hi w w') (h1 : lo' ≤ lo) (h2 : hi ≤ hi') : Chg lo' hi' w w' :=
  ⟨h.os, h.tape, h.output, h.size, fun k hk hne => h.block k hk (by omega)⟩
theorem Chg.below {lo hi B : Nat} {w w' : World} (h : Chg lo hi w w') (hB : B ≤ lo) (hs : B ≤ w.heap.size) : Below B w w' := ⟨h.os, h.tape, h.output, h.size, fun k hk => h.block k (by omega) (by omega)⟩
theorem Blk.chg {w w' : World} {g lo hi : Nat} {t : TypeId} {cs : Array Value} (h : Blk w g t cs) (hc : Chg lo hi w w') (hg : g < lo ∨ hi ≤ g) : Blk w' g t cs := (hc.block g h.lt hg).trans h
theorem below_alloc (w : World) (o : Obj) : Below w.heap.size w (w.alloc o) := (Below.refl _ _).alloc (Nat.le_refl _) _

/-- A stop for the walk: 'go_wp2_with (at_builtin; refine Hold.stop ?_)' stands at the next append; 'unfold Hold' goes on. -/
def Hold (p : Prop) : Prop := p
theorem Hold.stop {p : Prop} (h : Hold p) : p := h
theorem unhide {p : Prop} (h : Hid p) : p := h
theorem drew_below (w : World) : Below w.heap.size w w.drew := (Below.refl _ _).drew
end Go.Proofs.Ytcmlflppndfdcaa

/- Lists of ints: the law's copies, comparisons, marks. -/
namespace Go.Proofs.Ytcmlflppndfdcaa
set_option linter.unusedVariables false
set_option linter.unusedSimpArgs false
open Go.RowKit

theorem infoInt : (Try.prog.info? 3).map (fun i => (i.zero, i.size, i.bytes)) = some (some (.int .i64 0), 1, 8) := by kernel_rfl

/-- What is left of a purse behind n elements. -/
def szLeft (left : Int) (n : Nat) : Int := if left < n then -1 else left - n
theorem szIntS_any (A : Option Addr) (n c : Nat) (left : Int) (w : World) (hn : n ≤ 17592186044416) (h0 : 0 ≤ left) (h1 : left ≤ 1048576) :
    Calls Try.prog 32 #[.slice A n c, .int .i64 left] w fun e w' => e = .returned (.int .i64 (szLeft left n)) ∧ w' = w := by
  by_cases h : left < n
  · have h' : left - n < 0 := by omega
    go_enter Try.func32, Try.ntmps32
    go_wp2
    go_ret
    exact ⟨by rw [szLeft, if_pos h]; rfl, rfl⟩
  · have h' : ¬ left - n < 0 := by omega
    go_enter Try.func32, Try.ntmps32
    go_wp2
    go_ret
    exact ⟨by rw [szLeft, if_neg (by omega)]; rfl, rfl⟩

/-- The first k elements of a row of ints are laid. -/
def IntCs (cs : Array Value) (xs : List Int) (k : Nat) : Prop := cs.size = xs.length ∧ ∀ j x, j < k → xs[j]? = some x → cs[j]? = some (.int .i64 x)
theorem IntCs.step {cs : Array Value} {xs : List Int} {k : Nat} {x : Int} (h : IntCs cs xs k) (hx : xs[k]? = some x) : IntCs (cs.setIfInBounds k (.int .i64 x)) xs (k + 1) := by
  obtain ⟨hs, h⟩ := h
  have hk := lt_of_some hx
  refine ⟨by simpa using hs, fun j u hj hu => ?_⟩
  by_cases e : j = k
  · subst e
    rw [hx] at hu
    injection hu with hu
    subst hu
    simp [Array.getElem?_setIfInBounds]; omega
  · rw [Array.getElem?_setIfInBounds, if_neg (by omega)]
    exact h j u (by omega) hu

/-- A row of ints of the call's own. -/
def OwnI (w : World) (base : Nat) (v : Value) (l : List Int) : Prop :=
  w.ownsRow base 3 1 v l.length (l.map (Value.int .i64)) ∧ l.length ≤ 17592186044416 ∧ ∀ x ∈ l, I64 x
theorem OwnI.nil (w : World) (base : Nat) : OwnI w base (.slice none 0 0) [] := ⟨World.ownsRow_nil _ _ _ _, by simp, by simp⟩
theorem OwnI.rd {w : World} {base : Nat} {v : Value} {l : List Int} (h : OwnI w base v l) : SlI w w.heap.size v l := by
  obtain ⟨h1, h2, h3⟩ := h
  rcases h1.2 with ⟨rfl, h0⟩ | ⟨g, cap, cur, rfl, _, hg, hnc, hcm, hcs, htake⟩
  · obtain rfl : l = [] := List.eq_nil_of_length_eq_zero h0
    exact SlG.nil
  · refine ⟨_, _, rfl, hnc, by simp only [maxLen] at hcm; omega, h2, fun hp => ⟨g, 0, rfl, (Array.getElem?_eq_some_iff.1 hg).1, fun j x hj => ⟨?_, h3 x (List.mem_of_getElem? hj)⟩⟩⟩
    have hc := h1.cellAt j (by have := lt_of_some hj; omega)
    rw [show 0 + j * 1 = j by omega, hc]
    simp [hj]
theorem OwnI.below {w w' : World} {base : Nat} {v : Value} {l : List Int} (h : OwnI w base v l) (hb : Below w.heap.size w w') : OwnI w' base v l :=
  ⟨h.1.kept (row := none) ⟨hb.os, hb.tape, hb.output, hb.size, fun k hk _ => hb.block k hk⟩ (by cases v.ownBlock <;> simp), h.2⟩
theorem OwnI.lower {w : World} {base base' : Nat} {v : Value} {l : List Int} (h : OwnI w base v l) (hb : base' ≤ base) : OwnI w base' v l := by
  obtain ⟨⟨h0, h1⟩, h2⟩ := h
  refine ⟨⟨h0, ?_⟩, h2⟩
  rcases h1 with h1 | ⟨g, cap, cur, e, hg, rest⟩
  · exact .inl h1
  · exact .inr ⟨g, cap, cur, e, by omega, rest⟩
/-- a block that is known whole is a row of the call's own -/
theorem OwnI.of_blk {w : World} {base g : Nat} {cs : Array Value} {xs : List Int} (hb : Blk w g 3 cs) (hg : base ≤ g) (hcs : IntCs cs xs xs.length) (hn : xs.length ≤ 17592186044416) (hr : ∀ x ∈ xs, I64 x) :
    OwnI w base (.slice (some ⟨g, 0, none⟩) xs.length xs.length) xs := by
  refine ⟨⟨by simp, .inr ⟨g, xs.length, cs, rfl, hg, hb, Nat.le_refl _, by simp only [maxLen]; omega, by rw [hcs.1]; omega, ?_⟩⟩, hn, hr⟩
  apply List.ext_getElem?
  intro j
  by_cases hj : j < xs.length
  · rw [List.getElem?_take, if_pos (by omega), Array.getElem?_toList, hcs.2 j _ hj (List.getElem?_eq_getElem hj)]
    simp [hj]
  · rw [List.getElem?_take, if_neg (by omega)]
    simp [Nat.le_of_not_lt hj]
theorem SlI.i64 {w : World} {B : Nat} {v : Value} {l : List Int} (h : SlI w B v l) : ∀ x ∈ l, I64 x := by
  obtain ⟨A, c, _, _, _, _, h4⟩ := h
  intro x hx
  obtain ⟨j, hj⟩ := List.getElem?_of_mem hx
  obtain ⟨_, _, _, _, hr⟩ := h4 (by have := lt_of_some hj; omega)
  exact (hr j x hj).2

set_option maxHeartbeats 400000 in
theorem toIntS_own (u : Value) (xs : List Int) (w : World) (hu : SlI w w.heap.size u xs) (hn : xs.length ≤ 1048576) :
    Calls Try.prog 38 #[u] w fun e w' => ∃ v, e = .returned v ∧ OwnI w' w.heap.size v xs ∧ Below w.heap.size w w' := by
  obtain ⟨A, c, rfl, _, _, _, hx⟩ := hu.open_
  clear hu
  obtain ⟨i0, hi, hz0, hz1, hz2⟩ := info_parts infoInt
  have hmk := run_mk (P := Try.prog) Try.underlying22 hi hz0 (n := xs.length) (by rw [hz2]; omega) (by omega)
  rw [hz1] at hmk
  clear hi hz0 hz1 hz2
  go_enter Try.func38, Try.ntmps38
  go_wp2
  go_loopw [4] (fun i wr => ∃ (k : Nat) (cs : Array Value), k ≤ xs.length ∧ i = .int .i64 k ∧ Below w.heap.size w wr ∧ Blk wr w.heap.size 3 cs ∧ IntCs cs xs k) (fun i _ => xs.length - (intOf i).toNat)
  case atStart => exact ⟨0, _, Nat.zero_le _, rfl, (Below.refl _ _).alloc (Nat.le_refl _) _, Blk.new _ _ _, by rw [mkCells_size], fun j x h => absurd h (by omega)⟩
  case round =>
    obtain ⟨k, cs, hk, rfl, hbel, hblk, hcs⟩ := hrel
    by_cases hlt : k < xs.length
    · obtain ⟨b, o, x, rfl, hb, HX, c1, _⟩ := SlI.at_ hx hlt
      have d1 := bcell hbel hb c1
      have f0 := hblk.frozen
      obtain ⟨v0, e0⟩ : ∃ v0, wr.cell? ⟨w.heap.size, k, none⟩ = some v0 := by rw [hblk.cell]; have := hcs.1; exact ⟨_, Array.getElem?_eq_getElem (by omega)⟩
      clear c1 hx
      go_wp2
      go_roundw
      case rel => exact ⟨k + 1, _, by omega, by go_num, hbel.setCell (by simp) _, hblk.set_ _ _, hcs.step HX.out⟩
      case measure => simp [intOf]; omega
    · go_wp2
      go_ret
      obtain rfl : k = xs.length := by omega
      exact ⟨_, rfl, OwnI.of_blk hblk (Nat.le_refl _) hcs (by omega) (SlI.i64 hx), hbel⟩
theorem toIntS_any (u : Value) (xs : List Int) (w : World) (hu : SlI w w.heap.size u xs) (hn : xs.length ≤ 1048576) :
    Calls Try.prog 38 #[u] w fun e w' => ∃ v, e = .returned v ∧ SlI w' w'.heap.size v xs ∧ Below w.heap.size w w' :=
  (toIntS_own u xs w hu hn).mono fun _ _ ⟨v, h1, h2, h3⟩ => ⟨v, h1, h2.rd, h3⟩

set_option maxHeartbeats 400000 in
theorem eqIntS_any (u v : Value) (xs ys : List Int) (w : World) (hu : SlI w w.heap.size u xs) (hv : SlI w w.heap.size v ys) :
    Calls Try.prog 41 #[u, v] w fun e w' => e = .returned (.bool (decide (xs = ys))) ∧ Below w.heap.size w w' := by
  obtain ⟨A, c, rfl, _, _, hn, hx⟩ := hu.open_
  obtain ⟨C, d, rfl, _, _, hm, hy⟩ := hv.open_
  clear hu hv
  by_cases hnm : xs.length = ys.length
  · have heq : ((xs.length : Int) != ys.length) = false := by rw [bne_eq_false_iff_eq]; omega
    have HN := Lib.hid hnm
    clear hnm
    go_enter Try.func41, Try.ntmps41
    go_wp2
    go_loopw [5] (fun i wr => ∃ k q : Nat, k ≤ xs.length ∧ i = .int .i64 k ∧ wr = w.drewN q ∧ Hid (xs.take k = ys.take k)) (fun i _ => xs.length - (intOf i).toNat)
    case atStart => exact ⟨0, 0, Nat.zero_le _, rfl, rfl, rfl⟩
    case round =>
      obtain ⟨k, q, hk, rfl, rfl, hxy⟩ := hrel
      by_cases hlt : k < xs.length
      · have hlt' : k < ys.length := by have := HN.out; omega
        obtain ⟨b, o, x, rfl, hb, HX, c1, _⟩ := SlI.at_ hx hlt
        obtain ⟨b', o', x', rfl, hb', HX', c1', _⟩ := SlI.at_ hy hlt'
        clear hx hy
        by_cases hE : x = x'
        · subst hE
          go_wp2
          go_quiet (fail)
          go_wp2
          go_roundw
          case rel =>
            refine ⟨k + 1, q + nq, by omega, by go_num, rfl, ?_⟩
            show _ = _
            rw [take_snoc HX.out, take_snoc HX'.out, hxy.out]
          case measure => simp [intOf]; omega
        · have hne : (x != x') = true := by simpa using hE
          have hxy' : Hid (xs ≠ ys) := by
            rintro rfl
            have h2 := HX.out
            rw [HX'.out] at h2
            exact hE (by injection h2 with h2; exact h2.symm)
          clear hE
          go_wp2
          go_quiet (fail)
          go_wp2
          go_ret
          exact ⟨by rw [decide_eq_false hxy'.out]; rfl, below_drewN (drewN_below _ _ _) _⟩
      · go_wp2
        go_ret
        refine ⟨?_, drewN_below _ _ _⟩
        have h1 := hxy.out
        rw [List.take_of_length_le (by omega), List.take_of_length_le (by have := HN.out; omega)] at h1
        simp [h1]
  · have hne : ((xs.length : Int) != ys.length) = true := by rw [bne_iff_ne]; omega
    go_enter Try.func41, Try.ntmps41
    go_wp2
    go_ret
    refine ⟨?_, Below.refl _ _⟩
    rw [decide_eq_false (by rintro rfl; omega)]; rfl

/-- Marks: k, k + 1, .. -/
def mkI (k : Int) (n : Nat) : List Int := (List.range n).map fun i : Nat => k + (i : Int)
theorem mkI_length (k : Int) (n : Nat) : (mkI k n).length = n := by simp [mkI]
theorem mkI_get {k : Int} {n j : Nat} (h : j < n) : (mkI k n)[j]? = some (k + j) := by simp [mkI, h]
theorem mkI_mem {k x : Int} {n : Nat} (h : x ∈ mkI k n) : k ≤ x ∧ x < k + n := by
  simp only [mkI, List.mem_map, List.mem_range] at h
  obtain ⟨i, hi, rfl⟩ := h
  omega
theorem mk_set (k : Int) (l : List Int) (j : Nat) (hj : j < l.length) :
    (((mkI k j).map (Value.int .i64) ++ (l.map (Value.int .i64)).drop j).set j (.int .i64 (k + j))) = (mkI k (j + 1)).map (Value.int .i64) ++ (l.map (Value.int .i64)).drop (j + 1) := by
  apply List.ext_getElem?
  intro i
  rw [List.getElem?_set]
  by_cases e : j = i
  · subst e
    rw [if_pos rfl, if_pos (by simp [mkI_length]; omega), List.getElem?_append_left (by simp [mkI_length])]
    rw [List.getElem?_map, mkI_get (by omega)]; rfl
  · rw [if_neg e]
    by_cases hi : i < j
    · rw [List.getElem?_append_left (by simp [mkI_length, hi]), List.getElem?_append_left (by simp [mkI_length]; omega)]
      rw [List.getElem?_map, List.getElem?_map, mkI_get hi, mkI_get (by omega)]
    · rw [List.getElem?_append_right (by simp [mkI_length]; omega), List.getElem?_append_right (by simp [mkI_length]; omega)]
      simp only [List.length_map, mkI_length, List.getElem?_drop]
      congr 1
      omega

set_option maxHeartbeats 400000 in
theorem markIntS_any (v : Value) (l : List Int) (k : Int) (base : Nat) (w : World) (hv : OwnI w base v l) (h0 : 0 ≤ k) (h1 : k ≤ 1152921504606846976) :
    Calls Try.prog 44 #[v, .int .i64 k] w fun e w' => e = .returned (.int .i64 (k + l.length)) ∧ OwnI w' base v (mkI k l.length) ∧ w.grownBy w' v.ownBlock := by
  obtain ⟨ho, hn, hr⟩ := hv
  have ho' := ho
  rcases ho.2 with ⟨rfl, hl0⟩ | ⟨g, cap, cur, rfl, hbg, hgg, hnc, hcm, _⟩
  · obtain rfl : l = [] := List.eq_nil_of_length_eq_zero hl0
    go_enter Try.func44, Try.ntmps44
    go_wp2
    refine wp_loop_rounds 1 ?_
    rw [rounds_succ]
    go_wp2
    go_ret
    refine ⟨by simp, ?_, World.grownBy.refl _ _⟩
    exact OwnI.nil _ _
  · have hgl : g < w.heap.size := (Array.getElem?_eq_some_iff.1 hgg).1
    clear ho' hgg
    go_enter Try.func44, Try.ntmps44
    go_wp2
    go_loopw [1, 5] (fun q i wr => ∃ j : Nat, j ≤ l.length ∧ i = .int .i64 j ∧ q = .int .i64 (k + j) ∧ wr.ownsRow base 3 1 (.slice (some ⟨g, 0, none⟩) l.length cap) l.length ((mkI k j).map (Value.int .i64) ++ (l.map (Value.int .i64)).drop j) ∧ w.grownBy wr (some g)) (fun _ i _ => l.length - (intOf i).toNat)
    case atStart => exact ⟨0, Nat.zero_le _, rfl, by simp, by simpa [mkI] using ho, World.grownBy.refl _ _⟩
    case round =>
      obtain ⟨j, hj, rfl, rfl, hown, hgr⟩ := hrel
      by_cases hlt : j < l.length
      · have c0 := hown.cellAt j (by omega)
        have f0 := hown.frozenAt j
        have hlen : j < ((mkI k j).map (Value.int .i64) ++ (l.map (Value.int .i64)).drop j).length := by simp [mkI_length]; omega
        rw [List.getElem?_eq_getElem hlen] at c0
        obtain ⟨v0, c0'⟩ : ∃ v0, wr.cell? ⟨g, j, none⟩ = some v0 := ⟨_, c0⟩
        have hst := hown.stored j (.int .i64 (k + j))
        rw [mk_set k l j hlt] at hst
        clear c0 hown hlen ho
        go_wp2
        go_roundw
        case rel => exact ⟨j + 1, by omega, by go_num, by congr 1; omega, hst.1, ⟨hst.2.os.trans hgr.os, hst.2.tape.trans hgr.tape, hst.2.output.trans hgr.output, Nat.le_trans hgr.size hst.2.size, fun b hb hne => (hst.2.block b (Nat.lt_of_lt_of_le hb hgr.size) hne).trans (hgr.block b hb hne)⟩⟩
        case measure => simp [intOf]; omega
      · obtain rfl : j = l.length := by omega
        go_wp2
        go_ret
        refine ⟨rfl, ⟨?_, by rw [mkI_length]; exact hn, fun x hx => ?_⟩, hgr⟩
        · rw [List.drop_of_length_le (by simp), List.append_nil] at hown
          rw [mkI_length]; exact hown
        · have := mkI_mem hx
          exact ⟨by omega, by omega⟩

set_option maxHeartbeats 400000 in
theorem heldIntS_any (v : Value) (n : Nat) (k : Int) (B : Nat) (w : World) (hv : SlI w B v (mkI k n)) (h0 : 0 ≤ k) (h1 : k ≤ 1152921504606846976) :
    Calls Try.prog 47 #[v, .int .i64 k] w fun e w' => e = .returned (.int .i64 (k + n)) ∧ Below w.heap.size w w' := by
  obtain ⟨A, c, rfl, _, _, hn, hx⟩ := hv.open_
  have HL := Lib.hid (mkI_length k n)
  clear hv
  go_enter Try.func47, Try.ntmps47
  go_wp2
  go_loopw [1, 5] (fun q i wr => ∃ (j : Nat) (m : Nat), j ≤ (mkI k n).length ∧ i = .int .i64 j ∧ q = .int .i64 (k + j) ∧ wr = w.drewN m) (fun _ i _ => (mkI k n).length - (intOf i).toNat)
  case atStart => exact ⟨0, 0, Nat.zero_le _, rfl, by simp, rfl⟩
  case round =>
    obtain ⟨j, m, hj, rfl, rfl, rfl⟩ := hrel
    by_cases hlt : j < (mkI k n).length
    · obtain ⟨b, o, x, rfl, hb, HX, c1, _⟩ := SlI.at_ hx hlt
      have hx' : x = k + j := by
        have := HX.out
        rw [mkI_get (by have := HL.out; omega)] at this
        injection this with this
        exact this.symm
      subst hx'
      clear hx
      go_wp2
      go_roundw
      case rel => exact ⟨j + 1, _, by omega, by go_num, by congr 1; omega, rfl⟩
      case measure => simp [intOf]; omega
    · obtain hjn : j = n := by have := HL.out; omega
      subst hjn
      go_wp2
      go_ret
      exact ⟨rfl, drewN_below _ _ _⟩
end Go.Proofs.Ytcmlflppndfdcaa

/- append onto a row of the call's own, whatever is appended. -/
namespace Go.Proofs.Ytcmlflppndfdcaa
set_option linter.unusedVariables false
set_option linter.unusedSimpArgs false
open Go.RowKit

section
variable {P : Program} (w : World)

theorem run_append_none (base : Nat) (t ty e : TypeId) (i : TypeInfo) (size : Nat) (ht : P.underlying t = some (.slice e)) (hi : P.info? e = some i)
    (v : Value) (n : Nat) (xs : List Value) (hown : w.ownsRow base e size v n xs) (c : Nat) : (Builtin.append_ #[t, t] ty #[v, .slice none 0 c]).run P w = .ok v w := by
  rcases hown.2 with ⟨rfl, rfl⟩ | ⟨g, cap, cur, rfl, _, _, hnc, _⟩
  · simp [Builtin.append_, run_underlying ht, sizeOf, typeInfo, hi, Builtin.lenOf, Builtin.firstCells]
  · simp [Builtin.append_, run_underlying ht, sizeOf, typeInfo, hi, Builtin.lenOf, Builtin.firstCells, hnc, storeCells]

/-- What is appended: its cells, nil and empty let in. -/
def NewsAt (w : World) (A : Option Addr) (m : Nat) (news : List Value) (size : Nat) : Prop := news.length = m * size ∧ (m = 0 ∨ ∃ b o, A = some ⟨b, o, none⟩ ∧ ∀ j u, news[j]? = some u → w.cell? ⟨b, o + j, none⟩ = some u)

theorem run_append_G (base : Nat) (t ty e : TypeId) (i : TypeInfo) (z : Value) (size bytes : Nat) (ht : P.underlying t = some (.slice e)) (hi : P.info? e = some i) (hz : i.zero = some z)
    (hsize : i.size = size) (hby : i.bytes = bytes) (hzs : z.cells.size = size) (hsz : 0 < size)
    (v : Value) (n : Nat) (xs : List Value) (hown : w.ownsRow base e size v n xs)
    (A : Option Addr) (m c : Nat) (news : List Value) (hnews : NewsAt w A m news size) (h1 : ∀ u ∈ news, u.oneCell' = true)
    (h63 : n + m ≤ maxLen) (hbytes : (n + m) * bytes ≤ 140737488355328) (hbase : base ≤ w.heap.size) :
    ∃ v' w', (Builtin.append_ #[t, t] ty #[v, .slice A m c]).run P w = .ok v' w' ∧ w'.ownsRow base e size v' (n + m) (xs ++ news) ∧ w.grownBy w' v.ownBlock ∧
      (v'.ownBlock = v.ownBlock ∨ v'.ownBlock = some w.heap.size) := by
  obtain ⟨hl, hn⟩ := hnews
  rcases A with _ | ad
  · have hm : m = 0 := by
      rcases hn with h | ⟨b, o, h, _⟩
      · exact h
      · cases h
    subst hm
    obtain rfl : news = [] := List.eq_nil_of_length_eq_zero (by simpa using hl)
    exact ⟨v, w, run_append_none w base t ty e i size ht hi v n xs hown c, by simpa using hown, World.grownBy.refl w _, .inl rfl⟩
  · have hcells : ∀ j u, news[j]? = some u → w.cell? (ad.add j) = some u := by
      intro j u hu
      rcases hn with h | ⟨b, o, h, hc⟩
      · subst h
        obtain rfl : news = [] := List.eq_nil_of_length_eq_zero (by simpa using hl)
        simp at hu
      · injection h with h
        subst h
        have e : (⟨b, o, none⟩ : Addr).add j = ⟨b, o + j, none⟩ := by unfold Addr.add; split <;> simp_all
        rw [e]
        exact hc j u hu
    obtain ⟨v', w', hrun, h2, h3, _, h5⟩ := run_append_own_at (P := P) w base t ty e i z size bytes ht hi hz hsize hby hzs hsz v n xs hown ad m c news hl hcells h1 h63 hbytes hbase
    exact ⟨v', w', hrun, h2, h3, h5⟩

theorem wpList_append_G {ops : Array Oper} {rest : List Oper} {o : Oper} {a : Act} {Q : Exit → Act → World → Prop} (hgd : o.guard = none) (s x : Operand) (t : TypeId)
    (ho : o.op = .call { callee := .builtin .append, args := #[s, x], argTypes := #[t, t] })
    (base : Nat) (e : TypeId) (i : TypeInfo) (z : Value) (size bytes : Nat) (ht : P.underlying t = some (.slice e)) (hi : P.info? e = some i) (hz : i.zero = some z)
    (hsize : i.size = size) (hby : i.bytes = bytes) (hzs : z.cells.size = size) (hsz : 0 < size)
    (v : Value) (n : Nat) (xs : List Value) (hs : a.eval s = v) (hown : w.ownsRow base e size v n xs)
    (A : Option Addr) (m c : Nat) (news : List Value) (hx : a.eval x = .slice A m c) (hnews : NewsAt w A m news size) (h1 : ∀ u ∈ news, u.oneCell' = true)
    (h63 : n + m ≤ maxLen) (hbytes : (n + m) * bytes ≤ 140737488355328) (hbase : base ≤ w.heap.size)
    (h : ∀ v' w', w'.ownsRow base e size v' (n + m) (xs ++ news) → w.grownBy w' v.ownBlock → (v'.ownBlock = v.ownBlock ∨ v'.ownBlock = some w.heap.size) → wpList P ops Q rest (a.put o.dst v') w') : wpList P ops Q (o :: rest) a w := by
  refine wpList_plain hgd fun K hK => ?_
  obtain ⟨v', w', hrun, h2, h3, h4⟩ := run_append_G (P := P) w base t o.type e i z size bytes ht hi hz hsize hby hzs hsz v n xs hown A m c news hnews h1 h63 hbytes hbase
  unfold Oper.wp execOp
  simp only [ho, resolve, invoke, builtin, Sem.run_bind, Sem.run_pure, Result.andThen_ok, List.map_toArray, List.map_cons, List.map_nil, hs, hx, hrun]
  exact hK _ _ (h v' w' h2 h3 h4)
end

theorem NewsAt.of_sl {w : World} {B : Nat} {A : Option Addr} {c : Nat} {l : List Int} (h : SlI w B (.slice A l.length c) l) : NewsAt w A l.length (l.map (Value.int .i64)) 1 := by
  refine ⟨by simp, ?_⟩
  obtain ⟨A', c', e, h1, h2, h3, h4⟩ := h
  injection e with e1 e2 e3; subst e1
  rcases Nat.eq_zero_or_pos l.length with h0 | h0
  · exact .inl h0
  · obtain ⟨b, o, rfl, _, hc⟩ := h4 h0
    refine .inr ⟨b, o, rfl, fun j u hu => ?_⟩
    rw [List.getElem?_map, Option.map_eq_some_iff] at hu
    obtain ⟨x, hx, rfl⟩ := hu
    have := (hc j x hx).1
    simpa using this
theorem int_oneCell (l : List Int) : ∀ u ∈ l.map (Value.int .i64), u.oneCell' = true := by
  intro u hu
  obtain ⟨x, _, rfl⟩ := List.mem_map.1 hu
  rfl

/-- append of ints: l onto a row of the call's own. -/
theorem wpList_appI {w : World} {ops : Array Oper} {rest : List Oper} {o : Oper} {a : Act} {Q : Exit → Act → World → Prop} (hgd : o.guard = none) (s x : Operand)
    (ho : o.op = .call { callee := .builtin .append, args := #[s, x], argTypes := #[22, 22] })
    (base B : Nat) (v : Value) (l : List Int) (hs : a.eval s = v) (hown : OwnI w base v l) (A : Option Addr) (m c : Nat) (news : List Int) (hx : a.eval x = .slice A m c) (hm : m = news.length) (hr : SlI w B (.slice A news.length c) news)
    (hn : l.length + news.length ≤ 17592186044416) (hbase : base ≤ w.heap.size)
    (h : ∀ v' w', OwnI w' base v' (l ++ news) → w.grownBy w' v.ownBlock → (v'.ownBlock = v.ownBlock ∨ v'.ownBlock = some w.heap.size) → wpList Try.prog ops Q rest (a.put o.dst v') w') : wpList Try.prog ops Q (o :: rest) a w := by
  subst hm
  obtain ⟨i0, hi, hz0, hz1, hz2⟩ := info_parts infoInt
  refine wpList_append_G w hgd s x _ ho base 3 i0 _ 1 8 Try.underlying22 hi hz0 hz1 hz2 rfl (by decide) v l.length _ hs hown.1 A _ c _ hx (NewsAt.of_sl hr) (int_oneCell news) (by simp only [maxLen]; omega) (by omega) hbase fun v' w' h1 h2 h3 => ?_
  refine h v' w' ⟨by simpa using h1, by simpa using hn, fun y hy => ?_⟩ h2 h3
  rcases List.mem_append.1 hy with hy | hy
  · exact hown.2.2 y hy
  · exact SlI.i64 hr y hy

/-- the one-cell block that 'append(out, x)' lays first -/
theorem SlI.one (w : World) (t : TypeId) (x : Int) (hx : I64 x) : SlI (w.alloc (.cells #[.int .i64 x] t)) (w.alloc (.cells #[.int .i64 x] t)).heap.size (.slice (some ⟨w.heap.size, 0, none⟩) 1 1) [x] := by
  refine ⟨_, 1, rfl, by simp, by omega, by simp, fun _ => ⟨w.heap.size, 0, rfl, by simp, fun j y hj => ?_⟩⟩
  match j, hj with
  | 0, hj =>
    simp at hj
    subst hj
    exact ⟨by simp, hx⟩
  | j + 1, hj => simp at hj
theorem SlI.one' (w : World) (t : TypeId) (x : Int) (hx : I64 x) {g : Nat} (hg : w.heap.size = g) : SlI (w.alloc (.cells #[.int .i64 x] t)) (w.alloc (.cells #[.int .i64 x] t)).heap.size (.slice (some ⟨g, 0, none⟩) 1 1) [x] := by
  subst hg
  exact SlI.one w t x hx
theorem OwnI.form {w : World} {base : Nat} {v : Value} {l : List Int} (h : OwnI w base v l) : ∃ A c, v = .slice A l.length c ∧ l.length ≤ c ∧ c ≤ 9223372036854775807 := by
  rcases h.1.2 with ⟨rfl, h0⟩ | ⟨g, cap, cur, rfl, _, _, hnc, hcm, _⟩
  · exact ⟨none, 0, by rw [h0], by omega, by omega⟩
  · exact ⟨_, _, rfl, hnc, by simp only [maxLen] at hcm; omega⟩
theorem OwnI.alloc {w : World} {base : Nat} {v : Value} {l : List Int} (h : OwnI w base v l) (o : Obj) : OwnI (w.alloc o) base v l := ⟨h.1.alloc o, h.2⟩
theorem OwnI.drewN {w : World} {base : Nat} {v : Value} {l : List Int} (h : OwnI w base v l) (n : Nat) : OwnI (w.drewN n) base v l := h
theorem OwnI.kept {w w' : World} {base : Nat} {v : Value} {l : List Int} {row : Option Nat} (h : OwnI w base v l) (hg : w.grownBy w' row) (hne : v.ownBlock = none ∨ v.ownBlock ≠ row) : OwnI w' base v l := ⟨h.1.kept hg hne, h.2⟩
theorem OwnI.blkne {w : World} {base g : Nat} {v : Value} {l : List Int} {t : TypeId} {cs : Array Value} (h : OwnI w base v l) (hb : Blk w g t cs) (ht : 3 ≠ t) : some g ≠ v.ownBlock := by
  rcases h.1.2 with ⟨rfl, _⟩ | ⟨g', cap, cur, rfl, _, hh, _⟩
  · simp [Value.ownBlock]
  · intro he
    have : g = g' := by simpa [Value.ownBlock] using he
    subst this
    unfold Blk at hb
    rw [hh] at hb
    injection hb with hb
    injection hb with _ hb
    exact ht hb
theorem OwnI.setCell {w : World} {base : Nat} {v : Value} {l : List Int} (h : OwnI w base v l) {p : Addr} (hp : v.ownBlock ≠ some p.block) (u : Value) : OwnI (w.setCell p u) base v l :=
  h.kept (row := some p.block) ⟨rfl, rfl, rfl, by simp [World.setCell], fun k _ hne => Below.heap_setCell _ _ _ _ (fun e => hne (by rw [e]))⟩ (.inr hp)
theorem OwnI.made {w : World} {base : Nat} (t : TypeId) (ht : t = 3) (hb : base ≤ w.heap.size) : OwnI (w.alloc (.cells #[] t)) base (.slice (some ⟨w.heap.size, 0, none⟩) 0 0) [] := by
  subst ht
  exact ⟨World.ownsRow_made w #[] 0 hb (Nat.zero_le _) (by simp), by simp, by simp⟩
theorem OwnI.lt {w : World} {base : Nat} {v : Value} {l : List Int} (h : OwnI w base v l) : ∀ k, v.ownBlock = some k → base ≤ k ∧ k < w.heap.size := h.1.lt
end Go.Proofs.Ytcmlflppndfdcaa

/- Quivers as values: the law's copies, comparisons, marks. -/
namespace Go.Proofs.Ytcmlflppndfdcaa
set_option linter.unusedVariables false
set_option linter.unusedSimpArgs false
open Go.RowKit

/-- A quiver as data. -/
structure Qv where
  v : Int
  f : List Int
  t : List Int
deriving DecidableEq

/-- The value reads as the quiver q, below block B. -/
def QvR (w : World) (B : Nat) (val : Value) (q : Qv) : Prop := ∃ a b, val = .agg #[.int .i64 q.v, a, b] ∧ SlI w B a q.f ∧ SlI w B b q.t ∧ I64 q.v
/-- .. and owns its two rows, which are apart. -/
def QvO (w : World) (base : Nat) (val : Value) (q : Qv) : Prop := ∃ a b, val = .agg #[.int .i64 q.v, a, b] ∧ OwnI w base a q.f ∧ OwnI w base b q.t ∧ (a.ownBlock = none ∨ a.ownBlock ≠ b.ownBlock) ∧ I64 q.v
theorem QvR.next {w w' : World} {v : Value} {q : Qv} (hb : Below w.heap.size w w') (h : QvR w w.heap.size v q) : QvR w' w'.heap.size v q := by
  obtain ⟨a, b, e, h1, h2, h3⟩ := h
  exact ⟨a, b, e, SlI.next hb h1, SlI.next hb h2, h3⟩
theorem QvR.below {w w' : World} {B : Nat} {v : Value} {q : Qv} (hb : Below B w w') (h : QvR w B v q) : QvR w' B v q := by
  obtain ⟨a, b, e, h1, h2, h3⟩ := h
  exact ⟨a, b, e, SlI.below hb h1, SlI.below hb h2, h3⟩
theorem QvR.more {w : World} {B B' : Nat} {v : Value} {q : Qv} (hB : B ≤ B') (h : QvR w B v q) : QvR w B' v q := by
  obtain ⟨a, b, e, h1, h2, h3⟩ := h
  exact ⟨a, b, e, SlI.more hB h1, SlI.more hB h2, h3⟩
theorem QvO.rd {w : World} {base : Nat} {v : Value} {q : Qv} (h : QvO w base v q) : QvR w w.heap.size v q := by
  obtain ⟨a, b, e, h1, h2, _, h3⟩ := h
  exact ⟨a, b, e, h1.rd, h2.rd, h3⟩
theorem QvO.below {w w' : World} {base : Nat} {v : Value} {q : Qv} (h : QvO w base v q) (hb : Below w.heap.size w w') : QvO w' base v q := by
  obtain ⟨a, b, e, h1, h2, h4, h3⟩ := h
  exact ⟨a, b, e, h1.below hb, h2.below hb, h4, h3⟩
theorem QvO.lower {w : World} {base base' : Nat} {v : Value} {q : Qv} (h : QvO w base v q) (hb : base' ≤ base) : QvO w base' v q := by
  obtain ⟨a, b, e, h1, h2, h4, h3⟩ := h
  exact ⟨a, b, e, h1.lower hb, h2.lower hb, h4, h3⟩
/-- What a walk takes of a quiver. -/
theorem QvR.open_ {w : World} {B : Nat} {v : Value} {q : Qv} (h : QvR w B v q) : ∃ A c C d, v = .agg #[.int .i64 q.v, .slice A q.f.length c, .slice C q.t.length d] ∧ SlI w B (.slice A q.f.length c) q.f ∧ SlI w B (.slice C q.t.length d) q.t ∧ I64 q.v ∧ q.f.length ≤ 17592186044416 ∧ q.t.length ≤ 17592186044416 := by
  obtain ⟨a, b, rfl, h1, h2, h3⟩ := h
  obtain ⟨A, c, rfl, _, _, h4, h1⟩ := h1.open_
  obtain ⟨C, d, rfl, _, _, h5, h2⟩ := h2.open_
  exact ⟨A, c, C, d, rfl, h1, h2, h3, h4, h5⟩

theorem qv_ext (p q : Qv) : (p = q) ↔ (p.v = q.v ∧ p.f = q.f ∧ p.t = q.t) := by
  cases p; cases q; simp

set_option maxHeartbeats 400000 in
theorem eqQuiver_any (u v : Value) (p q : Qv) (w : World) (hu : QvR w w.heap.size u p) (hv : QvR w w.heap.size v q) :
    Calls Try.prog 14 #[u, v] w fun e w' => e = .returned (.bool (decide (p = q))) ∧ Below w.heap.size w w' := by
  obtain ⟨A, c, C, d, rfl, hf, ht, _, _, _⟩ := hu.open_
  obtain ⟨A', c', C', d', rfl, hf', ht', _, _, _⟩ := hv.open_
  clear hu hv
  have g0 : Below w.heap.size w ((w.alloc (.cells #[.int .i64 p.v, .slice A p.f.length c, .slice C p.t.length d] 28)).alloc (.cells #[.int .i64 q.v, .slice A' q.f.length c', .slice C' q.t.length d'] 28)) := ((Below.refl _ _).alloc (Nat.le_refl _) _).alloc (by simp) _
  by_cases h1 : p.v = q.v
  · have e1 : (p.v != q.v) = false := by rw [h1]; simp
    have H1 := Lib.hid h1
    clear h1
    by_cases h2 : p.f = q.f
    · have e2 : decide (p.f = q.f) = true := by simpa using h2
      have H2 := Lib.hid h2
      clear h2
      obtain ⟨B, hB⟩ : ∃ B, decide (p.t = q.t) = B := ⟨_, rfl⟩
      have HB := Lib.hid hB
      have hfin : decide (p = q) = B := by
        rw [← hB, decide_eq_decide, qv_ext]
        exact ⟨fun h => h.2.2, fun h => ⟨H1.out, H2.out, h⟩⟩
      rw [hfin]
      clear hfin
      go_enter Try.func14, Try.ntmps14
      go_wp2_with fail
      refine (eqIntS_any _ _ _ _ _ (SlI.next g0 hf) (SlI.next g0 hf')).mono ?_; rintro e w1 ⟨rfl, hb1⟩
      have g1 := bthen g0 hb1
      have bc := (((Blk.new w 28 #[.int .i64 p.v, .slice A p.f.length c, .slice C p.t.length d]).alloc _).call hb1).cell' (i := 2) rfl
      have bd := ((Blk.new (w.alloc _) 28 #[.int .i64 q.v, .slice A' q.f.length c', .slice C' q.t.length d']).call hb1).cell' (i := 2) rfl
      simp only [World.size_alloc] at bd
      go_wp2_with fail
      refine (eqIntS_any _ _ _ _ _ (SlI.next g1 ht) (SlI.next g1 ht')).mono ?_; rintro e w2 ⟨rfl, hb2⟩
      rw [hB]
      clear hB
      go_wp2
      all_goals (go_ret; simp_all; exact bthen g1 hb2)
    · have e2 : decide (p.f = q.f) = false := by simpa using h2
      have hfin : decide (p = q) = false := by
        simp only [decide_eq_false_iff_not, qv_ext]
        exact fun h => h2 h.2.1
      rw [hfin]
      clear hfin h2
      go_enter Try.func14, Try.ntmps14
      go_wp2_with fail
      refine (eqIntS_any _ _ _ _ _ (SlI.next g0 hf) (SlI.next g0 hf')).mono ?_; rintro e w1 ⟨rfl, hb1⟩
      go_wp2
      go_ret
      exact ⟨rfl, bthen g0 hb1⟩
  · have e1 : (p.v != q.v) = true := by simpa using h1
    have hfin : decide (p = q) = false := by
      simp only [decide_eq_false_iff_not, qv_ext]
      exact fun h => h1 h.1
    rw [hfin]
    clear hfin h1
    go_enter Try.func14, Try.ntmps14
    go_wp2
    go_ret
    exact ⟨rfl, g0⟩
end Go.Proofs.Ytcmlflppndfdcaa

/- What every law goes through: copies, comparisons, purses and marks, a kind of data at a time: ints, quivers. -/
namespace Go.Proofs.Ytcmlflppndfdcaa
set_option linter.unusedVariables false
set_option linter.unusedSimpArgs false
open Go.RowKit

/-! ### ints -/
def IntsO (w : World) (lo hi : Nat) (v : Value) (l : List Int) : Prop := OwnI w lo v l ∧ ∀ k, v.ownBlock = some k → k < hi
theorem IntsO.of_own {w : World} {lo : Nat} {v : Value} {l : List Int} (h : OwnI w lo v l) : IntsO w lo w.heap.size v l := ⟨h, fun k hk => (h.lt k hk).2⟩
theorem IntsO.rd {w : World} {lo hi : Nat} {v : Value} {l : List Int} (h : IntsO w lo hi v l) : SlI w w.heap.size v l := h.1.rd
theorem IntsO.chg {w w' : World} {lo hi lo' hi' : Nat} {v : Value} {l : List Int} (h : IntsO w lo hi v l) (hc : Chg lo' hi' w w') (hd : hi ≤ lo' ∨ hi' ≤ lo) : IntsO w' lo hi v l := by
  refine ⟨⟨⟨h.1.1.1, ?_⟩, h.1.2⟩, h.2⟩
  rcases h.1.1.2 with h1 | ⟨g, cap, cur, rfl, hg, hh, rest⟩
  · exact .inl h1
  · have := h.2 g (by simp [Value.ownBlock])
    exact .inr ⟨g, cap, cur, rfl, hg, (hc.block g (Array.getElem?_eq_some_iff.1 hh).1 (by omega)).trans hh, rest⟩
theorem IntsO.below {w w' : World} {lo hi : Nat} {v : Value} {l : List Int} (h : IntsO w lo hi v l) (hb : Below w.heap.size w w') : IntsO w' lo hi v l := ⟨h.1.below hb, h.2⟩
theorem chg_of_grown {w w' : World} {lo hi : Nat} {v : Value} {l : List Int} (h : IntsO w lo hi v l) (hg : w.grownBy w' v.ownBlock) : Chg lo hi w w' := by
  refine ⟨hg.os, hg.tape, hg.output, hg.size, fun k hk hne => hg.block k hk (fun e => ?_)⟩
  have h1 := h.2 k e.symm
  have h2 := (h.1.lt k e.symm).1
  omega
theorem SlI.chg {w w' : World} {B lo hi : Nat} {v : Value} {l : List Int} (h : SlI w B v l) (hc : Chg lo hi w w') (hB : B ≤ lo) (hs : B ≤ w.heap.size) : SlI w' B v l := SlI.below (hc.below hB hs) h
def IntsO.mk (k : Int) (l : List Int) : List Int := mkI k l.length
theorem ints_mark (v : Value) (l : List Int) (k : Int) (lo hi : Nat) (w : World) (hv : IntsO w lo hi v l) (h0 : 0 ≤ k) (h1 : k ≤ 1152921504606846976) :
    Calls Try.prog 44 #[v, .int .i64 k] w fun e w' => e = .returned (.int .i64 (k + l.length)) ∧ IntsO w' lo hi v (IntsO.mk k l) ∧ Chg lo hi w w' :=
  (markIntS_any v l k lo w hv.1 h0 h1).mono fun _ _ ⟨h2, h3, h4⟩ => ⟨h2, ⟨h3, hv.2⟩, chg_of_grown hv h4⟩
theorem ints_held (v : Value) (l : List Int) (k : Int) (w : World) (hv : SlI w w.heap.size v (IntsO.mk k l)) (h0 : 0 ≤ k) (h1 : k ≤ 1152921504606846976) :
    Calls Try.prog 47 #[v, .int .i64 k] w fun e w' => e = .returned (.int .i64 (k + l.length)) ∧ Below w.heap.size w w' :=
  heldIntS_any v l.length k _ w hv h0 h1

/-! ### families of rows, apart from one another -/
def Fam (w : World) (lo hi : Nat) (L : List (Value × List Int)) : Prop := (∀ p ∈ L, IntsO w lo hi p.1 p.2) ∧ L.Pairwise (fun p q => p.1.ownBlock = none ∨ p.1.ownBlock ≠ q.1.ownBlock)
theorem Fam.chg {w w' : World} {lo hi lo' hi' : Nat} {L : List (Value × List Int)} (h : Fam w lo hi L) (hc : Chg lo' hi' w w') (hd : hi ≤ lo' ∨ hi' ≤ lo) : Fam w' lo hi L := ⟨fun p hp => (h.1 p hp).chg hc hd, h.2⟩
theorem Fam.below {w w' : World} {lo hi : Nat} {L : List (Value × List Int)} (h : Fam w lo hi L) (hb : Below w.heap.size w w') : Fam w' lo hi L := ⟨fun p hp => (h.1 p hp).below hb, h.2⟩
theorem Fam.turn {w w' : World} {lo hi : Nat} {L1 L2 : List (Value × List Int)} {v : Value} {l l' : List Int} (h : Fam w lo hi (L1 ++ (v, l) :: L2)) (ho : OwnI w' lo v l') (hg : w.grownBy w' v.ownBlock) : Fam w' lo hi (L1 ++ (v, l') :: L2) := by
  obtain ⟨h1, h2⟩ := h
  rw [List.pairwise_append, List.pairwise_cons] at h2
  obtain ⟨p1, ⟨p2, p3⟩, p4⟩ := h2
  refine ⟨fun p hp => ?_, ?_⟩
  · rcases List.mem_append.1 hp with hp | hp
    · have := h1 p (by simp [hp])
      have hne := p4 p hp (v, l) (by simp)
      exact ⟨this.1.kept hg hne, this.2⟩
    · rcases List.mem_cons.1 hp with rfl | hp
      · exact ⟨ho, (h1 (v, l) (by simp)).2⟩
      · have := h1 p (by simp [hp])
        have hne := p2 p hp
        refine ⟨this.1.kept hg ?_, this.2⟩
        rcases hne with hne | hne
        · rcases hpb : p.1.ownBlock with _ | b
          · exact .inl rfl
          · exact .inr (by rw [show v.ownBlock = none from hne]; simp)
        · exact .inr (fun e => hne e.symm)
  · rw [List.pairwise_append, List.pairwise_cons]
    exact ⟨p1, ⟨p2, p3⟩, fun a ha b hb => by
      rcases List.mem_cons.1 hb with rfl | hb
      · exact p4 a ha (v, l) (by simp)
      · exact p4 a ha b (by simp [hb])⟩

theorem Fam.app {w w' : World} {lo hi : Nat} {L1 L2 : List (Value × List Int)} {v v' : Value} {l l' : List Int} (h : Fam w lo hi (L1 ++ (v, l) :: L2)) (hh : hi ≤ w'.heap.size) (ho : OwnI w' lo v' l') (hg : w.grownBy w' v.ownBlock) (hv : v'.ownBlock = v.ownBlock ∨ v'.ownBlock = some w.heap.size) :
    Fam w' lo w'.heap.size (L1 ++ (v', l') :: L2) := by
  obtain ⟨h1, h2⟩ := h
  rw [List.pairwise_append, List.pairwise_cons] at h2
  obtain ⟨p1, ⟨p2, p3⟩, p4⟩ := h2
  have new : ∀ p ∈ L1 ++ (v, l) :: L2, p.1.ownBlock ≠ some w.heap.size := fun p hp e => by
    have := ((h1 p hp).1.lt _ e).2
    omega
  refine ⟨fun p hp => ?_, ?_⟩
  · rcases List.mem_append.1 hp with hp | hp
    · have := h1 p (by simp [hp])
      exact ⟨this.1.kept hg (p4 p hp (v, l) (by simp)), fun k hk => Nat.lt_of_lt_of_le (this.2 k hk) hh⟩
    · rcases List.mem_cons.1 hp with rfl | hp
      · exact IntsO.of_own ho
      · have := h1 p (by simp [hp])
        have hne := p2 p hp
        refine ⟨this.1.kept hg ?_, fun k hk => Nat.lt_of_lt_of_le (this.2 k hk) hh⟩
        rcases hne with hne | hne
        · rcases hpb : p.1.ownBlock with _ | b
          · exact .inl rfl
          · exact .inr (by rw [show v.ownBlock = none from hne]; simp)
        · exact .inr (fun e => hne e.symm)
  · rw [List.pairwise_append, List.pairwise_cons]
    refine ⟨p1, ⟨fun q hq => ?_, p3⟩, fun a ha b hb => ?_⟩
    · show v'.ownBlock = none ∨ v'.ownBlock ≠ q.1.ownBlock
      rcases hv with e | e <;> rw [e]
      · exact p2 q hq
      · exact .inr (fun e => new q (by simp [hq]) e.symm)
    · rcases List.mem_cons.1 hb with rfl | hb
      · show a.1.ownBlock = none ∨ a.1.ownBlock ≠ v'.ownBlock
        rcases hv with e | e <;> rw [e]
        · exact p4 a ha (v, l) (by simp)
        · exact .inr (new a (by simp [ha]))
      · exact p4 a ha b (by simp [hb])

theorem Fam.setBlk {w : World} {lo hi g i : Nat} {L : List (Value × List Int)} {t : TypeId} {cs : Array Value} (h : Fam w lo hi L) (hb : Blk w g t cs) (ht : 3 ≠ t) (u : Value) : Fam (w.setCell ⟨g, i, none⟩ u) lo hi L :=
  ⟨fun p hp => ⟨(h.1 p hp).1.setCell (p := ⟨g, i, none⟩) (fun e => (h.1 p hp).1.blkne hb ht e.symm) u, (h.1 p hp).2⟩, h.2⟩
theorem Fam.mono {w : World} {lo hi lo' hi' : Nat} {L : List (Value × List Int)} (h : Fam w lo hi L) (h1 : lo' ≤ lo) (h2 : hi ≤ hi') : Fam w lo' hi' L :=
  ⟨fun p hp => ⟨(h.1 p hp).1.lower h1, fun k hk => Nat.lt_of_lt_of_le ((h.1 p hp).2 k hk) h2⟩, h.2⟩

/-! ### quivers -/
def QuivO (w : World) (lo hi : Nat) (val : Value) (q : Qv) : Prop := ∃ a b, val = .agg #[.int .i64 q.v, a, b] ∧ Fam w lo hi [(a, q.f), (b, q.t)] ∧ I64 q.v
theorem QvR.form {w : World} {B : Nat} {v : Value} {q : Qv} (h : QvR w B v q) : ∃ A c C d, v = .agg #[.int .i64 q.v, .slice A q.f.length c, .slice C q.t.length d] := by
  obtain ⟨A, c, C, d, e, _⟩ := h.open_
  exact ⟨A, c, C, d, e⟩
theorem QvR.lens {w : World} {B : Nat} {v : Value} {q : Qv} (h : QvR w B v q) : q.f.length ≤ 17592186044416 ∧ q.t.length ≤ 17592186044416 := by
  obtain ⟨A, c, C, d, e, _, _, _, h1, h2⟩ := h.open_
  exact ⟨h1, h2⟩
theorem QuivO.rd {w : World} {lo hi : Nat} {v : Value} {q : Qv} (h : QuivO w lo hi v q) : QvR w w.heap.size v q := by
  obtain ⟨a, b, e, h1, h2⟩ := h
  exact ⟨a, b, e, (h1.1 (a, q.f) (by simp)).rd, (h1.1 (b, q.t) (by simp)).rd, h2⟩
theorem QuivO.form {w : World} {lo hi : Nat} {v : Value} {q : Qv} (h : QuivO w lo hi v q) : ∃ A c C d, v = .agg #[.int .i64 q.v, .slice A q.f.length c, .slice C q.t.length d] := h.rd.form
theorem QuivO.chg {w w' : World} {lo hi lo' hi' : Nat} {v : Value} {q : Qv} (h : QuivO w lo hi v q) (hc : Chg lo' hi' w w') (hd : hi ≤ lo' ∨ hi' ≤ lo) : QuivO w' lo hi v q := by
  obtain ⟨a, b, e, h1, h2⟩ := h
  exact ⟨a, b, e, h1.chg hc hd, h2⟩
theorem QuivO.below {w w' : World} {lo hi : Nat} {v : Value} {q : Qv} (h : QuivO w lo hi v q) (hb : Below w.heap.size w w') : QuivO w' lo hi v q := by
  obtain ⟨a, b, e, h1, h2⟩ := h
  exact ⟨a, b, e, h1.below hb, h2⟩
theorem QvR.chg {w w' : World} {B lo hi : Nat} {v : Value} {q : Qv} (h : QvR w B v q) (hc : Chg lo hi w w') (hB : B ≤ lo) (hs : B ≤ w.heap.size) : QvR w' B v q := QvR.below (hc.below hB hs) h
def QuivO.mk (k : Int) (q : Qv) : Qv := ⟨q.v, mkI k q.f.length, mkI (k + q.f.length) q.t.length⟩
def Qv.size (q : Qv) : Nat := q.f.length + q.t.length

set_option maxHeartbeats 400000 in
theorem quiv_mark (v : Value) (q : Qv) (k : Int) (lo hi : Nat) (w : World) (hv : QuivO w lo hi v q) (hh : hi ≤ w.heap.size) (h0 : 0 ≤ k) (h1 : k ≤ 1125899906842624) :
    Calls Try.prog 16 #[v, .int .i64 k] w fun e w' => e = .returned (.int .i64 (k + q.size)) ∧ QuivO w' lo hi v (QuivO.mk k q) ∧ Chg lo hi w w' := by
  obtain ⟨a, b, rfl, hF, hr⟩ := hv
  have fa : OwnI w lo a q.f := (hF.1 (a, q.f) (by simp)).1
  have fb : OwnI w lo b q.t := (hF.1 (b, q.t) (by simp)).1
  obtain ⟨A, c, rfl, _, _⟩ := fa.form
  obtain ⟨C, d, rfl, _, _⟩ := fb.form
  have la := fa.2.1
  have lb := fb.2.1
  have g0 := below_alloc w (.cells #[.int .i64 q.v, .slice A q.f.length c, .slice C q.t.length d] 28)
  have hF0 := hF.below g0
  go_enter Try.func16, Try.ntmps16
  go_wp2_with fail
  refine (markIntS_any _ _ _ lo _ (hF0.1 (_, q.f) (by simp)).1 h0 (by omega)).mono ?_; rintro e w1 ⟨rfl, ho1, hg1⟩
  have hF1 := hF0.turn (L1 := []) ho1 hg1
  have hc1 := chg_of_grown (hF0.1 (_, q.f) (by simp)) hg1
  have cB := ((Blk.new w 28 #[.int .i64 q.v, .slice A q.f.length c, .slice C q.t.length d]).chg hc1 (.inr hh)).cell' (i := 2) rfl
  clear hF hF0 ho1 hg1 fa fb
  go_wp2_with fail
  refine (markIntS_any _ _ _ lo _ (hF1.1 (_, q.t) (by simp)).1 (by omega) (by omega)).mono ?_; rintro e w2 ⟨rfl, ho2, hg2⟩
  have hF2 := hF1.turn (L1 := [(_, mkI k q.f.length)]) ho2 hg2
  have hc2 := chg_of_grown (hF1.1 (_, q.t) (by simp)) hg2
  go_wp2
  go_ret
  refine ⟨?_, ⟨_, _, ?_, hF2, hr⟩, (Chg.of_below g0).trans (hc1.trans hc2)⟩
  · have e : k + (q.size : Int) = k + q.f.length + q.t.length := by simp only [Qv.size]; omega
    rw [e]; rfl
  · simp [QuivO.mk, mkI_length]

set_option maxHeartbeats 400000 in
theorem quiv_held (v : Value) (q : Qv) (k : Int) (w : World) (hv : QvR w w.heap.size v (QuivO.mk k q)) (h0 : 0 ≤ k) (h1 : k ≤ 1125899906842624) :
    Calls Try.prog 46 #[v, .int .i64 k] w fun e w' => e = .returned (.int .i64 (k + q.size)) ∧ Below w.heap.size w w' := by
  obtain ⟨A, c, C, d, rfl, hf, ht, _, lf, lt⟩ := hv.open_
  clear hv
  simp only [QuivO.mk] at hf ht lf lt ⊢
  have lf' := lf
  have lt' := lt
  rw [mkI_length] at lf' lt'
  have g0 := below_alloc w (.cells #[.int .i64 q.v, .slice A (mkI k q.f.length).length c, .slice C (mkI (k + q.f.length) q.t.length).length d] 28)
  have n1 : ¬ (k + (q.f.length : Int) < 0) := by omega
  have n2 : ¬ (k + (q.f.length : Int) + q.t.length < 0) := by omega
  go_enter Try.func46, Try.ntmps46
  go_wp2_with fail
  refine (heldIntS_any _ _ _ _ _ (SlI.next g0 hf) h0 (by omega)).mono ?_; rintro e w1 ⟨rfl, hb1⟩
  have g1 := bthen g0 hb1
  have cB := ((Blk.new w 28 #[.int .i64 q.v, .slice A (mkI k q.f.length).length c, .slice C (mkI (k + q.f.length) q.t.length).length d]).call hb1).cell' (i := 2) rfl
  go_wp2_with fail
  refine (heldIntS_any _ _ _ _ _ (SlI.next g1 ht) (by omega) (by omega)).mono ?_; rintro e w2 ⟨rfl, hb2⟩
  go_wp2
  go_ret
  have e : k + (q.size : Int) = k + q.f.length + q.t.length := by simp only [Qv.size]; omega
  exact ⟨by rw [e]; rfl, bthen g1 hb2⟩

theorem ints_to (u : Value) (xs : List Int) (w : World) (hu : SlI w w.heap.size u xs) (hn : xs.length ≤ 1048576) :
    Calls Try.prog 38 #[u] w fun e w' => ∃ v, e = .returned v ∧ IntsO w' w.heap.size w'.heap.size v xs ∧ Below w.heap.size w w' :=
  (toIntS_own u xs w hu hn).mono fun _ _ ⟨v, h1, h2, h3⟩ => ⟨v, h1, IntsO.of_own h2, h3⟩

theorem IntsO.wider {w : World} {lo hi lo' hi' : Nat} {v : Value} {l : List Int} (h : IntsO w lo hi v l) (h1 : lo' ≤ lo) (h2 : hi ≤ hi') : IntsO w lo' hi' v l := ⟨h.1.lower h1, fun k hk => Nat.lt_of_lt_of_le (h.2 k hk) h2⟩
theorem IntsO.set {w : World} {lo hi : Nat} {v : Value} {l : List Int} (h : IntsO w lo hi v l) {p : Addr} (hp : p.block < lo) (u : Value) : IntsO (w.setCell p u) lo hi v l :=
  ⟨h.1.setCell (fun e => by have := (h.1.lt _ e).1; omega) u, h.2⟩
/-- two rows of two stretches of memory -/
theorem fam_two {w : World} {lo mi hi : Nat} {a b : Value} {l m : List Int} (ha : IntsO w lo mi a l) (hb : IntsO w mi hi b m) (h1 : lo ≤ mi) (h2 : mi ≤ hi) : Fam w lo hi [(a, l), (b, m)] := by
  refine ⟨fun p hp => ?_, ?_⟩
  · simp only [List.mem_cons, List.not_mem_nil, or_false] at hp
    rcases hp with rfl | rfl
    · exact ha.wider (Nat.le_refl _) h2
    · exact hb.wider h1 (Nat.le_refl _)
  · refine List.pairwise_cons.2 ⟨fun q hq => ?_, List.pairwise_cons.2 ⟨fun q hq => absurd hq (by simp), List.Pairwise.nil⟩⟩
    simp only [List.mem_cons, List.not_mem_nil, or_false] at hq
    subst hq
    show a.ownBlock = none ∨ a.ownBlock ≠ b.ownBlock
    rcases hA : a.ownBlock with _ | x
    · exact .inl rfl
    · right
      intro e
      have := ha.2 x hA
      have := (hb.1.lt x e.symm).1
      omega

set_option maxHeartbeats 400000 in
theorem quiv_to (u : Value) (q : Qv) (w : World) (hu : QvR w w.heap.size u q) (hn : q.size ≤ 1048576) :
    Calls Try.prog 10 #[u] w fun e w' => ∃ v, e = .returned v ∧ QuivO w' w.heap.size w'.heap.size v q ∧ Below w.heap.size w w' := by
  obtain ⟨A, c, C, d, rfl, hf, ht, hr, _, _⟩ := hu.open_
  clear hu
  unfold Qv.size at hn
  obtain ⟨Wa, hWa⟩ : ∃ W, W = (w.alloc (.cells #[.int .i64 q.v, .slice A q.f.length c, .slice C q.t.length d] 24)).alloc (.cells #[.int .i64 0, .slice none 0 0, .slice none 0 0] 28) := ⟨_, rfl⟩
  obtain ⟨Wb, hWb⟩ : ∃ W, W = Wa.alloc (.cells #[.int .i64 q.v, .slice none 0 0, .slice none 0 0] 28) := ⟨_, rfl⟩
  have za : Wa.heap.size = w.heap.size + 1 + 1 := by rw [hWa]; simp
  have zb : Wb.heap.size = w.heap.size + 1 + 1 + 1 := by rw [hWb]; simp [za]
  have kp : Blk Wb w.heap.size 24 #[.int .i64 q.v, .slice A q.f.length c, .slice C q.t.length d] := by rw [hWb, hWa]; exact ((Blk.new _ _ _).alloc _).alloc _
  have kr : Blk Wb (w.heap.size + 1) 28 #[.int .i64 0, .slice none 0 0, .slice none 0 0] := by
    rw [hWb, hWa]
    have := (Blk.new (w.alloc (.cells #[.int .i64 q.v, .slice A q.f.length c, .slice C q.t.length d] 24)) 28 #[.int .i64 0, .slice none 0 0, .slice none 0 0]).alloc (.cells #[.int .i64 q.v, .slice none 0 0, .slice none 0 0] 28)
    simpa only [World.size_alloc] using this
  have ko : Blk Wb (w.heap.size + 1 + 1) 28 #[.int .i64 q.v, .slice none 0 0, .slice none 0 0] := by
    rw [hWb, ← za]; exact Blk.new _ _ _
  have gb : Below w.heap.size w Wb := by rw [hWb, hWa]; exact (((Below.refl _ _).alloc (Nat.le_refl _) _).alloc (by simp) _).alloc (by simp; omega) _
  have ZA := Lib.hid za
  have ZB := Lib.hid zb
  clear za zb
  go_enter Try.func10, Try.ntmps10
  go_wp2_with fail
  rw [← hWa, ← hWb]
  clear hWa hWb
  refine (ints_to _ _ _ (SlI.next gb hf) (by omega)).mono ?_; rintro e w1 ⟨a, rfl, ha, hb1⟩
  obtain ⟨A1, c1, rfl, _, _⟩ := ha.1.form
  have kp1 := kp.call hb1
  have ko1 := ko.call hb1
  have kr1 := kr.call hb1
  have p2 := kp1.cell' (i := 2) rfl
  have o1 := ko1.cell' (i := 1) rfl
  have fo := ko1.frozen
  have g1 := bthen gb hb1
  have sz1 := ZB.out
  have s1 := hb1.size
  have gs : Below w.heap.size w (w1.setCell ⟨w.heap.size + 1 + 1, 1, none⟩ (.slice A1 q.f.length c1)) := g1.setCell (by simp; omega) _
  have ha' : IntsO (w1.setCell ⟨w.heap.size + 1 + 1, 1, none⟩ (.slice A1 q.f.length c1)) Wb.heap.size w1.heap.size (.slice A1 q.f.length c1) q.f :=
    ⟨ha.1.setCell (fun e => by have := (ha.1.lt _ e).1; simp at this; omega) _, ha.2⟩
  clear sz1 s1
  go_wp2_with fail
  clear p2 o1 fo
  obtain ⟨Wc, hWc⟩ : ∃ W, W = w1.setCell ⟨w.heap.size + 1 + 1, 1, none⟩ (.slice A1 q.f.length c1) := ⟨_, rfl⟩
  have zc : Wc.heap.size = w1.heap.size := by rw [hWc]; simp
  have kr' : Blk Wc (w.heap.size + 1) 28 #[.int .i64 0, .slice none 0 0, .slice none 0 0] := by rw [hWc]; exact kr1.far (by simp) _
  have ko' : Blk Wc (w.heap.size + 1 + 1) 28 #[.int .i64 q.v, .slice A1 q.f.length c1, .slice none 0 0] := by rw [hWc]; exact ko1.set_ 1 _
  rw [← hWc] at gs ha' ⊢
  clear hWc kr1 ko1 kp1 kp kr ko
  refine (ints_to _ _ _ (SlI.next gs ht) (by omega)).mono ?_; rintro e w2 ⟨b, rfl, hb, hb2⟩
  obtain ⟨C1, d1, rfl, _, _⟩ := hb.1.form
  have ko2 := ko'.call hb2
  have kr2 := kr'.call hb2
  have o0 := ko2.cell' (i := 0) rfl
  have o1 := ko2.cell' (i := 1) rfl
  have o2 := ko2.cell' (i := 2) rfl
  have fo := ko2.frozen
  have r0 := kr2.cell' (i := 0) rfl
  have r1 := kr2.cell' (i := 1) rfl
  have r2 := kr2.cell' (i := 2) rfl
  have fr := kr2.frozen
  have ZC := Lib.hid zc
  clear zc
  go_wp2
  have zb := ZB.out
  have zc := ZC.out
  have s1 := hb1.size
  have s2 := hb2.size
  have g2 := bthen gs hb2
  refine bodyPost_ret (v := .agg #[.int .i64 q.v, .slice A1 q.f.length c1, .slice C1 q.t.length d1]) (by simp [results, go_sem, r0, r1, r2]) rfl ⟨_, rfl, ⟨_, _, rfl, fam_two (mi := Wc.heap.size) ?_ ?_ (by omega) (by simp; omega), hr⟩, (((g2.setCell (by simp; omega) _).setCell (by simp) _).setCell (by simp) _).setCell (by simp) _⟩
  · have h3 : IntsO w2 Wb.heap.size w1.heap.size (.slice A1 q.f.length c1) q.f := ha'.below hb2
    exact ((((h3.set (by simp; omega) _).set (by simp; omega) _).set (by simp; omega) _).set (by simp; omega) _).wider (by omega) (by omega)
  · exact ((((hb.set (by simp; omega) _).set (by simp; omega) _).set (by simp; omega) _).set (by simp; omega) _).wider (by omega) (by simp)

theorem szQuiver_any (u : Value) (q : Qv) (left : Int) (w : World) (hu : QvR w w.heap.size u q) (h0 : 0 ≤ left) (h1 : left ≤ 1048576) :
    Calls Try.prog 7 #[u, .int .i64 left] w fun e w' => e = .returned (.int .i64 (szLeft left q.size)) ∧ Below w.heap.size w w' := by
  obtain ⟨A, c, C, d, rfl, hf, ht, hr, lf, lt⟩ := hu.open_
  clear hu hr
  have cB := (Blk.new w 24 #[.int .i64 q.v, .slice A q.f.length c, .slice C q.t.length d]).cell' (i := 2) rfl
  have g0 := below_alloc w (.cells #[.int .i64 q.v, .slice A q.f.length c, .slice C q.t.length d] 24)
  by_cases h2 : left < q.f.length
  · have s1 : szLeft left q.f.length = -1 := by rw [szLeft, if_pos h2]
    have e : szLeft left q.size = -1 := by rw [szLeft, if_pos (by simp only [Qv.size]; omega)]
    rw [e]
    clear e
    go_enter Try.func7, Try.ntmps7
    go_wp2_with fail
    refine (szIntS_any _ _ _ _ _ lf h0 h1).mono ?_; rintro e w' ⟨rfl, rfl⟩
    go_wp2
    go_ret
    exact ⟨rfl, g0⟩
  · have s1 : szLeft left q.f.length = left - q.f.length := by rw [szLeft, if_neg h2]
    have n1 : ¬ left - (q.f.length : Int) < 0 := by omega
    by_cases h3 : left - q.f.length < q.t.length
    · have s2 : szLeft (left - q.f.length) q.t.length = -1 := by rw [szLeft, if_pos h3]
      have e : szLeft left q.size = -1 := by rw [szLeft, if_pos (by simp only [Qv.size]; omega)]
      rw [e]
      clear e
      go_enter Try.func7, Try.ntmps7
      go_wp2_with fail
      refine (szIntS_any _ _ _ _ _ lf h0 h1).mono ?_; rintro e w' ⟨rfl, rfl⟩
      go_wp2_with fail
      refine (szIntS_any _ _ _ _ _ lt (by omega) (by omega)).mono ?_; rintro e w' ⟨rfl, rfl⟩
      go_wp2
      go_ret
      exact ⟨rfl, g0⟩
    · have s2 : szLeft (left - q.f.length) q.t.length = left - q.f.length - q.t.length := by rw [szLeft, if_neg h3]
      have n2 : ¬ left - (q.f.length : Int) - q.t.length < 0 := by omega
      have e : szLeft left q.size = left - q.f.length - q.t.length := by rw [szLeft, if_neg (by simp only [Qv.size]; omega)]; simp only [Qv.size]; omega
      rw [e]
      clear e
      go_enter Try.func7, Try.ntmps7
      go_wp2_with fail
      refine (szIntS_any _ _ _ _ _ lf h0 h1).mono ?_; rintro e w' ⟨rfl, rfl⟩
      go_wp2_with fail
      refine (szIntS_any _ _ _ _ _ lt (by omega) (by omega)).mono ?_; rintro e w' ⟨rfl, rfl⟩
      go_wp2
      go_ret
      exact ⟨rfl, g0⟩
end Go.Proofs.Ytcmlflppndfdcaa

/- What every law goes through: lists of lists of ints. -/
namespace Go.Proofs.Ytcmlflppndfdcaa
set_option linter.unusedVariables false
set_option linter.unusedSimpArgs false
open Go.RowKit

theorem infoInts : (Try.prog.info? 22).map (fun i => (i.zero, i.size, i.bytes)) = some (some (.slice none 0 0), 1, 24) := by kernel_rfl

/-- A row of slice values of the call's own. -/
def OutO (w : World) (lo hi : Nat) (v : Value) (vs : List Value) : Prop := w.ownsRow lo 22 1 v vs.length vs ∧ (∀ k, v.ownBlock = some k → k < hi) ∧ vs.length ≤ 17592186044416
theorem OutO.form {w : World} {lo hi : Nat} {v : Value} {vs : List Value} (h : OutO w lo hi v vs) : ∃ A c, v = .slice A vs.length c ∧ vs.length ≤ c ∧ c ≤ 9223372036854775807 := by
  rcases h.1.2 with ⟨rfl, h0⟩ | ⟨g, cap, cur, rfl, _, _, hnc, hcm, _⟩
  · exact ⟨none, 0, by rw [h0], by omega, by omega⟩
  · exact ⟨_, _, rfl, hnc, by simp only [maxLen] at hcm; omega⟩
theorem OutO.chg {w w' : World} {lo hi lo' hi' : Nat} {v : Value} {vs : List Value} (h : OutO w lo hi v vs) (hc : Chg lo' hi' w w') (hd : hi ≤ lo' ∨ hi' ≤ lo) : OutO w' lo hi v vs := by
  refine ⟨⟨h.1.1, ?_⟩, h.2⟩
  rcases h.1.2 with h1 | ⟨g, cap, cur, rfl, hg, hh, rest⟩
  · exact .inl h1
  · have := h.2.1 g (by simp [Value.ownBlock])
    exact .inr ⟨g, cap, cur, rfl, hg, (hc.block g (Array.getElem?_eq_some_iff.1 hh).1 (by omega)).trans hh, rest⟩
theorem OutO.below {w w' : World} {lo hi : Nat} {v : Value} {vs : List Value} (h : OutO w lo hi v vs) (hb : Below w.heap.size w w') : OutO w' lo hi v vs :=
  ⟨h.1.kept (row := none) ⟨hb.os, hb.tape, hb.output, hb.size, fun k hk _ => hb.block k hk⟩ (by cases v.ownBlock <;> simp), h.2⟩
/-- a row of ints turned leaves it -/
theorem OutO.grown {w w' : World} {lo hi base : Nat} {v u : Value} {vs : List Value} {l : List Int} (h : OutO w lo hi v vs) (ho : OwnI w base u l) (hg : w.grownBy w' u.ownBlock) : OutO w' lo hi v vs := by
  refine ⟨h.1.kept hg ?_, h.2⟩
  rcases h.1.2 with ⟨rfl, _⟩ | ⟨g, cap, cur, rfl, _, hh, _⟩
  · exact .inl rfl
  · right
    exact fun e => ho.blkne (g := g) (t := 22) (cs := cur) hh (by decide) e
theorem OutO.mono {w : World} {lo hi lo' hi' : Nat} {v : Value} {vs : List Value} (h : OutO w lo hi v vs) (h1 : lo' ≤ lo) (h2 : hi ≤ hi') : OutO w lo' hi' v vs := by
  refine ⟨⟨h.1.1, ?_⟩, fun k hk => Nat.lt_of_lt_of_le (h.2.1 k hk) h2, h.2.2⟩
  rcases h.1.2 with h3 | ⟨g, cap, cur, e, hg, rest⟩
  · exact .inl h3
  · exact .inr ⟨g, cap, cur, e, by omega, rest⟩

theorem OutO.set {w : World} {lo hi g : Nat} {v : Value} {vs : List Value} {t : TypeId} {cs : Array Value} (h : OutO w lo hi v vs) (hb : Blk w g t cs) (ht : 22 ≠ t) (i : Nat) (u : Value) : OutO (w.setCell ⟨g, i, none⟩ u) lo hi v vs := by
  refine ⟨h.1.kept (row := some g) ⟨rfl, rfl, rfl, by simp [World.setCell], fun k _ hne => Below.heap_setCell _ _ _ _ (fun e => hne (by rw [e]))⟩ ?_, h.2⟩
  rcases h.1.2 with ⟨rfl, _⟩ | ⟨g', cap, cur, rfl, _, hh, _⟩
  · exact .inl rfl
  · right
    intro e
    have : g' = g := by simpa [Value.ownBlock] using e
    subst this
    unfold Blk at hb
    rw [hh] at hb
    injection hb with hb
    injection hb with _ hb
    exact ht hb
/-- Lists of lists of ints that the call made. -/
def IntssO (w : World) (lo hi : Nat) (v : Value) (ll : List (List Int)) : Prop := ∃ vs, OutO w lo hi v vs ∧ vs.length = ll.length ∧ Fam w lo hi (vs.zip ll)
/-- the reading of an outer row -/
theorem OutO.rd {w : World} {lo hi : Nat} {v : Value} {vs : List Value} {ll : List (List Int)} (h : OutO w lo hi v vs) (hl : vs.length = ll.length) (hr : ∀ p ∈ vs.zip ll, SlI w w.heap.size p.1 p.2) : SlII w w.heap.size v ll := by
  obtain ⟨h1, h2, h3⟩ := h
  rcases h1.2 with ⟨rfl, h0⟩ | ⟨g, cap, cur, rfl, _, hg, hnc, hcm, hcs, htake⟩
  · obtain rfl : ll = [] := List.eq_nil_of_length_eq_zero (by omega)
    exact SlG.nil
  · rw [hl] at hnc h1 h3 ⊢
    refine ⟨_, _, rfl, hnc, by simp only [maxLen] at hcm; omega, h3, fun hp => ⟨g, 0, rfl, (Array.getElem?_eq_some_iff.1 hg).1, fun j x hj => ?_⟩⟩
    have hjl := lt_of_some hj
    have hc := h1.cellAt j (by omega)
    rw [List.getElem?_eq_getElem (by omega)] at hc
    refine ⟨vs[j]'(by omega), by rw [show 0 + j * 1 = j by omega]; exact hc, hr (vs[j]'(by omega), x) ?_⟩
    rw [List.mem_iff_getElem?]
    exact ⟨j, by rw [List.getElem?_zip_eq_some]; exact ⟨List.getElem?_eq_getElem (by omega), hj⟩⟩
theorem IntssO.rd {w : World} {lo hi : Nat} {v : Value} {ll : List (List Int)} (h : IntssO w lo hi v ll) : SlII w w.heap.size v ll := by
  obtain ⟨vs, h1, h2, h3⟩ := h
  exact h1.rd h2 fun p hp => (h3.1 p hp).rd
theorem IntssO.chg {w w' : World} {lo hi lo' hi' : Nat} {v : Value} {ll : List (List Int)} (h : IntssO w lo hi v ll) (hc : Chg lo' hi' w w') (hd : hi ≤ lo' ∨ hi' ≤ lo) : IntssO w' lo hi v ll := by
  obtain ⟨vs, h1, h2, h3⟩ := h
  exact ⟨vs, h1.chg hc hd, h2, h3.chg hc hd⟩
theorem IntssO.below {w w' : World} {lo hi : Nat} {v : Value} {ll : List (List Int)} (h : IntssO w lo hi v ll) (hb : Below w.heap.size w w') : IntssO w' lo hi v ll := by
  obtain ⟨vs, h1, h2, h3⟩ := h
  exact ⟨vs, h1.below hb, h2, h3.below hb⟩
theorem SlII.chg {w w' : World} {B lo hi : Nat} {v : Value} {ll : List (List Int)} (h : SlII w B v ll) (hc : Chg lo hi w w') (hB : B ≤ lo) (hs : B ≤ w.heap.size) : SlII w' B v ll := SlII.below (hc.below hB hs) h

/-- one row more, of later memory -/
theorem Fam.snoc {w : World} {lo mi hi : Nat} {L : List (Value × List Int)} {v : Value} {l : List Int} (h : Fam w lo mi L) (hv : IntsO w mi hi v l) (h1 : lo ≤ mi) (h2 : mi ≤ hi) : Fam w lo hi (L ++ [(v, l)]) := by
  refine ⟨fun p hp => ?_, ?_⟩
  · rcases List.mem_append.1 hp with hp | hp
    · exact (h.1 p hp).wider (Nat.le_refl _) h2
    · rw [List.mem_singleton] at hp
      subst hp
      exact hv.wider h1 (Nat.le_refl _)
  · rw [List.pairwise_append]
    refine ⟨h.2, by simp, fun a ha b hb => ?_⟩
    rw [List.mem_singleton] at hb
    subst hb
    show a.1.ownBlock = none ∨ a.1.ownBlock ≠ v.ownBlock
    rcases hA : a.1.ownBlock with _ | x
    · exact .inl rfl
    · right
      intro e
      have := (h.1 a ha).2 x hA
      have := (hv.1.lt x e.symm).1
      omega

/-- one row ahead, of earlier memory -/
theorem fam_cons {w : World} {lo mi hi : Nat} {L : List (Value × List Int)} {v : Value} {l : List Int} (hv : IntsO w lo mi v l) (h : Fam w mi hi L) (h1 : lo ≤ mi) (h2 : mi ≤ hi) : Fam w lo hi ([(v, l)] ++ L) := by
  refine ⟨fun p hp => ?_, ?_⟩
  · rcases List.mem_append.1 hp with hp | hp
    · rw [List.mem_singleton] at hp
      subst hp
      exact hv.wider (Nat.le_refl _) h2
    · exact (h.1 p hp).wider h1 (Nat.le_refl _)
  · rw [List.pairwise_append]
    refine ⟨by simp, h.2, fun a ha b hb => ?_⟩
    rw [List.mem_singleton] at ha
    subst ha
    show v.ownBlock = none ∨ v.ownBlock ≠ b.1.ownBlock
    rcases hA : v.ownBlock with _ | x
    · exact .inl rfl
    · right
      intro e
      have := hv.2 x hA
      have := ((h.1 b hb).1.lt x e.symm).1
      omega

def tot (ll : List (List Int)) : Nat := (ll.map List.length).sum
theorem tot_snoc (ll : List (List Int)) (l : List Int) : tot (ll ++ [l]) = tot ll + l.length := by simp [tot]
theorem tot_take_le (ll : List (List Int)) (k : Nat) : tot (ll.take k) ≤ tot ll := by
  have : tot ll = tot (ll.take k) + tot (ll.drop k) := by simp only [tot, ← List.sum_append, ← List.map_append, List.take_append_drop]
  omega
theorem tot_mem {ll : List (List Int)} {l : List Int} (h : l ∈ ll) : l.length ≤ tot ll := by
  induction ll with
  | nil => simp at h
  | cons a r ih =>
    simp only [tot, List.map_cons, List.sum_cons] at ih ⊢
    rcases List.mem_cons.1 h with rfl | h
    · omega
    · have := ih h; omega
/-- marks, list by list -/
def mkSS : Int → List (List Int) → List (List Int)
  | _, [] => []
  | k, l :: r => mkI k l.length :: mkSS (k + l.length) r
theorem mkSS_snoc : ∀ (ll : List (List Int)) (k : Int) (l : List Int), mkSS k (ll ++ [l]) = mkSS k ll ++ [mkI (k + tot ll) l.length]
  | [], k, l => by simp [mkSS, tot]
  | a :: r, k, l => by
    have e : k + (a.length : Int) + (tot r : Int) = k + (tot (a :: r) : Int) := by simp only [tot, List.map_cons, List.sum_cons]; omega
    simp only [List.cons_append, mkSS, mkSS_snoc r, e]
theorem mkSS_length : ∀ (ll : List (List Int)) (k : Int), (mkSS k ll).length = ll.length
  | [], _ => rfl
  | _ :: r, _ => by simp [mkSS, mkSS_length r]
theorem mkSS_get : ∀ (ll : List (List Int)) (k : Int) (j : Nat) (l : List Int), ll[j]? = some l → (mkSS k ll)[j]? = some (mkI (k + tot (ll.take j)) l.length)
  | [], _, _, _, h => by simp at h
  | a :: r, k, 0, l, h => by
    simp at h
    subst h
    simp [mkSS, tot]
  | a :: r, k, j + 1, l, h => by
    simp only [List.getElem?_cons_succ] at h
    have e : k + (a.length : Int) + (tot (r.take j) : Int) = k + (tot ((a :: r).take (j + 1)) : Int) := by simp only [tot, List.take_succ_cons, List.map_cons, List.sum_cons]; omega
    simp only [mkSS, List.getElem?_cons_succ, mkSS_get r (k + a.length) j l h, e]

set_option maxHeartbeats 800000 in
theorem eqIntSS_any (u v : Value) (xs ys : List (List Int)) (w : World) (hu : SlII w w.heap.size u xs) (hv : SlII w w.heap.size v ys) :
    Calls Try.prog 87 #[u, v] w fun e w' => e = .returned (.bool (decide (xs = ys))) ∧ Below w.heap.size w w' := by
  obtain ⟨A, c, rfl, _, _, hn, hx⟩ := hu.open_
  obtain ⟨C, d, rfl, _, _, hm, hy⟩ := hv.open_
  clear hu hv
  by_cases hnm : xs.length = ys.length
  · have heq : ((xs.length : Int) != ys.length) = false := by rw [bne_eq_false_iff_eq]; omega
    have HN := Lib.hid hnm
    clear hnm
    go_enter Try.func87, Try.ntmps87
    go_wp2
    go_loopw [5] (fun i wr => ∃ k : Nat, k ≤ xs.length ∧ i = .int .i64 k ∧ Below w.heap.size w wr ∧ Hid (xs.take k = ys.take k)) (fun i _ => xs.length - (intOf i).toNat)
    case atStart => exact ⟨0, Nat.zero_le _, rfl, Below.refl _ _, rfl⟩
    case round =>
      obtain ⟨k, hk, rfl, hbel, hxy⟩ := hrel
      by_cases hlt : k < xs.length
      · have hlt' : k < ys.length := by have := HN.out; omega
        obtain ⟨b, o, x, A', c', rfl, hb, HX, c1, hsx⟩ := SlII.at_ hx hlt
        obtain ⟨b', o', y, C', d', rfl, hb', HY, c2, hsy⟩ := SlII.at_ hy hlt'
        clear hx hy
        have s := hbel.size
        have d1 := InB.cell (w := wr) (by omega) (bcell hbel hb c1)
        have d2 := InB.cell (w := wr) (by omega) (bcell hbel hb' c2)
        have hsx' : ∀ s : InB wr, SlI s.val s.val.heap.size (.slice A' x.length c') x := fun t => SlI.next t.below (SlI.more s (SlI.below hbel hsx))
        have hsy' : ∀ s : InB wr, SlI s.val s.val.heap.size (.slice C' y.length d') y := fun t => SlI.next t.below (SlI.more s (SlI.below hbel hsy))
        have HSX := Lib.hid hsx'
        have HSY := Lib.hid hsy'
        clear c1 c2 hsx hsy hsx' hsy'
        by_cases hE : x = y
        · have hdE : decide (x = y) = true := by simpa using hE
          have hst := Lib.hid (show xs.take (k + 1) = ys.take (k + 1) by rw [take_snoc HX.out, take_snoc HY.out, hxy.out, hE])
          clear hE
          go_wp2
          (refine wp_region_inB (by kernel_rfl) (by kernel_rfl) ?_; (repeat (go_big_quiet_step ((go_at_call 41; exact InB.call (eqIntS_any _ _ x y _ (HSX.out _) (HSY.out _)))))); refine wpQuiet_nil ?_; intro w1 hw'; obtain ⟨s1, hw1⟩ := hw'; have hb1 := s1.below; rw [← hw1] at hb1; clear hw1 s1)
          go_wp2
          go_roundw
          case rel => exact ⟨k + 1, by omega, by go_num, hbel.trans (hb1.mono s), hst.out⟩
          case measure => simp [intOf]; omega
        · have hdE : decide (x = y) = false := by simpa using hE
          have hne : Hid (xs ≠ ys) := by
            rintro rfl
            have h2 := HX.out
            rw [HY.out] at h2
            exact hE (by injection h2 with h2; exact h2.symm)
          clear hE
          go_wp2
          (refine wp_region_inB (by kernel_rfl) (by kernel_rfl) ?_; (repeat (go_big_quiet_step ((go_at_call 41; exact InB.call (eqIntS_any _ _ x y _ (HSX.out _) (HSY.out _)))))); refine wpQuiet_nil ?_; intro w1 hw'; obtain ⟨s1, hw1⟩ := hw'; have hb1 := s1.below; rw [← hw1] at hb1; clear hw1 s1)
          go_wp2
          go_ret
          exact ⟨by rw [decide_eq_false hne.out]; rfl, hbel.trans (hb1.mono s)⟩
      · go_wp2
        go_ret
        refine ⟨?_, hbel⟩
        have h1 := hxy.out
        rw [List.take_of_length_le (by omega), List.take_of_length_le (by have := HN.out; omega)] at h1
        simp [h1]
  · have hne : ((xs.length : Int) != ys.length) = true := by rw [bne_iff_ne]; omega
    go_enter Try.func87, Try.ntmps87
    go_wp2
    go_ret
    refine ⟨?_, Below.refl _ _⟩
    rw [decide_eq_false (by rintro rfl; omega)]; rfl

/-- the first k cells of a row of slices are laid -/
def OutCs (cs : Array Value) (n : Nat) (vs : List Value) : Prop := cs.size = n ∧ vs.length ≤ n ∧ ∀ (j : Nat) (v : Value), vs[j]? = some v → cs[j]? = some v
theorem OutCs.step {cs : Array Value} {n : Nat} {vs : List Value} {v : Value} (h : OutCs cs n vs) (hn : vs.length < n) : OutCs (cs.setIfInBounds vs.length v) n (vs ++ [v]) := by
  obtain ⟨h1, h2, h3⟩ := h
  refine ⟨by simpa using h1, by simp; omega, fun j u hu => ?_⟩
  by_cases e : j = vs.length
  · subst e
    rw [List.getElem?_append_right (Nat.le_refl _)] at hu
    simp at hu
    subst hu
    simp [Array.getElem?_setIfInBounds]; omega
  · have hj : j < vs.length := by have := lt_of_some hu; simp at this; omega
    rw [List.getElem?_append_left hj] at hu
    rw [Array.getElem?_setIfInBounds, if_neg (by omega)]
    exact h3 j u hu
theorem OutCs.own {w : World} {g lo : Nat} {cs : Array Value} {vs : List Value} (h : OutCs cs vs.length vs) (hb : Blk w g 22 cs) (hlo : lo ≤ g) (hn : vs.length ≤ 17592186044416) : OutO w lo w.heap.size (.slice (some ⟨g, 0, none⟩) vs.length vs.length) vs := by
  have e : cs.toList.take (vs.length * 1) = vs := by
    apply List.ext_getElem?
    intro j
    by_cases hj : j < vs.length
    · rw [List.getElem?_take, if_pos (by omega), Array.getElem?_toList, List.getElem?_eq_getElem hj]
      exact h.2.2 j _ (List.getElem?_eq_getElem hj)
    · rw [List.getElem?_take, if_neg (by omega), List.getElem?_eq_none (by omega)]
  have := hb.own (base := lo) (n := vs.length) (cap := vs.length) (size := 1) hlo (Nat.le_refl _) (by simp only [maxLen]; omega) (by rw [h.1]; omega)
  rw [e] at this
  exact ⟨this, fun k hk => by simp [Value.ownBlock] at hk; subst hk; exact hb.lt, hn⟩

set_option maxHeartbeats 800000 in
theorem intss_to (u : Value) (xs : List (List Int)) (w : World) (hu : SlII w w.heap.size u xs) (hn : xs.length ≤ 1048576) (hm : ∀ l ∈ xs, l.length ≤ 1048576) :
    Calls Try.prog 78 #[u] w fun e w' => ∃ v, e = .returned v ∧ IntssO w' w.heap.size w'.heap.size v xs ∧ Below w.heap.size w w' := by
  obtain ⟨A, c, rfl, _, _, _, hx⟩ := hu.open_
  clear hu
  obtain ⟨i0, hi, hz0, hz1, hz2⟩ := info_parts infoInts
  have hmk := run_mk (P := Try.prog) Try.underlying51 hi hz0 (n := xs.length) (by rw [hz2]; omega) (by omega)
  rw [hz1] at hmk
  have HM := Lib.hid hm
  clear hi hz0 hz1 hz2 hm
  go_enter Try.func78, Try.ntmps78
  go_wp2
  go_loopw [4] (fun i wr => ∃ (cs : Array Value) (vs : List Value), vs.length ≤ xs.length ∧ i = .int .i64 vs.length ∧ Below w.heap.size w wr ∧ Blk wr w.heap.size 22 cs ∧ OutCs cs xs.length vs ∧ Fam wr w.heap.size wr.heap.size (vs.zip (xs.take vs.length))) (fun i _ => xs.length - (intOf i).toNat)
  case atStart => exact ⟨_, [], Nat.zero_le _, rfl, (Below.refl _ _).alloc (Nat.le_refl _) _, Blk.new _ _ _, ⟨by simp [mkCells_size], by simp, fun j v h => by simp at h⟩, ⟨fun p hp => by simp at hp, by simp⟩⟩
  case round =>
    obtain ⟨cs, vs, hk, rfl, hbel, hblk, hcs, hF⟩ := hrel
    by_cases hlt : vs.length < xs.length
    · obtain ⟨b, o, l, A', c', rfl, hb, HX, c1, hsl⟩ := SlII.at_ hx hlt
      have d1 := bcell hbel hb c1
      have hsz := hbel.size
      have hl := HM.out l (List.mem_of_getElem? HX.out)
      clear c1 hx
      go_wp2_with fail
      refine (ints_to _ l _ (SlI.more hsz (SlI.below hbel hsl)) hl).mono ?_; rintro e w1 ⟨v, rfl, hv, hb1⟩
      obtain ⟨A1, c2, rfl, _, _⟩ := hv.1.form
      have hblk1 := hblk.call hb1
      have f0 := hblk1.frozen
      obtain ⟨v0, e0⟩ : ∃ v0, w1.cell? ⟨w.heap.size, vs.length, none⟩ = some v0 := by rw [hblk1.cell]; have := hcs.1; exact ⟨_, Array.getElem?_eq_getElem (by omega)⟩
      have hF1 := (hF.below hb1).snoc hv hsz hb1.size
      have hzip : vs.zip (xs.take vs.length) ++ [(Value.slice A1 l.length c2, l)] = (vs ++ [Value.slice A1 l.length c2]).zip (xs.take (vs ++ [Value.slice A1 l.length c2]).length) := by
        rw [List.length_append, List.length_singleton, take_snoc HX.out, List.zip_append (by simp; omega)]
        rfl
      rw [hzip] at hF1
      have HF1 := Lib.hid hF1
      clear hF hF1 hzip
      go_wp2
      go_roundw
      case rel => exact ⟨_, vs ++ [.slice A1 l.length c2], by simp; omega, by simp, (hbel.trans (hb1.mono hsz)).setCell (by simp) _, hblk1.set_ _ _, hcs.step hlt, (HF1.out.setBlk hblk1 (by decide) _).mono (Nat.le_refl _) (by simp)⟩
      case measure => simp [intOf]; omega
    · have e : vs.length = xs.length := by omega
      have HE := Lib.hid e
      clear e
      go_wp2
      go_ret
      refine ⟨_, rfl, ⟨vs, ?_, HE.out, ?_⟩, hbel⟩
      · have h1 := hcs
        rw [← HE.out] at h1 ⊢
        exact h1.own hblk (Nat.le_refl _) (by omega)
      · have := hF
        rwa [List.take_of_length_le (by have := HE.out; omega)] at this

def szSS (xs : List (List Int)) : Nat := xs.length + tot xs
theorem szSS_take (xs : List (List Int)) (k : Nat) : tot (xs.take k) ≤ tot xs := tot_take_le xs k
set_option maxHeartbeats 800000 in
theorem szIntSS_any (u : Value) (xs : List (List Int)) (left : Int) (w : World) (hu : SlII w w.heap.size u xs) (h0 : 0 ≤ left) (h1 : left ≤ 1048576) :
    Calls Try.prog 73 #[u, .int .i64 left] w fun e w' => e = .returned (.int .i64 (szLeft left (szSS xs))) ∧ Below w.heap.size w w' := by
  obtain ⟨A, c, rfl, _, _, hn, hx⟩ := hu.open_
  clear hu
  by_cases h2 : left < xs.length
  · have h' : left - xs.length < 0 := by omega
    have e : szLeft left (szSS xs) = -1 := by rw [szLeft, if_pos (by simp only [szSS]; omega)]
    rw [e]
    clear e
    go_enter Try.func73, Try.ntmps73
    go_wp2
    go_ret
    exact ⟨rfl, Below.refl _ _⟩
  have h' : ¬ left - (xs.length : Int) < 0 := by omega
  go_enter Try.func73, Try.ntmps73
  go_wp2
  go_loopw [1, 5] (fun q i wr => ∃ (k m : Nat), k ≤ xs.length ∧ i = .int .i64 k ∧ q = .int .i64 (left - xs.length - tot (xs.take k)) ∧ wr = w.drewN m ∧ ((tot (xs.take k) : Nat) : Int) ≤ left - xs.length) (fun _ i _ => xs.length - (intOf i).toNat)
  case atStart => exact ⟨0, 0, Nat.zero_le _, rfl, by simp [tot], rfl, by simp [tot]; omega⟩
  case round =>
    obtain ⟨k, m, hk, rfl, rfl, rfl, hle⟩ := hrel
    obtain ⟨t, ht⟩ : ∃ t, tot (xs.take k) = t := ⟨_, rfl⟩
    rw [ht] at hle ⊢
    by_cases hlt : k < xs.length
    · obtain ⟨b, o, l, A', c', rfl, hb, HX, c1, hsl⟩ := SlII.at_ hx hlt
      have hll : l.length ≤ 17592186044416 := by obtain ⟨_, _, _, _, _, h, _⟩ := hsl; exact h
      have htk : tot (xs.take (k + 1)) = t + l.length := by rw [take_snoc HX.out, tot_snoc, ht]
      have htt := tot_take_le xs (k + 1)
      rw [htk] at htt
      have HTK := Lib.hid htk
      clear hx htk ht
      by_cases h3 : left - xs.length - t < l.length
      · have s1 : szLeft (left - xs.length - t) l.length = -1 := by rw [szLeft, if_pos h3]
        have hfin := Lib.hid (show szLeft left (szSS xs) = -1 by rw [szLeft, if_pos (by simp only [szSS]; omega)])
        go_wp2_with fail
        refine (szIntS_any _ _ _ _ _ hll (by omega) (by omega)).mono ?_; rintro e w' ⟨rfl, rfl⟩
        go_wp2
        go_ret
        exact ⟨by rw [hfin.out]; rfl, drewN_below _ _ _⟩
      · have s1 : szLeft (left - xs.length - t) l.length = left - xs.length - t - l.length := by rw [szLeft, if_neg h3]
        have n1 : ¬ left - (xs.length : Int) - t - l.length < 0 := by omega
        go_wp2_with fail
        refine (szIntS_any _ _ _ _ _ hll (by omega) (by omega)).mono ?_; rintro e w' ⟨rfl, rfl⟩
        go_wp2
        go_roundw
        case rel => exact ⟨k + 1, m, by omega, by go_num, by rw [HTK.out]; congr 1; omega, rfl, by rw [HTK.out]; omega⟩
        case measure => simp [intOf]; omega
    · have hfin := Lib.hid (show szLeft left (szSS xs) = left - xs.length - t by
        rw [← ht, List.take_of_length_le (by omega)] at hle ⊢
        rw [szLeft, if_neg (by simp only [szSS]; omega)]; simp only [szSS]; omega)
      clear ht
      go_wp2
      go_ret
      exact ⟨by rw [hfin.out]; rfl, drewN_below _ _ _⟩

theorem zip_split {vs : List Value} {ll : List (List Int)} {j : Nat} {v : Value} {l : List Int} (hv : vs[j]? = some v) (hl : ll[j]? = some l) : vs.zip ll = (vs.take j).zip (ll.take j) ++ (v, l) :: (vs.drop (j + 1)).zip (ll.drop (j + 1)) := by
  have e1 : vs = vs.take j ++ v :: vs.drop (j + 1) := by
    conv => lhs; rw [← List.take_append_drop j vs]
    rw [List.drop_eq_getElem_cons (lt_of_some hv)]
    have : vs[j]'(lt_of_some hv) = v := by rw [List.getElem?_eq_getElem (lt_of_some hv)] at hv; injection hv
    rw [this]
  have e2 : ll = ll.take j ++ l :: ll.drop (j + 1) := by
    conv => lhs; rw [← List.take_append_drop j ll]
    rw [List.drop_eq_getElem_cons (lt_of_some hl)]
    have : ll[j]'(lt_of_some hl) = l := by rw [List.getElem?_eq_getElem (lt_of_some hl)] at hl; injection hl
    rw [this]
  conv => lhs; rw [e1, e2]
  rw [List.zip_append (by simp; have := lt_of_some hv; have := lt_of_some hl; omega)]
  rfl
/-- behind j rounds of marking -/
def mkTo (k : Int) (ll : List (List Int)) (j : Nat) : List (List Int) := mkSS k (ll.take j) ++ ll.drop j
theorem mkTo_get {k : Int} {ll : List (List Int)} {j : Nat} (hj : j < ll.length) : (mkTo k ll j)[j]? = some ll[j] := by
  rw [mkTo, List.getElem?_append_right (by rw [mkSS_length]; simp; omega), mkSS_length, List.getElem?_drop]
  rw [List.length_take, Nat.min_eq_left (by omega)]
  simp [hj]
theorem mkTo_succ {k : Int} {ll : List (List Int)} {j : Nat} {l : List Int} (hl : ll[j]? = some l) : (mkTo k ll j).take j ++ mkI (k + tot (ll.take j)) l.length :: (mkTo k ll j).drop (j + 1) = mkTo k ll (j + 1) := by
  have hj := lt_of_some hl
  have hlen : (mkSS k (ll.take j)).length = j := by rw [mkSS_length]; simp; omega
  have e1 : (mkTo k ll j).take j = mkSS k (ll.take j) := by
    rw [mkTo]
    conv => lhs; arg 1; rw [← hlen]
    rw [List.take_left' rfl]
  have e2 : (mkTo k ll j).drop (j + 1) = ll.drop (j + 1) := by
    rw [mkTo, List.drop_append, hlen, List.drop_of_length_le (by omega)]
    rw [show j + 1 - j = 1 by omega, List.drop_drop]
    rfl
  rw [e1, e2, mkTo, take_snoc hl, mkSS_snoc]
  simp

set_option maxHeartbeats 1600000 in
/-- marks, beside other rows -/
theorem markIntSS_fam (v : Value) (vs : List Value) (ll : List (List Int)) (L0 : List (Value × List Int)) (k : Int) (lo hi : Nat) (w : World) (ho : OutO w lo hi v vs) (hl : vs.length = ll.length) (hF : Fam w lo hi (L0 ++ vs.zip ll)) (h0 : 0 ≤ k) (h1 : k ≤ 1125899906842624) (ht : tot ll ≤ 17592186044416) :
    Calls Try.prog 88 #[v, .int .i64 k] w fun e w' => e = .returned (.int .i64 (k + tot ll)) ∧ OutO w' lo hi v vs ∧ Fam w' lo hi (L0 ++ vs.zip (mkSS k ll)) ∧ Chg lo hi w w' := by
  obtain ⟨A, c, rfl, _, _⟩ := ho.form
  have hn := ho.2.2
  have HL := Lib.hid hl
  clear hl
  go_enter Try.func88, Try.ntmps88
  go_wp2
  go_loopw [1, 5] (fun q i wr => ∃ j : Nat, j ≤ vs.length ∧ i = .int .i64 j ∧ q = .int .i64 (k + tot (ll.take j)) ∧ OutO wr lo hi (.slice A vs.length c) vs ∧ Fam wr lo hi (L0 ++ vs.zip (mkTo k ll j)) ∧ Chg lo hi w wr) (fun _ i _ => vs.length - (intOf i).toNat)
  case atStart => exact ⟨0, Nat.zero_le _, rfl, by simp [tot], ho, by simpa [mkTo, mkSS] using hF, Chg.refl _ _ _⟩
  case round =>
    clear ho hF
    obtain ⟨j, hj, rfl, rfl, ho, hF, hc⟩ := hrel
    obtain ⟨t, htt⟩ : ∃ t, tot (ll.take j) = t := ⟨_, rfl⟩
    have htle := tot_take_le ll j
    rw [htt] at htle ⊢
    by_cases hlt : j < vs.length
    · have hjl : j < ll.length := by have := HL.out; omega
      obtain ⟨g, rfl, hcell⟩ : ∃ g, A = some ⟨g, 0, none⟩ ∧ wr.cell? ⟨g, j, none⟩ = some (vs[j]'hlt) := by
        rcases ho.1.2 with ⟨_, h0⟩ | ⟨g, cap, cur, e, _⟩
        · omega
        · injection e with e1 e2 e3
          subst e1 e3
          have hc := ho.1.cellAt j (by omega)
          rw [List.getElem?_eq_getElem hlt] at hc
          exact ⟨g, rfl, hc⟩
      have hvj : vs[j]? = some vs[j] := List.getElem?_eq_getElem hlt
      have hlj : ll[j]? = some ll[j] := List.getElem?_eq_getElem hjl
      have hsp := zip_split hvj (mkTo_get (k := k) hjl)
      rw [hsp, ← List.append_assoc] at hF
      have hv := (hF.1 (vs[j], ll[j]) (by simp))
      have hts := tot_take_le ll (j + 1)
      have hlen := hv.1.2.1
      obtain ⟨A', c', hform, _, _⟩ := hv.1.form
      have htk : tot (ll.take (j + 1)) = t + ll[j].length := by rw [take_snoc hlj, tot_snoc, htt]
      generalize hl' : ll[j] = l at *
      generalize hv' : vs[j] = u at *
      simp only at hform
      subst hform
      have HV := Lib.hid hvj
      have HLJ := Lib.hid hlj
      have HT := Lib.hid htk
      have HTT := Lib.hid htt
      clear hsp hvj hlj htk hl' hv' htt
      go_wp2_with fail
      refine (markIntS_any _ l _ lo _ hv.1 (by omega) (by omega)).mono ?_; rintro e w1 ⟨rfl, ho1, hg1⟩
      have hF1 := hF.turn ho1 hg1
      have hc1 := chg_of_grown hv hg1
      have ho2 := ho.grown hv.1 hg1
      have hF2 : Fam w1 lo hi (L0 ++ vs.zip (mkTo k ll (j + 1))) := by
        have e : vs.zip (mkTo k ll (j + 1)) = (vs.take j).zip ((mkTo k ll j).take j) ++ (.slice A' l.length c', mkI (k + t) l.length) :: (vs.drop (j + 1)).zip ((mkTo k ll j).drop (j + 1)) := by
          have h2 := mkTo_succ (k := k) HLJ.out
          rw [HTT.out] at h2
          rw [← h2]
          have h3 : ((mkTo k ll j).take j ++ mkI (k + t) l.length :: (mkTo k ll j).drop (j + 1))[j]? = some (mkI (k + t) l.length) := by
            have hlen : ((mkTo k ll j).take j).length = j := by simp [mkTo, mkSS_length]; omega
            rw [List.getElem?_append_right (by omega), hlen]
            simp
          rw [zip_split HV.out h3]
          have hlen : ((mkTo k ll j).take j).length = j := by simp [mkTo, mkSS_length]; omega
          congr 1
          · congr 1
            rw [List.take_append_of_le_length (by omega), List.take_take, Nat.min_self]
          · congr 2
            rw [List.drop_append, hlen, List.drop_of_length_le (by omega)]
            rw [show j + 1 - j = 1 by omega]
            rfl
        rw [e, ← List.append_assoc]
        exact hF1
      clear hF hF1 hv ho ho1 hg1 hcell
      go_wp2
      go_roundw
      case rel => exact ⟨j + 1, by omega, by go_num, by rw [HT.out]; congr 1; omega, ho2, hF2, hc.trans hc1⟩
      case measure => simp [intOf]; omega
    · have hjl : j = ll.length := by have := HL.out; omega
      have HJ := Lib.hid hjl
      have HTT := Lib.hid htt
      clear hjl htt
      go_wp2
      go_ret
      have e1 : tot ll = t := by rw [← HTT.out, HJ.out, List.take_length]
      have e2 : mkTo k ll j = mkSS k ll := by rw [mkTo, HJ.out, List.take_length, List.drop_length, List.append_nil]
      rw [e2] at hF
      exact ⟨by rw [e1]; rfl, ho, hF, hc⟩
theorem intss_mark (v : Value) (ll : List (List Int)) (k : Int) (lo hi : Nat) (w : World) (hv : IntssO w lo hi v ll) (h0 : 0 ≤ k) (h1 : k ≤ 1125899906842624) (ht : tot ll ≤ 17592186044416) :
    Calls Try.prog 88 #[v, .int .i64 k] w fun e w' => e = .returned (.int .i64 (k + tot ll)) ∧ IntssO w' lo hi v (mkSS k ll) ∧ Chg lo hi w w' := by
  obtain ⟨vs, h2, h3, h4⟩ := hv
  exact (markIntSS_fam v vs ll [] k lo hi w h2 h3 h4 h0 h1 ht).mono fun _ _ ⟨a, b, c, d⟩ => ⟨a, ⟨vs, b, by rw [mkSS_length]; exact h3, c⟩, d⟩
end Go.Proofs.Ytcmlflppndfdcaa

/- What every law goes through: filtrations. -/
namespace Go.Proofs.Ytcmlflppndfdcaa
set_option linter.unusedVariables false
set_option linter.unusedSimpArgs false
open Go.RowKit

/-- A filtration as data. -/
structure Filt where
  stages : Int
  birth : List Int
  ends : List (List Int)
deriving DecidableEq
def Filt.size (f : Filt) : Nat := f.birth.length + szSS f.ends
theorem filt_ext (p q : Filt) : (p = q) ↔ (p.stages = q.stages ∧ p.birth = q.birth ∧ p.ends = q.ends) := by
  cases p; cases q; simp

def FiR (w : World) (B : Nat) (val : Value) (f : Filt) : Prop := ∃ a b, val = .agg #[.int .i64 f.stages, a, b] ∧ SlI w B a f.birth ∧ SlII w B b f.ends ∧ I64 f.stages
theorem FiR.next {w w' : World} {v : Value} {q : Filt} (hb : Below w.heap.size w w') (h : FiR w w.heap.size v q) : FiR w' w'.heap.size v q := by
  obtain ⟨a, b, e, h1, h2, h3⟩ := h
  exact ⟨a, b, e, SlI.next hb h1, SlII.next hb h2, h3⟩
theorem FiR.below {w w' : World} {B : Nat} {v : Value} {q : Filt} (hb : Below B w w') (h : FiR w B v q) : FiR w' B v q := by
  obtain ⟨a, b, e, h1, h2, h3⟩ := h
  exact ⟨a, b, e, SlI.below hb h1, SlII.below hb h2, h3⟩
theorem FiR.more {w : World} {B B' : Nat} {v : Value} {q : Filt} (hB : B ≤ B') (h : FiR w B v q) : FiR w B' v q := by
  obtain ⟨a, b, e, h1, h2, h3⟩ := h
  exact ⟨a, b, e, SlI.more hB h1, SlII.more hB h2, h3⟩
theorem FiR.chg {w w' : World} {B lo hi : Nat} {v : Value} {q : Filt} (h : FiR w B v q) (hc : Chg lo hi w w') (hB : B ≤ lo) (hs : B ≤ w.heap.size) : FiR w' B v q := FiR.below (hc.below hB hs) h
theorem FiR.open_ {w : World} {B : Nat} {v : Value} {q : Filt} (h : FiR w B v q) : ∃ A c C d, v = .agg #[.int .i64 q.stages, .slice A q.birth.length c, .slice C q.ends.length d] ∧ SlI w B (.slice A q.birth.length c) q.birth ∧ SlII w B (.slice C q.ends.length d) q.ends ∧ I64 q.stages ∧ q.birth.length ≤ 17592186044416 ∧ q.ends.length ≤ 17592186044416 := by
  obtain ⟨a, b, rfl, h1, h2, h3⟩ := h
  obtain ⟨A, c, rfl, _, _, h4, h1⟩ := h1.open_
  obtain ⟨C, d, rfl, _, _, h5, h2⟩ := h2.open_
  exact ⟨A, c, C, d, rfl, h1, h2, h3, h4, h5⟩
theorem FiR.form {w : World} {B : Nat} {v : Value} {q : Filt} (h : FiR w B v q) : ∃ A c C d, v = .agg #[.int .i64 q.stages, .slice A q.birth.length c, .slice C q.ends.length d] := by
  obtain ⟨A, c, C, d, e, _⟩ := h.open_
  exact ⟨A, c, C, d, e⟩
theorem FiR.lens {w : World} {B : Nat} {v : Value} {q : Filt} (h : FiR w B v q) : q.birth.length ≤ 17592186044416 ∧ q.ends.length ≤ 17592186044416 := by
  obtain ⟨A, c, C, d, e, _, _, _, h1, h2⟩ := h.open_
  exact ⟨h1, h2⟩
def FiO (w : World) (lo hi : Nat) (val : Value) (f : Filt) : Prop := ∃ a b vs, val = .agg #[.int .i64 f.stages, a, b] ∧ OutO w lo hi b vs ∧ vs.length = f.ends.length ∧ Fam w lo hi ([(a, f.birth)] ++ vs.zip f.ends) ∧ I64 f.stages
theorem FiO.rd {w : World} {lo hi : Nat} {v : Value} {q : Filt} (h : FiO w lo hi v q) : FiR w w.heap.size v q := by
  obtain ⟨a, b, vs, e, h1, h2, h3, h4⟩ := h
  exact ⟨a, b, e, (h3.1 (a, q.birth) (by simp)).rd, h1.rd h2 fun p hp => (h3.1 p (by simp [hp])).rd, h4⟩
theorem FiO.form {w : World} {lo hi : Nat} {v : Value} {q : Filt} (h : FiO w lo hi v q) : ∃ A c C d, v = .agg #[.int .i64 q.stages, .slice A q.birth.length c, .slice C q.ends.length d] := h.rd.form
theorem FiO.chg {w w' : World} {lo hi lo' hi' : Nat} {v : Value} {q : Filt} (h : FiO w lo hi v q) (hc : Chg lo' hi' w w') (hd : hi ≤ lo' ∨ hi' ≤ lo) : FiO w' lo hi v q := by
  obtain ⟨a, b, vs, e, h1, h2, h3, h4⟩ := h
  exact ⟨a, b, vs, e, h1.chg hc hd, h2, h3.chg hc hd, h4⟩
theorem FiO.below {w w' : World} {lo hi : Nat} {v : Value} {q : Filt} (h : FiO w lo hi v q) (hb : Below w.heap.size w w') : FiO w' lo hi v q := by
  obtain ⟨a, b, vs, e, h1, h2, h3, h4⟩ := h
  exact ⟨a, b, vs, e, h1.below hb, h2, h3.below hb, h4⟩
def FiO.mk (k : Int) (q : Filt) : Filt := ⟨q.stages, mkI k q.birth.length, mkSS (k + q.birth.length) q.ends⟩

set_option maxHeartbeats 400000 in
theorem eqFiltration_any (u v : Value) (p q : Filt) (w : World) (hu : FiR w w.heap.size u p) (hv : FiR w w.heap.size v q) :
    Calls Try.prog 30 #[u, v] w fun e w' => e = .returned (.bool (decide (p = q))) ∧ Below w.heap.size w w' := by
  obtain ⟨A, c, C, d, rfl, hf, ht, _, _, _⟩ := hu.open_
  obtain ⟨A', c', C', d', rfl, hf', ht', _, _, _⟩ := hv.open_
  clear hu hv
  have g0 : Below w.heap.size w ((w.alloc (.cells #[.int .i64 p.stages, .slice A p.birth.length c, .slice C p.ends.length d] 56)).alloc (.cells #[.int .i64 q.stages, .slice A' q.birth.length c', .slice C' q.ends.length d'] 56)) := ((Below.refl _ _).alloc (Nat.le_refl _) _).alloc (by simp) _
  by_cases h1 : p.stages = q.stages
  · have e1 : (p.stages != q.stages) = false := by rw [h1]; simp
    have H1 := Lib.hid h1
    clear h1
    by_cases h2 : p.birth = q.birth
    · have e2 : decide (p.birth = q.birth) = true := by simpa using h2
      have H2 := Lib.hid h2
      clear h2
      obtain ⟨B, hB⟩ : ∃ B, decide (p.ends = q.ends) = B := ⟨_, rfl⟩
      have HB := Lib.hid hB
      have hfin : decide (p = q) = B := by
        rw [← hB, decide_eq_decide, filt_ext]
        exact ⟨fun h => h.2.2, fun h => ⟨H1.out, H2.out, h⟩⟩
      rw [hfin]
      clear hfin
      go_enter Try.func30, Try.ntmps30
      go_wp2_with fail
      refine (eqIntS_any _ _ _ _ _ (SlI.next g0 hf) (SlI.next g0 hf')).mono ?_; rintro e w1 ⟨rfl, hb1⟩
      have g1 := bthen g0 hb1
      have bc := (((Blk.new w 56 #[.int .i64 p.stages, .slice A p.birth.length c, .slice C p.ends.length d]).alloc _).call hb1).cell' (i := 2) rfl
      have bd := ((Blk.new (w.alloc _) 56 #[.int .i64 q.stages, .slice A' q.birth.length c', .slice C' q.ends.length d']).call hb1).cell' (i := 2) rfl
      simp only [World.size_alloc] at bd
      go_wp2_with fail
      refine (eqIntSS_any _ _ _ _ _ (SlII.next g1 ht) (SlII.next g1 ht')).mono ?_; rintro e w2 ⟨rfl, hb2⟩
      rw [hB]
      clear hB
      go_wp2
      all_goals (go_ret; simp_all; exact bthen g1 hb2)
    · have e2 : decide (p.birth = q.birth) = false := by simpa using h2
      have hfin : decide (p = q) = false := by
        simp only [decide_eq_false_iff_not, filt_ext]
        exact fun h => h2 h.2.1
      rw [hfin]
      clear hfin h2
      go_enter Try.func30, Try.ntmps30
      go_wp2_with fail
      refine (eqIntS_any _ _ _ _ _ (SlI.next g0 hf) (SlI.next g0 hf')).mono ?_; rintro e w1 ⟨rfl, hb1⟩
      go_wp2
      go_ret
      exact ⟨rfl, bthen g0 hb1⟩
  · have e1 : (p.stages != q.stages) = true := by simpa using h1
    have hfin : decide (p = q) = false := by
      simp only [decide_eq_false_iff_not, filt_ext]
      exact fun h => h1 h.1
    rw [hfin]
    clear hfin h1
    go_enter Try.func30, Try.ntmps30
    go_wp2
    go_ret
    exact ⟨rfl, g0⟩

theorem szFiltration_any (u : Value) (q : Filt) (left : Int) (w : World) (hu : FiR w w.heap.size u q) (h0 : 0 ≤ left) (h1 : left ≤ 1048576) :
    Calls Try.prog 26 #[u, .int .i64 left] w fun e w' => e = .returned (.int .i64 (szLeft left q.size)) ∧ Below w.heap.size w w' := by
  obtain ⟨A, c, C, d, rfl, hf, ht, hr, lf, lt⟩ := hu.open_
  clear hu hr
  have cB := (Blk.new w 53 #[.int .i64 q.stages, .slice A q.birth.length c, .slice C q.ends.length d]).cell' (i := 2) rfl
  have g0 := below_alloc w (.cells #[.int .i64 q.stages, .slice A q.birth.length c, .slice C q.ends.length d] 53)
  by_cases h2 : left < q.birth.length
  · have s1 : szLeft left q.birth.length = -1 := by rw [szLeft, if_pos h2]
    have e : szLeft left q.size = -1 := by rw [szLeft, if_pos (by simp only [Filt.size]; omega)]
    rw [e]
    clear e
    go_enter Try.func26, Try.ntmps26
    go_wp2_with fail
    refine (szIntS_any _ _ _ _ _ lf h0 h1).mono ?_; rintro e w' ⟨rfl, rfl⟩
    go_wp2
    go_ret
    exact ⟨rfl, g0⟩
  · have s1 : szLeft left q.birth.length = left - q.birth.length := by rw [szLeft, if_neg h2]
    have n1 : ¬ left - (q.birth.length : Int) < 0 := by omega
    obtain ⟨z, hz⟩ : ∃ z, szSS q.ends = z := ⟨_, rfl⟩
    by_cases h3 : left - q.birth.length < z
    · have s2 : szLeft (left - q.birth.length) z = -1 := by rw [szLeft, if_pos h3]
      have e : szLeft left q.size = -1 := by rw [szLeft, if_pos (by simp only [Filt.size]; omega)]
      rw [e]
      clear e
      go_enter Try.func26, Try.ntmps26
      go_wp2_with fail
      refine (szIntS_any _ _ _ _ _ lf h0 h1).mono ?_; rintro e w' ⟨rfl, rfl⟩
      go_wp2_with fail
      refine (szIntSS_any _ _ (left - q.birth.length) _ (SlII.next g0 ht) (by omega) (by omega)).mono ?_; rintro e w2 ⟨rfl, hb2⟩
      rw [hz]
      go_wp2
      go_ret
      exact ⟨rfl, bthen g0 hb2⟩
    · have s2 : szLeft (left - q.birth.length) z = left - q.birth.length - z := by rw [szLeft, if_neg h3]
      have n2 : ¬ left - (q.birth.length : Int) - z < 0 := by omega
      have e : szLeft left q.size = left - q.birth.length - z := by rw [szLeft, if_neg (by simp only [Filt.size]; omega)]; simp only [Filt.size]; omega
      rw [e]
      clear e
      go_enter Try.func26, Try.ntmps26
      go_wp2_with fail
      refine (szIntS_any _ _ _ _ _ lf h0 h1).mono ?_; rintro e w' ⟨rfl, rfl⟩
      go_wp2_with fail
      refine (szIntSS_any _ _ (left - q.birth.length) _ (SlII.next g0 ht) (by omega) (by omega)).mono ?_; rintro e w2 ⟨rfl, hb2⟩
      rw [hz]
      go_wp2
      go_ret
      exact ⟨rfl, bthen g0 hb2⟩

set_option maxHeartbeats 400000 in
theorem filt_mark (v : Value) (q : Filt) (k : Int) (lo hi : Nat) (w : World) (hv : FiO w lo hi v q) (hh : hi ≤ w.heap.size) (h0 : 0 ≤ k) (h1 : k ≤ 1099511627776) (hsz : q.size ≤ 1048576) :
    Calls Try.prog 31 #[v, .int .i64 k] w fun e w' => e = .returned (.int .i64 (k + q.birth.length + tot q.ends)) ∧ FiO w' lo hi v (FiO.mk k q) ∧ Chg lo hi w w' := by
  obtain ⟨a, b, vs, rfl, ho, hl, hF, hr⟩ := hv
  have HL := Lib.hid hl
  clear hl
  have fa : OwnI w lo a q.birth := (hF.1 (a, q.birth) (by simp)).1
  obtain ⟨A, c, rfl, _, _⟩ := fa.form
  obtain ⟨C, d, rfl, _, _⟩ := ho.form
  have la := fa.2.1
  simp only [Filt.size, szSS] at hsz
  have g0 := below_alloc w (.cells #[.int .i64 q.stages, .slice A q.birth.length c, .slice C vs.length d] 56)
  have hF0 := hF.below g0
  have ho0 := ho.below g0
  go_enter Try.func31, Try.ntmps31
  go_wp2_with fail
  refine (markIntS_any _ _ _ lo _ (hF0.1 (_, q.birth) (by simp)).1 h0 (by omega)).mono ?_; rintro e w1 ⟨rfl, ho1, hg1⟩
  have hF1 := hF0.turn (L1 := []) ho1 hg1
  have hoo := ho0.grown (hF0.1 (_, q.birth) (by simp)).1 hg1
  have hc1 := chg_of_grown (hF0.1 (_, q.birth) (by simp)) hg1
  have cB := ((Blk.new w 56 #[.int .i64 q.stages, .slice A q.birth.length c, .slice C vs.length d]).chg hc1 (.inr hh)).cell' (i := 2) rfl
  clear hF hF0 ho1 hg1 fa ho0
  go_wp2_with fail
  refine (markIntSS_fam _ vs q.ends [(_, mkI k q.birth.length)] _ lo hi _ hoo HL.out hF1 (by omega) (by omega) (by omega)).mono ?_; rintro e w2 ⟨rfl, ho2, hF2, hc2⟩
  go_wp2
  go_ret
  exact ⟨rfl, ⟨_, _, vs, rfl, ho2, by simp [FiO.mk, mkSS_length, HL.out], hF2, hr⟩, (Chg.of_below g0).trans (hc1.trans hc2)⟩

set_option maxHeartbeats 800000 in
theorem filt_to (u : Value) (q : Filt) (w : World) (hu : FiR w w.heap.size u q) (hn : q.size ≤ 1048576) :
    Calls Try.prog 28 #[u] w fun e w' => ∃ v, e = .returned v ∧ FiO w' w.heap.size w'.heap.size v q ∧ Below w.heap.size w w' := by
  obtain ⟨A, c, C, d, rfl, hf, ht, hr, _, _⟩ := hu.open_
  clear hu
  unfold Filt.size szSS at hn
  obtain ⟨Wa, hWa⟩ : ∃ W, W = (w.alloc (.cells #[.int .i64 q.stages, .slice A q.birth.length c, .slice C q.ends.length d] 53)).alloc (.cells #[.int .i64 0, .slice none 0 0, .slice none 0 0] 56) := ⟨_, rfl⟩
  obtain ⟨Wb, hWb⟩ : ∃ W, W = Wa.alloc (.cells #[.int .i64 q.stages, .slice none 0 0, .slice none 0 0] 56) := ⟨_, rfl⟩
  have za : Wa.heap.size = w.heap.size + 1 + 1 := by rw [hWa]; simp
  have zb : Wb.heap.size = w.heap.size + 1 + 1 + 1 := by rw [hWb]; simp [za]
  have kp : Blk Wb w.heap.size 53 #[.int .i64 q.stages, .slice A q.birth.length c, .slice C q.ends.length d] := by rw [hWb, hWa]; exact ((Blk.new _ _ _).alloc _).alloc _
  have kr : Blk Wb (w.heap.size + 1) 56 #[.int .i64 0, .slice none 0 0, .slice none 0 0] := by
    rw [hWb, hWa]
    have := (Blk.new (w.alloc (.cells #[.int .i64 q.stages, .slice A q.birth.length c, .slice C q.ends.length d] 53)) 56 #[.int .i64 0, .slice none 0 0, .slice none 0 0]).alloc (.cells #[.int .i64 q.stages, .slice none 0 0, .slice none 0 0] 56)
    simpa only [World.size_alloc] using this
  have ko : Blk Wb (w.heap.size + 1 + 1) 56 #[.int .i64 q.stages, .slice none 0 0, .slice none 0 0] := by
    rw [hWb, ← za]; exact Blk.new _ _ _
  have gb : Below w.heap.size w Wb := by rw [hWb, hWa]; exact (((Below.refl _ _).alloc (Nat.le_refl _) _).alloc (by simp) _).alloc (by simp; omega) _
  have ZB := Lib.hid zb
  clear za zb
  go_enter Try.func28, Try.ntmps28
  go_wp2_with fail
  rw [← hWa, ← hWb]
  clear hWa hWb
  refine (ints_to _ _ _ (SlI.next gb hf) (by omega)).mono ?_; rintro e w1 ⟨a, rfl, ha, hb1⟩
  obtain ⟨A1, c1, rfl, _, _⟩ := ha.1.form
  have kp1 := kp.call hb1
  have ko1 := ko.call hb1
  have kr1 := kr.call hb1
  have p2 := kp1.cell' (i := 2) rfl
  have o1 := ko1.cell' (i := 1) rfl
  have fo := ko1.frozen
  have g1 := bthen gb hb1
  have sz1 := ZB.out
  have s1 := hb1.size
  have gs : Below w.heap.size w (w1.setCell ⟨w.heap.size + 1 + 1, 1, none⟩ (.slice A1 q.birth.length c1)) := g1.setCell (by simp; omega) _
  have ha' : IntsO (w1.setCell ⟨w.heap.size + 1 + 1, 1, none⟩ (.slice A1 q.birth.length c1)) Wb.heap.size w1.heap.size (.slice A1 q.birth.length c1) q.birth := ha.set (by simp; omega) _
  clear sz1 s1
  go_wp2_with fail
  clear p2 o1 fo
  obtain ⟨Wc, hWc⟩ : ∃ W, W = w1.setCell ⟨w.heap.size + 1 + 1, 1, none⟩ (.slice A1 q.birth.length c1) := ⟨_, rfl⟩
  have zc : Wc.heap.size = w1.heap.size := by rw [hWc]; simp
  have kr' : Blk Wc (w.heap.size + 1) 56 #[.int .i64 0, .slice none 0 0, .slice none 0 0] := by rw [hWc]; exact kr1.far (by simp) _
  have ko' : Blk Wc (w.heap.size + 1 + 1) 56 #[.int .i64 q.stages, .slice A1 q.birth.length c1, .slice none 0 0] := by rw [hWc]; exact ko1.set_ 1 _
  rw [← hWc] at gs ha' ⊢
  clear hWc kr1 ko1 kp1 kp kr ko
  refine (intss_to _ _ _ (SlII.next gs ht) (by omega) (fun l hl => by have := tot_mem hl; omega)).mono ?_; rintro e w2 ⟨b, rfl, hb, hb2⟩
  obtain ⟨vs, ho, hvl, hFv⟩ := hb
  have HL := Lib.hid hvl
  clear hvl
  obtain ⟨C1, d1, rfl, _, _⟩ := ho.form
  have ko2 := ko'.call hb2
  have kr2 := kr'.call hb2
  have o0 := ko2.cell' (i := 0) rfl
  have o1 := ko2.cell' (i := 1) rfl
  have o2 := ko2.cell' (i := 2) rfl
  have fo := ko2.frozen
  have r0 := kr2.cell' (i := 0) rfl
  have r1 := kr2.cell' (i := 1) rfl
  have r2 := kr2.cell' (i := 2) rfl
  have fr := kr2.frozen
  have ZC := Lib.hid zc
  clear zc
  go_wp2
  have zb := ZB.out
  have zc := ZC.out
  have s1 := hb1.size
  have s2 := hb2.size
  have g2 := bthen gs hb2
  have h3 : IntsO w2 Wb.heap.size w1.heap.size (.slice A1 q.birth.length c1) q.birth := ha'.below hb2
  have hF : Fam w2 w.heap.size w2.heap.size ([(.slice A1 q.birth.length c1, q.birth)] ++ vs.zip q.ends) := fam_cons (mi := Wc.heap.size) (h3.wider (by omega) (by omega)) hFv (by omega) hb2.size
  have hO := ho.mono (lo' := w.heap.size) (by omega) (Nat.le_refl _)
  refine bodyPost_ret (v := .agg #[.int .i64 q.stages, .slice A1 q.birth.length c1, .slice C1 vs.length d1]) (by simp [results, go_sem, r0, r1, r2]) rfl ⟨_, rfl, ⟨_, _, vs, rfl, ?_, HL.out, ?_, hr⟩, (((g2.setCell (by simp; omega) _).setCell (by simp) _).setCell (by simp) _).setCell (by simp) _⟩
  · have e1 := hO.set ko2 (by decide) 2 (.slice C1 vs.length d1)
    have e2 := e1.set (kr2.far (p := ⟨w.heap.size + 1 + 1, 2, none⟩) (by simp) (.slice C1 vs.length d1)) (by decide) 0 (.int .i64 q.stages)
    have e3 := e2.set ((kr2.far (p := ⟨w.heap.size + 1 + 1, 2, none⟩) (by simp) (.slice C1 vs.length d1)).set_ 0 _) (by decide) 1 (.slice A1 q.birth.length c1)
    have e4 := e3.set (((kr2.far (p := ⟨w.heap.size + 1 + 1, 2, none⟩) (by simp) (.slice C1 vs.length d1)).set_ 0 _).set_ 1 _) (by decide) 2 (.slice C1 vs.length d1)
    simpa using e4
  · have e1 := hF.setBlk (i := 2) ko2 (by decide) (.slice C1 vs.length d1)
    have e2 := e1.setBlk (i := 0) (kr2.far (p := ⟨w.heap.size + 1 + 1, 2, none⟩) (by simp) (.slice C1 vs.length d1)) (by decide) (.int .i64 q.stages)
    have e3 := e2.setBlk (i := 1) ((kr2.far (p := ⟨w.heap.size + 1 + 1, 2, none⟩) (by simp) (.slice C1 vs.length d1)).set_ 0 _) (by decide) (.slice A1 q.birth.length c1)
    have e4 := e3.setBlk (i := 2) (((kr2.far (p := ⟨w.heap.size + 1 + 1, 2, none⟩) (by simp) (.slice C1 vs.length d1)).set_ 0 _).set_ 1 _) (by decide) (.slice C1 vs.length d1)
    simpa using e4
end Go.Proofs.Ytcmlflppndfdcaa

/- Small functions of numbers. -/
namespace Go.Proofs.Ytcmlflppndfdcaa
set_option linter.unusedVariables false
set_option linter.unusedSimpArgs false
open Go.RowKit

/-- Whether a number lies in a range. -/
def inR (n lo hi : Int) : Bool := decide (lo ≤ n ∧ n ≤ hi)
theorem inR_t {n lo hi : Int} : inR n lo hi = true ↔ lo ≤ n ∧ n ≤ hi := by simp [inR]
theorem inR_f {n lo hi : Int} : inR n lo hi = false ↔ ¬ (lo ≤ n ∧ n ≤ hi) := by simp [inR]
theorem within_any (n lo hi : Int) (w : World) : Calls Try.prog 98 #[.int .i64 n, .int .i64 lo, .int .i64 hi] w fun e w' => e = .returned (.bool (inR n lo hi)) ∧ w' = w := by
  by_cases h1 : n < lo
  · go_enter Try.func98, Try.ntmps98
    go_wp2
    go_ret
    exact ⟨by rw [inR_f.2 (by omega)]; rfl, rfl⟩
  · have h1' : lo ≤ n := by omega
    by_cases h2 : n ≤ hi
    · go_enter Try.func98, Try.ntmps98
      go_wp2
      go_ret
      exact ⟨by rw [inR_t.2 (by omega)]; rfl, rfl⟩
    · have h2' : hi < n := by omega
      go_enter Try.func98, Try.ntmps98
      go_wp2
      go_ret
      exact ⟨by rw [inR_f.2 (by omega)]; rfl, rfl⟩

theorem l1In_any (n lo hi : Int) (w : World) : Calls Try.prog 90 #[.int .i64 n, .int .i64 lo, .int .i64 hi] w fun e w' => e = .returned (.bool (inR n lo hi)) ∧ w' = w := by
  by_cases h1 : n < lo
  · go_enter Try.func90, Try.ntmps90
    go_wp2
    go_ret
    exact ⟨by rw [inR_f.2 (by omega)]; rfl, rfl⟩
  · have h1' : lo ≤ n := by omega
    by_cases h2 : n ≤ hi
    · go_enter Try.func90, Try.ntmps90
      go_wp2
      go_ret
      exact ⟨by rw [inR_t.2 (by omega)]; rfl, rfl⟩
    · have h2' : hi < n := by omega
      go_enter Try.func90, Try.ntmps90
      go_wp2
      go_ret
      exact ⟨by rw [inR_f.2 (by omega)]; rfl, rfl⟩

end Go.Proofs.Ytcmlflppndfdcaa

/- Searches in lists of ints: the library's Index, Contains, IndexFunc, ContainsFunc at []int; the program's allWithin, sumOf. -/
namespace Go.Proofs.Ytcmlflppndfdcaa
set_option linter.unusedVariables false
set_option linter.unusedSimpArgs false
open Go.RowKit

/-- The first place at which p holds, or -1. -/
def fidx (p : Int → Bool) (l : List Int) : Int := if l.findIdx p < l.length then (l.findIdx p : Int) else -1
theorem fidx_none {p : Int → Bool} {l : List Int} (h : ∀ x ∈ l, p x = false) : fidx p l = -1 := by
  unfold fidx
  rw [if_neg]
  intro hlt
  have h1 := List.findIdx_getElem (w := hlt)
  have h2 := h _ (List.getElem_mem hlt)
  rw [h1] at h2
  cases h2
theorem fidx_some {p : Int → Bool} {l : List Int} {k : Nat} {x : Int} (hx : l[k]? = some x) (hp : p x = true) (hb : ∀ y ∈ l.take k, p y = false) : fidx p l = k := by
  have hk := lt_of_some hx
  have hxk : l[k] = x := by rw [List.getElem?_eq_getElem hk] at hx; injection hx
  have e : l.findIdx p = k := by
    rw [List.findIdx_eq hk]
    refine ⟨by rw [hxk]; exact hp, fun j hj => ?_⟩
    have := hb l[j] (by rw [List.mem_take_iff_getElem]; exact ⟨j, by omega, rfl⟩)
    simp [this]
  unfold fidx
  rw [e, if_pos hk]
theorem fidx_range (p : Int → Bool) (l : List Int) : -1 ≤ fidx p l ∧ fidx p l < l.length := by
  unfold fidx
  split <;> omega
theorem fidx_any (p : Int → Bool) (l : List Int) : decide (0 ≤ fidx p l) = l.any p := by
  unfold fidx
  by_cases h : l.findIdx p < l.length
  · rw [if_pos h]
    have h1 := List.findIdx_getElem (w := h)
    have : l.any p = true := List.any_eq_true.2 ⟨_, List.getElem_mem h, h1⟩
    rw [this]
    simp
  · rw [if_neg h]
    have : l.any p = false := by
      rw [List.any_eq_false]
      intro x hx hpx
      exact h (List.findIdx_lt_length_of_exists ⟨x, hx, hpx⟩)
    rw [this]
    simp

set_option maxHeartbeats 400000 in
theorem index_any (u : Value) (xs : List Int) (v : Int) (w : World) (hu : SlI w w.heap.size u xs) :
    Calls Try.prog 86 #[u, .int .i64 v] w fun e w' => e = .returned (.int .i64 (fidx (fun x => v == x) xs)) ∧ w' = w := by
  obtain ⟨A, c, rfl, _, _, hn, hx⟩ := hu.open_
  clear hu
  go_enter Try.func86, Try.ntmps86
  go_wp2
  go_loop [8] (fun i => ∃ k : Nat, k ≤ xs.length ∧ i = .int .i64 k ∧ Hid (∀ y ∈ xs.take k, (v == y) = false)) (fun i => xs.length - (intOf i).toNat)
  case atStart => exact ⟨0, Nat.zero_le _, rfl, by intro y hy; simp at hy⟩
  case round =>
    obtain ⟨k, hk, rfl, hno⟩ := hrel
    by_cases hlt : k < xs.length
    · obtain ⟨b, o, x, rfl, hb, HX, c1, _⟩ := SlI.at_ hx hlt
      clear hx
      rcases hvx : (v == x) with _ | _
      · go_wp2
        go_round
        case rel =>
          refine ⟨k + 1, by omega, by go_num, fun y hy => ?_⟩
          rw [take_snoc HX.out, List.mem_append, List.mem_singleton] at hy
          rcases hy with hy | rfl
          · exact hno.out y hy
          · exact hvx
        case measure => simp [intOf]; omega
      · have hfin := Lib.hid (fidx_some HX.out hvx hno.out)
        go_wp2
        go_ret
        exact ⟨by rw [hfin.out]; rfl, rfl⟩
    · go_wp2
      go_ret
      have h1 := hno.out
      rw [List.take_of_length_le (by omega)] at h1
      exact ⟨by rw [fidx_none h1]; rfl, rfl⟩

theorem contains_any (u : Value) (xs : List Int) (v : Int) (w : World) (hu : SlI w w.heap.size u xs) :
    Calls Try.prog 141 #[u, .int .i64 v] w fun e w' => e = .returned (.bool (decide (v ∈ xs))) ∧ w' = w := by
  have hd : decide (v ∈ xs) = decide (0 ≤ fidx (fun x => v == x) xs) := by
    rw [fidx_any, Bool.eq_iff_iff]
    simp
  have HC := index_any u xs v w hu
  rw [hd]
  generalize fidx (fun x => v == x) xs = r at *
  clear hd
  have HC := Lib.hid HC
  by_cases h : 0 ≤ r
  · have e : decide (0 ≤ r) = true := by simpa using h
    rw [e]
    go_enter Try.func141, Try.ntmps141
    go_wp2_with fail
    refine (unhide HC).mono ?_; rintro e w' ⟨rfl, rfl⟩
    go_wp2
    go_ret
    exact ⟨rfl, rfl⟩
  · have e : decide (0 ≤ r) = false := by simpa using h
    rw [e]
    go_enter Try.func141, Try.ntmps141
    go_wp2_with fail
    refine (unhide HC).mono ?_; rintro e w' ⟨rfl, rfl⟩
    go_wp2
    go_ret
    exact ⟨rfl, rfl⟩

set_option maxHeartbeats 400000 in
/-- IndexFunc at a closure of two captured variables, of which the contract is known in every world that is as this one was. -/
theorem indexFunc_any (p1 p2 : Value) (p : Int → Bool) (u : Value) (xs : List Int) (w : World) (hu : SlI w w.heap.size u xs)
    (hF : ∀ (W : World) (x : Int), Below w.heap.size w W → Calls Try.prog 150 #[.int .i64 x, p1, p2] W fun e w' => e = .returned (.bool (p x)) ∧ Below W.heap.size W w') :
    Calls Try.prog 154 #[u, .func (Fn.func 150) #[] #[p1, p2]] w fun e w' => e = .returned (.int .i64 (fidx p xs)) ∧ Below w.heap.size w w' := by
  obtain ⟨A, c, rfl, _, _, hn, hx⟩ := hu.open_
  clear hu
  have HF := Lib.hid hF
  clear hF
  go_enter Try.func154, Try.ntmps154
  go_wp2
  go_loopw [8] (fun i wr => ∃ k : Nat, k ≤ xs.length ∧ i = .int .i64 k ∧ Below w.heap.size w wr ∧ Hid (∀ y ∈ xs.take k, p y = false)) (fun i _ => xs.length - (intOf i).toNat)
  case atStart => exact ⟨0, Nat.zero_le _, rfl, Below.refl _ _, by intro y hy; simp at hy⟩
  case round =>
    obtain ⟨k, hk, rfl, hbel, hno⟩ := hrel
    by_cases hlt : k < xs.length
    · obtain ⟨b, o, x, rfl, hb, HX, c1, _⟩ := SlI.at_ hx hlt
      have d1 := bcell hbel hb c1
      clear hx c1
      have HC := HF.out wr x hbel
      obtain ⟨B, hB⟩ : ∃ B, p x = B := ⟨_, rfl⟩
      rw [hB] at HC
      have HC := Lib.hid HC
      have HB := Lib.hid hB
      clear hB
      cases B
      · go_wp2_with fail
        refine (unhide HC).mono ?_; rintro e w1 ⟨rfl, hb1⟩
        go_wp2
        go_roundw
        case rel =>
          refine ⟨k + 1, by omega, by go_num, hbel.trans (hb1.mono hbel.size), fun y hy => ?_⟩
          rw [take_snoc HX.out, List.mem_append, List.mem_singleton] at hy
          rcases hy with hy | rfl
          · exact hno.out y hy
          · exact HB.out
        case measure => simp [intOf]; omega
      · have hfin := Lib.hid (fidx_some HX.out HB.out hno.out)
        go_wp2_with fail
        refine (unhide HC).mono ?_; rintro e w1 ⟨rfl, hb1⟩
        go_wp2
        go_ret
        exact ⟨by rw [hfin.out]; rfl, hbel.trans (hb1.mono hbel.size)⟩
    · go_wp2
      go_ret
      have h1 := hno.out
      rw [List.take_of_length_le (by omega)] at h1
      exact ⟨by rw [fidx_none h1]; rfl, hbel⟩

theorem containsFunc_any (p1 p2 : Value) (p : Int → Bool) (u : Value) (xs : List Int) (w : World) (hu : SlI w w.heap.size u xs)
    (hF : ∀ (W : World) (x : Int), Below w.heap.size w W → Calls Try.prog 150 #[.int .i64 x, p1, p2] W fun e w' => e = .returned (.bool (p x)) ∧ Below W.heap.size W w') :
    Calls Try.prog 149 #[u, .func (Fn.func 150) #[] #[p1, p2]] w fun e w' => e = .returned (.bool (xs.any p)) ∧ Below w.heap.size w w' := by
  have hd := fidx_any p xs
  have HC := indexFunc_any p1 p2 p u xs w hu hF
  rw [← hd]
  generalize fidx p xs = r at *
  clear hd hF
  have HC := Lib.hid HC
  by_cases h : 0 ≤ r
  · have e : decide (0 ≤ r) = true := by simpa using h
    rw [e]
    go_enter Try.func149, Try.ntmps149
    go_wp2_with fail
    refine (unhide HC).mono ?_; rintro e w1 ⟨rfl, hb1⟩
    go_wp2
    go_ret
    exact ⟨rfl, hb1⟩
  · have e : decide (0 ≤ r) = false := by simpa using h
    rw [e]
    go_enter Try.func149, Try.ntmps149
    go_wp2_with fail
    refine (unhide HC).mono ?_; rintro e w1 ⟨rfl, hb1⟩
    go_wp2
    go_ret
    exact ⟨rfl, hb1⟩

/-- the closure of allWithin -/
theorem allWithin1_any (g1 g2 : Nat) (lo hi x : Int) (W : World) (h1 : W.cell? ⟨g1, 0, none⟩ = some (.int .i64 lo)) (h2 : W.cell? ⟨g2, 0, none⟩ = some (.int .i64 hi)) :
    Calls Try.prog 150 #[.int .i64 x, .pointer (some ⟨g1, 0, none⟩), .pointer (some ⟨g2, 0, none⟩)] W fun e w' => e = .returned (.bool (!inR x lo hi)) ∧ Below W.heap.size W w' := by
  go_enter Try.func150, Try.ntmps150
  go_wp2_with fail
  refine (within_any _ _ _ _).mono ?_; rintro e w' ⟨rfl, rfl⟩
  go_wp2
  go_ret
  exact ⟨rfl, Below.refl _ _⟩

/-- Whether all numbers of a list lie in a range. -/
def allR (l : List Int) (lo hi : Int) : Bool := l.all fun x => inR x lo hi
theorem allR_t {l : List Int} {lo hi : Int} : allR l lo hi = true ↔ ∀ x ∈ l, lo ≤ x ∧ x ≤ hi := by simp [allR, inR]
theorem allWithin_any (u : Value) (xs : List Int) (lo hi : Int) (w : World) (hu : SlI w w.heap.size u xs) :
    Calls Try.prog 122 #[u, .int .i64 lo, .int .i64 hi] w fun e w' => e = .returned (.bool (allR xs lo hi)) ∧ Below w.heap.size w w' := by
  obtain ⟨W, hW⟩ : ∃ W, W = (w.alloc (.cells #[.int .i64 lo] 3)).alloc (.cells #[.int .i64 hi] 3) := ⟨_, rfl⟩
  have g0 : Below w.heap.size w W := by rw [hW]; exact ((Below.refl _ _).alloc (Nat.le_refl _) _).alloc (by simp) _
  have k1 : Blk W w.heap.size 3 #[.int .i64 lo] := by rw [hW]; exact (Blk.new _ _ _).alloc _
  have k2 : Blk W (w.heap.size + 1) 3 #[.int .i64 hi] := by
    rw [hW]
    have := Blk.new (w.alloc (.cells #[.int .i64 lo] 3)) 3 #[.int .i64 hi]
    simpa only [World.size_alloc] using this
  have HC := containsFunc_any (.pointer (some ⟨w.heap.size, 0, none⟩)) (.pointer (some ⟨w.heap.size + 1, 0, none⟩)) (fun x => !inR x lo hi) u xs W (SlI.next g0 hu) (fun W' x hb =>
    allWithin1_any _ _ lo hi x W' ((k1.below hb k1.lt).cell' (i := 0) rfl) ((k2.below hb k2.lt).cell' (i := 0) rfl))
  have e : allR xs lo hi = !(xs.any fun x => !inR x lo hi) := by simp [allR, List.any_eq_not_all_not]
  rw [e]
  generalize (xs.any fun x => !inR x lo hi) = B at *
  obtain ⟨A, c, rfl, _, _, _, _⟩ := hu.open_
  clear hu e k1 k2
  have HC := Lib.hid HC
  have hmf : ∀ (fn : Fn) (first cap : Array Value) (w : World), (Instr.makeFunc fn first cap).run Try.prog w = .ok (.func fn first cap) w := fun _ _ _ _ => rfl
  go_enter Try.func122, Try.ntmps122
  go_wp2_with fail
  rw [← hW]
  refine (unhide HC).mono ?_; rintro e w1 ⟨rfl, hb1⟩
  go_wp2
  go_ret
  exact ⟨rfl, bthen g0 hb1⟩

/-- sums that wrap -/
def sumW (l : List Int) : Int := l.foldl (fun s x => wrap64 (s + x)) 0
theorem sumW_snoc (l : List Int) (x : Int) : sumW (l ++ [x]) = wrap64 (sumW l + x) := by simp [sumW]
theorem foldW (lo hi : Int) (h0 : lo ≤ 0) (h1 : 0 ≤ hi) : ∀ (l : List Int) (acc : Int) (m : Nat), (∀ x ∈ l, lo ≤ x ∧ x ≤ hi) → lo * m ≤ acc → acc ≤ hi * m → hi * ((m + l.length : Nat) : Int) ≤ 9223372036854775807 → -9223372036854775808 ≤ lo * ((m + l.length : Nat) : Int) →
    l.foldl (fun s x => wrap64 (s + x)) acc = acc + l.sum ∧ lo * ((m + l.length : Nat) : Int) ≤ acc + l.sum ∧ acc + l.sum ≤ hi * ((m + l.length : Nat) : Int)
  | [], acc, m, _, ha, hb, _, _ => by simp; exact ⟨ha, hb⟩
  | x :: l, acc, m, hl, ha, hb, hc, hd => by
    obtain ⟨hx1, hx2⟩ := hl x (by simp)
    have e : ((m + (x :: l).length : Nat) : Int) = (((m + 1) + l.length : Nat) : Int) := by simp; omega
    rw [e] at hc hd ⊢
    have m1 : lo * ((m + 1 : Nat) : Int) = lo * m + lo := by rw [Int.natCast_add, Int.mul_add]; simp
    have m2 : hi * ((m + 1 : Nat) : Int) = hi * m + hi := by rw [Int.natCast_add, Int.mul_add]; simp
    have n1 : lo * (((m + 1) + l.length : Nat) : Int) ≤ lo * ((m + 1 : Nat) : Int) := Int.mul_le_mul_of_nonpos_left h0 (by omega)
    have n2 : hi * ((m + 1 : Nat) : Int) ≤ hi * (((m + 1) + l.length : Nat) : Int) := Int.mul_le_mul_of_nonneg_left (by omega) h1
    have hw : wrap64 (acc + x) = acc + x := IntWalk.wrap64_in _ ⟨by omega, by omega⟩
    have ih := foldW lo hi h0 h1 l (acc + x) (m + 1) (fun y hy => hl y (by simp [hy])) (by omega) (by omega) hc hd
    rw [List.foldl_cons, hw, List.sum_cons]
    rw [← Int.add_assoc]
    exact ih
theorem sumW_small (l : List Int) (lo hi : Int) (h0 : lo ≤ 0) (h1 : 0 ≤ hi) (hl : ∀ x ∈ l, lo ≤ x ∧ x ≤ hi) (hb : hi * l.length ≤ 9223372036854775807) (hb' : -9223372036854775808 ≤ lo * l.length) : sumW l = l.sum ∧ lo * l.length ≤ l.sum ∧ l.sum ≤ hi * l.length := by
  have := foldW lo hi h0 h1 l 0 0 hl (by simp) (by simp) (by simpa using hb) (by simpa using hb')
  simpa [sumW] using this
set_option maxHeartbeats 400000 in
theorem sumOf_any (u : Value) (xs : List Int) (w : World) (hu : SlI w w.heap.size u xs) :
    Calls Try.prog 124 #[u] w fun e w' => e = .returned (.int .i64 (sumW xs)) ∧ w' = w := by
  obtain ⟨A, c, rfl, _, _, hn, hx⟩ := hu.open_
  clear hu
  go_enter Try.func124, Try.ntmps124
  go_wp2
  go_loop [3, 8] (fun s i => ∃ k : Nat, k ≤ xs.length ∧ i = .int .i64 k ∧ s = .int .i64 (sumW (xs.take k))) (fun _ i => xs.length - (intOf i).toNat)
  case atStart => exact ⟨0, Nat.zero_le _, rfl, rfl⟩
  case round =>
    obtain ⟨k, hk, rfl, rfl⟩ := hrel
    by_cases hlt : k < xs.length
    · obtain ⟨b, o, x, rfl, hb, HX, c1, _⟩ := SlI.at_ hx hlt
      clear hx
      have HS := Lib.hid (show sumW (xs.take (k + 1)) = wrap64 (sumW (xs.take k) + x) by rw [take_snoc HX.out, sumW_snoc])
      generalize sumW (xs.take k) = s at *
      go_wp2
      go_round
      case rel => exact ⟨k + 1, by omega, by go_num, by rw [HS.out]⟩
      case measure => simp [intOf]; omega
    · go_wp2
      go_ret
      exact ⟨by rw [List.take_of_length_le (by omega)]; rfl, rfl⟩
end Go.Proofs.Ytcmlflppndfdcaa

/- IntervalOf, both. -/
namespace Go.Proofs.Ytcmlflppndfdcaa
set_option linter.unusedVariables false
set_option linter.unusedSimpArgs false
open Go.RowKit

/-! ### plain: zeros, then ones, then zeros -/
def ivForm (f s r : Nat) : List Int := List.replicate f 0 ++ (List.replicate s 1 ++ List.replicate r 0)
def ivFst (l : List Int) : Nat := l.findIdx (fun x => (1 : Int) == x)
def ivS (l : List Int) : Nat := l.sum.toNat
def ivOk (l : List Int) : Bool := decide (0 < ivS l ∧ l = ivForm (ivFst l) (ivS l) (l.length - ivFst l - ivS l))
theorem ivForm_get {f s r j : Nat} {x : Int} (h : (ivForm f s r)[j]? = some x) : x = if f ≤ j ∧ j < f + s then 1 else 0 := by
  have hj := lt_of_some h
  simp only [ivForm, List.length_append, List.length_replicate] at hj
  unfold ivForm at h
  rw [List.getElem?_append] at h
  split at h
  · rename_i h1
    simp only [List.length_replicate] at h1
    rw [List.getElem?_replicate, if_pos h1] at h
    injection h with h
    rw [if_neg (by omega)]
    exact h.symm
  · rename_i h1
    simp only [List.length_replicate] at h1 h
    rw [List.getElem?_append] at h
    split at h
    · rename_i h2
      simp only [List.length_replicate] at h2
      rw [List.getElem?_replicate, if_pos h2] at h
      injection h with h
      rw [if_pos (by omega)]
      exact h.symm
    · rename_i h2
      simp only [List.length_replicate] at h2 h
      rw [List.getElem?_replicate, if_pos (by omega)] at h
      injection h with h
      rw [if_neg (by omega)]
      exact h.symm
theorem sum_rep (n : Nat) (x : Int) : (List.replicate n x).sum = n * x := by
  induction n with
  | zero => simp
  | succ n ih => rw [List.replicate_succ, List.sum_cons, ih, Int.natCast_add, Int.add_mul]; simp; omega
theorem ivForm_sum (f s r : Nat) : (ivForm f s r).sum = s := by simp [ivForm, List.sum_append, sum_rep]
theorem ivForm_length (f s r : Nat) : (ivForm f s r).length = f + s + r := by simp [ivForm]; omega
theorem ivForm_F (f s r : Nat) : ivFst (ivForm f (s + 1) r) = f := by
  unfold ivFst
  have hl : f < (ivForm f (s + 1) r).length := by rw [ivForm_length]; omega
  rw [List.findIdx_eq hl]
  refine ⟨?_, fun j hj => ?_⟩
  · have := ivForm_get (List.getElem?_eq_getElem hl)
    rw [if_pos (by omega)] at this
    rw [this]; rfl
  · have hj' : j < (ivForm f (s + 1) r).length := by omega
    have := ivForm_get (List.getElem?_eq_getElem hj')
    rw [if_neg (by omega)] at this
    rw [this]; rfl
theorem ivOk_form (f s r : Nat) : ivOk (ivForm f (s + 1) r) = true ∧ ivFst (ivForm f (s + 1) r) = f ∧ ivS (ivForm f (s + 1) r) = s + 1 := by
  have h1 := ivForm_F f s r
  have h2 : ivS (ivForm f (s + 1) r) = s + 1 := by unfold ivS; rw [ivForm_sum]; omega
  refine ⟨?_, h1, h2⟩
  unfold ivOk
  rw [h1, h2, ivForm_length, decide_eq_true_eq]
  exact ⟨by omega, by congr 1; omega⟩
theorem ivOk_get {l : List Int} (h : ivOk l = true) {j : Nat} {x : Int} (hx : l[j]? = some x) : x = if ivFst l ≤ j ∧ j < ivFst l + ivS l then 1 else 0 := by
  simp only [ivOk, decide_eq_true_eq] at h
  rw [h.2] at hx
  exact ivForm_get hx
theorem ivOk_01 {l : List Int} (h : ivOk l = true) : ∀ x ∈ l, 0 ≤ x ∧ x ≤ 1 := by
  intro x hx
  obtain ⟨j, hj⟩ := List.getElem?_of_mem hx
  have := ivOk_get h hj
  split at this <;> omega
/-- a one, a zero behind it, a one behind that -/
theorem ivOk_gap {l : List Int} {i j k : Nat} (hij : i < j) (hjk : j < k) (hi : l[i]? = some 1) (hj : l[j]? = some 0) (hk : l[k]? = some 1) : ivOk l = false := by
  rcases h : ivOk l with _ | _
  · rfl
  · have a := ivOk_get h hi
    have b := ivOk_get h hj
    have c := ivOk_get h hk
    split at a <;> split at b <;> split at c <;> omega
theorem ivOk_zero (n : Nat) : ivOk (List.replicate n 0) = false := by
  simp [ivOk, ivS, sum_rep]
/-- sums of zeros and ones -/
theorem sum01 : ∀ (l : List Int), (∀ x ∈ l, 0 ≤ x ∧ x ≤ 1) → 0 ≤ l.sum ∧ l.sum ≤ l.length ∧ (l.sum = l.length → l = List.replicate l.length 1) ∧ (l.sum = 0 → l = List.replicate l.length 0)
  | [], _ => by simp
  | x :: l, h => by
    obtain ⟨a, b, c, d⟩ := sum01 l fun y hy => h y (by simp [hy])
    have hx := h x (by simp)
    refine ⟨by simp; omega, by simp; omega, fun e => ?_, fun e => ?_⟩
    · simp only [List.sum_cons, List.length_cons, Int.natCast_add] at e
      have e1 : x = 1 := by omega
      have e2 := c (by omega)
      rw [List.length_cons, List.replicate_succ, ← e2, e1]
    · simp only [List.sum_cons] at e
      have e1 : x = 0 := by omega
      have e2 := d (by omega)
      rw [List.length_cons, List.replicate_succ, ← e2, e1]
/-- what the program asks -/
theorem ivOk_of_seg {l : List Int} (h01 : ∀ x ∈ l, 0 ≤ x ∧ x ≤ 1) {f : Nat} (hf : f < l.length) (h1 : l[f]? = some 1) (hb : ∀ y ∈ l.take f, ((1 : Int) == y) = false)
    (hs : ((l.drop f).take l.sum.toNat).sum = l.sum) : ivOk l = true := by
  have e0 : l.take f = List.replicate f 0 := by
    have := (sum01 (l.take f) (fun x hx => h01 x (List.mem_of_mem_take hx))).2.2.2
    have hz : ∀ y ∈ l.take f, y = 0 := fun y hy => by
      have := h01 y (List.mem_of_mem_take hy)
      have := hb y hy
      simp at this
      omega
    apply List.ext_getElem?
    intro i
    by_cases hi : i < f
    · rw [List.getElem?_replicate, if_pos hi, List.getElem?_eq_getElem (by simp; omega)]
      exact congrArg some (hz _ (List.getElem_mem _))
    · rw [List.getElem?_replicate, if_neg hi, List.getElem?_eq_none (by simp; omega)]
  have hsp : l = l.take f ++ ((l.drop f).take l.sum.toNat ++ (l.drop f).drop l.sum.toNat) := by rw [List.take_append_drop, List.take_append_drop]
  have hm : ∀ x ∈ l.drop f, 0 ≤ x ∧ x ≤ 1 := fun x hx => h01 x (List.mem_of_mem_drop hx)
  have hp : 0 < l.sum := by
    have hd : l.drop f = 1 :: l.drop (f + 1) := by
      rw [List.drop_eq_getElem_cons hf]
      have : l[f] = 1 := by rw [List.getElem?_eq_getElem hf] at h1; injection h1
      rw [this]
    have e : l.sum = (l.take f).sum + (l.drop f).sum := by rw [← List.sum_append, List.take_append_drop]
    have a := (sum01 (l.take f) (fun x hx => h01 x (List.mem_of_mem_take hx))).1
    have b := (sum01 (l.drop (f + 1)) (fun x hx => h01 x (List.mem_of_mem_drop hx))).1
    rw [hd, List.sum_cons] at e
    omega
  have htot : l.sum = 0 + (l.sum + ((l.drop f).drop l.sum.toNat).sum) := by
    have := congrArg List.sum hsp
    rw [List.sum_append, List.sum_append, hs, e0, sum_rep] at this
    simpa using this
  have t1 := sum01 ((l.drop f).take l.sum.toNat) (fun x hx => hm x (List.mem_of_mem_take hx))
  have t2 := sum01 ((l.drop f).drop l.sum.toNat) (fun x hx => hm x (List.mem_of_mem_drop hx))
  have hlen : ((l.drop f).take l.sum.toNat).length ≤ l.sum.toNat := by simp; omega
  have e1 := t1.2.2.1 (by omega)
  have e2 := t2.2.2.2 (by omega)
  have hln : ((l.drop f).take l.sum.toNat).length = l.sum.toNat := by omega
  rw [hln] at e1
  obtain ⟨s, hse⟩ : ∃ s, l.sum.toNat = s + 1 := ⟨l.sum.toNat - 1, by omega⟩
  have hfin : l = ivForm f (s + 1) ((l.drop f).drop l.sum.toNat).length := by
    rw [e0, e1, e2] at hsp
    rw [hse] at hsp
    rw [hse]
    simpa [ivForm] using hsp
  rw [hfin]
  exact (ivOk_form _ _ _).1

def ivA (l : List Int) : Int := if ivOk l then (ivFst l : Int) else 0
def ivB (l : List Int) : Int := if ivOk l then (ivFst l : Int) + ivS l - 1 else 0
theorem iv_no {l : List Int} (h : ivOk l = false) : ivA l = 0 ∧ ivB l = 0 := by simp [ivA, ivB, h]
theorem iv_form {l : List Int} {f s r : Nat} (h : l = ivForm f (s + 1) r) : ivOk l = true ∧ ivA l = f ∧ ivB l = (f : Int) + s := by
  subst h
  obtain ⟨h1, h2, h3⟩ := ivOk_form f s r
  refine ⟨h1, by simp [ivA, h1, h2], ?_⟩
  simp only [ivB, h1, h2, h3, if_true]
  omega

theorem ret3 {a b : Int} {c : Bool} {a' b' : Int} {c' : Bool} (h1 : a = a') (h2 : b = b') (h3 : c = c') : Ending.returned (.tuple #[.int .i64 a, .int .i64 b, .bool c]) = .returned (.tuple #[.int .i64 a', .int .i64 b', .bool c']) := by rw [h1, h2, h3]

/-- a part of a slice of ints -/
theorem SlI.cut {w : World} {B c : Nat} {A : Option Addr} {xs : List Int} {i k : Nat} (h : SlI w B (.slice A xs.length c) xs) (hik : i ≤ k) (hk : k ≤ xs.length) :
    ∃ A', (if c = i then A else A.map (·.add (i * 1))) = A' ∧ SlI w B (.slice A' (k - i) (c - i)) ((xs.drop i).take (k - i)) := by
  obtain ⟨A2, c2, e, h1, h2, h3, h4⟩ := h
  injection e with e1 e2 e3
  subst e1 e3
  refine ⟨_, rfl, ?_⟩
  have hl : ((xs.drop i).take (k - i)).length = k - i := by simp; omega
  refine ⟨_, c - i, by rw [hl], by rw [hl]; omega, by omega, by rw [hl]; omega, fun hp => ?_⟩
  rw [hl] at hp
  obtain ⟨b, o, rfl, hb, hc⟩ := h4 (by omega)
  rw [if_neg (by omega)]
  refine ⟨b, o + i, ?_, hb, fun j x hx => ?_⟩
  · have e : (⟨b, o, none⟩ : Addr).add i = ⟨b, o + i, none⟩ := by unfold Addr.add; split <;> simp_all
    simp [e]
  · rw [List.getElem?_take] at hx
    split at hx
    · rw [List.getElem?_drop] at hx
      have := hc (i + j) x hx
      rwa [show o + (i + j) * 1 = o + i + j * 1 by omega] at this
    · cases hx

theorem SlI.cutNe {w : World} {B c : Nat} {A : Option Addr} {xs : List Int} {i k : Nat} (h : SlI w B (.slice A xs.length c) xs) (hik : i ≤ k) (hk : k ≤ xs.length) (hc : i < c) :
    SlI w B (.slice (A.map fun x => x.add i) (k - i) (c - i)) ((xs.drop i).take (k - i)) := by
  obtain ⟨A', e, h'⟩ := h.cut hik hk
  rw [if_neg (by omega), Nat.mul_one] at e
  rw [e]
  exact h'

/-- The reference's state behind k elements. -/
def StI (xs : List Int) (k : Nat) (a b : Int) : Prop := (a = -1 ∧ b = -1 ∧ xs.take k = List.replicate k 0) ∨ ∃ f s r : Nat, a = f ∧ b = (f : Int) + s ∧ k = f + s + 1 + r ∧ xs.take k = ivForm f (s + 1) r
theorem StI.rng {xs : List Int} {k : Nat} {a b : Int} (h : StI xs k a b) : -1 ≤ a ∧ a ≤ k ∧ -1 ≤ b ∧ b ≤ (k : Int) - 1 ∧ (a < 0 ↔ b < 0) := by
  rcases h with ⟨rfl, rfl, _⟩ | ⟨f, s, r, rfl, rfl, rfl, _⟩ <;> omega
theorem ivForm_snoc0 (f s r : Nat) : ivForm f s r ++ [0] = ivForm f s (r + 1) := by simp [ivForm, List.replicate_succ']
theorem ivForm_snoc1 (f s : Nat) : ivForm f s 0 ++ [1] = ivForm f (s + 1) 0 := by simp [ivForm, List.replicate_succ']
theorem StI.zero {xs : List Int} {k : Nat} {a b : Int} (h : StI xs k a b) (hx : xs[k]? = some 0) : StI xs (k + 1) a b := by
  rcases h with ⟨rfl, rfl, h⟩ | ⟨f, s, r, rfl, rfl, hk, h⟩
  · exact .inl ⟨rfl, rfl, by rw [take_snoc hx, h, List.replicate_succ']⟩
  · exact .inr ⟨f, s, r + 1, rfl, rfl, by omega, by rw [take_snoc hx, h, ivForm_snoc0]⟩
theorem StI.first {xs : List Int} {k : Nat} {a b : Int} (h : StI xs k a b) (hx : xs[k]? = some 1) (hb : b < 0) : StI xs (k + 1) k k := by
  rcases h with ⟨rfl, rfl, h⟩ | ⟨f, s, r, rfl, rfl, hk, h⟩
  · exact .inr ⟨k, 0, 0, rfl, by omega, by omega, by rw [take_snoc hx, h]; simp [ivForm]⟩
  · omega
theorem StI.more {xs : List Int} {k : Nat} {a b : Int} (h : StI xs k a b) (hx : xs[k]? = some 1) (hb : 0 ≤ b) (hb' : b = (k : Int) - 1) : StI xs (k + 1) a k := by
  rcases h with ⟨rfl, rfl, h⟩ | ⟨f, s, r, rfl, rfl, hk, h⟩
  · omega
  · obtain rfl : r = 0 := by omega
    exact .inr ⟨f, s + 1, 0, rfl, by omega, by omega, by rw [take_snoc hx, h, ivForm_snoc1]⟩
theorem StI.gap {xs : List Int} {k : Nat} {a b : Int} (h : StI xs k a b) (hx : xs[k]? = some 1) (hb : 0 ≤ b) (hb' : b ≠ (k : Int) - 1) : ivOk xs = false := by
  rcases h with ⟨rfl, rfl, h⟩ | ⟨f, s, r, rfl, rfl, hk, h⟩
  · omega
  · have hkl := lt_of_some hx
    have hg : ∀ j, j < k → xs[j]? = some (if f ≤ j ∧ j < f + (s + 1) then 1 else 0) := by
      intro j hj
      have e : xs[j]? = (xs.take k)[j]? := by rw [List.getElem?_take, if_pos hj]
      have hjl : j < (ivForm f (s + 1) r).length := by rw [ivForm_length]; omega
      rw [e, h, List.getElem?_eq_getElem hjl]
      exact congrArg some (ivForm_get (List.getElem?_eq_getElem hjl))
    have h1 := hg f (by omega)
    have h2 := hg (f + s + 1) (by omega)
    rw [if_pos (by omega)] at h1
    rw [if_neg (by omega)] at h2
    exact ivOk_gap (by omega) (by omega) h1 h2 hx
theorem StI.fin {xs : List Int} {a b : Int} (h : StI xs xs.length a b) : (a < 0 ∧ ivOk xs = false) ∨ (0 ≤ a ∧ ivOk xs = true ∧ ivA xs = a ∧ ivB xs = b) := by
  unfold StI at h
  rw [List.take_of_length_le (Nat.le_refl _)] at h
  rcases h with ⟨rfl, rfl, h⟩ | ⟨f, s, r, rfl, rfl, hk, h⟩
  · left
    refine ⟨by omega, ?_⟩
    rw [h]
    exact ivOk_zero _
  · right
    obtain ⟨h1, h2, h3⟩ := iv_form h
    exact ⟨by omega, h1, h2, h3⟩

end Go.Proofs.Ytcmlflppndfdcaa
