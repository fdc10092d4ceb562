/- FnExactBarsOf: for every argument the program's function returns what the reference's returns. Part 1 of 8 of the proof: Base, Ints, App, Quiv, Small, Find, IsQ, Zig, Line, Kit, OwnI. No condition. -/
import Derived.Test.YtjlgijdkfihhlaaChecked
import Derived.WalkKit
import Derived.WalkLawsBesides
import Derived.WalkSpells
import Derived.RegionTactic
import Derived.Outline
import Derived.BigQuiet
import Derived.Deep.QuietTactic
import Derived.Deep.RegionHeld3
import Derived.StillTailTactics
import Derived.Deep.DeepCutAuto
import Derived.Deep.DeepMust
import Derived.Deep.DeepFit
import Derived.Lib.Hide
import Derived.Laws.StructEq
import Derived.Laws.OwnMore
import Derived.Laws.MakeOwn
import Derived.Laws.Rows
import Derived.Maps.AppendAt
import Derived.Deep.AppendLies
/- Words of my own for memory: slices that read as lists, whatever the element; structs of ints and slices. No program's numbers stand here. -/
namespace Go.Proofs.Ytjlgijdkfihhlaa
set_option linter.unusedVariables false
set_option linter.unusedSimpArgs false
open Go.RowKit

/-- An int of Go. -/
def I64 (x : Int) : Prop := -9223372036854775808 ≤ x ∧ x ≤ 9223372036854775807

/-- A slice value whose elements (sz cells each) read, each by R, as the list xs; its cells lie below block B. -/
def SlG {α : Type} (sz : Nat) (R : World → Nat → Nat → Nat → α → Prop) (w : World) (B : Nat) (val : Value) (xs : List α) : Prop :=
  ∃ A c, val = .slice A xs.length c ∧ xs.length ≤ c ∧ c ≤ 9223372036854775807 ∧ xs.length ≤ 17592186044416 ∧
    (0 < xs.length → ∃ b o, A = some ⟨b, o, none⟩ ∧ b < B ∧ ∀ j x, xs[j]? = some x → R w B b (o + j * sz) x)

theorem SlG.mono {α : Type} {sz : Nat} {R : World → Nat → Nat → Nat → α → Prop} {w w' : World} {B B' : Nat} {val : Value} {xs : List α} (hR : ∀ b o x, b < B → R w B b o x → R w' B' b o x) (hB : B ≤ B')
    (h : SlG sz R w B val xs) : SlG sz R w' B' val xs := by
  obtain ⟨A, c, e, h1, h2, h3, h4⟩ := h
  refine ⟨A, c, e, h1, h2, h3, fun hp => ?_⟩
  obtain ⟨b, o, e2, hb, hc⟩ := h4 hp
  exact ⟨b, o, e2, by omega, fun j x hx => hR _ _ _ hb (hc j x hx)⟩

/-- an int in a cell -/
def RI (w : World) (_B b o : Nat) (x : Int) : Prop := w.cell? ⟨b, o, none⟩ = some (.int .i64 x) ∧ I64 x
abbrev SlI := SlG 1 RI
abbrev Bar := Int × Int × Int
def RBar (w : World) (_B b o : Nat) (x : Bar) : Prop := (w.cell? ⟨b, o, none⟩ = some (.int .i64 x.1) ∧ w.cell? ⟨b, o + 1, none⟩ = some (.int .i64 x.2.1) ∧ w.cell? ⟨b, o + 2, none⟩ = some (.int .i64 x.2.2)) ∧ I64 x.1 ∧ I64 x.2.1 ∧ I64 x.2.2
abbrev SlB := SlG 3 RBar
def RSlI (w : World) (B b o : Nat) (l : List Int) : Prop := ∃ v, w.cell? ⟨b, o, none⟩ = some v ∧ SlI w B v l
abbrev SlII := SlG 1 RSlI

theorem bcell {B : Nat} {w w' : World} (h : Below B w w') {b o : Nat} {v : Value} (hb : b < B) (hc : w.cell? ⟨b, o, none⟩ = some v) : w'.cell? ⟨b, o, none⟩ = some v :=
  (h.cell (p := ⟨b, o, none⟩) hb).trans hc

theorem SlI.below {w w' : World} {B : Nat} {v : Value} {l : List Int} (hb : Below B w w') (h : SlI w B v l) : SlI w' B v l :=
  SlG.mono (fun _ _ _ hlt ⟨hc, hx⟩ => ⟨bcell hb hlt hc, hx⟩) (Nat.le_refl _) h
theorem SlI.more {w : World} {B B' : Nat} {v : Value} {l : List Int} (hB : B ≤ B') (h : SlI w B v l) : SlI w B' v l :=
  SlG.mono (B := B) (B' := B') (fun _ _ _ _ h => h) hB h
theorem SlB.below {w w' : World} {B : Nat} {v : Value} {l : List Bar} (hb : Below B w w') (h : SlB w B v l) : SlB w' B v l :=
  SlG.mono (fun _ _ _ hlt ⟨⟨h0, h1, h2⟩, hx⟩ => ⟨⟨bcell hb hlt h0, bcell hb hlt h1, bcell hb hlt h2⟩, hx⟩) (Nat.le_refl _) h
theorem SlB.more {w : World} {B B' : Nat} {v : Value} {l : List Bar} (hB : B ≤ B') (h : SlB w B v l) : SlB w B' v l :=
  SlG.mono (B := B) (B' := B') (fun _ _ _ _ h => h) hB h
theorem SlII.below {w w' : World} {B : Nat} {v : Value} {l : List (List Int)} (hb : Below B w w') (h : SlII w B v l) : SlII w' B v l :=
  SlG.mono (fun _ _ _ hlt ⟨u, hc, hu⟩ => ⟨u, bcell hb hlt hc, SlI.below hb hu⟩) (Nat.le_refl _) h
theorem SlII.more {w : World} {B B' : Nat} {v : Value} {l : List (List Int)} (hB : B ≤ B') (h : SlII w B v l) : SlII w B' v l :=
  SlG.mono (fun _ _ _ _ ⟨u, hc, hu⟩ => ⟨u, hc, SlI.more hB hu⟩) hB h

/-- From world to world behind a call. -/
theorem SlI.next {w w' : World} {v : Value} {l : List Int} (hb : Below w.heap.size w w') (h : SlI w w.heap.size v l) : SlI w' w'.heap.size v l := SlI.more hb.size (SlI.below hb h)
theorem SlB.next {w w' : World} {v : Value} {l : List Bar} (hb : Below w.heap.size w w') (h : SlB w w.heap.size v l) : SlB w' w'.heap.size v l := SlB.more hb.size (SlB.below hb h)
theorem SlII.next {w w' : World} {v : Value} {l : List (List Int)} (hb : Below w.heap.size w w') (h : SlII w w.heap.size v l) : SlII w' w'.heap.size v l := SlII.more hb.size (SlII.below hb h)
/-- Two calls, one behind the other. -/
theorem bthen {w w' w'' : World} (h : Below w.heap.size w w') (k : Below w'.heap.size w' w'') : Below w.heap.size w w'' := h.trans (k.mono h.size)

/-- What a walk takes out of a slice in a round: the address, the element, its cells. -/
theorem SlI.at_ {w : World} {B c : Nat} {A : Option Addr} {xs : List Int} {k : Nat} (h : SlI w B (.slice A xs.length c) xs) (hk : k < xs.length) :
    ∃ b o x, A = some ⟨b, o, none⟩ ∧ b < B ∧ Hid (xs[k]? = some x) ∧ w.cell? ⟨b, o + k, none⟩ = some (.int .i64 x) ∧ -9223372036854775808 ≤ x ∧ x ≤ 9223372036854775807 := by
  obtain ⟨A', c', e, h1, h2, h3, h4⟩ := h
  injection e with e1 e2 e3; subst e1
  obtain ⟨b, o, rfl, hb, hc⟩ := h4 (by omega)
  have hx : xs[k]? = some xs[k] := List.getElem?_eq_getElem hk
  obtain ⟨h0, hr⟩ := hc k _ hx
  exact ⟨b, o, xs[k], rfl, hb, hx, by simpa using h0, hr.1, hr.2⟩
theorem SlB.at_ {w : World} {B c : Nat} {A : Option Addr} {xs : List Bar} {k : Nat} (h : SlB w B (.slice A xs.length c) xs) (hk : k < xs.length) :
    ∃ b o x y z, A = some ⟨b, o, none⟩ ∧ b < B ∧ Hid (xs[k]? = some (x, y, z)) ∧ w.cell? ⟨b, o + k * 3, none⟩ = some (.int .i64 x) ∧ w.cell? ⟨b, o + k * 3 + 1, none⟩ = some (.int .i64 y) ∧ w.cell? ⟨b, o + k * 3 + 2, none⟩ = some (.int .i64 z) ∧
      (-9223372036854775808 ≤ x ∧ x ≤ 9223372036854775807) ∧ (-9223372036854775808 ≤ y ∧ y ≤ 9223372036854775807) ∧ (-9223372036854775808 ≤ z ∧ z ≤ 9223372036854775807) := by
  obtain ⟨A', c', e, h1, h2, h3, h4⟩ := h
  injection e with e1 e2 e3; subst e1
  obtain ⟨b, o, rfl, hb, hc⟩ := h4 (by omega)
  have hx : xs[k]? = some xs[k] := List.getElem?_eq_getElem hk
  obtain ⟨⟨c0, c1, c2⟩, r0, r1, r2⟩ := hc k _ hx
  exact ⟨b, o, xs[k].1, xs[k].2.1, xs[k].2.2, rfl, hb, hx, c0, c1, c2, r0, r1, r2⟩
theorem SlII.at_ {w : World} {B c : Nat} {A : Option Addr} {xs : List (List Int)} {k : Nat} (h : SlII w B (.slice A xs.length c) xs) (hk : k < xs.length) :
    ∃ b o l A' c', A = some ⟨b, o, none⟩ ∧ b < B ∧ Hid (xs[k]? = some l) ∧ w.cell? ⟨b, o + k, none⟩ = some (.slice A' l.length c') ∧ SlI w B (.slice A' l.length c') l := by
  obtain ⟨A', c', e, h1, h2, h3, h4⟩ := h
  injection e with e1 e2 e3; subst e1
  obtain ⟨b, o, rfl, hb, hc⟩ := h4 (by omega)
  have hx : xs[k]? = some xs[k] := List.getElem?_eq_getElem hk
  obtain ⟨v, hv, hs⟩ := hc k _ hx
  have hs' := hs
  obtain ⟨A2, c2, rfl, _⟩ := hs
  exact ⟨b, o, xs[k], A2, c2, rfl, hb, hx, by simpa using hv, hs'⟩

/-- What a walk takes of a slice at its head. -/
theorem SlG.open_ {α : Type} {sz : Nat} {R : World → Nat → Nat → Nat → α → Prop} {w : World} {B : Nat} {val : Value} {xs : List α} (h : SlG sz R w B val xs) :
    ∃ A c, val = .slice A xs.length c ∧ xs.length ≤ c ∧ c ≤ 9223372036854775807 ∧ xs.length ≤ 17592186044416 ∧ SlG sz R w B (.slice A xs.length c) xs := by
  have h' := h
  obtain ⟨A, c, rfl, h1, h2, h3, _⟩ := h
  exact ⟨A, c, rfl, h1, h2, h3, h'⟩

theorem SlG.nil {α : Type} {sz : Nat} {R : World → Nat → Nat → Nat → α → Prop} {w : World} {B : Nat} : SlG sz R w B (.slice none 0 0) ([] : List α) :=
  ⟨none, 0, rfl, by simp, by omega, by simp, fun h => absurd h (by simp)⟩

theorem take_snoc {α : Type} {l : List α} {k : Nat} {x : α} (h : l[k]? = some x) : l.take (k + 1) = l.take k ++ [x] := by
  rw [List.take_add_one, h]; rfl
theorem lt_of_some {α : Type} {l : List α} {k : Nat} {x : α} (h : l[k]? = some x) : k < l.length := (List.getElem?_eq_some_iff.1 h).1

theorem below_drewN {B : Nat} {a w : World} (h : Below B a w) (n : Nat) : Below B a (w.drewN n) := ⟨h.os, h.tape, h.output, h.size, h.block⟩
theorem drewN_below (B : Nat) (w : World) (n : Nat) : Below B w (w.drewN n) := below_drewN (Below.refl _ _) n

/-- The worlds that a region may come to whose calls make memory of their own: below the heap's size all is as it was. -/
def InB (w : World) : Type := { W : World // Below w.heap.size w W }
instance instNonemptyInB (w : World) : Nonempty (InB w) := ⟨⟨w, Below.refl _ _⟩⟩
def InB.val {w : World} (s : InB w) : World := s.1
theorem InB.cell {w : World} {b o : Nat} {v : Value} (hb : b < w.heap.size) (hc : w.cell? ⟨b, o, none⟩ = some v) (s : InB w) : s.val.cell? ⟨b, o, none⟩ = some v := bcell s.2 hb hc
theorem InB.below {w : World} (s : InB w) : Below w.heap.size w s.val := s.2
theorem InB.size {w : World} (s : InB w) : w.heap.size ≤ s.val.heap.size := s.2.size
theorem wp_region_inB {P : Program} {id : Nat} {Q : Exit → Act → World → Prop} {a : Act} {w : World} {l : List Oper} (hm : P.follows .mixedOrders = true) (hB : Region.lexB .any l.toArray = true)
    (h : wpQuiet P l.toArray (fun w' => ∃ s : InB w, w' = s.val) (fun a' => ∀ w', (∃ s : InB w, w' = s.val) → Q .normal a' w') l a) : (Code.region id l.toArray true).wp P Q a w :=
  wp_region_quiet (C := fun w' => ∃ s : InB w, w' = s.val) hm hB ⟨⟨{ w with drawn := w.drawn + 1 }, drewN_below _ _ 1⟩, rfl⟩ (by simpa using h)
/-- A callee that makes memory of its own and hands back a plain value. -/
theorem InB.call {P : Program} {f : FuncId} {args : Array Value} {w : World} {s : InB w} {v : Value} (h : Calls P f args s.val fun e w' => e = .returned v ∧ Below s.val.heap.size s.val w') :
    Calls P f args s.val fun e w'' => e = .returned v ∧ ∃ s' : InB w, w'' = s'.val :=
  h.mono fun _ w'' ⟨he, hb⟩ => ⟨he, ⟨⟨w'', s.2.trans (hb.mono s.2.size)⟩, rfl⟩⟩
theorem InB.call_same {P : Program} {f : FuncId} {args : Array Value} {w : World} {s : InB w} {v : Value} (h : Calls P f args s.val fun e w' => e = .returned v ∧ w' = s.val) :
    Calls P f args s.val fun e w'' => e = .returned v ∧ ∃ s' : InB w, w'' = s'.val :=
  h.mono fun _ w'' ⟨he, hb⟩ => ⟨he, ⟨s, hb⟩⟩

/-! ### A block of the call's own, known whole -/
def Blk (w : World) (g : Nat) (t : TypeId) (cs : Array Value) : Prop := w.heap[g]? = some (.cells cs t (0, 0))
section
variable {w w' : World} {g : Nat} {t : TypeId} {cs : Array Value}
theorem Blk.lt (h : Blk w g t cs) : g < w.heap.size := by
  rcases Nat.lt_or_ge g w.heap.size with hlt | hge
  · exact hlt
  · unfold Blk at h; rw [Array.getElem?_eq_none hge] at h; cases h
theorem Blk.cell (h : Blk w g t cs) (i : Nat) : w.cell? ⟨g, i, none⟩ = cs[i]? := cell_of_row w g i cs t (0, 0) h
theorem Blk.cell' (h : Blk w g t cs) {i : Nat} {v : Value} (hv : cs[i]? = some v) : w.cell? ⟨g, i, none⟩ = some v := (h.cell i).trans hv
theorem Blk.call (h : Blk w g t cs) (hb : Below w.heap.size w w') : Blk w' g t cs := (hb.block g h.lt).trans h
theorem Blk.frozen (h : Blk w g t cs) (i : Nat) : w.frozen? ⟨g, i, none⟩ = false := by
  unfold Blk at h
  simp [World.frozen?, h]
theorem Blk.new (w : World) (t : TypeId) (cs : Array Value) : Blk (w.alloc (.cells cs t)) w.heap.size t cs := heap_alloc_new w _
theorem Blk.drewN (h : Blk w g t cs) (n : Nat) : Blk (w.drewN n) g t cs := h
theorem Blk.alloc (h : Blk w g t cs) (o : Obj) : Blk (w.alloc o) g t cs := (Below.heap_alloc w o g h.lt).trans h
theorem Blk.set_ (h : Blk w g t cs) (i : Nat) (u : Value) : Blk (w.setCell ⟨g, i, none⟩ u) g t (cs.setIfInBounds i u) := by
  unfold Blk at h ⊢
  simp [World.setCell, Array.getElem?_modify, h]
theorem Blk.far (h : Blk w g t cs) {p : Addr} (hp : g ≠ p.block) (u : Value) : Blk (w.setCell p u) g t cs := (Below.heap_setCell w p u g hp).trans h
theorem Blk.below {B : Nat} (h : Blk w g t cs) (hb : Below B w w') (hg : g < B) : Blk w' g t cs := (hb.block g hg).trans h
theorem Blk.grown {row : Option Nat} (h : Blk w g t cs) (hb : w.grownBy w' row) (hg : some g ≠ row) : Blk w' g t cs := (hb.block g h.lt hg).trans h
theorem Blk.own (h : Blk w g t cs) {base n cap size : Nat} (hb : base ≤ g) (hnc : n ≤ cap) (hm : cap ≤ maxLen) (hs : cs.size = cap * size) :
    w.ownsRow base t size (.slice (some ⟨g, 0, none⟩) n cap) n (cs.toList.take (n * size)) :=
  ⟨by rw [List.length_take, Array.length_toList, hs]; exact Nat.min_eq_left (Nat.mul_le_mul_right _ hnc), .inr ⟨g, cap, cs, rfl, hb, h, hnc, hm, hs, rfl⟩⟩
end

/-- The cells of a slice that make lays: z, n times. -/
def mkCells (z : Value) (n : Nat) : Array Value := madeCells z.cells n
theorem mkCells_size (z : Value) (n : Nat) : (mkCells z n).size = n := by simp [mkCells, madeCells]
theorem run_mk {P : Program} {t e : TypeId} {i : TypeInfo} {z : Value} (ht : P.underlying t = some (.slice e)) (hi : P.info? e = some i) (hz : i.zero = some z) {n : Nat} (hb : i.bytes * n ≤ 281474976710656) (h63 : n ≤ 9223372036854775807) (W : World) :
    (Instr.makeSlice t (.int .i64 (n : Int)) (.int .i64 (n : Int))).run P W = .ok (.slice (some ⟨W.heap.size, 0, none⟩) n n) (W.alloc (.cells (mkCells z (n * i.size)) e)) := by
  have hb' : (i.bytes : Int) * (n : Int) ≤ 281474976710656 := by
    have h : ((i.bytes * n : Nat) : Int) ≤ 281474976710656 := by omega
    rwa [Int.natCast_mul] at h
  have hr := run_make (P := P) W t e i z ht hi hz .i64 .i64 n n (by omega) (by omega) hb' (by omega)
  simp only [Int.toNat_natCast] at hr
  exact hr

/-! ### What a mark may turn: the blocks from lo on, below hi -/
structure Chg (lo hi : Nat) (w w' : World) : Prop where
  os : w'.os = w.os
  tape : w'.tape = w.tape
  output : w'.output = w.output
  size : w.heap.size ≤ w'.heap.size
  block : ∀ k, k < w.heap.size → (k < lo ∨ hi ≤ k) → w'.heap[k]? = w.heap[k]?
theorem Chg.refl (lo hi : Nat) (w : World) : Chg lo hi w w := ⟨rfl, rfl, rfl, Nat.le_refl _, fun _ _ _ => rfl⟩
theorem Chg.trans {lo hi : Nat} {a b c : World} (h : Chg lo hi a b) (k : Chg lo hi b c) : Chg lo hi a c :=
  ⟨k.os.trans h.os, k.tape.trans h.tape, k.output.trans h.output, Nat.le_trans h.size k.size, fun i hi' hne => (k.block i (Nat.lt_of_lt_of_le hi' h.size) hne).trans (h.block i hi' hne)⟩
theorem Chg.of_below {lo hi : Nat} {w w' : World} (h : Below w.heap.size w w') : Chg lo hi w w' := ⟨h.os, h.tape, h.output, h.size, fun k hk _ => h.block k hk⟩
theorem Chg.wider {lo hi lo' hi' : Nat} {w w' : World} (h : Chg lo hi w w') (h1 : lo' ≤ lo) (h2 : hi ≤ hi') : Chg lo' hi' w w' :=
  ⟨h.os, h.tape, h.output, h.size, fun k hk hne => h.block k hk (by omega)⟩
theorem Chg.below {lo hi B : Nat} {w w' : World} (h : Chg lo hi w w') (hB : B ≤ lo) (hs : B ≤ w.heap.size) : Below B w w' := ⟨h.os, h.tape, h.output, h.size, fun k hk => h.block k (by omega) (by omega)⟩
theorem Blk.chg {w w' : World} {g lo hi : Nat} {t : TypeId} {cs : Array Value} (h : Blk w g t cs) (hc : Chg lo hi w w') (hg : g < lo ∨ hi ≤ g) : Blk w' g t cs := (hc.block g h.lt hg).trans h
theorem below_alloc (w : World) (o : Obj) : Below w.heap.size w (w.alloc o) := (Below.refl _ _).alloc (Nat.le_refl _) _

/-- A stop for the walk: 'go_wp2_with (at_builtin; refine Hold.stop ?_)' stands at the next append; 'unfold Hold' goes on. -/
def Hold (p : Prop) : Prop := p
theorem Hold.stop {p : Prop} (h : Hold p) : p := h
theorem unhide {p : Prop} (h : Hid p) : p := h
theorem drew_below (w : World) : Below w.heap.size w w.drew := (Below.refl _ _).drew
end Go.Proofs.Ytjlgijdkfihhlaa

/- Lists of ints: the law's copies, comparisons, marks. -/
namespace Go.Proofs.Ytjlgijdkfihhlaa
set_option linter.unusedVariables false
set_option linter.unusedSimpArgs false
open Go.RowKit

theorem infoInt : (Try.prog.info? 3).map (fun i => (i.zero, i.size, i.bytes)) = some (some (.int .i64 0), 1, 8) := by kernel_rfl

/-- What is left of a purse behind n elements. -/
def szLeft (left : Int) (n : Nat) : Int := if left < n then -1 else left - n
theorem szIntS_any (A : Option Addr) (n c : Nat) (left : Int) (w : World) (hn : n ≤ 17592186044416) (h0 : 0 ≤ left) (h1 : left ≤ 1048576) :
    Calls Try.prog 61 #[.slice A n c, .int .i64 left] w fun e w' => e = .returned (.int .i64 (szLeft left n)) ∧ w' = w := by
  by_cases h : left < n
  · have h' : left - n < 0 := by omega
    go_enter Try.func61, Try.ntmps61
    go_wp2
    go_ret
    exact ⟨by rw [szLeft, if_pos h]; rfl, rfl⟩
  · have h' : ¬ left - n < 0 := by omega
    go_enter Try.func61, Try.ntmps61
    go_wp2
    go_ret
    exact ⟨by rw [szLeft, if_neg (by omega)]; rfl, rfl⟩

/-- The first k elements of a row of ints are laid. -/
def IntCs (cs : Array Value) (xs : List Int) (k : Nat) : Prop := cs.size = xs.length ∧ ∀ j x, j < k → xs[j]? = some x → cs[j]? = some (.int .i64 x)
theorem IntCs.step {cs : Array Value} {xs : List Int} {k : Nat} {x : Int} (h : IntCs cs xs k) (hx : xs[k]? = some x) : IntCs (cs.setIfInBounds k (.int .i64 x)) xs (k + 1) := by
  obtain ⟨hs, h⟩ := h
  have hk := lt_of_some hx
  refine ⟨by simpa using hs, fun j u hj hu => ?_⟩
  by_cases e : j = k
  · subst e
    rw [hx] at hu
    injection hu with hu
    subst hu
    simp [Array.getElem?_setIfInBounds]; omega
  · rw [Array.getElem?_setIfInBounds, if_neg (by omega)]
    exact h j u (by omega) hu

/-- A row of ints of the call's own. -/
def OwnI (w : World) (base : Nat) (v : Value) (l : List Int) : Prop :=
  w.ownsRow base 3 1 v l.length (l.map (Value.int .i64)) ∧ l.length ≤ 17592186044416 ∧ ∀ x ∈ l, I64 x
theorem OwnI.nil (w : World) (base : Nat) : OwnI w base (.slice none 0 0) [] := ⟨World.ownsRow_nil _ _ _ _, by simp, by simp⟩
theorem OwnI.rd {w : World} {base : Nat} {v : Value} {l : List Int} (h : OwnI w base v l) : SlI w w.heap.size v l := by
  obtain ⟨h1, h2, h3⟩ := h
  rcases h1.2 with ⟨rfl, h0⟩ | ⟨g, cap, cur, rfl, _, hg, hnc, hcm, hcs, htake⟩
  · obtain rfl : l = [] := List.eq_nil_of_length_eq_zero h0
    exact SlG.nil
  · refine ⟨_, _, rfl, hnc, by simp only [maxLen] at hcm; omega, h2, fun hp => ⟨g, 0, rfl, (Array.getElem?_eq_some_iff.1 hg).1, fun j x hj => ⟨?_, h3 x (List.mem_of_getElem? hj)⟩⟩⟩
    have hc := h1.cellAt j (by have := lt_of_some hj; omega)
    rw [show 0 + j * 1 = j by omega, hc]
    simp [hj]
theorem OwnI.below {w w' : World} {base : Nat} {v : Value} {l : List Int} (h : OwnI w base v l) (hb : Below w.heap.size w w') : OwnI w' base v l :=
  ⟨h.1.kept (row := none) ⟨hb.os, hb.tape, hb.output, hb.size, fun k hk _ => hb.block k hk⟩ (by cases v.ownBlock <;> simp), h.2⟩
theorem OwnI.lower {w : World} {base base' : Nat} {v : Value} {l : List Int} (h : OwnI w base v l) (hb : base' ≤ base) : OwnI w base' v l := by
  obtain ⟨⟨h0, h1⟩, h2⟩ := h
  refine ⟨⟨h0, ?_⟩, h2⟩
  rcases h1 with h1 | ⟨g, cap, cur, e, hg, rest⟩
  · exact .inl h1
  · exact .inr ⟨g, cap, cur, e, by omega, rest⟩
/-- a block that is known whole is a row of the call's own -/
theorem OwnI.of_blk {w : World} {base g : Nat} {cs : Array Value} {xs : List Int} (hb : Blk w g 3 cs) (hg : base ≤ g) (hcs : IntCs cs xs xs.length) (hn : xs.length ≤ 17592186044416) (hr : ∀ x ∈ xs, I64 x) :
    OwnI w base (.slice (some ⟨g, 0, none⟩) xs.length xs.length) xs := by
  refine ⟨⟨by simp, .inr ⟨g, xs.length, cs, rfl, hg, hb, Nat.le_refl _, by simp only [maxLen]; omega, by rw [hcs.1]; omega, ?_⟩⟩, hn, hr⟩
  apply List.ext_getElem?
  intro j
  by_cases hj : j < xs.length
  · rw [List.getElem?_take, if_pos (by omega), Array.getElem?_toList, hcs.2 j _ hj (List.getElem?_eq_getElem hj)]
    simp [hj]
  · rw [List.getElem?_take, if_neg (by omega)]
    simp [Nat.le_of_not_lt hj]
theorem SlI.i64 {w : World} {B : Nat} {v : Value} {l : List Int} (h : SlI w B v l) : ∀ x ∈ l, I64 x := by
  obtain ⟨A, c, _, _, _, _, h4⟩ := h
  intro x hx
  obtain ⟨j, hj⟩ := List.getElem?_of_mem hx
  obtain ⟨_, _, _, _, hr⟩ := h4 (by have := lt_of_some hj; omega)
  exact (hr j x hj).2

set_option maxHeartbeats 400000 in
theorem toIntS_own (u : Value) (xs : List Int) (w : World) (hu : SlI w w.heap.size u xs) (hn : xs.length ≤ 1048576) :
    Calls Try.prog 40 #[u] w fun e w' => ∃ v, e = .returned v ∧ OwnI w' w.heap.size v xs ∧ Below w.heap.size w w' := by
  obtain ⟨A, c, rfl, _, _, _, hx⟩ := hu.open_
  clear hu
  obtain ⟨i0, hi, hz0, hz1, hz2⟩ := info_parts infoInt
  have hmk := run_mk (P := Try.prog) Try.underlying22 hi hz0 (n := xs.length) (by rw [hz2]; omega) (by omega)
  rw [hz1] at hmk
  clear hi hz0 hz1 hz2
  go_enter Try.func40, Try.ntmps40
  go_wp2
  go_loopw [4] (fun i wr => ∃ (k : Nat) (cs : Array Value), k ≤ xs.length ∧ i = .int .i64 k ∧ Below w.heap.size w wr ∧ Blk wr w.heap.size 3 cs ∧ IntCs cs xs k) (fun i _ => xs.length - (intOf i).toNat)
  case atStart => exact ⟨0, _, Nat.zero_le _, rfl, (Below.refl _ _).alloc (Nat.le_refl _) _, Blk.new _ _ _, by rw [mkCells_size], fun j x h => absurd h (by omega)⟩
  case round =>
    obtain ⟨k, cs, hk, rfl, hbel, hblk, hcs⟩ := hrel
    by_cases hlt : k < xs.length
    · obtain ⟨b, o, x, rfl, hb, HX, c1, _⟩ := SlI.at_ hx hlt
      have d1 := bcell hbel hb c1
      have f0 := hblk.frozen
      obtain ⟨v0, e0⟩ : ∃ v0, wr.cell? ⟨w.heap.size, k, none⟩ = some v0 := by rw [hblk.cell]; have := hcs.1; exact ⟨_, Array.getElem?_eq_getElem (by omega)⟩
      clear c1 hx
      go_wp2
      go_roundw
      case rel => exact ⟨k + 1, _, by omega, by go_num, hbel.setCell (by simp) _, hblk.set_ _ _, hcs.step HX.out⟩
      case measure => simp [intOf]; omega
    · go_wp2
      go_ret
      obtain rfl : k = xs.length := by omega
      exact ⟨_, rfl, OwnI.of_blk hblk (Nat.le_refl _) hcs (by omega) (SlI.i64 hx), hbel⟩
theorem toIntS_any (u : Value) (xs : List Int) (w : World) (hu : SlI w w.heap.size u xs) (hn : xs.length ≤ 1048576) :
    Calls Try.prog 40 #[u] w fun e w' => ∃ v, e = .returned v ∧ SlI w' w'.heap.size v xs ∧ Below w.heap.size w w' :=
  (toIntS_own u xs w hu hn).mono fun _ _ ⟨v, h1, h2, h3⟩ => ⟨v, h1, h2.rd, h3⟩

set_option maxHeartbeats 400000 in
theorem eqIntS_any (u v : Value) (xs ys : List Int) (w : World) (hu : SlI w w.heap.size u xs) (hv : SlI w w.heap.size v ys) :
    Calls Try.prog 42 #[u, v] w fun e w' => e = .returned (.bool (decide (xs = ys))) ∧ Below w.heap.size w w' := by
  obtain ⟨A, c, rfl, _, _, hn, hx⟩ := hu.open_
  obtain ⟨C, d, rfl, _, _, hm, hy⟩ := hv.open_
  clear hu hv
  by_cases hnm : xs.length = ys.length
  · have heq : ((xs.length : Int) != ys.length) = false := by rw [bne_eq_false_iff_eq]; omega
    have HN := Lib.hid hnm
    clear hnm
    go_enter Try.func42, Try.ntmps42
    go_wp2
    go_loopw [5] (fun i wr => ∃ k q : Nat, k ≤ xs.length ∧ i = .int .i64 k ∧ wr = w.drewN q ∧ Hid (xs.take k = ys.take k)) (fun i _ => xs.length - (intOf i).toNat)
    case atStart => exact ⟨0, 0, Nat.zero_le _, rfl, rfl, rfl⟩
    case round =>
      obtain ⟨k, q, hk, rfl, rfl, hxy⟩ := hrel
      by_cases hlt : k < xs.length
      · have hlt' : k < ys.length := by have := HN.out; omega
        obtain ⟨b, o, x, rfl, hb, HX, c1, _⟩ := SlI.at_ hx hlt
        obtain ⟨b', o', x', rfl, hb', HX', c1', _⟩ := SlI.at_ hy hlt'
        clear hx hy
        by_cases hE : x = x'
        · subst hE
          go_wp2
          go_quiet (fail)
          go_wp2
          go_roundw
          case rel =>
            refine ⟨k + 1, q + nq, by omega, by go_num, rfl, ?_⟩
            show _ = _
            rw [take_snoc HX.out, take_snoc HX'.out, hxy.out]
          case measure => simp [intOf]; omega
        · have hne : (x != x') = true := by simpa using hE
          have hxy' : Hid (xs ≠ ys) := by
            rintro rfl
            have h2 := HX.out
            rw [HX'.out] at h2
            exact hE (by injection h2 with h2; exact h2.symm)
          clear hE
          go_wp2
          go_quiet (fail)
          go_wp2
          go_ret
          exact ⟨by rw [decide_eq_false hxy'.out]; rfl, below_drewN (drewN_below _ _ _) _⟩
      · go_wp2
        go_ret
        refine ⟨?_, drewN_below _ _ _⟩
        have h1 := hxy.out
        rw [List.take_of_length_le (by omega), List.take_of_length_le (by have := HN.out; omega)] at h1
        simp [h1]
  · have hne : ((xs.length : Int) != ys.length) = true := by rw [bne_iff_ne]; omega
    go_enter Try.func42, Try.ntmps42
    go_wp2
    go_ret
    refine ⟨?_, Below.refl _ _⟩
    rw [decide_eq_false (by rintro rfl; omega)]; rfl

/-- Marks: k, k + 1, .. -/
def mkI (k : Int) (n : Nat) : List Int := (List.range n).map fun i : Nat => k + (i : Int)
theorem mkI_length (k : Int) (n : Nat) : (mkI k n).length = n := by simp [mkI]
theorem mkI_get {k : Int} {n j : Nat} (h : j < n) : (mkI k n)[j]? = some (k + j) := by simp [mkI, h]
theorem mkI_mem {k x : Int} {n : Nat} (h : x ∈ mkI k n) : k ≤ x ∧ x < k + n := by
  simp only [mkI, List.mem_map, List.mem_range] at h
  obtain ⟨i, hi, rfl⟩ := h
  omega
theorem mk_set (k : Int) (l : List Int) (j : Nat) (hj : j < l.length) :
    (((mkI k j).map (Value.int .i64) ++ (l.map (Value.int .i64)).drop j).set j (.int .i64 (k + j))) = (mkI k (j + 1)).map (Value.int .i64) ++ (l.map (Value.int .i64)).drop (j + 1) := by
  apply List.ext_getElem?
  intro i
  rw [List.getElem?_set]
  by_cases e : j = i
  · subst e
    rw [if_pos rfl, if_pos (by simp [mkI_length]; omega), List.getElem?_append_left (by simp [mkI_length])]
    rw [List.getElem?_map, mkI_get (by omega)]; rfl
  · rw [if_neg e]
    by_cases hi : i < j
    · rw [List.getElem?_append_left (by simp [mkI_length, hi]), List.getElem?_append_left (by simp [mkI_length]; omega)]
      rw [List.getElem?_map, List.getElem?_map, mkI_get hi, mkI_get (by omega)]
    · rw [List.getElem?_append_right (by simp [mkI_length]; omega), List.getElem?_append_right (by simp [mkI_length]; omega)]
      simp only [List.length_map, mkI_length, List.getElem?_drop]
      congr 1
      omega

set_option maxHeartbeats 400000 in
theorem markIntS_any (v : Value) (l : List Int) (k : Int) (base : Nat) (w : World) (hv : OwnI w base v l) (h0 : 0 ≤ k) (h1 : k ≤ 1152921504606846976) :
    Calls Try.prog 55 #[v, .int .i64 k] w fun e w' => e = .returned (.int .i64 (k + l.length)) ∧ OwnI w' base v (mkI k l.length) ∧ w.grownBy w' v.ownBlock := by
  obtain ⟨ho, hn, hr⟩ := hv
  have ho' := ho
  rcases ho.2 with ⟨rfl, hl0⟩ | ⟨g, cap, cur, rfl, hbg, hgg, hnc, hcm, _⟩
  · obtain rfl : l = [] := List.eq_nil_of_length_eq_zero hl0
    go_enter Try.func55, Try.ntmps55
    go_wp2
    refine wp_loop_rounds 1 ?_
    rw [rounds_succ]
    go_wp2
    go_ret
    refine ⟨by simp, ?_, World.grownBy.refl _ _⟩
    exact OwnI.nil _ _
  · have hgl : g < w.heap.size := (Array.getElem?_eq_some_iff.1 hgg).1
    clear ho' hgg
    go_enter Try.func55, Try.ntmps55
    go_wp2
    go_loopw [1, 5] (fun q i wr => ∃ j : Nat, j ≤ l.length ∧ i = .int .i64 j ∧ q = .int .i64 (k + j) ∧ wr.ownsRow base 3 1 (.slice (some ⟨g, 0, none⟩) l.length cap) l.length ((mkI k j).map (Value.int .i64) ++ (l.map (Value.int .i64)).drop j) ∧ w.grownBy wr (some g)) (fun _ i _ => l.length - (intOf i).toNat)
    case atStart => exact ⟨0, Nat.zero_le _, rfl, by simp, by simpa [mkI] using ho, World.grownBy.refl _ _⟩
    case round =>
      obtain ⟨j, hj, rfl, rfl, hown, hgr⟩ := hrel
      by_cases hlt : j < l.length
      · have c0 := hown.cellAt j (by omega)
        have f0 := hown.frozenAt j
        have hlen : j < ((mkI k j).map (Value.int .i64) ++ (l.map (Value.int .i64)).drop j).length := by simp [mkI_length]; omega
        rw [List.getElem?_eq_getElem hlen] at c0
        obtain ⟨v0, c0'⟩ : ∃ v0, wr.cell? ⟨g, j, none⟩ = some v0 := ⟨_, c0⟩
        have hst := hown.stored j (.int .i64 (k + j))
        rw [mk_set k l j hlt] at hst
        clear c0 hown hlen ho
        go_wp2
        go_roundw
        case rel => exact ⟨j + 1, by omega, by go_num, by congr 1; omega, hst.1, ⟨hst.2.os.trans hgr.os, hst.2.tape.trans hgr.tape, hst.2.output.trans hgr.output, Nat.le_trans hgr.size hst.2.size, fun b hb hne => (hst.2.block b (Nat.lt_of_lt_of_le hb hgr.size) hne).trans (hgr.block b hb hne)⟩⟩
        case measure => simp [intOf]; omega
      · obtain rfl : j = l.length := by omega
        go_wp2
        go_ret
        refine ⟨rfl, ⟨?_, by rw [mkI_length]; exact hn, fun x hx => ?_⟩, hgr⟩
        · rw [List.drop_of_length_le (by simp), List.append_nil] at hown
          rw [mkI_length]; exact hown
        · have := mkI_mem hx
          exact ⟨by omega, by omega⟩

set_option maxHeartbeats 400000 in
theorem heldIntS_any (v : Value) (n : Nat) (k : Int) (B : Nat) (w : World) (hv : SlI w B v (mkI k n)) (h0 : 0 ≤ k) (h1 : k ≤ 1152921504606846976) :
    Calls Try.prog 56 #[v, .int .i64 k] w fun e w' => e = .returned (.int .i64 (k + n)) ∧ Below w.heap.size w w' := by
  obtain ⟨A, c, rfl, _, _, hn, hx⟩ := hv.open_
  have HL := Lib.hid (mkI_length k n)
  clear hv
  go_enter Try.func56, Try.ntmps56
  go_wp2
  go_loopw [1, 5] (fun q i wr => ∃ (j : Nat) (m : Nat), j ≤ (mkI k n).length ∧ i = .int .i64 j ∧ q = .int .i64 (k + j) ∧ wr = w.drewN m) (fun _ i _ => (mkI k n).length - (intOf i).toNat)
  case atStart => exact ⟨0, 0, Nat.zero_le _, rfl, by simp, rfl⟩
  case round =>
    obtain ⟨j, m, hj, rfl, rfl, rfl⟩ := hrel
    by_cases hlt : j < (mkI k n).length
    · obtain ⟨b, o, x, rfl, hb, HX, c1, _⟩ := SlI.at_ hx hlt
      have hx' : x = k + j := by
        have := HX.out
        rw [mkI_get (by have := HL.out; omega)] at this
        injection this with this
        exact this.symm
      subst hx'
      clear hx
      go_wp2
      go_roundw
      case rel => exact ⟨j + 1, _, by omega, by go_num, by congr 1; omega, rfl⟩
      case measure => simp [intOf]; omega
    · obtain hjn : j = n := by have := HL.out; omega
      subst hjn
      go_wp2
      go_ret
      exact ⟨rfl, drewN_below _ _ _⟩
end Go.Proofs.Ytjlgijdkfihhlaa

/- append onto a row of the call's own, whatever is appended. -/
namespace Go.Proofs.Ytjlgijdkfihhlaa
set_option linter.unusedVariables false
set_option linter.unusedSimpArgs false
open Go.RowKit

section
variable {P : Program} (w : World)

theorem run_append_none (base : Nat) (t ty e : TypeId) (i : TypeInfo) (size : Nat) (ht : P.underlying t = some (.slice e)) (hi : P.info? e = some i)
    (v : Value) (n : Nat) (xs : List Value) (hown : w.ownsRow base e size v n xs) (c : Nat) : (Builtin.append_ #[t, t] ty #[v, .slice none 0 c]).run P w = .ok v w := by
  rcases hown.2 with ⟨rfl, rfl⟩ | ⟨g, cap, cur, rfl, _, _, hnc, _⟩
  · simp [Builtin.append_, run_underlying ht, sizeOf, typeInfo, hi, Builtin.lenOf, Builtin.firstCells]
  · simp [Builtin.append_, run_underlying ht, sizeOf, typeInfo, hi, Builtin.lenOf, Builtin.firstCells, hnc, storeCells]

/-- What is appended: its cells, nil and empty let in. -/
def NewsAt (w : World) (A : Option Addr) (m : Nat) (news : List Value) (size : Nat) : Prop := news.length = m * size ∧ (m = 0 ∨ ∃ b o, A = some ⟨b, o, none⟩ ∧ ∀ j u, news[j]? = some u → w.cell? ⟨b, o + j, none⟩ = some u)

theorem run_append_G (base : Nat) (t ty e : TypeId) (i : TypeInfo) (z : Value) (size bytes : Nat) (ht : P.underlying t = some (.slice e)) (hi : P.info? e = some i) (hz : i.zero = some z)
    (hsize : i.size = size) (hby : i.bytes = bytes) (hzs : z.cells.size = size) (hsz : 0 < size)
    (v : Value) (n : Nat) (xs : List Value) (hown : w.ownsRow base e size v n xs)
    (A : Option Addr) (m c : Nat) (news : List Value) (hnews : NewsAt w A m news size) (h1 : ∀ u ∈ news, u.oneCell' = true)
    (h63 : n + m ≤ maxLen) (hbytes : (n + m) * bytes ≤ 140737488355328) (hbase : base ≤ w.heap.size) :
    ∃ v' w', (Builtin.append_ #[t, t] ty #[v, .slice A m c]).run P w = .ok v' w' ∧ w'.ownsRow base e size v' (n + m) (xs ++ news) ∧ w.grownBy w' v.ownBlock ∧
      (v'.ownBlock = v.ownBlock ∨ v'.ownBlock = some w.heap.size) := by
  obtain ⟨hl, hn⟩ := hnews
  rcases A with _ | ad
  · have hm : m = 0 := by
      rcases hn with h | ⟨b, o, h, _⟩
      · exact h
      · cases h
    subst hm
    obtain rfl : news = [] := List.eq_nil_of_length_eq_zero (by simpa using hl)
    exact ⟨v, w, run_append_none w base t ty e i size ht hi v n xs hown c, by simpa using hown, World.grownBy.refl w _, .inl rfl⟩
  · have hcells : ∀ j u, news[j]? = some u → w.cell? (ad.add j) = some u := by
      intro j u hu
      rcases hn with h | ⟨b, o, h, hc⟩
      · subst h
        obtain rfl : news = [] := List.eq_nil_of_length_eq_zero (by simpa using hl)
        simp at hu
      · injection h with h
        subst h
        have e : (⟨b, o, none⟩ : Addr).add j = ⟨b, o + j, none⟩ := by unfold Addr.add; split <;> simp_all
        rw [e]
        exact hc j u hu
    obtain ⟨v', w', hrun, h2, h3, _, h5⟩ := run_append_own_at (P := P) w base t ty e i z size bytes ht hi hz hsize hby hzs hsz v n xs hown ad m c news hl hcells h1 h63 hbytes hbase
    exact ⟨v', w', hrun, h2, h3, h5⟩

theorem wpList_append_G {ops : Array Oper} {rest : List Oper} {o : Oper} {a : Act} {Q : Exit → Act → World → Prop} (hgd : o.guard = none) (s x : Operand) (t : TypeId)
    (ho : o.op = .call { callee := .builtin .append, args := #[s, x], argTypes := #[t, t] })
    (base : Nat) (e : TypeId) (i : TypeInfo) (z : Value) (size bytes : Nat) (ht : P.underlying t = some (.slice e)) (hi : P.info? e = some i) (hz : i.zero = some z)
    (hsize : i.size = size) (hby : i.bytes = bytes) (hzs : z.cells.size = size) (hsz : 0 < size)
    (v : Value) (n : Nat) (xs : List Value) (hs : a.eval s = v) (hown : w.ownsRow base e size v n xs)
    (A : Option Addr) (m c : Nat) (news : List Value) (hx : a.eval x = .slice A m c) (hnews : NewsAt w A m news size) (h1 : ∀ u ∈ news, u.oneCell' = true)
    (h63 : n + m ≤ maxLen) (hbytes : (n + m) * bytes ≤ 140737488355328) (hbase : base ≤ w.heap.size)
    (h : ∀ v' w', w'.ownsRow base e size v' (n + m) (xs ++ news) → w.grownBy w' v.ownBlock → (v'.ownBlock = v.ownBlock ∨ v'.ownBlock = some w.heap.size) → wpList P ops Q rest (a.put o.dst v') w') : wpList P ops Q (o :: rest) a w := by
  refine wpList_plain hgd fun K hK => ?_
  obtain ⟨v', w', hrun, h2, h3, h4⟩ := run_append_G (P := P) w base t o.type e i z size bytes ht hi hz hsize hby hzs hsz v n xs hown A m c news hnews h1 h63 hbytes hbase
  unfold Oper.wp execOp
  simp only [ho, resolve, invoke, builtin, Sem.run_bind, Sem.run_pure, Result.andThen_ok, List.map_toArray, List.map_cons, List.map_nil, hs, hx, hrun]
  exact hK _ _ (h v' w' h2 h3 h4)
end

theorem NewsAt.of_sl {w : World} {B : Nat} {A : Option Addr} {c : Nat} {l : List Int} (h : SlI w B (.slice A l.length c) l) : NewsAt w A l.length (l.map (Value.int .i64)) 1 := by
  refine ⟨by simp, ?_⟩
  obtain ⟨A', c', e, h1, h2, h3, h4⟩ := h
  injection e with e1 e2 e3; subst e1
  rcases Nat.eq_zero_or_pos l.length with h0 | h0
  · exact .inl h0
  · obtain ⟨b, o, rfl, _, hc⟩ := h4 h0
    refine .inr ⟨b, o, rfl, fun j u hu => ?_⟩
    rw [List.getElem?_map, Option.map_eq_some_iff] at hu
    obtain ⟨x, hx, rfl⟩ := hu
    have := (hc j x hx).1
    simpa using this
theorem int_oneCell (l : List Int) : ∀ u ∈ l.map (Value.int .i64), u.oneCell' = true := by
  intro u hu
  obtain ⟨x, _, rfl⟩ := List.mem_map.1 hu
  rfl

/-- append of ints: l onto a row of the call's own. -/
theorem wpList_appI {w : World} {ops : Array Oper} {rest : List Oper} {o : Oper} {a : Act} {Q : Exit → Act → World → Prop} (hgd : o.guard = none) (s x : Operand)
    (ho : o.op = .call { callee := .builtin .append, args := #[s, x], argTypes := #[22, 22] })
    (base B : Nat) (v : Value) (l : List Int) (hs : a.eval s = v) (hown : OwnI w base v l) (A : Option Addr) (m c : Nat) (news : List Int) (hx : a.eval x = .slice A m c) (hm : m = news.length) (hr : SlI w B (.slice A news.length c) news)
    (hn : l.length + news.length ≤ 17592186044416) (hbase : base ≤ w.heap.size)
    (h : ∀ v' w', OwnI w' base v' (l ++ news) → w.grownBy w' v.ownBlock → (v'.ownBlock = v.ownBlock ∨ v'.ownBlock = some w.heap.size) → wpList Try.prog ops Q rest (a.put o.dst v') w') : wpList Try.prog ops Q (o :: rest) a w := by
  subst hm
  obtain ⟨i0, hi, hz0, hz1, hz2⟩ := info_parts infoInt
  refine wpList_append_G w hgd s x _ ho base 3 i0 _ 1 8 Try.underlying22 hi hz0 hz1 hz2 rfl (by decide) v l.length _ hs hown.1 A _ c _ hx (NewsAt.of_sl hr) (int_oneCell news) (by simp only [maxLen]; omega) (by omega) hbase fun v' w' h1 h2 h3 => ?_
  refine h v' w' ⟨by simpa using h1, by simpa using hn, fun y hy => ?_⟩ h2 h3
  rcases List.mem_append.1 hy with hy | hy
  · exact hown.2.2 y hy
  · exact SlI.i64 hr y hy

/-- the one-cell block that 'append(out, x)' lays first -/
theorem SlI.one (w : World) (t : TypeId) (x : Int) (hx : I64 x) : SlI (w.alloc (.cells #[.int .i64 x] t)) (w.alloc (.cells #[.int .i64 x] t)).heap.size (.slice (some ⟨w.heap.size, 0, none⟩) 1 1) [x] := by
  refine ⟨_, 1, rfl, by simp, by omega, by simp, fun _ => ⟨w.heap.size, 0, rfl, by simp, fun j y hj => ?_⟩⟩
  match j, hj with
  | 0, hj =>
    simp at hj
    subst hj
    exact ⟨by simp, hx⟩
  | j + 1, hj => simp at hj
theorem SlI.one' (w : World) (t : TypeId) (x : Int) (hx : I64 x) {g : Nat} (hg : w.heap.size = g) : SlI (w.alloc (.cells #[.int .i64 x] t)) (w.alloc (.cells #[.int .i64 x] t)).heap.size (.slice (some ⟨g, 0, none⟩) 1 1) [x] := by
  subst hg
  exact SlI.one w t x hx
theorem OwnI.form {w : World} {base : Nat} {v : Value} {l : List Int} (h : OwnI w base v l) : ∃ A c, v = .slice A l.length c ∧ l.length ≤ c ∧ c ≤ 9223372036854775807 := by
  rcases h.1.2 with ⟨rfl, h0⟩ | ⟨g, cap, cur, rfl, _, _, hnc, hcm, _⟩
  · exact ⟨none, 0, by rw [h0], by omega, by omega⟩
  · exact ⟨_, _, rfl, hnc, by simp only [maxLen] at hcm; omega⟩
theorem OwnI.alloc {w : World} {base : Nat} {v : Value} {l : List Int} (h : OwnI w base v l) (o : Obj) : OwnI (w.alloc o) base v l := ⟨h.1.alloc o, h.2⟩
theorem OwnI.drewN {w : World} {base : Nat} {v : Value} {l : List Int} (h : OwnI w base v l) (n : Nat) : OwnI (w.drewN n) base v l := h
theorem OwnI.kept {w w' : World} {base : Nat} {v : Value} {l : List Int} {row : Option Nat} (h : OwnI w base v l) (hg : w.grownBy w' row) (hne : v.ownBlock = none ∨ v.ownBlock ≠ row) : OwnI w' base v l := ⟨h.1.kept hg hne, h.2⟩
theorem OwnI.blkne {w : World} {base g : Nat} {v : Value} {l : List Int} {t : TypeId} {cs : Array Value} (h : OwnI w base v l) (hb : Blk w g t cs) (ht : 3 ≠ t) : some g ≠ v.ownBlock := by
  rcases h.1.2 with ⟨rfl, _⟩ | ⟨g', cap, cur, rfl, _, hh, _⟩
  · simp [Value.ownBlock]
  · intro he
    have : g = g' := by simpa [Value.ownBlock] using he
    subst this
    unfold Blk at hb
    rw [hh] at hb
    injection hb with hb
    injection hb with _ hb
    exact ht hb
theorem OwnI.setCell {w : World} {base : Nat} {v : Value} {l : List Int} (h : OwnI w base v l) {p : Addr} (hp : v.ownBlock ≠ some p.block) (u : Value) : OwnI (w.setCell p u) base v l :=
  h.kept (row := some p.block) ⟨rfl, rfl, rfl, by simp [World.setCell], fun k _ hne => Below.heap_setCell _ _ _ _ (fun e => hne (by rw [e]))⟩ (.inr hp)
theorem OwnI.made {w : World} {base : Nat} (t : TypeId) (ht : t = 3) (hb : base ≤ w.heap.size) : OwnI (w.alloc (.cells #[] t)) base (.slice (some ⟨w.heap.size, 0, none⟩) 0 0) [] := by
  subst ht
  exact ⟨World.ownsRow_made w #[] 0 hb (Nat.zero_le _) (by simp), by simp, by simp⟩
theorem OwnI.lt {w : World} {base : Nat} {v : Value} {l : List Int} (h : OwnI w base v l) : ∀ k, v.ownBlock = some k → base ≤ k ∧ k < w.heap.size := h.1.lt
end Go.Proofs.Ytjlgijdkfihhlaa

/- Quivers as values: the law's copies, comparisons, marks. -/
namespace Go.Proofs.Ytjlgijdkfihhlaa
set_option linter.unusedVariables false
set_option linter.unusedSimpArgs false
open Go.RowKit

/-- A quiver as data. -/
structure Qv where
  v : Int
  f : List Int
  t : List Int
deriving DecidableEq

/-- The value reads as the quiver q, below block B. -/
def QvR (w : World) (B : Nat) (val : Value) (q : Qv) : Prop := ∃ a b, val = .agg #[.int .i64 q.v, a, b] ∧ SlI w B a q.f ∧ SlI w B b q.t ∧ I64 q.v
/-- .. and owns its two rows, which are apart. -/
def QvO (w : World) (base : Nat) (val : Value) (q : Qv) : Prop := ∃ a b, val = .agg #[.int .i64 q.v, a, b] ∧ OwnI w base a q.f ∧ OwnI w base b q.t ∧ (a.ownBlock = none ∨ a.ownBlock ≠ b.ownBlock) ∧ I64 q.v
theorem QvR.next {w w' : World} {v : Value} {q : Qv} (hb : Below w.heap.size w w') (h : QvR w w.heap.size v q) : QvR w' w'.heap.size v q := by
  obtain ⟨a, b, e, h1, h2, h3⟩ := h
  exact ⟨a, b, e, SlI.next hb h1, SlI.next hb h2, h3⟩
theorem QvR.below {w w' : World} {B : Nat} {v : Value} {q : Qv} (hb : Below B w w') (h : QvR w B v q) : QvR w' B v q := by
  obtain ⟨a, b, e, h1, h2, h3⟩ := h
  exact ⟨a, b, e, SlI.below hb h1, SlI.below hb h2, h3⟩
theorem QvR.more {w : World} {B B' : Nat} {v : Value} {q : Qv} (hB : B ≤ B') (h : QvR w B v q) : QvR w B' v q := by
  obtain ⟨a, b, e, h1, h2, h3⟩ := h
  exact ⟨a, b, e, SlI.more hB h1, SlI.more hB h2, h3⟩
theorem QvO.rd {w : World} {base : Nat} {v : Value} {q : Qv} (h : QvO w base v q) : QvR w w.heap.size v q := by
  obtain ⟨a, b, e, h1, h2, _, h3⟩ := h
  exact ⟨a, b, e, h1.rd, h2.rd, h3⟩
theorem QvO.below {w w' : World} {base : Nat} {v : Value} {q : Qv} (h : QvO w base v q) (hb : Below w.heap.size w w') : QvO w' base v q := by
  obtain ⟨a, b, e, h1, h2, h4, h3⟩ := h
  exact ⟨a, b, e, h1.below hb, h2.below hb, h4, h3⟩
theorem QvO.lower {w : World} {base base' : Nat} {v : Value} {q : Qv} (h : QvO w base v q) (hb : base' ≤ base) : QvO w base' v q := by
  obtain ⟨a, b, e, h1, h2, h4, h3⟩ := h
  exact ⟨a, b, e, h1.lower hb, h2.lower hb, h4, h3⟩
/-- What a walk takes of a quiver. -/
theorem QvR.open_ {w : World} {B : Nat} {v : Value} {q : Qv} (h : QvR w B v q) : ∃ A c C d, v = .agg #[.int .i64 q.v, .slice A q.f.length c, .slice C q.t.length d] ∧ SlI w B (.slice A q.f.length c) q.f ∧ SlI w B (.slice C q.t.length d) q.t ∧ I64 q.v ∧ q.f.length ≤ 17592186044416 ∧ q.t.length ≤ 17592186044416 := by
  obtain ⟨a, b, rfl, h1, h2, h3⟩ := h
  obtain ⟨A, c, rfl, _, _, h4, h1⟩ := h1.open_
  obtain ⟨C, d, rfl, _, _, h5, h2⟩ := h2.open_
  exact ⟨A, c, C, d, rfl, h1, h2, h3, h4, h5⟩

theorem qv_ext (p q : Qv) : (p = q) ↔ (p.v = q.v ∧ p.f = q.f ∧ p.t = q.t) := by
  cases p; cases q; simp

set_option maxHeartbeats 400000 in
theorem eqQuiver_any (u v : Value) (p q : Qv) (w : World) (hu : QvR w w.heap.size u p) (hv : QvR w w.heap.size v q) :
    Calls Try.prog 38 #[u, v] w fun e w' => e = .returned (.bool (decide (p = q))) ∧ Below w.heap.size w w' := by
  obtain ⟨A, c, C, d, rfl, hf, ht, _, _, _⟩ := hu.open_
  obtain ⟨A', c', C', d', rfl, hf', ht', _, _, _⟩ := hv.open_
  clear hu hv
  have g0 : Below w.heap.size w ((w.alloc (.cells #[.int .i64 p.v, .slice A p.f.length c, .slice C p.t.length d] 32)).alloc (.cells #[.int .i64 q.v, .slice A' q.f.length c', .slice C' q.t.length d'] 32)) := ((Below.refl _ _).alloc (Nat.le_refl _) _).alloc (by simp) _
  by_cases h1 : p.v = q.v
  · have e1 : (p.v != q.v) = false := by rw [h1]; simp
    have H1 := Lib.hid h1
    clear h1
    by_cases h2 : p.f = q.f
    · have e2 : decide (p.f = q.f) = true := by simpa using h2
      have H2 := Lib.hid h2
      clear h2
      obtain ⟨B, hB⟩ : ∃ B, decide (p.t = q.t) = B := ⟨_, rfl⟩
      have HB := Lib.hid hB
      have hfin : decide (p = q) = B := by
        rw [← hB, decide_eq_decide, qv_ext]
        exact ⟨fun h => h.2.2, fun h => ⟨H1.out, H2.out, h⟩⟩
      rw [hfin]
      clear hfin
      go_enter Try.func38, Try.ntmps38
      go_wp2_with fail
      refine (eqIntS_any _ _ _ _ _ (SlI.next g0 hf) (SlI.next g0 hf')).mono ?_; rintro e w1 ⟨rfl, hb1⟩
      have g1 := bthen g0 hb1
      have bc := (((Blk.new w 32 #[.int .i64 p.v, .slice A p.f.length c, .slice C p.t.length d]).alloc _).call hb1).cell' (i := 2) rfl
      have bd := ((Blk.new (w.alloc _) 32 #[.int .i64 q.v, .slice A' q.f.length c', .slice C' q.t.length d']).call hb1).cell' (i := 2) rfl
      simp only [World.size_alloc] at bd
      go_wp2_with fail
      refine (eqIntS_any _ _ _ _ _ (SlI.next g1 ht) (SlI.next g1 ht')).mono ?_; rintro e w2 ⟨rfl, hb2⟩
      rw [hB]
      clear hB
      go_wp2
      all_goals (go_ret; simp_all; exact bthen g1 hb2)
    · have e2 : decide (p.f = q.f) = false := by simpa using h2
      have hfin : decide (p = q) = false := by
        simp only [decide_eq_false_iff_not, qv_ext]
        exact fun h => h2 h.2.1
      rw [hfin]
      clear hfin h2
      go_enter Try.func38, Try.ntmps38
      go_wp2_with fail
      refine (eqIntS_any _ _ _ _ _ (SlI.next g0 hf) (SlI.next g0 hf')).mono ?_; rintro e w1 ⟨rfl, hb1⟩
      go_wp2
      go_ret
      exact ⟨rfl, bthen g0 hb1⟩
  · have e1 : (p.v != q.v) = true := by simpa using h1
    have hfin : decide (p = q) = false := by
      simp only [decide_eq_false_iff_not, qv_ext]
      exact fun h => h1 h.1
    rw [hfin]
    clear hfin h1
    go_enter Try.func38, Try.ntmps38
    go_wp2
    go_ret
    exact ⟨rfl, g0⟩
end Go.Proofs.Ytjlgijdkfihhlaa

/- Small functions of numbers. -/
namespace Go.Proofs.Ytjlgijdkfihhlaa
set_option linter.unusedVariables false
set_option linter.unusedSimpArgs false
open Go.RowKit

/-- Whether a number lies in a range. -/
def inR (n lo hi : Int) : Bool := decide (lo ≤ n ∧ n ≤ hi)
theorem inR_t {n lo hi : Int} : inR n lo hi = true ↔ lo ≤ n ∧ n ≤ hi := by simp [inR]
theorem inR_f {n lo hi : Int} : inR n lo hi = false ↔ ¬ (lo ≤ n ∧ n ≤ hi) := by simp [inR]
theorem within_any (n lo hi : Int) (w : World) : Calls Try.prog 133 #[.int .i64 n, .int .i64 lo, .int .i64 hi] w fun e w' => e = .returned (.bool (inR n lo hi)) ∧ w' = w := by
  by_cases h1 : n < lo
  · go_enter Try.func133, Try.ntmps133
    go_wp2
    go_ret
    exact ⟨by rw [inR_f.2 (by omega)]; rfl, rfl⟩
  · have h1' : lo ≤ n := by omega
    by_cases h2 : n ≤ hi
    · go_enter Try.func133, Try.ntmps133
      go_wp2
      go_ret
      exact ⟨by rw [inR_t.2 (by omega)]; rfl, rfl⟩
    · have h2' : hi < n := by omega
      go_enter Try.func133, Try.ntmps133
      go_wp2
      go_ret
      exact ⟨by rw [inR_f.2 (by omega)]; rfl, rfl⟩

theorem l1In_any (n lo hi : Int) (w : World) : Calls Try.prog 109 #[.int .i64 n, .int .i64 lo, .int .i64 hi] w fun e w' => e = .returned (.bool (inR n lo hi)) ∧ w' = w := by
  by_cases h1 : n < lo
  · go_enter Try.func109, Try.ntmps109
    go_wp2
    go_ret
    exact ⟨by rw [inR_f.2 (by omega)]; rfl, rfl⟩
  · have h1' : lo ≤ n := by omega
    by_cases h2 : n ≤ hi
    · go_enter Try.func109, Try.ntmps109
      go_wp2
      go_ret
      exact ⟨by rw [inR_t.2 (by omega)]; rfl, rfl⟩
    · have h2' : hi < n := by omega
      go_enter Try.func109, Try.ntmps109
      go_wp2
      go_ret
      exact ⟨by rw [inR_f.2 (by omega)]; rfl, rfl⟩

end Go.Proofs.Ytjlgijdkfihhlaa

/- Searches in lists of ints: the library's Index, Contains, IndexFunc, ContainsFunc at []int; the program's allWithin, sumOf. -/
namespace Go.Proofs.Ytjlgijdkfihhlaa
set_option linter.unusedVariables false
set_option linter.unusedSimpArgs false
open Go.RowKit

/-- The first place at which p holds, or -1. -/
def fidx (p : Int → Bool) (l : List Int) : Int := if l.findIdx p < l.length then (l.findIdx p : Int) else -1
theorem fidx_none {p : Int → Bool} {l : List Int} (h : ∀ x ∈ l, p x = false) : fidx p l = -1 := by
  unfold fidx
  rw [if_neg]
  intro hlt
  have h1 := List.findIdx_getElem (w := hlt)
  have h2 := h _ (List.getElem_mem hlt)
  rw [h1] at h2
  cases h2
theorem fidx_some {p : Int → Bool} {l : List Int} {k : Nat} {x : Int} (hx : l[k]? = some x) (hp : p x = true) (hb : ∀ y ∈ l.take k, p y = false) : fidx p l = k := by
  have hk := lt_of_some hx
  have hxk : l[k] = x := by rw [List.getElem?_eq_getElem hk] at hx; injection hx
  have e : l.findIdx p = k := by
    rw [List.findIdx_eq hk]
    refine ⟨by rw [hxk]; exact hp, fun j hj => ?_⟩
    have := hb l[j] (by rw [List.mem_take_iff_getElem]; exact ⟨j, by omega, rfl⟩)
    simp [this]
  unfold fidx
  rw [e, if_pos hk]
theorem fidx_range (p : Int → Bool) (l : List Int) : -1 ≤ fidx p l ∧ fidx p l < l.length := by
  unfold fidx
  split <;> omega
theorem fidx_any (p : Int → Bool) (l : List Int) : decide (0 ≤ fidx p l) = l.any p := by
  unfold fidx
  by_cases h : l.findIdx p < l.length
  · rw [if_pos h]
    have h1 := List.findIdx_getElem (w := h)
    have : l.any p = true := List.any_eq_true.2 ⟨_, List.getElem_mem h, h1⟩
    rw [this]
    simp
  · rw [if_neg h]
    have : l.any p = false := by
      rw [List.any_eq_false]
      intro x hx hpx
      exact h (List.findIdx_lt_length_of_exists ⟨x, hx, hpx⟩)
    rw [this]
    simp

set_option maxHeartbeats 400000 in
theorem index_any (u : Value) (xs : List Int) (v : Int) (w : World) (hu : SlI w w.heap.size u xs) :
    Calls Try.prog 195 #[u, .int .i64 v] w fun e w' => e = .returned (.int .i64 (fidx (fun x => v == x) xs)) ∧ w' = w := by
  obtain ⟨A, c, rfl, _, _, hn, hx⟩ := hu.open_
  clear hu
  go_enter Try.func195, Try.ntmps195
  go_wp2
  go_loop [8] (fun i => ∃ k : Nat, k ≤ xs.length ∧ i = .int .i64 k ∧ Hid (∀ y ∈ xs.take k, (v == y) = false)) (fun i => xs.length - (intOf i).toNat)
  case atStart => exact ⟨0, Nat.zero_le _, rfl, by intro y hy; simp at hy⟩
  case round =>
    obtain ⟨k, hk, rfl, hno⟩ := hrel
    by_cases hlt : k < xs.length
    · obtain ⟨b, o, x, rfl, hb, HX, c1, _⟩ := SlI.at_ hx hlt
      clear hx
      rcases hvx : (v == x) with _ | _
      · go_wp2
        go_round
        case rel =>
          refine ⟨k + 1, by omega, by go_num, fun y hy => ?_⟩
          rw [take_snoc HX.out, List.mem_append, List.mem_singleton] at hy
          rcases hy with hy | rfl
          · exact hno.out y hy
          · exact hvx
        case measure => simp [intOf]; omega
      · have hfin := Lib.hid (fidx_some HX.out hvx hno.out)
        go_wp2
        go_ret
        exact ⟨by rw [hfin.out]; rfl, rfl⟩
    · go_wp2
      go_ret
      have h1 := hno.out
      rw [List.take_of_length_le (by omega)] at h1
      exact ⟨by rw [fidx_none h1]; rfl, rfl⟩

theorem contains_any (u : Value) (xs : List Int) (v : Int) (w : World) (hu : SlI w w.heap.size u xs) :
    Calls Try.prog 157 #[u, .int .i64 v] w fun e w' => e = .returned (.bool (decide (v ∈ xs))) ∧ w' = w := by
  have hd : decide (v ∈ xs) = decide (0 ≤ fidx (fun x => v == x) xs) := by
    rw [fidx_any, Bool.eq_iff_iff]
    simp
  have HC := index_any u xs v w hu
  rw [hd]
  generalize fidx (fun x => v == x) xs = r at *
  clear hd
  have HC := Lib.hid HC
  by_cases h : 0 ≤ r
  · have e : decide (0 ≤ r) = true := by simpa using h
    rw [e]
    go_enter Try.func157, Try.ntmps157
    go_wp2_with fail
    refine (unhide HC).mono ?_; rintro e w' ⟨rfl, rfl⟩
    go_wp2
    go_ret
    exact ⟨rfl, rfl⟩
  · have e : decide (0 ≤ r) = false := by simpa using h
    rw [e]
    go_enter Try.func157, Try.ntmps157
    go_wp2_with fail
    refine (unhide HC).mono ?_; rintro e w' ⟨rfl, rfl⟩
    go_wp2
    go_ret
    exact ⟨rfl, rfl⟩

set_option maxHeartbeats 400000 in
/-- IndexFunc at a closure of two captured variables, of which the contract is known in every world that is as this one was. -/
theorem indexFunc_any (p1 p2 : Value) (p : Int → Bool) (u : Value) (xs : List Int) (w : World) (hu : SlI w w.heap.size u xs)
    (hF : ∀ (W : World) (x : Int), Below w.heap.size w W → Calls Try.prog 181 #[.int .i64 x, p1, p2] W fun e w' => e = .returned (.bool (p x)) ∧ Below W.heap.size W w') :
    Calls Try.prog 179 #[u, .func (Fn.func 181) #[] #[p1, p2]] w fun e w' => e = .returned (.int .i64 (fidx p xs)) ∧ Below w.heap.size w w' := by
  obtain ⟨A, c, rfl, _, _, hn, hx⟩ := hu.open_
  clear hu
  have HF := Lib.hid hF
  clear hF
  go_enter Try.func179, Try.ntmps179
  go_wp2
  go_loopw [8] (fun i wr => ∃ k : Nat, k ≤ xs.length ∧ i = .int .i64 k ∧ Below w.heap.size w wr ∧ Hid (∀ y ∈ xs.take k, p y = false)) (fun i _ => xs.length - (intOf i).toNat)
  case atStart => exact ⟨0, Nat.zero_le _, rfl, Below.refl _ _, by intro y hy; simp at hy⟩
  case round =>
    obtain ⟨k, hk, rfl, hbel, hno⟩ := hrel
    by_cases hlt : k < xs.length
    · obtain ⟨b, o, x, rfl, hb, HX, c1, _⟩ := SlI.at_ hx hlt
      have d1 := bcell hbel hb c1
      clear hx c1
      have HC := HF.out wr x hbel
      obtain ⟨B, hB⟩ : ∃ B, p x = B := ⟨_, rfl⟩
      rw [hB] at HC
      have HC := Lib.hid HC
      have HB := Lib.hid hB
      clear hB
      cases B
      · go_wp2_with fail
        refine (unhide HC).mono ?_; rintro e w1 ⟨rfl, hb1⟩
        go_wp2
        go_roundw
        case rel =>
          refine ⟨k + 1, by omega, by go_num, hbel.trans (hb1.mono hbel.size), fun y hy => ?_⟩
          rw [take_snoc HX.out, List.mem_append, List.mem_singleton] at hy
          rcases hy with hy | rfl
          · exact hno.out y hy
          · exact HB.out
        case measure => simp [intOf]; omega
      · have hfin := Lib.hid (fidx_some HX.out HB.out hno.out)
        go_wp2_with fail
        refine (unhide HC).mono ?_; rintro e w1 ⟨rfl, hb1⟩
        go_wp2
        go_ret
        exact ⟨by rw [hfin.out]; rfl, hbel.trans (hb1.mono hbel.size)⟩
    · go_wp2
      go_ret
      have h1 := hno.out
      rw [List.take_of_length_le (by omega)] at h1
      exact ⟨by rw [fidx_none h1]; rfl, hbel⟩

theorem containsFunc_any (p1 p2 : Value) (p : Int → Bool) (u : Value) (xs : List Int) (w : World) (hu : SlI w w.heap.size u xs)
    (hF : ∀ (W : World) (x : Int), Below w.heap.size w W → Calls Try.prog 181 #[.int .i64 x, p1, p2] W fun e w' => e = .returned (.bool (p x)) ∧ Below W.heap.size W w') :
    Calls Try.prog 180 #[u, .func (Fn.func 181) #[] #[p1, p2]] w fun e w' => e = .returned (.bool (xs.any p)) ∧ Below w.heap.size w w' := by
  have hd := fidx_any p xs
  have HC := indexFunc_any p1 p2 p u xs w hu hF
  rw [← hd]
  generalize fidx p xs = r at *
  clear hd hF
  have HC := Lib.hid HC
  by_cases h : 0 ≤ r
  · have e : decide (0 ≤ r) = true := by simpa using h
    rw [e]
    go_enter Try.func180, Try.ntmps180
    go_wp2_with fail
    refine (unhide HC).mono ?_; rintro e w1 ⟨rfl, hb1⟩
    go_wp2
    go_ret
    exact ⟨rfl, hb1⟩
  · have e : decide (0 ≤ r) = false := by simpa using h
    rw [e]
    go_enter Try.func180, Try.ntmps180
    go_wp2_with fail
    refine (unhide HC).mono ?_; rintro e w1 ⟨rfl, hb1⟩
    go_wp2
    go_ret
    exact ⟨rfl, hb1⟩

/-- the closure of allWithin -/
theorem allWithin1_any (g1 g2 : Nat) (lo hi x : Int) (W : World) (h1 : W.cell? ⟨g1, 0, none⟩ = some (.int .i64 lo)) (h2 : W.cell? ⟨g2, 0, none⟩ = some (.int .i64 hi)) :
    Calls Try.prog 181 #[.int .i64 x, .pointer (some ⟨g1, 0, none⟩), .pointer (some ⟨g2, 0, none⟩)] W fun e w' => e = .returned (.bool (!inR x lo hi)) ∧ Below W.heap.size W w' := by
  go_enter Try.func181, Try.ntmps181
  go_wp2_with fail
  refine (within_any _ _ _ _).mono ?_; rintro e w' ⟨rfl, rfl⟩
  go_wp2
  go_ret
  exact ⟨rfl, Below.refl _ _⟩

/-- Whether all numbers of a list lie in a range. -/
def allR (l : List Int) (lo hi : Int) : Bool := l.all fun x => inR x lo hi
theorem allR_t {l : List Int} {lo hi : Int} : allR l lo hi = true ↔ ∀ x ∈ l, lo ≤ x ∧ x ≤ hi := by simp [allR, inR]
theorem allWithin_any (u : Value) (xs : List Int) (lo hi : Int) (w : World) (hu : SlI w w.heap.size u xs) :
    Calls Try.prog 134 #[u, .int .i64 lo, .int .i64 hi] w fun e w' => e = .returned (.bool (allR xs lo hi)) ∧ Below w.heap.size w w' := by
  obtain ⟨W, hW⟩ : ∃ W, W = (w.alloc (.cells #[.int .i64 lo] 3)).alloc (.cells #[.int .i64 hi] 3) := ⟨_, rfl⟩
  have g0 : Below w.heap.size w W := by rw [hW]; exact ((Below.refl _ _).alloc (Nat.le_refl _) _).alloc (by simp) _
  have k1 : Blk W w.heap.size 3 #[.int .i64 lo] := by rw [hW]; exact (Blk.new _ _ _).alloc _
  have k2 : Blk W (w.heap.size + 1) 3 #[.int .i64 hi] := by
    rw [hW]
    have := Blk.new (w.alloc (.cells #[.int .i64 lo] 3)) 3 #[.int .i64 hi]
    simpa only [World.size_alloc] using this
  have HC := containsFunc_any (.pointer (some ⟨w.heap.size, 0, none⟩)) (.pointer (some ⟨w.heap.size + 1, 0, none⟩)) (fun x => !inR x lo hi) u xs W (SlI.next g0 hu) (fun W' x hb =>
    allWithin1_any _ _ lo hi x W' ((k1.below hb k1.lt).cell' (i := 0) rfl) ((k2.below hb k2.lt).cell' (i := 0) rfl))
  have e : allR xs lo hi = !(xs.any fun x => !inR x lo hi) := by simp [allR, List.any_eq_not_all_not]
  rw [e]
  generalize (xs.any fun x => !inR x lo hi) = B at *
  obtain ⟨A, c, rfl, _, _, _, _⟩ := hu.open_
  clear hu e k1 k2
  have HC := Lib.hid HC
  have hmf : ∀ (fn : Fn) (first cap : Array Value) (w : World), (Instr.makeFunc fn first cap).run Try.prog w = .ok (.func fn first cap) w := fun _ _ _ _ => rfl
  go_enter Try.func134, Try.ntmps134
  go_wp2_with fail
  rw [← hW]
  refine (unhide HC).mono ?_; rintro e w1 ⟨rfl, hb1⟩
  go_wp2
  go_ret
  exact ⟨rfl, bthen g0 hb1⟩

/-- sums that wrap -/
def sumW (l : List Int) : Int := l.foldl (fun s x => wrap64 (s + x)) 0
theorem sumW_snoc (l : List Int) (x : Int) : sumW (l ++ [x]) = wrap64 (sumW l + x) := by simp [sumW]
theorem foldW (lo hi : Int) (h0 : lo ≤ 0) (h1 : 0 ≤ hi) : ∀ (l : List Int) (acc : Int) (m : Nat), (∀ x ∈ l, lo ≤ x ∧ x ≤ hi) → lo * m ≤ acc → acc ≤ hi * m → hi * ((m + l.length : Nat) : Int) ≤ 9223372036854775807 → -9223372036854775808 ≤ lo * ((m + l.length : Nat) : Int) →
    l.foldl (fun s x => wrap64 (s + x)) acc = acc + l.sum ∧ lo * ((m + l.length : Nat) : Int) ≤ acc + l.sum ∧ acc + l.sum ≤ hi * ((m + l.length : Nat) : Int)
  | [], acc, m, _, ha, hb, _, _ => by simp; exact ⟨ha, hb⟩
  | x :: l, acc, m, hl, ha, hb, hc, hd => by
    obtain ⟨hx1, hx2⟩ := hl x (by simp)
    have e : ((m + (x :: l).length : Nat) : Int) = (((m + 1) + l.length : Nat) : Int) := by simp; omega
    rw [e] at hc hd ⊢
    have m1 : lo * ((m + 1 : Nat) : Int) = lo * m + lo := by rw [Int.natCast_add, Int.mul_add]; simp
    have m2 : hi * ((m + 1 : Nat) : Int) = hi * m + hi := by rw [Int.natCast_add, Int.mul_add]; simp
    have n1 : lo * (((m + 1) + l.length : Nat) : Int) ≤ lo * ((m + 1 : Nat) : Int) := Int.mul_le_mul_of_nonpos_left h0 (by omega)
    have n2 : hi * ((m + 1 : Nat) : Int) ≤ hi * (((m + 1) + l.length : Nat) : Int) := Int.mul_le_mul_of_nonneg_left (by omega) h1
    have hw : wrap64 (acc + x) = acc + x := IntWalk.wrap64_in _ ⟨by omega, by omega⟩
    have ih := foldW lo hi h0 h1 l (acc + x) (m + 1) (fun y hy => hl y (by simp [hy])) (by omega) (by omega) hc hd
    rw [List.foldl_cons, hw, List.sum_cons]
    rw [← Int.add_assoc]
    exact ih
theorem sumW_small (l : List Int) (lo hi : Int) (h0 : lo ≤ 0) (h1 : 0 ≤ hi) (hl : ∀ x ∈ l, lo ≤ x ∧ x ≤ hi) (hb : hi * l.length ≤ 9223372036854775807) (hb' : -9223372036854775808 ≤ lo * l.length) : sumW l = l.sum ∧ lo * l.length ≤ l.sum ∧ l.sum ≤ hi * l.length := by
  have := foldW lo hi h0 h1 l 0 0 hl (by simp) (by simp) (by simpa using hb) (by simpa using hb')
  simpa [sumW] using this
set_option maxHeartbeats 400000 in
theorem sumOf_any (u : Value) (xs : List Int) (w : World) (hu : SlI w w.heap.size u xs) :
    Calls Try.prog 156 #[u] w fun e w' => e = .returned (.int .i64 (sumW xs)) ∧ w' = w := by
  obtain ⟨A, c, rfl, _, _, hn, hx⟩ := hu.open_
  clear hu
  go_enter Try.func156, Try.ntmps156
  go_wp2
  go_loop [3, 8] (fun s i => ∃ k : Nat, k ≤ xs.length ∧ i = .int .i64 k ∧ s = .int .i64 (sumW (xs.take k))) (fun _ i => xs.length - (intOf i).toNat)
  case atStart => exact ⟨0, Nat.zero_le _, rfl, rfl⟩
  case round =>
    obtain ⟨k, hk, rfl, rfl⟩ := hrel
    by_cases hlt : k < xs.length
    · obtain ⟨b, o, x, rfl, hb, HX, c1, _⟩ := SlI.at_ hx hlt
      clear hx
      have HS := Lib.hid (show sumW (xs.take (k + 1)) = wrap64 (sumW (xs.take k) + x) by rw [take_snoc HX.out, sumW_snoc])
      generalize sumW (xs.take k) = s at *
      go_wp2
      go_round
      case rel => exact ⟨k + 1, by omega, by go_num, by rw [HS.out]⟩
      case measure => simp [intOf]; omega
    · go_wp2
      go_ret
      exact ⟨by rw [List.take_of_length_le (by omega)]; rfl, rfl⟩
end Go.Proofs.Ytjlgijdkfihhlaa

/- The two IsQuiver. -/
namespace Go.Proofs.Ytjlgijdkfihhlaa
set_option linter.unusedVariables false
set_option linter.unusedSimpArgs false
open Go.RowKit

/-- A valid quiver. -/
def isQ (q : Qv) : Bool := inR q.v 1 5 && decide (q.f.length = q.t.length) && decide (q.f.length ≤ 6) && allR q.f 0 (q.v - 1) && allR q.t 0 (q.v - 1)

theorem isQ_t {q : Qv} : isQ q = true ↔ (1 ≤ q.v ∧ q.v ≤ 5) ∧ q.f.length = q.t.length ∧ q.f.length ≤ 6 ∧ (∀ x ∈ q.f, 0 ≤ x ∧ x ≤ q.v - 1) ∧ (∀ x ∈ q.t, 0 ≤ x ∧ x ≤ q.v - 1) := by
  simp only [isQ, Bool.and_eq_true, inR_t, allR_t, decide_eq_true_eq, and_assoc]

set_option maxHeartbeats 800000 in
theorem implIsQuiver_any (u : Value) (q : Qv) (w : World) (hu : QvR w w.heap.size u q) :
    Calls Try.prog 144 #[u] w fun e w' => e = .returned (.bool (isQ q)) ∧ Below w.heap.size w w' := by
  obtain ⟨A, c, C, d, rfl, hf, ht, hr, lf, lt⟩ := hu.open_
  clear hu
  obtain ⟨W, hW⟩ : ∃ W, W = w.alloc (.cells #[.int .i64 q.v, .slice A q.f.length c, .slice C q.t.length d] 32) := ⟨_, rfl⟩
  have g0 : Below w.heap.size w W := by rw [hW]; exact below_alloc _ _
  have kB : Blk W w.heap.size 32 #[.int .i64 q.v, .slice A q.f.length c, .slice C q.t.length d] := by rw [hW]; exact Blk.new _ _ _
  have c0 := kB.cell' (i := 0) rfl
  have c1 := kB.cell' (i := 1) rfl
  have c2 := kB.cell' (i := 2) rfl
  unfold isQ
  rcases h1 : inR q.v 1 5 with _ | _
  · go_enter Try.func144, Try.ntmps144
    go_wp2_with fail
    rw [← hW]; clear hW
    refine (within_any _ _ _ _).mono ?_; rintro e w' ⟨rfl, rfl⟩
    rw [h1]
    go_wp2
    go_ret
    exact ⟨rfl, g0⟩
  have hb := inR_t.1 h1
  obtain ⟨hb1, hb2⟩ := hb
  by_cases h2 : q.f.length = q.t.length
  · have e2 : ((q.f.length : Int) == q.t.length) = true := by rw [beq_iff_eq]; omega
    by_cases h3 : q.f.length ≤ 6
    · have e3 : decide (q.f.length ≤ 6) = true := by simpa using h3
      have e2' : decide (q.f.length = q.t.length) = true := by simpa using h2
      rw [e2', e3]
      clear h2 e2' e3
      obtain ⟨B1, hB1⟩ : ∃ B, allR q.f 0 (q.v - 1) = B := ⟨_, rfl⟩
      obtain ⟨B2, hB2⟩ : ∃ B, allR q.t 0 (q.v - 1) = B := ⟨_, rfl⟩
      rw [hB1, hB2]
      have HB1 := Lib.hid hB1
      have HB2 := Lib.hid hB2
      clear hB1 hB2
      cases B1
      · go_enter Try.func144, Try.ntmps144
        go_wp2_with fail
        rw [← hW]; clear hW
        refine (within_any _ _ _ _).mono ?_; rintro e w' ⟨rfl, rfl⟩
        rw [h1]
        go_wp2_with fail
        refine (allWithin_any _ q.f _ _ _ (SlI.next g0 hf)).mono ?_; rintro e w1 ⟨rfl, hb1⟩
        rw [HB1.out]
        go_wp2
        go_ret
        exact ⟨rfl, bthen g0 hb1⟩
      · go_enter Try.func144, Try.ntmps144
        go_wp2_with fail
        rw [← hW]; clear hW
        refine (within_any _ _ _ _).mono ?_; rintro e w' ⟨rfl, rfl⟩
        rw [h1]
        go_wp2_with fail
        refine (allWithin_any _ q.f _ _ _ (SlI.next g0 hf)).mono ?_; rintro e w1 ⟨rfl, hb1⟩
        rw [HB1.out]
        have d0 := (kB.call hb1).cell' (i := 0) rfl
        have d2 := (kB.call hb1).cell' (i := 2) rfl
        have g1 := bthen g0 hb1
        clear c0 c1 c2
        go_wp2_with fail
        refine (allWithin_any _ q.t _ _ _ (SlI.next g1 ht)).mono ?_; rintro e w2 ⟨rfl, hb2⟩
        rw [HB2.out]
        go_wp2
        go_ret
        exact ⟨rfl, bthen g1 hb2⟩
    · have e3 : decide (q.f.length ≤ 6) = false := by simpa using h3
      rw [e3]
      have e3' : ¬ ((q.f.length : Int) ≤ 6) := by omega
      clear h2
      simp only [Bool.and_false, Bool.false_and]
      go_enter Try.func144, Try.ntmps144
      go_wp2_with fail
      rw [← hW]; clear hW
      refine (within_any _ _ _ _).mono ?_; rintro e w' ⟨rfl, rfl⟩
      rw [h1]
      go_wp2
      go_ret
      exact ⟨rfl, g0⟩
  · have e2 : ((q.f.length : Int) == q.t.length) = false := by rw [beq_eq_false_iff_ne]; omega
    have e2' : decide (q.f.length = q.t.length) = false := by simpa using h2
    rw [e2']
    simp only [Bool.and_false, Bool.false_and]
    go_enter Try.func144, Try.ntmps144
    go_wp2_with fail
    rw [← hW]; clear hW
    refine (within_any _ _ _ _).mono ?_; rintro e w' ⟨rfl, rfl⟩
    rw [h1]
    go_wp2
    go_ret
    exact ⟨rfl, g0⟩

/-- what the reference's loop has met -/
def okTo (q : Qv) (k : Nat) : Prop := (∀ x ∈ q.f.take k, inR x 0 (wrap64 (q.v - 1)) = true) ∧ ∀ x ∈ q.t.take k, inR x 0 (wrap64 (q.v - 1)) = true
theorem isQ_bad {q : Qv} {x : Int} (hx : x ∈ q.f ∨ x ∈ q.t) (hr : inR x 0 (wrap64 (q.v - 1)) = false) : isQ q = false := by
  by_cases h : isQ q = true
  · obtain ⟨hv, _, _, hf, ht⟩ := isQ_t.1 h
    have e : wrap64 (q.v - 1) = q.v - 1 := IntWalk.wrap64_in _ ⟨by omega, by omega⟩
    rw [e, inR_f] at hr
    rcases hx with hx | hx
    · exact absurd (hf x hx) hr
    · exact absurd (ht x hx) hr
  · simpa using h
theorem isQ_end {q : Qv} {k : Nat} (h : okTo q k) (hk : ¬ (k < q.f.length ∧ k < q.t.length)) : isQ q = (inR q.v 1 5 && decide (q.f.length ≤ 6) && decide (q.t.length = q.f.length)) := by
  rw [Bool.eq_iff_iff, isQ_t]
  simp only [Bool.and_eq_true, inR_t, decide_eq_true_eq]
  constructor
  · rintro ⟨h1, h2, h3, _⟩
    exact ⟨⟨h1, h3⟩, h2.symm⟩
  · rintro ⟨⟨h1, h3⟩, h2⟩
    have e : wrap64 (q.v - 1) = q.v - 1 := IntWalk.wrap64_in _ ⟨by omega, by omega⟩
    unfold okTo at h
    rw [e, List.take_of_length_le (by omega), List.take_of_length_le (by omega)] at h
    exact ⟨h1, h2.symm, h3, fun x hx => inR_t.1 (h.1 x hx), fun x hx => inR_t.1 (h.2 x hx)⟩
theorem okTo_step {q : Qv} {k : Nat} {x y : Int} (h : okTo q k) (hx : q.f[k]? = some x) (hy : q.t[k]? = some y) (h1 : inR x 0 (wrap64 (q.v - 1)) = true) (h2 : inR y 0 (wrap64 (q.v - 1)) = true) : okTo q (k + 1) := by
  refine ⟨fun z hz => ?_, fun z hz => ?_⟩
  · rw [take_snoc hx, List.mem_append, List.mem_singleton] at hz
    rcases hz with hz | rfl
    · exact h.1 z hz
    · exact h1
  · rw [take_snoc hy, List.mem_append, List.mem_singleton] at hz
    rcases hz with hz | rfl
    · exact h.2 z hz
    · exact h2

set_option maxHeartbeats 1600000 in
theorem specIsQuiver_any (u : Value) (q : Qv) (w : World) (hu : QvR w w.heap.size u q) :
    Calls Try.prog 139 #[u] w fun e w' => e = .returned (.bool (isQ q)) ∧ Below w.heap.size w w' := by
  obtain ⟨A, c, C, d, rfl, hf, ht, hr, lf, lt⟩ := hu.open_
  clear hu
  have g0 : Below w.heap.size w (w.alloc (.cells #[.int .i64 q.v, .slice A q.f.length c, .slice C q.t.length d] 32)) := below_alloc _ _
  have kB := Blk.new w 32 #[.int .i64 q.v, .slice A q.f.length c, .slice C q.t.length d]
  go_enter Try.func139, Try.ntmps139
  go_wp2
  go_loopw [3] (fun i wr => ∃ k : Nat, k ≤ q.f.length ∧ i = .int .i64 k ∧ Below w.heap.size w wr ∧ Blk wr w.heap.size 32 #[.int .i64 q.v, .slice A q.f.length c, .slice C q.t.length d] ∧ Hid (okTo q k)) (fun i _ => q.f.length - (intOf i).toNat)
  case atStart => exact ⟨0, Nat.zero_le _, rfl, g0, kB, by intro x hx; simp at hx, by intro x hx; simp at hx⟩
  case round =>
    clear g0 kB
    obtain ⟨k, hk, rfl, hbel, kB, hok⟩ := hrel
    have c0 := kB.cell' (i := 0) rfl
    have c1 := kB.cell' (i := 1) rfl
    have c2 := kB.cell' (i := 2) rfl
    by_cases hlt : k < q.f.length ∧ k < q.t.length
    · obtain ⟨hlt1, hlt2⟩ := hlt
      obtain ⟨b, o, x, rfl, hb, HX, x1, _⟩ := SlI.at_ hf hlt1
      obtain ⟨b', o', y, rfl, hb', HY, y1, _⟩ := SlI.at_ ht hlt2
      have s := hbel.size
      have d0 := InB.cell kB.lt c0
      have d1 := InB.cell kB.lt c1
      have d2 := InB.cell kB.lt c2
      have d3 := InB.cell (by omega) (bcell hbel hb x1)
      have d4 := InB.cell (by omega) (bcell hbel hb' y1)
      obtain ⟨u, hU⟩ : ∃ u, wrap64 (q.v - 1) = u := ⟨_, rfl⟩
      have HU := Lib.hid hU
      clear x1 y1 hf ht c0
      rcases hB1 : inR x 0 u with _ | _
      · have hfin := Lib.hid (isQ_bad (q := q) (.inl (List.mem_of_getElem? HX.out)) (by rw [HU.out]; exact hB1))
        go_wp2
        (refine wp_region_inB (by kernel_rfl) (by kernel_rfl) ?_; (repeat (go_big_quiet_step ((go_at_call 109; exact InB.call_same (l1In_any _ _ _ _))))); refine wpQuiet_nil ?_; intro w1 hw'; obtain ⟨s1, hw1⟩ := hw'; have hb1 := s1.below; rw [← hw1] at hb1; clear hw1 s1)
        go_wp2
        go_ret
        exact ⟨by rw [hfin.out]; rfl, hbel.trans (hb1.mono s)⟩
      · rcases hB2 : inR y 0 u with _ | _
        · have hfin := Lib.hid (isQ_bad (q := q) (.inr (List.mem_of_getElem? HY.out)) (by rw [HU.out]; exact hB2))
          go_wp2
          (refine wp_region_inB (by kernel_rfl) (by kernel_rfl) ?_; (repeat (go_big_quiet_step ((go_at_call 109; exact InB.call_same (l1In_any _ _ _ _))))); refine wpQuiet_nil ?_; intro w1 hw'; obtain ⟨s1, hw1⟩ := hw'; have hb1 := s1.below; rw [← hw1] at hb1; clear hw1 s1)
          go_wp2
          go_ret
          exact ⟨by rw [hfin.out]; rfl, hbel.trans (hb1.mono s)⟩
        · go_wp2
          (refine wp_region_inB (by kernel_rfl) (by kernel_rfl) ?_; (repeat (go_big_quiet_step ((go_at_call 109; exact InB.call_same (l1In_any _ _ _ _))))); refine wpQuiet_nil ?_; intro w1 hw'; obtain ⟨s1, hw1⟩ := hw'; have hb1 := s1.below; rw [← hw1] at hb1; clear hw1 s1)
          go_wp2
          go_roundw
          case rel => exact ⟨k + 1, by omega, by go_num, hbel.trans (hb1.mono s), kB.call hb1, okTo_step hok.out HX.out HY.out (by rw [HU.out]; exact hB1) (by rw [HU.out]; exact hB2)⟩
          case measure => simp [intOf]; omega
    · have hE := isQ_end hok.out hlt
      have hx : k < q.f.length → ¬ k < q.t.length := fun a b => hlt ⟨a, b⟩
      clear hlt hf ht
      rcases hB1 : inR q.v 1 5 with _ | _
      · rw [hB1] at hE
        have hfin := Lib.hid hE
        clear hE
        by_cases ha : k < q.f.length
        all_goals
          first | have hb := hx ha | skip
          clear hx
          go_wp2_with (go_at_call 109; refine (l1In_any _ _ _ _).mono ?_; rintro e w' ⟨rfl, rfl⟩; rw [hB1])
          go_ret
          exact ⟨by rw [hfin.out]; rfl, hbel⟩
      · rw [hB1] at hE
        by_cases h6 : q.f.length ≤ 6
        · by_cases hl : q.t.length = q.f.length
          · have hfin : Hid (isQ q = true) := by show _ = _; rw [hE]; simp [h6, hl]
            have he : ((q.t.length : Int) == q.f.length) = true := by rw [beq_iff_eq]; omega
            have h6' : (q.f.length : Int) ≤ 6 := by omega
            clear hE hl
            by_cases ha : k < q.f.length
            all_goals
              first | have hb := hx ha | skip
              clear hx
              go_wp2_with (go_at_call 109; refine (l1In_any _ _ _ _).mono ?_; rintro e w' ⟨rfl, rfl⟩; rw [hB1])
              go_ret
              exact ⟨by rw [hfin.out]; rfl, hbel⟩
          · have hfin : Hid (isQ q = false) := by show _ = _; rw [hE]; simp [hl]
            have he : ((q.t.length : Int) == q.f.length) = false := by rw [beq_eq_false_iff_ne]; omega
            have h6' : (q.f.length : Int) ≤ 6 := by omega
            clear hE hl
            by_cases ha : k < q.f.length
            all_goals
              first | have hb := hx ha | skip
              clear hx
              go_wp2_with (go_at_call 109; refine (l1In_any _ _ _ _).mono ?_; rintro e w' ⟨rfl, rfl⟩; rw [hB1])
              go_ret
              exact ⟨by rw [hfin.out]; rfl, hbel⟩
        · have hfin : Hid (isQ q = false) := by show _ = _; rw [hE]; simp [h6]
          have h6' : ¬ ((q.f.length : Int) ≤ 6) := by omega
          clear hE h6
          by_cases ha : k < q.f.length
          all_goals
            first | have hb := hx ha | skip
            clear hx
            go_wp2_with (go_at_call 109; refine (l1In_any _ _ _ _).mono ?_; rintro e w' ⟨rfl, rfl⟩; rw [hB1])
            go_ret
            exact ⟨by rw [hfin.out]; rfl, hbel⟩
end Go.Proofs.Ytjlgijdkfihhlaa

/- IsZigzag, IsLine, IntervalOf: the reference's and the program's. -/
namespace Go.Proofs.Ytjlgijdkfihhlaa
set_option linter.unusedVariables false
set_option linter.unusedSimpArgs false
open Go.RowKit

/-- the arrow k of a zigzag -/
def zzAt (k : Nat) (x y : Int) : Bool := decide ((x = k ∧ y = k + 1) ∨ (x = k + 1 ∧ y = k))
def zzTo (q : Qv) (k : Nat) : Prop := ∀ (j : Nat) (x y : Int), j < k → q.f[j]? = some x → q.t[j]? = some y → zzAt j x y = true
def isZ (q : Qv) : Bool := isQ q && decide ((q.f.length : Int) = q.v - 1) && (List.range q.f.length).all fun j => zzAt j (q.f.getD j 0) (q.t.getD j 0)
theorem isZ_noQ {q : Qv} (h : isQ q = false) : isZ q = false := by simp [isZ, h]
theorem isZ_len {q : Qv} (h : ¬ (q.f.length : Int) = q.v - 1) : isZ q = false := by simp [isZ, h]
theorem isZ_bad {q : Qv} {k : Nat} {x y : Int} (hx : q.f[k]? = some x) (hy : q.t[k]? = some y) (h : zzAt k x y = false) : isZ q = false := by
  have hk := lt_of_some hx
  have e1 : q.f.getD k 0 = x := by simp [List.getD, hx]
  have e2 : q.t.getD k 0 = y := by simp [List.getD, hy]
  have : ((List.range q.f.length).all fun j => zzAt j (q.f.getD j 0) (q.t.getD j 0)) = false := by
    rw [List.all_eq_false]
    exact ⟨k, List.mem_range.2 hk, by rw [e1, e2, h]; simp⟩
  simp only [isZ, this, Bool.and_false]
theorem isZ_yes {q : Qv} (h1 : isQ q = true) (h2 : (q.f.length : Int) = q.v - 1) (h : zzTo q q.f.length) : isZ q = true := by
  have hl := (isQ_t.1 h1).2.1
  simp only [isZ, h1, h2, decide_true, Bool.true_and]
  rw [List.all_eq_true]
  intro j hj
  have hj := List.mem_range.1 hj
  have hj' : j < q.t.length := by omega
  exact h j _ _ hj (by simp [List.getD, hj]) (by simp [List.getD, hj'])
theorem zzTo_step {q : Qv} {k : Nat} {x y : Int} (h : zzTo q k) (hx : q.f[k]? = some x) (hy : q.t[k]? = some y) (hz : zzAt k x y = true) : zzTo q (k + 1) := by
  intro j a b hj ha hb
  by_cases e : j = k
  · subst e
    rw [hx] at ha
    rw [hy] at hb
    injection ha with ha
    injection hb with hb
    subst ha hb
    exact hz
  · exact h j a b (by omega) ha hb

set_option maxHeartbeats 1600000 in
theorem implIsZigzag_any (u : Value) (q : Qv) (w : World) (hu : QvR w w.heap.size u q) :
    Calls Try.prog 174 #[u] w fun e w' => e = .returned (.bool (isZ q)) ∧ Below w.heap.size w w' := by
  have hu' := hu
  obtain ⟨A, c, C, d, rfl, hf, ht, hr, lf, lt⟩ := hu.open_
  clear hu
  obtain ⟨W, hW⟩ : ∃ W, W = w.alloc (.cells #[.int .i64 q.v, .slice A q.f.length c, .slice C q.t.length d] 32) := ⟨_, rfl⟩
  have g0 : Below w.heap.size w W := by rw [hW]; exact below_alloc _ _
  have kB : Blk W w.heap.size 32 #[.int .i64 q.v, .slice A q.f.length c, .slice C q.t.length d] := by rw [hW]; exact Blk.new _ _ _
  rcases hQ : isQ q with _ | _
  · rw [isZ_noQ hQ]
    go_enter Try.func174, Try.ntmps174
    go_wp2_with fail
    rw [← hW]; clear hW
    refine (implIsQuiver_any _ q _ (hu'.next g0)).mono ?_; rintro e w1 ⟨rfl, hb1⟩
    rw [hQ]
    go_wp2
    go_ret
    exact ⟨rfl, bthen g0 hb1⟩
  obtain ⟨⟨v1, v2⟩, hl, h6, _, _⟩ := isQ_t.1 hQ
  have HL := Lib.hid hl
  have hl' : q.f.length ≤ q.t.length := by omega
  clear hl
  by_cases hn : (q.f.length : Int) = q.v - 1
  · have hn' : ((q.f.length : Int) != q.v - 1) = false := by rw [bne_eq_false_iff_eq]; exact hn
    have HN := Lib.hid hn
    clear hn
    go_enter Try.func174, Try.ntmps174
    go_wp2_with fail
    rw [← hW]; clear hW
    refine (implIsQuiver_any _ q _ (hu'.next g0)).mono ?_; rintro e w1 ⟨rfl, hb1⟩
    rw [hQ]
    have g1 := bthen g0 hb1
    have kB1 := kB.call hb1
    have c0 := kB1.cell' (i := 0) rfl
    have c1 := kB1.cell' (i := 1) rfl
    have c2 := kB1.cell' (i := 2) rfl
    clear kB g0 hb1 hu'
    go_wp2
    go_loopw [20] (fun i wr => ∃ (k m : Nat), k ≤ q.f.length ∧ i = .int .i64 k ∧ wr = w1.drewN m ∧ Hid (zzTo q k)) (fun i _ => q.f.length - (intOf i).toNat)
    case atStart => exact ⟨0, 0, Nat.zero_le _, rfl, rfl, fun j x y hj => absurd hj (by omega)⟩
    case round =>
      obtain ⟨k, m, hk, rfl, rfl, hz⟩ := hrel
      by_cases hlt : k < q.f.length
      · obtain ⟨b, o, x, rfl, hb, HX, x1, hx1, hx2⟩ := SlI.at_ hf hlt
        obtain ⟨b', o', y, rfl, hb', HY, y1, hy1, hy2⟩ := SlI.at_ ht (show k < q.t.length by omega)
        have d1 := bcell g1 hb x1
        have d2 := bcell g1 hb' y1
        clear hf ht x1 y1
        rcases hzz : zzAt k x y with _ | _
        · have hfin := Lib.hid (isZ_bad HX.out HY.out hzz)
          have hno : ¬ ((x = k ∧ y = k + 1) ∨ (x = k + 1 ∧ y = k)) := by simpa [zzAt] using hzz
          have HNo := Lib.hid hno
          clear hno hzz
          rcases Int.lt_trichotomy x y with hxy | hxy | hxy
          · by_cases h1 : x = k
            · have e1 : (x != (k : Int)) = false := by simpa using h1
              have e2 : (y != (k : Int) + 1) = true := by rw [bne_iff_ne]; exact fun h => HNo.out (.inl ⟨h1, h⟩)
              have hle : x ≤ y := by omega
              have hle' : ¬ y < x := by omega
              clear h1
              go_wp2
              go_ret
              exact ⟨by rw [hfin.out]; rfl, below_drewN g1 _⟩
            · have e1 : (x != (k : Int)) = true := by simpa using h1
              have hle : x ≤ y := by omega
              have hle' : ¬ y < x := by omega
              clear h1
              go_wp2
              go_ret
              exact ⟨by rw [hfin.out]; rfl, below_drewN g1 _⟩
          · subst hxy
            by_cases h1 : x = k
            · have e1 : (x != (k : Int)) = false := by simpa using h1
              have e2 : (x != (k : Int) + 1) = true := by rw [bne_iff_ne]; omega
              clear h1
              go_wp2
              go_ret
              exact ⟨by rw [hfin.out]; rfl, below_drewN g1 _⟩
            · have e1 : (x != (k : Int)) = true := by simpa using h1
              clear h1
              go_wp2
              go_ret
              exact ⟨by rw [hfin.out]; rfl, below_drewN g1 _⟩
          · by_cases h1 : y = k
            · have e1 : (y != (k : Int)) = false := by simpa using h1
              have e2 : (x != (k : Int) + 1) = true := by rw [bne_iff_ne]; exact fun h => HNo.out (.inr ⟨h, h1⟩)
              have hle : y ≤ x := by omega
              have hle' : ¬ x < y := by omega
              clear h1
              go_wp2
              go_ret
              exact ⟨by rw [hfin.out]; rfl, below_drewN g1 _⟩
            · have e1 : (y != (k : Int)) = true := by simpa using h1
              have hle : y ≤ x := by omega
              have hle' : ¬ x < y := by omega
              clear h1
              go_wp2
              go_ret
              exact ⟨by rw [hfin.out]; rfl, below_drewN g1 _⟩
        · have hyes : (x = k ∧ y = k + 1) ∨ (x = k + 1 ∧ y = k) := by simpa [zzAt] using hzz
          have hst := Lib.hid (zzTo_step hz.out HX.out HY.out hzz)
          clear hzz HX HY
          rcases hyes with ⟨rfl, rfl⟩ | ⟨rfl, rfl⟩
          all_goals
            go_wp2
            go_roundw
            case rel => exact ⟨k + 1, m, by omega, by go_num, rfl, hst.out⟩
            case measure => simp [intOf]; omega
      · go_wp2
        go_ret
        have hfin := isZ_yes hQ HN.out (fun j x y hj => hz.out j x y (by omega))
        exact ⟨by rw [hfin]; rfl, below_drewN g1 _⟩
  · have hn' : ((q.f.length : Int) != q.v - 1) = true := by rw [bne_iff_ne]; exact hn
    rw [isZ_len hn]
    clear hn
    go_enter Try.func174, Try.ntmps174
    go_wp2_with fail
    rw [← hW]; clear hW
    refine (implIsQuiver_any _ q _ (hu'.next g0)).mono ?_; rintro e w1 ⟨rfl, hb1⟩
    rw [hQ]
    have c0 := (kB.call hb1).cell' (i := 0) rfl
    have c1 := (kB.call hb1).cell' (i := 1) rfl
    go_wp2
    go_ret
    exact ⟨rfl, bthen g0 hb1⟩


end Go.Proofs.Ytjlgijdkfihhlaa

/- IsLine, both. -/
namespace Go.Proofs.Ytjlgijdkfihhlaa
set_option linter.unusedVariables false
set_option linter.unusedSimpArgs false
open Go.RowKit

def lnAt (k : Nat) (x y : Int) : Bool := decide (x = k ∧ y = k + 1)
def lnTo (q : Qv) (k : Nat) : Prop := ∀ (j : Nat) (x y : Int), j < k → q.f[j]? = some x → q.t[j]? = some y → lnAt j x y = true
def isL (q : Qv) : Bool := isQ q && decide ((q.f.length : Int) = q.v - 1) && (List.range q.f.length).all fun j => lnAt j (q.f.getD j 0) (q.t.getD j 0)
theorem isL_noQ {q : Qv} (h : isQ q = false) : isL q = false := by simp [isL, h]
theorem isL_len {q : Qv} (h : ¬ (q.f.length : Int) = q.v - 1) : isL q = false := by simp [isL, h]
theorem isL_bad {q : Qv} {k : Nat} {x y : Int} (hx : q.f[k]? = some x) (hy : q.t[k]? = some y) (h : lnAt k x y = false) : isL q = false := by
  have hk := lt_of_some hx
  have e1 : q.f.getD k 0 = x := by simp [List.getD, hx]
  have e2 : q.t.getD k 0 = y := by simp [List.getD, hy]
  have : ((List.range q.f.length).all fun j => lnAt j (q.f.getD j 0) (q.t.getD j 0)) = false := by
    rw [List.all_eq_false]
    exact ⟨k, List.mem_range.2 hk, by rw [e1, e2, h]; simp⟩
  simp only [isL, this, Bool.and_false]
theorem isL_yes {q : Qv} (h1 : isQ q = true) (h2 : (q.f.length : Int) = q.v - 1) (h : lnTo q q.f.length) : isL q = true := by
  have hl := (isQ_t.1 h1).2.1
  simp only [isL, h1, h2, decide_true, Bool.true_and]
  rw [List.all_eq_true]
  intro j hj
  have hj := List.mem_range.1 hj
  have hj' : j < q.t.length := by omega
  exact h j _ _ hj (by simp [List.getD, hj]) (by simp [List.getD, hj'])
theorem isZ_t {q : Qv} (h : isZ q = true) : isQ q = true ∧ (q.f.length : Int) = q.v - 1 ∧ zzTo q q.f.length := by
  simp only [isZ, Bool.and_eq_true, decide_eq_true_eq, List.all_eq_true] at h
  refine ⟨h.1.1, h.1.2, fun j x y hj hx hy => ?_⟩
  have := h.2 j (List.mem_range.2 hj)
  simpa [List.getD, hx, hy] using this
theorem isL_noZ {q : Qv} (h : isZ q = false) : isL q = false := by
  rcases h1 : isL q with _ | _
  · rfl
  · simp only [isL, Bool.and_eq_true, decide_eq_true_eq, List.all_eq_true] at h1
    have : isZ q = true := isZ_yes h1.1.1 h1.1.2 (fun j x y hj hx hy => by
      have := h1.2 j (List.mem_range.2 hj)
      simp only [List.getD, hx, hy, Option.getD_some, lnAt, decide_eq_true_eq] at this
      simp [zzAt, this])
    rw [h] at this
    cases this
/-- all arrows so far begin where they should -/
def fromTo (q : Qv) (k : Nat) : Prop := ∀ (j : Nat) (x : Int), j < k → q.f[j]? = some x → x = j
theorem isL_ofZ {q : Qv} (h : isZ q = true) (hf : fromTo q q.f.length) : isL q = true := by
  obtain ⟨h1, h2, h3⟩ := isZ_t h
  refine isL_yes h1 h2 fun j x y hj hx hy => ?_
  have e := hf j x hj hx
  have := h3 j x y hj hx hy
  simp only [zzAt, decide_eq_true_eq] at this
  simp only [lnAt, decide_eq_true_eq]
  omega
theorem isL_badZ {q : Qv} {k : Nat} {x : Int} (h : isZ q = true) (hx : q.f[k]? = some x) (hne : x ≠ k) : isL q = false := by
  obtain ⟨h1, h2, h3⟩ := isZ_t h
  have hl := (isQ_t.1 h1).2.1
  have hk := lt_of_some hx
  obtain ⟨y, hy⟩ : ∃ y, q.t[k]? = some y := ⟨_, List.getElem?_eq_getElem (by omega)⟩
  exact isL_bad hx hy (by simp [lnAt, hne])

set_option maxHeartbeats 1600000 in
theorem implIsLine_any (u : Value) (q : Qv) (w : World) (hu : QvR w w.heap.size u q) :
    Calls Try.prog 123 #[u] w fun e w' => e = .returned (.bool (isL q)) ∧ Below w.heap.size w w' := by
  have hu' := hu
  obtain ⟨A, c, C, d, rfl, hf, ht, hr, lf, lt⟩ := hu.open_
  clear hu
  obtain ⟨W, hW⟩ : ∃ W, W = w.alloc (.cells #[.int .i64 q.v, .slice A q.f.length c, .slice C q.t.length d] 32) := ⟨_, rfl⟩
  have g0 : Below w.heap.size w W := by rw [hW]; exact below_alloc _ _
  have kB : Blk W w.heap.size 32 #[.int .i64 q.v, .slice A q.f.length c, .slice C q.t.length d] := by rw [hW]; exact Blk.new _ _ _
  rcases hQ : isZ q with _ | _
  · rw [isL_noZ hQ]
    go_enter Try.func123, Try.ntmps123
    go_wp2_with fail
    rw [← hW]; clear hW
    refine (implIsZigzag_any _ q _ (hu'.next g0)).mono ?_; rintro e w1 ⟨rfl, hb1⟩
    rw [hQ]
    go_wp2
    go_ret
    exact ⟨rfl, bthen g0 hb1⟩
  · go_enter Try.func123, Try.ntmps123
    go_wp2_with fail
    rw [← hW]; clear hW
    refine (implIsZigzag_any _ q _ (hu'.next g0)).mono ?_; rintro e w1 ⟨rfl, hb1⟩
    rw [hQ]
    have g1 := bthen g0 hb1
    have kB1 := kB.call hb1
    have c1 := kB1.cell' (i := 1) rfl
    clear kB g0 hb1 hu'
    go_wp2
    go_loopw [11] (fun i wr => ∃ (k m : Nat), k ≤ q.f.length ∧ i = .int .i64 k ∧ wr = w1.drewN m ∧ Hid (fromTo q k)) (fun i _ => q.f.length - (intOf i).toNat)
    case atStart => exact ⟨0, 0, Nat.zero_le _, rfl, rfl, fun j x hj => absurd hj (by omega)⟩
    case round =>
      obtain ⟨k, m, hk, rfl, rfl, hz⟩ := hrel
      by_cases hlt : k < q.f.length
      · obtain ⟨b, o, x, rfl, hb, HX, x1, hx1, hx2⟩ := SlI.at_ hf hlt
        have d1 := bcell g1 hb x1
        clear hf ht x1
        by_cases h1 : x = k
        · have hst := Lib.hid (show fromTo q (k + 1) from fun j z hj hz' => by
            by_cases e : j = k
            · subst e
              have := HX.out
              rw [this] at hz'
              injection hz' with hz'
              omega
            · exact hz.out j z (by omega) hz')
          subst h1
          go_wp2
          go_roundw
          case rel => exact ⟨k + 1, m, by omega, by go_num, rfl, hst.out⟩
          case measure => simp [intOf]; omega
        · have e1 : (x != (k : Int)) = true := by simpa using h1
          have hfin := Lib.hid (isL_badZ hQ HX.out h1)
          clear h1
          go_wp2
          go_ret
          exact ⟨by rw [hfin.out]; rfl, below_drewN g1 _⟩
      · go_wp2
        go_ret
        have hfin := isL_ofZ hQ (fun j x hj => hz.out j x (by omega))
        exact ⟨by rw [hfin]; rfl, below_drewN g1 _⟩

theorem lnTo_step {q : Qv} {k : Nat} {x y : Int} (h : lnTo q k) (hx : q.f[k]? = some x) (hy : q.t[k]? = some y) (hz : lnAt k x y = true) : lnTo q (k + 1) := by
  intro j a b hj ha hb
  by_cases e : j = k
  · subst e
    rw [hx] at ha
    rw [hy] at hb
    injection ha with ha
    injection hb with hb
    subst ha hb
    exact hz
  · exact h j a b (by omega) ha hb

set_option maxHeartbeats 1600000 in
theorem specIsLine_any (u : Value) (q : Qv) (w : World) (hu : QvR w w.heap.size u q) :
    Calls Try.prog 117 #[u] w fun e w' => e = .returned (.bool (isL q)) ∧ Below w.heap.size w w' := by
  have hu' := hu
  obtain ⟨A, c, C, d, rfl, hf, ht, hr, lf, lt⟩ := hu.open_
  clear hu
  obtain ⟨W, hW⟩ : ∃ W, W = w.alloc (.cells #[.int .i64 q.v, .slice A q.f.length c, .slice C q.t.length d] 32) := ⟨_, rfl⟩
  have g0 : Below w.heap.size w W := by rw [hW]; exact below_alloc _ _
  have kB : Blk W w.heap.size 32 #[.int .i64 q.v, .slice A q.f.length c, .slice C q.t.length d] := by rw [hW]; exact Blk.new _ _ _
  rcases hQ : isQ q with _ | _
  · rw [isL_noQ hQ]
    go_enter Try.func117, Try.ntmps117
    go_wp2_with fail
    rw [← hW]; clear hW
    refine (specIsQuiver_any _ q _ (hu'.next g0)).mono ?_; rintro e w1 ⟨rfl, hb1⟩
    rw [hQ]
    go_wp2
    go_ret
    exact ⟨rfl, bthen g0 hb1⟩
  obtain ⟨⟨v1, v2⟩, hl, h6, _, _⟩ := isQ_t.1 hQ
  have HL := Lib.hid hl
  have hl' : q.f.length ≤ q.t.length := by omega
  clear hl
  by_cases hn : (q.f.length : Int) = q.v - 1
  · have hn' : ((q.f.length : Int) != q.v - 1) = false := by rw [bne_eq_false_iff_eq]; exact hn
    have HN := Lib.hid hn
    clear hn
    go_enter Try.func117, Try.ntmps117
    go_wp2_with fail
    rw [← hW]; clear hW
    refine (specIsQuiver_any _ q _ (hu'.next g0)).mono ?_; rintro e w1 ⟨rfl, hb1⟩
    rw [hQ]
    have g1 := bthen g0 hb1
    have kB1 := kB.call hb1
    have c0 := kB1.cell' (i := 0) rfl
    have c1 := kB1.cell' (i := 1) rfl
    have c2 := kB1.cell' (i := 2) rfl
    clear kB g0 hb1 hu'
    go_wp2
    go_loopw [3] (fun i wr => ∃ (k m : Nat), k ≤ q.f.length ∧ i = .int .i64 k ∧ wr = w1.drewN m ∧ Hid (lnTo q k)) (fun i _ => q.f.length - (intOf i).toNat)
    case atStart => exact ⟨0, 0, Nat.zero_le _, rfl, rfl, fun j x y hj => absurd hj (by omega)⟩
    case round =>
      obtain ⟨k, m, hk, rfl, rfl, hz⟩ := hrel
      by_cases hlt : k < q.f.length
      · obtain ⟨b, o, x, rfl, hb, HX, x1, hx1, hx2⟩ := SlI.at_ hf hlt
        obtain ⟨b', o', y, rfl, hb', HY, y1, hy1, hy2⟩ := SlI.at_ ht (show k < q.t.length by omega)
        have d1 := bcell g1 hb x1
        have d2 := bcell g1 hb' y1
        clear hf ht x1 y1
        rcases hzz : lnAt k x y with _ | _
        · have hfin := Lib.hid (isL_bad HX.out HY.out hzz)
          have hno : ¬ (x = k ∧ y = k + 1) := by simpa [lnAt] using hzz
          clear hzz
          by_cases h1 : x = k
          · have e1 : (x != (k : Int)) = false := by simpa using h1
            have e2 : (y != (k : Int) + 1) = true := by rw [bne_iff_ne]; exact fun h => hno ⟨h1, h⟩
            clear h1 hno
            go_wp2
            go_ret
            exact ⟨by rw [hfin.out]; rfl, below_drewN g1 _⟩
          · have e1 : (x != (k : Int)) = true := by simpa using h1
            clear h1 hno
            go_wp2
            go_ret
            exact ⟨by rw [hfin.out]; rfl, below_drewN g1 _⟩
        · have hyes : x = k ∧ y = k + 1 := by simpa [lnAt] using hzz
          have hst := Lib.hid (lnTo_step hz.out HX.out HY.out hzz)
          clear hzz HX HY
          obtain ⟨rfl, rfl⟩ := hyes
          go_wp2
          go_roundw
          case rel => exact ⟨k + 1, m, by omega, by go_num, rfl, hst.out⟩
          case measure => simp [intOf]; omega
      · go_wp2
        go_ret
        have hfin := isL_yes hQ HN.out (fun j x y hj => hz.out j x y (by omega))
        exact ⟨by rw [hfin]; rfl, below_drewN g1 _⟩
  · have hn' : ((q.f.length : Int) != q.v - 1) = true := by rw [bne_iff_ne]; exact hn
    rw [isL_len hn]
    clear hn
    go_enter Try.func117, Try.ntmps117
    go_wp2_with fail
    rw [← hW]; clear hW
    refine (specIsQuiver_any _ q _ (hu'.next g0)).mono ?_; rintro e w1 ⟨rfl, hb1⟩
    rw [hQ]
    have c0 := (kB.call hb1).cell' (i := 0) rfl
    have c1 := (kB.call hb1).cell' (i := 1) rfl
    go_wp2
    go_ret
    exact ⟨rfl, bthen g0 hb1⟩
end Go.Proofs.Ytjlgijdkfihhlaa

/- What every law goes through: copies, comparisons, purses and marks, a kind of data at a time: ints, quivers. -/
namespace Go.Proofs.Ytjlgijdkfihhlaa
set_option linter.unusedVariables false
set_option linter.unusedSimpArgs false
open Go.RowKit

/-! ### ints -/
def IntsO (w : World) (lo hi : Nat) (v : Value) (l : List Int) : Prop := OwnI w lo v l ∧ ∀ k, v.ownBlock = some k → k < hi
theorem IntsO.of_own {w : World} {lo : Nat} {v : Value} {l : List Int} (h : OwnI w lo v l) : IntsO w lo w.heap.size v l := ⟨h, fun k hk => (h.lt k hk).2⟩
theorem IntsO.rd {w : World} {lo hi : Nat} {v : Value} {l : List Int} (h : IntsO w lo hi v l) : SlI w w.heap.size v l := h.1.rd
theorem IntsO.chg {w w' : World} {lo hi lo' hi' : Nat} {v : Value} {l : List Int} (h : IntsO w lo hi v l) (hc : Chg lo' hi' w w') (hd : hi ≤ lo' ∨ hi' ≤ lo) : IntsO w' lo hi v l := by
  refine ⟨⟨⟨h.1.1.1, ?_⟩, h.1.2⟩, h.2⟩
  rcases h.1.1.2 with h1 | ⟨g, cap, cur, rfl, hg, hh, rest⟩
  · exact .inl h1
  · have := h.2 g (by simp [Value.ownBlock])
    exact .inr ⟨g, cap, cur, rfl, hg, (hc.block g (Array.getElem?_eq_some_iff.1 hh).1 (by omega)).trans hh, rest⟩
theorem IntsO.below {w w' : World} {lo hi : Nat} {v : Value} {l : List Int} (h : IntsO w lo hi v l) (hb : Below w.heap.size w w') : IntsO w' lo hi v l := ⟨h.1.below hb, h.2⟩
theorem chg_of_grown {w w' : World} {lo hi : Nat} {v : Value} {l : List Int} (h : IntsO w lo hi v l) (hg : w.grownBy w' v.ownBlock) : Chg lo hi w w' := by
  refine ⟨hg.os, hg.tape, hg.output, hg.size, fun k hk hne => hg.block k hk (fun e => ?_)⟩
  have h1 := h.2 k e.symm
  have h2 := (h.1.lt k e.symm).1
  omega
theorem SlI.chg {w w' : World} {B lo hi : Nat} {v : Value} {l : List Int} (h : SlI w B v l) (hc : Chg lo hi w w') (hB : B ≤ lo) (hs : B ≤ w.heap.size) : SlI w' B v l := SlI.below (hc.below hB hs) h
def IntsO.mk (k : Int) (l : List Int) : List Int := mkI k l.length
theorem ints_mark (v : Value) (l : List Int) (k : Int) (lo hi : Nat) (w : World) (hv : IntsO w lo hi v l) (h0 : 0 ≤ k) (h1 : k ≤ 1152921504606846976) :
    Calls Try.prog 55 #[v, .int .i64 k] w fun e w' => e = .returned (.int .i64 (k + l.length)) ∧ IntsO w' lo hi v (IntsO.mk k l) ∧ Chg lo hi w w' :=
  (markIntS_any v l k lo w hv.1 h0 h1).mono fun _ _ ⟨h2, h3, h4⟩ => ⟨h2, ⟨h3, hv.2⟩, chg_of_grown hv h4⟩
theorem ints_held (v : Value) (l : List Int) (k : Int) (w : World) (hv : SlI w w.heap.size v (IntsO.mk k l)) (h0 : 0 ≤ k) (h1 : k ≤ 1152921504606846976) :
    Calls Try.prog 56 #[v, .int .i64 k] w fun e w' => e = .returned (.int .i64 (k + l.length)) ∧ Below w.heap.size w w' :=
  heldIntS_any v l.length k _ w hv h0 h1

/-! ### families of rows, apart from one another -/
def Fam (w : World) (lo hi : Nat) (L : List (Value × List Int)) : Prop := (∀ p ∈ L, IntsO w lo hi p.1 p.2) ∧ L.Pairwise (fun p q => p.1.ownBlock = none ∨ p.1.ownBlock ≠ q.1.ownBlock)
theorem Fam.chg {w w' : World} {lo hi lo' hi' : Nat} {L : List (Value × List Int)} (h : Fam w lo hi L) (hc : Chg lo' hi' w w') (hd : hi ≤ lo' ∨ hi' ≤ lo) : Fam w' lo hi L := ⟨fun p hp => (h.1 p hp).chg hc hd, h.2⟩
theorem Fam.below {w w' : World} {lo hi : Nat} {L : List (Value × List Int)} (h : Fam w lo hi L) (hb : Below w.heap.size w w') : Fam w' lo hi L := ⟨fun p hp => (h.1 p hp).below hb, h.2⟩
theorem Fam.turn {w w' : World} {lo hi : Nat} {L1 L2 : List (Value × List Int)} {v : Value} {l l' : List Int} (h : Fam w lo hi (L1 ++ (v, l) :: L2)) (ho : OwnI w' lo v l') (hg : w.grownBy w' v.ownBlock) : Fam w' lo hi (L1 ++ (v, l') :: L2) := by
  obtain ⟨h1, h2⟩ := h
  rw [List.pairwise_append, List.pairwise_cons] at h2
  obtain ⟨p1, ⟨p2, p3⟩, p4⟩ := h2
  refine ⟨fun p hp => ?_, ?_⟩
  · rcases List.mem_append.1 hp with hp | hp
    · have := h1 p (by simp [hp])
      have hne := p4 p hp (v, l) (by simp)
      exact ⟨this.1.kept hg hne, this.2⟩
    · rcases List.mem_cons.1 hp with rfl | hp
      · exact ⟨ho, (h1 (v, l) (by simp)).2⟩
      · have := h1 p (by simp [hp])
        have hne := p2 p hp
        refine ⟨this.1.kept hg ?_, this.2⟩
        rcases hne with hne | hne
        · rcases hpb : p.1.ownBlock with _ | b
          · exact .inl rfl
          · exact .inr (by rw [show v.ownBlock = none from hne]; simp)
        · exact .inr (fun e => hne e.symm)
  · rw [List.pairwise_append, List.pairwise_cons]
    exact ⟨p1, ⟨p2, p3⟩, fun a ha b hb => by
      rcases List.mem_cons.1 hb with rfl | hb
      · exact p4 a ha (v, l) (by simp)
      · exact p4 a ha b (by simp [hb])⟩

theorem Fam.app {w w' : World} {lo hi : Nat} {L1 L2 : List (Value × List Int)} {v v' : Value} {l l' : List Int} (h : Fam w lo hi (L1 ++ (v, l) :: L2)) (hh : hi ≤ w'.heap.size) (ho : OwnI w' lo v' l') (hg : w.grownBy w' v.ownBlock) (hv : v'.ownBlock = v.ownBlock ∨ v'.ownBlock = some w.heap.size) :
    Fam w' lo w'.heap.size (L1 ++ (v', l') :: L2) := by
  obtain ⟨h1, h2⟩ := h
  rw [List.pairwise_append, List.pairwise_cons] at h2
  obtain ⟨p1, ⟨p2, p3⟩, p4⟩ := h2
  have new : ∀ p ∈ L1 ++ (v, l) :: L2, p.1.ownBlock ≠ some w.heap.size := fun p hp e => by
    have := ((h1 p hp).1.lt _ e).2
    omega
  refine ⟨fun p hp => ?_, ?_⟩
  · rcases List.mem_append.1 hp with hp | hp
    · have := h1 p (by simp [hp])
      exact ⟨this.1.kept hg (p4 p hp (v, l) (by simp)), fun k hk => Nat.lt_of_lt_of_le (this.2 k hk) hh⟩
    · rcases List.mem_cons.1 hp with rfl | hp
      · exact IntsO.of_own ho
      · have := h1 p (by simp [hp])
        have hne := p2 p hp
        refine ⟨this.1.kept hg ?_, fun k hk => Nat.lt_of_lt_of_le (this.2 k hk) hh⟩
        rcases hne with hne | hne
        · rcases hpb : p.1.ownBlock with _ | b
          · exact .inl rfl
          · exact .inr (by rw [show v.ownBlock = none from hne]; simp)
        · exact .inr (fun e => hne e.symm)
  · rw [List.pairwise_append, List.pairwise_cons]
    refine ⟨p1, ⟨fun q hq => ?_, p3⟩, fun a ha b hb => ?_⟩
    · show v'.ownBlock = none ∨ v'.ownBlock ≠ q.1.ownBlock
      rcases hv with e | e <;> rw [e]
      · exact p2 q hq
      · exact .inr (fun e => new q (by simp [hq]) e.symm)
    · rcases List.mem_cons.1 hb with rfl | hb
      · show a.1.ownBlock = none ∨ a.1.ownBlock ≠ v'.ownBlock
        rcases hv with e | e <;> rw [e]
        · exact p4 a ha (v, l) (by simp)
        · exact .inr (new a (by simp [ha]))
      · exact p4 a ha b (by simp [hb])

theorem Fam.setBlk {w : World} {lo hi g i : Nat} {L : List (Value × List Int)} {t : TypeId} {cs : Array Value} (h : Fam w lo hi L) (hb : Blk w g t cs) (ht : 3 ≠ t) (u : Value) : Fam (w.setCell ⟨g, i, none⟩ u) lo hi L :=
  ⟨fun p hp => ⟨(h.1 p hp).1.setCell (p := ⟨g, i, none⟩) (fun e => (h.1 p hp).1.blkne hb ht e.symm) u, (h.1 p hp).2⟩, h.2⟩
theorem Fam.mono {w : World} {lo hi lo' hi' : Nat} {L : List (Value × List Int)} (h : Fam w lo hi L) (h1 : lo' ≤ lo) (h2 : hi ≤ hi') : Fam w lo' hi' L :=
  ⟨fun p hp => ⟨(h.1 p hp).1.lower h1, fun k hk => Nat.lt_of_lt_of_le ((h.1 p hp).2 k hk) h2⟩, h.2⟩

/-! ### quivers -/
def QuivO (w : World) (lo hi : Nat) (val : Value) (q : Qv) : Prop := ∃ a b, val = .agg #[.int .i64 q.v, a, b] ∧ Fam w lo hi [(a, q.f), (b, q.t)] ∧ I64 q.v
theorem QvR.form {w : World} {B : Nat} {v : Value} {q : Qv} (h : QvR w B v q) : ∃ A c C d, v = .agg #[.int .i64 q.v, .slice A q.f.length c, .slice C q.t.length d] := by
  obtain ⟨A, c, C, d, e, _⟩ := h.open_
  exact ⟨A, c, C, d, e⟩
theorem QvR.lens {w : World} {B : Nat} {v : Value} {q : Qv} (h : QvR w B v q) : q.f.length ≤ 17592186044416 ∧ q.t.length ≤ 17592186044416 := by
  obtain ⟨A, c, C, d, e, _, _, _, h1, h2⟩ := h.open_
  exact ⟨h1, h2⟩
theorem QuivO.rd {w : World} {lo hi : Nat} {v : Value} {q : Qv} (h : QuivO w lo hi v q) : QvR w w.heap.size v q := by
  obtain ⟨a, b, e, h1, h2⟩ := h
  exact ⟨a, b, e, (h1.1 (a, q.f) (by simp)).rd, (h1.1 (b, q.t) (by simp)).rd, h2⟩
theorem QuivO.form {w : World} {lo hi : Nat} {v : Value} {q : Qv} (h : QuivO w lo hi v q) : ∃ A c C d, v = .agg #[.int .i64 q.v, .slice A q.f.length c, .slice C q.t.length d] := h.rd.form
theorem QuivO.chg {w w' : World} {lo hi lo' hi' : Nat} {v : Value} {q : Qv} (h : QuivO w lo hi v q) (hc : Chg lo' hi' w w') (hd : hi ≤ lo' ∨ hi' ≤ lo) : QuivO w' lo hi v q := by
  obtain ⟨a, b, e, h1, h2⟩ := h
  exact ⟨a, b, e, h1.chg hc hd, h2⟩
theorem QuivO.below {w w' : World} {lo hi : Nat} {v : Value} {q : Qv} (h : QuivO w lo hi v q) (hb : Below w.heap.size w w') : QuivO w' lo hi v q := by
  obtain ⟨a, b, e, h1, h2⟩ := h
  exact ⟨a, b, e, h1.below hb, h2⟩
theorem QvR.chg {w w' : World} {B lo hi : Nat} {v : Value} {q : Qv} (h : QvR w B v q) (hc : Chg lo hi w w') (hB : B ≤ lo) (hs : B ≤ w.heap.size) : QvR w' B v q := QvR.below (hc.below hB hs) h
def QuivO.mk (k : Int) (q : Qv) : Qv := ⟨q.v, mkI k q.f.length, mkI (k + q.f.length) q.t.length⟩
def Qv.size (q : Qv) : Nat := q.f.length + q.t.length

set_option maxHeartbeats 400000 in
theorem quiv_mark (v : Value) (q : Qv) (k : Int) (lo hi : Nat) (w : World) (hv : QuivO w lo hi v q) (hh : hi ≤ w.heap.size) (h0 : 0 ≤ k) (h1 : k ≤ 1125899906842624) :
    Calls Try.prog 50 #[v, .int .i64 k] w fun e w' => e = .returned (.int .i64 (k + q.size)) ∧ QuivO w' lo hi v (QuivO.mk k q) ∧ Chg lo hi w w' := by
  obtain ⟨a, b, rfl, hF, hr⟩ := hv
  have fa : OwnI w lo a q.f := (hF.1 (a, q.f) (by simp)).1
  have fb : OwnI w lo b q.t := (hF.1 (b, q.t) (by simp)).1
  obtain ⟨A, c, rfl, _, _⟩ := fa.form
  obtain ⟨C, d, rfl, _, _⟩ := fb.form
  have la := fa.2.1
  have lb := fb.2.1
  have g0 := below_alloc w (.cells #[.int .i64 q.v, .slice A q.f.length c, .slice C q.t.length d] 32)
  have hF0 := hF.below g0
  go_enter Try.func50, Try.ntmps50
  go_wp2_with fail
  refine (markIntS_any _ _ _ lo _ (hF0.1 (_, q.f) (by simp)).1 h0 (by omega)).mono ?_; rintro e w1 ⟨rfl, ho1, hg1⟩
  have hF1 := hF0.turn (L1 := []) ho1 hg1
  have hc1 := chg_of_grown (hF0.1 (_, q.f) (by simp)) hg1
  have cB := ((Blk.new w 32 #[.int .i64 q.v, .slice A q.f.length c, .slice C q.t.length d]).chg hc1 (.inr hh)).cell' (i := 2) rfl
  clear hF hF0 ho1 hg1 fa fb
  go_wp2_with fail
  refine (markIntS_any _ _ _ lo _ (hF1.1 (_, q.t) (by simp)).1 (by omega) (by omega)).mono ?_; rintro e w2 ⟨rfl, ho2, hg2⟩
  have hF2 := hF1.turn (L1 := [(_, mkI k q.f.length)]) ho2 hg2
  have hc2 := chg_of_grown (hF1.1 (_, q.t) (by simp)) hg2
  go_wp2
  go_ret
  refine ⟨?_, ⟨_, _, ?_, hF2, hr⟩, (Chg.of_below g0).trans (hc1.trans hc2)⟩
  · have e : k + (q.size : Int) = k + q.f.length + q.t.length := by simp only [Qv.size]; omega
    rw [e]; rfl
  · simp [QuivO.mk, mkI_length]

theorem ints_to (u : Value) (xs : List Int) (w : World) (hu : SlI w w.heap.size u xs) (hn : xs.length ≤ 1048576) :
    Calls Try.prog 40 #[u] w fun e w' => ∃ v, e = .returned v ∧ IntsO w' w.heap.size w'.heap.size v xs ∧ Below w.heap.size w w' :=
  (toIntS_own u xs w hu hn).mono fun _ _ ⟨v, h1, h2, h3⟩ => ⟨v, h1, IntsO.of_own h2, h3⟩

theorem IntsO.wider {w : World} {lo hi lo' hi' : Nat} {v : Value} {l : List Int} (h : IntsO w lo hi v l) (h1 : lo' ≤ lo) (h2 : hi ≤ hi') : IntsO w lo' hi' v l := ⟨h.1.lower h1, fun k hk => Nat.lt_of_lt_of_le (h.2 k hk) h2⟩
theorem IntsO.set {w : World} {lo hi : Nat} {v : Value} {l : List Int} (h : IntsO w lo hi v l) {p : Addr} (hp : p.block < lo) (u : Value) : IntsO (w.setCell p u) lo hi v l :=
  ⟨h.1.setCell (fun e => by have := (h.1.lt _ e).1; omega) u, h.2⟩
/-- two rows of two stretches of memory -/
theorem fam_two {w : World} {lo mi hi : Nat} {a b : Value} {l m : List Int} (ha : IntsO w lo mi a l) (hb : IntsO w mi hi b m) (h1 : lo ≤ mi) (h2 : mi ≤ hi) : Fam w lo hi [(a, l), (b, m)] := by
  refine ⟨fun p hp => ?_, ?_⟩
  · simp only [List.mem_cons, List.not_mem_nil, or_false] at hp
    rcases hp with rfl | rfl
    · exact ha.wider (Nat.le_refl _) h2
    · exact hb.wider h1 (Nat.le_refl _)
  · refine List.pairwise_cons.2 ⟨fun q hq => ?_, List.pairwise_cons.2 ⟨fun q hq => absurd hq (by simp), List.Pairwise.nil⟩⟩
    simp only [List.mem_cons, List.not_mem_nil, or_false] at hq
    subst hq
    show a.ownBlock = none ∨ a.ownBlock ≠ b.ownBlock
    rcases hA : a.ownBlock with _ | x
    · exact .inl rfl
    · right
      intro e
      have := ha.2 x hA
      have := (hb.1.lt x e.symm).1
      omega

set_option maxHeartbeats 400000 in
theorem quiv_to (u : Value) (q : Qv) (w : World) (hu : QvR w w.heap.size u q) (hn : q.size ≤ 1048576) :
    Calls Try.prog 36 #[u] w fun e w' => ∃ v, e = .returned v ∧ QuivO w' w.heap.size w'.heap.size v q ∧ Below w.heap.size w w' := by
  obtain ⟨A, c, C, d, rfl, hf, ht, hr, _, _⟩ := hu.open_
  clear hu
  unfold Qv.size at hn
  obtain ⟨Wa, hWa⟩ : ∃ W, W = (w.alloc (.cells #[.int .i64 q.v, .slice A q.f.length c, .slice C q.t.length d] 24)).alloc (.cells #[.int .i64 0, .slice none 0 0, .slice none 0 0] 32) := ⟨_, rfl⟩
  obtain ⟨Wb, hWb⟩ : ∃ W, W = Wa.alloc (.cells #[.int .i64 q.v, .slice none 0 0, .slice none 0 0] 32) := ⟨_, rfl⟩
  have za : Wa.heap.size = w.heap.size + 1 + 1 := by rw [hWa]; simp
  have zb : Wb.heap.size = w.heap.size + 1 + 1 + 1 := by rw [hWb]; simp [za]
  have kp : Blk Wb w.heap.size 24 #[.int .i64 q.v, .slice A q.f.length c, .slice C q.t.length d] := by rw [hWb, hWa]; exact ((Blk.new _ _ _).alloc _).alloc _
  have kr : Blk Wb (w.heap.size + 1) 32 #[.int .i64 0, .slice none 0 0, .slice none 0 0] := by
    rw [hWb, hWa]
    have := (Blk.new (w.alloc (.cells #[.int .i64 q.v, .slice A q.f.length c, .slice C q.t.length d] 24)) 32 #[.int .i64 0, .slice none 0 0, .slice none 0 0]).alloc (.cells #[.int .i64 q.v, .slice none 0 0, .slice none 0 0] 32)
    simpa only [World.size_alloc] using this
  have ko : Blk Wb (w.heap.size + 1 + 1) 32 #[.int .i64 q.v, .slice none 0 0, .slice none 0 0] := by
    rw [hWb, ← za]; exact Blk.new _ _ _
  have gb : Below w.heap.size w Wb := by rw [hWb, hWa]; exact (((Below.refl _ _).alloc (Nat.le_refl _) _).alloc (by simp) _).alloc (by simp; omega) _
  have ZA := Lib.hid za
  have ZB := Lib.hid zb
  clear za zb
  go_enter Try.func36, Try.ntmps36
  go_wp2_with fail
  rw [← hWa, ← hWb]
  clear hWa hWb
  refine (ints_to _ _ _ (SlI.next gb hf) (by omega)).mono ?_; rintro e w1 ⟨a, rfl, ha, hb1⟩
  obtain ⟨A1, c1, rfl, _, _⟩ := ha.1.form
  have kp1 := kp.call hb1
  have ko1 := ko.call hb1
  have kr1 := kr.call hb1
  have p2 := kp1.cell' (i := 2) rfl
  have o1 := ko1.cell' (i := 1) rfl
  have fo := ko1.frozen
  have g1 := bthen gb hb1
  have sz1 := ZB.out
  have s1 := hb1.size
  have gs : Below w.heap.size w (w1.setCell ⟨w.heap.size + 1 + 1, 1, none⟩ (.slice A1 q.f.length c1)) := g1.setCell (by simp; omega) _
  have ha' : IntsO (w1.setCell ⟨w.heap.size + 1 + 1, 1, none⟩ (.slice A1 q.f.length c1)) Wb.heap.size w1.heap.size (.slice A1 q.f.length c1) q.f :=
    ⟨ha.1.setCell (fun e => by have := (ha.1.lt _ e).1; simp at this; omega) _, ha.2⟩
  clear sz1 s1
  go_wp2_with fail
  clear p2 o1 fo
  obtain ⟨Wc, hWc⟩ : ∃ W, W = w1.setCell ⟨w.heap.size + 1 + 1, 1, none⟩ (.slice A1 q.f.length c1) := ⟨_, rfl⟩
  have zc : Wc.heap.size = w1.heap.size := by rw [hWc]; simp
  have kr' : Blk Wc (w.heap.size + 1) 32 #[.int .i64 0, .slice none 0 0, .slice none 0 0] := by rw [hWc]; exact kr1.far (by simp) _
  have ko' : Blk Wc (w.heap.size + 1 + 1) 32 #[.int .i64 q.v, .slice A1 q.f.length c1, .slice none 0 0] := by rw [hWc]; exact ko1.set_ 1 _
  rw [← hWc] at gs ha' ⊢
  clear hWc kr1 ko1 kp1 kp kr ko
  refine (ints_to _ _ _ (SlI.next gs ht) (by omega)).mono ?_; rintro e w2 ⟨b, rfl, hb, hb2⟩
  obtain ⟨C1, d1, rfl, _, _⟩ := hb.1.form
  have ko2 := ko'.call hb2
  have kr2 := kr'.call hb2
  have o0 := ko2.cell' (i := 0) rfl
  have o1 := ko2.cell' (i := 1) rfl
  have o2 := ko2.cell' (i := 2) rfl
  have fo := ko2.frozen
  have r0 := kr2.cell' (i := 0) rfl
  have r1 := kr2.cell' (i := 1) rfl
  have r2 := kr2.cell' (i := 2) rfl
  have fr := kr2.frozen
  have ZC := Lib.hid zc
  clear zc
  go_wp2
  have zb := ZB.out
  have zc := ZC.out
  have s1 := hb1.size
  have s2 := hb2.size
  have g2 := bthen gs hb2
  refine bodyPost_ret (v := .agg #[.int .i64 q.v, .slice A1 q.f.length c1, .slice C1 q.t.length d1]) (by simp [results, go_sem, r0, r1, r2]) rfl ⟨_, rfl, ⟨_, _, rfl, fam_two (mi := Wc.heap.size) ?_ ?_ (by omega) (by simp; omega), hr⟩, (((g2.setCell (by simp; omega) _).setCell (by simp) _).setCell (by simp) _).setCell (by simp) _⟩
  · have h3 : IntsO w2 Wb.heap.size w1.heap.size (.slice A1 q.f.length c1) q.f := ha'.below hb2
    exact ((((h3.set (by simp; omega) _).set (by simp; omega) _).set (by simp; omega) _).set (by simp; omega) _).wider (by omega) (by omega)
  · exact ((((hb.set (by simp; omega) _).set (by simp; omega) _).set (by simp; omega) _).set (by simp; omega) _).wider (by omega) (by simp)

theorem szQuiver_any (u : Value) (q : Qv) (left : Int) (w : World) (hu : QvR w w.heap.size u q) (h0 : 0 ≤ left) (h1 : left ≤ 1048576) :
    Calls Try.prog 34 #[u, .int .i64 left] w fun e w' => e = .returned (.int .i64 (szLeft left q.size)) ∧ Below w.heap.size w w' := by
  obtain ⟨A, c, C, d, rfl, hf, ht, hr, lf, lt⟩ := hu.open_
  clear hu hr
  have cB := (Blk.new w 24 #[.int .i64 q.v, .slice A q.f.length c, .slice C q.t.length d]).cell' (i := 2) rfl
  have g0 := below_alloc w (.cells #[.int .i64 q.v, .slice A q.f.length c, .slice C q.t.length d] 24)
  by_cases h2 : left < q.f.length
  · have s1 : szLeft left q.f.length = -1 := by rw [szLeft, if_pos h2]
    have e : szLeft left q.size = -1 := by rw [szLeft, if_pos (by simp only [Qv.size]; omega)]
    rw [e]
    clear e
    go_enter Try.func34, Try.ntmps34
    go_wp2_with fail
    refine (szIntS_any _ _ _ _ _ lf h0 h1).mono ?_; rintro e w' ⟨rfl, rfl⟩
    go_wp2
    go_ret
    exact ⟨rfl, g0⟩
  · have s1 : szLeft left q.f.length = left - q.f.length := by rw [szLeft, if_neg h2]
    have n1 : ¬ left - (q.f.length : Int) < 0 := by omega
    by_cases h3 : left - q.f.length < q.t.length
    · have s2 : szLeft (left - q.f.length) q.t.length = -1 := by rw [szLeft, if_pos h3]
      have e : szLeft left q.size = -1 := by rw [szLeft, if_pos (by simp only [Qv.size]; omega)]
      rw [e]
      clear e
      go_enter Try.func34, Try.ntmps34
      go_wp2_with fail
      refine (szIntS_any _ _ _ _ _ lf h0 h1).mono ?_; rintro e w' ⟨rfl, rfl⟩
      go_wp2_with fail
      refine (szIntS_any _ _ _ _ _ lt (by omega) (by omega)).mono ?_; rintro e w' ⟨rfl, rfl⟩
      go_wp2
      go_ret
      exact ⟨rfl, g0⟩
    · have s2 : szLeft (left - q.f.length) q.t.length = left - q.f.length - q.t.length := by rw [szLeft, if_neg h3]
      have n2 : ¬ left - (q.f.length : Int) - q.t.length < 0 := by omega
      have e : szLeft left q.size = left - q.f.length - q.t.length := by rw [szLeft, if_neg (by simp only [Qv.size]; omega)]; simp only [Qv.size]; omega
      rw [e]
      clear e
      go_enter Try.func34, Try.ntmps34
      go_wp2_with fail
      refine (szIntS_any _ _ _ _ _ lf h0 h1).mono ?_; rintro e w' ⟨rfl, rfl⟩
      go_wp2_with fail
      refine (szIntS_any _ _ _ _ _ lt (by omega) (by omega)).mono ?_; rintro e w' ⟨rfl, rfl⟩
      go_wp2
      go_ret
      exact ⟨rfl, g0⟩
end Go.Proofs.Ytjlgijdkfihhlaa

/- Rows of ints of the call's own: one number turned, read; made by make. -/
namespace Go.Proofs.Ytjlgijdkfihhlaa
set_option linter.unusedVariables false
set_option linter.unusedSimpArgs false
open Go.RowKit

theorem OwnI.put {w : World} {base g n cap j : Nat} {l : List Int} {x : Int} (h : OwnI w base (.slice (some ⟨g, 0, none⟩) n cap) l) (hx : I64 x) : OwnI (w.setCell ⟨g, j, none⟩ (.int .i64 x)) base (.slice (some ⟨g, 0, none⟩) n cap) (l.set j x) ∧ w.grownBy (w.setCell ⟨g, j, none⟩ (.int .i64 x)) (some g) := by
  obtain ⟨h1, h2, h3⟩ := h
  have hn : n = l.length := by
    rcases h1.2 with ⟨e, _⟩ | ⟨g', cap', cur, e, _⟩
    · cases e
    · injection e with _ e _
  subst hn
  have hst := h1.stored j (.int .i64 x)
  refine ⟨⟨?_, by simpa using h2, fun y hy => ?_⟩, hst.2⟩
  · rw [List.map_set, List.length_set]
    exact hst.1
  · rcases List.mem_or_eq_of_mem_set hy with hy | rfl
    · exact h3 y hy
    · exact hx
theorem OwnI.cellG {w : World} {base g n cap j : Nat} {l : List Int} (h : OwnI w base (.slice (some ⟨g, 0, none⟩) n cap) l) (hj : j < l.length) : w.cell? ⟨g, j, none⟩ = some (.int .i64 (l.getD j 0)) ∧ I64 (l.getD j 0) := by
  obtain ⟨h1, h2, h3⟩ := h
  have hn : n = l.length := by
    rcases h1.2 with ⟨e, _⟩ | ⟨g', cap', cur, e, _⟩
    · cases e
    · injection e with _ e _
  subst hn
  have hc := h1.cellAt j (by omega)
  have e : l.getD j 0 = l[j] := by rw [List.getD_eq_getElem?_getD, List.getElem?_eq_getElem hj]; rfl
  rw [e]
  exact ⟨by rw [hc]; simp [hj], h3 _ (List.getElem_mem hj)⟩
theorem OwnI.frozenG {w : World} {base g n cap : Nat} {l : List Int} (h : OwnI w base (.slice (some ⟨g, 0, none⟩) n cap) l) (j : Nat) : w.frozen? ⟨g, j, none⟩ = false := by
  obtain ⟨h1, h2, h3⟩ := h
  have hn : n = l.length := by
    rcases h1.2 with ⟨e, _⟩ | ⟨g', cap', cur, e, _⟩
    · cases e
    · injection e with _ e _
  subst hn
  exact h1.frozenAt j
theorem OwnI.made0 {w : World} {base N : Nat} (hb : base ≤ w.heap.size) (hN : N ≤ 17592186044416) : OwnI (w.alloc (.cells (mkCells (.int .i64 0) N) 3)) base (.slice (some ⟨w.heap.size, 0, none⟩) N N) (List.replicate N 0) := by
  have e : (mkCells (.int .i64 0) N).toList.take (N * 1) = (List.replicate N (0 : Int)).map (Value.int .i64) := by
    have : (mkCells (.int .i64 0) N).toList = List.replicate N (.int .i64 0) := toList_madeCells_one _ _
    rw [this, Nat.mul_one, List.take_of_length_le (by simp), List.map_replicate]
  have h := (Blk.new w 3 (mkCells (.int .i64 0) N)).own (base := base) (n := N) (cap := N) (size := 1) hb (Nat.le_refl _) (by simp only [maxLen]; omega) (by rw [mkCells_size]; omega)
  rw [e] at h
  refine ⟨by simpa using h, by simpa using hN, fun x hx => ?_⟩
  obtain ⟨_, rfl⟩ := List.mem_replicate.1 hx
  exact ⟨by decide, by decide⟩
end Go.Proofs.Ytjlgijdkfihhlaa
