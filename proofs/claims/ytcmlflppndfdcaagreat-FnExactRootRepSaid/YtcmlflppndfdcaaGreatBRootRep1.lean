/- FnExactRootRep: the law holds for every argument. Part 1 of 18 of the proof: Base, Ints, App, Quiv, Kit, OwnI, Net, Kit2, KitM. No condition. -/
import Derived.Test.YtcmlflppndfdcaaGreatChecked
import Derived.WalkKit
import Derived.WalkLawsBesides
import Derived.WalkSpells
import Derived.RegionTactic
import Derived.Outline
import Derived.BigQuiet
import Derived.Deep.QuietTactic
import Derived.Deep.RegionHeld3
import Derived.StillTailTactics
import Derived.Deep.DeepCutAuto
import Derived.Deep.DeepMust
import Derived.Deep.DeepFit
import Derived.Lib.Hide
import Derived.Laws.StructEq
import Derived.Laws.OwnMore
import Derived.Laws.MakeOwn
import Derived.Laws.Rows
import Derived.Maps.AppendAt
import Derived.Deep.AppendLies
import Derived.Orders
set_option linter.unusedVariables false
set_option linter.unusedSimpArgs false
namespace Go.Proofs.YtcmlflppndfdcaaGreat
open Go.RowKit
def I64 (x : Int) : Prop := -9223372036854775808 ≤ x ∧ x ≤ 9223372036854775807
def SlG {α : Type} (sz : Nat) (R : World → Nat → Nat → Nat → α → Prop) (w : World) (B : Nat) (val : Value) (xs : List α) : Prop :=
 ∃ A c, val = .slice A xs.length c ∧ xs.length ≤ c ∧ c ≤ 9223372036854775807 ∧ xs.length ≤ 17592186044416 ∧
  (0 < xs.length → ∃ b o, A = some ⟨b, o, none⟩ ∧ b < B ∧ ∀ j x, xs[j]? = some x → R w B b (o + j * sz) x)
theorem SlG.mono {α : Type} {sz : Nat} {R : World → Nat → Nat → Nat → α → Prop} {w w' : World} {B B' : Nat} {val : Value} {xs : List α} (hR : ∀ b o x, b < B → R w B b o x → R w' B' b o x) (hB : B ≤ B')
  (h : SlG sz R w B val xs) : SlG sz R w' B' val xs := by
 obtain ⟨A, c, e, h1, h2, h3, h4⟩ := h
 refine ⟨A, c, e, h1, h2, h3, fun hp => ?_⟩
 obtain ⟨b, o, e2, hb, hc⟩ := h4 hp
 exact ⟨b, o, e2, by omega, fun j x hx => hR _ _ _ hb (hc j x hx)⟩
def RI (w : World) (_B b o : Nat) (x : Int) : Prop := w.cell? ⟨b, o, none⟩ = some (.int .i64 x) ∧ I64 x
abbrev SlI := SlG 1 RI
abbrev Bar := Int × Int × Int
def RBar (w : World) (_B b o : Nat) (x : Bar) : Prop := (w.cell? ⟨b, o, none⟩ = some (.int .i64 x.1) ∧ w.cell? ⟨b, o + 1, none⟩ = some (.int .i64 x.2.1) ∧ w.cell? ⟨b, o + 2, none⟩ = some (.int .i64 x.2.2)) ∧ I64 x.1 ∧ I64 x.2.1 ∧ I64 x.2.2
abbrev SlB := SlG 3 RBar
def RSlI (w : World) (B b o : Nat) (l : List Int) : Prop := ∃ v, w.cell? ⟨b, o, none⟩ = some v ∧ SlI w B v l
abbrev SlII := SlG 1 RSlI
theorem bcell {B : Nat} {w w' : World} (h : Below B w w') {b o : Nat} {v : Value} (hb : b < B) (hc : w.cell? ⟨b, o, none⟩ = some v) : w'.cell? ⟨b, o, none⟩ = some v :=
 (h.cell (p := ⟨b, o, none⟩) hb).trans hc
theorem SlI.below {w w' : World} {B : Nat} {v : Value} {l : List Int} (hb : Below B w w') (h : SlI w B v l) : SlI w' B v l :=
 SlG.mono (fun _ _ _ hlt ⟨hc, hx⟩ => ⟨bcell hb hlt hc, hx⟩) (Nat.le_refl _) h
theorem SlI.more {w : World} {B B' : Nat} {v : Value} {l : List Int} (hB : B ≤ B') (h : SlI w B v l) : SlI w B' v l :=
 SlG.mono (B := B) (B' := B') (fun _ _ _ _ h => h) hB h
theorem SlB.below {w w' : World} {B : Nat} {v : Value} {l : List Bar} (hb : Below B w w') (h : SlB w B v l) : SlB w' B v l :=
 SlG.mono (fun _ _ _ hlt ⟨⟨h0, h1, h2⟩, hx⟩ => ⟨⟨bcell hb hlt h0, bcell hb hlt h1, bcell hb hlt h2⟩, hx⟩) (Nat.le_refl _) h
theorem SlB.more {w : World} {B B' : Nat} {v : Value} {l : List Bar} (hB : B ≤ B') (h : SlB w B v l) : SlB w B' v l :=
 SlG.mono (B := B) (B' := B') (fun _ _ _ _ h => h) hB h
theorem SlII.below {w w' : World} {B : Nat} {v : Value} {l : List (List Int)} (hb : Below B w w') (h : SlII w B v l) : SlII w' B v l :=
 SlG.mono (fun _ _ _ hlt ⟨u, hc, hu⟩ => ⟨u, bcell hb hlt hc, SlI.below hb hu⟩) (Nat.le_refl _) h
theorem SlII.more {w : World} {B B' : Nat} {v : Value} {l : List (List Int)} (hB : B ≤ B') (h : SlII w B v l) : SlII w B' v l :=
 SlG.mono (fun _ _ _ _ ⟨u, hc, hu⟩ => ⟨u, hc, SlI.more hB hu⟩) hB h
theorem SlI.next {w w' : World} {v : Value} {l : List Int} (hb : Below w.heap.size w w') (h : SlI w w.heap.size v l) : SlI w' w'.heap.size v l := SlI.more hb.size (SlI.below hb h)
theorem SlB.next {w w' : World} {v : Value} {l : List Bar} (hb : Below w.heap.size w w') (h : SlB w w.heap.size v l) : SlB w' w'.heap.size v l := SlB.more hb.size (SlB.below hb h)
theorem SlII.next {w w' : World} {v : Value} {l : List (List Int)} (hb : Below w.heap.size w w') (h : SlII w w.heap.size v l) : SlII w' w'.heap.size v l := SlII.more hb.size (SlII.below hb h)
theorem bthen {w w' w'' : World} (h : Below w.heap.size w w') (k : Below w'.heap.size w' w'') : Below w.heap.size w w'' := h.trans (k.mono h.size)
theorem SlI.at_ {w : World} {B c : Nat} {A : Option Addr} {xs : List Int} {k : Nat} (h : SlI w B (.slice A xs.length c) xs) (hk : k < xs.length) :
  ∃ b o x, A = some ⟨b, o, none⟩ ∧ b < B ∧ Hid (xs[k]? = some x) ∧ w.cell? ⟨b, o + k, none⟩ = some (.int .i64 x) ∧ -9223372036854775808 ≤ x ∧ x ≤ 9223372036854775807 := by
 obtain ⟨A', c', e, h1, h2, h3, h4⟩ := h
 injection e with e1 e2 e3; subst e1
 obtain ⟨b, o, rfl, hb, hc⟩ := h4 (by omega)
 have hx : xs[k]? = some xs[k] := List.getElem?_eq_getElem hk
 obtain ⟨h0, hr⟩ := hc k _ hx
 exact ⟨b, o, xs[k], rfl, hb, hx, by simpa using h0, hr.1, hr.2⟩
theorem SlB.at_ {w : World} {B c : Nat} {A : Option Addr} {xs : List Bar} {k : Nat} (h : SlB w B (.slice A xs.length c) xs) (hk : k < xs.length) :
  ∃ b o x y z, A = some ⟨b, o, none⟩ ∧ b < B ∧ Hid (xs[k]? = some (x, y, z)) ∧ w.cell? ⟨b, o + k * 3, none⟩ = some (.int .i64 x) ∧ w.cell? ⟨b, o + k * 3 + 1, none⟩ = some (.int .i64 y) ∧ w.cell? ⟨b, o + k * 3 + 2, none⟩ = some (.int .i64 z) ∧
   (-9223372036854775808 ≤ x ∧ x ≤ 9223372036854775807) ∧ (-9223372036854775808 ≤ y ∧ y ≤ 9223372036854775807) ∧ (-9223372036854775808 ≤ z ∧ z ≤ 9223372036854775807) := by
 obtain ⟨A', c', e, h1, h2, h3, h4⟩ := h
 injection e with e1 e2 e3; subst e1
 obtain ⟨b, o, rfl, hb, hc⟩ := h4 (by omega)
 have hx : xs[k]? = some xs[k] := List.getElem?_eq_getElem hk
 obtain ⟨⟨c0, c1, c2⟩, r0, r1, r2⟩ := hc k _ hx
 exact ⟨b, o, xs[k].1, xs[k].2.1, xs[k].2.2, rfl, hb, hx, c0, c1, c2, r0, r1, r2⟩
theorem SlII.at_ {w : World} {B c : Nat} {A : Option Addr} {xs : List (List Int)} {k : Nat} (h : SlII w B (.slice A xs.length c) xs) (hk : k < xs.length) :
  ∃ b o l A' c', A = some ⟨b, o, none⟩ ∧ b < B ∧ Hid (xs[k]? = some l) ∧ w.cell? ⟨b, o + k, none⟩ = some (.slice A' l.length c') ∧ SlI w B (.slice A' l.length c') l := by
 obtain ⟨A', c', e, h1, h2, h3, h4⟩ := h
 injection e with e1 e2 e3; subst e1
 obtain ⟨b, o, rfl, hb, hc⟩ := h4 (by omega)
 have hx : xs[k]? = some xs[k] := List.getElem?_eq_getElem hk
 obtain ⟨v, hv, hs⟩ := hc k _ hx
 have hs' := hs
 obtain ⟨A2, c2, rfl, _⟩ := hs
 exact ⟨b, o, xs[k], A2, c2, rfl, hb, hx, by simpa using hv, hs'⟩
theorem SlG.open_ {α : Type} {sz : Nat} {R : World → Nat → Nat → Nat → α → Prop} {w : World} {B : Nat} {val : Value} {xs : List α} (h : SlG sz R w B val xs) :
  ∃ A c, val = .slice A xs.length c ∧ xs.length ≤ c ∧ c ≤ 9223372036854775807 ∧ xs.length ≤ 17592186044416 ∧ SlG sz R w B (.slice A xs.length c) xs := by
 have h' := h
 obtain ⟨A, c, rfl, h1, h2, h3, _⟩ := h
 exact ⟨A, c, rfl, h1, h2, h3, h'⟩
theorem SlG.nil {α : Type} {sz : Nat} {R : World → Nat → Nat → Nat → α → Prop} {w : World} {B : Nat} : SlG sz R w B (.slice none 0 0) ([] : List α) :=
 ⟨none, 0, rfl, by simp, by omega, by simp, fun h => absurd h (by simp)⟩
theorem take_snoc {α : Type} {l : List α} {k : Nat} {x : α} (h : l[k]? = some x) : l.take (k + 1) = l.take k ++ [x] := by
 rw [List.take_add_one, h]; rfl
theorem lt_of_some {α : Type} {l : List α} {k : Nat} {x : α} (h : l[k]? = some x) : k < l.length := (List.getElem?_eq_some_iff.1 h).1
theorem below_drewN {B : Nat} {a w : World} (h : Below B a w) (n : Nat) : Below B a (w.drewN n) := ⟨h.os, h.tape, h.output, h.size, h.block⟩
theorem drewN_below (B : Nat) (w : World) (n : Nat) : Below B w (w.drewN n) := below_drewN (Below.refl _ _) n
def InB (w : World) : Type := { W : World // Below w.heap.size w W }
instance instNonemptyInB (w : World) : Nonempty (InB w) := ⟨⟨w, Below.refl _ _⟩⟩
def InB.val {w : World} (s : InB w) : World := s.1
theorem InB.cell {w : World} {b o : Nat} {v : Value} (hb : b < w.heap.size) (hc : w.cell? ⟨b, o, none⟩ = some v) (s : InB w) : s.val.cell? ⟨b, o, none⟩ = some v := bcell s.2 hb hc
theorem InB.below {w : World} (s : InB w) : Below w.heap.size w s.val := s.2
theorem InB.size {w : World} (s : InB w) : w.heap.size ≤ s.val.heap.size := s.2.size
theorem wp_region_inB {P : Program} {id : Nat} {Q : Exit → Act → World → Prop} {a : Act} {w : World} {l : List Oper} (hm : P.follows .mixedOrders = true) (hB : Region.lexB .any l.toArray = true)
  (h : wpQuiet P l.toArray (fun w' => ∃ s : InB w, w' = s.val) (fun a' => ∀ w', (∃ s : InB w, w' = s.val) → Q .normal a' w') l a) : (Code.region id l.toArray true).wp P Q a w :=
 wp_region_quiet (C := fun w' => ∃ s : InB w, w' = s.val) hm hB ⟨⟨{ w with drawn := w.drawn + 1 }, drewN_below _ _ 1⟩, rfl⟩ (by simpa using h)
theorem InB.call {P : Program} {f : FuncId} {args : Array Value} {w : World} {s : InB w} {v : Value} (h : Calls P f args s.val fun e w' => e = .returned v ∧ Below s.val.heap.size s.val w') :
  Calls P f args s.val fun e w'' => e = .returned v ∧ ∃ s' : InB w, w'' = s'.val :=
 h.mono fun _ w'' ⟨he, hb⟩ => ⟨he, ⟨⟨w'', s.2.trans (hb.mono s.2.size)⟩, rfl⟩⟩
theorem InB.call_same {P : Program} {f : FuncId} {args : Array Value} {w : World} {s : InB w} {v : Value} (h : Calls P f args s.val fun e w' => e = .returned v ∧ w' = s.val) :
  Calls P f args s.val fun e w'' => e = .returned v ∧ ∃ s' : InB w, w'' = s'.val :=
 h.mono fun _ w'' ⟨he, hb⟩ => ⟨he, ⟨s, hb⟩⟩
def Blk (w : World) (g : Nat) (t : TypeId) (cs : Array Value) : Prop := w.heap[g]? = some (.cells cs t (0, 0))
section
variable {w w' : World} {g : Nat} {t : TypeId} {cs : Array Value}
theorem Blk.lt (h : Blk w g t cs) : g < w.heap.size := by
 rcases Nat.lt_or_ge g w.heap.size with hlt | hge
 ·exact hlt
 ·unfold Blk at h; rw [Array.getElem?_eq_none hge] at h; cases h
theorem Blk.cell (h : Blk w g t cs) (i : Nat) : w.cell? ⟨g, i, none⟩ = cs[i]? := cell_of_row w g i cs t (0, 0) h
theorem Blk.cell' (h : Blk w g t cs) {i : Nat} {v : Value} (hv : cs[i]? = some v) : w.cell? ⟨g, i, none⟩ = some v := (h.cell i).trans hv
theorem Blk.call (h : Blk w g t cs) (hb : Below w.heap.size w w') : Blk w' g t cs := (hb.block g h.lt).trans h
theorem Blk.frozen (h : Blk w g t cs) (i : Nat) : w.frozen? ⟨g, i, none⟩ = false := by
 unfold Blk at h
 simp [World.frozen?, h]
theorem Blk.new (w : World) (t : TypeId) (cs : Array Value) : Blk (w.alloc (.cells cs t)) w.heap.size t cs := heap_alloc_new w _
theorem Blk.drewN (h : Blk w g t cs) (n : Nat) : Blk (w.drewN n) g t cs := h
theorem Blk.alloc (h : Blk w g t cs) (o : Obj) : Blk (w.alloc o) g t cs := (Below.heap_alloc w o g h.lt).trans h
theorem Blk.set_ (h : Blk w g t cs) (i : Nat) (u : Value) : Blk (w.setCell ⟨g, i, none⟩ u) g t (cs.setIfInBounds i u) := by
 unfold Blk at h ⊢
 simp [World.setCell, Array.getElem?_modify, h]
theorem Blk.far (h : Blk w g t cs) {p : Addr} (hp : g ≠ p.block) (u : Value) : Blk (w.setCell p u) g t cs := (Below.heap_setCell w p u g hp).trans h
theorem Blk.below {B : Nat} (h : Blk w g t cs) (hb : Below B w w') (hg : g < B) : Blk w' g t cs := (hb.block g hg).trans h
theorem Blk.grown {row : Option Nat} (h : Blk w g t cs) (hb : w.grownBy w' row) (hg : some g ≠ row) : Blk w' g t cs := (hb.block g h.lt hg).trans h
theorem Blk.own (h : Blk w g t cs) {base n cap size : Nat} (hb : base ≤ g) (hnc : n ≤ cap) (hm : cap ≤ maxLen) (hs : cs.size = cap * size) :
  w.ownsRow base t size (.slice (some ⟨g, 0, none⟩) n cap) n (cs.toList.take (n * size)) :=
 ⟨by rw [List.length_take, Array.length_toList, hs]; exact Nat.min_eq_left (Nat.mul_le_mul_right _ hnc), .inr ⟨g, cap, cs, rfl, hb, h, hnc, hm, hs, rfl⟩⟩
end
def mkCells (z : Value) (n : Nat) : Array Value := madeCells z.cells n
theorem mkCells_size (z : Value) (n : Nat) : (mkCells z n).size = n := by simp [mkCells, madeCells]
theorem run_mk {P : Program} {t e : TypeId} {i : TypeInfo} {z : Value} (ht : P.underlying t = some (.slice e)) (hi : P.info? e = some i) (hz : i.zero = some z) {n : Nat} (hb : i.bytes * n ≤ 281474976710656) (h63 : n ≤ 9223372036854775807) (W : World) :
  (Instr.makeSlice t (.int .i64 (n : Int)) (.int .i64 (n : Int))).run P W = .ok (.slice (some ⟨W.heap.size, 0, none⟩) n n) (W.alloc (.cells (mkCells z (n * i.size)) e)) := by
 have hb' : (i.bytes : Int) * (n : Int) ≤ 281474976710656 := by
  have h : ((i.bytes * n : Nat) : Int) ≤ 281474976710656 := by omega
  rwa [Int.natCast_mul] at h
 have hr := run_make (P := P) W t e i z ht hi hz .i64 .i64 n n (by omega) (by omega) hb' (by omega)
 simp only [Int.toNat_natCast] at hr
 exact hr
structure Chg (lo hi : Nat) (w w' : World) : Prop where
 os : w'.os = w.os
 tape : w'.tape = w.tape
 output : w'.output = w.output
 size : w.heap.size ≤ w'.heap.size
 block : ∀ k, k < w.heap.size → (k < lo ∨ hi ≤ k) → w'.heap[k]? = w.heap[k]?
theorem Chg.refl (lo hi : Nat) (w : World) : Chg lo hi w w := ⟨rfl, rfl, rfl, Nat.le_refl _, fun _ _ _ => rfl⟩
theorem Chg.trans {lo hi : Nat} {a b c : World} (h : Chg lo hi a b) (k : Chg lo hi b c) : Chg lo hi a c :=
 ⟨k.os.trans h.os, k.tape.trans h.tape, k.output.trans h.output, Nat.le_trans h.size k.size, fun i hi' hne => (k.block i (Nat.lt_of_lt_of_le hi' h.size) hne).trans (h.block i hi' hne)⟩
theorem Chg.of_below {lo hi : Nat} {w w' : World} (h : Below w.heap.size w w') : Chg lo hi w w' := ⟨h.os, h.tape, h.output, h.size, fun k hk _ => h.block k hk⟩
theorem Chg.wider {lo hi lo' hi' : Nat} {w w' : World} (h : Chg lo hi w w') (h1 : lo' ≤ lo) (h2 : hi ≤ hi') : Chg lo' hi' w w' :=
 ⟨h.os, h.tape, h.output, h.size, fun k hk hne => h.block k hk (by omega)⟩
theorem Chg.below {lo hi B : Nat} {w w' : World} (h : Chg lo hi w w') (hB : B ≤ lo) (hs : B ≤ w.heap.size) : Below B w w' := ⟨h.os, h.tape, h.output, h.size, fun k hk => h.block k (by omega) (by omega)⟩
theorem Blk.chg {w w' : World} {g lo hi : Nat} {t : TypeId} {cs : Array Value} (h : Blk w g t cs) (hc : Chg lo hi w w') (hg : g < lo ∨ hi ≤ g) : Blk w' g t cs := (hc.block g h.lt hg).trans h
theorem below_alloc (w : World) (o : Obj) : Below w.heap.size w (w.alloc o) := (Below.refl _ _).alloc (Nat.le_refl _) _
def Hold (p : Prop) : Prop := p
theorem Hold.stop {p : Prop} (h : Hold p) : p := h
theorem unhide {p : Prop} (h : Hid p) : p := h
theorem drew_below (w : World) : Below w.heap.size w w.drew := (Below.refl _ _).drew
end Go.Proofs.YtcmlflppndfdcaaGreat
namespace Go.Proofs.YtcmlflppndfdcaaGreat
open Go.RowKit
theorem infoInt : (Tryz.prog.info? 3).map (fun i => (i.zero, i.size, i.bytes)) = some (some (.int .i64 0), 1, 8) := by kernel_rfl
def szLeft (left : Int) (n : Nat) : Int := if left < n then -1 else left - n
theorem szIntS_any (A : Option Addr) (n c : Nat) (left : Int) (w : World) (hn : n ≤ 17592186044416) (h0 : 0 ≤ left) (h1 : left ≤ 1048576) :
  Calls Tryz.prog 21 #[.slice A n c, .int .i64 left] w fun e w' => e = .returned (.int .i64 (szLeft left n)) ∧ w' = w := by
 by_cases h : left < n
 ·have h' : left - n < 0 := by omega
  go_enter Tryz.func21, Tryz.ntmps21
  go_wp2
  go_ret
  exact ⟨by rw [szLeft, if_pos h]; rfl, rfl⟩
 ·have h' : ¬ left - n < 0 := by omega
  go_enter Tryz.func21, Tryz.ntmps21
  go_wp2
  go_ret
  exact ⟨by rw [szLeft, if_neg (by omega)]; rfl, rfl⟩
def IntCs (cs : Array Value) (xs : List Int) (k : Nat) : Prop := cs.size = xs.length ∧ ∀ j x, j < k → xs[j]? = some x → cs[j]? = some (.int .i64 x)
theorem IntCs.step {cs : Array Value} {xs : List Int} {k : Nat} {x : Int} (h : IntCs cs xs k) (hx : xs[k]? = some x) : IntCs (cs.setIfInBounds k (.int .i64 x)) xs (k + 1) := by
 obtain ⟨hs, h⟩ := h
 have hk := lt_of_some hx
 refine ⟨by simpa using hs, fun j u hj hu => ?_⟩
 by_cases e : j = k
 ·subst e
  rw [hx] at hu
  injection hu with hu
  subst hu
  simp [Array.getElem?_setIfInBounds]; omega
 ·rw [Array.getElem?_setIfInBounds, if_neg (by omega)]
  exact h j u (by omega) hu
def OwnI (w : World) (base : Nat) (v : Value) (l : List Int) : Prop :=
 w.ownsRow base 3 1 v l.length (l.map (Value.int .i64)) ∧ l.length ≤ 17592186044416 ∧ ∀ x ∈ l, I64 x
theorem OwnI.nil (w : World) (base : Nat) : OwnI w base (.slice none 0 0) [] := ⟨World.ownsRow_nil _ _ _ _, by simp, by simp⟩
theorem OwnI.rd {w : World} {base : Nat} {v : Value} {l : List Int} (h : OwnI w base v l) : SlI w w.heap.size v l := by
 obtain ⟨h1, h2, h3⟩ := h
 rcases h1.2 with ⟨rfl, h0⟩ | ⟨g, cap, cur, rfl, _, hg, hnc, hcm, hcs, htake⟩
 ·obtain rfl : l = [] := List.eq_nil_of_length_eq_zero h0
  exact SlG.nil
 ·refine ⟨_, _, rfl, hnc, by simp only [maxLen] at hcm; omega, h2, fun hp => ⟨g, 0, rfl, (Array.getElem?_eq_some_iff.1 hg).1, fun j x hj => ⟨?_, h3 x (List.mem_of_getElem? hj)⟩⟩⟩
  have hc := h1.cellAt j (by have := lt_of_some hj; omega)
  rw [show 0 + j * 1 = j by omega, hc]
  simp [hj]
theorem OwnI.below {w w' : World} {base : Nat} {v : Value} {l : List Int} (h : OwnI w base v l) (hb : Below w.heap.size w w') : OwnI w' base v l :=
 ⟨h.1.kept (row := none) ⟨hb.os, hb.tape, hb.output, hb.size, fun k hk _ => hb.block k hk⟩ (by cases v.ownBlock <;> simp), h.2⟩
theorem OwnI.lower {w : World} {base base' : Nat} {v : Value} {l : List Int} (h : OwnI w base v l) (hb : base' ≤ base) : OwnI w base' v l := by
 obtain ⟨⟨h0, h1⟩, h2⟩ := h
 refine ⟨⟨h0, ?_⟩, h2⟩
 rcases h1 with h1 | ⟨g, cap, cur, e, hg, rest⟩
 ·exact .inl h1
 ·exact .inr ⟨g, cap, cur, e, by omega, rest⟩
theorem OwnI.of_blk {w : World} {base g : Nat} {cs : Array Value} {xs : List Int} (hb : Blk w g 3 cs) (hg : base ≤ g) (hcs : IntCs cs xs xs.length) (hn : xs.length ≤ 17592186044416) (hr : ∀ x ∈ xs, I64 x) :
  OwnI w base (.slice (some ⟨g, 0, none⟩) xs.length xs.length) xs := by
 refine ⟨⟨by simp, .inr ⟨g, xs.length, cs, rfl, hg, hb, Nat.le_refl _, by simp only [maxLen]; omega, by rw [hcs.1]; omega, ?_⟩⟩, hn, hr⟩
 apply List.ext_getElem?
 intro j
 by_cases hj : j < xs.length
 ·rw [List.getElem?_take, if_pos (by omega), Array.getElem?_toList, hcs.2 j _ hj (List.getElem?_eq_getElem hj)]
  simp [hj]
 ·rw [List.getElem?_take, if_neg (by omega)]
  simp [Nat.le_of_not_lt hj]
theorem SlI.i64 {w : World} {B : Nat} {v : Value} {l : List Int} (h : SlI w B v l) : ∀ x ∈ l, I64 x := by
 obtain ⟨A, c, _, _, _, _, h4⟩ := h
 intro x hx
 obtain ⟨j, hj⟩ := List.getElem?_of_mem hx
 obtain ⟨_, _, _, _, hr⟩ := h4 (by have := lt_of_some hj; omega)
 exact (hr j x hj).2
set_option maxHeartbeats 400000 in
theorem toIntS_own (u : Value) (xs : List Int) (w : World) (hu : SlI w w.heap.size u xs) (hn : xs.length ≤ 1048576) :
  Calls Tryz.prog 15 #[u] w fun e w' => ∃ v, e = .returned v ∧ OwnI w' w.heap.size v xs ∧ Below w.heap.size w w' := by
 obtain ⟨A, c, rfl, _, _, _, hx⟩ := hu.open_
 clear hu
 obtain ⟨i0, hi, hz0, hz1, hz2⟩ := info_parts infoInt
 have hmk := run_mk (P := Tryz.prog) Tryz.underlying22 hi hz0 (n := xs.length) (by rw [hz2]; omega) (by omega)
 rw [hz1] at hmk
 clear hi hz0 hz1 hz2
 go_enter Tryz.func15, Tryz.ntmps15
 go_wp2
 go_loopw [4] (fun i wr => ∃ (k : Nat) (cs : Array Value), k ≤ xs.length ∧ i = .int .i64 k ∧ Below w.heap.size w wr ∧ Blk wr w.heap.size 3 cs ∧ IntCs cs xs k) (fun i _ => xs.length - (intOf i).toNat)
 case atStart => exact ⟨0, _, Nat.zero_le _, rfl, (Below.refl _ _).alloc (Nat.le_refl _) _, Blk.new _ _ _, by rw [mkCells_size], fun j x h => absurd h (by omega)⟩
 case round =>
  obtain ⟨k, cs, hk, rfl, hbel, hblk, hcs⟩ := hrel
  by_cases hlt : k < xs.length
  ·obtain ⟨b, o, x, rfl, hb, HX, c1, _⟩ := SlI.at_ hx hlt
   have d1 := bcell hbel hb c1
   have f0 := hblk.frozen
   obtain ⟨v0, e0⟩ : ∃ v0, wr.cell? ⟨w.heap.size, k, none⟩ = some v0 := by rw [hblk.cell]; have := hcs.1; exact ⟨_, Array.getElem?_eq_getElem (by omega)⟩
   clear c1 hx
   go_wp2
   go_roundw
   case rel => exact ⟨k + 1, _, by omega, by go_num, hbel.setCell (by simp) _, hblk.set_ _ _, hcs.step HX.out⟩
   case measure => simp [intOf]; omega
  ·go_wp2
   go_ret
   obtain rfl : k = xs.length := by omega
   exact ⟨_, rfl, OwnI.of_blk hblk (Nat.le_refl _) hcs (by omega) (SlI.i64 hx), hbel⟩
set_option maxHeartbeats 400000 in
theorem eqIntS_any (u v : Value) (xs ys : List Int) (w : World) (hu : SlI w w.heap.size u xs) (hv : SlI w w.heap.size v ys) :
  Calls Tryz.prog 18 #[u, v] w fun e w' => e = .returned (.bool (decide (xs = ys))) ∧ Below w.heap.size w w' := by
 obtain ⟨A, c, rfl, _, _, hn, hx⟩ := hu.open_
 obtain ⟨C, d, rfl, _, _, hm, hy⟩ := hv.open_
 clear hu hv
 by_cases hnm : xs.length = ys.length
 ·have heq : ((xs.length : Int) != ys.length) = false := by rw [bne_eq_false_iff_eq]; omega
  have HN := Lib.hid hnm
  clear hnm
  go_enter Tryz.func18, Tryz.ntmps18
  go_wp2
  go_loopw [5] (fun i wr => ∃ k q : Nat, k ≤ xs.length ∧ i = .int .i64 k ∧ wr = w.drewN q ∧ Hid (xs.take k = ys.take k)) (fun i _ => xs.length - (intOf i).toNat)
  case atStart => exact ⟨0, 0, Nat.zero_le _, rfl, rfl, rfl⟩
  case round =>
   obtain ⟨k, q, hk, rfl, rfl, hxy⟩ := hrel
   by_cases hlt : k < xs.length
   ·have hlt' : k < ys.length := by have := HN.out; omega
    obtain ⟨b, o, x, rfl, hb, HX, c1, _⟩ := SlI.at_ hx hlt
    obtain ⟨b', o', x', rfl, hb', HX', c1', _⟩ := SlI.at_ hy hlt'
    clear hx hy
    by_cases hE : x = x'
    ·subst hE
     go_wp2
     go_quiet (fail)
     go_wp2
     go_roundw
     case rel =>
      refine ⟨k + 1, q + nq, by omega, by go_num, rfl, ?_⟩
      show _ = _
      rw [take_snoc HX.out, take_snoc HX'.out, hxy.out]
     case measure => simp [intOf]; omega
    ·have hne : (x != x') = true := by simpa using hE
     have hxy' : Hid (xs ≠ ys) := by
      rintro rfl
      have h2 := HX.out
      rw [HX'.out] at h2
      exact hE (by injection h2 with h2; exact h2.symm)
     clear hE
     go_wp2
     go_quiet (fail)
     go_wp2
     go_ret
     exact ⟨by rw [decide_eq_false hxy'.out]; rfl, below_drewN (drewN_below _ _ _) _⟩
   ·go_wp2
    go_ret
    refine ⟨?_, drewN_below _ _ _⟩
    have h1 := hxy.out
    rw [List.take_of_length_le (by omega), List.take_of_length_le (by have := HN.out; omega)] at h1
    simp [h1]
 ·have hne : ((xs.length : Int) != ys.length) = true := by rw [bne_iff_ne]; omega
  go_enter Tryz.func18, Tryz.ntmps18
  go_wp2
  go_ret
  refine ⟨?_, Below.refl _ _⟩
  rw [decide_eq_false (by rintro rfl; omega)]; rfl
def mkI (k : Int) (n : Nat) : List Int := (List.range n).map fun i : Nat => k + (i : Int)
theorem mkI_length (k : Int) (n : Nat) : (mkI k n).length = n := by simp [mkI]
theorem mkI_get {k : Int} {n j : Nat} (h : j < n) : (mkI k n)[j]? = some (k + j) := by simp [mkI, h]
theorem mkI_mem {k x : Int} {n : Nat} (h : x ∈ mkI k n) : k ≤ x ∧ x < k + n := by
 simp only [mkI, List.mem_map, List.mem_range] at h
 obtain ⟨i, hi, rfl⟩ := h
 omega
theorem mk_set (k : Int) (l : List Int) (j : Nat) (hj : j < l.length) :
  (((mkI k j).map (Value.int .i64) ++ (l.map (Value.int .i64)).drop j).set j (.int .i64 (k + j))) = (mkI k (j + 1)).map (Value.int .i64) ++ (l.map (Value.int .i64)).drop (j + 1) := by
 apply List.ext_getElem?
 intro i
 rw [List.getElem?_set]
 by_cases e : j = i
 ·subst e
  rw [if_pos rfl, if_pos (by simp [mkI_length]; omega), List.getElem?_append_left (by simp [mkI_length])]
  rw [List.getElem?_map, mkI_get (by omega)]; rfl
 ·rw [if_neg e]
  by_cases hi : i < j
  ·rw [List.getElem?_append_left (by simp [mkI_length, hi]), List.getElem?_append_left (by simp [mkI_length]; omega)]
   rw [List.getElem?_map, List.getElem?_map, mkI_get hi, mkI_get (by omega)]
  ·rw [List.getElem?_append_right (by simp [mkI_length]; omega), List.getElem?_append_right (by simp [mkI_length]; omega)]
   simp only [List.length_map, mkI_length, List.getElem?_drop]
   congr 1
   omega
set_option maxHeartbeats 400000 in
theorem markIntS_any (v : Value) (l : List Int) (k : Int) (base : Nat) (w : World) (hv : OwnI w base v l) (h0 : 0 ≤ k) (h1 : k ≤ 1152921504606846976) :
  Calls Tryz.prog 20 #[v, .int .i64 k] w fun e w' => e = .returned (.int .i64 (k + l.length)) ∧ OwnI w' base v (mkI k l.length) ∧ w.grownBy w' v.ownBlock := by
 obtain ⟨ho, hn, hr⟩ := hv
 have ho' := ho
 rcases ho.2 with ⟨rfl, hl0⟩ | ⟨g, cap, cur, rfl, hbg, hgg, hnc, hcm, _⟩
 ·obtain rfl : l = [] := List.eq_nil_of_length_eq_zero hl0
  go_enter Tryz.func20, Tryz.ntmps20
  go_wp2
  refine wp_loop_rounds 1 ?_
  rw [rounds_succ]
  go_wp2
  go_ret
  refine ⟨by simp, ?_, World.grownBy.refl _ _⟩
  exact OwnI.nil _ _
 ·have hgl : g < w.heap.size := (Array.getElem?_eq_some_iff.1 hgg).1
  clear ho' hgg
  go_enter Tryz.func20, Tryz.ntmps20
  go_wp2
  go_loopw [1, 5] (fun q i wr => ∃ j : Nat, j ≤ l.length ∧ i = .int .i64 j ∧ q = .int .i64 (k + j) ∧ wr.ownsRow base 3 1 (.slice (some ⟨g, 0, none⟩) l.length cap) l.length ((mkI k j).map (Value.int .i64) ++ (l.map (Value.int .i64)).drop j) ∧ w.grownBy wr (some g)) (fun _ i _ => l.length - (intOf i).toNat)
  case atStart => exact ⟨0, Nat.zero_le _, rfl, by simp, by simpa [mkI] using ho, World.grownBy.refl _ _⟩
  case round =>
   obtain ⟨j, hj, rfl, rfl, hown, hgr⟩ := hrel
   by_cases hlt : j < l.length
   ·have c0 := hown.cellAt j (by omega)
    have f0 := hown.frozenAt j
    have hlen : j < ((mkI k j).map (Value.int .i64) ++ (l.map (Value.int .i64)).drop j).length := by simp [mkI_length]; omega
    rw [List.getElem?_eq_getElem hlen] at c0
    obtain ⟨v0, c0'⟩ : ∃ v0, wr.cell? ⟨g, j, none⟩ = some v0 := ⟨_, c0⟩
    have hst := hown.stored j (.int .i64 (k + j))
    rw [mk_set k l j hlt] at hst
    clear c0 hown hlen ho
    go_wp2
    go_roundw
    case rel => exact ⟨j + 1, by omega, by go_num, by congr 1; omega, hst.1, ⟨hst.2.os.trans hgr.os, hst.2.tape.trans hgr.tape, hst.2.output.trans hgr.output, Nat.le_trans hgr.size hst.2.size, fun b hb hne => (hst.2.block b (Nat.lt_of_lt_of_le hb hgr.size) hne).trans (hgr.block b hb hne)⟩⟩
    case measure => simp [intOf]; omega
   ·obtain rfl : j = l.length := by omega
    go_wp2
    go_ret
    refine ⟨rfl, ⟨?_, by rw [mkI_length]; exact hn, fun x hx => ?_⟩, hgr⟩
    ·rw [List.drop_of_length_le (by simp), List.append_nil] at hown
     rw [mkI_length]; exact hown
    ·have := mkI_mem hx
     exact ⟨by omega, by omega⟩
set_option maxHeartbeats 400000 in
theorem heldIntS_any (v : Value) (n : Nat) (k : Int) (B : Nat) (w : World) (hv : SlI w B v (mkI k n)) (h0 : 0 ≤ k) (h1 : k ≤ 1152921504606846976) :
  Calls Tryz.prog 41 #[v, .int .i64 k] w fun e w' => e = .returned (.int .i64 (k + n)) ∧ Below w.heap.size w w' := by
 obtain ⟨A, c, rfl, _, _, hn, hx⟩ := hv.open_
 have HL := Lib.hid (mkI_length k n)
 clear hv
 go_enter Tryz.func41, Tryz.ntmps41
 go_wp2
 go_loopw [1, 5] (fun q i wr => ∃ (j : Nat) (m : Nat), j ≤ (mkI k n).length ∧ i = .int .i64 j ∧ q = .int .i64 (k + j) ∧ wr = w.drewN m) (fun _ i _ => (mkI k n).length - (intOf i).toNat)
 case atStart => exact ⟨0, 0, Nat.zero_le _, rfl, by simp, rfl⟩
 case round =>
  obtain ⟨j, m, hj, rfl, rfl, rfl⟩ := hrel
  by_cases hlt : j < (mkI k n).length
  ·obtain ⟨b, o, x, rfl, hb, HX, c1, _⟩ := SlI.at_ hx hlt
   have hx' : x = k + j := by
    have := HX.out
    rw [mkI_get (by have := HL.out; omega)] at this
    injection this with this
    exact this.symm
   subst hx'
   clear hx
   go_wp2
   go_roundw
   case rel => exact ⟨j + 1, _, by omega, by go_num, by congr 1; omega, rfl⟩
   case measure => simp [intOf]; omega
  ·obtain hjn : j = n := by have := HL.out; omega
   subst hjn
   go_wp2
   go_ret
   exact ⟨rfl, drewN_below _ _ _⟩
end Go.Proofs.YtcmlflppndfdcaaGreat
namespace Go.Proofs.YtcmlflppndfdcaaGreat
open Go.RowKit
section
variable {P : Program} (w : World)
theorem run_append_none (base : Nat) (t ty e : TypeId) (i : TypeInfo) (size : Nat) (ht : P.underlying t = some (.slice e)) (hi : P.info? e = some i)
  (v : Value) (n : Nat) (xs : List Value) (hown : w.ownsRow base e size v n xs) (c : Nat) : (Builtin.append_ #[t, t] ty #[v, .slice none 0 c]).run P w = .ok v w := by
 rcases hown.2 with ⟨rfl, rfl⟩ | ⟨g, cap, cur, rfl, _, _, hnc, _⟩
 ·simp [Builtin.append_, run_underlying ht, sizeOf, typeInfo, hi, Builtin.lenOf, Builtin.firstCells]
 ·simp [Builtin.append_, run_underlying ht, sizeOf, typeInfo, hi, Builtin.lenOf, Builtin.firstCells, hnc, storeCells]
def NewsAt (w : World) (A : Option Addr) (m : Nat) (news : List Value) (size : Nat) : Prop := news.length = m * size ∧ (m = 0 ∨ ∃ b o, A = some ⟨b, o, none⟩ ∧ ∀ j u, news[j]? = some u → w.cell? ⟨b, o + j, none⟩ = some u)
theorem run_append_G (base : Nat) (t ty e : TypeId) (i : TypeInfo) (z : Value) (size bytes : Nat) (ht : P.underlying t = some (.slice e)) (hi : P.info? e = some i) (hz : i.zero = some z)
  (hsize : i.size = size) (hby : i.bytes = bytes) (hzs : z.cells.size = size) (hsz : 0 < size)
  (v : Value) (n : Nat) (xs : List Value) (hown : w.ownsRow base e size v n xs)
  (A : Option Addr) (m c : Nat) (news : List Value) (hnews : NewsAt w A m news size) (h1 : ∀ u ∈ news, u.oneCell' = true)
  (h63 : n + m ≤ maxLen) (hbytes : (n + m) * bytes ≤ 140737488355328) (hbase : base ≤ w.heap.size) :
  ∃ v' w', (Builtin.append_ #[t, t] ty #[v, .slice A m c]).run P w = .ok v' w' ∧ w'.ownsRow base e size v' (n + m) (xs ++ news) ∧ w.grownBy w' v.ownBlock ∧
   (v'.ownBlock = v.ownBlock ∨ v'.ownBlock = some w.heap.size) := by
 obtain ⟨hl, hn⟩ := hnews
 rcases A with _ | ad
 ·have hm : m = 0 := by
   rcases hn with h | ⟨b, o, h, _⟩
   ·exact h
   ·cases h
  subst hm
  obtain rfl : news = [] := List.eq_nil_of_length_eq_zero (by simpa using hl)
  exact ⟨v, w, run_append_none w base t ty e i size ht hi v n xs hown c, by simpa using hown, World.grownBy.refl w _, .inl rfl⟩
 ·have hcells : ∀ j u, news[j]? = some u → w.cell? (ad.add j) = some u := by
   intro j u hu
   rcases hn with h | ⟨b, o, h, hc⟩
   ·subst h
    obtain rfl : news = [] := List.eq_nil_of_length_eq_zero (by simpa using hl)
    simp at hu
   ·injection h with h
    subst h
    have e : (⟨b, o, none⟩ : Addr).add j = ⟨b, o + j, none⟩ := by unfold Addr.add; split <;> simp_all
    rw [e]
    exact hc j u hu
  obtain ⟨v', w', hrun, h2, h3, _, h5⟩ := run_append_own_at (P := P) w base t ty e i z size bytes ht hi hz hsize hby hzs hsz v n xs hown ad m c news hl hcells h1 h63 hbytes hbase
  exact ⟨v', w', hrun, h2, h3, h5⟩
theorem wpList_append_G {ops : Array Oper} {rest : List Oper} {o : Oper} {a : Act} {Q : Exit → Act → World → Prop} (hgd : o.guard = none) (s x : Operand) (t : TypeId)
  (ho : o.op = .call { callee := .builtin .append, args := #[s, x], argTypes := #[t, t] })
  (base : Nat) (e : TypeId) (i : TypeInfo) (z : Value) (size bytes : Nat) (ht : P.underlying t = some (.slice e)) (hi : P.info? e = some i) (hz : i.zero = some z)
  (hsize : i.size = size) (hby : i.bytes = bytes) (hzs : z.cells.size = size) (hsz : 0 < size)
  (v : Value) (n : Nat) (xs : List Value) (hs : a.eval s = v) (hown : w.ownsRow base e size v n xs)
  (A : Option Addr) (m c : Nat) (news : List Value) (hx : a.eval x = .slice A m c) (hnews : NewsAt w A m news size) (h1 : ∀ u ∈ news, u.oneCell' = true)
  (h63 : n + m ≤ maxLen) (hbytes : (n + m) * bytes ≤ 140737488355328) (hbase : base ≤ w.heap.size)
  (h : ∀ v' w', w'.ownsRow base e size v' (n + m) (xs ++ news) → w.grownBy w' v.ownBlock → (v'.ownBlock = v.ownBlock ∨ v'.ownBlock = some w.heap.size) → wpList P ops Q rest (a.put o.dst v') w') : wpList P ops Q (o :: rest) a w := by
 refine wpList_plain hgd fun K hK => ?_
 obtain ⟨v', w', hrun, h2, h3, h4⟩ := run_append_G (P := P) w base t o.type e i z size bytes ht hi hz hsize hby hzs hsz v n xs hown A m c news hnews h1 h63 hbytes hbase
 unfold Oper.wp execOp
 simp only [ho, resolve, invoke, builtin, Sem.run_bind, Sem.run_pure, Result.andThen_ok, List.map_toArray, List.map_cons, List.map_nil, hs, hx, hrun]
 exact hK _ _ (h v' w' h2 h3 h4)
end
theorem NewsAt.of_sl {w : World} {B : Nat} {A : Option Addr} {c : Nat} {l : List Int} (h : SlI w B (.slice A l.length c) l) : NewsAt w A l.length (l.map (Value.int .i64)) 1 := by
 refine ⟨by simp, ?_⟩
 obtain ⟨A', c', e, h1, h2, h3, h4⟩ := h
 injection e with e1 e2 e3; subst e1
 rcases Nat.eq_zero_or_pos l.length with h0 | h0
 ·exact .inl h0
 ·obtain ⟨b, o, rfl, _, hc⟩ := h4 h0
  refine .inr ⟨b, o, rfl, fun j u hu => ?_⟩
  rw [List.getElem?_map, Option.map_eq_some_iff] at hu
  obtain ⟨x, hx, rfl⟩ := hu
  have := (hc j x hx).1
  simpa using this
theorem int_oneCell (l : List Int) : ∀ u ∈ l.map (Value.int .i64), u.oneCell' = true := by
 intro u hu
 obtain ⟨x, _, rfl⟩ := List.mem_map.1 hu
 rfl
theorem wpList_appI {w : World} {ops : Array Oper} {rest : List Oper} {o : Oper} {a : Act} {Q : Exit → Act → World → Prop} (hgd : o.guard = none) (s x : Operand)
  (ho : o.op = .call { callee := .builtin .append, args := #[s, x], argTypes := #[22, 22] })
  (base B : Nat) (v : Value) (l : List Int) (hs : a.eval s = v) (hown : OwnI w base v l) (A : Option Addr) (m c : Nat) (news : List Int) (hx : a.eval x = .slice A m c) (hm : m = news.length) (hr : SlI w B (.slice A news.length c) news)
  (hn : l.length + news.length ≤ 17592186044416) (hbase : base ≤ w.heap.size)
  (h : ∀ v' w', OwnI w' base v' (l ++ news) → w.grownBy w' v.ownBlock → (v'.ownBlock = v.ownBlock ∨ v'.ownBlock = some w.heap.size) → wpList Tryz.prog ops Q rest (a.put o.dst v') w') : wpList Tryz.prog ops Q (o :: rest) a w := by
 subst hm
 obtain ⟨i0, hi, hz0, hz1, hz2⟩ := info_parts infoInt
 refine wpList_append_G w hgd s x _ ho base 3 i0 _ 1 8 Tryz.underlying22 hi hz0 hz1 hz2 rfl (by decide) v l.length _ hs hown.1 A _ c _ hx (NewsAt.of_sl hr) (int_oneCell news) (by simp only [maxLen]; omega) (by omega) hbase fun v' w' h1 h2 h3 => ?_
 refine h v' w' ⟨by simpa using h1, by simpa using hn, fun y hy => ?_⟩ h2 h3
 rcases List.mem_append.1 hy with hy | hy
 ·exact hown.2.2 y hy
 ·exact SlI.i64 hr y hy
theorem SlI.one (w : World) (t : TypeId) (x : Int) (hx : I64 x) : SlI (w.alloc (.cells #[.int .i64 x] t)) (w.alloc (.cells #[.int .i64 x] t)).heap.size (.slice (some ⟨w.heap.size, 0, none⟩) 1 1) [x] := by
 refine ⟨_, 1, rfl, by simp, by omega, by simp, fun _ => ⟨w.heap.size, 0, rfl, by simp, fun j y hj => ?_⟩⟩
 match j, hj with
 | 0, hj =>
  simp at hj
  subst hj
  exact ⟨by simp, hx⟩
 | j + 1, hj => simp at hj
theorem OwnI.form {w : World} {base : Nat} {v : Value} {l : List Int} (h : OwnI w base v l) : ∃ A c, v = .slice A l.length c ∧ l.length ≤ c ∧ c ≤ 9223372036854775807 := by
 rcases h.1.2 with ⟨rfl, h0⟩ | ⟨g, cap, cur, rfl, _, _, hnc, hcm, _⟩
 ·exact ⟨none, 0, by rw [h0], by omega, by omega⟩
 ·exact ⟨_, _, rfl, hnc, by simp only [maxLen] at hcm; omega⟩
theorem OwnI.alloc {w : World} {base : Nat} {v : Value} {l : List Int} (h : OwnI w base v l) (o : Obj) : OwnI (w.alloc o) base v l := ⟨h.1.alloc o, h.2⟩
theorem OwnI.drewN {w : World} {base : Nat} {v : Value} {l : List Int} (h : OwnI w base v l) (n : Nat) : OwnI (w.drewN n) base v l := h
theorem OwnI.kept {w w' : World} {base : Nat} {v : Value} {l : List Int} {row : Option Nat} (h : OwnI w base v l) (hg : w.grownBy w' row) (hne : v.ownBlock = none ∨ v.ownBlock ≠ row) : OwnI w' base v l := ⟨h.1.kept hg hne, h.2⟩
theorem OwnI.blkne {w : World} {base g : Nat} {v : Value} {l : List Int} {t : TypeId} {cs : Array Value} (h : OwnI w base v l) (hb : Blk w g t cs) (ht : 3 ≠ t) : some g ≠ v.ownBlock := by
 rcases h.1.2 with ⟨rfl, _⟩ | ⟨g', cap, cur, rfl, _, hh, _⟩
 ·simp [Value.ownBlock]
 ·intro he
  have : g = g' := by simpa [Value.ownBlock] using he
  subst this
  unfold Blk at hb
  rw [hh] at hb
  injection hb with hb
  injection hb with _ hb
  exact ht hb
theorem OwnI.setCell {w : World} {base : Nat} {v : Value} {l : List Int} (h : OwnI w base v l) {p : Addr} (hp : v.ownBlock ≠ some p.block) (u : Value) : OwnI (w.setCell p u) base v l :=
 h.kept (row := some p.block) ⟨rfl, rfl, rfl, by simp [World.setCell], fun k _ hne => Below.heap_setCell _ _ _ _ (fun e => hne (by rw [e]))⟩ (.inr hp)
theorem OwnI.made {w : World} {base : Nat} (t : TypeId) (ht : t = 3) (hb : base ≤ w.heap.size) : OwnI (w.alloc (.cells #[] t)) base (.slice (some ⟨w.heap.size, 0, none⟩) 0 0) [] := by
 subst ht
 exact ⟨World.ownsRow_made w #[] 0 hb (Nat.zero_le _) (by simp), by simp, by simp⟩
theorem OwnI.lt {w : World} {base : Nat} {v : Value} {l : List Int} (h : OwnI w base v l) : ∀ k, v.ownBlock = some k → base ≤ k ∧ k < w.heap.size := h.1.lt
end Go.Proofs.YtcmlflppndfdcaaGreat
namespace Go.Proofs.YtcmlflppndfdcaaGreat
open Go.RowKit
structure Qv where
 v : Int
 f : List Int
 t : List Int
deriving DecidableEq
def QvR (w : World) (B : Nat) (val : Value) (q : Qv) : Prop := ∃ a b, val = .agg #[.int .i64 q.v, a, b] ∧ SlI w B a q.f ∧ SlI w B b q.t ∧ I64 q.v
def QvO (w : World) (base : Nat) (val : Value) (q : Qv) : Prop := ∃ a b, val = .agg #[.int .i64 q.v, a, b] ∧ OwnI w base a q.f ∧ OwnI w base b q.t ∧ (a.ownBlock = none ∨ a.ownBlock ≠ b.ownBlock) ∧ I64 q.v
theorem QvR.next {w w' : World} {v : Value} {q : Qv} (hb : Below w.heap.size w w') (h : QvR w w.heap.size v q) : QvR w' w'.heap.size v q := by
 obtain ⟨a, b, e, h1, h2, h3⟩ := h
 exact ⟨a, b, e, SlI.next hb h1, SlI.next hb h2, h3⟩
theorem QvR.below {w w' : World} {B : Nat} {v : Value} {q : Qv} (hb : Below B w w') (h : QvR w B v q) : QvR w' B v q := by
 obtain ⟨a, b, e, h1, h2, h3⟩ := h
 exact ⟨a, b, e, SlI.below hb h1, SlI.below hb h2, h3⟩
theorem QvR.more {w : World} {B B' : Nat} {v : Value} {q : Qv} (hB : B ≤ B') (h : QvR w B v q) : QvR w B' v q := by
 obtain ⟨a, b, e, h1, h2, h3⟩ := h
 exact ⟨a, b, e, SlI.more hB h1, SlI.more hB h2, h3⟩
theorem QvO.rd {w : World} {base : Nat} {v : Value} {q : Qv} (h : QvO w base v q) : QvR w w.heap.size v q := by
 obtain ⟨a, b, e, h1, h2, _, h3⟩ := h
 exact ⟨a, b, e, h1.rd, h2.rd, h3⟩
theorem QvO.below {w w' : World} {base : Nat} {v : Value} {q : Qv} (h : QvO w base v q) (hb : Below w.heap.size w w') : QvO w' base v q := by
 obtain ⟨a, b, e, h1, h2, h4, h3⟩ := h
 exact ⟨a, b, e, h1.below hb, h2.below hb, h4, h3⟩
theorem QvO.lower {w : World} {base base' : Nat} {v : Value} {q : Qv} (h : QvO w base v q) (hb : base' ≤ base) : QvO w base' v q := by
 obtain ⟨a, b, e, h1, h2, h4, h3⟩ := h
 exact ⟨a, b, e, h1.lower hb, h2.lower hb, h4, h3⟩
theorem QvR.open_ {w : World} {B : Nat} {v : Value} {q : Qv} (h : QvR w B v q) : ∃ A c C d, v = .agg #[.int .i64 q.v, .slice A q.f.length c, .slice C q.t.length d] ∧ SlI w B (.slice A q.f.length c) q.f ∧ SlI w B (.slice C q.t.length d) q.t ∧ I64 q.v ∧ q.f.length ≤ 17592186044416 ∧ q.t.length ≤ 17592186044416 := by
 obtain ⟨a, b, rfl, h1, h2, h3⟩ := h
 obtain ⟨A, c, rfl, _, _, h4, h1⟩ := h1.open_
 obtain ⟨C, d, rfl, _, _, h5, h2⟩ := h2.open_
 exact ⟨A, c, C, d, rfl, h1, h2, h3, h4, h5⟩
theorem qv_ext (p q : Qv) : (p = q) ↔ (p.v = q.v ∧ p.f = q.f ∧ p.t = q.t) := by
 cases p; cases q; simp
set_option maxHeartbeats 400000 in
theorem eqQuiver_any (u v : Value) (p q : Qv) (w : World) (hu : QvR w w.heap.size u p) (hv : QvR w w.heap.size v q) :
  Calls Tryz.prog 17 #[u, v] w fun e w' => e = .returned (.bool (decide (p = q))) ∧ Below w.heap.size w w' := by
 obtain ⟨A, c, C, d, rfl, hf, ht, _, _, _⟩ := hu.open_
 obtain ⟨A', c', C', d', rfl, hf', ht', _, _, _⟩ := hv.open_
 clear hu hv
 have g0 : Below w.heap.size w ((w.alloc (.cells #[.int .i64 p.v, .slice A p.f.length c, .slice C p.t.length d] 29)).alloc (.cells #[.int .i64 q.v, .slice A' q.f.length c', .slice C' q.t.length d'] 29)) := ((Below.refl _ _).alloc (Nat.le_refl _) _).alloc (by simp) _
 by_cases h1 : p.v = q.v
 ·have e1 : (p.v != q.v) = false := by rw [h1]; simp
  have H1 := Lib.hid h1
  clear h1
  by_cases h2 : p.f = q.f
  ·have e2 : decide (p.f = q.f) = true := by simpa using h2
   have H2 := Lib.hid h2
   clear h2
   obtain ⟨B, hB⟩ : ∃ B, decide (p.t = q.t) = B := ⟨_, rfl⟩
   have HB := Lib.hid hB
   have hfin : decide (p = q) = B := by
    rw [← hB, decide_eq_decide, qv_ext]
    exact ⟨fun h => h.2.2, fun h => ⟨H1.out, H2.out, h⟩⟩
   rw [hfin]
   clear hfin
   go_enter Tryz.func17, Tryz.ntmps17
   go_wp2_with fail
   refine (eqIntS_any _ _ _ _ _ (SlI.next g0 hf) (SlI.next g0 hf')).mono ?_; rintro e w1 ⟨rfl, hb1⟩
   have g1 := bthen g0 hb1
   have bc := (((Blk.new w 29 #[.int .i64 p.v, .slice A p.f.length c, .slice C p.t.length d]).alloc _).call hb1).cell' (i := 2) rfl
   have bd := ((Blk.new (w.alloc _) 29 #[.int .i64 q.v, .slice A' q.f.length c', .slice C' q.t.length d']).call hb1).cell' (i := 2) rfl
   simp only [World.size_alloc] at bd
   go_wp2_with fail
   refine (eqIntS_any _ _ _ _ _ (SlI.next g1 ht) (SlI.next g1 ht')).mono ?_; rintro e w2 ⟨rfl, hb2⟩
   rw [hB]
   clear hB
   go_wp2
   all_goals (go_ret; simp_all; exact bthen g1 hb2)
  ·have e2 : decide (p.f = q.f) = false := by simpa using h2
   have hfin : decide (p = q) = false := by
    simp only [decide_eq_false_iff_not, qv_ext]
    exact fun h => h2 h.2.1
   rw [hfin]
   clear hfin h2
   go_enter Tryz.func17, Tryz.ntmps17
   go_wp2_with fail
   refine (eqIntS_any _ _ _ _ _ (SlI.next g0 hf) (SlI.next g0 hf')).mono ?_; rintro e w1 ⟨rfl, hb1⟩
   go_wp2
   go_ret
   exact ⟨rfl, bthen g0 hb1⟩
 ·have e1 : (p.v != q.v) = true := by simpa using h1
  have hfin : decide (p = q) = false := by
   simp only [decide_eq_false_iff_not, qv_ext]
   exact fun h => h1 h.1
  rw [hfin]
  clear hfin h1
  go_enter Tryz.func17, Tryz.ntmps17
  go_wp2
  go_ret
  exact ⟨rfl, g0⟩
end Go.Proofs.YtcmlflppndfdcaaGreat
namespace Go.Proofs.YtcmlflppndfdcaaGreat
open Go.RowKit
def IntsO (w : World) (lo hi : Nat) (v : Value) (l : List Int) : Prop := OwnI w lo v l ∧ ∀ k, v.ownBlock = some k → k < hi
theorem IntsO.of_own {w : World} {lo : Nat} {v : Value} {l : List Int} (h : OwnI w lo v l) : IntsO w lo w.heap.size v l := ⟨h, fun k hk => (h.lt k hk).2⟩
theorem IntsO.rd {w : World} {lo hi : Nat} {v : Value} {l : List Int} (h : IntsO w lo hi v l) : SlI w w.heap.size v l := h.1.rd
theorem IntsO.chg {w w' : World} {lo hi lo' hi' : Nat} {v : Value} {l : List Int} (h : IntsO w lo hi v l) (hc : Chg lo' hi' w w') (hd : hi ≤ lo' ∨ hi' ≤ lo) : IntsO w' lo hi v l := by
 refine ⟨⟨⟨h.1.1.1, ?_⟩, h.1.2⟩, h.2⟩
 rcases h.1.1.2 with h1 | ⟨g, cap, cur, rfl, hg, hh, rest⟩
 ·exact .inl h1
 ·have := h.2 g (by simp [Value.ownBlock])
  exact .inr ⟨g, cap, cur, rfl, hg, (hc.block g (Array.getElem?_eq_some_iff.1 hh).1 (by omega)).trans hh, rest⟩
theorem IntsO.below {w w' : World} {lo hi : Nat} {v : Value} {l : List Int} (h : IntsO w lo hi v l) (hb : Below w.heap.size w w') : IntsO w' lo hi v l := ⟨h.1.below hb, h.2⟩
theorem chg_of_grown {w w' : World} {lo hi : Nat} {v : Value} {l : List Int} (h : IntsO w lo hi v l) (hg : w.grownBy w' v.ownBlock) : Chg lo hi w w' := by
 refine ⟨hg.os, hg.tape, hg.output, hg.size, fun k hk hne => hg.block k hk (fun e => ?_)⟩
 have h1 := h.2 k e.symm
 have h2 := (h.1.lt k e.symm).1
 omega
theorem SlI.chg {w w' : World} {B lo hi : Nat} {v : Value} {l : List Int} (h : SlI w B v l) (hc : Chg lo hi w w') (hB : B ≤ lo) (hs : B ≤ w.heap.size) : SlI w' B v l := SlI.below (hc.below hB hs) h
def IntsO.mk (k : Int) (l : List Int) : List Int := mkI k l.length
theorem ints_mark (v : Value) (l : List Int) (k : Int) (lo hi : Nat) (w : World) (hv : IntsO w lo hi v l) (h0 : 0 ≤ k) (h1 : k ≤ 1152921504606846976) :
  Calls Tryz.prog 20 #[v, .int .i64 k] w fun e w' => e = .returned (.int .i64 (k + l.length)) ∧ IntsO w' lo hi v (IntsO.mk k l) ∧ Chg lo hi w w' :=
 (markIntS_any v l k lo w hv.1 h0 h1).mono fun _ _ ⟨h2, h3, h4⟩ => ⟨h2, ⟨h3, hv.2⟩, chg_of_grown hv h4⟩
def Fam (w : World) (lo hi : Nat) (L : List (Value × List Int)) : Prop := (∀ p ∈ L, IntsO w lo hi p.1 p.2) ∧ L.Pairwise (fun p q => p.1.ownBlock = none ∨ p.1.ownBlock ≠ q.1.ownBlock)
theorem Fam.chg {w w' : World} {lo hi lo' hi' : Nat} {L : List (Value × List Int)} (h : Fam w lo hi L) (hc : Chg lo' hi' w w') (hd : hi ≤ lo' ∨ hi' ≤ lo) : Fam w' lo hi L := ⟨fun p hp => (h.1 p hp).chg hc hd, h.2⟩
theorem Fam.below {w w' : World} {lo hi : Nat} {L : List (Value × List Int)} (h : Fam w lo hi L) (hb : Below w.heap.size w w') : Fam w' lo hi L := ⟨fun p hp => (h.1 p hp).below hb, h.2⟩
theorem Fam.turn {w w' : World} {lo hi : Nat} {L1 L2 : List (Value × List Int)} {v : Value} {l l' : List Int} (h : Fam w lo hi (L1 ++ (v, l) :: L2)) (ho : OwnI w' lo v l') (hg : w.grownBy w' v.ownBlock) : Fam w' lo hi (L1 ++ (v, l') :: L2) := by
 obtain ⟨h1, h2⟩ := h
 rw [List.pairwise_append, List.pairwise_cons] at h2
 obtain ⟨p1, ⟨p2, p3⟩, p4⟩ := h2
 refine ⟨fun p hp => ?_, ?_⟩
 ·rcases List.mem_append.1 hp with hp | hp
  ·have := h1 p (by simp [hp])
   have hne := p4 p hp (v, l) (by simp)
   exact ⟨this.1.kept hg hne, this.2⟩
  ·rcases List.mem_cons.1 hp with rfl | hp
   ·exact ⟨ho, (h1 (v, l) (by simp)).2⟩
   ·have := h1 p (by simp [hp])
    have hne := p2 p hp
    refine ⟨this.1.kept hg ?_, this.2⟩
    rcases hne with hne | hne
    ·rcases hpb : p.1.ownBlock with _ | b
     ·exact .inl rfl
     ·exact .inr (by rw [show v.ownBlock = none from hne]; simp)
    ·exact .inr (fun e => hne e.symm)
 ·rw [List.pairwise_append, List.pairwise_cons]
  exact ⟨p1, ⟨p2, p3⟩, fun a ha b hb => by
   rcases List.mem_cons.1 hb with rfl | hb
   ·exact p4 a ha (v, l) (by simp)
   ·exact p4 a ha b (by simp [hb])⟩
theorem Fam.app {w w' : World} {lo hi : Nat} {L1 L2 : List (Value × List Int)} {v v' : Value} {l l' : List Int} (h : Fam w lo hi (L1 ++ (v, l) :: L2)) (hh : hi ≤ w'.heap.size) (ho : OwnI w' lo v' l') (hg : w.grownBy w' v.ownBlock) (hv : v'.ownBlock = v.ownBlock ∨ v'.ownBlock = some w.heap.size) :
  Fam w' lo w'.heap.size (L1 ++ (v', l') :: L2) := by
 obtain ⟨h1, h2⟩ := h
 rw [List.pairwise_append, List.pairwise_cons] at h2
 obtain ⟨p1, ⟨p2, p3⟩, p4⟩ := h2
 have new : ∀ p ∈ L1 ++ (v, l) :: L2, p.1.ownBlock ≠ some w.heap.size := fun p hp e => by
  have := ((h1 p hp).1.lt _ e).2
  omega
 refine ⟨fun p hp => ?_, ?_⟩
 ·rcases List.mem_append.1 hp with hp | hp
  ·have := h1 p (by simp [hp])
   exact ⟨this.1.kept hg (p4 p hp (v, l) (by simp)), fun k hk => Nat.lt_of_lt_of_le (this.2 k hk) hh⟩
  ·rcases List.mem_cons.1 hp with rfl | hp
   ·exact IntsO.of_own ho
   ·have := h1 p (by simp [hp])
    have hne := p2 p hp
    refine ⟨this.1.kept hg ?_, fun k hk => Nat.lt_of_lt_of_le (this.2 k hk) hh⟩
    rcases hne with hne | hne
    ·rcases hpb : p.1.ownBlock with _ | b
     ·exact .inl rfl
     ·exact .inr (by rw [show v.ownBlock = none from hne]; simp)
    ·exact .inr (fun e => hne e.symm)
 ·rw [List.pairwise_append, List.pairwise_cons]
  refine ⟨p1, ⟨fun q hq => ?_, p3⟩, fun a ha b hb => ?_⟩
  ·show v'.ownBlock = none ∨ v'.ownBlock ≠ q.1.ownBlock
   rcases hv with e | e <;> rw [e]
   ·exact p2 q hq
   ·exact .inr (fun e => new q (by simp [hq]) e.symm)
  ·rcases List.mem_cons.1 hb with rfl | hb
   ·show a.1.ownBlock = none ∨ a.1.ownBlock ≠ v'.ownBlock
    rcases hv with e | e <;> rw [e]
    ·exact p4 a ha (v, l) (by simp)
    ·exact .inr (new a (by simp [ha]))
   ·exact p4 a ha b (by simp [hb])
theorem Fam.setBlk {w : World} {lo hi g i : Nat} {L : List (Value × List Int)} {t : TypeId} {cs : Array Value} (h : Fam w lo hi L) (hb : Blk w g t cs) (ht : 3 ≠ t) (u : Value) : Fam (w.setCell ⟨g, i, none⟩ u) lo hi L :=
 ⟨fun p hp => ⟨(h.1 p hp).1.setCell (p := ⟨g, i, none⟩) (fun e => (h.1 p hp).1.blkne hb ht e.symm) u, (h.1 p hp).2⟩, h.2⟩
theorem Fam.mono {w : World} {lo hi lo' hi' : Nat} {L : List (Value × List Int)} (h : Fam w lo hi L) (h1 : lo' ≤ lo) (h2 : hi ≤ hi') : Fam w lo' hi' L :=
 ⟨fun p hp => ⟨(h.1 p hp).1.lower h1, fun k hk => Nat.lt_of_lt_of_le ((h.1 p hp).2 k hk) h2⟩, h.2⟩
def QuivO (w : World) (lo hi : Nat) (val : Value) (q : Qv) : Prop := ∃ a b, val = .agg #[.int .i64 q.v, a, b] ∧ Fam w lo hi [(a, q.f), (b, q.t)] ∧ I64 q.v
theorem QvR.form {w : World} {B : Nat} {v : Value} {q : Qv} (h : QvR w B v q) : ∃ A c C d, v = .agg #[.int .i64 q.v, .slice A q.f.length c, .slice C q.t.length d] := by
 obtain ⟨A, c, C, d, e, _⟩ := h.open_
 exact ⟨A, c, C, d, e⟩
theorem QvR.lens {w : World} {B : Nat} {v : Value} {q : Qv} (h : QvR w B v q) : q.f.length ≤ 17592186044416 ∧ q.t.length ≤ 17592186044416 := by
 obtain ⟨A, c, C, d, e, _, _, _, h1, h2⟩ := h.open_
 exact ⟨h1, h2⟩
theorem QuivO.rd {w : World} {lo hi : Nat} {v : Value} {q : Qv} (h : QuivO w lo hi v q) : QvR w w.heap.size v q := by
 obtain ⟨a, b, e, h1, h2⟩ := h
 exact ⟨a, b, e, (h1.1 (a, q.f) (by simp)).rd, (h1.1 (b, q.t) (by simp)).rd, h2⟩
theorem QuivO.form {w : World} {lo hi : Nat} {v : Value} {q : Qv} (h : QuivO w lo hi v q) : ∃ A c C d, v = .agg #[.int .i64 q.v, .slice A q.f.length c, .slice C q.t.length d] := h.rd.form
theorem QuivO.chg {w w' : World} {lo hi lo' hi' : Nat} {v : Value} {q : Qv} (h : QuivO w lo hi v q) (hc : Chg lo' hi' w w') (hd : hi ≤ lo' ∨ hi' ≤ lo) : QuivO w' lo hi v q := by
 obtain ⟨a, b, e, h1, h2⟩ := h
 exact ⟨a, b, e, h1.chg hc hd, h2⟩
theorem QuivO.below {w w' : World} {lo hi : Nat} {v : Value} {q : Qv} (h : QuivO w lo hi v q) (hb : Below w.heap.size w w') : QuivO w' lo hi v q := by
 obtain ⟨a, b, e, h1, h2⟩ := h
 exact ⟨a, b, e, h1.below hb, h2⟩
theorem QvR.chg {w w' : World} {B lo hi : Nat} {v : Value} {q : Qv} (h : QvR w B v q) (hc : Chg lo hi w w') (hB : B ≤ lo) (hs : B ≤ w.heap.size) : QvR w' B v q := QvR.below (hc.below hB hs) h
def QuivO.mk (k : Int) (q : Qv) : Qv := ⟨q.v, mkI k q.f.length, mkI (k + q.f.length) q.t.length⟩
def Qv.size (q : Qv) : Nat := q.f.length + q.t.length
set_option maxHeartbeats 400000 in
theorem quiv_mark (v : Value) (q : Qv) (k : Int) (lo hi : Nat) (w : World) (hv : QuivO w lo hi v q) (hh : hi ≤ w.heap.size) (h0 : 0 ≤ k) (h1 : k ≤ 1125899906842624) :
  Calls Tryz.prog 19 #[v, .int .i64 k] w fun e w' => e = .returned (.int .i64 (k + q.size)) ∧ QuivO w' lo hi v (QuivO.mk k q) ∧ Chg lo hi w w' := by
 obtain ⟨a, b, rfl, hF, hr⟩ := hv
 have fa : OwnI w lo a q.f := (hF.1 (a, q.f) (by simp)).1
 have fb : OwnI w lo b q.t := (hF.1 (b, q.t) (by simp)).1
 obtain ⟨A, c, rfl, _, _⟩ := fa.form
 obtain ⟨C, d, rfl, _, _⟩ := fb.form
 have la := fa.2.1
 have lb := fb.2.1
 have g0 := below_alloc w (.cells #[.int .i64 q.v, .slice A q.f.length c, .slice C q.t.length d] 29)
 have hF0 := hF.below g0
 go_enter Tryz.func19, Tryz.ntmps19
 go_wp2_with fail
 refine (markIntS_any _ _ _ lo _ (hF0.1 (_, q.f) (by simp)).1 h0 (by omega)).mono ?_; rintro e w1 ⟨rfl, ho1, hg1⟩
 have hF1 := hF0.turn (L1 := []) ho1 hg1
 have hc1 := chg_of_grown (hF0.1 (_, q.f) (by simp)) hg1
 have cB := ((Blk.new w 29 #[.int .i64 q.v, .slice A q.f.length c, .slice C q.t.length d]).chg hc1 (.inr hh)).cell' (i := 2) rfl
 clear hF hF0 ho1 hg1 fa fb
 go_wp2_with fail
 refine (markIntS_any _ _ _ lo _ (hF1.1 (_, q.t) (by simp)).1 (by omega) (by omega)).mono ?_; rintro e w2 ⟨rfl, ho2, hg2⟩
 have hF2 := hF1.turn (L1 := [(_, mkI k q.f.length)]) ho2 hg2
 have hc2 := chg_of_grown (hF1.1 (_, q.t) (by simp)) hg2
 go_wp2
 go_ret
 refine ⟨?_, ⟨_, _, ?_, hF2, hr⟩, (Chg.of_below g0).trans (hc1.trans hc2)⟩
 ·have e : k + (q.size : Int) = k + q.f.length + q.t.length := by simp only [Qv.size]; omega
  rw [e]; rfl
 ·simp [QuivO.mk, mkI_length]
set_option maxHeartbeats 400000 in
theorem quiv_held (v : Value) (q : Qv) (k : Int) (w : World) (hv : QvR w w.heap.size v (QuivO.mk k q)) (h0 : 0 ≤ k) (h1 : k ≤ 1125899906842624) :
  Calls Tryz.prog 40 #[v, .int .i64 k] w fun e w' => e = .returned (.int .i64 (k + q.size)) ∧ Below w.heap.size w w' := by
 obtain ⟨A, c, C, d, rfl, hf, ht, _, lf, lt⟩ := hv.open_
 clear hv
 simp only [QuivO.mk] at hf ht lf lt ⊢
 have lf' := lf
 have lt' := lt
 rw [mkI_length] at lf' lt'
 have g0 := below_alloc w (.cells #[.int .i64 q.v, .slice A (mkI k q.f.length).length c, .slice C (mkI (k + q.f.length) q.t.length).length d] 29)
 have n1 : ¬ (k + (q.f.length : Int) < 0) := by omega
 have n2 : ¬ (k + (q.f.length : Int) + q.t.length < 0) := by omega
 go_enter Tryz.func40, Tryz.ntmps40
 go_wp2_with fail
 refine (heldIntS_any _ _ _ _ _ (SlI.next g0 hf) h0 (by omega)).mono ?_; rintro e w1 ⟨rfl, hb1⟩
 have g1 := bthen g0 hb1
 have cB := ((Blk.new w 29 #[.int .i64 q.v, .slice A (mkI k q.f.length).length c, .slice C (mkI (k + q.f.length) q.t.length).length d]).call hb1).cell' (i := 2) rfl
 go_wp2_with fail
 refine (heldIntS_any _ _ _ _ _ (SlI.next g1 ht) (by omega) (by omega)).mono ?_; rintro e w2 ⟨rfl, hb2⟩
 go_wp2
 go_ret
 have e : k + (q.size : Int) = k + q.f.length + q.t.length := by simp only [Qv.size]; omega
 exact ⟨by rw [e]; rfl, bthen g1 hb2⟩
theorem ints_to (u : Value) (xs : List Int) (w : World) (hu : SlI w w.heap.size u xs) (hn : xs.length ≤ 1048576) :
  Calls Tryz.prog 15 #[u] w fun e w' => ∃ v, e = .returned v ∧ IntsO w' w.heap.size w'.heap.size v xs ∧ Below w.heap.size w w' :=
 (toIntS_own u xs w hu hn).mono fun _ _ ⟨v, h1, h2, h3⟩ => ⟨v, h1, IntsO.of_own h2, h3⟩
theorem IntsO.wider {w : World} {lo hi lo' hi' : Nat} {v : Value} {l : List Int} (h : IntsO w lo hi v l) (h1 : lo' ≤ lo) (h2 : hi ≤ hi') : IntsO w lo' hi' v l := ⟨h.1.lower h1, fun k hk => Nat.lt_of_lt_of_le (h.2 k hk) h2⟩
theorem IntsO.set {w : World} {lo hi : Nat} {v : Value} {l : List Int} (h : IntsO w lo hi v l) {p : Addr} (hp : p.block < lo) (u : Value) : IntsO (w.setCell p u) lo hi v l :=
 ⟨h.1.setCell (fun e => by have := (h.1.lt _ e).1; omega) u, h.2⟩
theorem fam_two {w : World} {lo mi hi : Nat} {a b : Value} {l m : List Int} (ha : IntsO w lo mi a l) (hb : IntsO w mi hi b m) (h1 : lo ≤ mi) (h2 : mi ≤ hi) : Fam w lo hi [(a, l), (b, m)] := by
 refine ⟨fun p hp => ?_, ?_⟩
 ·simp only [List.mem_cons, List.not_mem_nil, or_false] at hp
  rcases hp with rfl | rfl
  ·exact ha.wider (Nat.le_refl _) h2
  ·exact hb.wider h1 (Nat.le_refl _)
 ·refine List.pairwise_cons.2 ⟨fun q hq => ?_, List.pairwise_cons.2 ⟨fun q hq => absurd hq (by simp), List.Pairwise.nil⟩⟩
  simp only [List.mem_cons, List.not_mem_nil, or_false] at hq
  subst hq
  show a.ownBlock = none ∨ a.ownBlock ≠ b.ownBlock
  rcases hA : a.ownBlock with _ | x
  ·exact .inl rfl
  ·right
   intro e
   have := ha.2 x hA
   have := (hb.1.lt x e.symm).1
   omega
set_option maxHeartbeats 400000 in
theorem quiv_to (u : Value) (q : Qv) (w : World) (hu : QvR w w.heap.size u q) (hn : q.size ≤ 1048576) :
  Calls Tryz.prog 14 #[u] w fun e w' => ∃ v, e = .returned v ∧ QuivO w' w.heap.size w'.heap.size v q ∧ Below w.heap.size w w' := by
 obtain ⟨A, c, C, d, rfl, hf, ht, hr, _, _⟩ := hu.open_
 clear hu
 unfold Qv.size at hn
 obtain ⟨Wa, hWa⟩ : ∃ W, W = (w.alloc (.cells #[.int .i64 q.v, .slice A q.f.length c, .slice C q.t.length d] 24)).alloc (.cells #[.int .i64 0, .slice none 0 0, .slice none 0 0] 29) := ⟨_, rfl⟩
 obtain ⟨Wb, hWb⟩ : ∃ W, W = Wa.alloc (.cells #[.int .i64 q.v, .slice none 0 0, .slice none 0 0] 29) := ⟨_, rfl⟩
 have za : Wa.heap.size = w.heap.size + 1 + 1 := by rw [hWa]; simp
 have zb : Wb.heap.size = w.heap.size + 1 + 1 + 1 := by rw [hWb]; simp [za]
 have kp : Blk Wb w.heap.size 24 #[.int .i64 q.v, .slice A q.f.length c, .slice C q.t.length d] := by rw [hWb, hWa]; exact ((Blk.new _ _ _).alloc _).alloc _
 have kr : Blk Wb (w.heap.size + 1) 29 #[.int .i64 0, .slice none 0 0, .slice none 0 0] := by
  rw [hWb, hWa]
  have := (Blk.new (w.alloc (.cells #[.int .i64 q.v, .slice A q.f.length c, .slice C q.t.length d] 24)) 29 #[.int .i64 0, .slice none 0 0, .slice none 0 0]).alloc (.cells #[.int .i64 q.v, .slice none 0 0, .slice none 0 0] 29)
  simpa only [World.size_alloc] using this
 have ko : Blk Wb (w.heap.size + 1 + 1) 29 #[.int .i64 q.v, .slice none 0 0, .slice none 0 0] := by
  rw [hWb, ← za]; exact Blk.new _ _ _
 have gb : Below w.heap.size w Wb := by rw [hWb, hWa]; exact (((Below.refl _ _).alloc (Nat.le_refl _) _).alloc (by simp) _).alloc (by simp; omega) _
 have ZA := Lib.hid za
 have ZB := Lib.hid zb
 clear za zb
 go_enter Tryz.func14, Tryz.ntmps14
 go_wp2_with fail
 rw [← hWa, ← hWb]
 clear hWa hWb
 refine (ints_to _ _ _ (SlI.next gb hf) (by omega)).mono ?_; rintro e w1 ⟨a, rfl, ha, hb1⟩
 obtain ⟨A1, c1, rfl, _, _⟩ := ha.1.form
 have kp1 := kp.call hb1
 have ko1 := ko.call hb1
 have kr1 := kr.call hb1
 have p2 := kp1.cell' (i := 2) rfl
 have o1 := ko1.cell' (i := 1) rfl
 have fo := ko1.frozen
 have g1 := bthen gb hb1
 have sz1 := ZB.out
 have s1 := hb1.size
 have gs : Below w.heap.size w (w1.setCell ⟨w.heap.size + 1 + 1, 1, none⟩ (.slice A1 q.f.length c1)) := g1.setCell (by simp; omega) _
 have ha' : IntsO (w1.setCell ⟨w.heap.size + 1 + 1, 1, none⟩ (.slice A1 q.f.length c1)) Wb.heap.size w1.heap.size (.slice A1 q.f.length c1) q.f :=
  ⟨ha.1.setCell (fun e => by have := (ha.1.lt _ e).1; simp at this; omega) _, ha.2⟩
 clear sz1 s1
 go_wp2_with fail
 clear p2 o1 fo
 obtain ⟨Wc, hWc⟩ : ∃ W, W = w1.setCell ⟨w.heap.size + 1 + 1, 1, none⟩ (.slice A1 q.f.length c1) := ⟨_, rfl⟩
 have zc : Wc.heap.size = w1.heap.size := by rw [hWc]; simp
 have kr' : Blk Wc (w.heap.size + 1) 29 #[.int .i64 0, .slice none 0 0, .slice none 0 0] := by rw [hWc]; exact kr1.far (by simp) _
 have ko' : Blk Wc (w.heap.size + 1 + 1) 29 #[.int .i64 q.v, .slice A1 q.f.length c1, .slice none 0 0] := by rw [hWc]; exact ko1.set_ 1 _
 rw [← hWc] at gs ha' ⊢
 clear hWc kr1 ko1 kp1 kp kr ko
 refine (ints_to _ _ _ (SlI.next gs ht) (by omega)).mono ?_; rintro e w2 ⟨b, rfl, hb, hb2⟩
 obtain ⟨C1, d1, rfl, _, _⟩ := hb.1.form
 have ko2 := ko'.call hb2
 have kr2 := kr'.call hb2
 have o0 := ko2.cell' (i := 0) rfl
 have o1 := ko2.cell' (i := 1) rfl
 have o2 := ko2.cell' (i := 2) rfl
 have fo := ko2.frozen
 have r0 := kr2.cell' (i := 0) rfl
 have r1 := kr2.cell' (i := 1) rfl
 have r2 := kr2.cell' (i := 2) rfl
 have fr := kr2.frozen
 have ZC := Lib.hid zc
 clear zc
 go_wp2
 have zb := ZB.out
 have zc := ZC.out
 have s1 := hb1.size
 have s2 := hb2.size
 have g2 := bthen gs hb2
 refine bodyPost_ret (v := .agg #[.int .i64 q.v, .slice A1 q.f.length c1, .slice C1 q.t.length d1]) (by simp [results, go_sem, r0, r1, r2]) rfl ⟨_, rfl, ⟨_, _, rfl, fam_two (mi := Wc.heap.size) ?_ ?_ (by omega) (by simp; omega), hr⟩, (((g2.setCell (by simp; omega) _).setCell (by simp) _).setCell (by simp) _).setCell (by simp) _⟩
 ·have h3 : IntsO w2 Wb.heap.size w1.heap.size (.slice A1 q.f.length c1) q.f := ha'.below hb2
  exact ((((h3.set (by simp; omega) _).set (by simp; omega) _).set (by simp; omega) _).set (by simp; omega) _).wider (by omega) (by omega)
 ·exact ((((hb.set (by simp; omega) _).set (by simp; omega) _).set (by simp; omega) _).set (by simp; omega) _).wider (by omega) (by simp)
theorem szQuiver_any (u : Value) (q : Qv) (left : Int) (w : World) (hu : QvR w w.heap.size u q) (h0 : 0 ≤ left) (h1 : left ≤ 1048576) :
  Calls Tryz.prog 12 #[u, .int .i64 left] w fun e w' => e = .returned (.int .i64 (szLeft left q.size)) ∧ Below w.heap.size w w' := by
 obtain ⟨A, c, C, d, rfl, hf, ht, hr, lf, lt⟩ := hu.open_
 clear hu hr
 have cB := (Blk.new w 24 #[.int .i64 q.v, .slice A q.f.length c, .slice C q.t.length d]).cell' (i := 2) rfl
 have g0 := below_alloc w (.cells #[.int .i64 q.v, .slice A q.f.length c, .slice C q.t.length d] 24)
 by_cases h2 : left < q.f.length
 ·have s1 : szLeft left q.f.length = -1 := by rw [szLeft, if_pos h2]
  have e : szLeft left q.size = -1 := by rw [szLeft, if_pos (by simp only [Qv.size]; omega)]
  rw [e]
  clear e
  go_enter Tryz.func12, Tryz.ntmps12
  go_wp2_with fail
  refine (szIntS_any _ _ _ _ _ lf h0 h1).mono ?_; rintro e w' ⟨rfl, rfl⟩
  go_wp2
  go_ret
  exact ⟨rfl, g0⟩
 ·have s1 : szLeft left q.f.length = left - q.f.length := by rw [szLeft, if_neg h2]
  have n1 : ¬ left - (q.f.length : Int) < 0 := by omega
  by_cases h3 : left - q.f.length < q.t.length
  ·have s2 : szLeft (left - q.f.length) q.t.length = -1 := by rw [szLeft, if_pos h3]
   have e : szLeft left q.size = -1 := by rw [szLeft, if_pos (by simp only [Qv.size]; omega)]
   rw [e]
   clear e
   go_enter Tryz.func12, Tryz.ntmps12
   go_wp2_with fail
   refine (szIntS_any _ _ _ _ _ lf h0 h1).mono ?_; rintro e w' ⟨rfl, rfl⟩
   go_wp2_with fail
   refine (szIntS_any _ _ _ _ _ lt (by omega) (by omega)).mono ?_; rintro e w' ⟨rfl, rfl⟩
   go_wp2
   go_ret
   exact ⟨rfl, g0⟩
  ·have s2 : szLeft (left - q.f.length) q.t.length = left - q.f.length - q.t.length := by rw [szLeft, if_neg h3]
   have n2 : ¬ left - (q.f.length : Int) - q.t.length < 0 := by omega
   have e : szLeft left q.size = left - q.f.length - q.t.length := by rw [szLeft, if_neg (by simp only [Qv.size]; omega)]; simp only [Qv.size]; omega
   rw [e]
   clear e
   go_enter Tryz.func12, Tryz.ntmps12
   go_wp2_with fail
   refine (szIntS_any _ _ _ _ _ lf h0 h1).mono ?_; rintro e w' ⟨rfl, rfl⟩
   go_wp2_with fail
   refine (szIntS_any _ _ _ _ _ lt (by omega) (by omega)).mono ?_; rintro e w' ⟨rfl, rfl⟩
   go_wp2
   go_ret
   exact ⟨rfl, g0⟩
end Go.Proofs.YtcmlflppndfdcaaGreat
namespace Go.Proofs.YtcmlflppndfdcaaGreat
open Go.RowKit
theorem OwnI.put {w : World} {base g n cap j : Nat} {l : List Int} {x : Int} (h : OwnI w base (.slice (some ⟨g, 0, none⟩) n cap) l) (hx : I64 x) : OwnI (w.setCell ⟨g, j, none⟩ (.int .i64 x)) base (.slice (some ⟨g, 0, none⟩) n cap) (l.set j x) ∧ w.grownBy (w.setCell ⟨g, j, none⟩ (.int .i64 x)) (some g) := by
 obtain ⟨h1, h2, h3⟩ := h
 have hn : n = l.length := by
  rcases h1.2 with ⟨e, _⟩ | ⟨g', cap', cur, e, _⟩
  ·cases e
  ·injection e with _ e _
 subst hn
 have hst := h1.stored j (.int .i64 x)
 refine ⟨⟨?_, by simpa using h2, fun y hy => ?_⟩, hst.2⟩
 ·rw [List.map_set, List.length_set]
  exact hst.1
 ·rcases List.mem_or_eq_of_mem_set hy with hy | rfl
  ·exact h3 y hy
  ·exact hx
theorem OwnI.cellG {w : World} {base g n cap j : Nat} {l : List Int} (h : OwnI w base (.slice (some ⟨g, 0, none⟩) n cap) l) (hj : j < l.length) : w.cell? ⟨g, j, none⟩ = some (.int .i64 (l.getD j 0)) ∧ I64 (l.getD j 0) := by
 obtain ⟨h1, h2, h3⟩ := h
 have hn : n = l.length := by
  rcases h1.2 with ⟨e, _⟩ | ⟨g', cap', cur, e, _⟩
  ·cases e
  ·injection e with _ e _
 subst hn
 have hc := h1.cellAt j (by omega)
 have e : l.getD j 0 = l[j] := by rw [List.getD_eq_getElem?_getD, List.getElem?_eq_getElem hj]; rfl
 rw [e]
 exact ⟨by rw [hc]; simp [hj], h3 _ (List.getElem_mem hj)⟩
theorem OwnI.frozenG {w : World} {base g n cap : Nat} {l : List Int} (h : OwnI w base (.slice (some ⟨g, 0, none⟩) n cap) l) (j : Nat) : w.frozen? ⟨g, j, none⟩ = false := by
 obtain ⟨h1, h2, h3⟩ := h
 have hn : n = l.length := by
  rcases h1.2 with ⟨e, _⟩ | ⟨g', cap', cur, e, _⟩
  ·cases e
  ·injection e with _ e _
 subst hn
 exact h1.frozenAt j
theorem OwnI.made0 {w : World} {base N : Nat} (hb : base ≤ w.heap.size) (hN : N ≤ 17592186044416) : OwnI (w.alloc (.cells (mkCells (.int .i64 0) N) 3)) base (.slice (some ⟨w.heap.size, 0, none⟩) N N) (List.replicate N 0) := by
 have e : (mkCells (.int .i64 0) N).toList.take (N * 1) = (List.replicate N (0 : Int)).map (Value.int .i64) := by
  have : (mkCells (.int .i64 0) N).toList = List.replicate N (.int .i64 0) := toList_madeCells_one _ _
  rw [this, Nat.mul_one, List.take_of_length_le (by simp), List.map_replicate]
 have h := (Blk.new w 3 (mkCells (.int .i64 0) N)).own (base := base) (n := N) (cap := N) (size := 1) hb (Nat.le_refl _) (by simp only [maxLen]; omega) (by rw [mkCells_size]; omega)
 rw [e] at h
 refine ⟨by simpa using h, by simpa using hN, fun x hx => ?_⟩
 obtain ⟨_, rfl⟩ := List.mem_replicate.1 hx
 exact ⟨by decide, by decide⟩
end Go.Proofs.YtcmlflppndfdcaaGreat
namespace Go.Proofs.YtcmlflppndfdcaaGreat
open Go.RowKit
structure Gh where
 v : Nat → Value
 lo : Nat → Nat
 hi : Nat → Nat
inductive NS where
 | eq (u : Value)
 | rel (R : Gh → World → Prop)
def restr (i : Nat) (D : List Nat) (x : Gh) : Gh := ⟨fun j => if j = i ∨ j ∈ D then x.v j else undef, fun j => if j = i ∨ j ∈ D then x.lo j else 0, fun j => if j = i ∨ j ∈ D then x.hi j else 0⟩
def NS.holds (s : NS) (i : Nat) (D : List Nat) (x : Gh) (w : World) : Prop :=
 match s with
 | .eq u => x.v i = u
 | .rel R => R (restr i D x) w
def NS.stable (s : NS) : Prop :=
 match s with
 | .eq _ => True
 | .rel R => ∀ x w w', R x w → Below w.heap.size w w' → R x w'
theorem NS.holds_stable {s : NS} (h : s.stable) {i : Nat} {D : List Nat} {x : Gh} {w w' : World} (hh : s.holds i D x w) (hb : Below w.heap.size w w') : s.holds i D x w' := by
 cases s with
 | eq f => exact hh
 | rel R => exact h _ _ _ hh hb
theorem NS.holds_congr {s : NS} {i : Nat} {D : List Nat} {x y : Gh} {w : World} (hv : ∀ j, j = i ∨ j ∈ D → x.v j = y.v j ∧ x.lo j = y.lo j ∧ x.hi j = y.hi j) (hh : s.holds i D x w) : s.holds i D y w := by
 have e : restr i D x = restr i D y := by
  unfold restr
  congr 1 <;> funext j <;> split
  ·rename_i h; exact (hv j h).1
  ·rfl
  ·rename_i h; exact (hv j h).2.1
  ·rfl
  ·rename_i h; exact (hv j h).2.2
  ·rfl
 cases s with
 | eq u => exact (hv i (.inl rfl)).1.symm.trans hh
 | rel R =>
  show R _ w
  rw [← e]
  exact hh
def Gh.set (x : Gh) (i : Nat) (u : Value) (a b : Nat) : Gh := ⟨fun j => if j = i then u else x.v j, fun j => if j = i then a else x.lo j, fun j => if j = i then b else x.hi j⟩
section
variable {P : Program}
theorem act_eval_put {a : Act} {dst : Option Tmp} {v : Value} {t : Tmp} : (a.put dst v).eval (.tmp t) = if dst = some t ∧ t < a.tmps.size then v else a.eval (.tmp t) := by
 cases dst with
 | none => simp [Act.put]
 | some d =>
  by_cases e : d = t
  ·subst e
   by_cases hl : d < a.tmps.size
   ·simp [Act.put, Act.eval, Array.getD_eq_getD_getElem?, Array.getElem?_setIfInBounds, hl]
   ·simp [Act.put, Act.eval, Array.getD_eq_getD_getElem?, Array.getElem?_setIfInBounds, hl]
  ·simp [Act.put, Act.eval, Array.getD_eq_getD_getElem?, Array.getElem?_setIfInBounds, e]
theorem act_put_size {a : Act} {dst : Option Tmp} {v : Value} : (a.put dst v).tmps.size = a.tmps.size := by
 cases dst <;> simp [Act.put]
theorem act_put_defers {a : Act} {dst : Option Tmp} {v : Value} : (a.put dst v).defers = a.defers := by
 cases dst <;> rfl
theorem act_put_eq {a b : Act} {dst : Option Tmp} {v u : Value} (h : a.put dst v = a.put dst u) (hs : a.tmps.size = b.tmps.size) : b.put dst v = b.put dst u := by
 cases dst with
 | none => rfl
 | some d =>
  by_cases hl : d < a.tmps.size
  ·have h1 := congrArg (fun x : Act => x.eval (.tmp d)) h
   simp only [act_eval_put, hl, and_self, if_true] at h1
   rw [h1]
  ·have hb : b.tmps.size ≤ d := hs ▸ Nat.le_of_not_lt hl
   simp only [Act.put]
   rw [Array.setIfInBounds_eq_of_size_le hb, Array.setIfInBounds_eq_of_size_le hb]
theorem wp_transfer {o : Oper} {a b : Act} {w : World} {K : Value → World → Prop} {Q1 Q2 : Exit → Act → World → Prop} (he : execOp b.eval o = execOp a.eval o) (hs : a.tmps.size = b.tmps.size)
  (hp : ∀ c a w, ¬ Q1 (.panic c) a w) (hl : ¬ LetsOut Q1) (h : o.wp P a w (fun a' w' => ∃ u, a' = a.put o.dst u ∧ K u w') Q1) : o.wp P b w (fun b' w' => ∃ u, b' = b.put o.dst u ∧ K u w') Q2 := by
 unfold Oper.wp at *
 rw [he]
 generalize (execOp a.eval o).run P w = r at *
 cases r with
 | ok n w' =>
  cases n <;> simp only [Oper.upon] at h ⊢
  case value v =>
   obtain ⟨u, e, k⟩ := h
   exact ⟨u, act_put_eq e hs, k⟩
  case skip =>
   obtain ⟨u, e, k⟩ := h
   exact ⟨u, act_put_eq e hs, k⟩
  case defer d =>
   obtain ⟨u, e, k⟩ := h
   have := congrArg (fun x : Act => x.defers.length) e
   simp [act_put_defers] at this
  case enter f args =>
   refine Calls.mono h fun e w'' he => ?_
   cases e with
   | returned v =>
    obtain ⟨u, e, k⟩ := he
    exact ⟨u, act_put_eq e hs, k⟩
   | panicked c => exact absurd he (hp _ _ _)
   | outgrown => exact absurd he hl
  case row row args =>
   refine Rows.mono h fun v w'' he => ?_
   obtain ⟨u, e, k⟩ := he
   exact ⟨u, act_put_eq e hs, k⟩
 | halt x w' =>
  cases x <;> simp only [Oper.upon] at h ⊢
  case panic u => exact absurd h (hp _ _ _)
def dstAt (ops : Array Oper) (k : Nat) : Option Tmp := (ops[k]?).bind (·.dst)
def actP (ops : Array Oper) (a : Act) (v : Nat → Value) (p : Nat → Bool) : Nat → Act
 | 0 => a
 | k + 1 => if p k then (actP ops a v p k).put (dstAt ops k) (v k) else actP ops a v p k
def netAct (ops : Array Oper) (a : Act) (v : Nat → Value) : Nat → Act
 | 0 => a
 | k + 1 => (netAct ops a v k).put (dstAt ops k) (v k)
theorem netE : (∀ (ops : Array Oper) (a : Act) (v : Nat → Value), netAct ops a v 0 = a) ∧ (∀ (ops : Array Oper) (a : Act) (v : Nat → Value) (k : Nat), netAct ops a v (k + 1) = (netAct ops a v k).put (dstAt ops k) (v k)) ∧ (∀ (ops : Array Oper) (k : Nat), dstAt ops k = (ops[k]?).bind (·.dst)) ∧
  (∀ (l : List Oper) (i : Nat), l.toArray[i]? = l[i]?) ∧ (∀ (x : Oper) (l : List Oper), (x :: l)[0]? = some x) ∧ (∀ (x : Oper) (l : List Oper) (i : Nat), (x :: l)[i + 1]? = l[i]?) ∧ (∀ (x : Oper) (f : Oper → Option Tmp), (some x).bind f = f x) ∧
  (∀ (a : Act) (v : Value), a.put none v = a) ∧ (∀ (a : Act) (d : Tmp) (v : Value), a.put (some d) v = { a with tmps := a.tmps.setIfInBounds d v }) ∧ (∀ (l : List Value) (i : Nat) (x : Value), l.toArray.setIfInBounds i x = (l.set i x).toArray) ∧ (∀ (a b : Value) (l : List Value), (a :: l).set 0 b = b :: l) ∧ (∀ (a b : Value) (l : List Value) (i : Nat), (a :: l).set (i + 1) b = a :: l.set i b) :=
 ⟨fun _ _ _ => rfl, fun _ _ _ _ => rfl, fun _ _ => rfl, fun _ _ => by simp, fun _ _ => rfl, fun _ _ _ => rfl, fun _ _ => rfl, fun _ _ => rfl, fun _ _ _ => rfl, fun _ _ _ => by simp, fun _ _ _ => rfl, fun _ _ _ _ => rfl⟩
section
variable {ops : Array Oper} {a : Act} {v v' : Nat → Value} {p q : Nat → Bool}
theorem actP_size : ∀ k, (actP ops a v p k).tmps.size = a.tmps.size
 | 0 => rfl
 | k + 1 => by
  unfold actP
  split
  ·rw [act_put_size, actP_size k]
  ·exact actP_size k
theorem actP_congr : ∀ k, (∀ j, j < k → p j = q j ∧ (p j = true → v j = v' j)) → actP ops a v p k = actP ops a v' q k
 | 0, _ => rfl
 | k + 1, h => by
  have ih := actP_congr k (fun j hj => h j (by omega))
  have hk := h k (by omega)
  unfold actP
  rw [← hk.1, ih]
  split
  ·rename_i hp; rw [hk.2 hp]
  ·rfl
theorem actP_net : ∀ k, (∀ j, j < k → p j = true) → actP ops a v p k = netAct ops a v k
 | 0, _ => rfl
 | k + 1, h => by
  have ih := actP_net k (fun j hj => h j (by omega))
  unfold actP netAct
  rw [h k (by omega), if_pos rfl, ih]
theorem actP_none : ∀ k i, i ≤ k → (∀ j, i ≤ j → j < k → p j = false) → actP ops a v p k = actP ops a v p i
 | 0, i, hi, _ => by
  have e : i = 0 := by omega
  rw [e]
 | k + 1, i, hi, h => by
  by_cases e : i = k + 1
  ·rw [e]
  ·have ih := actP_none k i (by omega) (fun j h1 h2 => h j h1 (by omega))
   rw [← ih]
   conv => lhs; unfold actP
   rw [h k (by omega) (by omega)]
   rfl
theorem actP_eval (t : Tmp) : ∀ k, (∀ j, j < k → dstAt ops j = some t → p j = q j) → (actP ops a v p k).eval (.tmp t) = (actP ops a v q k).eval (.tmp t)
 | 0, _ => rfl
 | k + 1, h => by
  have ih := actP_eval t k (fun j hj => h j (by omega))
  unfold actP
  by_cases e : dstAt ops k = some t
  ·rw [← h k (by omega) e]
   split
   ·rw [act_eval_put, act_eval_put, actP_size, actP_size, ih]
   ·exact ih
  ·have h1 : ∀ (b : Act) (u : Value), (b.put (dstAt ops k) u).eval (.tmp t) = b.eval (.tmp t) := fun b u => by rw [act_eval_put, if_neg (by intro x; exact e x.1)]
   split <;> split <;> simp only [h1, ih]
theorem actP_evalC (x : Operand) (hx : ∀ t, x ≠ .tmp t) (b c : Act) : b.eval x = c.eval x := by
 cases x with
 | tmp t => exact absurd rfl (hx t)
 | _ => rfl
theorem actP_add {i : Nat} {u : Value} (hv : ∀ j, j ≠ i → p j = true → v' j = v j) (hvi : v' i = u) (hp : p i = false) (hq : ∀ j, q j = (p j || j == i)) (hd : ∀ j d, i < j → p j = true → dstAt ops j = some d → dstAt ops i ≠ some d) :
  ∀ k, i < k → (actP ops a v p k).put (dstAt ops i) u = actP ops a v' q k
 | 0, h => absurd h (by omega)
 | k + 1, h => by
  by_cases e : i = k
  ·subst e
   have h0 : actP ops a v p i = actP ops a v' q i := actP_congr i fun j hj => ⟨by rw [hq]; simp; omega, fun hj' => (hv j (by omega) hj').symm⟩
   conv => lhs; unfold actP
   conv => rhs; unfold actP
   rw [hp, hq, if_neg (by simp), if_pos (by simp), hvi, h0]
  ·have ih := actP_add hv hvi hp hq hd k (by omega)
   conv => lhs; unfold actP
   conv => rhs; unfold actP
   have hqk : q k = p k := by rw [hq]; simp; omega
   rw [hqk, ← ih]
   split
   ·rename_i hpk
    rw [hv k (by omega) hpk]
    rw [Act.put_comm _ (v k) u (fun d hdd => hd k d (by omega) hpk hdd)]
   ·rfl
end
def directOf (o : Oper) : List Nat := (o.after.toList.filter fun e => Region.binds .any e).map (·.on)
def netAt (ops : Array Oper) (D : List (List Nat)) (m i : Nat) (o : Oper) : Bool :=
 o.guard.isNone && (directOf o).all (· < i) && (D.getD i []).all (fun j => decide (j < i) && ((directOf o).contains j || (directOf o).any fun k => (D.getD k []).contains j)) &&
 (List.range ops.size).all (fun k => match dstAt ops k with
  | none => true
  | some d => (!(o.looksAt ops).contains d || (D.getD i []).contains k || (D.getD k []).contains i) && (k == i || dstAt ops i != some d || (D.getD i []).contains k || (D.getD k []).contains i)) &&
 (decide (i < m) || (List.range i).all fun j => (D.getD i []).contains j)
def netFrom (ops : Array Oper) (D : List (List Nat)) (m : Nat) : Nat → List Oper → Bool
 | _, [] => true
 | i, o :: l => netAt ops D m i o && netFrom ops D m (i + 1) l
def netB (ops : Array Oper) (D : List (List Nat)) (m : Nat) : Bool := decide (m ≤ ops.size) && Region.noSelect ops && netFrom ops D m 0 ops.toList
theorem netFrom_spec {ops : Array Oper} {D : List (List Nat)} {m : Nat} : ∀ (l : List Oper) (k : Nat), netFrom ops D m k l = true → ∀ j o, l[j]? = some o → netAt ops D m (k + j) o = true
 | [], _, _, _, _, h => by simp at h
 | x :: l, k, h, 0, o, hj => by
  simp only [netFrom, Bool.and_eq_true] at h
  simp at hj
  subst hj
  exact h.1
 | x :: l, k, h, j + 1, o, hj => by
  simp only [netFrom, Bool.and_eq_true] at h
  have := netFrom_spec l (k + 1) h.2 j o (by simpa using hj)
  rwa [show k + 1 + j = k + (j + 1) by omega] at this
structure NetOk (ops : Array Oper) (D : List (List Nat)) (m i : Nat) (o : Oper) : Prop where
 guard : o.guard = none
 direct : ∀ e ∈ o.after, Region.binds .any e = true → e.on < i
 dlt : ∀ j ∈ D.getD i [], j < i
 danc : ∀ (S : Nat → Prop), (∀ e ∈ o.after, Region.binds .any e = true → S e.on) → (∀ k, S k → ∀ j ∈ D.getD k [], S j) → ∀ j ∈ D.getD i [], S j
 looks : ∀ k d, dstAt ops k = some d → d ∈ o.looksAt ops → k ∈ D.getD i [] ∨ i ∈ D.getD k []
 dsts : ∀ k d, k ≠ i → dstAt ops k = some d → dstAt ops i = some d → k ∈ D.getD i [] ∨ i ∈ D.getD k []
 tail : m ≤ i → ∀ j, j < i → j ∈ D.getD i []
theorem netAt_spec {ops : Array Oper} {D : List (List Nat)} {m i : Nat} {o : Oper} (h : netAt ops D m i o = true) : NetOk ops D m i o := by
 simp only [netAt, Bool.and_eq_true, List.all_eq_true, Bool.or_eq_true, decide_eq_true_eq, List.mem_range] at h
 obtain ⟨⟨⟨⟨h1, h2⟩, h3⟩, h4⟩, h5⟩ := h
 have hdir : ∀ e ∈ o.after, Region.binds .any e = true → e.on ∈ directOf o := fun e he hb => by
  unfold directOf
  rw [List.mem_map]
  exact ⟨e, by rw [List.mem_filter]; exact ⟨by simpa using he, hb⟩, rfl⟩
 have hk : ∀ {k : Nat} {d : Tmp}, dstAt ops k = some d → k < ops.size := fun {k d} hd => by
  rcases Nat.lt_or_ge k ops.size with h | h
  ·exact h
  ·simp [dstAt, Array.getElem?_eq_none h] at hd
 refine ⟨by simpa using h1, fun e he hb => h2 _ (hdir e he hb), fun j hj => (h3 j hj).1, fun S hS hc j hj => ?_, fun k d hd hl => ?_, fun k d hne hd hdi => ?_, fun hm j hj => ?_⟩
 ·have hD : ∀ k ∈ directOf o, S k := fun k hk => by
   unfold directOf at hk
   rw [List.mem_map] at hk
   obtain ⟨e, he, rfl⟩ := hk
   rw [List.mem_filter] at he
   exact hS e (by simpa using he.1) he.2
  rcases (h3 j hj).2 with h | h
  ·exact hD j (by simpa using h)
  ·rw [List.any_eq_true] at h
   obtain ⟨k, hk, hkj⟩ := h
   exact hc k (hD k hk) j (by simpa using hkj)
 ·have := h4 k (hk hd)
  rw [hd] at this
  simp only [Bool.and_eq_true, Bool.or_eq_true, Bool.not_eq_true', List.contains_iff_mem, List.contains_eq_mem, decide_eq_true_eq, decide_eq_false_iff_not] at this
  rcases this.1 with (h | h) | h
  ·exact absurd hl h
  ·exact .inl h
  ·exact .inr h
 ·have := h4 k (hk hd)
  rw [hd] at this
  simp only [Bool.and_eq_true, Bool.or_eq_true, List.contains_eq_mem, decide_eq_true_eq, beq_iff_eq, bne_iff_ne] at this
  rcases this.2 with ((h | h) | h) | h
  ·exact absurd h hne
  ·exact absurd hdi h
  ·exact .inl h
  ·exact .inr h
 ·rcases h5 with h | h
  ·omega
  ·simpa using h j hj
section
variable {ops : Array Oper} {Q : Exit → Act → World → Prop} {sp : List NS} {D : List (List Nat)} {m : Nat} {a0 : Act} {w0 : World}
def known (sp : List NS) (D : List (List Nat)) (x : Gh) (i : Nat) (w : World) : Prop := (sp.getD i (.eq undef)).holds i (D.getD i []) x w
def netDo (P : Program) (ops : Array Oper) (sp : List NS) (D : List (List Nat)) (a0 : Act) (w0 : World) (i : Nat) (o : Oper) : Prop :=
 ∀ (x : Gh) (w : World), Below w0.heap.size w0 w → (∀ j ∈ D.getD i [], known sp D x j w ∧ x.hi j ≤ w.heap.size) → ∀ Q' : Exit → Act → World → Prop,
  (∀ u w', Below w.heap.size w w' → (sp.getD i (.eq undef)).holds i (D.getD i []) (x.set i u w.heap.size w'.heap.size) w' → Q' .normal ((netAct ops a0 x.v i).put o.dst u) w') → wpList P ops Q' [o] (netAct ops a0 x.v i) w
theorem net_tail (hok : ∀ i o, ops[i]? = some o → NetOk ops D m i o) : ∀ (fuel k : Nat) (listed : Array Bool) (a : Act) (w : World), fuel + k = ops.size → m ≤ k → listed.size = ops.size → (∀ j, listed.getD j false = decide (j < k)) →
  wpList P ops Q (ops.toList.drop k) a w → wpAny P .any ops Q fuel listed a w
 | fuel, k, listed, a, w, hf, hm, hls, hl, h => by
  have hld : ∀ j, j < ops.size → listed.getD j true = decide (j < k) := fun j hj => by
   rw [← hl j]
   simp [Array.getD_eq_getD_getElem?, Array.getElem?_eq_getElem (show j < listed.size by omega)]
  have hr : ∀ i ∈ Region.ready .any ops listed, i = k ∧ k < ops.size := fun i hi => by
   obtain ⟨h0, o, ho, hall⟩ := mem_ready.1 hi
   have hin := (Array.getElem?_eq_some_iff.1 ho).1
   rw [hld i hin] at h0
   have hik : k ≤ i := by simpa using h0
   refine ⟨?_, by omega⟩
   have hcl := (hok i o ho).danc (fun j => j < k) (fun e he hb => by have := hall e he hb; rw [hl] at this; simpa using this) (fun j hj x hx => by
    have hjs : j < ops.size := by omega
    have := (hok j _ (Array.getElem?_eq_getElem hjs)).dlt x hx
    omega)
   rcases Nat.lt_or_ge k i with hlt | hge
   ·have := hcl k ((hok i o ho).tail (by omega) k hlt)
    omega
   ·omega
  cases fuel with
  | zero =>
   refine ⟨?_, ?_⟩
   ·apply List.eq_nil_iff_forall_not_mem.2
    intro i hi
    have := hr i hi
    omega
   ·rw [List.drop_of_length_le (by simp; omega)] at h
    exact h
  | succ fuel =>
   have hks : k < ops.size := by omega
   have hke := Array.getElem?_eq_getElem hks
   have hdrop : ops.toList.drop k = ops[k] :: ops.toList.drop (k + 1) := by
    rw [List.drop_eq_getElem_cons (by simpa using hks)]
    simp
   rw [hdrop] at h
   have hready : k ∈ Region.ready .any ops listed := mem_ready.2 ⟨by rw [hld k hks]; simp, _, hke, fun e he hb => by rw [hl]; simpa using (hok k _ hke).direct e he hb⟩
   refine ⟨fun h0 => (by rw [h0] at hready; cases hready), fun i hi => ?_⟩
   obtain ⟨rfl, _⟩ := hr i hi
   unfold wpOp
   simp only [hke]
   have hw : Region.wanted ops[i] (yielded ops a.tmps) = true := by simp [Region.wanted, (hok i _ hke).guard]
   simp only [wpList, hw, if_true] at h ⊢
   have nxt : ∀ a w, wpList P ops Q (ops.toList.drop (i + 1)) a w → wpAny P .any ops Q fuel (listed.setIfInBounds i true) a w := fun a w h =>
    net_tail hok fuel (i + 1) _ a w (by omega) (by omega) (by simpa using hls) (fun j => by
     by_cases e : i = j
     ·subst e
      simp [Array.getD_eq_getD_getElem?, Array.getElem?_setIfInBounds, hls, hks]
     ·rw [getD_set_ne _ e, hl]
      congr 1
      rw [eq_iff_iff]
      omega) h
   rcases h with h | h
   ·exact .inl (Oper.wp_mono nxt h)
   ·exact .inr h
theorem net_any (hB : netB ops D m = true) (hst : ∀ s ∈ sp, s.stable) (hdo : ∀ i o, i < m → ops[i]? = some o → netDo P ops sp D a0 w0 i o)
  (hend : ∀ x w, Below w0.heap.size w0 w → (∀ i, i < m → known sp D x i w) → (∀ i, i < m → w0.heap.size ≤ x.lo i ∧ x.lo i ≤ x.hi i ∧ x.hi i ≤ w.heap.size) → (∀ i j, i < m → j < m → i ≠ j → x.hi i ≤ x.lo j ∨ x.hi j ≤ x.lo i) → wpList P ops Q (ops.toList.drop m) (netAct ops a0 x.v m) w) :
  ∀ (fuel : Nat) (listed : Array Bool) (x : Gh) (w : World), ((List.range ops.size).filter fun j => !listed.getD j false).length = fuel → listed.size = ops.size → (∀ j, m ≤ j → listed.getD j false = false) →
   (∀ i, listed.getD i false = true → ∀ j ∈ D.getD i [], listed.getD j false = true) → Below w0.heap.size w0 w → (∀ i, listed.getD i false = true → known sp D x i w) → (∀ i, listed.getD i false = true → w0.heap.size ≤ x.lo i ∧ x.lo i ≤ x.hi i ∧ x.hi i ≤ w.heap.size) →
   (∀ i j, listed.getD i false = true → listed.getD j false = true → i ≠ j → x.hi i ≤ x.lo j ∨ x.hi j ≤ x.lo i) →
   wpAny P .any ops Q fuel listed (actP ops a0 x.v (fun j => listed.getD j false) ops.size) w := by
 simp only [netB, Bool.and_eq_true, decide_eq_true_eq] at hB
 obtain ⟨⟨hm, hns⟩, hnf⟩ := hB
 have hok : ∀ i o, ops[i]? = some o → NetOk ops D m i o := fun i o ho => netAt_spec (by
  have := netFrom_spec ops.toList 0 hnf i o (by simpa using ho)
  simpa using this)
 have hst' : ∀ i, (sp.getD i (.eq undef)).stable := fun i => by
  rw [List.getD_eq_getElem?_getD]
  rcases h : sp[i]? with _ | s
  ·trivial
  ·exact hst s (List.mem_of_getElem? h)
 intro fuel
 induction fuel with
 | zero =>
  intro listed x w hc hls hlm hcl hb hkn hiv hdj
  have hall : ∀ j, j < ops.size → listed.getD j false = true := fun j hj => by
   rw [List.length_eq_zero_iff, List.filter_eq_nil_iff] at hc
   have := hc j (List.mem_range.2 hj)
   simpa using this
  have hms : m = ops.size := by
   rcases Nat.lt_or_ge m ops.size with h | h
   ·have := hall m h
    rw [hlm m (Nat.le_refl _)] at this
    cases this
   ·omega
  refine net_tail hok 0 ops.size listed _ w (by omega) (by omega) hls (fun j => ?_) ?_
  ·by_cases hj : j < ops.size
   ·rw [hall j hj]; simp [hj]
   ·rw [hlm j (by omega)]; simp [hj]
  ·have := hend x w hb (fun i hi => hkn i (hall i (by omega))) (fun i hi => hiv i (hall i (by omega))) (fun i j hi hj => hdj i j (hall i (by omega)) (hall j (by omega)))
   rw [← actP_net (p := fun j => listed.getD j false) m (fun j hj => hall j (by omega))] at this
   rwa [hms] at this
 | succ fuel ih =>
  intro listed x w hc hls hlm hcl hb hkn hiv hdj
  by_cases hfull : ∀ j, j < m → listed.getD j false = true
  · -- the tail
   have hl : ∀ j, listed.getD j false = decide (j < m) := fun j => by
    by_cases hj : j < m
    ·rw [hfull j hj]; simp [hj]
    ·rw [hlm j (by omega)]; simp [hj]
   have hcnt : fuel + 1 + m = ops.size := by
    rw [← hc]
    have e : (List.range ops.size).filter (fun j => !listed.getD j false) = (List.range' m (ops.size - m)) := by
     have e1 : (List.range ops.size) = List.range m ++ List.range' m (ops.size - m) := by
      have h := List.range'_append_1 (s := 0) (m := m) (n := ops.size - m)
      rw [Nat.zero_add] at h
      rw [List.range_eq_range', List.range_eq_range', h]
      congr 1
      omega
     rw [e1, List.filter_append]
     rw [List.filter_eq_nil_iff.2 (fun j hj => by rw [hl]; simp at hj ⊢; exact hj), List.nil_append]
     rw [List.filter_eq_self.2 (fun j hj => by rw [hl]; simp [List.mem_range'] at hj ⊢; omega)]
    rw [e, List.length_range']
    omega
   refine net_tail hok (fuel + 1) m listed _ w (by omega) (Nat.le_refl _) hls hl ?_
   have := hend x w hb (fun i hi => hkn i (hfull i hi)) (fun i hi => hiv i (hfull i hi)) (fun i j hi hj => hdj i j (hfull i hi) (hfull j hj))
   rw [← actP_net (p := fun j => listed.getD j false) m hfull] at this
   rwa [actP_none (p := fun j => listed.getD j false) ops.size m hm (fun j h1 _ => hlm j h1)]
  · -- one of the net
   have hne : Region.ready .any ops listed ≠ [] := by
    intro h0
    have : ∀ n, ∀ j, j < n → j < m → listed.getD j false = true := by
     intro n
     induction n with
     | zero => intro j hj; omega
     | succ n ihn =>
      intro j hj hjm
      by_cases e : j < n
      ·exact ihn j e hjm
      ·rcases hlj : listed.getD j false with _ | _
       ·exfalso
        have hjs : j < ops.size := by omega
        have hje := Array.getElem?_eq_getElem hjs
        have : j ∈ Region.ready .any ops listed := mem_ready.2 ⟨by
         rw [← hlj]
         simp [Array.getD_eq_getD_getElem?, Array.getElem?_eq_getElem (show j < listed.size by omega)], _, hje, fun e he hb => by
         have := (hok j _ hje).direct e he hb
         exact ihn e.on (by omega) (by omega)⟩
        rw [h0] at this
        cases this
       ·rfl
    exact hfull fun j hj => this (j + 1) j (by omega) hj
   refine ⟨fun h0 => absurd h0 hne, fun i hi => ?_⟩
   obtain ⟨h0, o, ho, hall⟩ := mem_ready.1 hi
   have his := (Array.getElem?_eq_some_iff.1 ho).1
   have hO := hok i o ho
   have hDl : ∀ j ∈ D.getD i [], listed.getD j false = true := hO.danc (fun j => listed.getD j false = true) hall (fun k hk j hj => hcl k hk j hj)
   have him : i < m := by
    rcases Nat.lt_or_ge i m with h | h
    ·exact h
    ·exact absurd (fun j hj => hDl j (hO.tail h j (by omega))) hfull
   have hli : listed.getD i false = false := by
    rw [← h0]
    simp [Array.getD_eq_getD_getElem?, Array.getElem?_eq_getElem (show i < listed.size by omega)]
   have hpre := hdo i o him ho x w hb (fun j hj => ⟨hkn j (hDl j hj), (hiv j (hDl j hj)).2.2⟩) (fun e b w' => e = .normal ∧ ∃ u, b = (netAct ops a0 x.v i).put o.dst u ∧ (Below w.heap.size w w' ∧ (sp.getD i (.eq undef)).holds i (D.getD i []) (x.set i u w.heap.size w'.heap.size) w'))
    (fun u w' h1 h2 => ⟨rfl, u, rfl, h1, h2⟩)
   have hwant : ∀ b : Act, Region.wanted o (yielded ops b.tmps) = true := fun b => by simp [Region.wanted, hO.guard]
   have hnl : ¬ LetsOut (fun (e : Exit) (b : Act) (w' : World) => e = .normal ∧ ∃ u, b = (netAct ops a0 x.v i).put o.dst u ∧ (Below w.heap.size w w' ∧ (sp.getD i (.eq undef)).holds i (D.getD i []) (x.set i u w.heap.size w'.heap.size) w')) := by
    rintro ⟨b, w', h, _⟩
    cases h
   simp only [wpList, hwant, if_true] at hpre
   rcases hpre with hpre | hpre
   case inr => exact absurd hpre.2 hnl
   simp only [true_and] at hpre
   have hexec : execOp (actP ops a0 x.v (fun j => listed.getD j false) ops.size).eval o = execOp (netAct ops a0 x.v i).eval o := by
    refine execOp_congr o (fun cs b => Region.noSelect_spec hns i o cs b ho) fun y hx => ?_
    by_cases hxt : ∃ t, y = .tmp t
    ·obtain ⟨t, rfl⟩ := hxt
     have hlook : t ∈ o.looksAt ops := List.mem_append_left _ (List.mem_filterMap.2 ⟨.tmp t, by simpa using hx, rfl⟩)
     have e1 : netAct ops a0 x.v i = actP ops a0 x.v (fun j => decide (j < i)) ops.size := by
      rw [actP_none (p := fun j => decide (j < i)) ops.size i (by omega) (fun j h1 _ => by simp; omega)]
      exact (actP_net (p := fun j => decide (j < i)) i (fun j hj => by simp [hj])).symm
     rw [e1]
     refine actP_eval t ops.size fun j hj hd => ?_
     rcases hO.looks j t hd hlook with h | h
     ·rw [hDl j h]; have := hO.dlt j h; simp [this]
     ·have hlt := (hok j _ (Array.getElem?_eq_getElem hj)).dlt i h
      have : listed.getD j false = false := by
       rcases hlj : listed.getD j false with _ | _
       ·rfl
       ·have := hcl j hlj i h
        rw [hli] at this
        cases this
      rw [this]; simp; omega
    ·exact actP_evalC y (fun t h => hxt ⟨t, h⟩) _ _
   have hsz : (netAct ops a0 x.v i).tmps.size = (actP ops a0 x.v (fun j => listed.getD j false) ops.size).tmps.size := by
    rw [actP_size, ← actP_net (p := fun _ => true) i (fun _ _ => rfl), actP_size]
   have hT := wp_transfer (Q2 := Q) hexec hsz (fun c b w' h => by cases h.1) hnl hpre
   unfold wpOp
   simp only [ho, hwant, if_true]
   refine .inl (Oper.wp_mono ?_ hT)
   rintro b w' ⟨u, rfl, hbw, hh⟩
   have hdst : o.dst = dstAt ops i := by simp [dstAt, ho]
   have hlq : ∀ j, (listed.setIfInBounds i true).getD j false = (listed.getD j false || j == i) := fun j => by
    by_cases e : i = j
    ·subst e
     simp [Array.getD_eq_getD_getElem?, Array.getElem?_setIfInBounds, hls, his]
    ·rw [getD_set_ne _ e]
     simp [Ne.symm e]
   rw [hdst, actP_add (v' := (x.set i u w.heap.size w'.heap.size).v) (q := fun j => (listed.setIfInBounds i true).getD j false) (fun j hj _ => by simp [Gh.set, hj]) (by simp [Gh.set]) hli hlq (fun j d hij hlj hdj hdi => by
    rcases hO.dsts j d (by omega) hdj hdi with h | h
    ·have := hO.dlt j h; omega
    ·have := hcl j hlj i h
     rw [hli] at this
     cases this) ops.size his]
   refine ih _ _ _ ?_ (by simpa using hls) (fun j hj => by rw [hlq, hlm j hj]; simp; omega) (fun k hk j hj => ?_) (hb.trans (hbw.mono hb.size)) (fun k hk => ?_) (fun k hk => ?_) (fun k j hk hj hkj => ?_)
   · -- the count
    have hmem : i ∈ (List.range ops.size).filter fun j => !listed.getD j false := by
     rw [List.mem_filter]; exact ⟨List.mem_range.2 his, by rw [hli]; rfl⟩
    have e : (List.range ops.size).filter (fun j => !(listed.setIfInBounds i true).getD j false) = ((List.range ops.size).filter fun j => !listed.getD j false).filter (fun j => j != i) := by
     rw [List.filter_filter]
     congr 1
     funext j
     rw [hlq]
     simp [Bool.not_or, Bool.and_comm, bne]
    have hnd : ((List.range ops.size).filter fun j => !listed.getD j false).Nodup := List.nodup_range.filter _
    rw [e]
    have := List.length_erase_of_mem hmem
    rw [hnd.erase_eq_filter, hc] at this
    simpa using this
   ·rw [hlq] at hk ⊢
    simp only [Bool.or_eq_true, beq_iff_eq] at hk ⊢
    rcases hk with hk | rfl
    ·exact .inl (hcl k hk j hj)
    ·exact .inl (hDl j hj)
   ·rw [hlq] at hk
    simp only [Bool.or_eq_true, beq_iff_eq] at hk
    unfold known
    by_cases e : k = i
    ·subst e
     exact hh
    ·rcases hk with hk | hk
     ·refine NS.holds_congr (x := x) (fun j hj => ?_) (NS.holds_stable (hst' k) (hkn k hk) hbw)
      have hji : j ≠ i := by
       rcases hj with rfl | hj
       ·exact e
       ·rintro rfl
        have := hcl k hk j hj
        rw [hli] at this
        cases this
      simp [Gh.set, hji]
     ·exact absurd hk e
   ·rw [hlq] at hk
    simp only [Bool.or_eq_true, beq_iff_eq] at hk
    by_cases e : k = i
    ·subst e
     simp only [Gh.set, if_true]
     exact ⟨hb.size, hbw.size, Nat.le_refl _⟩
    ·have := hiv k (hk.resolve_right e)
     have := hbw.size
     simp only [Gh.set, if_neg e]
     omega
   ·rw [hlq] at hk hj
    simp only [Bool.or_eq_true, beq_iff_eq] at hk hj
    by_cases e : k = i
    ·subst e
     have := hiv j (hj.resolve_right (Ne.symm hkj))
     simp only [Gh.set, if_true, if_neg (Ne.symm hkj)]
     exact .inr (by omega)
    ·by_cases e' : j = i
     ·subst e'
      have := hiv k (hk.resolve_right e)
      simp only [Gh.set, if_true, if_neg e]
      exact .inl (by omega)
     ·simp only [Gh.set, if_neg e, if_neg e']
      exact hdj k j (hk.resolve_right e) (hj.resolve_right e') hkj
theorem repl_getD (n j : Nat) : (Array.replicate n false).getD j false = false := by
 rw [Array.getD_eq_getD_getElem?, Array.getElem?_replicate]
 split <;> rfl
def stableAll : List NS → Prop
 | [] => True
 | s :: l => s.stable ∧ stableAll l
theorem stableAll_spec : ∀ {l : List NS}, stableAll l → ∀ s ∈ l, s.stable
 | [], _, s, hs => by simp at hs
 | a :: l, h, s, hs => by
  rcases List.mem_cons.1 hs with rfl | hs
  ·exact h.1
  ·exact stableAll_spec h.2 s hs
def netAll (P : Program) (ops : Array Oper) (sp : List NS) (D : List (List Nat)) (a0 : Act) (w0 : World) : Nat → List Oper → Prop
 | _, [] => True
 | i, o :: l => netDo P ops sp D a0 w0 i o ∧ netAll P ops sp D a0 w0 (i + 1) l
theorem netAll_spec {ops : Array Oper} {sp : List NS} {D : List (List Nat)} {a0 : Act} {w0 : World} : ∀ (l : List Oper) (k : Nat), netAll P ops sp D a0 w0 k l → ∀ j o, l[j]? = some o → netDo P ops sp D a0 w0 (k + j) o
 | [], _, _, _, _, h => by simp at h
 | x :: l, k, h, 0, o, hj => by
  simp at hj
  subst hj
  exact h.1
 | x :: l, k, h, j + 1, o, hj => by
  have := netAll_spec l (k + 1) h.2 j o (by simpa using hj)
  rwa [show k + 1 + j = k + (j + 1) by omega] at this
def rel (i : Nat) (R : Value → Nat → Nat → World → Prop) : NS := .rel fun x w => R (x.v i) (x.lo i) (x.hi i) w
theorem rel_stable {i : Nat} {R : Value → Nat → Nat → World → Prop} (h : ∀ u lo hi w w', R u lo hi w → Below w.heap.size w w' → R u lo hi w') : (rel i R).stable := fun v w w' hr hb => h _ _ _ _ _ hr hb
theorem wp_region_net {id : Nat} {l : List Oper} {w : World} (hmo : P.follows .mixedOrders = true) (sp : List NS) (D : List (List Nat)) (m : Nat) (hB : netB l.toArray D m = true) (hst : stableAll sp)
  (hdo : netAll P l.toArray sp D a0 w 0 (l.take m))
  (hend : ∀ x w', Below w.heap.size w w' → (∀ i, i < m → known sp D x i w') → (∀ i, i < m → w.heap.size ≤ x.lo i ∧ x.lo i ≤ x.hi i ∧ x.hi i ≤ w'.heap.size) → (∀ i j, i < m → j < m → i ≠ j → x.hi i ≤ x.lo j ∨ x.hi j ≤ x.lo i) → wpList P l.toArray Q (l.drop m) (netAct l.toArray a0 x.v m) w') : (Code.region id l.toArray true).wp P Q a0 w := by
 replace hst := stableAll_spec hst
 have hdo : ∀ i o, i < m → l[i]? = some o → netDo P l.toArray sp D a0 w.drew i o := fun i o hi ho => by
  have := netAll_spec (l.take m) 0 hdo i o (by rw [List.getElem?_take, if_pos hi]; exact ho)
  rw [Nat.zero_add] at this
  exact fun v w1 hb => this v w1 ⟨hb.os, hb.tape, hb.output, hb.size, hb.block⟩
 refine wp_region_any hmo ?_
 have h := net_any (w0 := w.drew) (a0 := a0) (Q := Q) (P := P) (sp := sp) hB hst (fun i o hi ho => hdo i o hi (by simpa using ho)) (fun x w' hb hk hiv hdj => by simpa using hend x w' (show Below w.heap.size w w' from ⟨hb.os, hb.tape, hb.output, hb.size, hb.block⟩) hk hiv hdj)
  l.toArray.size (Array.replicate l.toArray.size false) ⟨fun _ => undef, fun _ => 0, fun _ => 0⟩ w.drew
  (by rw [List.filter_eq_self.2 (fun j _ => by rw [repl_getD]; rfl), List.length_range])
  (by simp) (fun j _ => repl_getD _ _)
  (fun i hi => by rw [repl_getD] at hi; cases hi)
  (Below.refl _ _)
  (fun i hi => by rw [repl_getD] at hi; cases hi)
  (fun i hi => by rw [repl_getD] at hi; cases hi)
  (fun i j hi => by rw [repl_getD] at hi; cases hi)
 have e : actP l.toArray a0 (fun _ => undef) (fun j => (Array.replicate l.toArray.size false).getD j false) l.toArray.size = a0 :=
  actP_none l.toArray.size 0 (by omega) (fun j _ _ => repl_getD _ _)
 rw [e] at h
 exact h
end
end
end Go.Proofs.YtcmlflppndfdcaaGreat
namespace Go.Proofs.YtcmlflppndfdcaaGreat
open Go.RowKit
theorem infoInts : (Tryz.prog.info? 22).map (fun i => (i.zero, i.size, i.bytes)) = some (some (.slice none 0 0), 1, 24) := by kernel_rfl
def OutO (w : World) (lo hi : Nat) (v : Value) (vs : List Value) : Prop := w.ownsRow lo 22 1 v vs.length vs ∧ (∀ k, v.ownBlock = some k → k < hi) ∧ vs.length ≤ 17592186044416
theorem OutO.form {w : World} {lo hi : Nat} {v : Value} {vs : List Value} (h : OutO w lo hi v vs) : ∃ A c, v = .slice A vs.length c ∧ vs.length ≤ c ∧ c ≤ 9223372036854775807 := by
 rcases h.1.2 with ⟨rfl, h0⟩ | ⟨g, cap, cur, rfl, _, _, hnc, hcm, _⟩
 ·exact ⟨none, 0, by rw [h0], by omega, by omega⟩
 ·exact ⟨_, _, rfl, hnc, by simp only [maxLen] at hcm; omega⟩
theorem OutO.chg {w w' : World} {lo hi lo' hi' : Nat} {v : Value} {vs : List Value} (h : OutO w lo hi v vs) (hc : Chg lo' hi' w w') (hd : hi ≤ lo' ∨ hi' ≤ lo) : OutO w' lo hi v vs := by
 refine ⟨⟨h.1.1, ?_⟩, h.2⟩
 rcases h.1.2 with h1 | ⟨g, cap, cur, rfl, hg, hh, rest⟩
 ·exact .inl h1
 ·have := h.2.1 g (by simp [Value.ownBlock])
  exact .inr ⟨g, cap, cur, rfl, hg, (hc.block g (Array.getElem?_eq_some_iff.1 hh).1 (by omega)).trans hh, rest⟩
theorem OutO.below {w w' : World} {lo hi : Nat} {v : Value} {vs : List Value} (h : OutO w lo hi v vs) (hb : Below w.heap.size w w') : OutO w' lo hi v vs :=
 ⟨h.1.kept (row := none) ⟨hb.os, hb.tape, hb.output, hb.size, fun k hk _ => hb.block k hk⟩ (by cases v.ownBlock <;> simp), h.2⟩
theorem OutO.grown {w w' : World} {lo hi base : Nat} {v u : Value} {vs : List Value} {l : List Int} (h : OutO w lo hi v vs) (ho : OwnI w base u l) (hg : w.grownBy w' u.ownBlock) : OutO w' lo hi v vs := by
 refine ⟨h.1.kept hg ?_, h.2⟩
 rcases h.1.2 with ⟨rfl, _⟩ | ⟨g, cap, cur, rfl, _, hh, _⟩
 ·exact .inl rfl
 ·right
  exact fun e => ho.blkne (g := g) (t := 22) (cs := cur) hh (by decide) e
theorem OutO.mono {w : World} {lo hi lo' hi' : Nat} {v : Value} {vs : List Value} (h : OutO w lo hi v vs) (h1 : lo' ≤ lo) (h2 : hi ≤ hi') : OutO w lo' hi' v vs := by
 refine ⟨⟨h.1.1, ?_⟩, fun k hk => Nat.lt_of_lt_of_le (h.2.1 k hk) h2, h.2.2⟩
 rcases h.1.2 with h3 | ⟨g, cap, cur, e, hg, rest⟩
 ·exact .inl h3
 ·exact .inr ⟨g, cap, cur, e, by omega, rest⟩
theorem OutO.set {w : World} {lo hi g : Nat} {v : Value} {vs : List Value} {t : TypeId} {cs : Array Value} (h : OutO w lo hi v vs) (hb : Blk w g t cs) (ht : 22 ≠ t) (i : Nat) (u : Value) : OutO (w.setCell ⟨g, i, none⟩ u) lo hi v vs := by
 refine ⟨h.1.kept (row := some g) ⟨rfl, rfl, rfl, by simp [World.setCell], fun k _ hne => Below.heap_setCell _ _ _ _ (fun e => hne (by rw [e]))⟩ ?_, h.2⟩
 rcases h.1.2 with ⟨rfl, _⟩ | ⟨g', cap, cur, rfl, _, hh, _⟩
 ·exact .inl rfl
 ·right
  intro e
  have : g' = g := by simpa [Value.ownBlock] using e
  subst this
  unfold Blk at hb
  rw [hh] at hb
  injection hb with hb
  injection hb with _ hb
  exact ht hb
def IntssO (w : World) (lo hi : Nat) (v : Value) (ll : List (List Int)) : Prop := ∃ vs, OutO w lo hi v vs ∧ vs.length = ll.length ∧ Fam w lo hi (vs.zip ll)
theorem OutO.rd {w : World} {lo hi : Nat} {v : Value} {vs : List Value} {ll : List (List Int)} (h : OutO w lo hi v vs) (hl : vs.length = ll.length) (hr : ∀ p ∈ vs.zip ll, SlI w w.heap.size p.1 p.2) : SlII w w.heap.size v ll := by
 obtain ⟨h1, h2, h3⟩ := h
 rcases h1.2 with ⟨rfl, h0⟩ | ⟨g, cap, cur, rfl, _, hg, hnc, hcm, hcs, htake⟩
 ·obtain rfl : ll = [] := List.eq_nil_of_length_eq_zero (by omega)
  exact SlG.nil
 ·rw [hl] at hnc h1 h3 ⊢
  refine ⟨_, _, rfl, hnc, by simp only [maxLen] at hcm; omega, h3, fun hp => ⟨g, 0, rfl, (Array.getElem?_eq_some_iff.1 hg).1, fun j x hj => ?_⟩⟩
  have hjl := lt_of_some hj
  have hc := h1.cellAt j (by omega)
  rw [List.getElem?_eq_getElem (by omega)] at hc
  refine ⟨vs[j]'(by omega), by rw [show 0 + j * 1 = j by omega]; exact hc, hr (vs[j]'(by omega), x) ?_⟩
  rw [List.mem_iff_getElem?]
  exact ⟨j, by rw [List.getElem?_zip_eq_some]; exact ⟨List.getElem?_eq_getElem (by omega), hj⟩⟩
theorem IntssO.rd {w : World} {lo hi : Nat} {v : Value} {ll : List (List Int)} (h : IntssO w lo hi v ll) : SlII w w.heap.size v ll := by
 obtain ⟨vs, h1, h2, h3⟩ := h
 exact h1.rd h2 fun p hp => (h3.1 p hp).rd
theorem IntssO.chg {w w' : World} {lo hi lo' hi' : Nat} {v : Value} {ll : List (List Int)} (h : IntssO w lo hi v ll) (hc : Chg lo' hi' w w') (hd : hi ≤ lo' ∨ hi' ≤ lo) : IntssO w' lo hi v ll := by
 obtain ⟨vs, h1, h2, h3⟩ := h
 exact ⟨vs, h1.chg hc hd, h2, h3.chg hc hd⟩
theorem IntssO.below {w w' : World} {lo hi : Nat} {v : Value} {ll : List (List Int)} (h : IntssO w lo hi v ll) (hb : Below w.heap.size w w') : IntssO w' lo hi v ll := by
 obtain ⟨vs, h1, h2, h3⟩ := h
 exact ⟨vs, h1.below hb, h2, h3.below hb⟩
theorem SlII.chg {w w' : World} {B lo hi : Nat} {v : Value} {ll : List (List Int)} (h : SlII w B v ll) (hc : Chg lo hi w w') (hB : B ≤ lo) (hs : B ≤ w.heap.size) : SlII w' B v ll := SlII.below (hc.below hB hs) h
theorem Fam.snoc {w : World} {lo mi hi : Nat} {L : List (Value × List Int)} {v : Value} {l : List Int} (h : Fam w lo mi L) (hv : IntsO w mi hi v l) (h1 : lo ≤ mi) (h2 : mi ≤ hi) : Fam w lo hi (L ++ [(v, l)]) := by
 refine ⟨fun p hp => ?_, ?_⟩
 ·rcases List.mem_append.1 hp with hp | hp
  ·exact (h.1 p hp).wider (Nat.le_refl _) h2
  ·rw [List.mem_singleton] at hp
   subst hp
   exact hv.wider h1 (Nat.le_refl _)
 ·rw [List.pairwise_append]
  refine ⟨h.2, by simp, fun a ha b hb => ?_⟩
  rw [List.mem_singleton] at hb
  subst hb
  show a.1.ownBlock = none ∨ a.1.ownBlock ≠ v.ownBlock
  rcases hA : a.1.ownBlock with _ | x
  ·exact .inl rfl
  ·right
   intro e
   have := (h.1 a ha).2 x hA
   have := (hv.1.lt x e.symm).1
   omega
def tot (ll : List (List Int)) : Nat := (ll.map List.length).sum
def mkSS : Int → List (List Int) → List (List Int)
 | _, [] => []
 | k, l :: r => mkI k l.length :: mkSS (k + l.length) r
def OutCs (cs : Array Value) (n : Nat) (vs : List Value) : Prop := cs.size = n ∧ vs.length ≤ n ∧ ∀ (j : Nat) (v : Value), vs[j]? = some v → cs[j]? = some v
theorem OutCs.step {cs : Array Value} {n : Nat} {vs : List Value} {v : Value} (h : OutCs cs n vs) (hn : vs.length < n) : OutCs (cs.setIfInBounds vs.length v) n (vs ++ [v]) := by
 obtain ⟨h1, h2, h3⟩ := h
 refine ⟨by simpa using h1, by simp; omega, fun j u hu => ?_⟩
 by_cases e : j = vs.length
 ·subst e
  rw [List.getElem?_append_right (Nat.le_refl _)] at hu
  simp at hu
  subst hu
  simp [Array.getElem?_setIfInBounds]; omega
 ·have hj : j < vs.length := by have := lt_of_some hu; simp at this; omega
  rw [List.getElem?_append_left hj] at hu
  rw [Array.getElem?_setIfInBounds, if_neg (by omega)]
  exact h3 j u hu
theorem OutCs.own {w : World} {g lo : Nat} {cs : Array Value} {vs : List Value} (h : OutCs cs vs.length vs) (hb : Blk w g 22 cs) (hlo : lo ≤ g) (hn : vs.length ≤ 17592186044416) : OutO w lo w.heap.size (.slice (some ⟨g, 0, none⟩) vs.length vs.length) vs := by
 have e : cs.toList.take (vs.length * 1) = vs := by
  apply List.ext_getElem?
  intro j
  by_cases hj : j < vs.length
  ·rw [List.getElem?_take, if_pos (by omega), Array.getElem?_toList, List.getElem?_eq_getElem hj]
   exact h.2.2 j _ (List.getElem?_eq_getElem hj)
  ·rw [List.getElem?_take, if_neg (by omega), List.getElem?_eq_none (by omega)]
 have := hb.own (base := lo) (n := vs.length) (cap := vs.length) (size := 1) hlo (Nat.le_refl _) (by simp only [maxLen]; omega) (by rw [h.1]; omega)
 rw [e] at this
 exact ⟨this, fun k hk => by simp [Value.ownBlock] at hk; subst hk; exact hb.lt, hn⟩
def szSS (xs : List (List Int)) : Nat := xs.length + tot xs
theorem zip_split {vs : List Value} {ll : List (List Int)} {j : Nat} {v : Value} {l : List Int} (hv : vs[j]? = some v) (hl : ll[j]? = some l) : vs.zip ll = (vs.take j).zip (ll.take j) ++ (v, l) :: (vs.drop (j + 1)).zip (ll.drop (j + 1)) := by
 have e1 : vs = vs.take j ++ v :: vs.drop (j + 1) := by
  conv => lhs; rw [← List.take_append_drop j vs]
  rw [List.drop_eq_getElem_cons (lt_of_some hv)]
  have : vs[j]'(lt_of_some hv) = v := by rw [List.getElem?_eq_getElem (lt_of_some hv)] at hv; injection hv
  rw [this]
 have e2 : ll = ll.take j ++ l :: ll.drop (j + 1) := by
  conv => lhs; rw [← List.take_append_drop j ll]
  rw [List.drop_eq_getElem_cons (lt_of_some hl)]
  have : ll[j]'(lt_of_some hl) = l := by rw [List.getElem?_eq_getElem (lt_of_some hl)] at hl; injection hl
  rw [this]
 conv => lhs; rw [e1, e2]
 rw [List.zip_append (by simp; have := lt_of_some hv; have := lt_of_some hl; omega)]
 rfl
def mkTo (k : Int) (ll : List (List Int)) (j : Nat) : List (List Int) := mkSS k (ll.take j) ++ ll.drop j
end Go.Proofs.YtcmlflppndfdcaaGreat
namespace Go.Proofs.YtcmlflppndfdcaaGreat
open Go.RowKit
structure Mx where
 r : Int
 c : Int
 a : List Int
deriving DecidableEq
theorem mx_ext (p q : Mx) : (p = q) ↔ (p.r = q.r ∧ p.c = q.c ∧ p.a = q.a) := by
 cases p; cases q; simp
def MxR (w : World) (B : Nat) (val : Value) (m : Mx) : Prop := ∃ s, val = .agg #[.int .i64 m.r, .int .i64 m.c, s] ∧ SlI w B s m.a ∧ I64 m.r ∧ I64 m.c
theorem MxR.next {w w' : World} {v : Value} {m : Mx} (hb : Below w.heap.size w w') (h : MxR w w.heap.size v m) : MxR w' w'.heap.size v m := by
 obtain ⟨s, e, h1, h2⟩ := h
 exact ⟨s, e, SlI.next hb h1, h2⟩
theorem MxR.below {w w' : World} {B : Nat} {v : Value} {m : Mx} (hb : Below B w w') (h : MxR w B v m) : MxR w' B v m := by
 obtain ⟨s, e, h1, h2⟩ := h
 exact ⟨s, e, SlI.below hb h1, h2⟩
theorem MxR.more {w : World} {B B' : Nat} {v : Value} {m : Mx} (hB : B ≤ B') (h : MxR w B v m) : MxR w B' v m := by
 obtain ⟨s, e, h1, h2⟩ := h
 exact ⟨s, e, SlI.more hB h1, h2⟩
theorem MxR.chg {w w' : World} {B lo hi : Nat} {v : Value} {m : Mx} (h : MxR w B v m) (hc : Chg lo hi w w') (hB : B ≤ lo) (hs : B ≤ w.heap.size) : MxR w' B v m := MxR.below (hc.below hB hs) h
theorem MxR.open_ {w : World} {B : Nat} {v : Value} {m : Mx} (h : MxR w B v m) : ∃ A c, v = .agg #[.int .i64 m.r, .int .i64 m.c, .slice A m.a.length c] ∧ SlI w B (.slice A m.a.length c) m.a ∧ I64 m.r ∧ I64 m.c ∧ m.a.length ≤ 17592186044416 := by
 obtain ⟨s, rfl, h1, h2, h3⟩ := h
 obtain ⟨A, c, rfl, _, _, h4, h1⟩ := h1.open_
 exact ⟨A, c, rfl, h1, h2, h3, h4⟩
theorem MxR.form {w : World} {B : Nat} {v : Value} {m : Mx} (h : MxR w B v m) : ∃ A c, v = .agg #[.int .i64 m.r, .int .i64 m.c, .slice A m.a.length c] := by
 obtain ⟨A, c, e, _⟩ := h.open_
 exact ⟨A, c, e⟩
theorem MxR.lens {w : World} {B : Nat} {v : Value} {m : Mx} (h : MxR w B v m) : m.a.length ≤ 17592186044416 := by
 obtain ⟨A, c, e, _, _, _, h1⟩ := h.open_
 exact h1
def RMx (w : World) (B b o : Nat) (m : Mx) : Prop := ∃ s, w.cell? ⟨b, o, none⟩ = some (.int .i64 m.r) ∧ w.cell? ⟨b, o + 1, none⟩ = some (.int .i64 m.c) ∧ w.cell? ⟨b, o + 2, none⟩ = some s ∧ SlI w B s m.a ∧ I64 m.r ∧ I64 m.c
abbrev SlM := SlG 3 RMx
theorem SlM.below {w w' : World} {B : Nat} {v : Value} {l : List Mx} (hb : Below B w w') (h : SlM w B v l) : SlM w' B v l :=
 SlG.mono (fun _ _ _ hlt ⟨s, h0, h1, h2, hs, hx⟩ => ⟨s, bcell hb hlt h0, bcell hb hlt h1, bcell hb hlt h2, SlI.below hb hs, hx⟩) (Nat.le_refl _) h
theorem SlM.more {w : World} {B B' : Nat} {v : Value} {l : List Mx} (hB : B ≤ B') (h : SlM w B v l) : SlM w B' v l :=
 SlG.mono (B := B) (B' := B') (fun _ _ _ _ ⟨s, h0, h1, h2, hs, hx⟩ => ⟨s, h0, h1, h2, SlI.more hB hs, hx⟩) hB h
theorem SlM.next {w w' : World} {v : Value} {l : List Mx} (hb : Below w.heap.size w w') (h : SlM w w.heap.size v l) : SlM w' w'.heap.size v l := SlM.more hb.size (SlM.below hb h)
theorem SlM.chg {w w' : World} {B lo hi : Nat} {v : Value} {l : List Mx} (h : SlM w B v l) (hc : Chg lo hi w w') (hB : B ≤ lo) (hs : B ≤ w.heap.size) : SlM w' B v l := SlM.below (hc.below hB hs) h
theorem SlM.at_ {w : World} {B c : Nat} {A : Option Addr} {xs : List Mx} {k : Nat} (h : SlM w B (.slice A xs.length c) xs) (hk : k < xs.length) :
  ∃ b o m A' c', A = some ⟨b, o, none⟩ ∧ b < B ∧ Hid (xs[k]? = some m) ∧ w.cell? ⟨b, o + k * 3, none⟩ = some (.int .i64 m.r) ∧ w.cell? ⟨b, o + k * 3 + 1, none⟩ = some (.int .i64 m.c) ∧ w.cell? ⟨b, o + k * 3 + 2, none⟩ = some (.slice A' m.a.length c') ∧
   SlI w B (.slice A' m.a.length c') m.a ∧ (-9223372036854775808 ≤ m.r ∧ m.r ≤ 9223372036854775807) ∧ (-9223372036854775808 ≤ m.c ∧ m.c ≤ 9223372036854775807) ∧ m.a.length ≤ 17592186044416 := by
 obtain ⟨A', c', e, h1, h2, h3, h4⟩ := h
 injection e with e1 e2 e3; subst e1
 obtain ⟨b, o, rfl, hb, hc⟩ := h4 (by omega)
 have hx : xs[k]? = some xs[k] := List.getElem?_eq_getElem hk
 obtain ⟨s, c0, c1, c2, hs, hr, hcc⟩ := hc k _ hx
 obtain ⟨A2, c3, rfl, _, _, h5, hs⟩ := hs.open_
 exact ⟨b, o, xs[k], A2, c3, rfl, hb, hx, c0, c1, c2, hs, hr, hcc, h5⟩
def RowO (T : TypeId) (sz : Nat) (w : World) (lo hi : Nat) (v : Value) (n : Nat) (cs : List Value) : Prop := w.ownsRow lo T sz v n cs ∧ (∀ k, v.ownBlock = some k → k < hi) ∧ n ≤ 17592186044416
section
variable {T : TypeId} {sz : Nat} {w w' : World} {lo hi : Nat} {v : Value} {n : Nat} {cs : List Value}
theorem RowO.form (h : RowO T sz w lo hi v n cs) : ∃ A c, v = .slice A n c ∧ n ≤ c ∧ c ≤ 9223372036854775807 := by
 rcases h.1.2 with ⟨rfl, h0⟩ | ⟨g, cap, cur, rfl, _, _, hnc, hcm, _⟩
 ·exact ⟨none, 0, by rw [h0], by omega, by omega⟩
 ·exact ⟨_, _, rfl, hnc, by simp only [maxLen] at hcm; omega⟩
theorem RowO.at_ (h : RowO T sz w lo hi v n cs) (h0 : 0 < n) : ∃ g c cur, v = .slice (some ⟨g, 0, none⟩) n c ∧ lo ≤ g ∧ g < hi ∧ g < w.heap.size ∧ Blk w g T cur := by
 rcases h.1.2 with ⟨rfl, h1⟩ | ⟨g, cap, cur, rfl, hg, hh, _⟩
 ·omega
 ·exact ⟨g, cap, cur, rfl, hg, h.2.1 g rfl, (Array.getElem?_eq_some_iff.1 hh).1, hh⟩
theorem RowO.chg {lo' hi' : Nat} (h : RowO T sz w lo hi v n cs) (hc : Chg lo' hi' w w') (hd : hi ≤ lo' ∨ hi' ≤ lo) : RowO T sz w' lo hi v n cs := by
 refine ⟨⟨h.1.1, ?_⟩, h.2⟩
 rcases h.1.2 with h1 | ⟨g, cap, cur, rfl, hg, hh, rest⟩
 ·exact .inl h1
 ·have := h.2.1 g (by simp [Value.ownBlock])
  exact .inr ⟨g, cap, cur, rfl, hg, (hc.block g (Array.getElem?_eq_some_iff.1 hh).1 (by omega)).trans hh, rest⟩
theorem RowO.below (h : RowO T sz w lo hi v n cs) (hb : Below w.heap.size w w') : RowO T sz w' lo hi v n cs :=
 ⟨h.1.kept (row := none) ⟨hb.os, hb.tape, hb.output, hb.size, fun k hk _ => hb.block k hk⟩ (by cases v.ownBlock <;> simp), h.2⟩
theorem RowO.mono {lo' hi' : Nat} (h : RowO T sz w lo hi v n cs) (h1 : lo' ≤ lo) (h2 : hi ≤ hi') : RowO T sz w lo' hi' v n cs := by
 refine ⟨⟨h.1.1, ?_⟩, fun k hk => Nat.lt_of_lt_of_le (h.2.1 k hk) h2, h.2.2⟩
 rcases h.1.2 with h3 | ⟨g, cap, cur, e, hg, rest⟩
 ·exact .inl h3
 ·exact .inr ⟨g, cap, cur, e, by omega, rest⟩
theorem RowO.set {g : Nat} {t : TypeId} {bs : Array Value} (h : RowO T sz w lo hi v n cs) (hb : Blk w g t bs) (ht : T ≠ t) (i : Nat) (u : Value) : RowO T sz (w.setCell ⟨g, i, none⟩ u) lo hi v n cs := by
 refine ⟨h.1.kept (row := some g) ⟨rfl, rfl, rfl, by simp [World.setCell], fun k _ hne => Below.heap_setCell _ _ _ _ (fun e => hne (by rw [e]))⟩ ?_, h.2⟩
 rcases h.1.2 with ⟨rfl, _⟩ | ⟨g', cap, cur, rfl, _, hh, _⟩
 ·exact .inl rfl
 ·right
  intro e
  have : g' = g := by simpa [Value.ownBlock] using e
  subst this
  unfold Blk at hb
  rw [hh] at hb
  injection hb with hb
  injection hb with _ hb
  exact ht hb
theorem RowO.grown {base : Nat} {u : Value} {l : List Int} (h : RowO T sz w lo hi v n cs) (hT : 3 ≠ T) (ho : OwnI w base u l) (hg : w.grownBy w' u.ownBlock) : RowO T sz w' lo hi v n cs := by
 refine ⟨h.1.kept hg ?_, h.2⟩
 rcases h.1.2 with ⟨rfl, _⟩ | ⟨g, cap, cur, rfl, _, hh, _⟩
 ·exact .inl rfl
 ·right
  exact fun e => ho.blkne (g := g) (t := T) (cs := cur) hh hT e
theorem RowO.stored {g c : Nat} (h : RowO T sz w lo hi (.slice (some ⟨g, 0, none⟩) n c) n cs) (j : Nat) (u : Value) : RowO T sz (w.setCell ⟨g, j, none⟩ u) lo hi (.slice (some ⟨g, 0, none⟩) n c) n (cs.set j u) ∧ Chg lo hi w (w.setCell ⟨g, j, none⟩ u) := by
 have hs := h.1.stored j u
 refine ⟨⟨hs.1, h.2⟩, ⟨hs.2.os, hs.2.tape, hs.2.output, hs.2.size, fun k hk hne => hs.2.block k hk (fun e => ?_)⟩⟩
 have h1 := h.2.1 k (by simp [Value.ownBlock]; injection e with e; exact e.symm)
 have h2 := (h.1.lt k (by simp [Value.ownBlock]; injection e with e; exact e.symm)).1
 omega
end
theorem RowO.nil (T : TypeId) {sz : Nat} (w : World) (lo hi : Nat) : RowO T sz w lo hi (.slice none 0 0) 0 [] := ⟨⟨by simp, .inl ⟨rfl, rfl⟩⟩, by simp [Value.ownBlock], by omega⟩
def mxCs : List Value → List Mx → List Value
 | v :: vs, m :: ms => .int .i64 m.r :: .int .i64 m.c :: v :: mxCs vs ms
 | _, _ => []
theorem mxCs_length : ∀ (vs : List Value) (ms : List Mx), vs.length = ms.length → (mxCs vs ms).length = ms.length * 3
 | [], [], _ => rfl
 | v :: vs, m :: ms, h => by simp only [mxCs, List.length_cons] at h ⊢; rw [mxCs_length vs ms (by omega)]; omega
 | [], m :: ms, h => by simp at h
 | v :: vs, [], h => by simp at h
theorem mxCs_get : ∀ {vs : List Value} {ms : List Mx} {j : Nat} {v : Value} {m : Mx}, vs[j]? = some v → ms[j]? = some m →
  (mxCs vs ms)[j * 3]? = some (.int .i64 m.r) ∧ (mxCs vs ms)[j * 3 + 1]? = some (.int .i64 m.c) ∧ (mxCs vs ms)[j * 3 + 2]? = some v
 | [], _, _, _, _, h, _ => by simp at h
 | _ :: _, [], _, _, _, _, h => by simp at h
 | v :: vs, m :: ms, 0, _, _, h1, h2 => by
  simp at h1 h2
  subst h1 h2
  simp [mxCs]
 | v :: vs, m :: ms, j + 1, _, _, h1, h2 => by
  simp only [List.getElem?_cons_succ] at h1 h2
  obtain ⟨a, b, c⟩ := mxCs_get h1 h2
  simp only [mxCs, show (j + 1) * 3 = j * 3 + 1 + 1 + 1 by omega, show j * 3 + 1 + 1 + 1 + 1 = (j * 3 + 1) + 1 + 1 + 1 by omega, show j * 3 + 1 + 1 + 1 + 2 = (j * 3 + 2) + 1 + 1 + 1 by omega, List.getElem?_cons_succ]
  exact ⟨a, b, c⟩
theorem mxCs_snoc : ∀ (vs : List Value) (ms : List Mx) (v : Value) (m : Mx), vs.length = ms.length → mxCs (vs ++ [v]) (ms ++ [m]) = mxCs vs ms ++ [.int .i64 m.r, .int .i64 m.c, v]
 | [], [], _, _, _ => rfl
 | v :: vs, m :: ms, u, x, h => by simp only [List.cons_append, mxCs]; rw [mxCs_snoc vs ms u x (by simpa using h)]
 | [], m :: ms, _, _, h => by simp at h
 | v :: vs, [], _, _, h => by simp at h
theorem mxCs_set : ∀ {vs : List Value} {ms : List Mx} {j : Nat}, j < ms.length → vs.length = ms.length → ∀ (a b : Int) (l : List Int),
  ((mxCs vs ms).set (j * 3) (.int .i64 a)).set (j * 3 + 1) (.int .i64 b) = mxCs vs (ms.set j ⟨a, b, l⟩)
 | _, [], _, h, _, _, _, _ => by simp at h
 | [], _ :: _, _, _, h, _, _, _ => by simp at h
 | v :: vs, m :: ms, 0, _, _, a, b, l => by simp [mxCs]
 | v :: vs, m :: ms, j + 1, h, h2, a, b, l => by
  have := mxCs_set (vs := vs) (ms := ms) (j := j) (by simpa using h) (by simpa using h2) a b l
  simp only [mxCs, show (j + 1) * 3 = j * 3 + 1 + 1 + 1 by omega, show j * 3 + 1 + 1 + 1 + 1 = (j * 3 + 1) + 1 + 1 + 1 by omega, List.set_cons_succ, this]
abbrev OutM (w : World) (lo hi : Nat) (v : Value) (vs : List Value) (ms : List Mx) : Prop := RowO 50 3 w lo hi v ms.length (mxCs vs ms)
def MatsO (w : World) (lo hi : Nat) (v : Value) (ms : List Mx) : Prop := ∃ vs, OutM w lo hi v vs ms ∧ vs.length = ms.length ∧ Fam w lo hi (vs.zip (ms.map Mx.a)) ∧ ∀ m ∈ ms, I64 m.r ∧ I64 m.c
theorem OutM.rd {w : World} {lo hi : Nat} {v : Value} {vs : List Value} {ms : List Mx} (h : OutM w lo hi v vs ms) (hl : vs.length = ms.length) (hr : ∀ p ∈ vs.zip (ms.map Mx.a), SlI w w.heap.size p.1 p.2) (hi : ∀ m ∈ ms, I64 m.r ∧ I64 m.c) : SlM w w.heap.size v ms := by
 obtain ⟨h1, h2, h3⟩ := h
 rcases h1.2 with ⟨rfl, h0⟩ | ⟨g, cap, cur, rfl, _, hg, hnc, hcm, hcs, htake⟩
 ·obtain rfl : ms = [] := List.eq_nil_of_length_eq_zero (by omega)
  exact SlG.nil
 ·refine ⟨_, _, rfl, hnc, by simp only [maxLen] at hcm; omega, h3, fun hp => ⟨g, 0, rfl, (Array.getElem?_eq_some_iff.1 hg).1, fun j x hj => ?_⟩⟩
  have hjl := lt_of_some hj
  have hv : vs[j]? = some (vs[j]'(by omega)) := List.getElem?_eq_getElem (by omega)
  obtain ⟨a, b, c⟩ := mxCs_get hv hj
  have e := fun i (hi : i < 3) => h1.cellAt (j * 3 + i) (by omega)
  refine ⟨vs[j]'(by omega), ?_, ?_, ?_, hr (vs[j]'(by omega), x.a) ?_, hi x (List.mem_of_getElem? hj)⟩
  ·rw [show 0 + j * 3 = j * 3 + 0 by omega, e 0 (by omega)]; exact a
  ·rw [show 0 + j * 3 + 1 = j * 3 + 1 by omega, e 1 (by omega)]; exact b
  ·rw [show 0 + j * 3 + 2 = j * 3 + 2 by omega, e 2 (by omega)]; exact c
  ·rw [List.mem_iff_getElem?]
   exact ⟨j, by rw [List.getElem?_zip_eq_some]; exact ⟨hv, by simp [hj]⟩⟩
theorem MatsO.rd {w : World} {lo hi : Nat} {v : Value} {ms : List Mx} (h : MatsO w lo hi v ms) : SlM w w.heap.size v ms := by
 obtain ⟨vs, h1, h2, h3, h4⟩ := h
 exact OutM.rd h1 h2 (fun p hp => (h3.1 p hp).rd) h4
theorem MatsO.chg {w w' : World} {lo hi lo' hi' : Nat} {v : Value} {ms : List Mx} (h : MatsO w lo hi v ms) (hc : Chg lo' hi' w w') (hd : hi ≤ lo' ∨ hi' ≤ lo) : MatsO w' lo hi v ms := by
 obtain ⟨vs, h1, h2, h3, h4⟩ := h
 exact ⟨vs, h1.chg hc hd, h2, h3.chg hc hd, h4⟩
theorem MatsO.below {w w' : World} {lo hi : Nat} {v : Value} {ms : List Mx} (h : MatsO w lo hi v ms) (hb : Below w.heap.size w w') : MatsO w' lo hi v ms := by
 obtain ⟨vs, h1, h2, h3, h4⟩ := h
 exact ⟨vs, h1.below hb, h2, h3.below hb, h4⟩
def MxO (w : World) (lo hi : Nat) (val : Value) (m : Mx) : Prop := ∃ s, val = .agg #[.int .i64 m.r, .int .i64 m.c, s] ∧ IntsO w lo hi s m.a ∧ I64 m.r ∧ I64 m.c
theorem MxO.rd {w : World} {lo hi : Nat} {v : Value} {m : Mx} (h : MxO w lo hi v m) : MxR w w.heap.size v m := by
 obtain ⟨s, e, h1, h2⟩ := h
 exact ⟨s, e, h1.rd, h2⟩
theorem MxO.form {w : World} {lo hi : Nat} {v : Value} {m : Mx} (h : MxO w lo hi v m) : ∃ A c, v = .agg #[.int .i64 m.r, .int .i64 m.c, .slice A m.a.length c] := h.rd.form
theorem MxO.chg {w w' : World} {lo hi lo' hi' : Nat} {v : Value} {m : Mx} (h : MxO w lo hi v m) (hc : Chg lo' hi' w w') (hd : hi ≤ lo' ∨ hi' ≤ lo) : MxO w' lo hi v m := by
 obtain ⟨s, e, h1, h2⟩ := h
 exact ⟨s, e, h1.chg hc hd, h2⟩
theorem MxO.below {w w' : World} {lo hi : Nat} {v : Value} {m : Mx} (h : MxO w lo hi v m) (hb : Below w.heap.size w w') : MxO w' lo hi v m := by
 obtain ⟨s, e, h1, h2⟩ := h
 exact ⟨s, e, h1.below hb, h2⟩
theorem MxO.wider {w : World} {lo hi lo' hi' : Nat} {v : Value} {m : Mx} (h : MxO w lo hi v m) (h1 : lo' ≤ lo) (h2 : hi ≤ hi') : MxO w lo' hi' v m := by
 obtain ⟨s, e, h3, h4⟩ := h
 exact ⟨s, e, h3.wider h1 h2, h4⟩
def MxO.mk (k : Int) (m : Mx) : Mx := ⟨m.r, m.c, mkI k m.a.length⟩
def Mx.size (m : Mx) : Nat := m.a.length
set_option maxHeartbeats 400000 in
theorem eqMatrix_any (u v : Value) (p q : Mx) (w : World) (hu : MxR w w.heap.size u p) (hv : MxR w w.heap.size v q) :
  Calls Tryz.prog 87 #[u, v] w fun e w' => e = .returned (.bool (decide (p = q))) ∧ Below w.heap.size w w' := by
 obtain ⟨A, c, rfl, hf, _, _, _⟩ := hu.open_
 obtain ⟨A', c', rfl, hf', _, _, _⟩ := hv.open_
 clear hu hv
 have g0 : Below w.heap.size w ((w.alloc (.cells #[.int .i64 p.r, .int .i64 p.c, .slice A p.a.length c] 50)).alloc (.cells #[.int .i64 q.r, .int .i64 q.c, .slice A' q.a.length c'] 50)) := ((Below.refl _ _).alloc (Nat.le_refl _) _).alloc (by simp) _
 by_cases h1 : p.r = q.r
 ·have e1 : (p.r != q.r) = false := by rw [h1]; simp
  have H1 := Lib.hid h1
  clear h1
  by_cases h2 : p.c = q.c
  ·have e2 : (p.c != q.c) = false := by rw [h2]; simp
   have H2 := Lib.hid h2
   clear h2
   obtain ⟨B, hB⟩ : ∃ B, decide (p.a = q.a) = B := ⟨_, rfl⟩
   have hfin : decide (p = q) = B := by
    rw [← hB, decide_eq_decide, mx_ext]
    exact ⟨fun h => h.2.2, fun h => ⟨H1.out, H2.out, h⟩⟩
   rw [hfin]
   clear hfin
   go_enter Tryz.func87, Tryz.ntmps87
   go_wp2_with fail
   refine (eqIntS_any _ _ _ _ _ (SlI.next g0 hf) (SlI.next g0 hf')).mono ?_; rintro e w1 ⟨rfl, hb1⟩
   rw [hB]
   have g1 := bthen g0 hb1
   clear hB hb1 g0
   go_wp2
   all_goals (go_ret; simp_all)
  ·have e2 : (p.c != q.c) = true := by simpa using h2
   have hfin : decide (p = q) = false := by
    simp only [decide_eq_false_iff_not, mx_ext]
    exact fun h => h2 h.2.1
   rw [hfin]
   clear hfin h2
   go_enter Tryz.func87, Tryz.ntmps87
   go_wp2
   go_ret
   exact ⟨rfl, g0⟩
 ·have e1 : (p.r != q.r) = true := by simpa using h1
  have hfin : decide (p = q) = false := by
   simp only [decide_eq_false_iff_not, mx_ext]
   exact fun h => h1 h.1
  rw [hfin]
  clear hfin h1
  go_enter Tryz.func87, Tryz.ntmps87
  go_wp2
  go_ret
  exact ⟨rfl, g0⟩
end Go.Proofs.YtcmlflppndfdcaaGreat
